/- The reference's Lose. -/
import Derived.Test.YtfimeiicidcoiaaReB
namespace Go.Proofs.Ytfimeiicidcoiaa.Dk
open Go.RowKit Go.Proofs.YtfimeiicidcoiaaW.PrintWords Go.Proofs.YtfimeiicidcoiaaW.PrintLast Go.Proofs.YtfimeiicidcoiaaW.PrintMore
set_option linter.unusedVariables false
set_option linter.unusedSimpArgs false
variable {w w1 : World} {B g : Nat} {F G : Nat → Prop} {R : RM} {vs vh vc : Value}
structure ROk (R : RM) : Prop where
  at_ : ∀ h ∈ R.wait, 0 ≤ h.1 ∧ h.1 < (R.sec.length : Int)
  s64 : ∀ s ∈ R.sec, s.length = 64
  w64 : ∀ h ∈ R.wait, h.2.length = 64
  n1 : R.sec.length ≤ 16384
  n2 : R.wait.length ≤ 10000000
  l0 : -1 ≤ R.left
  l1 : R.left ≤ 9223372036854775807
/-- The i-th waiting write: its two cells, and where its sector goes. -/
theorem wait_elem {gs gh : Nat} {ns cs nh ch : Nat} {L : List (List Int)} {K : List (Int × List Int)} (hs : Kd.R kBy 22 w B F (.slice (some ⟨gs, 0, none⟩) ns cs) L) (h : Kd.R kWa 77 w B F (.slice (some ⟨gh, 0, none⟩) nh ch) K) (i : Nat) (hi : i < nh) :
    ∃ u, w.cell? ⟨gh, i * 2, none⟩ = some (.int .i64 (K.getD i (0, [])).1) ∧ w.cell? ⟨gh, i * 2 + 1, none⟩ = some u ∧ Kd.R (Kd.int .u8) 5 w B (fun k => F k ∧ k ≠ gs) u (K.getD i (0, [])).2 := by
  obtain ⟨c, hl, hM, hx, _⟩ := Kd.R_elem h (0, []) (i : Int) (by omega) (by omega)
  rw [Int.toNat_natCast] at hM hx
  obtain ⟨c0, c1, rfl, h0, u, rfl, hr⟩ := hM
  have h0' : c0 = [.int .i64 (K.getD i (0, [])).1] := h0
  subst h0'
  refine ⟨u, hx 0 _ rfl, hx 1 _ rfl, ?_⟩
  refine Kd.R_mono (Kd.R_bound hr) (fun k hk => ⟨hk.1.1, fun he => ?_⟩)
  obtain ⟨_, _, hlt, q, hq, cells, hc⟩ := hk
  obtain ⟨inner, ho⟩ := Kd.R_own hs
  obtain ⟨cells2, hc2⟩ := own_typed ho gs rfl
  rw [he, hc2] at hc
  injection hc with hc
  injection hc with _ hc _
  simp only [Kd.int, Kd.scalar, List.mem_cons, List.not_mem_nil, or_false] at hq
  rw [hq] at hc
  exact absurd hc (by decide)
def rkeep (l : List Bool) (i : Nat) : Bool := decide (i < 4096) && chB l i
def rloseM (l : List Bool) (R : RM) : RM := if R.down = true then R else { R with sec := putsTo (rkeep l) R.wait R.sec R.wait.length, wait := [], down := true }
/-- The waiting writes' rows are of other types than the sectors' row. -/
theorem wait_kept {gs ns cs : Nat} {v : Value} {L : List (List Int)} {K : List (Int × List Int)} (hs : Kd.R kBy 22 w B F (.slice (some ⟨gs, 0, none⟩) ns cs) L) (h : Kd.R kWa 77 w B F v K) (hg : w.grownBy w1 (Value.slice (some ⟨gs, 0, none⟩) ns cs).ownBlock) : Kd.R kWa 77 w1 B F v K := by
  refine Kd.R_mono (Kd.R_move (Kd.R_bound h) (fun k hk => ?_)) (fun k hk => hk.1)
  obtain ⟨_, _, hlt, q, hq, cells, hc⟩ := hk
  refine hg.block k hlt (fun he => ?_)
  obtain ⟨inner, ho⟩ := Kd.R_own hs
  obtain ⟨cells2, hc2⟩ := own_typed ho k he.symm
  rw [hc] at hc2
  injection hc2 with hc2
  injection hc2 with _ hc2 _
  simp only [kWa, kBy, Kd.pair, Kd.slice, Kd.int, Kd.scalar, List.mem_cons, List.nil_append, List.not_mem_nil, or_false] at hq
  rcases hq with rfl | rfl
  · exact absurd hc2 (by decide)
  · exact absurd hc2 (by decide)
theorem RAt.sec_blk {gs ns cs : Nat} (h : RAt w B g F R (.slice (some ⟨gs, 0, none⟩) ns cs) vh vc) : g ≠ gs := by
  rintro rfl
  obtain ⟨inner, ho⟩ := Kd.R_own h.sec
  obtain ⟨cells2, hc2⟩ := own_typed ho g rfl
  have := h.blk
  rw [hc2] at this
  injection this with this
  injection this with _ this _
  exact absurd this (by decide)
set_option maxHeartbeats 8000000 in
theorem rLose_calls (h : RAt w B g F R vs vh vc) (hok : ROk R) (A : Option Addr) (c : Nat) (l : List Bool) (hC : ∀ W, Upd w W F → Kd.C Kd.bool W A l.length l) :
    Calls Try.prog 43 #[.pointer (some ⟨g, 0, none⟩), .slice A l.length c] w fun e w' => e = .returned (.tuple #[]) ∧ (∃ vh', RAt w' B g F (rloseM l R) vs vh' vc) ∧ Upd w w' F := by
  have H := Aside0.mk h
  have HOK := Aside0.mk hok
  have HC := Aside0.mk hC
  obtain ⟨As, cs, rfl, hsl, _⟩ := Kd.R_reads h.sec
  obtain ⟨Ah, ch, rfl, hhl, _⟩ := Kd.R_reads h.wait
  have h2 := h.c2
  have h1 := h.c1
  clear h hok hC
  cases hd : R.down with
  | true =>
    rw [hd] at h2
    have hq := Lib.hid (show rloseM l R = R by simp [rloseM, hd])
    clear hd
    go_enter Try.func43, Try.ntmps43
    go_wp2
    refine bodyPost_ret (results_none rfl _ _ _) rfl ?_
    exact ⟨rfl, by rw [hq.out]; exact ⟨_, H.out⟩, Upd.refl _ _⟩
  | false =>
    rw [hd] at h2
    have hq := Lib.hid (show rloseM l R = { R with sec := putsTo (rkeep l) R.wait R.sec R.wait.length, wait := [], down := true } by simp [rloseM, hd])
    clear hd
    go_enter Try.func43, Try.ntmps43
    go_wp2
    go_loopw [4] (fun v4 w' => ∃ i : Nat, v4 = .int .i64 i ∧ i ≤ R.wait.length ∧ Aside0 (RAt w' B g F { R with sec := putsTo (rkeep l) R.wait R.sec i } (.slice As R.sec.length cs) (.slice Ah R.wait.length ch) vc) ∧ Aside0 (Upd w w' F)) (fun v4 _ => R.wait.length - (intOf v4).toNat)
    case atStart => exact ⟨0, rfl, Nat.zero_le _, H, ⟨Upd.refl _ _⟩⟩
    case round =>
      obtain ⟨i, rfl, hi, HD, HU⟩ := hrel
      clear h1 h2
      have hn2 := HOK.out.n2
      have h1 := HD.out.c1
      by_cases hlt : i < R.wait.length
      · by_cases hil : i < l.length
        · by_cases hi4 : i < 4096
          · obtain ⟨_, _, c3⟩ := HC.out wr HU.out
            obtain ⟨ad, hA, hcc⟩ := c3 (by omega)
            subst hA
            have hcb : wr.cell? (ad.add i) = some (.bool (l[i])) := by
              obtain ⟨cs0, _, hK, hx1⟩ := hcc i (l[i]) (List.getElem?_eq_getElem hil)
              have := hx1 0 (.bool (l[i])) (by rw [hK]; rfl)
              simpa [Kd.bool, Kd.scalar] using this
            have hch : chB l i = l[i] := by simp [chB, hil]
            clear hcc c3
            cases hb : l[i] with
            | false =>
              rw [hb] at hcb hch
              have HP := Aside0.mk (show putsTo (rkeep l) R.wait R.sec (i + 1) = putsTo (rkeep l) R.wait R.sec i by simp [putsTo, rkeep, hch])
              have t4 : decide ((i : Int) < 4096) = true := decide_eq_true (by omega)
              clear hb hch hi4
              go_wp2
              go_roundw
              case rel => exact ⟨i + 1, by go_num, by omega, ⟨by rw [HP.out]; exact HD.out⟩, HU⟩
              case measure => simp [intOf]; omega
            | true =>
              rw [hb] at hcb hch
              have hk : rkeep l i = true := by simp [rkeep, hch, hi4]
              have t4 : decide ((i : Int) < 4096) = true := decide_eq_true (by omega)
              have HP := Aside0.mk (show putsTo (rkeep l) R.wait R.sec (i + 1) = (putsTo (rkeep l) R.wait R.sec i).set (R.wait.getD i (0, [])).1.toNat (R.wait.getD i (0, [])).2 by simp [putsTo, hk])
              clear hb hch hi4 hk
              obtain ⟨ha0, ha1⟩ := HOK.out.at_ (R.wait.getD i (0, [])) (by rw [List.getD_eq_getElem?_getD, List.getElem?_eq_getElem hlt]; exact List.getElem_mem hlt)
              rcases R_cases HD.out.wait with ⟨_, hz⟩ | ⟨gh, caph, eh, hgh⟩
              · have : R.wait.length = 0 := by rw [hz]; rfl
                omega
              rcases R_cases HD.out.sec with ⟨_, hz⟩ | ⟨gs, caps', es, hgs⟩
              · have : (putsTo (rkeep l) R.wait R.sec i).length = 0 := congrArg List.length hz
                rw [putsTo_length] at this
                omega
              injection eh with eh1 eh2 eh3
              injection es with es1 es2 es3
              subst eh1; subst es1
              clear eh2 eh3 es2 es3
              obtain ⟨u, hu1, hu2, hu3⟩ := wait_elem HD.out.sec HD.out.wait i hlt
              obtain ⟨a, b, hab⟩ : ∃ a b, R.wait.getD i (0, []) = (a, b) := ⟨_, _, rfl⟩
              have hu1' : wr.cell? ⟨gh, i * 2, none⟩ = some (.int .i64 (R.wait.getD i (0, [])).1) := hu1
              have hu3' : Kd.R (Kd.int .u8) 5 wr B (fun k => F k ∧ k ≠ gs) u (R.wait.getD i (0, [])).2 := hu3
              clear hu1 hu3
              rw [hab] at HP ha0 ha1 hu1' hu3'
              dsimp only at HP ha0 ha1 hu1' hu3'
              have HU3 := Aside0.mk hu3'
              obtain ⟨Au, cu, rfl⟩ := Kd.R_slice hu3'
              have h0 := HD.out.c0
              have hf := HD.out.free
              clear hab hu3'
              go_wp2
              refine wp_region_still_tail 21 (by kernel_rfl) (by kernel_rfl) ?_
              simp only [List.take_succ_cons, List.take_zero, List.drop_succ_cons, List.drop_zero]
              change wpStill _ _ wr.drew _ _ _
              repeat still_step
              refine wpStill_nil ?_
              change wpList _ _ _ _ _ wr.drew
              obtain ⟨c2, hsz2, hM2, hx2, _⟩ := Kd.R_elem HD.out.sec [] a ha0 ha1
              refine Kd.R_store kBy (w0 := wr.drew) B rfl rfl 22 (.tmp 52) (.tmp 51) rfl 22 (g := gs) (n := R.sec.length) (cap := cs) (o' := a.toNat) a 0 (putsTo (rkeep l) R.wait R.sec i) b (.slice Au b.length cu) [.slice Au b.length cu] c2 F (fun k => F k ∧ k ≠ gs) rfl (by show a.toNat = a.toNat * 1 + 0; omega) rfl rfl (by kernel_rfl) (by intro q hq; simp only [List.mem_singleton] at hq; rw [hq]; rfl) HD.out.sec ha0 ha1 hsz2 hx2 (Nat.le_refl 1) ⟨_, by rw [List.take_zero, List.nil_append, List.drop_of_length_le (show c2.length ≤ 0 + [Value.slice Au b.length cu].length from Nat.le_of_eq hsz2), List.append_nil], HU3.out⟩ (fun _ h => h) (Below.refl _ _) ?_
              intro w5 hr5 hb5 hg5d
              have hg5 : wr.grownBy w5 (Value.slice (some ⟨gs, 0, none⟩) R.sec.length cs).ownBlock := ⟨hg5d.os, hg5d.tape, hg5d.output, hg5d.size, hg5d.block⟩
              have hU5 : Upd wr w5 F := Upd.of_row HD.out.sec hg5
              have HD5 := Aside0.mk (show RAt w5 B g F { R with sec := putsTo (rkeep l) R.wait R.sec (i + 1) } (.slice (some ⟨gs, 0, none⟩) R.sec.length cs) (.slice (some ⟨gh, 0, none⟩) R.wait.length ch) vc from by
                rw [HP.out]
                refine ⟨blk_other HD.out.blk HD.out.sec (by decide) hg5, hr5, ?_, ?_, HD.out.own, fun k hk => ⟨(HD.out.lt k hk).1, Nat.lt_of_lt_of_le (HD.out.lt k hk).2 hg5.size⟩⟩
                · have hne : ∀ k, F k → True := fun _ _ => trivial
                  exact wait_kept HD.out.sec HD.out.wait hg5
                · obtain ⟨A', c', h1, h2, h3⟩ := HD.out.choice
                  exact ⟨A', c', h1, h2, fun W hW => h3 W ((hU5.mono (fun k hk => (HD.out.lt k hk).1)).trans hW (fun _ h => .inl h))⟩)
              have HU5 := Aside0.mk (HU.out.trans hU5 (fun _ h => .inl h))
              clear hg5d hg5 hU5 hr5 hb5
              go_wp2
              go_roundw
              case rel => exact ⟨i + 1, by go_num, by omega, HD5, HU5⟩
              case measure => simp [intOf]; omega
          · have HP := Aside0.mk (show putsTo (rkeep l) R.wait R.sec (i + 1) = putsTo (rkeep l) R.wait R.sec i by simp [putsTo, rkeep, hi4])
            have t4 : decide ((i : Int) < 4096) = false := decide_eq_false (by omega)
            clear hi4
            go_wp2
            go_roundw
            case rel => exact ⟨i + 1, by go_num, by omega, ⟨by rw [HP.out]; exact HD.out⟩, HU⟩
            case measure => simp [intOf]; omega
        · have HP := Aside0.mk (show putsTo (rkeep l) R.wait R.sec (i + 1) = putsTo (rkeep l) R.wait R.sec i by simp [putsTo, rkeep, chB, hil])
          go_wp2
          go_roundw
          case rel => exact ⟨i + 1, by go_num, by omega, ⟨by rw [HP.out]; exact HD.out⟩, HU⟩
          case measure => simp [intOf]; omega
      · obtain rfl : i = R.wait.length := by omega
        have h2 := HD.out.c2
        have hf := HD.out.free
        have H1 := HD.out.put 1 (.slice none 0 0) { R with sec := putsTo (rkeep l) R.wait R.sec R.wait.length, wait := [] } (.slice As R.sec.length cs) (.slice none 0 0) rfl HD.out.sec (Kd.R_nil _ _ _ _ _) rfl
        have H2 := Aside0.mk (H1.put 2 (.bool true) { R with sec := putsTo (rkeep l) R.wait R.sec R.wait.length, wait := [], down := true } (.slice As R.sec.length cs) (.slice none 0 0) rfl H1.sec H1.wait rfl)
        have HU2 := Aside0.mk ((HU.out.trans (HD.out.upd 1 (.slice none 0 0)) (fun _ h => .inl h)).trans (H1.upd 2 (.bool true)) (fun _ h => .inl h))
        clear H1
        go_wp2
        go_end0
        exact ⟨rfl, by rw [hq.out]; exact ⟨_, H2.out⟩, HU2.out⟩
end Go.Proofs.Ytfimeiicidcoiaa.Dk
