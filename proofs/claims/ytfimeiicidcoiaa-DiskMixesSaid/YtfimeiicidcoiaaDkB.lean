/- Contracts of package disk: what is held is put into its sectors. -/
import Derived.Test.YtfimeiicidcoiaaDkA
namespace Go.Proofs.Ytfimeiicidcoiaa.Dk
open Go.RowKit Go.Proofs.YtfimeiicidcoiaaW.PrintWords Go.Proofs.YtfimeiicidcoiaaW.PrintLast Go.Proofs.YtfimeiicidcoiaaW.PrintMore
set_option linter.unusedVariables false
set_option linter.unusedSimpArgs false
variable {w : World} {B g : Nat} {F : Nat → Prop} {D : DM} {vs vh vc : Value}

theorem Flush1_calls (i : Int) (w : World) : Calls Try.prog 34 #[.int .i64 i] w fun e w' => e = .returned (.bool true) ∧ w = w' := by
  go_enter Try.func34, Try.ntmps34
  go_wp2
  go_ret
  exact ⟨rfl, rfl⟩
/-- A row of one's own: nil, or from the head of a block on. -/
theorem R_cases {α : Type} {d : Kd α} {e : Nat} {w : World} {base : Nat} {ok : Nat → Prop} {v : Value} {xs : List α} (h : d.R e w base ok v xs) : (v = .slice none 0 0 ∧ xs = []) ∨ ∃ g cap, v = .slice (some ⟨g, 0, none⟩) xs.length cap ∧ base ≤ g := by
  obtain ⟨_, inner, ho, hr⟩ := h
  rcases ho.2 with hz | ⟨g, cap, cur, hv, hg, _⟩
  · exact .inl ⟨hz.1, List.eq_nil_of_length_eq_zero hz.2⟩
  · exact .inr ⟨g, cap, hv, hg⟩
theorem add0 (g n : Nat) : (⟨g, 0, none⟩ : Addr).add n = ⟨g, n, none⟩ := by
  unfold Addr.add
  by_cases h : n = 0 <;> simp [h]
def chB (l : List Bool) (i : Nat) : Bool := l.getD i false
theorem Lose1_calls (i : Nat) (g3 : Nat) (A : Option Addr) (c : Nat) (l : List Bool) (w : World) (hi : i ≤ 1000000000) (h3 : w.cell? ⟨g3, 0, none⟩ = some (.slice A l.length c)) (hC : Kd.C Kd.bool w A l.length l) :
    Calls Try.prog 35 #[.int .i64 i, .pointer (some ⟨g3, 0, none⟩)] w fun e w' => e = .returned (.bool (chB l i)) ∧ w = w' := by
  by_cases hl : i < l.length
  · obtain ⟨ad, c1, rfl, hsz, hK, hx⟩ := Kd.C_get hC false (i : Int) (by omega) (by omega)
    have hcell : w.cell? (ad.add i) = some (.bool (chB l i)) := by
      have e : c1 = [.bool (l.getD i false)] := by simpa [Kd.bool, Kd.scalar] using hK
      have := hx 0 (.bool (l.getD i false)) (by rw [e]; rfl)
      simpa [Kd.bool, Kd.scalar, chB] using this
    clear hK hx hsz
    have t1 : decide ((i : Int) < (l.length : Int)) = true := decide_eq_true (by omega)
    go_enter Try.func35, Try.ntmps35
    go_wp2
    go_ret
    exact ⟨rfl, rfl⟩
  · have t1 : decide ((i : Int) < (l.length : Int)) = false := decide_eq_false (by omega)
    have hz := Lib.hid (show chB l i = false by simp [chB, List.getD_eq_getElem?_getD, List.getElem?_eq_none (Nat.le_of_not_lt hl)])
    have t2 : decide (i < l.length) = false := decide_eq_false hl
    go_enter Try.func35, Try.ntmps35
    go_wp2
    go_ret
    exact ⟨by rw [hz.out] <;> rfl, rfl⟩
/-- The sectors when the first n held writes were put where keep says so. -/
def putsTo (keep : Nat → Bool) (held : List (Int × List Int)) (sec : List (List Int)) : Nat → List (List Int)
  | 0 => sec
  | n + 1 => if keep n = true then (putsTo keep held sec n).set (held.getD n (0, [])).1.toNat (held.getD n (0, [])).2 else putsTo keep held sec n
theorem putsTo_length (keep : Nat → Bool) (held : List (Int × List Int)) (sec : List (List Int)) : ∀ n, (putsTo keep held sec n).length = sec.length
  | 0 => rfl
  | n + 1 => by
    unfold putsTo
    split
    · rw [List.length_set, putsTo_length]
    · exact putsTo_length keep held sec n
def putsM (keep : Nat → Bool) (D : DM) : DM := { D with sec := putsTo keep D.held D.sec D.held.length, held := [] }
/-- A disk's held writes lie on it, and nothing on it is too long. -/
structure DOk (D : DM) : Prop where
  at_ : ∀ h ∈ D.held, 0 ≤ h.1 ∧ h.1 < (D.sec.length : Int)
  n1 : D.sec.length ≤ 16384
  n2 : D.held.length ≤ 10000000
  n3 : D.choice.length ≤ 4096
  l1 : D.left ≤ 9223372036854775807
set_option maxHeartbeats 1000000 in
theorem puts_calls (h : DAt w B g F D vs vh vc) (hok : DOk D) (fid : Nat) (caps : Array Value) (keep : Nat → Bool) (Inv : World → Prop) (hInv : ∀ W W', Inv W → Upd W W' F → Kd.R Kd.bool 4 W' B F vc D.choice → Inv W') (hw : Inv w)
    (hcf : ∀ (i : Int) (W : World), (callFunc fid (#[Value.int .i64 i] ++ caps)).run Try.prog W = .ok (.enter fid (#[Value.int .i64 i] ++ caps)) W)
    (hk : ∀ (i : Nat) (W : World), Inv W → i < D.held.length → Calls Try.prog fid (#[Value.int .i64 i] ++ caps) W fun e W' => e = .returned (.bool (keep i)) ∧ W = W') :
    Calls Try.prog 33 #[.pointer (some ⟨g, 0, none⟩), .func (.func fid) #[] caps] w fun e w' => e = .returned (.tuple #[]) ∧ DiskAt w' B g F (putsM keep D) ∧ Upd w w' F := by
  have H := Aside0.mk h
  obtain ⟨As, cs, rfl, hsl, _⟩ := Kd.R_reads h.sec
  obtain ⟨Ah, ch, rfl, hhl, _⟩ := Kd.R_reads h.held
  have h1 := h.c1
  have HI := Aside0.mk hInv
  have HW := Aside0.mk hw
  have HK := Aside0.mk hk
  have HOK := Aside0.mk hok
  clear h hInv hw hk hok
  go_enter Try.func33, Try.ntmps33
  go_wp2
  go_loopw [4, 10] (fun v4 v10 w' => ∃ i : Nat, v10 = .int .i64 i ∧ i ≤ D.held.length ∧ Aside0 (DAt w' B g F { D with sec := putsTo keep D.held D.sec i } (.slice As D.sec.length cs) (.slice Ah D.held.length ch) vc) ∧ Aside0 (Upd w w' F) ∧ Aside0 (Inv w')) (fun _ v10 _ => D.held.length - (intOf v10).toNat)
  case atStart => exact ⟨0, rfl, Nat.zero_le _, H, ⟨Upd.refl _ _⟩, HW⟩
  case round =>
    obtain ⟨i, rfl, hi, HD, HU, HV⟩ := hrel
    clear h1
    have hn2 := HOK.out.n2
    by_cases hlt : i < D.held.length
    · cases hkp : keep i with
      | false =>
        have HP := Aside0.mk (show putsTo keep D.held D.sec (i + 1) = putsTo keep D.held D.sec i by simp [putsTo, hkp])
        have HKI := Aside0.mk (HK.out i wr HV.out hlt)
        clear HK
        go_wp2_with fail
        refine HKI.out.mono ?_
        rintro e w2 ⟨rfl, rfl⟩
        rw [hkp]
        go_wp2
        go_roundw
        case rel => exact ⟨i + 1, by go_num, by omega, ⟨by rw [HP.out]; exact HD.out⟩, HU, HV⟩
        case measure => simp [intOf]; omega
      | true =>
        have HP := Aside0.mk (show putsTo keep D.held D.sec (i + 1) = (putsTo keep D.held D.sec i).set (D.held.getD i (0, [])).1.toNat (D.held.getD i (0, [])).2 by simp [putsTo, hkp])
        have HKI := Aside0.mk (HK.out i wr HV.out hlt)
        obtain ⟨ha0, ha1⟩ := HOK.out.at_ (D.held.getD i (0, [])) (by rw [List.getD_eq_getElem?_getD, List.getElem?_eq_getElem hlt]; exact List.getElem_mem hlt)
        obtain ⟨a, b, hab⟩ : ∃ a b, D.held.getD i (0, []) = (a, b) := ⟨_, _, rfl⟩
        rw [hab] at HP ha0 ha1
        dsimp only at HP ha0 ha1
        rcases R_cases HD.out.held with ⟨_, hz⟩ | ⟨gh, caph, eh, hgh⟩
        · have : D.held.length = 0 := by rw [hz]; rfl
          omega
        rcases R_cases HD.out.sec with ⟨_, hz⟩ | ⟨gs, caps', es, hgs⟩
        · have : (putsTo keep D.held D.sec i).length = 0 := congrArg List.length hz
          rw [putsTo_length] at this
          omega
        injection eh with eh1 eh2 eh3
        injection es with es1 es2 es3
        subst eh1; subst es1
        clear eh2 eh3 es2 es3
        obtain ⟨ad, c1, e1, hsz1, hK1, hx1⟩ := Kd.C_get (Kd.R_reads' HD.out.held).2.2 (0, []) (i : Int) (by omega) (by show (i : Int) < (D.held.length : Int); omega)
        injection e1 with e1
        subst e1
        rw [Int.toNat_natCast, hab] at hK1
        obtain ⟨hK1, hb64⟩ := hK1
        have hca : wr.cell? ⟨gh, i * 65, none⟩ = some (.int .i64 a) := by
          have := hx1 0 (.int .i64 a) (by rw [hK1]; rfl)
          have e : (⟨gh, 0, none⟩ : Addr).add ((i : Int).toNat * kHeld.sz + 0) = ⟨gh, i * 65, none⟩ := by rw [add0]; simp [kHeld]
          rwa [e] at this
        have hlb : (Instr.loadAt 64 (.pointer (some ⟨gh, i * 65 + 1, none⟩))).run Try.prog wr.drew = .ok (.agg (nums .u8 b).toArray) wr.drew := by
          refine run_loadAt_cells 64 Try.underlying64 rfl gh (i * 65 + 1) (nums .u8 b) (by rw [nums_length, hb64]; exact size64) (fun j u hu => ?_)
          have := hx1 (j + 1) u (by rw [hK1]; simpa using hu)
          have e : (⟨gh, 0, none⟩ : Addr).add ((i : Int).toNat * kHeld.sz + (j + 1)) = ⟨gh, i * 65 + 1 + j, none⟩ := by rw [add0]; simp [kHeld]; omega
          rw [e] at this
          exact this
        have h0 := HD.out.c0
        have h1 := HD.out.c1
        have hf := HD.out.free
        have HLB := Aside0.mk hlb
        clear hlb hx1 hK1 hsz1
        go_wp2_with fail
        refine HKI.out.mono ?_
        rintro e w2 ⟨rfl, rfl⟩
        rw [hkp]
        go_wp2
        refine wp_region_still_tail 21 (by kernel_rfl) (by kernel_rfl) ?_
        simp only [List.take_succ_cons, List.take_zero, List.drop_succ_cons, List.drop_zero]
        change wpStill _ _ wr.drew _ _ _
        repeat (first | (refine wpStill_load rfl 64 (.tmp 34) rfl _ HLB.out ?_) | still_step)
        refine wpStill_nil ?_
        change wpList _ _ _ _ _ wr.drew
        obtain ⟨ad2, c2, e2, hsz2, hK2, hx2⟩ := Kd.C_get (Kd.R_reads' HD.out.sec).2.2 [] a (by omega) (by show a < ((putsTo keep D.held D.sec i).length : Int); rw [putsTo_length]; omega)
        injection e2 with e2
        subst e2
        refine Kd.R_store kSec (w0 := wr.drew) B rfl rfl 64 (.tmp 36) (.tmp 35) rfl 64 (g := gs) (n := D.sec.length) (cap := cs) (o' := a.toNat * 64) a 0 (putsTo keep D.held D.sec i) b (.agg (nums .u8 b).toArray) (nums .u8 b) c2 F (fun _ => False) rfl rfl rfl rfl (by rw [nums_length, hb64]; exact size64) (by intro q hq; simp only [nums, List.mem_map] at hq; obtain ⟨_, _, rfl⟩ := hq; rfl) HD.out.sec ha0 ha1 hsz2 ?hcc (by rw [nums_length, hb64]; decide) ?hM (fun _ h => h.elim) (Below.refl _ _) ?_
        case hcc =>
          intro j u hu
          have := hx2 j u hu
          rw [add0] at this
          exact this
        case hM => exact ⟨by rw [List.take_zero, List.nil_append, nums_length, hb64, Nat.zero_add, List.drop_of_length_le (show c2.length ≤ 64 from Nat.le_of_eq hsz2), List.append_nil], hb64⟩
        intro w5 hr5 hb5 hg5d
        have hg5 : wr.grownBy w5 (Value.slice (some ⟨gs, 0, none⟩) D.sec.length cs).ownBlock := ⟨hg5d.os, hg5d.tape, hg5d.output, hg5d.size, hg5d.block⟩
        clear hg5d
        have hD5 : DAt w5 B g F { D with sec := putsTo keep D.held D.sec (i + 1) } (.slice (some ⟨gs, 0, none⟩) D.sec.length cs) (.slice (some ⟨gh, 0, none⟩) D.held.length ch) vc := by
          rw [HP.out]
          exact ⟨blk_other HD.out.blk HD.out.sec (by decide) hg5, hr5, R_other HD.out.held HD.out.sec rfl (by decide) hg5, R_other HD.out.choice HD.out.sec rfl (by decide) hg5, HD.out.own, fun k hk => ⟨(HD.out.lt k hk).1, Nat.lt_of_lt_of_le (HD.out.lt k hk).2 hg5.size⟩⟩
        have HD5 := Aside0.mk hD5
        have HU5 := Aside0.mk (HU.out.trans (Upd.of_row (w := wr) HD.out.sec (w1 := w5) hg5) (fun _ h => .inl h))
        have HV5 := Aside0.mk (HI.out wr w5 HV.out (Upd.of_row (w := wr) HD.out.sec (w1 := w5) hg5) HD5.out.choice)
        clear hD5 hr5 hb5 hg5 hx2 hK2 hsz2
        go_wp2
        go_roundw
        case rel => exact ⟨i + 1, by go_num, by omega, HD5, HU5, HV5⟩
        case measure => simp [intOf]; omega
    · obtain rfl : i = D.held.length := by omega
      obtain ⟨w3, hclr, hg3, hr3⟩ := run_clear_row 58 0 _ Try.underlying58 zero67 rfl (by decide) (by decide) HD.out.held
      have h1 := HD.out.c1
      have hb3 := blk_other HD.out.blk HD.out.held (by decide) hg3
      have hs3 := R_other HD.out.sec HD.out.held rfl (by decide) hg3
      have hc3 := R_other HD.out.choice HD.out.held rfl (by decide) hg3
      have HU3 := Aside0.mk (HU.out.trans (Upd.of_row HD.out.held hg3) (fun _ h => .inl h))
      have h31 : w3.cell? ⟨g, 1, none⟩ = some (.slice Ah D.held.length ch) := by simp [World.cell?, hb3]
      have hf3 : ∀ j, w3.frozen? ⟨g, j, none⟩ = false := fun j => by simp [World.frozen?, hb3]
      have H4 := Aside0.mk (DAt.mk_put (D := { D with sec := putsTo keep D.held D.sec D.held.length }) hb3 1 (.slice Ah 0 ch) (putsM keep D) (.slice As D.sec.length cs) (.slice Ah 0 ch) vc rfl hs3 hr3 hc3 HD.out.own (fun k hk => ⟨(HD.out.lt k hk).1, Nat.lt_of_lt_of_le (HD.out.lt k hk).2 hg3.size⟩))
      clear hb3 hs3 hc3 hr3 hg3
      have HU4 := Aside0.mk (HU3.out.setCell (p := ⟨g, 1, none⟩) (.inl HD.out.own) (.slice Ah 0 ch))
      go_wp2
      go_end0
      exact ⟨rfl, ⟨_, _, _, H4.out⟩, HU4.out⟩
end Go.Proofs.Ytfimeiicidcoiaa.Dk
