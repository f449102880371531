/- The reference's Flush. -/
import Derived.Test.YtfimeiicidcoiaaReF
namespace Go.Proofs.Ytfimeiicidcoiaa.Dk
open Go.RowKit Go.Proofs.YtfimeiicidcoiaaW.PrintWords Go.Proofs.YtfimeiicidcoiaaW.PrintLast Go.Proofs.YtfimeiicidcoiaaW.PrintMore
set_option linter.unusedVariables false
set_option linter.unusedSimpArgs false
variable {w w1 : World} {B g : Nat} {F G : Nat → Prop} {R : RM} {vs vh vc : Value}
def allT : Nat → Bool := fun _ => true
set_option maxHeartbeats 8000000 in
theorem rFlush_calls (h : RAt w B g F R vs vh vc) (hok : ROk R) :
    Calls Try.prog 41 #[.pointer (some ⟨g, 0, none⟩)] w fun e w' => ∃ n R', e = .returned (.int .i64 n) ∧ RefAt w' B g F R' ∧ ROk R' ∧ R'.wait.length ≤ R.wait.length ∧ R'.sec.length = R.sec.length ∧ Upd w w' F := by
  have H := Aside0.mk h
  have HOK := Aside0.mk hok
  have h2 := h.c2
  clear h hok
  cases hd : R.down with
  | true =>
    rw [hd] at h2
    clear hd
    go_enter Try.func41, Try.ntmps41
    go_wp2
    go_ret
    exact ⟨60, R, rfl, ⟨_, _, _, H.out⟩, HOK.out, Nat.le_refl _, rfl, Upd.refl _ _⟩
  | false =>
    rw [hd] at h2
    clear hd
    cases hg : (strokeM R).2 with
    | true =>
      have hg' := Lib.hid hg
      clear hg
      go_enter Try.func41, Try.ntmps41
      go_wp2_with (first | (go_at_call 49; refine (stroke_calls H.out HOK.out.l0 HOK.out.l1).mono ?_; rintro e w4 ⟨rfl, h4, hu4⟩; rw [hg'.out]; obtain ⟨Ac, cc, rfl, hlc, hCc⟩ := h4.choice; have H4 := Aside0.mk h4; have HU4 := Aside0.mk hu4; have HCC := Aside0.mk hCc; have hc5 := h4.c5; clear h4 hu4 hCc hlc) | (go_at_call 43; refine (rLose_calls H4.out (strokeM_ok HOK.out) Ac cc _ (fun W hW => HCC.out W (hW.mono (fun k hk => (H4.out.lt k hk).1)))).mono ?_; rintro e w5 ⟨rfl, ⟨vh5, h5⟩, hu5⟩; have H5 := Aside0.mk h5; have HU5 := Aside0.mk hu5; clear h5 hu5))
      go_ret
      refine ⟨60, rloseM _ (strokeM R).1, rfl, ⟨_, _, _, H5.out⟩, rloseM_ok _ (strokeM_ok HOK.out), ?_, ?_, HU4.out.trans HU5.out (fun _ h => .inl h)⟩
      · have := (rloseM_same (R := (strokeM R).1) (strokeM R).1.choice).2.1
        rw [strokeM_same.1] at this
        exact this
      · rw [(rloseM_same _).1, strokeM_same.2.1]
    | false =>
      have hg' := Lib.hid hg
      clear hg
      obtain ⟨R1, hR1⟩ : ∃ R1, R1 = (strokeM R).1 := ⟨_, rfl⟩
      have HOK1 := Aside0.mk (show ROk R1 by rw [hR1]; exact strokeM_ok HOK.out)
      have HE1 := Aside0.mk (show R1.wait = R.wait ∧ R1.sec = R.sec by rw [hR1]; exact ⟨strokeM_same.1, strokeM_same.2.1⟩)
      have HR1 := Lib.hid hR1
      clear hR1
      go_enter Try.func41, Try.ntmps41
      go_wp2_with (first | (go_at_call 49; refine (stroke_calls H.out HOK.out.l0 HOK.out.l1).mono ?_; rintro e w4 ⟨rfl, h4, hu4⟩; rw [hg'.out]; rw [← HR1.out] at h4; obtain ⟨As, cs, rfl, hsl, _⟩ := Kd.R_reads h4.sec; obtain ⟨Ah, ch, rfl, hhl, _⟩ := Kd.R_reads h4.wait; have H4 := Aside0.mk h4; have HU4 := Aside0.mk hu4; clear h4 hu4))
      go_loopw [3] (fun v3 w' => ∃ i : Nat, v3 = .int .i64 i ∧ i ≤ R1.wait.length ∧ Aside0 (RAt w' B g F { R1 with sec := putsTo allT R1.wait R1.sec i } (.slice As R1.sec.length cs) (.slice Ah R1.wait.length ch) vc) ∧ Aside0 (Upd w w' F)) (fun v3 _ => R1.wait.length - (intOf v3).toNat)
      case atStart => exact ⟨0, rfl, Nat.zero_le _, H4, HU4⟩
      case round =>
        obtain ⟨i, rfl, hi, HD, HU⟩ := hrel
        clear h2
        have hn2 := HOK1.out.n2
        have h1 := HD.out.c1
        by_cases hlt : i < R1.wait.length
        · have HP := Aside0.mk (show putsTo allT R1.wait R1.sec (i + 1) = (putsTo allT R1.wait R1.sec i).set (R1.wait.getD i (0, [])).1.toNat (R1.wait.getD i (0, [])).2 by simp [putsTo, allT])
          obtain ⟨ha0, ha1⟩ := HOK1.out.at_ (R1.wait.getD i (0, [])) (by rw [List.getD_eq_getElem?_getD, List.getElem?_eq_getElem hlt]; exact List.getElem_mem hlt)
          rcases R_cases HD.out.wait with ⟨_, hz⟩ | ⟨gh, caph, eh, hgh⟩
          · have : R1.wait.length = 0 := by rw [hz]; rfl
            omega
          rcases R_cases HD.out.sec with ⟨_, hz⟩ | ⟨gs, caps', es, hgs⟩
          · have : (putsTo allT R1.wait R1.sec i).length = 0 := congrArg List.length hz
            rw [putsTo_length] at this
            omega
          injection eh with eh1 eh2 eh3
          injection es with es1 es2 es3
          subst eh1; subst es1
          clear eh2 eh3 es2 es3
          obtain ⟨u, hu1, hu2, hu3⟩ := wait_elem HD.out.sec HD.out.wait i hlt
          obtain ⟨a, b, hab⟩ : ∃ a b, R1.wait.getD i (0, []) = (a, b) := ⟨_, _, rfl⟩
          have hu1' : wr.cell? ⟨gh, i * 2, none⟩ = some (.int .i64 (R1.wait.getD i (0, [])).1) := hu1
          have hu3' : Kd.R (Kd.int .u8) 5 wr B (fun k => F k ∧ k ≠ gs) u (R1.wait.getD i (0, [])).2 := hu3
          clear hu1 hu3
          rw [hab] at HP ha0 ha1 hu1' hu3'
          dsimp only at HP ha0 ha1 hu1' hu3'
          have HU3 := Aside0.mk hu3'
          obtain ⟨Au, cu, rfl⟩ := Kd.R_slice hu3'
          have h0 := HD.out.c0
          have hf := HD.out.free
          clear hab hu3'
          go_wp2
          refine wp_region_still_tail 21 (by kernel_rfl) (by kernel_rfl) ?_
          simp only [List.take_succ_cons, List.take_zero, List.drop_succ_cons, List.drop_zero]
          change wpStill _ _ wr.drew _ _ _
          repeat still_step
          refine wpStill_nil ?_
          change wpList _ _ _ _ _ wr.drew
          obtain ⟨c2, hsz2, hM2, hx2, _⟩ := Kd.R_elem HD.out.sec [] a ha0 ha1
          refine Kd.R_store kBy (w0 := wr.drew) B rfl rfl 22 (.tmp 45) (.tmp 44) rfl 22 (g := gs) (n := R1.sec.length) (cap := cs) (o' := a.toNat) a 0 (putsTo allT R1.wait R1.sec i) b (.slice Au b.length cu) [.slice Au b.length cu] c2 F (fun k => F k ∧ k ≠ gs) rfl (by show a.toNat = a.toNat * 1 + 0; omega) rfl rfl (by kernel_rfl) (by intro q hq; simp only [List.mem_singleton] at hq; rw [hq]; rfl) HD.out.sec ha0 ha1 hsz2 hx2 (Nat.le_refl 1) ⟨_, by rw [List.take_zero, List.nil_append, List.drop_of_length_le (show c2.length ≤ 0 + [Value.slice Au b.length cu].length from Nat.le_of_eq hsz2), List.append_nil], HU3.out⟩ (fun _ h => h) (Below.refl _ _) ?_
          intro w5 hr5 hb5 hg5d
          have hg5 : wr.grownBy w5 (Value.slice (some ⟨gs, 0, none⟩) R1.sec.length cs).ownBlock := ⟨hg5d.os, hg5d.tape, hg5d.output, hg5d.size, hg5d.block⟩
          have hU5 : Upd wr w5 F := Upd.of_row HD.out.sec hg5
          have HD5 := Aside0.mk (show RAt w5 B g F { R1 with sec := putsTo allT R1.wait R1.sec (i + 1) } (.slice (some ⟨gs, 0, none⟩) R1.sec.length cs) (.slice (some ⟨gh, 0, none⟩) R1.wait.length ch) vc from by
            rw [HP.out]
            refine ⟨blk_other HD.out.blk HD.out.sec (by decide) hg5, hr5, ?_, ?_, HD.out.own, fun k hk => ⟨(HD.out.lt k hk).1, Nat.lt_of_lt_of_le (HD.out.lt k hk).2 hg5.size⟩⟩
            · exact wait_kept HD.out.sec HD.out.wait hg5
            · obtain ⟨A', c', h1, h2, h3⟩ := HD.out.choice
              exact ⟨A', c', h1, h2, fun W hW => h3 W ((hU5.mono (fun k hk => (HD.out.lt k hk).1)).trans hW (fun _ h => .inl h))⟩)
          have HU5 := Aside0.mk (HU.out.trans hU5 (fun _ h => .inl h))
          clear hg5d hg5 hU5 hr5 hb5
          go_wp2
          go_roundw
          case rel => exact ⟨i + 1, by go_num, by omega, HD5, HU5⟩
          case measure => simp [intOf]; omega
        · obtain rfl : i = R1.wait.length := by omega
          have hf := HD.out.free
          have H1 := Aside0.mk (HD.out.put 1 (.slice none 0 0) { R1 with sec := putsTo allT R1.wait R1.sec R1.wait.length, wait := [] } (.slice As R1.sec.length cs) (.slice none 0 0) rfl HD.out.sec (Kd.R_nil _ _ _ _ _) rfl)
          have HU2 := Aside0.mk (HU.out.trans (HD.out.upd 1 (.slice none 0 0)) (fun _ h => .inl h))
          go_wp2
          go_ret
          have o := HOK1.out
          refine ⟨0, _, rfl, ⟨_, _, _, H1.out⟩, ⟨fun y hy => by simp at hy, fun s hs => putsTo_mem _ _ _ o.w64 o.s64 _ (Nat.le_refl _) s hs, fun y hy => by simp at hy, by simp only [putsTo_length]; exact o.n1, Nat.zero_le _, o.l0, o.l1⟩, Nat.zero_le _, ?_, HU2.out⟩
          show (putsTo _ _ _ _).length = _
          rw [putsTo_length, HE1.out.2]
end Go.Proofs.Ytfimeiicidcoiaa.Dk
