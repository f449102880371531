/- The law DiskIdle. -/
import Derived.Test.YtfimeiicidcoiaaLwP
namespace Go.Proofs.Ytfimeiicidcoiaa.Dk
open Go.RowKit Go.Proofs.YtfimeiicidcoiaaW.PrintWords Go.Proofs.YtfimeiicidcoiaaW.PrintLast Go.Proofs.YtfimeiicidcoiaaW.PrintMore
set_option linter.unusedVariables false
set_option linter.unusedSimpArgs false
variable {w : World}
set_option maxHeartbeats 16000000 in
theorem Idle_calls (A A2 : Option Addr) (c c2 : Nat) (y : List Int) (n : Int) (l : List OpM) (kd at_ nn : Int) (x : List Int) (ch : List Bool) (ab ac : Option Addr) (cb cc : Nat) (h : Args w A c y A2 l)
    (hO : OpIs w ⟨kd, at_, nn, x, ch⟩ [.int .i64 kd, .int .i64 at_, .int .i64 nn, .slice ab x.length cb, .slice ac ch.length cc]) :
    Calls Try.prog 6 #[.slice A y.length c, .int .i64 n, .slice A2 l.length c2, .agg #[.int .i64 kd, .int .i64 at_, .int .i64 nn, .slice ab x.length cb, .slice ac ch.length cc]] w fun e w' => Tru w w' e := by
  have HO := Aside0.mk hO
  have HA := Aside0.mk h
  clear h hO
  by_cases h1 : kd = 1
  · subst h1
    have hba := below_alloc (Below.refl w.heap.size w) (.cells #[.int .i64 1, .int .i64 at_, .int .i64 nn, .slice ab x.length cb, .slice ac ch.length cc] 37)
    have HBA := Aside0.mk hba
    have HBK := Aside0.mk (heap_alloc_new w (.cells #[.int .i64 1, .int .i64 at_, .int .i64 nn, .slice ab x.length cb, .slice ac ch.length cc] 37))
    have HM := Aside0.mk (sMade A c y n A2 c2 l HA.out.xc (Kd.C_below HA.out.C hba) (HA.out.O.below hba) HA.out.l)
    have HOW := Aside0.mk (show ∀ W, Below (w.alloc (.cells #[.int .i64 1, .int .i64 at_, .int .i64 nn, .slice ab x.length cb, .slice ac ch.length cc] 37)).heap.size (w.alloc (.cells #[.int .i64 1, .int .i64 at_, .int .i64 nn, .slice ab x.length cb, .slice ac ch.length cc] 37)) W → OpIs W ⟨1, at_, nn, x, ch⟩ [.int .i64 1, .int .i64 at_, .int .i64 nn, .slice ab x.length cb, .slice ac ch.length cc] from fun W hW => OpIs.below HO.out (below_trans hba hW))
    clear hba
    go_enter Try.func6, Try.ntmps6
    go_wp2_with (first | (go_at_call 9; refine HM.out.mono ?_; rintro e w1 (⟨rfl, hb⟩ | ⟨g, F, D, rfl, hs, hok, hh, h1, h2⟩) <;> skip) | (refine load_atG (ty := 37) (.tmp 7) (by rfl) rfl (load_op (cell_kept (cellB HBK.out 0 _ rfl) hs.b) (cell_kept (cellB HBK.out 1 _ rfl) hs.b) (cell_kept (cellB HBK.out 2 _ rfl) hs.b) (cell_kept (cellB HBK.out 3 _ rfl) hs.b) (cell_kept (cellB HBK.out 4 _ rfl) hs.b)) rfl ?_) | (refine buildS_atG (t := 23) (n := 1) (parts := #[(0, .tmp 19)]) (by rfl) rfl (by kernel_rfl) (buildSlice23 (.int .i64 1) (.int .i64 at_) (.int .i64 nn) (.slice ab x.length cb) (.slice ac ch.length cc) w1) ?_) | (go_at_call 18; refine (long_calls _ 1 [⟨1, at_, nn, x, ch⟩] (Ops.one (heap_alloc_new w1 _) (HOW.out _ (below_trans hs.b (below_alloc (Below.refl _ _) _)))) (by simp)).mono ?_; rintro e w2 ⟨bl, rfl, ⟨m, rfl⟩, hlong⟩; have HLG := Aside0.mk hlong; clear hlong; have HS2 := Aside0.mk (hs.below (pw_below_drewN (below_alloc (Below.refl w1.heap.size w1) (.cells #[.int .i64 1, .int .i64 at_, .int .i64 nn, .slice ab x.length cb, .slice ac ch.length cc] 37)) m))) | (go_at_call 24; refine (sCopy HS2.out hok).mono ?_; rintro e w3 ⟨gc, Fc, rfl, hp, _, _⟩; have HP := Aside0.mk hp; have hc0 := cell_kept (cellB HBK.out 0 _ rfl) hp.d.b; have hc1 := cell_kept (cellB HBK.out 1 _ rfl) hp.d.b; have hc2 := cell_kept (cellB HBK.out 2 _ rfl) hp.d.b; have hc3 := cell_kept (cellB HBK.out 3 _ rfl) hp.d.b; have hc4 := cell_kept (cellB HBK.out 4 _ rfl) hp.d.b; have HK := Aside0.mk hok; have HH := Aside0.mk hh) | (go_at_call 11; refine (sKnown hb).mono ?_; rintro e w2 ⟨rfl, hb2⟩) | (go_at_call 11; refine (sKnown HS2.out.b).mono ?_; rintro e w9 ⟨rfl, hb9⟩))
    · go_ret
      exact ⟨rfl, below_trans HBA.out hb2⟩
    · go_ret
      exact ⟨rfl, below_trans HBA.out hb9⟩
    obtain ⟨D', q, hq⟩ : ∃ D' q, writeM D at_ x = (D', q) := ⟨_, _, rfl⟩
    have HID := Aside0.mk (show Idle D (D', q) by rw [← hq]; exact idle_write at_ x)
    have HQ := Lib.hid hq
    have HX := Aside0.mk (show x.length ≤ 1000000000 by have h := HLG.out (by first | rfl | assumption | simp_all); simp [wsum, wOp] at h; omega)
    clear hq hs hok hh h1 h2
    by_cases hq0 : q = 0
    · subst hq0
      go_wp2_with (first | (go_at_call 19; refine (dWrite HP.out.d.d HK.out (by have := HH.out; omega) at_ ab cb x (OpIs.C (o := ⟨1, at_, nn, x, ch⟩) (HOW.out _ HP.out.d.b)).2.2.1).mono ?_; rintro e w4 ⟨rfl, hp4⟩; rw [HQ.out] at hp4 ⊢; obtain ⟨F4, hp4⟩ := HP.out.onD hp4; have HP4 := Aside0.mk hp4; clear hp4) | (go_at_call 11; refine (sKnown HP4.out.d.b).mono ?_; rintro e w5 ⟨rfl, hb5⟩))
      go_ret
      exact ⟨rfl, below_trans HBA.out hb5⟩
    by_cases hq60 : q = 60 ∧ D.down = false
    · obtain ⟨rfl, hd⟩ := hq60
      have HD := Lib.hid hd
      clear hd hq0
      go_wp2_with (first | (go_at_call 19; refine (dWrite HP.out.d.d HK.out (by have := HH.out; omega) at_ ab cb x (OpIs.C (o := ⟨1, at_, nn, x, ch⟩) (HOW.out _ HP.out.d.b)).2.2.1).mono ?_; rintro e w4 ⟨rfl, hp4⟩; rw [HQ.out] at hp4 ⊢; obtain ⟨F4, hp4⟩ := HP.out.onD hp4; have HP4 := Aside0.mk hp4; clear hp4) | (go_at_call 10; refine (sUp HP4.out.c).mono ?_; rintro e w5 ⟨rfl, rfl⟩; rw [HD.out]) | (go_at_call 11; refine (sKnown HP4.out.d.b).mono ?_; rintro e w5 ⟨rfl, hb5⟩))
      go_ret
      exact ⟨rfl, below_trans HBA.out hb5⟩
    have HSAME := Lib.hid (show D' = D from by
      rcases HID.out with h | h | h
      · exact absurd h hq0
      · exact absurd h hq60
      · exact h)
    have hdl : (loseM lits4 D).down = true := by
      unfold loseM
      split
      · assumption
      · rfl
    have HL := Lib.hid hdl
    by_cases h60 : q = 60
    · subst h60
      have HD := Lib.hid (show D.down = true by cases hd : D.down with | true => rfl | false => exact absurd ⟨rfl, hd⟩ hq60)
      clear hq60 hq0 hdl
      go_wp2_with (first | (go_at_call 19; refine (dWrite HP.out.d.d HK.out (by have := HH.out; omega) at_ ab cb x (OpIs.C (o := ⟨1, at_, nn, x, ch⟩) (HOW.out _ HP.out.d.b)).2.2.1).mono ?_; rintro e w4 ⟨rfl, hp4⟩; rw [HQ.out] at hp4 ⊢; rw [HSAME.out] at hp4; obtain ⟨F4, hp4⟩ := HP.out.onD hp4; have HP4 := Aside0.mk hp4; clear hp4) | (go_at_call 10; refine (sUp HP4.out.c).mono ?_; rintro e w5 ⟨rfl, rfl⟩; rw [HD.out]))
      go_wp2_with (first | (go_at_call 15; with_reducible refine (prLose HP4.out HK.out).mono ?_; rintro e w6 ⟨rfl, F6, hp6⟩; have HP6 := Aside0.mk hp6; clear hp6) | (go_at_call 15; with_reducible refine (prLoseC HP6.out HK.out).mono ?_; rintro e w7 ⟨rfl, F7, hp7⟩; have HP7 := Aside0.mk hp7; clear hp7))
      go_wp2_with (first | (go_at_call 14; with_reducible refine (sBytes HP7.out.d (loseM_ok lits4 HK.out)).mono ?_; rintro e w8 ⟨A8, c8, rfl, hr8, hb8⟩; have HP8 := Aside0.mk (HP7.out.below hb8); have HR8 := Aside0.mk hr8; clear hr8 hb8) | (go_at_call 14; with_reducible refine (sBytes HP8.out.c (loseM_ok lits4 HK.out)).mono ?_; rintro e w9 ⟨A9, c9, rfl, hr9, hb9⟩; have HP9 := Aside0.mk (HP8.out.below hb9); have HR9 := Aside0.mk hr9; have HR89 := Aside0.mk (HR8.out.below hb9); clear hr9 hb9) | (go_at_call 16; with_reducible refine (Same_calls A8 c8 _ A9 c9 _ HR89.out.C HR9.out.C).mono ?_; rintro e w10 ⟨rfl, rfl⟩; rw [sameM_refl]) | (go_at_call 26; with_reducible refine (sStrokes HP9.out.d).mono ?_; rintro e w11 ⟨rfl, rfl⟩) | (go_at_call 26; with_reducible refine (sStrokes HP9.out.c).mono ?_; rintro e w11 ⟨rfl, rfl⟩) | (go_at_call 10; with_reducible refine (sUp HP9.out.d).mono ?_; rintro e w12 ⟨rfl, rfl⟩; rw [HL.out]) | (go_at_call 10; with_reducible refine (sUp HP9.out.c).mono ?_; rintro e w12 ⟨rfl, rfl⟩; rw [HL.out]) | (go_at_call 11; with_reducible refine (sKnown HP9.out.d.b).mono ?_; rintro e w13 ⟨rfl, hb13⟩))
      go_ret
      exact ⟨rfl, below_trans HBA.out hb13⟩
    · have tq0 : (q == 0) = false := by simpa using hq0
      have tq60 : (q == 60) = false := by simpa using h60
      clear hq60 hq0 hdl h60
      go_wp2_with (first | (go_at_call 19; refine (dWrite HP.out.d.d HK.out (by have := HH.out; omega) at_ ab cb x (OpIs.C (o := ⟨1, at_, nn, x, ch⟩) (HOW.out _ HP.out.d.b)).2.2.1).mono ?_; rintro e w4 ⟨rfl, hp4⟩; rw [HQ.out] at hp4 ⊢; rw [HSAME.out] at hp4; obtain ⟨F4, hp4⟩ := HP.out.onD hp4; have HP4 := Aside0.mk hp4; clear hp4))
      go_wp2_with (first | (go_at_call 15; with_reducible refine (prLose HP4.out HK.out).mono ?_; rintro e w6 ⟨rfl, F6, hp6⟩; have HP6 := Aside0.mk hp6; clear hp6) | (go_at_call 15; with_reducible refine (prLoseC HP6.out HK.out).mono ?_; rintro e w7 ⟨rfl, F7, hp7⟩; have HP7 := Aside0.mk hp7; clear hp7))
      go_wp2_with (first | (go_at_call 14; with_reducible refine (sBytes HP7.out.d (loseM_ok lits4 HK.out)).mono ?_; rintro e w8 ⟨A8, c8, rfl, hr8, hb8⟩; have HP8 := Aside0.mk (HP7.out.below hb8); have HR8 := Aside0.mk hr8; clear hr8 hb8) | (go_at_call 14; with_reducible refine (sBytes HP8.out.c (loseM_ok lits4 HK.out)).mono ?_; rintro e w9 ⟨A9, c9, rfl, hr9, hb9⟩; have HP9 := Aside0.mk (HP8.out.below hb9); have HR9 := Aside0.mk hr9; have HR89 := Aside0.mk (HR8.out.below hb9); clear hr9 hb9) | (go_at_call 16; with_reducible refine (Same_calls A8 c8 _ A9 c9 _ HR89.out.C HR9.out.C).mono ?_; rintro e w10 ⟨rfl, rfl⟩; rw [sameM_refl]) | (go_at_call 26; with_reducible refine (sStrokes HP9.out.d).mono ?_; rintro e w11 ⟨rfl, rfl⟩) | (go_at_call 26; with_reducible refine (sStrokes HP9.out.c).mono ?_; rintro e w11 ⟨rfl, rfl⟩) | (go_at_call 10; with_reducible refine (sUp HP9.out.d).mono ?_; rintro e w12 ⟨rfl, rfl⟩; rw [HL.out]) | (go_at_call 10; with_reducible refine (sUp HP9.out.c).mono ?_; rintro e w12 ⟨rfl, rfl⟩; rw [HL.out]) | (go_at_call 11; with_reducible refine (sKnown HP9.out.d.b).mono ?_; rintro e w13 ⟨rfl, hb13⟩))
      go_ret
      exact ⟨rfl, below_trans HBA.out hb13⟩
  by_cases h3 : kd = 3
  · subst h3
    clear h1
    have hba := below_alloc (Below.refl w.heap.size w) (.cells #[.int .i64 3, .int .i64 at_, .int .i64 nn, .slice ab x.length cb, .slice ac ch.length cc] 37)
    have HBA := Aside0.mk hba
    have HBK := Aside0.mk (heap_alloc_new w (.cells #[.int .i64 3, .int .i64 at_, .int .i64 nn, .slice ab x.length cb, .slice ac ch.length cc] 37))
    have HM := Aside0.mk (sMade A c y n A2 c2 l HA.out.xc (Kd.C_below HA.out.C hba) (HA.out.O.below hba) HA.out.l)
    have HOW := Aside0.mk (show ∀ W, Below (w.alloc (.cells #[.int .i64 3, .int .i64 at_, .int .i64 nn, .slice ab x.length cb, .slice ac ch.length cc] 37)).heap.size (w.alloc (.cells #[.int .i64 3, .int .i64 at_, .int .i64 nn, .slice ab x.length cb, .slice ac ch.length cc] 37)) W → OpIs W ⟨3, at_, nn, x, ch⟩ [.int .i64 3, .int .i64 at_, .int .i64 nn, .slice ab x.length cb, .slice ac ch.length cc] from fun W hW => OpIs.below HO.out (below_trans hba hW))
    clear hba
    go_enter Try.func6, Try.ntmps6
    go_wp2_with (first | (go_at_call 9; refine HM.out.mono ?_; rintro e w1 (⟨rfl, hb⟩ | ⟨g, F, D, rfl, hs, hok, hh, h1, h2⟩) <;> skip) | (refine load_atG (ty := 37) (.tmp 7) (by rfl) rfl (load_op (cell_kept (cellB HBK.out 0 _ rfl) hs.b) (cell_kept (cellB HBK.out 1 _ rfl) hs.b) (cell_kept (cellB HBK.out 2 _ rfl) hs.b) (cell_kept (cellB HBK.out 3 _ rfl) hs.b) (cell_kept (cellB HBK.out 4 _ rfl) hs.b)) rfl ?_) | (refine buildS_atG (t := 23) (n := 1) (parts := #[(0, .tmp 19)]) (by rfl) rfl (by kernel_rfl) (buildSlice23 (.int .i64 3) (.int .i64 at_) (.int .i64 nn) (.slice ab x.length cb) (.slice ac ch.length cc) w1) ?_) | (go_at_call 18; refine (long_calls _ 1 [⟨3, at_, nn, x, ch⟩] (Ops.one (heap_alloc_new w1 _) (HOW.out _ (below_trans hs.b (below_alloc (Below.refl _ _) _)))) (by simp)).mono ?_; rintro e w2 ⟨bl, rfl, ⟨m, rfl⟩, hlong⟩; have HLG := Aside0.mk hlong; clear hlong; have HS2 := Aside0.mk (hs.below (pw_below_drewN (below_alloc (Below.refl w1.heap.size w1) (.cells #[.int .i64 3, .int .i64 at_, .int .i64 nn, .slice ab x.length cb, .slice ac ch.length cc] 37)) m))) | (go_at_call 24; refine (sCopy HS2.out hok).mono ?_; rintro e w3 ⟨gc, Fc, rfl, hp, _, _⟩; have HP := Aside0.mk hp; have hc0 := cell_kept (cellB HBK.out 0 _ rfl) hp.d.b; have hc1 := cell_kept (cellB HBK.out 1 _ rfl) hp.d.b; have hc2 := cell_kept (cellB HBK.out 2 _ rfl) hp.d.b; have hc3 := cell_kept (cellB HBK.out 3 _ rfl) hp.d.b; have hc4 := cell_kept (cellB HBK.out 4 _ rfl) hp.d.b; have HK := Aside0.mk hok; have HH := Aside0.mk hh) | (go_at_call 11; refine (sKnown hb).mono ?_; rintro e w2 ⟨rfl, hb2⟩) | (go_at_call 11; refine (sKnown HS2.out.b).mono ?_; rintro e w9 ⟨rfl, hb9⟩))
    · go_ret
      exact ⟨rfl, below_trans HBA.out hb2⟩
    · go_ret
      exact ⟨rfl, below_trans HBA.out hb9⟩
    obtain ⟨D', q, hq⟩ : ∃ D' q, setM D nn ch = (D', q) := ⟨_, _, rfl⟩
    have HID := Aside0.mk (show Idle D (D', q) by rw [← hq]; exact idle_set nn ch)
    have HQ := Lib.hid hq
    have HX := Aside0.mk (show x.length ≤ 1000000000 by have h := HLG.out (by first | rfl | assumption | simp_all); simp [wsum, wOp] at h; omega)
    clear hq hs hok hh h1 h2
    by_cases hq0 : q = 0
    · subst hq0
      go_wp2_with (first | (go_at_call 25; refine (dSet HP.out.d.d nn ac cc ch (OpIs.C (o := ⟨3, at_, nn, x, ch⟩) (HOW.out _ HP.out.d.b)).2.2.2.1).mono ?_; rintro e w4 ⟨rfl, hp4⟩; rw [HQ.out] at hp4 ⊢; obtain ⟨F4, hp4⟩ := HP.out.onD hp4; have HP4 := Aside0.mk hp4; clear hp4) | (go_at_call 11; refine (sKnown HP4.out.d.b).mono ?_; rintro e w5 ⟨rfl, hb5⟩))
      go_ret
      exact ⟨rfl, below_trans HBA.out hb5⟩
    by_cases hq60 : q = 60 ∧ D.down = false
    · obtain ⟨rfl, hd⟩ := hq60
      have HD := Lib.hid hd
      clear hd hq0
      go_wp2_with (first | (go_at_call 25; refine (dSet HP.out.d.d nn ac cc ch (OpIs.C (o := ⟨3, at_, nn, x, ch⟩) (HOW.out _ HP.out.d.b)).2.2.2.1).mono ?_; rintro e w4 ⟨rfl, hp4⟩; rw [HQ.out] at hp4 ⊢; obtain ⟨F4, hp4⟩ := HP.out.onD hp4; have HP4 := Aside0.mk hp4; clear hp4) | (go_at_call 10; refine (sUp HP4.out.c).mono ?_; rintro e w5 ⟨rfl, rfl⟩; rw [HD.out]) | (go_at_call 11; refine (sKnown HP4.out.d.b).mono ?_; rintro e w5 ⟨rfl, hb5⟩))
      go_ret
      exact ⟨rfl, below_trans HBA.out hb5⟩
    have HSAME := Lib.hid (show D' = D from by
      rcases HID.out with h | h | h
      · exact absurd h hq0
      · exact absurd h hq60
      · exact h)
    have hdl : (loseM lits4 D).down = true := by
      unfold loseM
      split
      · assumption
      · rfl
    have HL := Lib.hid hdl
    by_cases h60 : q = 60
    · subst h60
      have HD := Lib.hid (show D.down = true by cases hd : D.down with | true => rfl | false => exact absurd ⟨rfl, hd⟩ hq60)
      clear hq60 hq0 hdl
      go_wp2_with (first | (go_at_call 25; refine (dSet HP.out.d.d nn ac cc ch (OpIs.C (o := ⟨3, at_, nn, x, ch⟩) (HOW.out _ HP.out.d.b)).2.2.2.1).mono ?_; rintro e w4 ⟨rfl, hp4⟩; rw [HQ.out] at hp4 ⊢; rw [HSAME.out] at hp4; obtain ⟨F4, hp4⟩ := HP.out.onD hp4; have HP4 := Aside0.mk hp4; clear hp4) | (go_at_call 10; refine (sUp HP4.out.c).mono ?_; rintro e w5 ⟨rfl, rfl⟩; rw [HD.out]))
      go_wp2_with (first | (go_at_call 15; with_reducible refine (prLose HP4.out HK.out).mono ?_; rintro e w6 ⟨rfl, F6, hp6⟩; have HP6 := Aside0.mk hp6; clear hp6) | (go_at_call 15; with_reducible refine (prLoseC HP6.out HK.out).mono ?_; rintro e w7 ⟨rfl, F7, hp7⟩; have HP7 := Aside0.mk hp7; clear hp7))
      go_wp2_with (first | (go_at_call 14; with_reducible refine (sBytes HP7.out.d (loseM_ok lits4 HK.out)).mono ?_; rintro e w8 ⟨A8, c8, rfl, hr8, hb8⟩; have HP8 := Aside0.mk (HP7.out.below hb8); have HR8 := Aside0.mk hr8; clear hr8 hb8) | (go_at_call 14; with_reducible refine (sBytes HP8.out.c (loseM_ok lits4 HK.out)).mono ?_; rintro e w9 ⟨A9, c9, rfl, hr9, hb9⟩; have HP9 := Aside0.mk (HP8.out.below hb9); have HR9 := Aside0.mk hr9; have HR89 := Aside0.mk (HR8.out.below hb9); clear hr9 hb9) | (go_at_call 16; with_reducible refine (Same_calls A8 c8 _ A9 c9 _ HR89.out.C HR9.out.C).mono ?_; rintro e w10 ⟨rfl, rfl⟩; rw [sameM_refl]) | (go_at_call 26; with_reducible refine (sStrokes HP9.out.d).mono ?_; rintro e w11 ⟨rfl, rfl⟩) | (go_at_call 26; with_reducible refine (sStrokes HP9.out.c).mono ?_; rintro e w11 ⟨rfl, rfl⟩) | (go_at_call 10; with_reducible refine (sUp HP9.out.d).mono ?_; rintro e w12 ⟨rfl, rfl⟩; rw [HL.out]) | (go_at_call 10; with_reducible refine (sUp HP9.out.c).mono ?_; rintro e w12 ⟨rfl, rfl⟩; rw [HL.out]) | (go_at_call 11; with_reducible refine (sKnown HP9.out.d.b).mono ?_; rintro e w13 ⟨rfl, hb13⟩))
      go_ret
      exact ⟨rfl, below_trans HBA.out hb13⟩
    · have tq0 : (q == 0) = false := by simpa using hq0
      have tq60 : (q == 60) = false := by simpa using h60
      clear hq60 hq0 hdl h60
      go_wp2_with (first | (go_at_call 25; refine (dSet HP.out.d.d nn ac cc ch (OpIs.C (o := ⟨3, at_, nn, x, ch⟩) (HOW.out _ HP.out.d.b)).2.2.2.1).mono ?_; rintro e w4 ⟨rfl, hp4⟩; rw [HQ.out] at hp4 ⊢; rw [HSAME.out] at hp4; obtain ⟨F4, hp4⟩ := HP.out.onD hp4; have HP4 := Aside0.mk hp4; clear hp4))
      go_wp2_with (first | (go_at_call 15; with_reducible refine (prLose HP4.out HK.out).mono ?_; rintro e w6 ⟨rfl, F6, hp6⟩; have HP6 := Aside0.mk hp6; clear hp6) | (go_at_call 15; with_reducible refine (prLoseC HP6.out HK.out).mono ?_; rintro e w7 ⟨rfl, F7, hp7⟩; have HP7 := Aside0.mk hp7; clear hp7))
      go_wp2_with (first | (go_at_call 14; with_reducible refine (sBytes HP7.out.d (loseM_ok lits4 HK.out)).mono ?_; rintro e w8 ⟨A8, c8, rfl, hr8, hb8⟩; have HP8 := Aside0.mk (HP7.out.below hb8); have HR8 := Aside0.mk hr8; clear hr8 hb8) | (go_at_call 14; with_reducible refine (sBytes HP8.out.c (loseM_ok lits4 HK.out)).mono ?_; rintro e w9 ⟨A9, c9, rfl, hr9, hb9⟩; have HP9 := Aside0.mk (HP8.out.below hb9); have HR9 := Aside0.mk hr9; have HR89 := Aside0.mk (HR8.out.below hb9); clear hr9 hb9) | (go_at_call 16; with_reducible refine (Same_calls A8 c8 _ A9 c9 _ HR89.out.C HR9.out.C).mono ?_; rintro e w10 ⟨rfl, rfl⟩; rw [sameM_refl]) | (go_at_call 26; with_reducible refine (sStrokes HP9.out.d).mono ?_; rintro e w11 ⟨rfl, rfl⟩) | (go_at_call 26; with_reducible refine (sStrokes HP9.out.c).mono ?_; rintro e w11 ⟨rfl, rfl⟩) | (go_at_call 10; with_reducible refine (sUp HP9.out.d).mono ?_; rintro e w12 ⟨rfl, rfl⟩; rw [HL.out]) | (go_at_call 10; with_reducible refine (sUp HP9.out.c).mono ?_; rintro e w12 ⟨rfl, rfl⟩; rw [HL.out]) | (go_at_call 11; with_reducible refine (sKnown HP9.out.d.b).mono ?_; rintro e w13 ⟨rfl, hb13⟩))
      go_ret
      exact ⟨rfl, below_trans HBA.out hb13⟩
  by_cases h8 : kd = 8
  · subst h8
    clear h1 h3
    have hba := below_alloc (Below.refl w.heap.size w) (.cells #[.int .i64 8, .int .i64 at_, .int .i64 nn, .slice ab x.length cb, .slice ac ch.length cc] 37)
    have HBA := Aside0.mk hba
    have HBK := Aside0.mk (heap_alloc_new w (.cells #[.int .i64 8, .int .i64 at_, .int .i64 nn, .slice ab x.length cb, .slice ac ch.length cc] 37))
    have HM := Aside0.mk (sMade A c y n A2 c2 l HA.out.xc (Kd.C_below HA.out.C hba) (HA.out.O.below hba) HA.out.l)
    have HOW := Aside0.mk (show ∀ W, Below (w.alloc (.cells #[.int .i64 8, .int .i64 at_, .int .i64 nn, .slice ab x.length cb, .slice ac ch.length cc] 37)).heap.size (w.alloc (.cells #[.int .i64 8, .int .i64 at_, .int .i64 nn, .slice ab x.length cb, .slice ac ch.length cc] 37)) W → OpIs W ⟨8, at_, nn, x, ch⟩ [.int .i64 8, .int .i64 at_, .int .i64 nn, .slice ab x.length cb, .slice ac ch.length cc] from fun W hW => OpIs.below HO.out (below_trans hba hW))
    clear hba
    go_enter Try.func6, Try.ntmps6
    go_wp2_with (first | (go_at_call 9; refine HM.out.mono ?_; rintro e w1 (⟨rfl, hb⟩ | ⟨g, F, D, rfl, hs, hok, hh, h1, h2⟩) <;> skip) | (refine load_atG (ty := 37) (.tmp 7) (by rfl) rfl (load_op (cell_kept (cellB HBK.out 0 _ rfl) hs.b) (cell_kept (cellB HBK.out 1 _ rfl) hs.b) (cell_kept (cellB HBK.out 2 _ rfl) hs.b) (cell_kept (cellB HBK.out 3 _ rfl) hs.b) (cell_kept (cellB HBK.out 4 _ rfl) hs.b)) rfl ?_) | (refine buildS_atG (t := 23) (n := 1) (parts := #[(0, .tmp 19)]) (by rfl) rfl (by kernel_rfl) (buildSlice23 (.int .i64 8) (.int .i64 at_) (.int .i64 nn) (.slice ab x.length cb) (.slice ac ch.length cc) w1) ?_) | (go_at_call 18; refine (long_calls _ 1 [⟨8, at_, nn, x, ch⟩] (Ops.one (heap_alloc_new w1 _) (HOW.out _ (below_trans hs.b (below_alloc (Below.refl _ _) _)))) (by simp)).mono ?_; rintro e w2 ⟨bl, rfl, ⟨m, rfl⟩, hlong⟩; have HLG := Aside0.mk hlong; clear hlong; have HS2 := Aside0.mk (hs.below (pw_below_drewN (below_alloc (Below.refl w1.heap.size w1) (.cells #[.int .i64 8, .int .i64 at_, .int .i64 nn, .slice ab x.length cb, .slice ac ch.length cc] 37)) m))) | (go_at_call 24; refine (sCopy HS2.out hok).mono ?_; rintro e w3 ⟨gc, Fc, rfl, hp, _, _⟩; have HP := Aside0.mk hp; have hc0 := cell_kept (cellB HBK.out 0 _ rfl) hp.d.b; have hc1 := cell_kept (cellB HBK.out 1 _ rfl) hp.d.b; have hc2 := cell_kept (cellB HBK.out 2 _ rfl) hp.d.b; have hc3 := cell_kept (cellB HBK.out 3 _ rfl) hp.d.b; have hc4 := cell_kept (cellB HBK.out 4 _ rfl) hp.d.b; have HK := Aside0.mk hok; have HH := Aside0.mk hh) | (go_at_call 11; refine (sKnown hb).mono ?_; rintro e w2 ⟨rfl, hb2⟩) | (go_at_call 11; refine (sKnown HS2.out.b).mono ?_; rintro e w9 ⟨rfl, hb9⟩))
    · go_ret
      exact ⟨rfl, below_trans HBA.out hb2⟩
    · go_ret
      exact ⟨rfl, below_trans HBA.out hb9⟩
    obtain ⟨D', q, hq⟩ : ∃ D' q, saveM D at_ x = (D', q) := ⟨_, _, rfl⟩
    have HID := Aside0.mk (show Idle D (D', q) by rw [← hq]; exact idle_save at_ x)
    have HQ := Lib.hid hq
    have HX := Aside0.mk (show x.length ≤ 1000000000 by have h := HLG.out (by first | rfl | assumption | simp_all); simp [wsum, wOp] at h; omega)
    clear hq hs hok hh h1 h2
    by_cases hq0 : q = 0
    · subst hq0
      go_wp2_with (first | (go_at_call 22; refine (dSave HP.out.d.d HK.out (by have := HH.out; omega) at_ ab cb x (by have := HX.out; omega) (OpIs.C (o := ⟨8, at_, nn, x, ch⟩) (HOW.out _ HP.out.d.b)).1 (fun W hW => (OpIs.C (o := ⟨8, at_, nn, x, ch⟩) (HOW.out _ (below_upd HP.out.d.b hW HP.out.d.d.lo))).2.2.1)).mono ?_; rintro e w4 ⟨rfl, hp4⟩; rw [HQ.out] at hp4 ⊢; obtain ⟨F4, hp4⟩ := HP.out.onD hp4; have HP4 := Aside0.mk hp4; clear hp4) | (go_at_call 11; refine (sKnown HP4.out.d.b).mono ?_; rintro e w5 ⟨rfl, hb5⟩))
      go_ret
      exact ⟨rfl, below_trans HBA.out hb5⟩
    by_cases hq60 : q = 60 ∧ D.down = false
    · obtain ⟨rfl, hd⟩ := hq60
      have HD := Lib.hid hd
      clear hd hq0
      go_wp2_with (first | (go_at_call 22; refine (dSave HP.out.d.d HK.out (by have := HH.out; omega) at_ ab cb x (by have := HX.out; omega) (OpIs.C (o := ⟨8, at_, nn, x, ch⟩) (HOW.out _ HP.out.d.b)).1 (fun W hW => (OpIs.C (o := ⟨8, at_, nn, x, ch⟩) (HOW.out _ (below_upd HP.out.d.b hW HP.out.d.d.lo))).2.2.1)).mono ?_; rintro e w4 ⟨rfl, hp4⟩; rw [HQ.out] at hp4 ⊢; obtain ⟨F4, hp4⟩ := HP.out.onD hp4; have HP4 := Aside0.mk hp4; clear hp4) | (go_at_call 10; refine (sUp HP4.out.c).mono ?_; rintro e w5 ⟨rfl, rfl⟩; rw [HD.out]) | (go_at_call 11; refine (sKnown HP4.out.d.b).mono ?_; rintro e w5 ⟨rfl, hb5⟩))
      go_ret
      exact ⟨rfl, below_trans HBA.out hb5⟩
    have HSAME := Lib.hid (show D' = D from by
      rcases HID.out with h | h | h
      · exact absurd h hq0
      · exact absurd h hq60
      · exact h)
    have hdl : (loseM lits4 D).down = true := by
      unfold loseM
      split
      · assumption
      · rfl
    have HL := Lib.hid hdl
    by_cases h60 : q = 60
    · subst h60
      have HD := Lib.hid (show D.down = true by cases hd : D.down with | true => rfl | false => exact absurd ⟨rfl, hd⟩ hq60)
      clear hq60 hq0 hdl
      go_wp2_with (first | (go_at_call 22; refine (dSave HP.out.d.d HK.out (by have := HH.out; omega) at_ ab cb x (by have := HX.out; omega) (OpIs.C (o := ⟨8, at_, nn, x, ch⟩) (HOW.out _ HP.out.d.b)).1 (fun W hW => (OpIs.C (o := ⟨8, at_, nn, x, ch⟩) (HOW.out _ (below_upd HP.out.d.b hW HP.out.d.d.lo))).2.2.1)).mono ?_; rintro e w4 ⟨rfl, hp4⟩; rw [HQ.out] at hp4 ⊢; rw [HSAME.out] at hp4; obtain ⟨F4, hp4⟩ := HP.out.onD hp4; have HP4 := Aside0.mk hp4; clear hp4) | (go_at_call 10; refine (sUp HP4.out.c).mono ?_; rintro e w5 ⟨rfl, rfl⟩; rw [HD.out]))
      go_wp2_with (first | (go_at_call 15; with_reducible refine (prLose HP4.out HK.out).mono ?_; rintro e w6 ⟨rfl, F6, hp6⟩; have HP6 := Aside0.mk hp6; clear hp6) | (go_at_call 15; with_reducible refine (prLoseC HP6.out HK.out).mono ?_; rintro e w7 ⟨rfl, F7, hp7⟩; have HP7 := Aside0.mk hp7; clear hp7))
      go_wp2_with (first | (go_at_call 14; with_reducible refine (sBytes HP7.out.d (loseM_ok lits4 HK.out)).mono ?_; rintro e w8 ⟨A8, c8, rfl, hr8, hb8⟩; have HP8 := Aside0.mk (HP7.out.below hb8); have HR8 := Aside0.mk hr8; clear hr8 hb8) | (go_at_call 14; with_reducible refine (sBytes HP8.out.c (loseM_ok lits4 HK.out)).mono ?_; rintro e w9 ⟨A9, c9, rfl, hr9, hb9⟩; have HP9 := Aside0.mk (HP8.out.below hb9); have HR9 := Aside0.mk hr9; have HR89 := Aside0.mk (HR8.out.below hb9); clear hr9 hb9) | (go_at_call 16; with_reducible refine (Same_calls A8 c8 _ A9 c9 _ HR89.out.C HR9.out.C).mono ?_; rintro e w10 ⟨rfl, rfl⟩; rw [sameM_refl]) | (go_at_call 26; with_reducible refine (sStrokes HP9.out.d).mono ?_; rintro e w11 ⟨rfl, rfl⟩) | (go_at_call 26; with_reducible refine (sStrokes HP9.out.c).mono ?_; rintro e w11 ⟨rfl, rfl⟩) | (go_at_call 10; with_reducible refine (sUp HP9.out.d).mono ?_; rintro e w12 ⟨rfl, rfl⟩; rw [HL.out]) | (go_at_call 10; with_reducible refine (sUp HP9.out.c).mono ?_; rintro e w12 ⟨rfl, rfl⟩; rw [HL.out]) | (go_at_call 11; with_reducible refine (sKnown HP9.out.d.b).mono ?_; rintro e w13 ⟨rfl, hb13⟩))
      go_ret
      exact ⟨rfl, below_trans HBA.out hb13⟩
    · have tq0 : (q == 0) = false := by simpa using hq0
      have tq60 : (q == 60) = false := by simpa using h60
      clear hq60 hq0 hdl h60
      go_wp2_with (first | (go_at_call 22; refine (dSave HP.out.d.d HK.out (by have := HH.out; omega) at_ ab cb x (by have := HX.out; omega) (OpIs.C (o := ⟨8, at_, nn, x, ch⟩) (HOW.out _ HP.out.d.b)).1 (fun W hW => (OpIs.C (o := ⟨8, at_, nn, x, ch⟩) (HOW.out _ (below_upd HP.out.d.b hW HP.out.d.d.lo))).2.2.1)).mono ?_; rintro e w4 ⟨rfl, hp4⟩; rw [HQ.out] at hp4 ⊢; rw [HSAME.out] at hp4; obtain ⟨F4, hp4⟩ := HP.out.onD hp4; have HP4 := Aside0.mk hp4; clear hp4))
      go_wp2_with (first | (go_at_call 15; with_reducible refine (prLose HP4.out HK.out).mono ?_; rintro e w6 ⟨rfl, F6, hp6⟩; have HP6 := Aside0.mk hp6; clear hp6) | (go_at_call 15; with_reducible refine (prLoseC HP6.out HK.out).mono ?_; rintro e w7 ⟨rfl, F7, hp7⟩; have HP7 := Aside0.mk hp7; clear hp7))
      go_wp2_with (first | (go_at_call 14; with_reducible refine (sBytes HP7.out.d (loseM_ok lits4 HK.out)).mono ?_; rintro e w8 ⟨A8, c8, rfl, hr8, hb8⟩; have HP8 := Aside0.mk (HP7.out.below hb8); have HR8 := Aside0.mk hr8; clear hr8 hb8) | (go_at_call 14; with_reducible refine (sBytes HP8.out.c (loseM_ok lits4 HK.out)).mono ?_; rintro e w9 ⟨A9, c9, rfl, hr9, hb9⟩; have HP9 := Aside0.mk (HP8.out.below hb9); have HR9 := Aside0.mk hr9; have HR89 := Aside0.mk (HR8.out.below hb9); clear hr9 hb9) | (go_at_call 16; with_reducible refine (Same_calls A8 c8 _ A9 c9 _ HR89.out.C HR9.out.C).mono ?_; rintro e w10 ⟨rfl, rfl⟩; rw [sameM_refl]) | (go_at_call 26; with_reducible refine (sStrokes HP9.out.d).mono ?_; rintro e w11 ⟨rfl, rfl⟩) | (go_at_call 26; with_reducible refine (sStrokes HP9.out.c).mono ?_; rintro e w11 ⟨rfl, rfl⟩) | (go_at_call 10; with_reducible refine (sUp HP9.out.d).mono ?_; rintro e w12 ⟨rfl, rfl⟩; rw [HL.out]) | (go_at_call 10; with_reducible refine (sUp HP9.out.c).mono ?_; rintro e w12 ⟨rfl, rfl⟩; rw [HL.out]) | (go_at_call 11; with_reducible refine (sKnown HP9.out.d.b).mono ?_; rintro e w13 ⟨rfl, hb13⟩))
      go_ret
      exact ⟨rfl, below_trans HBA.out hb13⟩
  have t1 : (kd == 1) = false := by simpa using h1
  have t3 : (kd == 3) = false := by simpa using h3
  have t8 : (kd == 8) = false := by simpa using h8
  clear h1 h3 h8
  have hba := below_alloc (Below.refl w.heap.size w) (.cells #[.int .i64 kd, .int .i64 at_, .int .i64 nn, .slice ab x.length cb, .slice ac ch.length cc] 37)
  have HBA := Aside0.mk hba
  have HBK := Aside0.mk (heap_alloc_new w (.cells #[.int .i64 kd, .int .i64 at_, .int .i64 nn, .slice ab x.length cb, .slice ac ch.length cc] 37))
  have HM := Aside0.mk (sMade A c y n A2 c2 l HA.out.xc (Kd.C_below HA.out.C hba) (HA.out.O.below hba) HA.out.l)
  have HOW := Aside0.mk (show ∀ W, Below (w.alloc (.cells #[.int .i64 kd, .int .i64 at_, .int .i64 nn, .slice ab x.length cb, .slice ac ch.length cc] 37)).heap.size (w.alloc (.cells #[.int .i64 kd, .int .i64 at_, .int .i64 nn, .slice ab x.length cb, .slice ac ch.length cc] 37)) W → OpIs W ⟨kd, at_, nn, x, ch⟩ [.int .i64 kd, .int .i64 at_, .int .i64 nn, .slice ab x.length cb, .slice ac ch.length cc] from fun W hW => OpIs.below HO.out (below_trans hba hW))
  clear hba
  go_enter Try.func6, Try.ntmps6
  go_wp2_with (first | (go_at_call 9; refine HM.out.mono ?_; rintro e w1 (⟨rfl, hb⟩ | ⟨g, F, D, rfl, hs, hok, hh, h1, h2⟩) <;> skip) | (refine load_atG (ty := 37) (.tmp 7) (by rfl) rfl (load_op (cell_kept (cellB HBK.out 0 _ rfl) hs.b) (cell_kept (cellB HBK.out 1 _ rfl) hs.b) (cell_kept (cellB HBK.out 2 _ rfl) hs.b) (cell_kept (cellB HBK.out 3 _ rfl) hs.b) (cell_kept (cellB HBK.out 4 _ rfl) hs.b)) rfl ?_) | (refine buildS_atG (t := 23) (n := 1) (parts := #[(0, .tmp 19)]) (by rfl) rfl (by kernel_rfl) (buildSlice23 (.int .i64 kd) (.int .i64 at_) (.int .i64 nn) (.slice ab x.length cb) (.slice ac ch.length cc) w1) ?_) | (go_at_call 18; refine (long_calls _ 1 [⟨kd, at_, nn, x, ch⟩] (Ops.one (heap_alloc_new w1 _) (HOW.out _ (below_trans hs.b (below_alloc (Below.refl _ _) _)))) (by simp)).mono ?_; rintro e w2 ⟨bl, rfl, ⟨m, rfl⟩, hlong⟩; have HLG := Aside0.mk hlong; clear hlong; have HS2 := Aside0.mk (hs.below (pw_below_drewN (below_alloc (Below.refl w1.heap.size w1) (.cells #[.int .i64 kd, .int .i64 at_, .int .i64 nn, .slice ab x.length cb, .slice ac ch.length cc] 37)) m))) | (go_at_call 24; refine (sCopy HS2.out hok).mono ?_; rintro e w3 ⟨gc, Fc, rfl, hp, _, _⟩; have HP := Aside0.mk hp; have hc0 := cell_kept (cellB HBK.out 0 _ rfl) hp.d.b; have hc1 := cell_kept (cellB HBK.out 1 _ rfl) hp.d.b; have hc2 := cell_kept (cellB HBK.out 2 _ rfl) hp.d.b; have hc3 := cell_kept (cellB HBK.out 3 _ rfl) hp.d.b; have hc4 := cell_kept (cellB HBK.out 4 _ rfl) hp.d.b; have HK := Aside0.mk hok; have HH := Aside0.mk hh) | (go_at_call 11; refine (sKnown hb).mono ?_; rintro e w2 ⟨rfl, hb2⟩) | (go_at_call 11; refine (sKnown HS2.out.b).mono ?_; rintro e w9 ⟨rfl, hb9⟩) | (go_at_call 11; refine (sKnown HP.out.d.b).mono ?_; rintro e w9 ⟨rfl, hb9⟩))
  all_goals go_ret
  all_goals first | exact ⟨rfl, below_trans HBA.out hb2⟩ | exact ⟨rfl, below_trans HBA.out hb9⟩
end Go.Proofs.Ytfimeiicidcoiaa.Dk
