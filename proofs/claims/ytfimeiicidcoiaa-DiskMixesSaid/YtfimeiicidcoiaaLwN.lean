/- The law DiskMixes. -/
import Derived.Test.YtfimeiicidcoiaaLwM
namespace Go.Proofs.Ytfimeiicidcoiaa.Dk
open Go.RowKit Go.Proofs.YtfimeiicidcoiaaW.PrintWords Go.Proofs.YtfimeiicidcoiaaW.PrintLast Go.Proofs.YtfimeiicidcoiaaW.PrintMore
set_option linter.unusedVariables false
set_option linter.unusedSimpArgs false
variable {w : World}
set_option maxRecDepth 20000 in
set_option maxHeartbeats 16000000 in
theorem Mixes_calls (A A2 A3 A4 : Option Addr) (c c2 c3 c4 : Nat) (y : List Int) (n : Int) (l more : List OpM) (ch : List Bool) (h : Args w A c y A2 l) (hM : Ops w A3 more) (hml : more.length ≤ 140737488351232) (hc4 : ch.length ≤ c4) (hC4 : Kd.C Kd.bool w A4 ch.length ch) :
    Calls Try.prog 4 #[.slice A y.length c, .int .i64 n, .slice A2 l.length c2, .slice A3 more.length c3, .slice A4 ch.length c4] w fun e w' => Tru w w' e := by
  have HM := Aside0.mk (sMade A c y n A2 c2 l h.xc h.C h.O h.l)
  have HO := Aside0.mk hM
  have HC4 := Aside0.mk (show ∀ W, Below w.heap.size w W → Kd.C Kd.bool W A4 ch.length ch from fun W hW => Kd.C_below hC4 hW)
  have HL4 := Aside0.mk hc4
  clear h hM hC4 hc4
  by_cases h5 : 5000 < ch.length
  · go_enter Try.func4, Try.ntmps4
    go_wp2_with (first | (go_at_call 9; refine HM.out.mono ?_; rintro e w1 (⟨rfl, hb⟩ | ⟨g, F, D, rfl, hs, hok, hh, h1, h2⟩) <;> skip) | (go_at_call 18; refine (long_calls A3 c3 more (HO.out.below hs.b) hml).mono ?_; rintro e w2 ⟨bl, rfl, ⟨m, rfl⟩, hlong⟩; have HS2 := Aside0.mk (hs.below (pw_below_drewN (Below.refl _ _) m)); clear hlong) | (go_at_call 11; refine (sKnown hb).mono ?_; rintro e w3 ⟨rfl, hb3⟩) | (go_at_call 11; refine (sKnown HS2.out.b).mono ?_; rintro e w3 ⟨rfl, hb3⟩))
    all_goals go_ret
    all_goals exact ⟨rfl, hb3⟩
  go_enter Try.func4, Try.ntmps4
  go_wp2_with (first | (go_at_call 9; refine HM.out.mono ?_; rintro e w1 (⟨rfl, hb⟩ | ⟨g, F, D, rfl, hs, hok, hh, h1, h2⟩) <;> skip) | (go_at_call 18; refine (long_calls A3 c3 more (HO.out.below hs.b) hml).mono ?_; rintro e w2 ⟨bl, rfl, ⟨m, rfl⟩, hlong⟩; have HLG := Aside0.mk hlong; have HS2 := Aside0.mk (hs.below (pw_below_drewN (Below.refl _ _) m)); clear hlong) | (go_at_call 11; refine (sKnown hb).mono ?_; rintro e w3 ⟨rfl, hb3⟩) | (go_at_call 11; refine (sKnown HS2.out.b).mono ?_; rintro e w4 ⟨rfl, hb4⟩))
  · go_ret
    exact ⟨rfl, hb3⟩
  · go_ret
    exact ⟨rfl, hb4⟩
  have HW := Aside0.mk (HLG.out (by first | rfl | assumption | simp_all))
  have HK := Aside0.mk hok
  have HSZ := Aside0.mk h2
  have HF := Aside0.mk (calm_flush (calm_start D))
  have HFE := Lib.hid HF.out.1
  have HK2 := Aside0.mk (flushM_ok (startM_ok HK.out))
  have HK1 := Aside0.mk (startM_ok HK.out)
  obtain ⟨wm, hwm⟩ : ∃ wm, w1.drewN m = wm := ⟨_, rfl⟩
  rw [hwm] at HS2 ⊢
  clear hs hok hh h1 h2 hwm HLG
  go_wp2_with (first | (go_at_call 12; (with_reducible refine (sStart HS2.out).mono ?_); rintro e w3 ⟨rfl, F3, hs3, _⟩; have HS3 := Aside0.mk hs3; clear hs3) | (go_at_call 13; (with_reducible refine (sFlush HS3.out HK1.out).mono ?_); rintro e w4 ⟨rfl, F4, hs4, _⟩; rw [HFE.out]; have HS4 := Aside0.mk hs4; clear hs4) | (go_at_call 14; (with_reducible refine (sBytes HS4.out HK2.out).mono ?_); rintro e w5 ⟨Aw, cw, rfl, hr5, hb5⟩; have HR5 := Aside0.mk hr5; have HS5 := Aside0.mk (HS4.out.below hb5); clear hr5 hb5))
  have HBL := Aside0.mk (bytes_len HS5.out)
  have HB64 := Aside0.mk (fun s hs => bytes_sec HS5.out s hs)
  have hsz5 : (flushM (startM D)).1.sec.length ≤ 100 := by rw [flushM_hs.2]; exact HSZ.out
  obtain ⟨D1, hD1⟩ : ∃ D1, (flushM (startM D)).1 = D1 := ⟨_, rfl⟩
  rw [hD1] at HF HK2 HR5 HS5 HBL HB64 hsz5 ⊢
  obtain ⟨S, hS⟩ : ∃ S, D1.sec = S := ⟨_, rfl⟩
  rw [hS] at HBL HB64 hsz5
  obtain ⟨was, hwas⟩ : ∃ was, bytesM D1 = was := ⟨_, rfl⟩
  rw [hwas] at HR5 HBL HB64 ⊢
  have HM0 := Aside0.mk (show Mx w w5 g F4 D1 S none 0 [] (.slice Aw was.length cw) was from ⟨HS5.out, HF.out.2.2.2, HK2.out, hS, Hd.nil, HR5.out⟩)
  have HH0 := Aside0.mk (show D1.held = ([] : List OpM).map opH from HF.out.2.1)
  clear hD1 hS hwas HS4 HS5 HR5
  go_wp2
  go_loopw [13, 14] (fun v13 v14 w' => ∃ (i : Nat) (F : Nat → Prop) (D : DM) (A : Option Addr) (c : Nat) (H : List OpM), v14 = .int .i64 i ∧ i ≤ more.length ∧ v13 = .slice A H.length c ∧ H.length ≤ i ∧ Aside0 (Mx w w' g F D S A c H (.slice Aw was.length cw) was) ∧ Aside0 (D.held = H.map opH)) (fun _ v14 _ => more.length - (intOf v14).toNat)
  case atStart => exact ⟨0, F4, D1, none, 0, [], rfl, Nat.zero_le _, rfl, Nat.le_refl _, HM0, HH0⟩
  case round =>
    obtain ⟨i, Fi, Di, Ah, chh, H, rfl, hi, rfl, hHi, HX, HHD⟩ := hrel
    have hwl := wsum_le more more.length
    by_cases hlt : i < more.length
    · obtain ⟨ad, ab, cb, ac, cc, o, rfl, ho, h0, h1, h2, h3, h4, hOp⟩ := HO.out.get i hlt
      obtain ⟨kd, at_, nn, x, cho⟩ := o
      dsimp only at h0 h1 h2 h3 h4 hOp ho
      have HOP := Aside0.mk hOp
      have HMd := Aside0.mk (HX.out.below (below_drew (Below.refl wr.heap.size wr)))
      have HBd := Aside0.mk HMd.out.s.b
      have HX3 := Aside0.mk (wsum_take ho)
      clear hOp ho
      by_cases hk : kd = 1
      · subst hk
        have hHn : Di.held.length < 10000000 := by
          rw [HHD.out, List.length_map]
          have : more.length ≤ 3000 := by
            have h := HW.out
            have : ∀ (l : List OpM), l.length ≤ wsum l := fun l => by
              induction l with
              | nil => exact Nat.zero_le _
              | cons o l ih =>
                have e : wsum (o :: l) = wOp o + wsum l := by simp [wsum]
                rw [e, List.length_cons, wOp]
                omega
            exact Nat.le_trans (this more) h
          omega
        have HDW := Aside0.mk (dWrite HMd.out.s.d HMd.out.ok hHn at_ ab cb x (OpIs.C (o := ⟨1, at_, nn, x, cho⟩) (HOP.out.below HBd.out)).2.2.1)
        have HOKW := Aside0.mk (writeM_ok (k := at_) (x := x) HMd.out.ok hHn)
        clear hHn
        rcases calm_write_or HMd.out.calm at_ x with ⟨he, hheld, hsec, hcalm⟩ | ⟨hne, hsame⟩
        · have HWC := Aside0.mk (show Calls Try.prog 19 #[.pointer (some ⟨g, 0, none⟩), .int .i64 at_, .slice ab x.length cb] wr.drew fun e w' => e = .returned (.int .i64 0) ∧ DPost wr.drew w' w.heap.size g Fi (writeM Di at_ x).1 by
            have h := HDW.out
            rwa [he] at h)
          have HHE := Aside0.mk hheld
          have HSE := Aside0.mk hsec
          have HCE := Aside0.mk hcalm
          clear he hheld hsec hcalm HDW
          go_wp2
          refine start_ (n := 21) (S := fun w' => w'.cell? (ad.add (i * 5)) = some (.int .i64 1) ∧ w'.cell? ⟨(ad.add (i * 5)).block, (ad.add (i * 5)).off + 1, none⟩ = some (.int .i64 at_) ∧ w'.cell? ⟨(ad.add (i * 5)).block, (ad.add (i * 5)).off + 3, none⟩ = some (.slice ab x.length cb)) (ds := []) #[false, false, false, false, false, false, false, false, false, false, false, false, false, false, false, false, false, false, false, false, false] (by kernel_rfl) rfl rfl ⟨cell_kept h0 HBd.out, cell_kept h1 HBd.out, cell_kept h3 HBd.out⟩ (fun hHeld => ?_)
          refine pure_ (i := 0) (N := some 49) (v := ?_) (a' := ?_) #[true, false, false, false, false, false, false, false, false, false, false, false, false, false, false, false, false, false, false, false, false] rfl rfl (by kernel_rfl) (fun _ _ _ h => h) (Or.inl ⟨by rfl, ?_⟩) ?_ ?_
          rotate_left
          · intro w'
            go_simp
            with_reducible rfl
          rotate_left
          · simp only [Act.put, List.setIfInBounds_toArray, List.set_cons_zero, List.set_cons_succ, i64_w, i32_w]
            rfl
          refine pure_ (i := 1) (N := some 50) (v := ?_) (a' := ?_) #[true, true, false, false, false, false, false, false, false, false, false, false, false, false, false, false, false, false, false, false, false] rfl rfl (by kernel_rfl) (fun _ _ _ h => h) (Or.inl ⟨by rfl, ?_⟩) ?_ ?_
          rotate_left
          · intro w'
            go_simp
            with_reducible rfl
          rotate_left
          · simp only [Act.put, List.setIfInBounds_toArray, List.set_cons_zero, List.set_cons_succ, i64_w, i32_w]
            rfl
          refine pure_ (i := 2) (N := some 51) (v := ?_) (a' := ?_) #[true, true, true, false, false, false, false, false, false, false, false, false, false, false, false, false, false, false, false, false, false] rfl rfl (by kernel_rfl) (fun _ _ _ h => h) (Or.inl ⟨by rfl, ?_⟩) ?_ ?_
          rotate_left
          · intro w'
            go_simp
            with_reducible rfl
          rotate_left
          · simp only [Act.put, List.setIfInBounds_toArray, List.set_cons_zero, List.set_cons_succ, i64_w, i32_w]
            rfl
          refine pure_ (i := 3) (N := some 52) (v := ?_) (a' := ?_) #[true, true, true, true, false, false, false, false, false, false, false, false, false, false, false, false, false, false, false, false, false] rfl rfl (by kernel_rfl) (fun _ _ _ h => h) (Or.inl ⟨by rfl, ?_⟩) ?_ ?_
          rotate_left
          · intro w'
            go_simp
            with_reducible rfl
          rotate_left
          · simp only [Act.put, List.setIfInBounds_toArray, List.set_cons_zero, List.set_cons_succ, i64_w, i32_w]
            rfl
          refine take_ (i := 4) (N := some 53) (v := ?_) (a' := ?_) #[true, true, true, true, true, false, false, false, false, false, false, false, false, false, false, false, false, false, false, false, false] rfl rfl (by kernel_rfl) (fun _ _ _ h => h) (Or.inl ⟨by rfl, ?_⟩) hHeld ?_ ?_
          rotate_left
          · rintro w' ⟨s0, s1, s2⟩
            go_simp
            with_reducible rfl
          rotate_left
          · simp only [Act.put, List.setIfInBounds_toArray, List.set_cons_zero, List.set_cons_succ, i64_w, i32_w]
            rfl
          refine pure_ (i := 5) (N := some 54) (v := ?_) (a' := ?_) #[true, true, true, true, true, true, false, false, false, false, false, false, false, false, false, false, false, false, false, false, false] rfl rfl (by kernel_rfl) (fun _ _ _ h => h) (Or.inl ⟨by rfl, ?_⟩) ?_ ?_
          rotate_left
          · intro w'
            go_simp
            with_reducible rfl
          rotate_left
          · simp only [Act.put, List.setIfInBounds_toArray, List.set_cons_zero, List.set_cons_succ, i64_w, i32_w]
            rfl
          refine pure_ (i := 6) (N := some 55) (v := ?_) (a' := ?_) #[true, true, true, true, true, true, true, false, false, false, false, false, false, false, false, false, false, false, false, false, false] rfl rfl (by kernel_rfl) (fun _ _ _ h => h) (Or.inl ⟨by rfl, ?_⟩) ?_ ?_
          rotate_left
          · intro w'
            go_simp
            with_reducible rfl
          rotate_left
          · simp only [Act.put, List.setIfInBounds_toArray, List.set_cons_zero, List.set_cons_succ, i64_w, i32_w]
            rfl
          refine pure_ (i := 7) (N := some 56) (v := ?_) (a' := ?_) #[true, true, true, true, true, true, true, true, false, false, false, false, false, false, false, false, false, false, false, false, false] rfl rfl (by kernel_rfl) (fun _ _ _ h => h) (Or.inl ⟨by rfl, ?_⟩) ?_ ?_
          rotate_left
          · intro w'
            go_simp
            with_reducible rfl
          rotate_left
          · simp only [Act.put, List.setIfInBounds_toArray, List.set_cons_zero, List.set_cons_succ, i64_w, i32_w]
            rfl
          refine pure_ (i := 8) (N := some 57) (v := ?_) (a' := ?_) #[true, true, true, true, true, true, true, true, true, false, false, false, false, false, false, false, false, false, false, false, false] rfl rfl (by kernel_rfl) (fun _ _ _ h => h) (Or.inl ⟨by rfl, ?_⟩) ?_ ?_
          rotate_left
          · intro w'
            go_simp
            with_reducible rfl
          rotate_left
          · simp only [Act.put, List.setIfInBounds_toArray, List.set_cons_zero, List.set_cons_succ, i64_w, i32_w]
            rfl
          refine pure_ (i := 9) (N := some 58) (v := ?_) (a' := ?_) #[true, true, true, true, true, true, true, true, true, true, false, false, false, false, false, false, false, false, false, false, false] rfl rfl (by kernel_rfl) (fun _ _ _ h => h) (Or.inl ⟨by rfl, ?_⟩) ?_ ?_
          rotate_left
          · intro w'
            go_simp
            with_reducible rfl
          rotate_left
          · simp only [Act.put, List.setIfInBounds_toArray, List.set_cons_zero, List.set_cons_succ, i64_w, i32_w]
            rfl
          refine pure_ (i := 10) (N := some 59) (v := ?_) (a' := ?_) #[true, true, true, true, true, true, true, true, true, true, true, false, false, false, false, false, false, false, false, false, false] rfl rfl (by kernel_rfl) (fun _ _ _ h => h) (Or.inl ⟨by rfl, ?_⟩) ?_ ?_
          rotate_left
          · intro w'
            go_simp
            with_reducible rfl
          rotate_left
          · simp only [Act.put, List.setIfInBounds_toArray, List.set_cons_zero, List.set_cons_succ, i64_w, i32_w]
            rfl
          refine pure_ (i := 11) (N := some 60) (v := ?_) (a' := ?_) #[true, true, true, true, true, true, true, true, true, true, true, true, false, false, false, false, false, false, false, false, false] rfl rfl (by kernel_rfl) (fun _ _ _ h => h) (Or.inl ⟨by rfl, ?_⟩) ?_ ?_
          rotate_left
          · intro w'
            go_simp
            with_reducible rfl
          rotate_left
          · simp only [Act.put, List.setIfInBounds_toArray, List.set_cons_zero, List.set_cons_succ, i64_w, i32_w]
            rfl
          refine pure_ (i := 13) (N := some 62) (v := ?_) (a' := ?_) #[true, true, true, true, true, true, true, true, true, true, true, true, false, true, false, false, false, false, false, false, false] rfl rfl (by kernel_rfl) (fun _ _ _ h => h) (Or.inl ⟨by rfl, ?_⟩) ?_ ?_
          rotate_left
          · intro w'
            go_simp
            with_reducible rfl
          rotate_left
          · simp only [Act.put, List.setIfInBounds_toArray, List.set_cons_zero, List.set_cons_succ, i64_w, i32_w]
            rfl
          refine pure_ (i := 14) (N := some 63) (v := ?_) (a' := ?_) #[true, true, true, true, true, true, true, true, true, true, true, true, false, true, true, false, false, false, false, false, false] rfl rfl (by kernel_rfl) (fun _ _ _ h => h) (Or.inl ⟨by rfl, ?_⟩) ?_ ?_
          rotate_left
          · intro w'
            go_simp
            with_reducible rfl
          rotate_left
          · simp only [Act.put, List.setIfInBounds_toArray, List.set_cons_zero, List.set_cons_succ, i64_w, i32_w]
            rfl
          refine pure_ (i := 15) (N := some 64) (v := ?_) (a' := ?_) #[true, true, true, true, true, true, true, true, true, true, true, true, false, true, true, true, false, false, false, false, false] rfl rfl (by kernel_rfl) (fun _ _ _ h => h) (Or.inl ⟨by rfl, ?_⟩) ?_ ?_
          rotate_left
          · intro w'
            go_simp
            with_reducible rfl
          rotate_left
          · simp only [Act.put, List.setIfInBounds_toArray, List.set_cons_zero, List.set_cons_succ, i64_w, i32_w]
            rfl
          refine pure_ (i := 16) (N := some 65) (v := ?_) (a' := ?_) #[true, true, true, true, true, true, true, true, true, true, true, true, false, true, true, true, true, false, false, false, false] rfl rfl (by kernel_rfl) (fun _ _ _ h => h) (Or.inl ⟨by rfl, ?_⟩) ?_ ?_
          rotate_left
          · intro w'
            go_simp
            with_reducible rfl
          rotate_left
          · simp only [Act.put, List.setIfInBounds_toArray, List.set_cons_zero, List.set_cons_succ, i64_w, i32_w]
            rfl
          refine take_ (i := 12) (N := some 61) (v := ?_) (a' := ?_) #[true, true, true, true, true, true, true, true, true, true, true, true, true, true, true, true, true, false, false, false, false] rfl rfl (by kernel_rfl) (fun _ _ _ h => h) (Or.inl ⟨by rfl, ?_⟩) hHeld ?_ ?_
          rotate_left
          · rintro w' ⟨s0, s1, s2⟩
            go_simp
            with_reducible rfl
          rotate_left
          · simp only [Act.put, List.setIfInBounds_toArray, List.set_cons_zero, List.set_cons_succ, i64_w, i32_w]
            rfl
          refine take_ (i := 17) (N := some 66) (v := ?_) (a' := ?_) #[true, true, true, true, true, true, true, true, true, true, true, true, true, true, true, true, true, true, false, false, false] rfl rfl (by kernel_rfl) (fun _ _ _ h => h) (Or.inl ⟨by rfl, ?_⟩) hHeld ?_ ?_
          rotate_left
          · rintro w' ⟨s0, s1, s2⟩
            go_simp
            with_reducible rfl
          rotate_left
          · simp only [Act.put, List.setIfInBounds_toArray, List.set_cons_zero, List.set_cons_succ, i64_w, i32_w]
            rfl
          refine one_ (i := 18) (N := some 67) #[true, true, true, true, true, true, true, true, true, true, true, true, true, true, true, true, true, true, true, false, false] rfl rfl (by kernel_rfl) (by decide) (fun K hK => ?_)
          refine goes_ Try.func19 (by kernel_rfl) rfl #[.pointer (some ⟨g, 0, none⟩), .int .i64 at_, .slice ab x.length cb] (by rfl) rfl rfl (by simp only [List.map_toArray, List.map_cons, List.map_nil]; rfl) ?_
          with_reducible refine (HWC.out).mono ?_
          rintro e w3 ⟨rfl, hp⟩
          refine ⟨_, rfl, ?_⟩
          have HP3 := Aside0.mk hp
          have HB3 := Aside0.mk (below_upd HBd.out hp.upd HMd.out.s.d.lo)
          clear hp
          refine hK.out _ _ ⟨cell_kept h0 HB3.out, cell_kept h1 HB3.out, cell_kept h3 HB3.out⟩ (fun hHeld => ?_)
          clear hK K
          refine norm_ (a' := ?_) ?_ ?_
          rotate_left
          · show Act.put _ (some 67) _ = _
            simp only [Act.put, List.setIfInBounds_toArray, List.set_cons_zero, List.set_cons_succ, i64_w, i32_w]
            rfl
          refine pure_ (i := 19) (N := some 68) (v := ?_) (a' := ?_) #[true, true, true, true, true, true, true, true, true, true, true, true, true, true, true, true, true, true, true, true, false] rfl rfl (by kernel_rfl) (fun _ _ _ h => h) (Or.inl ⟨by rfl, ?_⟩) ?_ ?_
          rotate_left
          · intro w'
            go_simp
            with_reducible rfl
          rotate_left
          · simp only [Act.put, List.setIfInBounds_toArray, List.set_cons_zero, List.set_cons_succ, i64_w, i32_w]
            rfl
          refine pure_ (i := 20) (N := some 69) (v := ?_) (a' := ?_) #[true, true, true, true, true, true, true, true, true, true, true, true, true, true, true, true, true, true, true, true, true] rfl rfl (by kernel_rfl) (fun _ _ _ h => h) (Or.inl ⟨by rfl, ?_⟩) ?_ ?_
          rotate_left
          · intro w'
            go_simp
            with_reducible rfl
          rotate_left
          · simp only [Act.put, List.setIfInBounds_toArray, List.set_cons_zero, List.set_cons_succ, i64_w, i32_w]
            rfl
          refine done_ (by kernel_rfl) ?_
          clear hHeld
          obtain ⟨F3, hs3, hd3, hr3⟩ := HMd.out.post HP3.out
          obtain ⟨L, G, hl1, hl2, hl3, hl4⟩ := hd3
          have HS3 := Aside0.mk hs3
          have HR3 := Aside0.mk hr3
          have HL1 := Aside0.mk hl1
          have HL2 := Aside0.mk hl2
          have HL3 := Aside0.mk hl3
          have HL4 := Aside0.mk hl4
          have HLO := Aside0.mk (load_op (cell_kept h0 hs3.b) (cell_kept h1 hs3.b) (cell_kept h2 hs3.b) (cell_kept h3 hs3.b) (cell_kept h4 hs3.b))
          have HB3w := Aside0.mk hs3.b
          have hLb : L.length ≤ 3000 := by
            rw [hl1]
            have : ∀ (l : List OpM), l.length ≤ wsum l := fun l => by
              induction l with
              | nil => exact Nat.zero_le _
              | cons o l ih =>
                have e : wsum (o :: l) = wOp o + wsum l := by simp [wsum]
                rw [e, List.length_cons, wOp]
                omega
            have h1 := this more
            have h2 := HW.out
            omega
          have HL3' := Aside0.mk (show Kd.R (Kd.raw 5) 37 w3 w.heap.size (fun k => G k ∨ w3.heap.size ≤ k) (.slice Ah H.length chh) L from Kd.R_mono hl3 (fun _ h => .inl h))
          clear hs3 hr3 hl1 hl2 hl3 hl4 h0 h1 h2 h3 h4
          go_wp2_with (first | (refine load_at (ty := 37) (.tmp 73) rfl rfl HLO.out rfl ?_) | (refine buildS_atG (t := 23) (n := 1) (parts := #[(0, .tmp 74)]) (by rfl) rfl (by kernel_rfl) (buildSlice23 (.int .i64 1) (.int .i64 at_) (.int .i64 nn) (.slice ab x.length cb) (.slice ac cho.length cc) w3) ?_) | ((with_reducible refine gate_builtin (b := .append) (xs := #[.tmp 70, .tmp 75]) rfl ?_); at_builtin; refine Kd.R_append (Kd.raw 5) (w0 := w) (W := w3) w.heap.size rfl (.tmp 70) (.tmp 75) 23 37 (.agg #[.int .i64 0, .int .i64 0, .int .i64 0, .slice none 0 0, .slice none 0 0]) 72 rfl Try.underlying23 info37 rfl (by decide) (by decide) (.slice Ah H.length chh) L [.int .i64 1, .int .i64 at_, .int .i64 nn, .slice ab x.length cb, .slice ac cho.length cc] [.int .i64 1, .int .i64 at_, .int .i64 nn, .slice ab x.length cb, .slice ac cho.length cc] (fun k => G k ∨ w3.heap.size ≤ k) (fun _ => False) rfl rfl ⟨rfl, rfl, by intro u hu; simp only [List.mem_cons, List.not_mem_nil, or_false] at hu; rcases hu with rfl | rfl | rfl | rfl | rfl <;> rfl⟩ (fun _ h => h.elim) (fun _ h => .inr h) HL3'.out HB3w.out HB3w.out.size (by omega) ?_; intro v9 w9 hr9 hb9 hg9 _; obtain ⟨A9, c9, rfl⟩ := Kd.R_slice hr9; have HR9 := Aside0.mk hr9; have HB9 := Aside0.mk hb9; have HG9 := Aside0.mk hg9; clear hr9 hb9 hg9))
          obtain ⟨hs9, hd9, hr9⟩ := Hd.append HS3.out HR3.out HL1.out HL2.out HL3.out HL4.out HOP.out HR9.out HB9.out HG9.out
          have HX9 := Aside0.mk (show Mx w w9 g F3 (writeM Di at_ x).1 S A9 c9 (H ++ [(⟨1, at_, nn, x, cho⟩ : OpM)]) (.slice Aw was.length cw) was from ⟨hs9, HCE.out, HOKW.out, by rw [HSE.out]; exact HMd.out.sec, hd9, hr9⟩)
          have HH9 := Aside0.mk (show (writeM Di at_ x).1.held = (H ++ [(⟨1, at_, nn, x, cho⟩ : OpM)]).map opH by rw [HHE.out, HHD.out, List.map_append]; rfl)
          have HLE := Aside0.mk HL1.out
          clear hs9 hd9 hr9
          go_roundw
          case rel => exact ⟨i + 1, F3, _, A9, c9, H ++ [(⟨1, at_, nn, x, cho⟩ : OpM)], by go_num, by omega, by rw [List.length_append, HLE.out]; rfl, by rw [List.length_append]; show _ + 1 ≤ _; omega, HX9, HH9⟩
          case measure => simp [intOf]; omega
        · obtain ⟨q, hq⟩ : ∃ q, (writeM Di at_ x).2 = q := ⟨_, rfl⟩
          rw [hq] at hne
          have tq : (q == 0) = false := by simpa using hne
          have HWC := Aside0.mk (show Calls Try.prog 19 #[.pointer (some ⟨g, 0, none⟩), .int .i64 at_, .slice ab x.length cb] wr.drew fun e w' => e = .returned (.int .i64 q) ∧ DPost wr.drew w' w.heap.size g Fi Di by
            have h := HDW.out
            rwa [hq, hsame] at h)
          clear hq hne hsame HDW
          go_wp2
          refine start_ (n := 21) (S := fun w' => w'.cell? (ad.add (i * 5)) = some (.int .i64 1) ∧ w'.cell? ⟨(ad.add (i * 5)).block, (ad.add (i * 5)).off + 1, none⟩ = some (.int .i64 at_) ∧ w'.cell? ⟨(ad.add (i * 5)).block, (ad.add (i * 5)).off + 3, none⟩ = some (.slice ab x.length cb)) (ds := []) #[false, false, false, false, false, false, false, false, false, false, false, false, false, false, false, false, false, false, false, false, false] (by kernel_rfl) rfl rfl ⟨cell_kept h0 HBd.out, cell_kept h1 HBd.out, cell_kept h3 HBd.out⟩ (fun hHeld => ?_)
          refine pure_ (i := 0) (N := some 49) (v := ?_) (a' := ?_) #[true, false, false, false, false, false, false, false, false, false, false, false, false, false, false, false, false, false, false, false, false] rfl rfl (by kernel_rfl) (fun _ _ _ h => h) (Or.inl ⟨by rfl, ?_⟩) ?_ ?_
          rotate_left
          · intro w'
            go_simp
            with_reducible rfl
          rotate_left
          · simp only [Act.put, List.setIfInBounds_toArray, List.set_cons_zero, List.set_cons_succ, i64_w, i32_w]
            rfl
          refine pure_ (i := 1) (N := some 50) (v := ?_) (a' := ?_) #[true, true, false, false, false, false, false, false, false, false, false, false, false, false, false, false, false, false, false, false, false] rfl rfl (by kernel_rfl) (fun _ _ _ h => h) (Or.inl ⟨by rfl, ?_⟩) ?_ ?_
          rotate_left
          · intro w'
            go_simp
            with_reducible rfl
          rotate_left
          · simp only [Act.put, List.setIfInBounds_toArray, List.set_cons_zero, List.set_cons_succ, i64_w, i32_w]
            rfl
          refine pure_ (i := 2) (N := some 51) (v := ?_) (a' := ?_) #[true, true, true, false, false, false, false, false, false, false, false, false, false, false, false, false, false, false, false, false, false] rfl rfl (by kernel_rfl) (fun _ _ _ h => h) (Or.inl ⟨by rfl, ?_⟩) ?_ ?_
          rotate_left
          · intro w'
            go_simp
            with_reducible rfl
          rotate_left
          · simp only [Act.put, List.setIfInBounds_toArray, List.set_cons_zero, List.set_cons_succ, i64_w, i32_w]
            rfl
          refine pure_ (i := 3) (N := some 52) (v := ?_) (a' := ?_) #[true, true, true, true, false, false, false, false, false, false, false, false, false, false, false, false, false, false, false, false, false] rfl rfl (by kernel_rfl) (fun _ _ _ h => h) (Or.inl ⟨by rfl, ?_⟩) ?_ ?_
          rotate_left
          · intro w'
            go_simp
            with_reducible rfl
          rotate_left
          · simp only [Act.put, List.setIfInBounds_toArray, List.set_cons_zero, List.set_cons_succ, i64_w, i32_w]
            rfl
          refine take_ (i := 4) (N := some 53) (v := ?_) (a' := ?_) #[true, true, true, true, true, false, false, false, false, false, false, false, false, false, false, false, false, false, false, false, false] rfl rfl (by kernel_rfl) (fun _ _ _ h => h) (Or.inl ⟨by rfl, ?_⟩) hHeld ?_ ?_
          rotate_left
          · rintro w' ⟨s0, s1, s2⟩
            go_simp
            with_reducible rfl
          rotate_left
          · simp only [Act.put, List.setIfInBounds_toArray, List.set_cons_zero, List.set_cons_succ, i64_w, i32_w]
            rfl
          refine pure_ (i := 5) (N := some 54) (v := ?_) (a' := ?_) #[true, true, true, true, true, true, false, false, false, false, false, false, false, false, false, false, false, false, false, false, false] rfl rfl (by kernel_rfl) (fun _ _ _ h => h) (Or.inl ⟨by rfl, ?_⟩) ?_ ?_
          rotate_left
          · intro w'
            go_simp
            with_reducible rfl
          rotate_left
          · simp only [Act.put, List.setIfInBounds_toArray, List.set_cons_zero, List.set_cons_succ, i64_w, i32_w]
            rfl
          refine pure_ (i := 6) (N := some 55) (v := ?_) (a' := ?_) #[true, true, true, true, true, true, true, false, false, false, false, false, false, false, false, false, false, false, false, false, false] rfl rfl (by kernel_rfl) (fun _ _ _ h => h) (Or.inl ⟨by rfl, ?_⟩) ?_ ?_
          rotate_left
          · intro w'
            go_simp
            with_reducible rfl
          rotate_left
          · simp only [Act.put, List.setIfInBounds_toArray, List.set_cons_zero, List.set_cons_succ, i64_w, i32_w]
            rfl
          refine pure_ (i := 7) (N := some 56) (v := ?_) (a' := ?_) #[true, true, true, true, true, true, true, true, false, false, false, false, false, false, false, false, false, false, false, false, false] rfl rfl (by kernel_rfl) (fun _ _ _ h => h) (Or.inl ⟨by rfl, ?_⟩) ?_ ?_
          rotate_left
          · intro w'
            go_simp
            with_reducible rfl
          rotate_left
          · simp only [Act.put, List.setIfInBounds_toArray, List.set_cons_zero, List.set_cons_succ, i64_w, i32_w]
            rfl
          refine pure_ (i := 8) (N := some 57) (v := ?_) (a' := ?_) #[true, true, true, true, true, true, true, true, true, false, false, false, false, false, false, false, false, false, false, false, false] rfl rfl (by kernel_rfl) (fun _ _ _ h => h) (Or.inl ⟨by rfl, ?_⟩) ?_ ?_
          rotate_left
          · intro w'
            go_simp
            with_reducible rfl
          rotate_left
          · simp only [Act.put, List.setIfInBounds_toArray, List.set_cons_zero, List.set_cons_succ, i64_w, i32_w]
            rfl
          refine pure_ (i := 9) (N := some 58) (v := ?_) (a' := ?_) #[true, true, true, true, true, true, true, true, true, true, false, false, false, false, false, false, false, false, false, false, false] rfl rfl (by kernel_rfl) (fun _ _ _ h => h) (Or.inl ⟨by rfl, ?_⟩) ?_ ?_
          rotate_left
          · intro w'
            go_simp
            with_reducible rfl
          rotate_left
          · simp only [Act.put, List.setIfInBounds_toArray, List.set_cons_zero, List.set_cons_succ, i64_w, i32_w]
            rfl
          refine pure_ (i := 10) (N := some 59) (v := ?_) (a' := ?_) #[true, true, true, true, true, true, true, true, true, true, true, false, false, false, false, false, false, false, false, false, false] rfl rfl (by kernel_rfl) (fun _ _ _ h => h) (Or.inl ⟨by rfl, ?_⟩) ?_ ?_
          rotate_left
          · intro w'
            go_simp
            with_reducible rfl
          rotate_left
          · simp only [Act.put, List.setIfInBounds_toArray, List.set_cons_zero, List.set_cons_succ, i64_w, i32_w]
            rfl
          refine pure_ (i := 11) (N := some 60) (v := ?_) (a' := ?_) #[true, true, true, true, true, true, true, true, true, true, true, true, false, false, false, false, false, false, false, false, false] rfl rfl (by kernel_rfl) (fun _ _ _ h => h) (Or.inl ⟨by rfl, ?_⟩) ?_ ?_
          rotate_left
          · intro w'
            go_simp
            with_reducible rfl
          rotate_left
          · simp only [Act.put, List.setIfInBounds_toArray, List.set_cons_zero, List.set_cons_succ, i64_w, i32_w]
            rfl
          refine pure_ (i := 13) (N := some 62) (v := ?_) (a' := ?_) #[true, true, true, true, true, true, true, true, true, true, true, true, false, true, false, false, false, false, false, false, false] rfl rfl (by kernel_rfl) (fun _ _ _ h => h) (Or.inl ⟨by rfl, ?_⟩) ?_ ?_
          rotate_left
          · intro w'
            go_simp
            with_reducible rfl
          rotate_left
          · simp only [Act.put, List.setIfInBounds_toArray, List.set_cons_zero, List.set_cons_succ, i64_w, i32_w]
            rfl
          refine pure_ (i := 14) (N := some 63) (v := ?_) (a' := ?_) #[true, true, true, true, true, true, true, true, true, true, true, true, false, true, true, false, false, false, false, false, false] rfl rfl (by kernel_rfl) (fun _ _ _ h => h) (Or.inl ⟨by rfl, ?_⟩) ?_ ?_
          rotate_left
          · intro w'
            go_simp
            with_reducible rfl
          rotate_left
          · simp only [Act.put, List.setIfInBounds_toArray, List.set_cons_zero, List.set_cons_succ, i64_w, i32_w]
            rfl
          refine pure_ (i := 15) (N := some 64) (v := ?_) (a' := ?_) #[true, true, true, true, true, true, true, true, true, true, true, true, false, true, true, true, false, false, false, false, false] rfl rfl (by kernel_rfl) (fun _ _ _ h => h) (Or.inl ⟨by rfl, ?_⟩) ?_ ?_
          rotate_left
          · intro w'
            go_simp
            with_reducible rfl
          rotate_left
          · simp only [Act.put, List.setIfInBounds_toArray, List.set_cons_zero, List.set_cons_succ, i64_w, i32_w]
            rfl
          refine pure_ (i := 16) (N := some 65) (v := ?_) (a' := ?_) #[true, true, true, true, true, true, true, true, true, true, true, true, false, true, true, true, true, false, false, false, false] rfl rfl (by kernel_rfl) (fun _ _ _ h => h) (Or.inl ⟨by rfl, ?_⟩) ?_ ?_
          rotate_left
          · intro w'
            go_simp
            with_reducible rfl
          rotate_left
          · simp only [Act.put, List.setIfInBounds_toArray, List.set_cons_zero, List.set_cons_succ, i64_w, i32_w]
            rfl
          refine take_ (i := 12) (N := some 61) (v := ?_) (a' := ?_) #[true, true, true, true, true, true, true, true, true, true, true, true, true, true, true, true, true, false, false, false, false] rfl rfl (by kernel_rfl) (fun _ _ _ h => h) (Or.inl ⟨by rfl, ?_⟩) hHeld ?_ ?_
          rotate_left
          · rintro w' ⟨s0, s1, s2⟩
            go_simp
            with_reducible rfl
          rotate_left
          · simp only [Act.put, List.setIfInBounds_toArray, List.set_cons_zero, List.set_cons_succ, i64_w, i32_w]
            rfl
          refine take_ (i := 17) (N := some 66) (v := ?_) (a' := ?_) #[true, true, true, true, true, true, true, true, true, true, true, true, true, true, true, true, true, true, false, false, false] rfl rfl (by kernel_rfl) (fun _ _ _ h => h) (Or.inl ⟨by rfl, ?_⟩) hHeld ?_ ?_
          rotate_left
          · rintro w' ⟨s0, s1, s2⟩
            go_simp
            with_reducible rfl
          rotate_left
          · simp only [Act.put, List.setIfInBounds_toArray, List.set_cons_zero, List.set_cons_succ, i64_w, i32_w]
            rfl
          refine one_ (i := 18) (N := some 67) #[true, true, true, true, true, true, true, true, true, true, true, true, true, true, true, true, true, true, true, false, false] rfl rfl (by kernel_rfl) (by decide) (fun K hK => ?_)
          refine goes_ Try.func19 (by kernel_rfl) rfl #[.pointer (some ⟨g, 0, none⟩), .int .i64 at_, .slice ab x.length cb] (by rfl) rfl rfl (by simp only [List.map_toArray, List.map_cons, List.map_nil]; rfl) ?_
          with_reducible refine (HWC.out).mono ?_
          rintro e w3 ⟨rfl, hp⟩
          refine ⟨_, rfl, ?_⟩
          have HP3 := Aside0.mk hp
          have HB3 := Aside0.mk (below_upd HBd.out hp.upd HMd.out.s.d.lo)
          clear hp
          refine hK.out _ _ ⟨cell_kept h0 HB3.out, cell_kept h1 HB3.out, cell_kept h3 HB3.out⟩ (fun hHeld => ?_)
          clear hK K
          refine norm_ (a' := ?_) ?_ ?_
          rotate_left
          · show Act.put _ (some 67) _ = _
            simp only [Act.put, List.setIfInBounds_toArray, List.set_cons_zero, List.set_cons_succ, i64_w, i32_w]
            rfl
          refine pure_ (i := 19) (N := some 68) (v := ?_) (a' := ?_) #[true, true, true, true, true, true, true, true, true, true, true, true, true, true, true, true, true, true, true, true, false] rfl rfl (by kernel_rfl) (fun _ _ _ h => h) (Or.inl ⟨by rfl, ?_⟩) ?_ ?_
          rotate_left
          · intro w'
            go_simp
            with_reducible rfl
          rotate_left
          · simp only [Act.put, List.setIfInBounds_toArray, List.set_cons_zero, List.set_cons_succ, i64_w, i32_w]
            rfl
          refine pure_ (i := 20) (N := some 69) (v := ?_) (a' := ?_) #[true, true, true, true, true, true, true, true, true, true, true, true, true, true, true, true, true, true, true, true, true] rfl rfl (by kernel_rfl) (fun _ _ _ h => h) (Or.inl ⟨by rfl, ?_⟩) ?_ ?_
          rotate_left
          · intro w'
            go_simp
            with_reducible rfl
          rotate_left
          · simp only [Act.put, List.setIfInBounds_toArray, List.set_cons_zero, List.set_cons_succ, i64_w, i32_w]
            rfl
          refine done_ (by kernel_rfl) ?_
          clear hHeld
          obtain ⟨F3, hs3, hd3, hr3⟩ := HMd.out.post HP3.out
          have HX9 := Aside0.mk (show Mx w w3 g F3 Di S Ah chh H (.slice Aw was.length cw) was from ⟨hs3, HMd.out.calm, HMd.out.ok, HMd.out.sec, hd3, hr3⟩)
          clear hs3 hd3 hr3 h0 h1 h2 h3 h4
          go_wp2
          go_roundw
          case rel => exact ⟨i + 1, F3, Di, Ah, chh, H, by go_num, by omega, rfl, by omega, HX9, HHD⟩
          case measure => simp [intOf]; omega
      · have tk : (kd == 1) = false := by simpa using hk
        clear hk
        go_wp2
        refine start_ (n := 21) (S := fun w' => w'.cell? (ad.add (i * 5)) = some (.int .i64 kd) ∧ w'.cell? ⟨(ad.add (i * 5)).block, (ad.add (i * 5)).off + 1, none⟩ = some (.int .i64 at_) ∧ w'.cell? ⟨(ad.add (i * 5)).block, (ad.add (i * 5)).off + 3, none⟩ = some (.slice ab x.length cb)) (ds := []) #[false, false, false, false, false, false, false, false, false, false, false, false, false, false, false, false, false, false, false, false, false] (by kernel_rfl) rfl rfl ⟨cell_kept h0 HBd.out, cell_kept h1 HBd.out, cell_kept h3 HBd.out⟩ (fun hHeld => ?_)
        refine pure_ (i := 0) (N := some 49) (v := ?_) (a' := ?_) #[true, false, false, false, false, false, false, false, false, false, false, false, false, false, false, false, false, false, false, false, false] rfl rfl (by kernel_rfl) (fun _ _ _ h => h) (Or.inl ⟨by rfl, ?_⟩) ?_ ?_
        rotate_left
        · intro w'
          go_simp
          with_reducible rfl
        rotate_left
        · simp only [Act.put, List.setIfInBounds_toArray, List.set_cons_zero, List.set_cons_succ, i64_w, i32_w]
          rfl
        refine pure_ (i := 1) (N := some 50) (v := ?_) (a' := ?_) #[true, true, false, false, false, false, false, false, false, false, false, false, false, false, false, false, false, false, false, false, false] rfl rfl (by kernel_rfl) (fun _ _ _ h => h) (Or.inl ⟨by rfl, ?_⟩) ?_ ?_
        rotate_left
        · intro w'
          go_simp
          with_reducible rfl
        rotate_left
        · simp only [Act.put, List.setIfInBounds_toArray, List.set_cons_zero, List.set_cons_succ, i64_w, i32_w]
          rfl
        refine pure_ (i := 2) (N := some 51) (v := ?_) (a' := ?_) #[true, true, true, false, false, false, false, false, false, false, false, false, false, false, false, false, false, false, false, false, false] rfl rfl (by kernel_rfl) (fun _ _ _ h => h) (Or.inl ⟨by rfl, ?_⟩) ?_ ?_
        rotate_left
        · intro w'
          go_simp
          with_reducible rfl
        rotate_left
        · simp only [Act.put, List.setIfInBounds_toArray, List.set_cons_zero, List.set_cons_succ, i64_w, i32_w]
          rfl
        refine pure_ (i := 3) (N := some 52) (v := ?_) (a' := ?_) #[true, true, true, true, false, false, false, false, false, false, false, false, false, false, false, false, false, false, false, false, false] rfl rfl (by kernel_rfl) (fun _ _ _ h => h) (Or.inl ⟨by rfl, ?_⟩) ?_ ?_
        rotate_left
        · intro w'
          go_simp
          with_reducible rfl
        rotate_left
        · simp only [Act.put, List.setIfInBounds_toArray, List.set_cons_zero, List.set_cons_succ, i64_w, i32_w]
          rfl
        refine take_ (i := 4) (N := some 53) (v := ?_) (a' := ?_) #[true, true, true, true, true, false, false, false, false, false, false, false, false, false, false, false, false, false, false, false, false] rfl rfl (by kernel_rfl) (fun _ _ _ h => h) (Or.inl ⟨by rfl, ?_⟩) hHeld ?_ ?_
        rotate_left
        · rintro w' ⟨s0, s1, s2⟩
          go_simp
          with_reducible rfl
        rotate_left
        · simp only [Act.put, List.setIfInBounds_toArray, List.set_cons_zero, List.set_cons_succ, i64_w, i32_w]
          rfl
        refine pure_ (i := 5) (N := some 54) (v := ?_) (a' := ?_) #[true, true, true, true, true, true, false, false, false, false, false, false, false, false, false, false, false, false, false, false, false] rfl rfl (by kernel_rfl) (fun _ _ _ h => h) (Or.inl ⟨by rfl, ?_⟩) ?_ ?_
        rotate_left
        · intro w'
          go_simp
          with_reducible rfl
        rotate_left
        · simp only [Act.put, List.setIfInBounds_toArray, List.set_cons_zero, List.set_cons_succ, i64_w, i32_w]
          rfl
        refine pure_ (i := 6) (N := some 55) (v := ?_) (a' := ?_) #[true, true, true, true, true, true, true, false, false, false, false, false, false, false, false, false, false, false, false, false, false] rfl rfl (by kernel_rfl) (fun _ _ _ h => h) (Or.inl ⟨by rfl, ?_⟩) ?_ ?_
        rotate_left
        · intro w'
          go_simp
          with_reducible rfl
        rotate_left
        · simp only [Act.put, List.setIfInBounds_toArray, List.set_cons_zero, List.set_cons_succ, i64_w, i32_w]
          rfl
        refine pure_ (i := 7) (N := some 56) (v := undef) (a' := ?_) #[true, true, true, true, true, true, true, true, false, false, false, false, false, false, false, false, false, false, false, false, false] rfl rfl (by kernel_rfl) (fun _ _ _ h => h) (Or.inr ⟨by rfl, rfl⟩) ?_ ?_
        rotate_left
        · simp only [Act.put, List.setIfInBounds_toArray, List.set_cons_zero, List.set_cons_succ, i64_w, i32_w]
          rfl
        refine pure_ (i := 8) (N := some 57) (v := undef) (a' := ?_) #[true, true, true, true, true, true, true, true, true, false, false, false, false, false, false, false, false, false, false, false, false] rfl rfl (by kernel_rfl) (fun _ _ _ h => h) (Or.inr ⟨by rfl, rfl⟩) ?_ ?_
        rotate_left
        · simp only [Act.put, List.setIfInBounds_toArray, List.set_cons_zero, List.set_cons_succ, i64_w, i32_w]
          rfl
        refine pure_ (i := 9) (N := some 58) (v := undef) (a' := ?_) #[true, true, true, true, true, true, true, true, true, true, false, false, false, false, false, false, false, false, false, false, false] rfl rfl (by kernel_rfl) (fun _ _ _ h => h) (Or.inr ⟨by rfl, rfl⟩) ?_ ?_
        rotate_left
        · simp only [Act.put, List.setIfInBounds_toArray, List.set_cons_zero, List.set_cons_succ, i64_w, i32_w]
          rfl
        refine pure_ (i := 10) (N := some 59) (v := undef) (a' := ?_) #[true, true, true, true, true, true, true, true, true, true, true, false, false, false, false, false, false, false, false, false, false] rfl rfl (by kernel_rfl) (fun _ _ _ h => h) (Or.inr ⟨by rfl, rfl⟩) ?_ ?_
        rotate_left
        · simp only [Act.put, List.setIfInBounds_toArray, List.set_cons_zero, List.set_cons_succ, i64_w, i32_w]
          rfl
        refine pure_ (i := 11) (N := some 60) (v := undef) (a' := ?_) #[true, true, true, true, true, true, true, true, true, true, true, true, false, false, false, false, false, false, false, false, false] rfl rfl (by kernel_rfl) (fun _ _ _ h => h) (Or.inr ⟨by rfl, rfl⟩) ?_ ?_
        rotate_left
        · simp only [Act.put, List.setIfInBounds_toArray, List.set_cons_zero, List.set_cons_succ, i64_w, i32_w]
          rfl
        refine pure_ (i := 12) (N := some 61) (v := undef) (a' := ?_) #[true, true, true, true, true, true, true, true, true, true, true, true, true, false, false, false, false, false, false, false, false] rfl rfl (by kernel_rfl) (fun _ _ _ h => h) (Or.inr ⟨by rfl, rfl⟩) ?_ ?_
        rotate_left
        · simp only [Act.put, List.setIfInBounds_toArray, List.set_cons_zero, List.set_cons_succ, i64_w, i32_w]
          rfl
        refine pure_ (i := 13) (N := some 62) (v := undef) (a' := ?_) #[true, true, true, true, true, true, true, true, true, true, true, true, true, true, false, false, false, false, false, false, false] rfl rfl (by kernel_rfl) (fun _ _ _ h => h) (Or.inr ⟨by rfl, rfl⟩) ?_ ?_
        rotate_left
        · simp only [Act.put, List.setIfInBounds_toArray, List.set_cons_zero, List.set_cons_succ, i64_w, i32_w]
          rfl
        refine pure_ (i := 14) (N := some 63) (v := undef) (a' := ?_) #[true, true, true, true, true, true, true, true, true, true, true, true, true, true, true, false, false, false, false, false, false] rfl rfl (by kernel_rfl) (fun _ _ _ h => h) (Or.inr ⟨by rfl, rfl⟩) ?_ ?_
        rotate_left
        · simp only [Act.put, List.setIfInBounds_toArray, List.set_cons_zero, List.set_cons_succ, i64_w, i32_w]
          rfl
        refine pure_ (i := 15) (N := some 64) (v := undef) (a' := ?_) #[true, true, true, true, true, true, true, true, true, true, true, true, true, true, true, true, false, false, false, false, false] rfl rfl (by kernel_rfl) (fun _ _ _ h => h) (Or.inr ⟨by rfl, rfl⟩) ?_ ?_
        rotate_left
        · simp only [Act.put, List.setIfInBounds_toArray, List.set_cons_zero, List.set_cons_succ, i64_w, i32_w]
          rfl
        refine pure_ (i := 16) (N := some 65) (v := undef) (a' := ?_) #[true, true, true, true, true, true, true, true, true, true, true, true, true, true, true, true, true, false, false, false, false] rfl rfl (by kernel_rfl) (fun _ _ _ h => h) (Or.inr ⟨by rfl, rfl⟩) ?_ ?_
        rotate_left
        · simp only [Act.put, List.setIfInBounds_toArray, List.set_cons_zero, List.set_cons_succ, i64_w, i32_w]
          rfl
        refine pure_ (i := 17) (N := some 66) (v := undef) (a' := ?_) #[true, true, true, true, true, true, true, true, true, true, true, true, true, true, true, true, true, true, false, false, false] rfl rfl (by kernel_rfl) (fun _ _ _ h => h) (Or.inr ⟨by rfl, rfl⟩) ?_ ?_
        rotate_left
        · simp only [Act.put, List.setIfInBounds_toArray, List.set_cons_zero, List.set_cons_succ, i64_w, i32_w]
          rfl
        refine pure_ (i := 18) (N := some 67) (v := undef) (a' := ?_) #[true, true, true, true, true, true, true, true, true, true, true, true, true, true, true, true, true, true, true, false, false] rfl rfl (by kernel_rfl) (fun _ _ _ h => h) (Or.inr ⟨by rfl, rfl⟩) ?_ ?_
        rotate_left
        · simp only [Act.put, List.setIfInBounds_toArray, List.set_cons_zero, List.set_cons_succ, i64_w, i32_w]
          rfl
        refine pure_ (i := 19) (N := some 68) (v := undef) (a' := ?_) #[true, true, true, true, true, true, true, true, true, true, true, true, true, true, true, true, true, true, true, true, false] rfl rfl (by kernel_rfl) (fun _ _ _ h => h) (Or.inr ⟨by rfl, rfl⟩) ?_ ?_
        rotate_left
        · simp only [Act.put, List.setIfInBounds_toArray, List.set_cons_zero, List.set_cons_succ, i64_w, i32_w]
          rfl
        refine pure_ (i := 20) (N := some 69) (v := ?_) (a' := ?_) #[true, true, true, true, true, true, true, true, true, true, true, true, true, true, true, true, true, true, true, true, true] rfl rfl (by kernel_rfl) (fun _ _ _ h => h) (Or.inl ⟨by rfl, ?_⟩) ?_ ?_
        rotate_left
        · intro w'
          go_simp
          with_reducible rfl
        rotate_left
        · simp only [Act.put, List.setIfInBounds_toArray, List.set_cons_zero, List.set_cons_succ, i64_w, i32_w]
          rfl
        refine done_ (by kernel_rfl) ?_
        clear hHeld h0 h1 h2 h3 h4
        go_wp2
        go_roundw
        case rel => exact ⟨i + 1, Fi, Di, Ah, chh, H, by go_num, by omega, rfl, by omega, HMd, HHD⟩
        case measure => simp [intOf]; omega
    · obtain rfl : i = more.length := by omega
      obtain ⟨wA, hwA⟩ : ∃ wA, wA = wr := ⟨_, rfl⟩
      subst hwA
      have HLEN := Lib.hid (show Di.held.length = H.length by rw [HHD.out, List.length_map])
      have HKL := Aside0.mk (loseM_ok ch HX.out.ok)
      have HDL := Aside0.mk (dLose HX.out.s.d HX.out.ok A4 c4 ch HL4.out (fun W hW => HC4.out W (below_upd HX.out.s.b hW HX.out.s.d.lo)))
      have HHL := Aside0.mk (show H.length ≤ 3000 by
        have hle : ∀ (l : List OpM), l.length ≤ wsum l := fun l => by
          induction l with
          | nil => exact Nat.zero_le _
          | cons o l ih =>
            have e : wsum (o :: l) = wOp o + wsum l := by simp [wsum]
            rw [e, List.length_cons, wOp]
            omega
        have h1 := hle more
        have h2 := HW.out
        omega)
      clear hwl hHi
      go_wp2_with (first | (go_at_call 17; (with_reducible refine (sHeld HX.out.s).mono ?_); rintro e w6 ⟨rfl, rfl⟩; rw [HLEN.out]) | (go_at_call 15; (with_reducible refine HDL.out.mono ?_); rintro e w6 ⟨rfl, hp⟩; obtain ⟨F6, hs6, hd6, hr6⟩ := HX.out.post hp; have HS6 := Aside0.mk hs6; have HD6 := Aside0.mk hd6; have HR6 := Aside0.mk hr6; clear hp hs6 hd6 hr6) | (go_at_call 14; (with_reducible refine (sBytes HS6.out HKL.out).mono ?_); rintro e w7 ⟨An, cn, rfl, hr7, hb7⟩; have hnl : (bytesM (loseM ch Di)).length = was.length := (by rw [bytes_len HS6.out, (loseM_hs ch).2, HX.out.sec, HBL.out]); rw [hnl] at hr7 ⊢; clear hnl; have HN7 := Aside0.mk hr7; have HS7 := Aside0.mk (HS6.out.below hb7); have HD7 := Aside0.mk (HD6.out.below hb7); have HR7 := Aside0.mk (HR6.out.below hb7); clear hr7 hb7))
      have htd : (was.length : Int).tdiv 64 = S.length := by
        rw [HBL.out, Int.tdiv_eq_ediv_of_nonneg (by omega)]
        omega
      have HCASE := Aside0.mk (show ∀ s : Nat, (loseM ch Di).sec.getD s [] = S.getD s [] ∨ ∃ (j : Nat) (o : OpM), H[j]? = some o ∧ o.at_ = (s : Int) ∧ o.b = (loseM ch Di).sec.getD s [] from fun s => by
        rcases lose_at (D := Di) ch s (fun h hh => (HX.out.ok.at_ h hh).1) with h | ⟨j, h1, h2, h3⟩
        · exact .inl (by rw [h, HX.out.sec])
        · right
          rw [HHD.out] at h1 h2 h3
          rw [List.length_map] at h1
          refine ⟨j, H[j], List.getElem?_eq_getElem h1, ?_, ?_⟩
          · rw [← h2, List.getD_eq_getElem?_getD, List.getElem?_map, List.getElem?_eq_getElem h1]
            rfl
          · rw [h3, List.getD_eq_getElem?_getD, List.getElem?_map, List.getElem?_eq_getElem h1]
            rfl)
      have HSL := Aside0.mk (show (loseM ch Di).sec.length = S.length by rw [(loseM_hs ch).2, HX.out.sec])
      have HNC := Aside0.mk (show ∀ s, s < S.length → ((bytesM (loseM ch Di)).take (64 * s + 64)).drop (64 * s) = (loseM ch Di).sec.getD s [] from fun s hs => bytes_sec HS7.out s (by rw [HSL.out]; exact hs))
      have HN64 := Aside0.mk (show ∀ s, s < S.length → ((loseM ch Di).sec.getD s []).length = 64 from fun s hs => secs64 HS7.out s (by rw [HSL.out]; exact hs))
      obtain ⟨now, hnow⟩ : ∃ now, bytesM (loseM ch Di) = now := ⟨_, rfl⟩
      rw [hnow] at HN7 HNC
      obtain ⟨S2, hS2⟩ : ∃ S2, (loseM ch Di).sec = S2 := ⟨_, rfl⟩
      rw [hS2] at HCASE HNC HN64
      clear hnow hS2
      obtain ⟨wZ, hwZ⟩ : ∃ wZ, wZ = w7 := ⟨_, rfl⟩
      subst hwZ
      go_loopw [16] (fun v16 w' => ∃ s : Nat, v16 = .int .i64 s ∧ s ≤ S.length ∧ w' = wZ) (fun v16 _ => S.length - (intOf v16).toNat)
      case atStart => exact ⟨0, rfl, Nat.zero_le _, rfl⟩
      case round =>
        obtain ⟨s, rfl, hs, hwr⟩ := hrel
        subst hwr
        by_cases hlt : s < S.length
        · have htn1 : (64 * (s : Int)).toNat = 64 * s := by omega
          have htn2 : (64 * (s : Int) + 64).toNat = 64 * s + 64 := by omega
          have hwl2 : 64 * s + 64 ≤ was.length := by have := HBL.out; omega
          have hcn : was.length ≤ cn := HN7.out.cap.2.1
          have hcw : was.length ≤ cw := HR7.out.cap.2.1
          have hmn := Kd.C_mid (lo := 64 * s) (hi := 64 * s + 64) (c := cn) HN7.out.cap.2.2 (by omega) (by rw [← HN7.out.cap.1]; exact hwl2) (by rw [← HN7.out.cap.1]; exact hcn)
          have hmw := Kd.C_mid (lo := 64 * s) (hi := 64 * s + 64) (c := cw) HR7.out.cap.2.2 (by omega) (by omega) (by omega)
          have e1 : 64 * s * (Kd.int .u8).sz = 64 * s := Nat.mul_one _
          rw [if_neg (by omega), HNC.out s hlt, e1] at hmn
          rw [if_neg (by omega), HB64.out s hlt, e1] at hmw
          have hx64 := HN64.out s hlt
          have hcase := HCASE.out s
          have hy64 : (S.getD s []).length = 64 := by
            have h := Kd.C_len hmw
            have h2 := HB64.out s hlt
            rw [← h2, List.length_drop, List.length_take]
            omega
          obtain ⟨xs, hxs⟩ : ∃ xs, S2.getD s [] = xs := ⟨_, rfl⟩
          obtain ⟨ys, hys⟩ : ∃ ys, S.getD s [] = ys := ⟨_, rfl⟩
          rw [hxs] at hmn hx64 hcase
          rw [hys] at hmw hy64 hcase
          have HMN := Aside0.mk hmn
          have HMW := Aside0.mk hmw
          have HX64 := Aside0.mk hx64
          have HY64 := Aside0.mk hy64
          have HCS := Aside0.mk hcase
          clear hmn hmw hx64 hy64 hcase e1 hxs hys
          go_wp2_with (first | (go_at_call 16; (with_reducible refine (Same_n _ _ 64 xs _ _ 64 ys HX64.out HY64.out HMN.out HMW.out).mono ?_); rintro e w8 ⟨rfl, rfl⟩))
          obtain ⟨wY, hwY⟩ : ∃ wY, wY = wr := ⟨_, rfl⟩
          subst hwY
          go_loopw [18, 19] (fun v18 v19 w' => ∃ (b : Bool) (i : Nat), v18 = .bool b ∧ v19 = .int .i64 i ∧ i ≤ H.length ∧ Aside0 (b = true ∨ ∃ (j : Nat) (o : OpM), i ≤ j ∧ H[j]? = some o ∧ o.at_ = (s : Int) ∧ o.b = xs) ∧ w' = wY) (fun _ v19 _ => H.length - (intOf v19).toNat)
          case atStart =>
            refine ⟨sameM xs ys, 0, rfl, rfl, Nat.zero_le _, ⟨?_⟩, rfl⟩
            rcases HCS.out with h | ⟨j, o, h1, h2, h3⟩
            · exact .inl (by rw [h]; exact sameM_refl _)
            · exact .inr ⟨j, o, Nat.zero_le _, h1, h2, h3⟩
          case round =>
            obtain ⟨b, i, rfl, rfl, hi, HBB, hwr⟩ := hrel
            subst hwr
            by_cases hil : i < H.length
            · have hHb : H.length ≤ 3000 := HHL.out
              cases b with
              | true =>
                go_wp2
                go_roundw
                case rel => exact ⟨true, i + 1, rfl, by go_num, by omega, ⟨.inl rfl⟩, trivial⟩
                case measure => simp [intOf]; omega
              | false =>
                obtain ⟨gh, ab, cb, o, rfl, ho, hc1, hc3, hCo, ha⟩ := HD7.out.get HS7.out.b i hil
                have HO9 := Aside0.mk ho
                have HCo := Aside0.mk hCo
                clear ho hCo ha
                by_cases hat : o.at_ = (s : Int)
                · have tat : (o.at_ == (s : Int)) = true := by simpa using hat
                  have HAT := Lib.hid hat
                  clear hat
                  go_wp2_with (first | (go_at_call 16; (with_reducible refine (Same_n _ _ 64 xs _ _ _ o.b HX64.out rfl HMN.out HCo.out).mono ?_); rintro e w8 ⟨rfl, rfl⟩))
                  go_roundw
                  case rel =>
                    refine ⟨sameM xs o.b, i + 1, rfl, by go_num, by omega, ⟨?_⟩, trivial⟩
                    rcases HBB.out with h | ⟨j, o', h1, h2, h3, h4⟩
                    · exact absurd h (by decide)
                    · by_cases hji : j = i
                      · subst hji
                        rw [HO9.out] at h2
                        injection h2 with h2
                        subst h2
                        exact .inl (by rw [h4]; exact sameM_refl _)
                      · exact .inr ⟨j, o', by omega, h2, h3, h4⟩
                  case measure => simp [intOf]; omega
                · have tat : (o.at_ == (s : Int)) = false := by simpa using hat
                  have HAT := Aside0.mk hat
                  clear hat
                  go_wp2
                  go_roundw
                  case rel =>
                    refine ⟨false, i + 1, rfl, by go_num, by omega, ⟨?_⟩, trivial⟩
                    rcases HBB.out with h | ⟨j, o', h1, h2, h3, h4⟩
                    · exact absurd h (by decide)
                    · by_cases hji : j = i
                      · subst hji
                        rw [HO9.out] at h2
                        injection h2 with h2
                        subst h2
                        exact absurd h3 HAT.out
                      · exact .inr ⟨j, o', by omega, h2, h3, h4⟩
                  case measure => simp [intOf]; omega
            · have hb : b = true := by
                rcases HBB.out with h | ⟨j, o', h1, h2, _⟩
                · exact h
                · have := (List.getElem?_eq_some_iff.1 h2).1
                  omega
              subst hb
              clear HBB
              obtain rfl : i = H.length := by omega
              clear hi hil htn1 htn2 hwl2 hcn hcw htd
              go_wp2
              go_roundw
              case rel => exact ⟨s + 1, by go_num, by omega, by first | rfl | trivial⟩
              case measure =>
                show S.length - ((s : Int) + 1).toNat < S.length - ((s : Int)).toNat
                omega
        · go_wp2_with (first | (go_at_call 11; refine (sKnown HS7.out.b).mono ?_; rintro e w9 ⟨rfl, hb9⟩))
          go_ret
          exact ⟨rfl, hb9⟩
end Go.Proofs.Ytfimeiicidcoiaa.Dk
