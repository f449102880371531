/- The law DiskCopies. -/
import Derived.Test.YtfimeiicidcoiaaLwX
namespace Go.Proofs.Ytfimeiicidcoiaa.Dk
open Go.RowKit Go.Proofs.YtfimeiicidcoiaaW.PrintWords Go.Proofs.YtfimeiicidcoiaaW.PrintLast Go.Proofs.YtfimeiicidcoiaaW.PrintMore
set_option linter.unusedVariables false
set_option linter.unusedSimpArgs false
variable {w : World}
structure Tri (w0 w : World) (g : Nat) (F : Nat → Prop) (D : DM) (gc : Nat) (Fc : Nat → Prop) (gk : Nat) (Fk : Nat → Prop) : Prop where
  d : St w0 w g F D
  c : St w0 w gc Fc D
  k : St w0 w gk Fk D
  dc : ∀ k, F k → ¬ Fc k
  dk : ∀ k, F k → ¬ Fk k
  ck : ∀ k, Fc k → ¬ Fk k
theorem Tri.below {w0 w w' : World} {g gc gk : Nat} {F Fc Fk : Nat → Prop} {D : DM} (h : Tri w0 w g F D gc Fc gk Fk) (hb : Below w.heap.size w w') : Tri w0 w' g F D gc Fc gk Fk := ⟨h.d.below hb, h.c.below hb, h.k.below hb, h.dc, h.dk, h.ck⟩
theorem Tri.of {w0 w w' : World} {g gc gk : Nat} {F Fc Fk : Nat → Prop} {D : DM} (h : Pr w0 w g F D gc Fc D) (h2 : Pr w0 w' g F D gk Fk D) (hk : ∀ k, Fk k → w.heap.size ≤ k) (hb : Below w.heap.size w w') : Tri w0 w' g F D gc Fc gk Fk :=
  ⟨h2.d, h.c.below hb, h2.c, h.ap, h2.ap, fun k h1 h3 => by have := h.c.d.lt k h1; have := hk k h3; omega⟩
set_option maxHeartbeats 16000000 in
theorem Copies_calls (A A2 A4 : Option Addr) (c c2 c4 : Nat) (y : List Int) (n : Int) (l more : List OpM) (h : Args w A c y A2 l) (hM : Ops w A4 more) (hml : more.length ≤ 140737488351232) :
    Calls Try.prog 7 #[.slice A y.length c, .int .i64 n, .slice A2 l.length c2, .slice A4 more.length c4] w fun e w' => Tru w w' e := by
  have HM := Aside0.mk (sMade A c y n A2 c2 l h.xc h.C h.O h.l)
  have HO := Aside0.mk hM
  clear h hM
  go_enter Try.func7, Try.ntmps7
  go_wp2_with (first | (go_at_call 9; refine HM.out.mono ?_; rintro e w1 (⟨rfl, hb⟩ | ⟨g, F, D, rfl, hs, hok, hh, h1, h2⟩) <;> skip) | (go_at_call 18; refine (long_calls A4 c4 more (HO.out.below hs.b) hml).mono ?_; rintro e w2 ⟨bl, rfl, ⟨m, rfl⟩, hlong⟩; have HLG := Aside0.mk hlong; have HS2 := Aside0.mk (hs.below (pw_below_drewN (Below.refl _ _) m)); clear hlong) | (go_at_call 11; refine (sKnown hb).mono ?_; rintro e w3 ⟨rfl, hb3⟩) | (go_at_call 11; refine (sKnown HS2.out.b).mono ?_; rintro e w4 ⟨rfl, hb4⟩))
  · go_ret
    exact ⟨rfl, hb3⟩
  · go_ret
    exact ⟨rfl, hb4⟩
  have HW := Aside0.mk (HLG.out (by first | rfl | assumption | simp_all))
  have HK := Aside0.mk hok
  have HH := Aside0.mk hh
  have HB0 := Aside0.mk (bytes_small HS2.out h2)
  obtain ⟨wm, hwm⟩ : ∃ wm, w1.drewN m = wm := ⟨_, rfl⟩
  rw [hwm] at HS2 ⊢
  clear hs hok hh h1 h2 hwm HLG
  go_wp2_with (first | (go_at_call 24; with_reducible refine (sCopy HS2.out HK.out).mono ?_; rintro e w3 ⟨gc, Fc, rfl, hp, _, _⟩; have HP3 := Aside0.mk hp; clear hp) | (go_at_call 24; with_reducible refine (sCopy HP3.out.d HK.out).mono ?_; rintro e w4 ⟨gk, Fk, rfl, hp, hk, hb⟩; have HT4 := Aside0.mk (Tri.of HP3.out hp hk hb); clear hp hk hb) | (go_at_call 14; with_reducible refine (sBytesR HT4.out.d HK.out).mono ?_; rintro e w5 ⟨Ax, cx, rfl, hr5, hb5⟩; have HR5 := Aside0.mk hr5; have HB5 := Aside0.mk hb5; clear hr5 hb5))
  obtain ⟨nb, hnb⟩ : ∃ nb, (bytesM D).length = nb := ⟨_, rfl⟩
  obtain ⟨xs0, hxs0⟩ : ∃ xs, bytesM D = xs := ⟨_, rfl⟩
  rw [hnb] at HB0
  have HR5' := Aside0.mk (show Kd.R (Kd.int .u8) 5 w5 w4.heap.size (fun k => w4.heap.size ≤ k) (.slice Ax nb cx) xs0 by rw [← hnb, ← hxs0]; exact HR5.out)
  have HX0 := Aside0.mk (show xs0.length = nb by rw [← hxs0]; exact hnb)
  have hnb2 := HB0.out
  rw [hnb]
  clear HR5 hnb hxs0
  go_loopw [13] (fun v13 w' => ∃ (i : Nat) (xs : List Int), v13 = .int .i64 i ∧ i ≤ nb ∧ Aside0 (Kd.R (Kd.int .u8) 5 w' w4.heap.size (fun k => w4.heap.size ≤ k) (.slice Ax nb cx) xs) ∧ Aside0 (xs.length = nb) ∧ Aside0 (Below w4.heap.size w4 w')) (fun v13 _ => nb - (intOf v13).toNat)
  case atStart => exact ⟨0, xs0, rfl, Nat.zero_le _, HR5', HX0, HB5⟩
  case round =>
    obtain ⟨i, xs, rfl, hi, HR, HL, HB⟩ := hrel
    by_cases hlt : i < nb
    · rcases R_cases HR.out with ⟨_, hz⟩ | ⟨bx, capx, ex, hbx⟩
      · have := HL.out
        rw [hz] at this
        exact absurd this (by simp; omega)
      injection ex with ex1 ex2 ex3
      subst ex1
      clear ex2 ex3
      have HRx := Aside0.mk (show Kd.R (Kd.int .u8) 5 wr w4.heap.size (fun k => w4.heap.size ≤ k) (.slice (some ⟨bx, 0, none⟩) xs.length cx) xs by rw [HL.out]; exact HR.out)
      obtain ⟨hcell, hfr⟩ := Kd.R_cell (0 : Int) HRx.out (i : Int) (by omega) (by have := HL.out; omega)
      obtain ⟨hput, hgr⟩ := Kd.R_put HRx.out (i : Int) (9 : Int)
      rw [Int.toNat_natCast] at hcell hfr hput hgr
      have HPUT := Aside0.mk hput
      have HGR := Aside0.mk (show Below w4.heap.size w4 (wr.setCell ⟨bx, i, none⟩ (.int .u8 9)) from below_set HB.out (HR.out.1 bx rfl))
      clear hput hgr
      go_wp2
      go_roundw
      case rel => exact ⟨i + 1, xs.set i 9, by go_num, by omega, ⟨by have := HPUT.out; rwa [HL.out] at this⟩, ⟨by rw [List.length_set]; exact HL.out⟩, HGR⟩
      case measure => simp [intOf]; omega
    · obtain rfl : i = nb := by omega
      have HT5 := Aside0.mk (HT4.out.below HB.out)
      clear HR HL
      obtain ⟨wA, hwA⟩ : ∃ wA, wA = wr := ⟨_, rfl⟩
      subst hwA
      go_wp2_with (first | (go_at_call 27; (with_reducible refine (sRead HT5.out.d HK.out 0).mono ?_); rintro e w6 ⟨Y, my, cy, by_, ny, rfl, hm6, hby, hb6, hrow⟩; have HT6 := Aside0.mk (HT5.out.below hb6); have HROW := Aside0.mk hrow; have HBY := Aside0.mk hby; have HB6 := Aside0.mk hb6; clear hby hrow hb6))
      go_loopw [16] (fun v16 w' => ∃ i : Nat, v16 = .int .i64 i ∧ i ≤ my ∧ Aside0 (Below wA.heap.size wA w') ∧ Aside0 (0 < my → Y = some ⟨by_, 0, none⟩ ∧ ∃ cs : Array Value, w'.heap[by_]? = some (.cells cs 64 (0, 0)) ∧ cs.size = my)) (fun v16 _ => my - (intOf v16).toNat)
      case atStart => exact ⟨0, rfl, Nat.zero_le _, HB6, HROW⟩
      case round =>
        obtain ⟨j, rfl, hj, HBj, HRj⟩ := hrel
        by_cases hlt : j < my
        · obtain ⟨rfl, cs, hcs, hsz⟩ := HRj.out (by omega)
          have hcj : ∃ u, cs[j]? = some u := ⟨cs[j]'(by omega), Array.getElem?_eq_getElem _⟩
          obtain ⟨u, hu⟩ := hcj
          have hcell := cellB hcs j u hu
          have hfr : wr.frozen? ⟨by_, j, none⟩ = false := by simp [World.frozen?, hcs]
          have HS2 := Aside0.mk (show 0 < my → some (⟨by_, 0, none⟩ : Addr) = some ⟨by_, 0, none⟩ ∧ ∃ cs : Array Value, (wr.setCell ⟨by_, j, none⟩ (.int .u8 8)).heap[by_]? = some (.cells cs 64 (0, 0)) ∧ cs.size = my from fun _ => ⟨rfl, _, heap_setCell_same wr by_ j _ 64 _ hcs, by simp [hsz]⟩)
          have HB8 := Aside0.mk (show Below wA.heap.size wA (wr.setCell ⟨by_, j, none⟩ (.int .u8 8)) from below_set HBj.out HBY.out)
          clear hcs hsz hu HRj
          go_wp2
          go_roundw
          case rel => exact ⟨j + 1, by go_num, by omega, HB8, ⟨by simpa using HS2.out⟩⟩
          case measure => simp [intOf]; omega
        · obtain rfl : j = my := by omega
          have HT7 := Aside0.mk (HT5.out.below HBj.out)
          obtain ⟨wB, hwB⟩ : ∃ wB, wB = wr := ⟨_, rfl⟩
          subst hwB
          clear HROW HBj HRj HB6 HT6
          go_wp2_with (first | (go_at_call 28; (refine (rNew_calls none 0 [] 1 (by decide) (by decide) (Kd.C_nil _ _) (by unfold newBad; decide)).mono ?_); rintro e w8 ⟨g2, R, rfl, hr8, hok8, hw8, hc8, _, hb8⟩; have HR8 := Aside0.mk hr8; have HOK8 := Aside0.mk hok8; have HW8 := Aside0.mk hw8; have HC8 := Aside0.mk hc8; have HB8 := Aside0.mk hb8; have HT8 := Aside0.mk (HT7.out.below hb8); clear hr8 hok8 hw8 hc8 hb8))
          have HF2 := Aside0.mk (HR8.out.lo)
          have HTW := Aside0.mk (show Two w8 w.heap.size g F D g2 (fun k => wB.heap.size ≤ k ∧ k < w8.heap.size) R from by
            refine ⟨HT8.out.d.d, ?_, fun k h1 h2 => by have := HT7.out.d.d.lt k h1; omega⟩
            obtain ⟨_, _, _, h⟩ := HR8.out
            exact ⟨_, _, _, h.lower HT7.out.d.b.size HC8.out⟩)
          have HL0 := Aside0.mk (show Lp w w8 w8 g D g2 (fun k => Fc k ∨ Fk k) more 0 0 from lp_start HTW.out HK.out HOK8.out HH.out (by rw [HW8.out]; exact Nat.le_refl _) (fun k h1 h2 => h2.elim (HT8.out.dc k h1) (HT8.out.dk k h1)) (fun k h1 h2 => h2.elim (fun h2 => by have := HT7.out.c.d.lt k h2; omega) (fun h2 => by have := HT7.out.k.d.lt k h2; omega)) HT8.out.d.b)
          have HKK := Aside0.mk (show ∀ k, (Fc k ∨ Fk k) → k < w8.heap.size from fun k h => h.elim (HT8.out.c.d.lt k) (HT8.out.k.d.lt k))
          go_loopw [19] (fun v19 w' => ∃ i : Nat, v19 = .int .i64 i ∧ i ≤ more.length ∧ Aside0 (Lp w w8 w' g D g2 (fun k => Fc k ∨ Fk k) more i 0)) (fun v19 _ => more.length - (intOf v19).toNat)
          case atStart => exact ⟨0, rfl, Nat.zero_le _, HL0⟩
          case round =>
            obtain ⟨i, rfl, hi, HL⟩ := hrel
            by_cases hlt : i < more.length
            · obtain ⟨ad, ab, cb, ac, cc, o, rfl, ho, h0, h1, h2, h3, h4, hOp⟩ := HO.out.get i hlt
              obtain ⟨kd, at_, nn, x, ch⟩ := o
              have hb : Below w.heap.size w wr := by obtain ⟨_, _, _, _, _, _, _, _, _, _, _, hb⟩ := HL.out; exact hb
              have HLO := Aside0.mk (load_op (cell_kept h0 hb) (cell_kept h1 hb) (cell_kept h2 hb) (cell_kept h3 hb) (cell_kept h4 hb))
              have HP := Aside0.mk (lp_step HL.out HKK.out (by decide) HW.out ho (fun W hW => OpIs.below hOp hW))
              clear h0 h1 h2 h3 h4 hOp ho hb
              go_wp2_with (first | (refine load_at (ty := 37) (.tmp 81) rfl rfl HLO.out rfl ?_) | (go_at_call 29; (with_reducible refine HP.out.mono ?_); rintro e w9 ⟨⟨b9, rfl⟩, hL9⟩; have HL9 := Aside0.mk hL9; clear hL9))
              go_roundw
              case rel => exact ⟨i + 1, by go_num, by omega, HL9⟩
              case measure => simp [intOf]; omega
            · obtain rfl : i = more.length := by omega
              obtain ⟨wC, hwC⟩ : ∃ wC, wC = wr := ⟨_, rfl⟩
              subst hwC
              obtain ⟨F1, F21, R1, hT1, hD1, hR1, hh1, hw1, hk1, hk2, hu1, hb1⟩ := HL.out
              rw [playsM_all] at hT1 hD1 hh1
              have HT1 := Aside0.mk hT1
              have HD1 := Aside0.mk hD1
              have HC1 := Aside0.mk (show St w wC gc Fc D from HT8.out.c.stay hu1 (fun k h => .inl h) hb1)
              have HK1 := Aside0.mk (show St w wC gk Fk D from HT8.out.k.stay hu1 (fun k h => .inr h) hb1)
              have HTC := Aside0.mk (show Two wC w.heap.size gc Fc D g2 F21 R1 from ⟨HC1.out.d, hT1.r, fun k h1 h2 => hk2 k h2 (.inl h1)⟩)
              have HL2 := Aside0.mk (show Lp w wC wC gc D g2 (fun k => F1 k ∨ Fk k) more 0 3000 from lp_start HTC.out HK.out hR1 HH.out (by have := HW.out; have := wsum_le more more.length; omega) (fun k h1 h2 => h2.elim (fun h2 => hk1 k h2 (.inl h1)) (HT8.out.ck k h1)) (fun k h1 h2 => h2.elim (fun h2 => hT1.ap k h2 h1) (fun h2 => hk2 k h1 (.inr h2))) hb1)
              have HKK2 := Aside0.mk (show ∀ k, (F1 k ∨ Fk k) → k < wC.heap.size from fun k h => h.elim (hT1.d.lt k) (HK1.out.d.lt k))
              have HB1 := Aside0.mk hb1
              clear hT1 hD1 hR1 hh1 hw1 hk1 hk2 hu1 hb1 HL
              go_wp2
              go_loopw [20] (fun v20 w' => ∃ i : Nat, v20 = .int .i64 i ∧ i ≤ more.length ∧ Aside0 (Lp w wC w' gc D g2 (fun k => F1 k ∨ Fk k) more i 3000)) (fun v20 _ => more.length - (intOf v20).toNat)
              case atStart => exact ⟨0, rfl, Nat.zero_le _, HL2⟩
              case round =>
                obtain ⟨i, rfl, hi, HL⟩ := hrel
                by_cases hlt : i < more.length
                · obtain ⟨ad, ab, cb, ac, cc, o, rfl, ho, h0, h1, h2, h3, h4, hOp⟩ := HO.out.get i hlt
                  obtain ⟨kd, at_, nn, x, ch⟩ := o
                  have hb : Below w.heap.size w wr := by obtain ⟨_, _, _, _, _, _, _, _, _, _, _, hb⟩ := HL.out; exact hb
                  have HLO := Aside0.mk (load_op (cell_kept h0 hb) (cell_kept h1 hb) (cell_kept h2 hb) (cell_kept h3 hb) (cell_kept h4 hb))
                  have HP := Aside0.mk (lp_step HL.out HKK2.out (by decide) HW.out ho (fun W hW => OpIs.below hOp hW))
                  clear h0 h1 h2 h3 h4 hOp ho hb
                  go_wp2_with (first | (refine load_at (ty := 37) (.tmp 94) rfl rfl HLO.out rfl ?_) | (go_at_call 29; (with_reducible refine HP.out.mono ?_); rintro e w9 ⟨⟨b9, rfl⟩, hL9⟩; have HL9 := Aside0.mk hL9; clear hL9))
                  go_roundw
                  case rel => exact ⟨i + 1, by go_num, by omega, HL9⟩
                  case measure => simp [intOf]; omega
                · obtain rfl : i = more.length := by omega
                  obtain ⟨wD, hwD⟩ : ∃ wD, wD = wr := ⟨_, rfl⟩
                  subst hwD
                  obtain ⟨F3, F23, R3, hT3, hD3, hR3, hh3, hw3, hk3, hk4, hu3, hb3⟩ := HL.out
                  rw [playsM_all] at hT3
                  have HSD := Aside0.mk (show St w wD g F1 (playsM D more) from St.stay ⟨HT1.out.d, HB1.out⟩ hu3 (fun k h => .inl h) hb3)
                  have HSK := Aside0.mk (show St w wD gk Fk D from HK1.out.stay hu3 (fun k h => .inr h) hb3)
                  have HSC := Aside0.mk (show St w wD gc F3 (playsM D more) from ⟨hT3.d, hb3⟩)
                  clear hT3 hD3 hR3 hh3 hw3 hk3 hk4 hu3 hb3 HL
                  by_cases hm0 : more.length = 0
                  · have HE := Lib.hid (show playsM D more = D by rw [List.eq_nil_of_length_eq_zero hm0]; rfl)
                    go_wp2_with (first | (go_at_call 14; (with_reducible refine (sBytes HSD.out HD1.out).mono ?_); rintro e w10 ⟨A10, c10, rfl, hr10, hb10⟩; have HR10 := Aside0.mk hr10; have HSD10 := Aside0.mk (HSD.out.below hb10); have HSC10 := Aside0.mk (HSC.out.below hb10); have HSK10 := Aside0.mk (HSK.out.below hb10); clear hr10 hb10) | (go_at_call 14; (with_reducible refine (sBytes HSC10.out HD1.out).mono ?_); rintro e w11 ⟨A11, c11, rfl, hr11, hb11⟩; have HR11 := Aside0.mk hr11; have HR10b := Aside0.mk (HR10.out.below hb11); have HSD11 := Aside0.mk (HSD10.out.below hb11); have HSC11 := Aside0.mk (HSC10.out.below hb11); have HSK11 := Aside0.mk (HSK10.out.below hb11); clear hr11 hb11) | (go_at_call 16; (with_reducible refine (Same_calls A10 c10 _ A11 c11 _ HR10b.out.C HR11.out.C).mono ?_); rintro e w12 ⟨rfl, rfl⟩; rw [sameM_refl]))
                    go_wp2_with (first | (go_at_call 10; (with_reducible refine (sUp HSD11.out).mono ?_); rintro e w12 ⟨rfl, rfl⟩) | (go_at_call 10; (with_reducible refine (sUp HSC11.out).mono ?_); rintro e w12 ⟨rfl, rfl⟩) | (go_at_call 17; (with_reducible refine (sHeld HSD11.out).mono ?_); rintro e w12 ⟨rfl, rfl⟩) | (go_at_call 17; (with_reducible refine (sHeld HSC11.out).mono ?_); rintro e w12 ⟨rfl, rfl⟩) | (go_at_call 26; (with_reducible refine (sStrokes HSD11.out).mono ?_); rintro e w12 ⟨rfl, rfl⟩) | (go_at_call 26; (with_reducible refine (sStrokes HSC11.out).mono ?_); rintro e w12 ⟨rfl, rfl⟩))
                    go_wp2_with (first | (go_at_call 14; (with_reducible refine (sBytes HSK11.out HK.out).mono ?_); rintro e w13 ⟨A13, c13, rfl, hr13, hb13⟩; have HR13 := Aside0.mk hr13; have HSD13 := Aside0.mk (HSD11.out.below hb13); clear hr13 hb13) | (go_at_call 14; (with_reducible refine (sBytes HSD13.out HD1.out).mono ?_); rintro e w14 ⟨A14, c14, rfl, hr14, hb14⟩; rw [HE.out] at hr14; rw [HE.out]; have HR14 := Aside0.mk hr14; have HR13b := Aside0.mk (HR13.out.below hb14); have HSD14 := Aside0.mk (HSD13.out.below hb14); clear hr14 hb14) | (go_at_call 16; (with_reducible refine (Same_calls A13 c13 _ A14 c14 _ HR13b.out.C HR14.out.C).mono ?_); rintro e w15 ⟨rfl, rfl⟩; rw [sameM_refl]) | (go_at_call 11; (with_reducible refine (sKnown HSD14.out.b).mono ?_); rintro e w16 ⟨rfl, hb16⟩))
                    go_ret
                    exact ⟨rfl, hb16⟩
                  · have hm1 : decide ((0 : Int) < (more.length : Int)) = true := decide_eq_true (by omega)
                    go_wp2_with (first | (go_at_call 14; (with_reducible refine (sBytes HSD.out HD1.out).mono ?_); rintro e w10 ⟨A10, c10, rfl, hr10, hb10⟩; have HR10 := Aside0.mk hr10; have HSD10 := Aside0.mk (HSD.out.below hb10); have HSC10 := Aside0.mk (HSC.out.below hb10); have HSK10 := Aside0.mk (HSK.out.below hb10); clear hr10 hb10) | (go_at_call 14; (with_reducible refine (sBytes HSC10.out HD1.out).mono ?_); rintro e w11 ⟨A11, c11, rfl, hr11, hb11⟩; have HR11 := Aside0.mk hr11; have HR10b := Aside0.mk (HR10.out.below hb11); have HSD11 := Aside0.mk (HSD10.out.below hb11); have HSC11 := Aside0.mk (HSC10.out.below hb11); have HSK11 := Aside0.mk (HSK10.out.below hb11); clear hr11 hb11) | (go_at_call 16; (with_reducible refine (Same_calls A10 c10 _ A11 c11 _ HR10b.out.C HR11.out.C).mono ?_); rintro e w12 ⟨rfl, rfl⟩; rw [sameM_refl]))
                    go_wp2_with (first | (go_at_call 10; (with_reducible refine (sUp HSD11.out).mono ?_); rintro e w12 ⟨rfl, rfl⟩) | (go_at_call 10; (with_reducible refine (sUp HSC11.out).mono ?_); rintro e w12 ⟨rfl, rfl⟩) | (go_at_call 17; (with_reducible refine (sHeld HSD11.out).mono ?_); rintro e w12 ⟨rfl, rfl⟩) | (go_at_call 17; (with_reducible refine (sHeld HSC11.out).mono ?_); rintro e w12 ⟨rfl, rfl⟩) | (go_at_call 26; (with_reducible refine (sStrokes HSD11.out).mono ?_); rintro e w12 ⟨rfl, rfl⟩) | (go_at_call 26; (with_reducible refine (sStrokes HSC11.out).mono ?_); rintro e w12 ⟨rfl, rfl⟩) | (go_at_call 11; (with_reducible refine (sKnown HSD11.out.b).mono ?_); rintro e w16 ⟨rfl, hb16⟩))
                    go_ret
                    exact ⟨rfl, hb16⟩
end Go.Proofs.Ytfimeiicidcoiaa.Dk
