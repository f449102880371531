/- Functions of the program and of its laws, each with a Lean function and the proof that a call comes to what that function tells, under the conditions that its contract names. (Laid by a program of this session, out of the translation; Lean checks it.) -/
import Derived.Test.YtmmpppahagknpaaPx0
import Derived.Test.YtmmpppahagknpaaPx1
namespace Go.Proofs.Ytmmpppahagknpaa.P
open Go.RowKit Go.Proofs.YtmmpppahagknpaaW.PrintWords Go.Proofs.YtmmpppahagknpaaW.PrintLast Go.Proofs.YtmmpppahagknpaaW.PrintMore
attribute [local go_sem] max2_int min2_int max_two min_two max_three min_three max_four min_four   -- for this text's walks alone
set_option linter.unusedVariables false
set_option linter.unusedSimpArgs false

/-! ### words_Kind: function 18 -/
mutual
def words_Kind.j0 : Nat → List Int → Int → Int → Int → Bool → Option (Int × Int)
  | 0, _, _, _, _, _ => none
  | k + 1, x0, x4, x5, x6, x32 => if x32 = true then (some (0, 1)) else (if 0 ≤ (wrap64 (7 - x5)) then (if 1 ≤ x5 then (if x5 ≤ (x0.length : Int) then (words_Kind.l0 k x5 x6 (Go.bits .and .u32 ((x4) % 4294967296) (((shl .u32 1 (wrap64 (7 - x5))) - 1) % 4294967296)) ((x0.take (x5 : Int).toNat).drop 1) (((x0.take (x5 : Int).toNat).drop 1).length : Int) 0) else (none)) else (none)) else (none))
def words_Kind.l0 : Nat → Int → Int → Int → List Int → Int → Int → Option (Int × Int)
  | 0, _, _, _, _, _, _ => none
  | k + 1, x5, x6, x7, x42, x43, x44 => if x44 < x43 then (if 0 ≤ x44 then (if x44 < (x42.length : Int) then (if (Go.bits .and .u8 (rd x42 x44) 192) = 128 then (words_Kind.l0 k x5 x6 (Go.bits .or .u32 ((x7 * 64) % 4294967296) ((Go.bits .and .u8 (rd x42 x44) 63) % 4294967296)) x42 x43 (wrap64 (x44 + 1))) else (some (0, 1))) else (none)) else (none)) else (if x7 < x6 then (some (0, 1)) else (if x7 > 1114111 then (some (0, 1)) else (if x7 ≥ 55296 then (if x7 ≤ 57343 then (some (0, 1)) else (some (1, x5))) else (some (1, x5)))))
end
def words_Kind.f (k : Nat) (l0 : List Int) : Option (Int × Int) := if (l0.length : Int) = 0 then (some ((-1), 0)) else (if 0 < (l0.length : Int) then (if (rd l0 0) < 128 then ((words_low.f k (rd l0 0)).bind fun t102 => (some (t102, 1))) else ((words_shape.f k (rd l0 0)).bind fun bt103 => (if bt103.1 = 0 then (words_Kind.j0 k l0 (rd l0 0) bt103.1 bt103.2 true) else (words_Kind.j0 k l0 (rd l0 0) bt103.1 bt103.2 (decide ((l0.length : Int) < bt103.1)))))) else (none))
theorem words_Kind.mono_l : ∀ k, (∀ y0 y1 y2 y3 y4, LeO (words_Kind.j0 k y0 y1 y2 y3 y4) (words_Kind.j0 (k + 1) y0 y1 y2 y3 y4)) ∧ (∀ y0 y1 y2 y3 y4 y5, LeO (words_Kind.l0 k y0 y1 y2 y3 y4 y5) (words_Kind.l0 (k + 1) y0 y1 y2 y3 y4 y5))
  | 0 => ⟨fun _ _ _ _ _ r h => by simp [words_Kind.j0] at h, fun _ _ _ _ _ _ r h => by simp [words_Kind.l0] at h⟩
  | k + 1 => by
    obtain ⟨ih0, ih1⟩ := words_Kind.mono_l k
    refine ⟨?_, ?_⟩
    · intro y0 y1 y2 y3 y4
      unfold words_Kind.j0
      repeat' first
      | (with_reducible exact ih0 _ _ _ _ _)
      | (with_reducible exact ih1 _ _ _ _ _ _)
      | (with_reducible exact words_low.mono _ _)
      | (with_reducible exact words_shape.mono _ _)
      | (with_reducible exact LeO.refl _)
      | (with_reducible exact LeO.none _)
      | (with_reducible refine LeO.ite ?_ ?_)
      | (with_reducible refine LeO.bind ?_ (fun _ => ?_))
      | exact ih0 _ _ _ _ _
      | exact ih1 _ _ _ _ _ _
      | exact words_low.mono _ _
      | exact words_shape.mono _ _
      | exact LeO.none _
      | refine LeO.ite ?_ ?_
      | refine LeO.bind ?_ (fun _ => ?_)
    · intro y0 y1 y2 y3 y4 y5
      unfold words_Kind.l0
      repeat' first
      | (with_reducible exact ih0 _ _ _ _ _)
      | (with_reducible exact ih1 _ _ _ _ _ _)
      | (with_reducible exact words_low.mono _ _)
      | (with_reducible exact words_shape.mono _ _)
      | (with_reducible exact LeO.refl _)
      | (with_reducible exact LeO.none _)
      | (with_reducible refine LeO.ite ?_ ?_)
      | (with_reducible refine LeO.bind ?_ (fun _ => ?_))
      | exact ih0 _ _ _ _ _
      | exact ih1 _ _ _ _ _ _
      | exact words_low.mono _ _
      | exact words_shape.mono _ _
      | exact LeO.none _
      | refine LeO.ite ?_ ?_
      | refine LeO.bind ?_ (fun _ => ?_)
theorem words_Kind.mono : ∀ a0 k, LeO (words_Kind.f k a0) (words_Kind.f (k + 1) a0) := by
  intro a0 k
  obtain ⟨ih0, ih1⟩ := words_Kind.mono_l k
  unfold words_Kind.f
  repeat' first
      | (with_reducible exact ih0 _ _ _ _ _)
      | (with_reducible exact ih1 _ _ _ _ _ _)
      | (with_reducible exact words_low.mono _ _)
      | (with_reducible exact words_shape.mono _ _)
      | (with_reducible exact LeO.refl _)
      | (with_reducible exact LeO.none _)
      | (with_reducible refine LeO.ite ?_ ?_)
      | (with_reducible refine LeO.bind ?_ (fun _ => ?_))
      | exact ih0 _ _ _ _ _
      | exact ih1 _ _ _ _ _ _
      | exact words_low.mono _ _
      | exact words_shape.mono _ _
      | exact LeO.none _
      | refine LeO.ite ?_ ?_
      | refine LeO.bind ?_ (fun _ => ?_)
set_option maxHeartbeats 8000000 in
set_option maxRecDepth 100000 in
theorem words_Kind.calls (k : Nat) (A0 : Option Addr) (c0 : Nat) (l0 : List Int) (r1 : Int) (r2 : Int) (w : World) (hr0 : Kd.C (Kd.int .u8) w A0 l0.length l0) (hc0 : l0.length ≤ c0) (h : words_Kind.f k l0 = some (r1, r2)) :
    Calls Try.prog 18 #[.slice A0 l0.length c0] w fun e w' => e = .returned (.tuple #[.int .i64 r1, .int .i64 r2]) ∧ Drawn0 w w' := by
  have HR0 := Aside0.mk hr0
  have HC0 := Aside0.mk hc0
  clear hr0 hc0
  have H : (if (l0.length : Int) = 0 then (some ((-1), 0)) else (if 0 < (l0.length : Int) then (if (rd l0 0) < 128 then ((words_low.f k (rd l0 0)).bind fun t102 => (some (t102, 1))) else ((words_shape.f k (rd l0 0)).bind fun bt103 => (if bt103.1 = 0 then (words_Kind.j0 k l0 (rd l0 0) bt103.1 bt103.2 true) else (words_Kind.j0 k l0 (rd l0 0) bt103.1 bt103.2 (decide ((l0.length : Int) < bt103.1)))))) else (none))) = some (r1, r2) := h
  clear h
  by_cases c2 : (l0.length : Int) = 0
  · rw [if_pos c2] at H
    have c2b0 : ((l0.length : Int) == 0) = true := beq_iff_eq.mpr c2
    have c2b1 : ((l0.length : Int) != 0) = false := bne_eq_false_iff_eq.mpr c2
    clear c2
    simp only [Option.some.injEq, Prod.mk.injEq] at H
    obtain ⟨rfl, rfl⟩ := H
    go_enter Try.func18, Try.ntmps18
    go_wp2
    go_ret2
    exact ⟨by first | rfl | (simp; done) | (simp [*]; done), by repeat (first | exact Drawn0.refl _ | apply Drawn0.step)⟩
  · rw [if_neg c2] at H
    have c2b0 : ((l0.length : Int) == 0) = false := beq_eq_false_iff_ne.mpr c2
    have c2b1 : ((l0.length : Int) != 0) = true := bne_iff_ne.mpr c2
    have c2b2 : ¬ (l0 = []) := fun h_ => c2 (by rw [h_]; rfl)
    by_cases c3 : 0 < (l0.length : Int)
    · rw [if_pos c3] at H
      have c3b0 : decide (0 < (l0.length : Int)) = true := decide_eq_true c3
      have c3b1 : decide (0 < l0.length) = true := decide_eq_true (by omega)
      clear c3
      by_cases c4 : (rd l0 0) < 128
      · rw [if_pos c4] at H
        have c4b0 : decide ((rd l0 0) < 128) = true := decide_eq_true c4
        clear c4
        replace H := Option.bind_eq_some_iff.mp H
        obtain ⟨t102, A50, H⟩ := H
        replace H : (some (t102, 1)) = some (r1, r2) := H
        have A5 := Aside0.mk A50
        clear A50
        simp only [Option.some.injEq, Prod.mk.injEq] at H
        obtain ⟨rfl, rfl⟩ := H
        have p101 : 0 ≤ (0 : Int) := (by omega)
        have q101 : 0 < (l0.length : Int) := of_decide_eq_true (by first | (with_reducible assumption) | assumption)
        obtain ⟨ad101, e101, hx101_0⟩ := Kd.at_int HR0.out 0 p101 q101
        cases e101
        have qi101 : (0 < l0.length) = True := eq_true (by omega)
        (try rw [show ((0 : Int)).toNat = 0 from rfl] at hx101_0)
        (try rw [Addr.add_zero'] at hx101_0)
        replace p101 := eq_true p101
        replace q101 := eq_true q101
        go_enter Try.func18, Try.ntmps18
        go_wp2_with (first | ((with_reducible refine gate_callee (f := 30) rfl ?_); refine goesL_ (some 19) rfl rfl Try.func30 (by kernel_rfl) rfl #[.int .u8 (rd l0 0)] rfl (by (try simp only [List.map_toArray, List.map_cons, List.map_nil]); first | done | rfl | (simp only [List.length_drop, List.length_take]; rfl)) ?_; (with_reducible refine (words_low.calls k (rd l0 0) t102 _ A5.out).mono ?_); rintro e w' ⟨rfl, ⟨nd, rfl⟩⟩; refine ⟨_, rfl, ?_⟩))
        go_ret2
        exact ⟨by first | rfl | (simp; done) | (simp [*]; done), by repeat (first | exact Drawn0.refl _ | apply Drawn0.step)⟩
      · rw [if_neg c4] at H
        have c4b0 : decide ((rd l0 0) < 128) = false := decide_eq_false c4
        clear c4
        replace H := Option.bind_eq_some_iff.mp H
        obtain ⟨⟨t103, t104⟩, A60, H⟩ := H
        replace H : (if t103 = 0 then (words_Kind.j0 k l0 (rd l0 0) t103 t104 true) else (words_Kind.j0 k l0 (rd l0 0) t103 t104 (decide ((l0.length : Int) < t103)))) = some (r1, r2) := H
        have A6 := Aside0.mk A60
        clear A60
        have HC7 := Aside0.mk H
        clear H
        have p101 : 0 ≤ (0 : Int) := (by omega)
        have q101 : 0 < (l0.length : Int) := of_decide_eq_true (by first | (with_reducible assumption) | assumption)
        obtain ⟨ad101, e101, hx101_0⟩ := Kd.at_int HR0.out 0 p101 q101
        cases e101
        have qi101 : (0 < l0.length) = True := eq_true (by omega)
        (try rw [show ((0 : Int)).toNat = 0 from rfl] at hx101_0)
        (try rw [Addr.add_zero'] at hx101_0)
        replace p101 := eq_true p101
        replace q101 := eq_true q101
        go_enter Try.func18, Try.ntmps18
        go_upto_region 7 with (first | ((with_reducible refine gate_callee (f := 31) rfl ?_); refine goesL_ (some 22) rfl rfl Try.func31 (by kernel_rfl) rfl #[.int .u8 (rd l0 0)] rfl (by (try simp only [List.map_toArray, List.map_cons, List.map_nil]); first | done | rfl | (simp only [List.length_drop, List.length_take]; rfl)) ?_; (with_reducible refine (words_shape.calls k (rd l0 0) t103 t104 _ A6.out).mono ?_); rintro e w' ⟨rfl, ⟨nd, rfl⟩⟩; refine ⟨_, rfl, ?_⟩))
        (try simp only [Act.put, List.setIfInBounds_toArray, List.set_cons_zero, List.set_cons_succ])
        go_cut [32] (fun v32 wc => ∃ (kq : Nat) (x32_6 : Bool), v32 = .bool x32_6 ∧ Aside0 (words_Kind.j0 kq l0 (rd l0 0) t103 t104 x32_6 = some (r1, r2)) ∧ Aside0 (kq ≤ k) ∧ Drawn0 w wc)
        case first =>
          have H := HC7.out
          clear HC7
          by_cases c8 : t103 = 0
          · rw [if_pos c8] at H
            have c8b0 : (t103 == 0) = true := beq_iff_eq.mpr c8
            have c8b1 : (t103 != 0) = false := bne_eq_false_iff_eq.mpr c8
            clear c8
            (first | rw [c8b0] | (simp only [i64_w, i32_w]; rw [c8b0]) | skip)
            have H' := Aside0.mk H
            clear H
            go_wp2
            go_meet
            case rel => exact ⟨_, (true), (by first | rfl | (simp; done) | (simp [*]; done)), H', ⟨by first | omega | exact Nat.le_refl _⟩, by repeat (first | exact Drawn0.refl _ | apply Drawn0.step)⟩
          · rw [if_neg c8] at H
            have c8b0 : (t103 == 0) = false := beq_eq_false_iff_ne.mpr c8
            have c8b1 : (t103 != 0) = true := bne_iff_ne.mpr c8
            (first | rw [c8b0] | (simp only [i64_w, i32_w]; rw [c8b0]) | skip)
            have H' := Aside0.mk H
            clear H
            go_wp2
            go_meet
            case rel => exact ⟨_, (decide ((l0.length : Int) < t103)), (by first | rfl | (simp; done) | (simp [*]; done)), H', ⟨by first | omega | exact Nat.le_refl _⟩, by repeat (first | exact Drawn0.refl _ | apply Drawn0.step)⟩
        case rest =>
          clear HC7
          try clear c1
          try clear p1
          try clear q1
          try clear hx1
          try clear qi1
          try clear c2
          try clear c2b0
          try clear c2b1
          try clear c2b2
          try clear p2
          try clear c3
          try clear c3b0
          try clear c3b1
          try clear c4
          try clear c4b0
          try clear c8
          try clear c8b0
          try clear c8b1
          try clear hx101_0
          try clear p101
          try clear q101
          obtain ⟨kq, x32_6, rfl, HA, HJ6, ⟨mc6, rfl⟩⟩ := hcut
          cases kq with
          | zero => exact absurd HA.out (by simp [words_Kind.j0])
          | succ kj6 =>
            have H := HA.out
            clear HA
            simp only [words_Kind.j0] at H
            by_cases c9 : x32_6 = true
            · subst c9
              have H1 : (some (0, 1)) = some (r1, r2) := by rw [if_pos rfl] at H; exact H
              clear H
              have H := H1
              clear H1
              simp only [Option.some.injEq, Prod.mk.injEq] at H
              obtain ⟨rfl, rfl⟩ := H
              go_wp2
              go_ret2
              exact ⟨by first | rfl | (simp; done) | (simp [*]; done), by repeat (first | exact Drawn0.refl _ | apply Drawn0.step)⟩
            · replace c9 := Bool.eq_false_iff.mpr c9
              subst c9
              have H1 : (if 0 ≤ (wrap64 (7 - t103)) then (if 1 ≤ t103 then (if t103 ≤ (l0.length : Int) then (words_Kind.l0 kj6 t103 t104 (Go.bits .and .u32 (((rd l0 0)) % 4294967296) (((shl .u32 1 (wrap64 (7 - t103))) - 1) % 4294967296)) ((l0.take (t103 : Int).toNat).drop 1) (((l0.take (t103 : Int).toNat).drop 1).length : Int) 0) else (none)) else (none)) else (none)) = some (r1, r2) := by rw [if_neg (show ¬ (false = true) by decide)] at H; exact H
              clear H
              have H := H1
              clear H1
              obtain ⟨ji10, hji10⟩ : ∃ j_ : Int, (wrap64 (7 - t103)) = j_ := ⟨_, rfl⟩
              replace H : (if 0 ≤ (ji10) then (if 1 ≤ t103 then (if t103 ≤ (l0.length : Int) then (words_Kind.l0 kj6 t103 t104 (Go.bits .and .u32 (((rd l0 0)) % 4294967296) (((shl .u32 1 (ji10)) - 1) % 4294967296)) ((l0.take (t103 : Int).toNat).drop 1) (((l0.take (t103 : Int).toNat).drop 1).length : Int) 0) else (none)) else (none)) else (none)) = some (r1, r2) := by first | (rw [hji10] at H; exact H) | (simp only [hji10] at H ⊢; exact H)
              have hji10w : (IntKind.i64.wrap (7 - t103)) = ji10 := (i64_w _).trans hji10
              by_cases c11 : 0 ≤ (ji10)
              · rw [if_pos c11] at H
                have c11b0 := eq_true c11
                have c11b1 : decide (0 ≤ (ji10)) = true := decide_eq_true c11
                clear c11
                obtain ⟨ji12, hji12⟩ : ∃ j_ : Int, (shl .u32 1 (ji10)) = j_ := ⟨_, rfl⟩
                replace H : (if 1 ≤ t103 then (if t103 ≤ (l0.length : Int) then (words_Kind.l0 kj6 t103 t104 (Go.bits .and .u32 (((rd l0 0)) % 4294967296) (((ji12) - 1) % 4294967296)) ((l0.take (t103 : Int).toNat).drop 1) (((l0.take (t103 : Int).toNat).drop 1).length : Int) 0) else (none)) else (none)) = some (r1, r2) := by first | (rw [hji12] at H; exact H) | (simp only [hji12] at H ⊢; exact H)
                have hji12_ : (IntKind.u32.wrap (1 * 2 ^ min (ji10).toNat 32)) = ji12 := hji12
                have hji12z : (ji10) ≤ 32 → (IntKind.u32.wrap (1 * 2 ^ (ji10).toNat)) = ji12 := shl_small hji12
                have hji12u : (IntKind.u32.wrap (2 ^ min (ji10).toNat 32)) = ji12 := by have h_ := hji12_; rw [Int.one_mul] at h_; exact h_
                have hji12v : (ji10) ≤ 32 → (IntKind.u32.wrap (2 ^ (ji10).toNat)) = ji12 := fun hle_ => by have h_ := hji12z hle_; rw [Int.one_mul] at h_; exact h_
                by_cases c13 : 1 ≤ t103
                · rw [if_pos c13] at H
                  have c13b0 := eq_true c13
                  have c13b1 : decide (1 ≤ t103) = true := decide_eq_true c13
                  clear c13
                  by_cases c14 : t103 ≤ (l0.length : Int)
                  · rw [if_pos c14] at H
                    have c14b0 := eq_true c14
                    have c14b1 : decide (t103 ≤ (l0.length : Int)) = true := decide_eq_true c14
                    clear c14
                    have H' := Aside0.mk H
                    clear H
                    obtain ⟨i015, hi015, _, hsz15, _⟩ := info_parts info5
                    obtain ⟨A15, hcut15, hA15, hC15⟩ := print_mid_of (P := Try.prog) (Value.int .u8) 0 22 5 .i64 .i64 Try.underlying22 hi015 hsz15 (some ad101) c0 l0 1 t103 (by omega) (by first | omega | exact of_decide_eq_true (by first | (with_reducible assumption) | assumption)) (of_decide_eq_true (by first | (with_reducible assumption) | assumption)) HC0.out
                    have HR105 := Aside0.mk (Kd.C_of_reads (h1 := fun _ => rfl) (hA15 _ (Kd.reads_of_C HR0.out)))
                    have HC105 := Aside0.mk hC15
                    clear hA15 hC15 hi015 hsz15
                    obtain ⟨Y15, hY15⟩ : ∃ y_ : List Int, y_ = ((l0.take (t103 : Int).toNat).drop 1) := ⟨_, rfl⟩
                    have hZ15 : (((l0.take (t103 : Int).toNat).drop 1)) = Y15 := hY15.symm
                    clear hY15
                    simp only [show Int.toNat 1 = 1 from rfl, hZ15] at HR105 HC105 hcut15
                    have HH15 := H'.out
                    clear H'
                    rw [hZ15] at HH15
                    have H' := Aside0.mk HH15
                    clear HH15 hZ15
                    go_wp2
                    go_loopg [7, 44] kj6 (fun kq v7 v44 w' => ∃ (x7_2 : Int) (x44_2 : Int), v7 = .int .u32 x7_2 ∧ v44 = .int .i64 x44_2 ∧ Aside0 (words_Kind.l0 kq t103 t104 x7_2 Y15 (Y15.length : Int) x44_2 = some (r1, r2)) ∧ Aside0 (kq ≤ kj6) ∧ Drawn0 w w')
                    case atStart => exact ⟨(Go.bits .and .u32 (((rd l0 0)) % 4294967296) (((ji12) - 1) % 4294967296)), (0), (by first | rfl | (simp; done) | (simp only [← hji12] <;> (first | rfl | simp)) | (simp [*]; done)), (by first | rfl | (simp; done) | (simp [*]; done)), H', ⟨Nat.le_refl _⟩, by repeat (first | exact Drawn0.refl _ | apply Drawn0.step)⟩
                    case round =>
                      clear H'
                      try clear c1
                      try clear p1
                      try clear q1
                      try clear hx1
                      try clear qi1
                      try clear c2
                      try clear c2b0
                      try clear c2b1
                      try clear c2b2
                      try clear p2
                      try clear c3
                      try clear c3b0
                      try clear c3b1
                      try clear c4
                      try clear c4b0
                      try clear c6
                      try clear p6
                      try clear c8
                      try clear c8b0
                      try clear c8b1
                      try clear c9
                      try clear p10
                      try clear q10
                      try clear hx10
                      try clear qi10
                      try clear c11
                      try clear c11b0
                      try clear c11b1
                      try clear c13
                      try clear c13b0
                      try clear c13b1
                      try clear c14
                      try clear c14b0
                      try clear c14b1
                      try clear hx101_0
                      try clear p1
                      try clear p101
                      try clear p2
                      try clear q1
                      try clear q101
                      obtain ⟨x7_2, x44_2, rfl, rfl, HA, HK2, ⟨m2, rfl⟩⟩ := hrel
                      cases gk with
                      | zero => exact absurd HA.out (by simp [words_Kind.l0])
                      | succ k2 =>
                        have H := HA.out
                        clear HA
                        simp only [words_Kind.l0] at H
                        by_cases c16 : x44_2 < (Y15.length : Int)
                        · rw [if_pos c16] at H
                          have c16b0 : decide (x44_2 < (Y15.length : Int)) = true := decide_eq_true c16
                          clear c16
                          by_cases c17 : 0 ≤ x44_2
                          · rw [if_pos c17] at H
                            have c17b0 : decide (0 ≤ x44_2) = true := decide_eq_true c17
                            clear c17
                            by_cases c18 : x44_2 < (Y15.length : Int)
                            · rw [if_pos c18] at H
                              have c18b0 : decide (x44_2 < (Y15.length : Int)) = true := decide_eq_true c18
                              clear c18
                              by_cases c19 : (Go.bits .and .u8 (rd Y15 x44_2) 192) = 128
                              · rw [if_pos c19] at H
                                have c19b0 : ((Go.bits .and .u8 (rd Y15 x44_2) 192) == 128) = true := beq_iff_eq.mpr c19
                                have c19b1 : ((Go.bits .and .u8 (rd Y15 x44_2) 192) != 128) = false := bne_eq_false_iff_eq.mpr c19


                                clear c19
                                have H' := Aside0.mk H
                                clear H
                                have p106 : 0 ≤ (x44_2 : Int) := of_decide_eq_true (by first | (with_reducible assumption) | assumption)
                                have q106 : x44_2 < (Y15.length : Int) := of_decide_eq_true (by first | (with_reducible assumption) | assumption)
                                obtain ⟨ad106, e106, hx106_0⟩ := Kd.at_int HR105.out x44_2 p106 q106
                                cases e106
                                replace p106 := eq_true p106
                                replace q106 := eq_true q106
                                go_wp2
                                go_roundg k2
                                case measure => have := HJ6.out; have := HK2.out; omega
                                case rel => exact ⟨(Go.bits .or .u32 ((x7_2 * 64) % 4294967296) ((Go.bits .and .u8 (rd Y15 x44_2) 63) % 4294967296)), (wrap64 (x44_2 + 1)), (by first | rfl | (simp; done) | (simp [*]; done)), (by first | rfl | (simp; done) | (simp [*]; done)), H', ⟨by have := HJ6.out; have := HK2.out; omega⟩, by repeat (first | exact Drawn0.refl _ | apply Drawn0.step)⟩
                              · rw [if_neg c19] at H
                                have c19b0 : ((Go.bits .and .u8 (rd Y15 x44_2) 192) == 128) = false := beq_eq_false_iff_ne.mpr c19
                                have c19b1 : ((Go.bits .and .u8 (rd Y15 x44_2) 192) != 128) = true := bne_iff_ne.mpr c19


                                simp only [Option.some.injEq, Prod.mk.injEq] at H
                                obtain ⟨rfl, rfl⟩ := H
                                have p106 : 0 ≤ (x44_2 : Int) := of_decide_eq_true (by first | (with_reducible assumption) | assumption)
                                have q106 : x44_2 < (Y15.length : Int) := of_decide_eq_true (by first | (with_reducible assumption) | assumption)
                                obtain ⟨ad106, e106, hx106_0⟩ := Kd.at_int HR105.out x44_2 p106 q106
                                cases e106
                                replace p106 := eq_true p106
                                replace q106 := eq_true q106
                                go_wp2
                                go_ret2
                                exact ⟨by first | rfl | (simp; done) | (simp only [← hji10, ← hji12] <;> (first | rfl | simp)) | (simp [*]; done), by repeat (first | exact Drawn0.refl _ | apply Drawn0.step)⟩
                            · rw [if_neg c18] at H
                              exact absurd H (by simp)
                          · rw [if_neg c17] at H
                            exact absurd H (by simp)
                        · rw [if_neg c16] at H
                          have c16b0 : decide (x44_2 < (Y15.length : Int)) = false := decide_eq_false c16
                          clear c16
                          by_cases c20 : x7_2 < t104
                          · rw [if_pos c20] at H
                            have c20b0 : decide (x7_2 < t104) = true := decide_eq_true c20
                            clear c20
                            simp only [Option.some.injEq, Prod.mk.injEq] at H
                            obtain ⟨rfl, rfl⟩ := H
                            go_wp2
                            go_ret2
                            exact ⟨by first | rfl | (simp; done) | (simp only [← hji10, ← hji12] <;> (first | rfl | simp)) | (simp [*]; done), by repeat (first | exact Drawn0.refl _ | apply Drawn0.step)⟩
                          · rw [if_neg c20] at H
                            have c20b0 : decide (x7_2 < t104) = false := decide_eq_false c20
                            clear c20
                            by_cases c21 : x7_2 > 1114111
                            · rw [if_pos c21] at H
                              have c21b0 : decide (1114111 < x7_2) = true := decide_eq_true c21
                              clear c21
                              simp only [Option.some.injEq, Prod.mk.injEq] at H
                              obtain ⟨rfl, rfl⟩ := H
                              go_wp2
                              go_ret2
                              exact ⟨by first | rfl | (simp; done) | (simp only [← hji10, ← hji12] <;> (first | rfl | simp)) | (simp [*]; done), by repeat (first | exact Drawn0.refl _ | apply Drawn0.step)⟩
                            · rw [if_neg c21] at H
                              have c21b0 : decide (1114111 < x7_2) = false := decide_eq_false c21
                              clear c21
                              by_cases c22 : x7_2 ≥ 55296
                              · rw [if_pos c22] at H
                                have c22b0 : decide (55296 ≤ x7_2) = true := decide_eq_true c22
                                clear c22
                                by_cases c23 : x7_2 ≤ 57343
                                · rw [if_pos c23] at H
                                  have c23b0 : decide (x7_2 ≤ 57343) = true := decide_eq_true c23
                                  clear c23
                                  simp only [Option.some.injEq, Prod.mk.injEq] at H
                                  obtain ⟨rfl, rfl⟩ := H
                                  go_wp2
                                  go_ret2
                                  exact ⟨by first | rfl | (simp; done) | (simp only [← hji10, ← hji12] <;> (first | rfl | simp)) | (simp [*]; done), by repeat (first | exact Drawn0.refl _ | apply Drawn0.step)⟩
                                · rw [if_neg c23] at H
                                  have c23b0 : decide (x7_2 ≤ 57343) = false := decide_eq_false c23
                                  clear c23
                                  simp only [Option.some.injEq, Prod.mk.injEq] at H
                                  obtain ⟨rfl, rfl⟩ := H
                                  go_wp2
                                  go_ret2
                                  exact ⟨by first | rfl | (simp; done) | (simp only [← hji10, ← hji12] <;> (first | rfl | simp)) | (simp [*]; done), by repeat (first | exact Drawn0.refl _ | apply Drawn0.step)⟩
                              · rw [if_neg c22] at H
                                have c22b0 : decide (55296 ≤ x7_2) = false := decide_eq_false c22
                                clear c22
                                simp only [Option.some.injEq, Prod.mk.injEq] at H
                                obtain ⟨rfl, rfl⟩ := H
                                go_wp2
                                go_ret2
                                exact ⟨by first | rfl | (simp; done) | (simp only [← hji10, ← hji12] <;> (first | rfl | simp)) | (simp [*]; done), by repeat (first | exact Drawn0.refl _ | apply Drawn0.step)⟩
                  · rw [if_neg c14] at H
                    exact absurd H (by simp)
                · rw [if_neg c13] at H
                  exact absurd H (by simp)
              · rw [if_neg c11] at H
                exact absurd H (by simp)
    · rw [if_neg c3] at H
      exact absurd H (by simp)

/-! ### words_solid: function 43 -/
def words_solid.f (k : Nat) (l0 : List Int) : Option (Bool) := (words_Kind.f k l0).bind fun bt107 => (if bt107.1 = 1 then (some true) else (if bt107.1 = 2 then (some true) else (some (bt107.1 == 4))))
theorem words_solid.mono : ∀ a0 k, LeO (words_solid.f k a0) (words_solid.f (k + 1) a0) := by
  intro a0 k
  unfold words_solid.f
  repeat' first
      | (with_reducible exact words_Kind.mono _ _)
      | (with_reducible exact LeO.refl _)
      | (with_reducible exact LeO.none _)
      | (with_reducible refine LeO.ite ?_ ?_)
      | (with_reducible refine LeO.bind ?_ (fun _ => ?_))
      | exact words_Kind.mono _ _
      | exact LeO.none _
      | refine LeO.ite ?_ ?_
      | refine LeO.bind ?_ (fun _ => ?_)
set_option maxHeartbeats 8000000 in
set_option maxRecDepth 100000 in
theorem words_solid.calls (k : Nat) (A0 : Option Addr) (c0 : Nat) (l0 : List Int) (r : Bool) (w : World) (hr0 : Kd.C (Kd.int .u8) w A0 l0.length l0) (hc0 : l0.length ≤ c0) (h : words_solid.f k l0 = some r) :
    Calls Try.prog 43 #[.slice A0 l0.length c0] w fun e w' => e = .returned (.bool r) ∧ Drawn0 w w' := by
  have HR0 := Aside0.mk hr0
  have HC0 := Aside0.mk hc0
  clear hr0 hc0
  have H : ((words_Kind.f k l0).bind fun bt107 => (if bt107.1 = 1 then (some true) else (if bt107.1 = 2 then (some true) else (some (bt107.1 == 4))))) = some r := h
  clear h
  replace H := Option.bind_eq_some_iff.mp H
  obtain ⟨⟨t107, t108⟩, A20, H⟩ := H
  replace H : (if t107 = 1 then (some true) else (if t107 = 2 then (some true) else (some (t107 == 4)))) = some r := H
  have A2 := Aside0.mk A20
  clear A20
  by_cases c3 : t107 = 1
  · rw [if_pos c3] at H
    have c3b0 : (t107 == 1) = true := beq_iff_eq.mpr c3
    have c3b1 : (t107 != 1) = false := bne_eq_false_iff_eq.mpr c3
    clear c3
    obtain rfl := Option.some.inj H
    go_enter Try.func43, Try.ntmps43
    go_wp2_with (first | ((with_reducible refine gate_callee (f := 18) rfl ?_); refine goesL_ (some 7) rfl rfl Try.func18 (by kernel_rfl) rfl #[.slice A0 l0.length c0] rfl (by (try simp only [List.map_toArray, List.map_cons, List.map_nil]); first | done | rfl | (simp only [List.length_drop, List.length_take]; rfl)) ?_; (with_reducible refine (words_Kind.calls k _ _ l0 t107 t108 _ ?side1 ?side2 A2.out).mono ?_); (case side1 => repeat (first | exact HR0.out | (with_reducible refine Kd.C_alloc ?_ _) | (with_reducible refine Kd.C_drewN ?_ _) | (with_reducible refine Kd.C_drew ?_))); (case side2 => exact HC0.out); rintro e w' ⟨rfl, ⟨nd, rfl⟩⟩; refine ⟨_, rfl, ?_⟩))
    go_ret
    exact ⟨by first | rfl | (simp; done) | (simp [*]; done), by repeat (first | exact Drawn0.refl _ | apply Drawn0.step)⟩
  · rw [if_neg c3] at H
    have c3b0 : (t107 == 1) = false := beq_eq_false_iff_ne.mpr c3
    have c3b1 : (t107 != 1) = true := bne_iff_ne.mpr c3
    by_cases c4 : t107 = 2
    · rw [if_pos c4] at H
      have c4b0 : (t107 == 2) = true := beq_iff_eq.mpr c4
      have c4b1 : (t107 != 2) = false := bne_eq_false_iff_eq.mpr c4
      clear c4
      obtain rfl := Option.some.inj H
      go_enter Try.func43, Try.ntmps43
      go_wp2_with (first | ((with_reducible refine gate_callee (f := 18) rfl ?_); refine goesL_ (some 7) rfl rfl Try.func18 (by kernel_rfl) rfl #[.slice A0 l0.length c0] rfl (by (try simp only [List.map_toArray, List.map_cons, List.map_nil]); first | done | rfl | (simp only [List.length_drop, List.length_take]; rfl)) ?_; (with_reducible refine (words_Kind.calls k _ _ l0 t107 t108 _ ?side1 ?side2 A2.out).mono ?_); (case side1 => repeat (first | exact HR0.out | (with_reducible refine Kd.C_alloc ?_ _) | (with_reducible refine Kd.C_drewN ?_ _) | (with_reducible refine Kd.C_drew ?_))); (case side2 => exact HC0.out); rintro e w' ⟨rfl, ⟨nd, rfl⟩⟩; refine ⟨_, rfl, ?_⟩))
      go_ret
      exact ⟨by first | rfl | (simp; done) | (simp [*]; done), by repeat (first | exact Drawn0.refl _ | apply Drawn0.step)⟩
    · rw [if_neg c4] at H
      have c4b0 : (t107 == 2) = false := beq_eq_false_iff_ne.mpr c4
      have c4b1 : (t107 != 2) = true := bne_iff_ne.mpr c4
      obtain rfl := Option.some.inj H
      go_enter Try.func43, Try.ntmps43
      go_wp2_with (first | ((with_reducible refine gate_callee (f := 18) rfl ?_); refine goesL_ (some 7) rfl rfl Try.func18 (by kernel_rfl) rfl #[.slice A0 l0.length c0] rfl (by (try simp only [List.map_toArray, List.map_cons, List.map_nil]); first | done | rfl | (simp only [List.length_drop, List.length_take]; rfl)) ?_; (with_reducible refine (words_Kind.calls k _ _ l0 t107 t108 _ ?side1 ?side2 A2.out).mono ?_); (case side1 => repeat (first | exact HR0.out | (with_reducible refine Kd.C_alloc ?_ _) | (with_reducible refine Kd.C_drewN ?_ _) | (with_reducible refine Kd.C_drew ?_))); (case side2 => exact HC0.out); rintro e w' ⟨rfl, ⟨nd, rfl⟩⟩; refine ⟨_, rfl, ?_⟩))
      go_ret
      exact ⟨by first | rfl | (simp; done) | (simp [*]; done), by repeat (first | exact Drawn0.refl _ | apply Drawn0.step)⟩

/-! ### words_run: function 44 -/
theorem words_run1.calls (k : Nat) (g0 g1 : Nat) (A0 : Option Addr) (c0 : Nat) (l0 : List Int) (s : Int) (r1 r2 : Int) (w : World) (h0 : w.cell? ⟨g0, 0, none⟩ = some (.slice A0 l0.length c0)) (h1 : w.cell? ⟨g1, 0, none⟩ = some (.int .i64 s)) (hs0 : 0 ≤ s) (hs1 : s ≤ (l0.length : Int)) (hr0 : Kd.C (Kd.int .u8) w A0 l0.length l0) (hc0 : l0.length ≤ c0) (h : words_Kind.f k (l0.drop s.toNat) = some (r1, r2)) :
    Calls Try.prog 55 #[.pointer (some ⟨g0, 0, none⟩), .pointer (some ⟨g1, 0, none⟩)] w fun e w' => e = .returned (.tuple #[.int .i64 r1, .int .i64 r2]) ∧ Drawn0 w w' := by
  have HR0 := Aside0.mk hr0
  have HC0 := Aside0.mk hc0
  clear hr0 hc0
  have H := Aside0.mk h
  clear h
  obtain ⟨i01, hi01, _, hsz1, _⟩ := info_parts info5
  obtain ⟨A1, hcut1, hA1, hC1⟩ := print_drop_of (P := Try.prog) (Value.int .u8) 0 22 5 .i64 Try.underlying22 hi01 hsz1 A0 c0 l0 s hs0 hs1 HC0.out
  have HR1 := Aside0.mk (Kd.C_of_reads (h1 := fun _ => rfl) (hA1 _ (Kd.reads_of_C HR0.out)))
  have HC1 := Aside0.mk hC1
  clear hA1 hC1 hi01 hsz1
  go_enter Try.func55, Try.ntmps55
  go_wp2_with (first | (go_at_call 18; refine calls_of_args (args' := #[.slice A1 (l0.drop s.toNat).length (c0 - s.toNat)]) (by first | rfl | (simp only [List.length_drop]; rfl) | (simp; done)) ?_; (with_reducible refine (words_Kind.calls k _ _ (l0.drop s.toNat) r1 r2 _ ?side1 ?side2 H.out).mono ?_); (case side1 => exact HR1.out); (case side2 => exact HC1.out); rintro e w' ⟨rfl, ⟨nd, rfl⟩⟩))
  go_ret2
  exact ⟨rfl, ⟨nd, rfl⟩⟩
/-- The run's two variables in memory. -/
structure RunW (w w' : World) (A0 : Option Addr) (n c0 : Nat) (s : Int) : Prop where
  b0 : w'.heap[w.heap.size]? = some (.cells #[.slice A0 n c0] 22 (0, 0))
  b1 : w'.heap[w.heap.size + 1]? = some (.cells #[.int .i64 s] 3 (0, 0))
  below : Below w.heap.size w w'
theorem RunW.c0 {w w' : World} {A0 : Option Addr} {n c0 : Nat} {s : Int} (h : RunW w w' A0 n c0 s) : w'.cell? ⟨w.heap.size, 0, none⟩ = some (.slice A0 n c0) := by simp [World.cell?, h.b0]
theorem RunW.c1 {w w' : World} {A0 : Option Addr} {n c0 : Nat} {s : Int} (h : RunW w w' A0 n c0 s) : w'.cell? ⟨w.heap.size + 1, 0, none⟩ = some (.int .i64 s) := by simp [World.cell?, h.b1]
theorem RunW.f1 {w w' : World} {A0 : Option Addr} {n c0 : Nat} {s : Int} (h : RunW w w' A0 n c0 s) : w'.frozen? ⟨w.heap.size + 1, 0, none⟩ = false := by simp [World.frozen?, h.b1]
theorem RunW.drewN {w w' : World} {A0 : Option Addr} {n c0 : Nat} {s : Int} (h : RunW w w' A0 n c0 s) (m : Nat) : RunW w (w'.drewN m) A0 n c0 s := ⟨h.b0, h.b1, pw_below_drewN h.below m⟩
theorem RunW.drew {w w' : World} {A0 : Option Addr} {n c0 : Nat} {s : Int} (h : RunW w w' A0 n c0 s) : RunW w w'.drew A0 n c0 s := ⟨h.b0, h.b1, below_drew1 h.below⟩
theorem RunW.set {w w' : World} {A0 : Option Addr} {n c0 : Nat} {s : Int} (h : RunW w w' A0 n c0 s) (t : Int) : RunW w (w'.setCell ⟨w.heap.size + 1, 0, none⟩ (.int .i64 t)) A0 n c0 t :=
  ⟨by rw [Below.heap_setCell _ _ _ _ (by simp)]; exact h.b0, one_setCell h.b1, h.below.setCell (by simp) _⟩
theorem RunW.start (w : World) (A0 : Option Addr) (n c0 : Nat) : RunW w ((w.alloc (.cells #[.slice A0 n c0] 22)).alloc (.cells #[.int .i64 0] 3)) A0 n c0 0 :=
  ⟨(heap_alloc_old _ _ (by simp)).trans (heap_alloc_new _ _), heap_alloc_new (w.alloc (.cells #[.slice A0 n c0] 22)) _ |> fun h => by simpa using h, ((Below.refl _ _).alloc (Nat.le_refl _) _).alloc (by simp) _⟩
def words_run.l0 : Nat → List Int → Int → Int → Int → Int → Int → Int → Option (Int × Int × Int)
  | 0, _, _, _, _, _, _, _ => none
  | k + 1, l0, kd, sz, last, sg, kn, n => if kn = kd ∧ kd ≠ 0 ∧ kd ≠ -1 then (if kd = 2 ∧ sg = 3 then some (kd, sz, last) else (if 0 ≤ wrap64 (sz + n) ∧ wrap64 (sz + n) ≤ (l0.length : Int) then (words_Kind.f k (l0.drop (wrap64 (sz + n)).toNat)).bind fun c => words_run.l0 k l0 kd (wrap64 (sz + n)) sz (wrap64 (sg + 1)) c.1 c.2 else none)) else some (kd, sz, last)
def words_run.f (k : Nat) (l0 : List Int) : Option (Int × Int × Int) := (words_Kind.f k l0).bind fun b => if 0 ≤ b.2 ∧ b.2 ≤ (l0.length : Int) then (words_Kind.f k (l0.drop b.2.toNat)).bind fun c => words_run.l0 k l0 b.1 b.2 0 1 c.1 c.2 else none
theorem words_run.mono_l : ∀ k, (∀ y0 y1 y2 y3 y4 y5 y6, LeO (words_run.l0 k y0 y1 y2 y3 y4 y5 y6) (words_run.l0 (k + 1) y0 y1 y2 y3 y4 y5 y6))
  | 0 => fun _ _ _ _ _ _ _ r h => by simp [words_run.l0] at h
  | k + 1 => by
    have ih0 := words_run.mono_l k
    · intro y0 y1 y2 y3 y4 y5 y6
      unfold words_run.l0
      repeat' first
      | (with_reducible exact ih0 _ _ _ _ _ _ _)
      | (with_reducible exact words_Kind.mono _ _)
      | (with_reducible exact LeO.refl _)
      | (with_reducible exact LeO.none _)
      | (with_reducible refine LeO.ite ?_ ?_)
      | (with_reducible refine LeO.bind ?_ (fun _ => ?_))
theorem words_run.mono : ∀ a0 k, LeO (words_run.f k a0) (words_run.f (k + 1) a0) := by
  intro a0 k
  have ih0 := words_run.mono_l k
  unfold words_run.f
  repeat' first
      | (with_reducible exact ih0 _ _ _ _ _ _ _)
      | (with_reducible exact words_Kind.mono _ _)
      | (with_reducible exact LeO.refl _)
      | (with_reducible exact LeO.none _)
      | (with_reducible refine LeO.ite ?_ ?_)
      | (with_reducible refine LeO.bind ?_ (fun _ => ?_))
set_option maxHeartbeats 1000000 in
theorem words_run.calls (k : Nat) (A0 : Option Addr) (c0 : Nat) (l0 : List Int) (r1 : Int) (r2 : Int) (r3 : Int) (w : World) (hr0 : Kd.C (Kd.int .u8) w A0 l0.length l0) (hc0 : l0.length ≤ c0) (h : words_run.f k l0 = some (r1, r2, r3)) :
    Calls Try.prog 44 #[.slice A0 l0.length c0] w fun e w' => e = .returned (.tuple #[.int .i64 r1, .int .i64 r2, .int .i64 r3]) ∧ Below w.heap.size w w' := by
  have HR0 := Aside0.mk hr0
  have HC0 := Aside0.mk hc0
  clear hr0 hc0
  unfold words_run.f at h
  replace h := Option.bind_eq_some_iff.mp h
  obtain ⟨⟨b1, b2⟩, hA, h⟩ := h
  have HA := Aside0.mk hA
  clear hA
  dsimp only at h
  by_cases hc : 0 ≤ b2 ∧ b2 ≤ (l0.length : Int)
  · rw [if_pos hc] at h
    obtain ⟨hs0, hs1⟩ := hc
    replace h := Option.bind_eq_some_iff.mp h
    obtain ⟨⟨d1, d2⟩, hD, h⟩ := h
    have HD := Aside0.mk hD
    have H := Aside0.mk h
    clear hD h
    go_enter Try.func44, Try.ntmps44
    go_wp2_with (first | (go_at_call 18; (with_reducible refine (words_Kind.calls k _ _ l0 b1 b2 _ ?side1 ?side2 HA.out).mono ?_); (case side1 => repeat (first | exact HR0.out | (with_reducible refine Kd.C_alloc ?_ _) | (with_reducible refine Kd.C_drewN ?_ _) | (with_reducible refine Kd.C_drew ?_))); (case side2 => exact HC0.out); rintro e w' ⟨rfl, ⟨nd, rfl⟩⟩))
    have hR : RunW w ((((w.alloc (Obj.cells #[Value.slice A0 l0.length c0] 22)).alloc (Obj.cells #[Value.int IntKind.i64 0] 3)).drewN nd).setCell ⟨w.heap.size + 1, 0, none⟩ (Value.int IntKind.i64 b2)) A0 l0.length c0 b2 := ((RunW.start w A0 l0.length c0).drewN nd).set b2
    revert hR
    generalize (((w.alloc (Obj.cells #[Value.slice A0 l0.length c0] 22)).alloc (Obj.cells #[Value.int IntKind.i64 0] 3)).drewN nd).setCell ⟨w.heap.size + 1, 0, none⟩ (Value.int IntKind.i64 b2) = W1
    intro hR
    have HW := Aside0.mk hR
    clear hR
    refine (words_run1.calls k _ _ A0 c0 l0 b2 d1 d2 W1 HW.out.c0 HW.out.c1 hs0 hs1 (Kd.C_below HR0.out HW.out.below) HC0.out HD.out).mono ?_
    rintro e w' ⟨rfl, ⟨nd2, rfl⟩⟩
    have HW2 := Aside0.mk (HW.out.drewN nd2)
    clear HW
    have HS := Aside0.mk (And.intro hs0 hs1)
    clear hs0 hs1
    go_wp2
    go_loopg [4, 5, 7, 8] k (fun kq v4 v5 v7 v8 w' => ∃ sz last sg kn n : Int, v4 = .int .i64 last ∧ v5 = .int .i64 sg ∧ v7 = .int .i64 kn ∧ v8 = .int .i64 n ∧ Aside0 (words_run.l0 kq l0 b1 sz last sg kn n = some (r1, r2, r3)) ∧ Aside0 (kq ≤ k) ∧ Aside0 (RunW w w' A0 l0.length c0 sz))
    case atStart => exact ⟨_, _, _, _, _, rfl, rfl, rfl, rfl, H, ⟨Nat.le_refl _⟩, HW2⟩
    case round =>
      clear HW2 H HD HA HS
      obtain ⟨sz, last, sg, kn, n, rfl, rfl, rfl, rfl, H, HK, HW⟩ := hrel
      cases gk with
      | zero => exact absurd H.out (by simp [words_run.l0])
      | succ k1 =>
        replace H := H.out
        simp only [words_run.l0] at H
        have hc1 := HW.out.c1
        have hf1 := HW.out.f1
        by_cases c1 : kn = b1 ∧ b1 ≠ 0 ∧ b1 ≠ -1
        · rw [if_pos c1] at H
          obtain ⟨e1, e2, e3⟩ := c1
          have t1 : (kn == b1) = true := beq_iff_eq.2 e1
          have t2 : (b1 != 0) = true := bne_iff_ne.2 e2
          have t3 : (b1 != -1) = true := bne_iff_ne.2 e3
          clear e1 e2 e3
          by_cases c2 : b1 = 2 ∧ sg = 3
          · rw [if_pos c2] at H
            obtain ⟨e1, e2⟩ := c2
            have t4 : (b1 == 2) = true := beq_iff_eq.2 e1
            have t5 : (sg == 3) = true := beq_iff_eq.2 e2
            clear e1 e2
            simp only [Option.some.injEq, Prod.mk.injEq] at H
            obtain ⟨rfl, rfl, rfl⟩ := H
            go_wp2
            go_region
            all_goals (have HW9 := Aside0.mk (HW.out.set sz).drew; have hq := HW9.out.c1; go_wp2; exact bodyPost_ret (v := .tuple #[.int .i64 b1, .int .i64 sz, .int .i64 last]) (by simp [results, Try.results44, go_sem, hq]) rfl ⟨rfl, HW9.out.below⟩)
          · rw [if_neg c2] at H
            have t4 : (b1 == 2 && sg == 3) = false := by rcases Classical.em (b1 = 2) with e | e <;> rcases Classical.em (sg = 3) with e' | e' <;> simp_all
            by_cases c3 : 0 ≤ wrap64 (sz + n) ∧ wrap64 (sz + n) ≤ (l0.length : Int)
            · rw [if_pos c3] at H
              obtain ⟨q0, q1⟩ := c3
              replace H := Option.bind_eq_some_iff.mp H
              obtain ⟨⟨m1, m2⟩, HM, H⟩ := H
              have HM := Aside0.mk HM
              have H := Aside0.mk H
              have HZ := Aside0.mk (And.intro q0 q1)
              have HW3 := Aside0.mk (HW.out.set (wrap64 (sz + n))).drew
              clear q0 q1
              by_cases c4 : b1 = 2
              · have t4' : (b1 == 2) = true := beq_iff_eq.2 c4
                have t5 : (sg == 3) = false := beq_eq_false_iff_ne.2 (fun e => c2 ⟨c4, e⟩)
                clear t4 c4 c2
                go_wp2
                go_region
                all_goals
                  go_wp2_with (first | (go_at_call 55; (with_reducible refine (words_run1.calls k1 _ _ A0 c0 l0 (wrap64 (sz + n)) m1 m2 _ ?s1 ?s2 HZ.out.1 HZ.out.2 ?s3 HC0.out HM.out).mono ?_); (case s1 => exact HW3.out.c0); (case s2 => exact HW3.out.c1); (case s3 => exact (Kd.C_below HR0.out HW3.out.below)); rintro e w' ⟨rfl, ⟨nd3, rfl⟩⟩))
                  go_roundg k1
                  case measure => have := HK.out; omega
                  case rel => exact ⟨_, _, _, _, _, rfl, rfl, rfl, rfl, H, ⟨by have := HK.out; omega⟩, ⟨by first | exact HW3.out.drewN _ | exact (HW.out.set (wrap64 (sz + n))).drewN _⟩⟩
              · have t4' : (b1 == 2) = false := beq_eq_false_iff_ne.2 c4
                clear t4 c4 c2
                go_wp2
                go_region
                all_goals
                  go_wp2_with (first | (go_at_call 55; (with_reducible refine (words_run1.calls k1 _ _ A0 c0 l0 (wrap64 (sz + n)) m1 m2 _ ?s1 ?s2 HZ.out.1 HZ.out.2 ?s3 HC0.out HM.out).mono ?_); (case s1 => exact HW3.out.c0); (case s2 => exact HW3.out.c1); (case s3 => exact (Kd.C_below HR0.out HW3.out.below)); rintro e w' ⟨rfl, ⟨nd3, rfl⟩⟩))
                  go_roundg k1
                  case measure => have := HK.out; omega
                  case rel => exact ⟨_, _, _, _, _, rfl, rfl, rfl, rfl, H, ⟨by have := HK.out; omega⟩, ⟨by first | exact HW3.out.drewN _ | exact (HW.out.set (wrap64 (sz + n))).drewN _⟩⟩
            · rw [if_neg c3] at H
              cases H
        · rw [if_neg c1] at H
          simp only [Option.some.injEq, Prod.mk.injEq] at H
          obtain ⟨rfl, rfl, rfl⟩ := H
          by_cases e1 : kn = b1
          · by_cases e2 : b1 = 0
            · have t1 : (kn == b1) = true := beq_iff_eq.2 e1
              have t2 : (b1 != 0) = false := bne_eq_false_iff_eq.2 e2
              clear c1 e1 e2
              go_wp2
              go_region
              all_goals (have HW9 := Aside0.mk (HW.out.set sz).drew; have hq := HW9.out.c1; go_wp2; exact bodyPost_ret (v := .tuple #[.int .i64 b1, .int .i64 sz, .int .i64 last]) (by simp [results, Try.results44, go_sem, hq]) rfl ⟨rfl, HW9.out.below⟩)
            · have e3 : b1 = -1 := by
                rcases Classical.em (b1 = -1) with e3 | e3
                · exact e3
                · exact absurd ⟨e1, e2, e3⟩ c1
              have t1 : (kn == b1) = true := beq_iff_eq.2 e1
              have t2 : (b1 != 0) = true := bne_iff_ne.2 e2
              have t3 : (b1 != -1) = false := bne_eq_false_iff_eq.2 e3
              clear c1 e1 e2 e3
              go_wp2
              go_region
              all_goals (have HW9 := Aside0.mk (HW.out.set sz).drew; have hq := HW9.out.c1; go_wp2; exact bodyPost_ret (v := .tuple #[.int .i64 b1, .int .i64 sz, .int .i64 last]) (by simp [results, Try.results44, go_sem, hq]) rfl ⟨rfl, HW9.out.below⟩)
          · have t1 : (kn == b1) = false := beq_eq_false_iff_ne.2 e1
            clear c1 e1
            go_wp2
            go_region
            all_goals (have HW9 := Aside0.mk (HW.out.set sz).drew; have hq := HW9.out.c1; go_wp2; exact bodyPost_ret (v := .tuple #[.int .i64 b1, .int .i64 sz, .int .i64 last]) (by simp [results, Try.results44, go_sem, hq]) rfl ⟨rfl, HW9.out.below⟩)
  · rw [if_neg hc] at h
    cases h

end Go.Proofs.Ytmmpppahagknpaa.P
