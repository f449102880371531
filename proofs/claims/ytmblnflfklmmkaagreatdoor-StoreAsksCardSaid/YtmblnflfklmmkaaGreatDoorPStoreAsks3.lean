/- StoreAsks: the texts Px2 Px3 Px4 Px5 ShC. -/
import Derived.Test.YtmblnflfklmmkaaGreatDoorPStoreAsks2
/- Functions of the program and of its laws, each with a Lean function and the proof that a call comes to what that function tells, under the conditions that its contract names. (Laid by a program of this session, out of the translation; Lean checks it.) -/
namespace Go.Proofs.YtmblnflfklmmkaaGreatDoor.P
open Go.RowKit Go.Proofs.YtmblnflfklmmkaaGreatDoorW.PrintWords Go.Proofs.YtmblnflfklmmkaaGreatDoorW.PrintLast Go.Proofs.YtmblnflfklmmkaaGreatDoorW.PrintMore
attribute [local go_sem] max2_int min2_int max_two min_two max_three min_three max_four min_four   -- for this text's walks alone
set_option linter.unusedVariables false
set_option linter.unusedSimpArgs false

/-! ### imprimaturref02_Pad: function 84 -/
mutual
def imprimaturref02_Pad.j0 : Nat → Int → Int → Bool → Option (List Int × Int)
  | 0, _, _, _ => none
  | k + 1, x0, x1, x21 => if x21 = true then (some (([] : List Int), 1)) else (if x0 > 1048576 then (some (([] : List Int), 2)) else (imprimaturref02_Pad.l0 k x0 (wrap64 (Int.tdiv x1 4)) (wrap64 (Int.tdiv x1 32)) (([128] : List Int))))
def imprimaturref02_Pad.l0 : Nat → Int → Int → Int → List Int → Option (List Int × Int)
  | 0, _, _, _, _ => none
  | k + 1, x0, x6, x7, x8 => if x6 = 0 then (none) else (if (Int.tmod (wrap64 ((wrap64 (x0 + (x8.length : Int))) + x7)) x6) = 0 then (imprimaturref02_Pad.l1 k x7 x8 ([] : List Int) (IntKind.u64.wrap ((IntKind.u64.wrap (x0)) * 8)) 0) else (if x8.length < 140737488355328 then (imprimaturref02_Pad.l0 k x0 x6 x7 (x8 ++ [0])) else (none)))
def imprimaturref02_Pad.l1 : Nat → Int → List Int → List Int → Int → Int → Option (List Int × Int)
  | 0, _, _, _, _, _ => none
  | k + 1, x7, x8, x9, x10, x11 => if x11 < x7 then ((some (([(Int.tmod x10 256) % 256] : List Int) : List Int)).bind fun y126 => (if y126.length + x9.length < 140737488355328 then (imprimaturref02_Pad.l1 k x7 x8 (y126 ++ x9) (IntKind.u64.wrap (Int.tdiv x10 256)) (wrap64 (x11 + 1))) else (none))) else (if x8.length + x9.length < 140737488355328 then (some ((x8 ++ x9), 0)) else (none))
end
def imprimaturref02_Pad.f (k : Nat) (a0 : Int) (a1 : Int) : Option (List Int × Int) := if a1 = 256 then (imprimaturref02_Pad.j0 k a0 a1 (decide (a0 < 0))) else (if a1 = 512 then (imprimaturref02_Pad.j0 k a0 a1 (decide (a0 < 0))) else (imprimaturref02_Pad.j0 k a0 a1 true))
set_option maxHeartbeats 8000000 in
set_option maxRecDepth 100000 in
theorem imprimaturref02_Pad.calls (k : Nat) (a0 : Int) (a1 : Int) (r1 : List Int) (r2 : Int) (w : World) (h : imprimaturref02_Pad.f k a0 a1 = some (r1, r2)) :
    Calls Tryz.prog 84 #[.int .i64 a0, .int .i64 a1] w fun e w' => ∃ v0_ : Value, e = .returned (.tuple #[v0_, .int .i64 r2]) ∧ Kd.R (Kd.int .u8) 5 w' w.heap.size (fun _ => True) v0_ r1 ∧ Below w.heap.size w w' := by
  have HB := Aside0.mk (Below.refl w.heap.size w)
  have H : (if a1 = 256 then (imprimaturref02_Pad.j0 k a0 a1 (decide (a0 < 0))) else (if a1 = 512 then (imprimaturref02_Pad.j0 k a0 a1 (decide (a0 < 0))) else (imprimaturref02_Pad.j0 k a0 a1 true))) = some (r1, r2) := h
  clear h
  have HC3 := Aside0.mk H
  clear H
  go_enter Tryz.func84, Tryz.ntmps84
  go_upto_region 1 with (fail)
  go_cut [21] (fun v21 wc => ∃ (kq : Nat) (x21_2 : Bool), v21 = .bool x21_2 ∧ Aside0 (imprimaturref02_Pad.j0 kq a0 a1 x21_2 = some (r1, r2)) ∧ Aside0 (kq ≤ k) ∧ Aside0 (Below w.heap.size w wc))
  case first =>
    have H := HC3.out
    clear HC3
    by_cases c4 : a1 = 256
    · rw [if_pos c4] at H
      have c4b0 : (a1 == 256) = true := beq_iff_eq.mpr c4
      have c4b1 : (a1 != 256) = false := bne_eq_false_iff_eq.mpr c4
      clear c4
      (first | rw [c4b0] | (simp only [i64_w, i32_w]; rw [c4b0]) | skip)
      have H' := Aside0.mk H
      clear H
      go_wp2
      go_meet
      case rel => exact ⟨_, (decide (a0 < 0)), (by first | rfl | (simp; done) | (simp [*]; done)), H', ⟨by first | omega | exact Nat.le_refl _⟩, ⟨by repeat (first | (with_reducible first | exact HB.out | apply below_alloc | apply pw_below_drewN | apply below_drew1) | exact HB.out)⟩⟩
    · rw [if_neg c4] at H
      have c4b0 : (a1 == 256) = false := beq_eq_false_iff_ne.mpr c4
      have c4b1 : (a1 != 256) = true := bne_iff_ne.mpr c4
      (first | rw [c4b0] | (simp only [i64_w, i32_w]; rw [c4b0]) | skip)
      by_cases c5 : a1 = 512
      · rw [if_pos c5] at H
        have c5b0 : (a1 == 512) = true := beq_iff_eq.mpr c5
        have c5b1 : (a1 != 512) = false := bne_eq_false_iff_eq.mpr c5
        clear c5
        have H' := Aside0.mk H
        clear H
        go_wp2
        go_meet
        case rel => exact ⟨_, (decide (a0 < 0)), (by first | rfl | (simp; done) | (simp [*]; done)), H', ⟨by first | omega | exact Nat.le_refl _⟩, ⟨by repeat (first | (with_reducible first | exact HB.out | apply below_alloc | apply pw_below_drewN | apply below_drew1) | exact HB.out)⟩⟩
      · rw [if_neg c5] at H
        have c5b0 : (a1 == 512) = false := beq_eq_false_iff_ne.mpr c5
        have c5b1 : (a1 != 512) = true := bne_iff_ne.mpr c5
        have H' := Aside0.mk H
        clear H
        go_wp2
        go_meet
        case rel => exact ⟨_, (true), (by first | rfl | (simp; done) | (simp [*]; done)), H', ⟨by first | omega | exact Nat.le_refl _⟩, ⟨by repeat (first | (with_reducible first | exact HB.out | apply below_alloc | apply pw_below_drewN | apply below_drew1) | exact HB.out)⟩⟩
  case rest =>
    clear HC3
    try clear p2
    try clear c4
    try clear c4b0
    try clear c4b1
    try clear c5
    try clear c5b0
    try clear c5b1
    obtain ⟨kq, x21_2, rfl, HA, HJ2, HB⟩ := hcut
    cases kq with
    | zero => exact absurd HA.out (by simp [imprimaturref02_Pad.j0])
    | succ kj2 =>
      have H := HA.out
      clear HA
      simp only [imprimaturref02_Pad.j0] at H
      by_cases c6 : x21_2 = true
      · subst c6
        have H1 : (some (([] : List Int), 1)) = some (r1, r2) := by rw [if_pos rfl] at H; exact H
        clear H
        have H := H1
        clear H1
        simp only [Option.some.injEq, Prod.mk.injEq] at H
        obtain ⟨rfl, rfl⟩ := H
        go_wp2
        go_ret2
        exact ⟨_, by first | rfl | (simp [errW_none, errW_some] <;> rfl) | (simp [*, errW_none, errW_some] <;> rfl), by first | exact Kd.R_nil _ _ _ _ _ | exact Kd.N_nil _ _ _ _ _ | exact Kd.V_nil _ _ _ _ _ | exact Kd.Q_nil _ _ _ _ _ | exact Kd.S_nil _ _ _ _ _, by repeat (first | (with_reducible first | exact HB.out | apply below_alloc | apply pw_below_drewN | apply below_drew1) | exact HB.out)⟩
      · replace c6 := Bool.eq_false_iff.mpr c6
        subst c6
        have H1 : (if a0 > 1048576 then (some (([] : List Int), 2)) else (imprimaturref02_Pad.l0 kj2 a0 (wrap64 (Int.tdiv a1 4)) (wrap64 (Int.tdiv a1 32)) (([128] : List Int)))) = some (r1, r2) := by rw [if_neg (show ¬ (false = true) by decide)] at H; exact H
        clear H
        have H := H1
        clear H1
        by_cases c7 : a0 > 1048576
        · rw [if_pos c7] at H
          have c7b0 : decide (1048576 < a0) = true := decide_eq_true c7
          clear c7
          simp only [Option.some.injEq, Prod.mk.injEq] at H
          obtain ⟨rfl, rfl⟩ := H
          go_wp2
          go_ret2
          exact ⟨_, by first | rfl | (simp [errW_none, errW_some] <;> rfl) | (simp [*, errW_none, errW_some] <;> rfl), by first | exact Kd.R_nil _ _ _ _ _ | exact Kd.N_nil _ _ _ _ _ | exact Kd.V_nil _ _ _ _ _ | exact Kd.Q_nil _ _ _ _ _ | exact Kd.S_nil _ _ _ _ _, by repeat (first | (with_reducible first | exact HB.out | apply below_alloc | apply pw_below_drewN | apply below_drew1) | exact HB.out)⟩
        · rw [if_neg c7] at H
          have c7b0 : decide (1048576 < a0) = false := decide_eq_false c7
          clear c7
          obtain ⟨y120, hy120⟩ : ∃ y_ : List Int, y_ = (([128] : List Int)) := ⟨_, rfl⟩
          replace H : (imprimaturref02_Pad.l0 kj2 a0 (wrap64 (Int.tdiv a1 4)) (wrap64 (Int.tdiv a1 32)) y120) = some (r1, r2) := by first | (rw [hy120]; with_reducible exact H) | (have H2_ := (Option.bind_some _ _).symm.trans H; rw [hy120]; with_reducible exact H2_) | (have H2_ := (Option.bind_some _ _).symm.trans H; with_reducible exact H2_) | with_reducible exact H | (rw [hy120]; exact H) | exact H
          have Ny120 := Aside0.mk hy120
          clear hy120
          have H' := Aside0.mk H
          clear H
          go_wp2_with (first | ((with_reducible refine gate_dst (N := 28) rfl ?_); refine Kd.R_lit (Kd.int .u8) _ 5 ?hg (N := 28) ?hd (xs := ([128] : List Int)) (inner := [.int .u8 128]) (ok := fun _ => True) (okp := fun _ => True) ?hr ?hp (fun _ hk => hk) trivial (Below.refl _ _) (Nat.le_refl _) (by simp) ?_; (case hd => rfl); (case hg => rfl); (case hr => first | (go_simp; done) | (go_simp; rfl)); (case hp => exact (Reps.one (show Kd.M (Kd.int .u8) _ _ _ 128 [.int .u8 128] from rfl) (Reps.none _ _))); intro v121 w8 ho9 hb hg_ hnew_; clear hg_ hnew_; (first | rw [← Ny120.out] at ho9 | (simp only [Int.reduceToNat] at ho9; rw [← Ny120.out] at ho9)); have n0_ := Aside0.mk (Kd.R_lower ho9 (below_size (by repeat (first | (with_reducible first | exact HB.out | apply below_alloc | apply pw_below_drewN | apply below_drew1) | exact HB.out)))); have n1_ := Aside0.mk (below_step (by repeat (first | (with_reducible first | exact HB.out | apply below_alloc | apply pw_below_drewN | apply below_drew1) | exact HB.out)) hb); clear HB; have HO122 := n0_; have HB := n1_; clear n0_ n1_; clear hb ho9))
          go_loopg [8] kj2 (fun kq v8 w' => ∃ (x8_2 : List Int), Aside0 (imprimaturref02_Pad.l0 kq a0 (wrap64 (Int.tdiv a1 4)) (wrap64 (Int.tdiv a1 32)) x8_2 = some (r1, r2)) ∧ Aside0 (kq ≤ kj2) ∧ Aside0 (Kd.R (Kd.int .u8) 5 w' w.heap.size (fun _ => True) v8 x8_2) ∧ Aside0 (Below w.heap.size w w'))
          case atStart => exact ⟨(y120), H', ⟨Nat.le_refl _⟩, ⟨by (with_reducible repeat (first | apply Kd.R_alloc | apply Kd.R_drewN | apply Kd.R_drew)); exact HO122.out⟩, ⟨by repeat (first | (with_reducible first | exact HB.out | apply below_alloc | apply pw_below_drewN | apply below_drew1) | exact HB.out)⟩⟩
          case round =>
            clear H'
            try clear p2
            try clear c4
            try clear c4b0
            try clear c4b1
            try clear c5
            try clear c5b0
            try clear c5b1
            try clear c6
            try clear p6
            try clear c7
            try clear c7b0
            try clear c8
            try clear p2
            obtain ⟨x8_2, HA, HK2, HO_8, HB⟩ := hrel
            cases gk with
            | zero => exact absurd HA.out (by simp [imprimaturref02_Pad.l0])
            | succ k2 =>
              have H := HA.out
              clear HA
              simp only [imprimaturref02_Pad.l0] at H
              by_cases c10 : (wrap64 (Int.tdiv a1 4)) = 0
              · rw [if_pos c10] at H
                exact absurd H (by simp)
              · rw [if_neg c10] at H
                have c10b0 : ((wrap64 (Int.tdiv a1 4)) == 0) = false := beq_eq_false_iff_ne.mpr c10
                have c10b1 : ((wrap64 (Int.tdiv a1 4)) != 0) = true := bne_iff_ne.mpr c10
                by_cases c11 : (Int.tmod (wrap64 ((wrap64 (a0 + (x8_2.length : Int))) + (wrap64 (Int.tdiv a1 32)))) (wrap64 (Int.tdiv a1 4))) = 0
                · rw [if_pos c11] at H
                  have c11b0 : ((Int.tmod (wrap64 ((wrap64 (a0 + (x8_2.length : Int))) + (wrap64 (Int.tdiv a1 32)))) (wrap64 (Int.tdiv a1 4))) == 0) = true := beq_iff_eq.mpr c11
                  have c11b1 : ((Int.tmod (wrap64 ((wrap64 (a0 + (x8_2.length : Int))) + (wrap64 (Int.tdiv a1 32)))) (wrap64 (Int.tdiv a1 4))) != 0) = false := bne_eq_false_iff_eq.mpr c11
                  clear c11
                  have H' := Aside0.mk H
                  clear H
                  obtain ⟨Ao12, co12, eo12⟩ := Kd.R_slice HO_8.out
                  subst eo12
                  go_wp2
                  go_loopg [9, 10, 11] k2 (fun kq v9 v10 v11 w' => ∃ (x9_3 : List Int) (x10_3 : Int) (x11_3 : Int), v10 = .int .u64 x10_3 ∧ v11 = .int .i64 x11_3 ∧ Aside0 (imprimaturref02_Pad.l1 kq (wrap64 (Int.tdiv a1 32)) x8_2 x9_3 x10_3 x11_3 = some (r1, r2)) ∧ Aside0 (kq ≤ k2) ∧ Aside0 (Kd.R (Kd.int .u8) 5 w' w.heap.size (fun k_ => some k_ ≠ (v9 : Value).ownBlock) (.slice Ao12 x8_2.length co12) x8_2) ∧ Aside0 (Kd.R (Kd.int .u8) 5 w' w.heap.size (fun k_ => some k_ ≠ ((.slice Ao12 x8_2.length co12) : Value).ownBlock) v9 x9_3) ∧ Aside0 (Below w.heap.size w w'))
                  case atStart => exact ⟨(([] : List Int)), (IntKind.u64.wrap ((IntKind.u64.wrap (a0)) * 8)), (0), (by first | rfl | (simp; done) | (simp [*]; done)), (by first | rfl | (simp; done) | (simp [*]; done)), H', ⟨Nat.le_refl _⟩, ⟨by (with_reducible repeat (first | apply Kd.R_alloc | apply Kd.R_drewN | apply Kd.R_drew)); exact Kd.R_mono HO_8.out (fun _ hk => (by simp [Value.ownBlock]))⟩, ⟨by first | exact Kd.R_nil _ _ _ _ _ | exact Kd.N_nil _ _ _ _ _ | exact Kd.V_nil _ _ _ _ _ | exact Kd.Q_nil _ _ _ _ _ | exact Kd.S_nil _ _ _ _ _⟩, ⟨by repeat (first | (with_reducible first | exact HB.out | apply below_alloc | apply pw_below_drewN | apply below_drew1) | exact HB.out)⟩⟩
                  case round =>
                    clear H'
                    try clear c1
                    try clear p2
                    try clear c4
                    try clear c4b0
                    try clear c4b1
                    try clear c5
                    try clear c5b0
                    try clear c5b1
                    try clear c6
                    try clear p6
                    try clear c7
                    try clear c7b0
                    try clear c8
                    try clear c10
                    try clear c10b0
                    try clear c10b1
                    try clear c11
                    try clear c11b0
                    try clear c11b1
                    try clear p2
                    try clear p6
                    obtain ⟨x9_3, x10_3, x11_3, rfl, rfl, HA, HK3, HO_8, HO_9, HB⟩ := hrel
                    cases gk with
                    | zero => exact absurd HA.out (by simp [imprimaturref02_Pad.l1])
                    | succ k3 =>
                      have H := HA.out
                      clear HA
                      simp only [imprimaturref02_Pad.l1] at H
                      by_cases c13 : x11_3 < (wrap64 (Int.tdiv a1 32))
                      · rw [if_pos c13] at H
                        have c13b0 : decide (x11_3 < (wrap64 (Int.tdiv a1 32))) = true := decide_eq_true c13
                        clear c13
                        obtain ⟨y126, hy126⟩ : ∃ y_ : List Int, y_ = (([(Int.tmod x10_3 256) % 256] : List Int)) := ⟨_, rfl⟩
                        replace H : (if y126.length + x9_3.length < 140737488355328 then (imprimaturref02_Pad.l1 k3 (wrap64 (Int.tdiv a1 32)) x8_2 (y126 ++ x9_3) (IntKind.u64.wrap (Int.tdiv x10_3 256)) (wrap64 (x11_3 + 1))) else (none)) = some (r1, r2) := by first | (rw [hy126]; with_reducible exact H) | (have H2_ := (Option.bind_some _ _).symm.trans H; rw [hy126]; with_reducible exact H2_) | (have H2_ := (Option.bind_some _ _).symm.trans H; with_reducible exact H2_) | with_reducible exact H | (rw [hy126]; exact H) | exact H
                        have Ny126 := Aside0.mk hy126
                        clear hy126
                        by_cases c14 : y126.length + x9_3.length < 140737488355328
                        · rw [if_pos c14] at H
                          have LMc14 := Aside0.mk c14
                          clear c14
                          obtain ⟨y129, hy129⟩ : ∃ y_ : List Int, y_ = (y126 ++ x9_3) := ⟨_, rfl⟩
                          replace H : (imprimaturref02_Pad.l1 k3 (wrap64 (Int.tdiv a1 32)) x8_2 y129 (IntKind.u64.wrap (Int.tdiv x10_3 256)) (wrap64 (x11_3 + 1))) = some (r1, r2) := by first | (rw [hy129]; with_reducible exact H) | (have H2_ := (Option.bind_some _ _).symm.trans H; rw [hy129]; with_reducible exact H2_) | (have H2_ := (Option.bind_some _ _).symm.trans H; with_reducible exact H2_) | with_reducible exact H | (rw [hy129]; exact H) | exact H
                          have Ny129 := Aside0.mk hy129
                          clear hy129
                          have H' := Aside0.mk H
                          clear H
                          go_wp2_with (first | ((with_reducible refine gate_dst (N := 52) rfl ?_); refine Kd.R_lit (Kd.int .u8) _ 5 ?hg (N := 52) ?hd (xs := ([(Int.tmod x10_3 256) % 256] : List Int)) (inner := [.int .u8 ((Int.tmod x10_3 256) % 256)]) (ok := fun _ => True) (okp := fun _ => True) ?hr ?hp (fun _ hk => hk) trivial (Below.refl _ _) (Nat.le_refl _) (by simp) ?_; (case hd => rfl); (case hg => rfl); (case hr => first | (go_simp; done) | (go_simp; rfl)); (case hp => exact (Reps.one (show Kd.M (Kd.int .u8) _ _ _ ((Int.tmod x10_3 256) % 256) [.int .u8 ((Int.tmod x10_3 256) % 256)] from rfl) (Reps.none _ _))); intro v127 w15 ho16 hb hg_ hnew_; clear hg_ hnew_; (first | rw [← Ny126.out] at ho16 | (simp only [Int.reduceToNat] at ho16; rw [← Ny126.out] at ho16)); have n0_ := Aside0.mk (Kd.R_elder' (by (with_reducible repeat (first | apply Kd.R_alloc | apply Kd.R_drewN | apply Kd.R_drew)); exact HO_8.out) (Kd.R_base ho16) hb); have n1_ := Aside0.mk (Kd.R_elder' (by (with_reducible repeat (first | apply Kd.R_alloc | apply Kd.R_drewN | apply Kd.R_drew)); exact HO_9.out) (Kd.R_base ho16) hb); have n2_ := Aside0.mk (Kd.R_lower (Kd.R_new' (Kd.R_new' ho16 (Kd.R_lt (by (with_reducible repeat (first | apply Kd.R_alloc | apply Kd.R_drewN | apply Kd.R_drew)); exact HO_8.out))) (Kd.R_lt (by (with_reducible repeat (first | apply Kd.R_alloc | apply Kd.R_drewN | apply Kd.R_drew)); exact HO_9.out))) (below_size (by repeat (first | (with_reducible first | exact HB.out | apply below_alloc | apply pw_below_drewN | apply below_drew1) | exact HB.out)))); have n3_ := Aside0.mk (below_step (by repeat (first | (with_reducible first | exact HB.out | apply below_alloc | apply pw_below_drewN | apply below_drew1) | exact HB.out)) hb); clear HO_8; clear HO_9; clear HB; have HO_8 := n0_; have HO_9 := n1_; have HO128 := n2_; have HB := n3_; clear n0_ n1_ n2_ n3_; clear hb ho16; obtain ⟨Ao18, co18, eo18⟩ := Kd.R_slice HO_9.out; subst eo18) | ((with_reducible refine gate_builtin (b := .append) (xs := #[.tmp 52, .tmp 53]) rfl ?_); at_builtin; refine Kd.R_append_rows (Kd.int .u8) (w0 := w) w.heap.size rfl (.tmp 52) (.tmp 53) 22 5 (.int .u8 0) 1 rfl Tryz.underlying22 info5 rfl (by decide) (by omega) v127 y126 x9_3 _ _ _ (fun k_ => some k_ ≠ (.slice Ao12 x8_2.length co12 : Value).ownBlock ∧ some k_ ≠ (.slice Ao18 x9_3.length co18 : Value).ownBlock) (fun _ => False) rfl rfl ?aO ?aR (fun _ _ h => h) (fun _ h => h.elim) ?aF ?aB ?aS ?aL ?_; (case aR => repeat (first | exact (Kd.R_reads' HO_9.out).2.2 | (with_reducible refine Kd.C_alloc ?_ _) | (with_reducible refine Kd.C_drewN ?_ _) | (with_reducible refine Kd.C_drew ?_))); (case aB => exact (by repeat (first | (with_reducible first | exact HB.out | apply below_alloc | apply pw_below_drewN | apply below_drew1) | exact HB.out))); (case aF => exact (fun k_ hk => ⟨Kd.fresh' (Kd.R_lt (by (with_reducible repeat (first | apply Kd.R_alloc | apply Kd.R_drewN | apply Kd.R_drew)); exact HO_8.out)) k_ hk, Kd.fresh' (Kd.R_lt (by (with_reducible repeat (first | apply Kd.R_alloc | apply Kd.R_drewN | apply Kd.R_drew)); exact HO_9.out)) k_ hk⟩)); (case aO => exact (by (with_reducible repeat (first | apply Kd.R_alloc | apply Kd.R_drewN | apply Kd.R_drew)); exact Kd.R_mono HO128.out (fun _ hk => ⟨hk.1.2, hk.2⟩))); (case aS => exact (below_size (by repeat (first | (with_reducible first | exact HB.out | apply below_alloc | apply pw_below_drewN | apply below_drew1) | exact HB.out)))); (case aL => have := LMc14.out; omega); intro v130 w17 ho hb hg hat; rw [← Ny129.out] at ho; have n0_ := Aside0.mk (Kd.R_after (ok := (fun k_ => some k_ ≠ (.slice Ao18 x9_3.length co18 : Value).ownBlock)) (by (with_reducible repeat (first | apply Kd.R_alloc | apply Kd.R_drewN | apply Kd.R_drew)); exact HO_8.out) hg hat); have n1_ := Aside0.mk (Kd.R_after (ok := (fun k_ => some k_ ≠ (.slice Ao12 x8_2.length co12 : Value).ownBlock)) (by (with_reducible repeat (first | apply Kd.R_alloc | apply Kd.R_drewN | apply Kd.R_drew)); exact HO_9.out) hg hat); have n2_ := Aside0.mk (hb); have n3_ := Aside0.mk (ho); clear HO_8; clear HO_9; clear HB; clear HO128; have HO_8 := n0_; have HO_9 := n1_; have HB := n2_; have HO131 := n3_; clear n0_ n1_ n2_ n3_; clear ho hb hg hat))
                          go_roundg k3
                          case measure => have := HJ2.out; have := HK2.out; have := HK3.out; omega
                          case rel => exact ⟨(y129), (IntKind.u64.wrap (Int.tdiv x10_3 256)), (wrap64 (x11_3 + 1)), (by first | rfl | (simp; done) | (simp [*]; done)), (by first | rfl | (simp; done) | (simp [*]; done)), H', ⟨by have := HJ2.out; have := HK2.out; have := HK3.out; omega⟩, ⟨by (with_reducible repeat (first | apply Kd.R_alloc | apply Kd.R_drewN | apply Kd.R_drew)); exact Kd.R_mono HO_8.out (fun _ hk => hk.2)⟩, ⟨by (with_reducible repeat (first | apply Kd.R_alloc | apply Kd.R_drewN | apply Kd.R_drew)); exact Kd.R_mono HO131.out (fun _ hk => hk.1)⟩, ⟨by repeat (first | (with_reducible first | exact HB.out | apply below_alloc | apply pw_below_drewN | apply below_drew1) | exact HB.out)⟩⟩
                        · rw [if_neg c14] at H
                          exact absurd H (by simp)
                      · rw [if_neg c13] at H
                        have c13b0 : decide (x11_3 < (wrap64 (Int.tdiv a1 32))) = false := decide_eq_false c13
                        clear c13
                        by_cases c19 : x8_2.length + x9_3.length < 140737488355328
                        · rw [if_pos c19] at H
                          have LMc19 := Aside0.mk c19
                          clear c19
                          obtain ⟨y132, hy132⟩ : ∃ y_ : List Int, y_ = (x8_2 ++ x9_3) := ⟨_, rfl⟩
                          replace H : (some (y132, 0)) = some (r1, r2) := by first | (rw [hy132]; with_reducible exact H) | (have H2_ := (Option.bind_some _ _).symm.trans H; rw [hy132]; with_reducible exact H2_) | (have H2_ := (Option.bind_some _ _).symm.trans H; with_reducible exact H2_) | with_reducible exact H | (rw [hy132]; exact H) | exact H
                          have Ny132 := Aside0.mk hy132
                          clear hy132
                          simp only [Option.some.injEq, Prod.mk.injEq] at H
                          obtain ⟨rfl, rfl⟩ := H
                          obtain ⟨Ao21, co21, eo21⟩ := Kd.R_slice HO_9.out
                          subst eo21
                          go_wp2_with (first | ((with_reducible refine gate_builtin (b := .append) (xs := #[.tmp 57, .tmp 58]) rfl ?_); at_builtin; refine Kd.R_append_rows (Kd.int .u8) (w0 := w) w.heap.size rfl (.tmp 57) (.tmp 58) 22 5 (.int .u8 0) 1 rfl Tryz.underlying22 info5 rfl (by decide) (by omega) (.slice Ao12 x8_2.length co12) x8_2 x9_3 _ _ _ (fun k_ => some k_ ≠ (.slice Ao21 x9_3.length co21 : Value).ownBlock) (fun _ => False) rfl rfl ?aO ?aR (fun _ _ h => h) (fun _ h => h.elim) ?aF ?aB ?aS ?aL ?_; (case aR => repeat (first | exact (Kd.R_reads' HO_9.out).2.2 | (with_reducible refine Kd.C_alloc ?_ _) | (with_reducible refine Kd.C_drewN ?_ _) | (with_reducible refine Kd.C_drew ?_))); (case aB => exact (by repeat (first | (with_reducible first | exact HB.out | apply below_alloc | apply pw_below_drewN | apply below_drew1) | exact HB.out))); (case aF => exact (fun k_ hk => Kd.fresh' (Kd.R_lt (by (with_reducible repeat (first | apply Kd.R_alloc | apply Kd.R_drewN | apply Kd.R_drew)); exact HO_9.out)) k_ hk)); (case aO => exact (by (with_reducible repeat (first | apply Kd.R_alloc | apply Kd.R_drewN | apply Kd.R_drew)); exact HO_8.out)); (case aS => exact (below_size (by repeat (first | (with_reducible first | exact HB.out | apply below_alloc | apply pw_below_drewN | apply below_drew1) | exact HB.out)))); (case aL => have := LMc19.out; omega); intro v133 w20 ho hb hg hat; rw [← Ny132.out] at ho; have n0_ := Aside0.mk (Kd.R_after (ok := (fun _ => True)) (by (with_reducible repeat (first | apply Kd.R_alloc | apply Kd.R_drewN | apply Kd.R_drew)); exact Kd.R_mono HO_9.out (fun _ hk => ⟨trivial, hk⟩)) hg hat); have n1_ := Aside0.mk (hb); have n2_ := Aside0.mk (ho); clear HO_9; clear HB; clear HO_8; have HO_9 := n0_; have HB := n1_; have HO134 := n2_; clear n0_ n1_ n2_; clear ho hb hg hat))
                          go_ret2
                          exact ⟨_, by first | rfl | (simp [errW_none, errW_some] <;> rfl) | (simp [*, errW_none, errW_some] <;> rfl), by (with_reducible repeat (first | apply Kd.R_alloc | apply Kd.R_drewN | apply Kd.R_drew)); exact Kd.R_mono HO134.out (fun _ hk => trivial), by repeat (first | (with_reducible first | exact HB.out | apply below_alloc | apply pw_below_drewN | apply below_drew1) | exact HB.out)⟩
                        · rw [if_neg c19] at H
                          exact absurd H (by simp)
                · rw [if_neg c11] at H
                  have c11b0 : ((Int.tmod (wrap64 ((wrap64 (a0 + (x8_2.length : Int))) + (wrap64 (Int.tdiv a1 32)))) (wrap64 (Int.tdiv a1 4))) == 0) = false := beq_eq_false_iff_ne.mpr c11
                  have c11b1 : ((Int.tmod (wrap64 ((wrap64 (a0 + (x8_2.length : Int))) + (wrap64 (Int.tdiv a1 32)))) (wrap64 (Int.tdiv a1 4))) != 0) = true := bne_iff_ne.mpr c11
                  by_cases c22 : x8_2.length < 140737488355328
                  · rw [if_pos c22] at H
                    have LMc22 := Aside0.mk c22
                    clear c22
                    obtain ⟨y123, hy123⟩ : ∃ y_ : List Int, y_ = (x8_2 ++ [0]) := ⟨_, rfl⟩
                    replace H : (imprimaturref02_Pad.l0 k2 a0 (wrap64 (Int.tdiv a1 4)) (wrap64 (Int.tdiv a1 32)) y123) = some (r1, r2) := by first | (rw [hy123]; with_reducible exact H) | (have H2_ := (Option.bind_some _ _).symm.trans H; rw [hy123]; with_reducible exact H2_) | (have H2_ := (Option.bind_some _ _).symm.trans H; with_reducible exact H2_) | with_reducible exact H | (rw [hy123]; exact H) | exact H
                    have Ny123 := Aside0.mk hy123
                    clear hy123
                    have H' := Aside0.mk H
                    clear H
                    obtain ⟨Ao23, co23, eo23⟩ := Kd.R_slice HO_8.out
                    subst eo23
                    go_wp2_with (first | ((with_reducible refine gate_builtin (b := .append) (xs := #[.tmp 38, .tmp 39]) rfl ?_); at_builtin; refine Kd.R_append (Kd.int .u8) (w0 := w) w.heap.size rfl (.tmp 38) (.tmp 39) 22 5 (.int .u8 0) 1 rfl Tryz.underlying22 info5 rfl (by decide) (by omega) (.slice Ao23 x8_2.length co23) x8_2 0 [.int .u8 0] (fun _ => True) (fun _ => False) rfl rfl ?aP (fun _ hk => hk.elim) ?aF ?aO ?aB ?aS ?aL ?_; (case aP => exact rfl); (case aB => exact (by repeat (first | (with_reducible first | exact HB.out | apply below_alloc | apply pw_below_drewN | apply below_drew1) | exact HB.out))); (case aF => exact (fun _ _ => trivial)); (case aO => exact (by (with_reducible repeat (first | apply Kd.R_alloc | apply Kd.R_drewN | apply Kd.R_drew)); exact HO_8.out)); (case aS => exact (below_size (by repeat (first | (with_reducible first | exact HB.out | apply below_alloc | apply pw_below_drewN | apply below_drew1) | exact HB.out)))); (case aL => have := LMc22.out; omega); intro v124 w24 ho hb hg hat; rw [← Ny123.out] at ho; have n0_ := Aside0.mk (hb); have n1_ := Aside0.mk (ho); clear HB; clear HO_8; have HB := n0_; have HO125 := n1_; clear n0_ n1_; clear ho hb hg hat))
                    go_roundg k2
                    case measure => have := HJ2.out; have := HK2.out; omega
                    case rel => exact ⟨(y123), H', ⟨by have := HJ2.out; have := HK2.out; omega⟩, ⟨by (with_reducible repeat (first | apply Kd.R_alloc | apply Kd.R_drewN | apply Kd.R_drew)); exact HO125.out⟩, ⟨by repeat (first | (with_reducible first | exact HB.out | apply below_alloc | apply pw_below_drewN | apply below_drew1) | exact HB.out)⟩⟩
                  · rw [if_neg c22] at H
                    exact absurd H (by simp)

/-! ### imprimaturref02_constants: function 85 -/
def imprimaturref02_constants.f  : Option (List Int) := some (([4794697086780616226, 8158064640168781261, 13096744586834688815, 16840607885511220156, 4131703408338449720, 6480981068601479193, 10538285296894168987, 12329834152419229976, 15566598209576043074, 1334009975649890238, 2608012711638119052, 6128411473006802146, 8268148722764581231, 9286055187155687089, 11230858885718282805, 13951009754708518548, 16472876342353939154, 17275323862435702243, 1135362057144423861, 2597628984639134821, 3308224258029322869, 5365058923640841347, 6679025012923562964, 8573033837759648693, 10970295158949994411, 12119686244451234320, 12683024718118986047, 13788192230050041572, 14330467153632333762, 15395433587784984357, 489312712824947311, 1452737877330783856, 2861767655752347644, 3322285676063803686, 5560940570517711597, 5996557281743188959, 7280758554555802590, 8532644243296465576, 9350256976987008742, 10552545826968843579, 11727347734174303076, 12113106623233404929, 14000437183269869457, 14369950271660146224, 15101387698204529176, 15463397548674623760, 17586052441742319658, 1182934255886127544, 1847814050463011016, 2177327727835720531, 2830643537854262169, 3796741975233480872, 4115178125766777443, 5681478168544905931, 6601373596472566643, 7507060721942968483, 8399075790359081724, 8693463985226723168, 9568029438360202098, 10144078919501101548, 10430055236837252648, 11840083180663258601, 13761210420658862357, 14299343276471374635, 14566680578165727644, 15097957966210449927, 16922976911328602910, 17689382322260857208, 500013540394364858, 748580250866718886, 1242879168328830382, 1977374033974150939, 2944078676154940804, 3659926193048069267, 4368137639120453308, 4836135668995329356, 5532061633213252278, 6448918945643986474, 6902733635092675308, 7801388544844847127] : List Int))
set_option maxHeartbeats 8000000 in
set_option maxRecDepth 100000 in
theorem imprimaturref02_constants.calls  (r : List Int) (w : World) (h : imprimaturref02_constants.f  = some r) :
    Calls Tryz.prog 85 #[] w fun e w' => ∃ v0_ : Value, e = .returned (v0_) ∧ Kd.R (Kd.int .u64) 45 w' w.heap.size (fun _ => True) v0_ r ∧ Below w.heap.size w w' := by
  have HB := Aside0.mk (Below.refl w.heap.size w)
  have H : (some (([4794697086780616226, 8158064640168781261, 13096744586834688815, 16840607885511220156, 4131703408338449720, 6480981068601479193, 10538285296894168987, 12329834152419229976, 15566598209576043074, 1334009975649890238, 2608012711638119052, 6128411473006802146, 8268148722764581231, 9286055187155687089, 11230858885718282805, 13951009754708518548, 16472876342353939154, 17275323862435702243, 1135362057144423861, 2597628984639134821, 3308224258029322869, 5365058923640841347, 6679025012923562964, 8573033837759648693, 10970295158949994411, 12119686244451234320, 12683024718118986047, 13788192230050041572, 14330467153632333762, 15395433587784984357, 489312712824947311, 1452737877330783856, 2861767655752347644, 3322285676063803686, 5560940570517711597, 5996557281743188959, 7280758554555802590, 8532644243296465576, 9350256976987008742, 10552545826968843579, 11727347734174303076, 12113106623233404929, 14000437183269869457, 14369950271660146224, 15101387698204529176, 15463397548674623760, 17586052441742319658, 1182934255886127544, 1847814050463011016, 2177327727835720531, 2830643537854262169, 3796741975233480872, 4115178125766777443, 5681478168544905931, 6601373596472566643, 7507060721942968483, 8399075790359081724, 8693463985226723168, 9568029438360202098, 10144078919501101548, 10430055236837252648, 11840083180663258601, 13761210420658862357, 14299343276471374635, 14566680578165727644, 15097957966210449927, 16922976911328602910, 17689382322260857208, 500013540394364858, 748580250866718886, 1242879168328830382, 1977374033974150939, 2944078676154940804, 3659926193048069267, 4368137639120453308, 4836135668995329356, 5532061633213252278, 6448918945643986474, 6902733635092675308, 7801388544844847127] : List Int))) = some r := h
  clear h
  obtain ⟨y135, hy135⟩ : ∃ y_ : List Int, y_ = (([4794697086780616226, 8158064640168781261, 13096744586834688815, 16840607885511220156, 4131703408338449720, 6480981068601479193, 10538285296894168987, 12329834152419229976, 15566598209576043074, 1334009975649890238, 2608012711638119052, 6128411473006802146, 8268148722764581231, 9286055187155687089, 11230858885718282805, 13951009754708518548, 16472876342353939154, 17275323862435702243, 1135362057144423861, 2597628984639134821, 3308224258029322869, 5365058923640841347, 6679025012923562964, 8573033837759648693, 10970295158949994411, 12119686244451234320, 12683024718118986047, 13788192230050041572, 14330467153632333762, 15395433587784984357, 489312712824947311, 1452737877330783856, 2861767655752347644, 3322285676063803686, 5560940570517711597, 5996557281743188959, 7280758554555802590, 8532644243296465576, 9350256976987008742, 10552545826968843579, 11727347734174303076, 12113106623233404929, 14000437183269869457, 14369950271660146224, 15101387698204529176, 15463397548674623760, 17586052441742319658, 1182934255886127544, 1847814050463011016, 2177327727835720531, 2830643537854262169, 3796741975233480872, 4115178125766777443, 5681478168544905931, 6601373596472566643, 7507060721942968483, 8399075790359081724, 8693463985226723168, 9568029438360202098, 10144078919501101548, 10430055236837252648, 11840083180663258601, 13761210420658862357, 14299343276471374635, 14566680578165727644, 15097957966210449927, 16922976911328602910, 17689382322260857208, 500013540394364858, 748580250866718886, 1242879168328830382, 1977374033974150939, 2944078676154940804, 3659926193048069267, 4368137639120453308, 4836135668995329356, 5532061633213252278, 6448918945643986474, 6902733635092675308, 7801388544844847127] : List Int)) := ⟨_, rfl⟩
  replace H : (some y135) = some r := by first | (rw [hy135]; with_reducible exact H) | (have H2_ := (Option.bind_some _ _).symm.trans H; rw [hy135]; with_reducible exact H2_) | (have H2_ := (Option.bind_some _ _).symm.trans H; with_reducible exact H2_) | with_reducible exact H | (rw [hy135]; exact H) | exact H
  have Ny135 := Aside0.mk hy135
  clear hy135
  obtain rfl := Option.some.inj H
  go_enter Tryz.func85, Tryz.ntmps85
  go_wp2_with (first | ((with_reducible refine gate_dst (N := 1) rfl ?_); refine Kd.R_lit (Kd.int .u64) _ 45 ?hg (N := 1) ?hd (xs := ([4794697086780616226, 8158064640168781261, 13096744586834688815, 16840607885511220156, 4131703408338449720, 6480981068601479193, 10538285296894168987, 12329834152419229976, 15566598209576043074, 1334009975649890238, 2608012711638119052, 6128411473006802146, 8268148722764581231, 9286055187155687089, 11230858885718282805, 13951009754708518548, 16472876342353939154, 17275323862435702243, 1135362057144423861, 2597628984639134821, 3308224258029322869, 5365058923640841347, 6679025012923562964, 8573033837759648693, 10970295158949994411, 12119686244451234320, 12683024718118986047, 13788192230050041572, 14330467153632333762, 15395433587784984357, 489312712824947311, 1452737877330783856, 2861767655752347644, 3322285676063803686, 5560940570517711597, 5996557281743188959, 7280758554555802590, 8532644243296465576, 9350256976987008742, 10552545826968843579, 11727347734174303076, 12113106623233404929, 14000437183269869457, 14369950271660146224, 15101387698204529176, 15463397548674623760, 17586052441742319658, 1182934255886127544, 1847814050463011016, 2177327727835720531, 2830643537854262169, 3796741975233480872, 4115178125766777443, 5681478168544905931, 6601373596472566643, 7507060721942968483, 8399075790359081724, 8693463985226723168, 9568029438360202098, 10144078919501101548, 10430055236837252648, 11840083180663258601, 13761210420658862357, 14299343276471374635, 14566680578165727644, 15097957966210449927, 16922976911328602910, 17689382322260857208, 500013540394364858, 748580250866718886, 1242879168328830382, 1977374033974150939, 2944078676154940804, 3659926193048069267, 4368137639120453308, 4836135668995329356, 5532061633213252278, 6448918945643986474, 6902733635092675308, 7801388544844847127] : List Int)) (inner := [.int .u64 4794697086780616226, .int .u64 8158064640168781261, .int .u64 13096744586834688815, .int .u64 16840607885511220156, .int .u64 4131703408338449720, .int .u64 6480981068601479193, .int .u64 10538285296894168987, .int .u64 12329834152419229976, .int .u64 15566598209576043074, .int .u64 1334009975649890238, .int .u64 2608012711638119052, .int .u64 6128411473006802146, .int .u64 8268148722764581231, .int .u64 9286055187155687089, .int .u64 11230858885718282805, .int .u64 13951009754708518548, .int .u64 16472876342353939154, .int .u64 17275323862435702243, .int .u64 1135362057144423861, .int .u64 2597628984639134821, .int .u64 3308224258029322869, .int .u64 5365058923640841347, .int .u64 6679025012923562964, .int .u64 8573033837759648693, .int .u64 10970295158949994411, .int .u64 12119686244451234320, .int .u64 12683024718118986047, .int .u64 13788192230050041572, .int .u64 14330467153632333762, .int .u64 15395433587784984357, .int .u64 489312712824947311, .int .u64 1452737877330783856, .int .u64 2861767655752347644, .int .u64 3322285676063803686, .int .u64 5560940570517711597, .int .u64 5996557281743188959, .int .u64 7280758554555802590, .int .u64 8532644243296465576, .int .u64 9350256976987008742, .int .u64 10552545826968843579, .int .u64 11727347734174303076, .int .u64 12113106623233404929, .int .u64 14000437183269869457, .int .u64 14369950271660146224, .int .u64 15101387698204529176, .int .u64 15463397548674623760, .int .u64 17586052441742319658, .int .u64 1182934255886127544, .int .u64 1847814050463011016, .int .u64 2177327727835720531, .int .u64 2830643537854262169, .int .u64 3796741975233480872, .int .u64 4115178125766777443, .int .u64 5681478168544905931, .int .u64 6601373596472566643, .int .u64 7507060721942968483, .int .u64 8399075790359081724, .int .u64 8693463985226723168, .int .u64 9568029438360202098, .int .u64 10144078919501101548, .int .u64 10430055236837252648, .int .u64 11840083180663258601, .int .u64 13761210420658862357, .int .u64 14299343276471374635, .int .u64 14566680578165727644, .int .u64 15097957966210449927, .int .u64 16922976911328602910, .int .u64 17689382322260857208, .int .u64 500013540394364858, .int .u64 748580250866718886, .int .u64 1242879168328830382, .int .u64 1977374033974150939, .int .u64 2944078676154940804, .int .u64 3659926193048069267, .int .u64 4368137639120453308, .int .u64 4836135668995329356, .int .u64 5532061633213252278, .int .u64 6448918945643986474, .int .u64 6902733635092675308, .int .u64 7801388544844847127]) (ok := fun _ => True) (okp := fun _ => True) ?hr ?hp (fun _ hk => hk) trivial (Below.refl _ _) (Nat.le_refl _) (by simp) ?_; (case hd => rfl); (case hg => rfl); (case hr => first | (go_simp; done) | (go_simp; rfl)); (case hp => exact (Reps.one (show Kd.M (Kd.int .u64) _ _ _ 4794697086780616226 [.int .u64 4794697086780616226] from rfl) (Reps.one (show Kd.M (Kd.int .u64) _ _ _ 8158064640168781261 [.int .u64 8158064640168781261] from rfl) (Reps.one (show Kd.M (Kd.int .u64) _ _ _ 13096744586834688815 [.int .u64 13096744586834688815] from rfl) (Reps.one (show Kd.M (Kd.int .u64) _ _ _ 16840607885511220156 [.int .u64 16840607885511220156] from rfl) (Reps.one (show Kd.M (Kd.int .u64) _ _ _ 4131703408338449720 [.int .u64 4131703408338449720] from rfl) (Reps.one (show Kd.M (Kd.int .u64) _ _ _ 6480981068601479193 [.int .u64 6480981068601479193] from rfl) (Reps.one (show Kd.M (Kd.int .u64) _ _ _ 10538285296894168987 [.int .u64 10538285296894168987] from rfl) (Reps.one (show Kd.M (Kd.int .u64) _ _ _ 12329834152419229976 [.int .u64 12329834152419229976] from rfl) (Reps.one (show Kd.M (Kd.int .u64) _ _ _ 15566598209576043074 [.int .u64 15566598209576043074] from rfl) (Reps.one (show Kd.M (Kd.int .u64) _ _ _ 1334009975649890238 [.int .u64 1334009975649890238] from rfl) (Reps.one (show Kd.M (Kd.int .u64) _ _ _ 2608012711638119052 [.int .u64 2608012711638119052] from rfl) (Reps.one (show Kd.M (Kd.int .u64) _ _ _ 6128411473006802146 [.int .u64 6128411473006802146] from rfl) (Reps.one (show Kd.M (Kd.int .u64) _ _ _ 8268148722764581231 [.int .u64 8268148722764581231] from rfl) (Reps.one (show Kd.M (Kd.int .u64) _ _ _ 9286055187155687089 [.int .u64 9286055187155687089] from rfl) (Reps.one (show Kd.M (Kd.int .u64) _ _ _ 11230858885718282805 [.int .u64 11230858885718282805] from rfl) (Reps.one (show Kd.M (Kd.int .u64) _ _ _ 13951009754708518548 [.int .u64 13951009754708518548] from rfl) (Reps.one (show Kd.M (Kd.int .u64) _ _ _ 16472876342353939154 [.int .u64 16472876342353939154] from rfl) (Reps.one (show Kd.M (Kd.int .u64) _ _ _ 17275323862435702243 [.int .u64 17275323862435702243] from rfl) (Reps.one (show Kd.M (Kd.int .u64) _ _ _ 1135362057144423861 [.int .u64 1135362057144423861] from rfl) (Reps.one (show Kd.M (Kd.int .u64) _ _ _ 2597628984639134821 [.int .u64 2597628984639134821] from rfl) (Reps.one (show Kd.M (Kd.int .u64) _ _ _ 3308224258029322869 [.int .u64 3308224258029322869] from rfl) (Reps.one (show Kd.M (Kd.int .u64) _ _ _ 5365058923640841347 [.int .u64 5365058923640841347] from rfl) (Reps.one (show Kd.M (Kd.int .u64) _ _ _ 6679025012923562964 [.int .u64 6679025012923562964] from rfl) (Reps.one (show Kd.M (Kd.int .u64) _ _ _ 8573033837759648693 [.int .u64 8573033837759648693] from rfl) (Reps.one (show Kd.M (Kd.int .u64) _ _ _ 10970295158949994411 [.int .u64 10970295158949994411] from rfl) (Reps.one (show Kd.M (Kd.int .u64) _ _ _ 12119686244451234320 [.int .u64 12119686244451234320] from rfl) (Reps.one (show Kd.M (Kd.int .u64) _ _ _ 12683024718118986047 [.int .u64 12683024718118986047] from rfl) (Reps.one (show Kd.M (Kd.int .u64) _ _ _ 13788192230050041572 [.int .u64 13788192230050041572] from rfl) (Reps.one (show Kd.M (Kd.int .u64) _ _ _ 14330467153632333762 [.int .u64 14330467153632333762] from rfl) (Reps.one (show Kd.M (Kd.int .u64) _ _ _ 15395433587784984357 [.int .u64 15395433587784984357] from rfl) (Reps.one (show Kd.M (Kd.int .u64) _ _ _ 489312712824947311 [.int .u64 489312712824947311] from rfl) (Reps.one (show Kd.M (Kd.int .u64) _ _ _ 1452737877330783856 [.int .u64 1452737877330783856] from rfl) (Reps.one (show Kd.M (Kd.int .u64) _ _ _ 2861767655752347644 [.int .u64 2861767655752347644] from rfl) (Reps.one (show Kd.M (Kd.int .u64) _ _ _ 3322285676063803686 [.int .u64 3322285676063803686] from rfl) (Reps.one (show Kd.M (Kd.int .u64) _ _ _ 5560940570517711597 [.int .u64 5560940570517711597] from rfl) (Reps.one (show Kd.M (Kd.int .u64) _ _ _ 5996557281743188959 [.int .u64 5996557281743188959] from rfl) (Reps.one (show Kd.M (Kd.int .u64) _ _ _ 7280758554555802590 [.int .u64 7280758554555802590] from rfl) (Reps.one (show Kd.M (Kd.int .u64) _ _ _ 8532644243296465576 [.int .u64 8532644243296465576] from rfl) (Reps.one (show Kd.M (Kd.int .u64) _ _ _ 9350256976987008742 [.int .u64 9350256976987008742] from rfl) (Reps.one (show Kd.M (Kd.int .u64) _ _ _ 10552545826968843579 [.int .u64 10552545826968843579] from rfl) (Reps.one (show Kd.M (Kd.int .u64) _ _ _ 11727347734174303076 [.int .u64 11727347734174303076] from rfl) (Reps.one (show Kd.M (Kd.int .u64) _ _ _ 12113106623233404929 [.int .u64 12113106623233404929] from rfl) (Reps.one (show Kd.M (Kd.int .u64) _ _ _ 14000437183269869457 [.int .u64 14000437183269869457] from rfl) (Reps.one (show Kd.M (Kd.int .u64) _ _ _ 14369950271660146224 [.int .u64 14369950271660146224] from rfl) (Reps.one (show Kd.M (Kd.int .u64) _ _ _ 15101387698204529176 [.int .u64 15101387698204529176] from rfl) (Reps.one (show Kd.M (Kd.int .u64) _ _ _ 15463397548674623760 [.int .u64 15463397548674623760] from rfl) (Reps.one (show Kd.M (Kd.int .u64) _ _ _ 17586052441742319658 [.int .u64 17586052441742319658] from rfl) (Reps.one (show Kd.M (Kd.int .u64) _ _ _ 1182934255886127544 [.int .u64 1182934255886127544] from rfl) (Reps.one (show Kd.M (Kd.int .u64) _ _ _ 1847814050463011016 [.int .u64 1847814050463011016] from rfl) (Reps.one (show Kd.M (Kd.int .u64) _ _ _ 2177327727835720531 [.int .u64 2177327727835720531] from rfl) (Reps.one (show Kd.M (Kd.int .u64) _ _ _ 2830643537854262169 [.int .u64 2830643537854262169] from rfl) (Reps.one (show Kd.M (Kd.int .u64) _ _ _ 3796741975233480872 [.int .u64 3796741975233480872] from rfl) (Reps.one (show Kd.M (Kd.int .u64) _ _ _ 4115178125766777443 [.int .u64 4115178125766777443] from rfl) (Reps.one (show Kd.M (Kd.int .u64) _ _ _ 5681478168544905931 [.int .u64 5681478168544905931] from rfl) (Reps.one (show Kd.M (Kd.int .u64) _ _ _ 6601373596472566643 [.int .u64 6601373596472566643] from rfl) (Reps.one (show Kd.M (Kd.int .u64) _ _ _ 7507060721942968483 [.int .u64 7507060721942968483] from rfl) (Reps.one (show Kd.M (Kd.int .u64) _ _ _ 8399075790359081724 [.int .u64 8399075790359081724] from rfl) (Reps.one (show Kd.M (Kd.int .u64) _ _ _ 8693463985226723168 [.int .u64 8693463985226723168] from rfl) (Reps.one (show Kd.M (Kd.int .u64) _ _ _ 9568029438360202098 [.int .u64 9568029438360202098] from rfl) (Reps.one (show Kd.M (Kd.int .u64) _ _ _ 10144078919501101548 [.int .u64 10144078919501101548] from rfl) (Reps.one (show Kd.M (Kd.int .u64) _ _ _ 10430055236837252648 [.int .u64 10430055236837252648] from rfl) (Reps.one (show Kd.M (Kd.int .u64) _ _ _ 11840083180663258601 [.int .u64 11840083180663258601] from rfl) (Reps.one (show Kd.M (Kd.int .u64) _ _ _ 13761210420658862357 [.int .u64 13761210420658862357] from rfl) (Reps.one (show Kd.M (Kd.int .u64) _ _ _ 14299343276471374635 [.int .u64 14299343276471374635] from rfl) (Reps.one (show Kd.M (Kd.int .u64) _ _ _ 14566680578165727644 [.int .u64 14566680578165727644] from rfl) (Reps.one (show Kd.M (Kd.int .u64) _ _ _ 15097957966210449927 [.int .u64 15097957966210449927] from rfl) (Reps.one (show Kd.M (Kd.int .u64) _ _ _ 16922976911328602910 [.int .u64 16922976911328602910] from rfl) (Reps.one (show Kd.M (Kd.int .u64) _ _ _ 17689382322260857208 [.int .u64 17689382322260857208] from rfl) (Reps.one (show Kd.M (Kd.int .u64) _ _ _ 500013540394364858 [.int .u64 500013540394364858] from rfl) (Reps.one (show Kd.M (Kd.int .u64) _ _ _ 748580250866718886 [.int .u64 748580250866718886] from rfl) (Reps.one (show Kd.M (Kd.int .u64) _ _ _ 1242879168328830382 [.int .u64 1242879168328830382] from rfl) (Reps.one (show Kd.M (Kd.int .u64) _ _ _ 1977374033974150939 [.int .u64 1977374033974150939] from rfl) (Reps.one (show Kd.M (Kd.int .u64) _ _ _ 2944078676154940804 [.int .u64 2944078676154940804] from rfl) (Reps.one (show Kd.M (Kd.int .u64) _ _ _ 3659926193048069267 [.int .u64 3659926193048069267] from rfl) (Reps.one (show Kd.M (Kd.int .u64) _ _ _ 4368137639120453308 [.int .u64 4368137639120453308] from rfl) (Reps.one (show Kd.M (Kd.int .u64) _ _ _ 4836135668995329356 [.int .u64 4836135668995329356] from rfl) (Reps.one (show Kd.M (Kd.int .u64) _ _ _ 5532061633213252278 [.int .u64 5532061633213252278] from rfl) (Reps.one (show Kd.M (Kd.int .u64) _ _ _ 6448918945643986474 [.int .u64 6448918945643986474] from rfl) (Reps.one (show Kd.M (Kd.int .u64) _ _ _ 6902733635092675308 [.int .u64 6902733635092675308] from rfl) (Reps.one (show Kd.M (Kd.int .u64) _ _ _ 7801388544844847127 [.int .u64 7801388544844847127] from rfl) (Reps.none _ _)))))))))))))))))))))))))))))))))))))))))))))))))))))))))))))))))))))))))))))))))); intro v136 w1 ho2 hb hg_ hnew_; clear hg_ hnew_; (first | rw [← Ny135.out] at ho2 | (simp only [Int.reduceToNat] at ho2; rw [← Ny135.out] at ho2)); have n0_ := Aside0.mk (Kd.R_lower ho2 (below_size (by repeat (first | (with_reducible first | exact HB.out | apply below_alloc | apply pw_below_drewN | apply below_drew1) | exact HB.out)))); have n1_ := Aside0.mk (below_step (by repeat (first | (with_reducible first | exact HB.out | apply below_alloc | apply pw_below_drewN | apply below_drew1) | exact HB.out)) hb); clear HB; have HO137 := n0_; have HB := n1_; clear n0_ n1_; clear hb ho2))
  go_ret
  exact ⟨_, by first | rfl | (simp [errW_none, errW_some] <;> rfl) | (simp [*, errW_none, errW_some] <;> rfl), by (with_reducible repeat (first | apply Kd.R_alloc | apply Kd.R_drewN | apply Kd.R_drew)); exact HO137.out, by repeat (first | (with_reducible first | exact HB.out | apply below_alloc | apply pw_below_drewN | apply below_drew1) | exact HB.out)⟩

/-! ### imprimaturref02_starts: function 86 -/
def imprimaturref02_starts.f  : Option (List Int) := some (([7640891576956012808, 13503953896175478587, 4354685564936845355, 11912009170470909681, 5840696475078001361, 11170449401992604703, 2270897969802886507, 6620516959819538809] : List Int))
set_option maxHeartbeats 8000000 in
set_option maxRecDepth 100000 in
theorem imprimaturref02_starts.calls  (r : List Int) (w : World) (h : imprimaturref02_starts.f  = some r) :
    Calls Tryz.prog 86 #[] w fun e w' => ∃ v0_ : Value, e = .returned (v0_) ∧ Kd.R (Kd.int .u64) 45 w' w.heap.size (fun _ => True) v0_ r ∧ Below w.heap.size w w' := by
  have HB := Aside0.mk (Below.refl w.heap.size w)
  have H : (some (([7640891576956012808, 13503953896175478587, 4354685564936845355, 11912009170470909681, 5840696475078001361, 11170449401992604703, 2270897969802886507, 6620516959819538809] : List Int))) = some r := h
  clear h
  obtain ⟨y138, hy138⟩ : ∃ y_ : List Int, y_ = (([7640891576956012808, 13503953896175478587, 4354685564936845355, 11912009170470909681, 5840696475078001361, 11170449401992604703, 2270897969802886507, 6620516959819538809] : List Int)) := ⟨_, rfl⟩
  replace H : (some y138) = some r := by first | (rw [hy138]; with_reducible exact H) | (have H2_ := (Option.bind_some _ _).symm.trans H; rw [hy138]; with_reducible exact H2_) | (have H2_ := (Option.bind_some _ _).symm.trans H; with_reducible exact H2_) | with_reducible exact H | (rw [hy138]; exact H) | exact H
  have Ny138 := Aside0.mk hy138
  clear hy138
  obtain rfl := Option.some.inj H
  go_enter Tryz.func86, Tryz.ntmps86
  go_wp2_with (first | ((with_reducible refine gate_dst (N := 1) rfl ?_); refine Kd.R_lit (Kd.int .u64) _ 45 ?hg (N := 1) ?hd (xs := ([7640891576956012808, 13503953896175478587, 4354685564936845355, 11912009170470909681, 5840696475078001361, 11170449401992604703, 2270897969802886507, 6620516959819538809] : List Int)) (inner := [.int .u64 7640891576956012808, .int .u64 13503953896175478587, .int .u64 4354685564936845355, .int .u64 11912009170470909681, .int .u64 5840696475078001361, .int .u64 11170449401992604703, .int .u64 2270897969802886507, .int .u64 6620516959819538809]) (ok := fun _ => True) (okp := fun _ => True) ?hr ?hp (fun _ hk => hk) trivial (Below.refl _ _) (Nat.le_refl _) (by simp) ?_; (case hd => rfl); (case hg => rfl); (case hr => first | (go_simp; done) | (go_simp; rfl)); (case hp => exact (Reps.one (show Kd.M (Kd.int .u64) _ _ _ 7640891576956012808 [.int .u64 7640891576956012808] from rfl) (Reps.one (show Kd.M (Kd.int .u64) _ _ _ 13503953896175478587 [.int .u64 13503953896175478587] from rfl) (Reps.one (show Kd.M (Kd.int .u64) _ _ _ 4354685564936845355 [.int .u64 4354685564936845355] from rfl) (Reps.one (show Kd.M (Kd.int .u64) _ _ _ 11912009170470909681 [.int .u64 11912009170470909681] from rfl) (Reps.one (show Kd.M (Kd.int .u64) _ _ _ 5840696475078001361 [.int .u64 5840696475078001361] from rfl) (Reps.one (show Kd.M (Kd.int .u64) _ _ _ 11170449401992604703 [.int .u64 11170449401992604703] from rfl) (Reps.one (show Kd.M (Kd.int .u64) _ _ _ 2270897969802886507 [.int .u64 2270897969802886507] from rfl) (Reps.one (show Kd.M (Kd.int .u64) _ _ _ 6620516959819538809 [.int .u64 6620516959819538809] from rfl) (Reps.none _ _)))))))))); intro v139 w1 ho2 hb hg_ hnew_; clear hg_ hnew_; (first | rw [← Ny138.out] at ho2 | (simp only [Int.reduceToNat] at ho2; rw [← Ny138.out] at ho2)); have n0_ := Aside0.mk (Kd.R_lower ho2 (below_size (by repeat (first | (with_reducible first | exact HB.out | apply below_alloc | apply pw_below_drewN | apply below_drew1) | exact HB.out)))); have n1_ := Aside0.mk (below_step (by repeat (first | (with_reducible first | exact HB.out | apply below_alloc | apply pw_below_drewN | apply below_drew1) | exact HB.out)) hb); clear HB; have HO140 := n0_; have HB := n1_; clear n0_ n1_; clear hb ho2))
  go_ret
  exact ⟨_, by first | rfl | (simp [errW_none, errW_some] <;> rfl) | (simp [*, errW_none, errW_some] <;> rfl), by (with_reducible repeat (first | apply Kd.R_alloc | apply Kd.R_drewN | apply Kd.R_drew)); exact HO140.out, by repeat (first | (with_reducible first | exact HB.out | apply below_alloc | apply pw_below_drewN | apply below_drew1) | exact HB.out)⟩

/-! ### imprimaturref02_Words_cut: function 89 -/
def imprimaturref02_Words_cut.f (a0_0 : Int) (a0_1 : Int) (a1 : Int) : Option (Int) := if a0_0 = 0 then (some a1) else (some (Int.tmod a1 a0_0))
set_option maxHeartbeats 8000000 in
set_option maxRecDepth 100000 in
theorem imprimaturref02_Words_cut.calls (a0_0 : Int) (a0_1 : Int) (a1 : Int) (r : Int) (w : World) (h : imprimaturref02_Words_cut.f a0_0 a0_1 a1 = some r) :
    Calls Tryz.prog 89 #[.agg #[.int .u64 a0_0, .int .u64 a0_1], .int .u64 a1] w fun e w' => e = .returned (.int .u64 r) ∧ Below w.heap.size w w' := by
  have hu125 := Tryz.underlying125
  have HB := Aside0.mk (Below.refl w.heap.size w)
  have H : (if a0_0 = 0 then (some a1) else (some (Int.tmod a1 a0_0))) = some r := h
  clear h
  by_cases c3 : a0_0 = 0
  · rw [if_pos c3] at H
    have c3b0 : (a0_0 == 0) = true := beq_iff_eq.mpr c3
    have c3b1 : (a0_0 != 0) = false := bne_eq_false_iff_eq.mpr c3
    clear c3
    obtain rfl := Option.some.inj H
    go_enter Tryz.func89, Tryz.ntmps89
    go_wp2_with (first | ((with_reducible refine gate_dst (N := 2) rfl ?_); refine box_event ?hg (N := 2) ?hd (cs := #[.int .u64 a0_0, .int .u64 a0_1]) (t := 125) ?hr ?_; (case hd => rfl); (case hg => rfl); (case hr => first | (go_simp; done) | (go_simp; rfl)); intro gb141 hg w4 hbox hb; have n0_ := Aside0.mk (below_step (by repeat (first | (with_reducible first | exact HB.out | apply below_alloc | apply pw_below_drewN | apply below_drew1) | exact HB.out)) hb); have n1_ := Aside0.mk (hbox); have n2_ := Aside0.mk ((by rw [hg]; exact (below_size (by repeat (first | (with_reducible first | exact HB.out | apply below_alloc | apply pw_below_drewN | apply below_drew1) | exact HB.out))) : w.heap.size ≤ gb141)); have n3_ := Aside0.mk ((by rw [hg]; exact (below_size (by repeat (first | (with_reducible first | exact HB.out | apply below_alloc | apply pw_below_drewN | apply below_drew1) | exact HB.out))) : w.heap.size ≤ gb141)); clear HB; have HB := n0_; have BK141 := n1_; have GW141 := n2_; have GE141 := n3_; clear n0_ n1_ n2_ n3_; clear hb hbox hg; have hcz5_0 : w4.cell? ⟨gb141, 0, none⟩ = some (.int .u64 a0_0) := (blk_cell BK141.out 0).trans rfl; have hcz5_1 : w4.cell? ⟨gb141, 1, none⟩ = some (.int .u64 a0_1) := (blk_cell BK141.out 1).trans rfl; have hfz5_0 := blk_frozen BK141.out 0; have hfz5_1 := blk_frozen BK141.out 1))
    go_ret
    exact ⟨by first | rfl | (simp [errW_none, errW_some] <;> rfl) | (simp [*, errW_none, errW_some] <;> rfl), by repeat (first | (with_reducible first | exact HB.out | apply below_alloc | apply pw_below_drewN | apply below_drew1 | refine below_set ?_ GE141.out) | exact HB.out)⟩
  · rw [if_neg c3] at H
    have c3b0 : (a0_0 == 0) = false := beq_eq_false_iff_ne.mpr c3
    have c3b1 : (a0_0 != 0) = true := bne_iff_ne.mpr c3
    obtain rfl := Option.some.inj H
    go_enter Tryz.func89, Tryz.ntmps89
    go_wp2_with (first | ((with_reducible refine gate_dst (N := 2) rfl ?_); refine box_event ?hg (N := 2) ?hd (cs := #[.int .u64 a0_0, .int .u64 a0_1]) (t := 125) ?hr ?_; (case hd => rfl); (case hg => rfl); (case hr => first | (go_simp; done) | (go_simp; rfl)); intro gb141 hg w6 hbox hb; have n0_ := Aside0.mk (below_step (by repeat (first | (with_reducible first | exact HB.out | apply below_alloc | apply pw_below_drewN | apply below_drew1) | exact HB.out)) hb); have n1_ := Aside0.mk (hbox); have n2_ := Aside0.mk ((by rw [hg]; exact (below_size (by repeat (first | (with_reducible first | exact HB.out | apply below_alloc | apply pw_below_drewN | apply below_drew1) | exact HB.out))) : w.heap.size ≤ gb141)); have n3_ := Aside0.mk ((by rw [hg]; exact (below_size (by repeat (first | (with_reducible first | exact HB.out | apply below_alloc | apply pw_below_drewN | apply below_drew1) | exact HB.out))) : w.heap.size ≤ gb141)); clear HB; have HB := n0_; have BK141 := n1_; have GW141 := n2_; have GE141 := n3_; clear n0_ n1_ n2_ n3_; clear hb hbox hg; have hcz7_0 : w6.cell? ⟨gb141, 0, none⟩ = some (.int .u64 a0_0) := (blk_cell BK141.out 0).trans rfl; have hcz7_1 : w6.cell? ⟨gb141, 1, none⟩ = some (.int .u64 a0_1) := (blk_cell BK141.out 1).trans rfl; have hfz7_0 := blk_frozen BK141.out 0; have hfz7_1 := blk_frozen BK141.out 1))
    go_ret
    exact ⟨by first | rfl | (simp [errW_none, errW_some] <;> rfl) | (simp [*, errW_none, errW_some] <;> rfl), by repeat (first | (with_reducible first | exact HB.out | apply below_alloc | apply pw_below_drewN | apply below_drew1 | refine below_set ?_ GE141.out) | exact HB.out)⟩

/-! ### imprimaturref02_Words_turn: function 103 -/
def imprimaturref02_Words_turn.f (a0_0 : Int) (a0_1 : Int) (a1 : Int) (a2 : Int) : Option (Int) := if 0 ≤ a2 then (if 0 ≤ (IntKind.u64.wrap (a0_1 - a2)) then ((imprimaturref02_Words_cut.f a0_0 a0_1 (Go.bits .or .u64 (shr .u64 a1 a2) (shl .u64 a1 (IntKind.u64.wrap (a0_1 - a2))))).bind fun t143 => (some t143)) else (none)) else (none)
set_option maxHeartbeats 8000000 in
set_option maxRecDepth 100000 in
theorem imprimaturref02_Words_turn.calls (a0_0 : Int) (a0_1 : Int) (a1 : Int) (a2 : Int) (r : Int) (w : World) (h : imprimaturref02_Words_turn.f a0_0 a0_1 a1 a2 = some r) :
    Calls Tryz.prog 103 #[.agg #[.int .u64 a0_0, .int .u64 a0_1], .int .u64 a1, .int .u64 a2] w fun e w' => e = .returned (.int .u64 r) ∧ Below w.heap.size w w' := by
  have hu125 := Tryz.underlying125
  have HB := Aside0.mk (Below.refl w.heap.size w)
  have H : (if 0 ≤ a2 then (if 0 ≤ (IntKind.u64.wrap (a0_1 - a2)) then ((imprimaturref02_Words_cut.f a0_0 a0_1 (Go.bits .or .u64 (shr .u64 a1 a2) (shl .u64 a1 (IntKind.u64.wrap (a0_1 - a2))))).bind fun t143 => (some t143)) else (none)) else (none)) = some r := h
  clear h
  by_cases c4 : 0 ≤ a2
  · rw [if_pos c4] at H
    have c4b0 := eq_true c4
    have c4b1 : decide (0 ≤ a2) = true := decide_eq_true c4
    clear c4
    obtain ⟨ji5, hji5⟩ : ∃ j_ : Int, (shr .u64 a1 a2) = j_ := ⟨_, rfl⟩
    replace H : (if 0 ≤ (IntKind.u64.wrap (a0_1 - a2)) then ((imprimaturref02_Words_cut.f a0_0 a0_1 (Go.bits .or .u64 (ji5) (shl .u64 a1 (IntKind.u64.wrap (a0_1 - a2))))).bind fun t143 => (some t143)) else (none)) = some r := by first | (rw [hji5] at H; exact H) | (simp only [hji5] at H ⊢; exact H)
    have hji5_ : (a1 / 2 ^ min a2.toNat 64) = ji5 := hji5
    have hji5z : a2 ≤ 64 → (a1 / 2 ^ a2.toNat) = ji5 := shr_small hji5
    obtain ⟨ji6, hji6⟩ : ∃ j_ : Int, (IntKind.u64.wrap (a0_1 - a2)) = j_ := ⟨_, rfl⟩
    replace H : (if 0 ≤ (ji6) then ((imprimaturref02_Words_cut.f a0_0 a0_1 (Go.bits .or .u64 (ji5) (shl .u64 a1 (ji6)))).bind fun t143 => (some t143)) else (none)) = some r := by first | (rw [hji6] at H; exact H) | (simp only [hji6] at H ⊢; exact H)
    by_cases c7 : 0 ≤ (ji6)
    · rw [if_pos c7] at H
      have c7b0 := eq_true c7
      have c7b1 : decide (0 ≤ (ji6)) = true := decide_eq_true c7
      clear c7
      obtain ⟨ji8, hji8⟩ : ∃ j_ : Int, (shl .u64 a1 (ji6)) = j_ := ⟨_, rfl⟩
      replace H : ((imprimaturref02_Words_cut.f a0_0 a0_1 (Go.bits .or .u64 (ji5) (ji8))).bind fun t143 => (some t143)) = some r := by first | (rw [hji8] at H; exact H) | (simp only [hji8] at H ⊢; exact H)
      have hji8_ : (IntKind.u64.wrap (a1 * 2 ^ min (ji6).toNat 64)) = ji8 := hji8
      have hji8z : (ji6) ≤ 64 → (IntKind.u64.wrap (a1 * 2 ^ (ji6).toNat)) = ji8 := shl_small hji8
      replace H := Option.bind_eq_some_iff.mp H
      obtain ⟨t143, A90, H⟩ := H
      replace H : (some t143) = some r := H
      have A9 := Aside0.mk A90
      clear A90
      obtain rfl := Option.some.inj H
      go_enter Tryz.func103, Tryz.ntmps103
      go_wp2_with (first | ((with_reducible refine gate_dst (N := 3) rfl ?_); refine box_event ?hg (N := 3) ?hd (cs := #[.int .u64 a0_0, .int .u64 a0_1]) (t := 125) ?hr ?_; (case hd => rfl); (case hg => rfl); (case hr => first | (go_simp; done) | (go_simp; rfl)); intro gb142 hg w10 hbox hb; have n0_ := Aside0.mk (below_step (by repeat (first | (with_reducible first | exact HB.out | apply below_alloc | apply pw_below_drewN | apply below_drew1) | exact HB.out)) hb); have n1_ := Aside0.mk (hbox); have n2_ := Aside0.mk ((by rw [hg]; exact (below_size (by repeat (first | (with_reducible first | exact HB.out | apply below_alloc | apply pw_below_drewN | apply below_drew1) | exact HB.out))) : w.heap.size ≤ gb142)); have n3_ := Aside0.mk ((by rw [hg]; exact (below_size (by repeat (first | (with_reducible first | exact HB.out | apply below_alloc | apply pw_below_drewN | apply below_drew1) | exact HB.out))) : w.heap.size ≤ gb142)); clear HB; have HB := n0_; have BK142 := n1_; have GW142 := n2_; have GE142 := n3_; clear n0_ n1_ n2_ n3_; clear hb hbox hg; have hcz11_0 : w10.cell? ⟨gb142, 0, none⟩ = some (.int .u64 a0_0) := (blk_cell BK142.out 0).trans rfl; have hcz11_1 : w10.cell? ⟨gb142, 1, none⟩ = some (.int .u64 a0_1) := (blk_cell BK142.out 1).trans rfl; have hfz11_0 := blk_frozen BK142.out 0; have hfz11_1 := blk_frozen BK142.out 1) | ((with_reducible refine gate_callee (f := 89) rfl ?_); refine goesL_ (some 18) rfl rfl Tryz.func89 (by kernel_rfl) rfl #[.agg #[.int .u64 a0_0, .int .u64 a0_1], .int .u64 (Go.bits .or .u64 (ji5) (ji8))] rfl (by (try simp only [List.map_toArray, List.map_cons, List.map_nil]); first | done | (simp only [hji5, hji8]; rfl) | rfl | (simp only [List.length_drop, List.length_take]; rfl)) ?_; (with_reducible refine (imprimaturref02_Words_cut.calls a0_0 a0_1 (Go.bits .or .u64 (ji5) (ji8)) t143 _ A9.out).mono ?_); rintro e w12 ⟨rfl, hb⟩; refine ⟨_, rfl, ?_⟩; have n0_ := Aside0.mk (blk_below (g := gb142) (o := .cells #[.int .u64 a0_0, .int .u64 a0_1] 125 (0, 0)) (by (with_reducible repeat (first | refine blk_drewN ?_ _ | refine blk_drew ?_ | refine blk_alloc ?_ _)); exact BK142.out) hb); have n1_ := Aside0.mk (below_step (by repeat (first | (with_reducible first | exact HB.out | apply below_alloc | apply pw_below_drewN | apply below_drew1 | refine below_set ?_ GE142.out) | exact HB.out)) hb); clear BK142; clear HB; have BK142 := n0_; have HB := n1_; clear n0_ n1_; (try clear hb); (try clear hb2); (try clear hk); (try clear hi)))
      go_ret
      exact ⟨by first | rfl | (simp [errW_none, errW_some] <;> rfl) | (simp only [← hji5, ← hji6, ← hji8]; first | rfl | (simp [errW_none, errW_some] <;> rfl)) | (simp [*, errW_none, errW_some] <;> rfl), by repeat (first | (with_reducible first | exact HB.out | apply below_alloc | apply pw_below_drewN | apply below_drew1 | refine below_set ?_ GE142.out) | exact HB.out)⟩
    · rw [if_neg c7] at H
      exact absurd H (by simp)
  · rw [if_neg c4] at H
    exact absurd H (by simp)

/-! ### imprimaturref02_Words_small: function 97 -/
def imprimaturref02_Words_small.f (a0_0 : Int) (a0_1 : Int) (a1 : Int) (a2 : Int) (a3 : Int) (a4 : Int) : Option (Int) := (imprimaturref02_Words_turn.f a0_0 a0_1 a1 a2).bind fun t145 => ((imprimaturref02_Words_turn.f a0_0 a0_1 a1 a3).bind fun t146 => (if 0 ≤ a4 then (some (Go.bits .xor .u64 (Go.bits .xor .u64 t145 t146) (shr .u64 a1 a4))) else (none)))
def imprimaturref02_Words_small.T1 : Bool × List (List Nat × List Nat) := (true, [([], []), ([], []), ([], []), ([0, 1, 2], [0, 1, 2]), ([], []), ([], []), ([], []), ([4, 5, 6, 3], [4, 5, 6]), ([3, 7], [3, 7]), ([], []), ([], []), ([9, 10], [9, 10]), ([8, 11], [8, 11]), ([12, 7, 0, 1, 2, 3, 4, 5, 6, 7, 8, 9, 10, 11, 12], [12])])
def imprimaturref02_Words_small.B1 : List Nat := [0, 0, 0, 7, 0, 0, 0, 127, 255, 0, 0, 1536, 4095, 8191]
theorem imprimaturref02_Words_small.tab1 : rtab .any (opsOf Tryz.f97 1) = imprimaturref02_Words_small.T1 := by kernel_rfl
theorem imprimaturref02_Words_small.bits1 : waitsOk imprimaturref02_Words_small.T1.2 imprimaturref02_Words_small.B1 = true := by kernel_rfl
set_option maxHeartbeats 8000000 in
set_option maxRecDepth 100000 in
theorem imprimaturref02_Words_small.calls (a0_0 : Int) (a0_1 : Int) (a1 : Int) (a2 : Int) (a3 : Int) (a4 : Int) (r : Int) (w : World) (h : imprimaturref02_Words_small.f a0_0 a0_1 a1 a2 a3 a4 = some r) :
    Calls Tryz.prog 97 #[.agg #[.int .u64 a0_0, .int .u64 a0_1], .int .u64 a1, .int .u64 a2, .int .u64 a3, .int .u64 a4] w fun e w' => e = .returned (.int .u64 r) ∧ Below w.heap.size w w' := by
  have hu125 := Tryz.underlying125
  have HB := Aside0.mk (Below.refl w.heap.size w)
  have H : ((imprimaturref02_Words_turn.f a0_0 a0_1 a1 a2).bind fun t145 => ((imprimaturref02_Words_turn.f a0_0 a0_1 a1 a3).bind fun t146 => (if 0 ≤ a4 then (some (Go.bits .xor .u64 (Go.bits .xor .u64 t145 t146) (shr .u64 a1 a4))) else (none)))) = some r := h
  clear h
  replace H := Option.bind_eq_some_iff.mp H
  obtain ⟨t145, A60, H⟩ := H
  replace H : ((imprimaturref02_Words_turn.f a0_0 a0_1 a1 a3).bind fun t146 => (if 0 ≤ a4 then (some (Go.bits .xor .u64 (Go.bits .xor .u64 t145 t146) (shr .u64 a1 a4))) else (none))) = some r := H
  have A6 := Aside0.mk A60
  clear A60
  replace H := Option.bind_eq_some_iff.mp H
  obtain ⟨t146, A70, H⟩ := H
  replace H : (if 0 ≤ a4 then (some (Go.bits .xor .u64 (Go.bits .xor .u64 t145 t146) (shr .u64 a1 a4))) else (none)) = some r := H
  have A7 := Aside0.mk A70
  clear A70
  by_cases c8 : 0 ≤ a4
  · rw [if_pos c8] at H
    have c8b0 := eq_true c8
    have c8b1 : decide (0 ≤ a4) = true := decide_eq_true c8
    clear c8
    obtain ⟨ji9, hji9⟩ : ∃ j_ : Int, (shr .u64 a1 a4) = j_ := ⟨_, rfl⟩
    replace H : (some (Go.bits .xor .u64 (Go.bits .xor .u64 t145 t146) (ji9))) = some r := by first | (rw [hji9] at H; exact H) | (simp only [hji9] at H ⊢; exact H)
    (try rw [hji9] at A6)
    (try rw [hji9] at A7)
    have hji9_ : (a1 / 2 ^ min a4.toNat 64) = ji9 := hji9
    have hji9z : a4 ≤ 64 → (a1 / 2 ^ a4.toNat) = ji9 := shr_small hji9
    obtain rfl := Option.some.inj H
    go_enter Tryz.func97, Tryz.ntmps97
    try go_wp2_with (first | ((with_reducible refine gate_dst (N := 5) rfl ?_); refine box_event ?hg (N := 5) ?hd (cs := #[.int .u64 a0_0, .int .u64 a0_1]) (t := 125) ?hr ?_; (case hd => rfl); (case hg => rfl); (case hr => first | (go_simp; done) | (go_simp; rfl)); intro gb144 hg w10 hbox hb; have n0_ := Aside0.mk (below_step (by repeat (first | (with_reducible first | exact HB.out | apply below_alloc | apply pw_below_drewN | apply below_drew1) | exact HB.out)) hb); have n1_ := Aside0.mk (hbox); have n2_ := Aside0.mk ((by rw [hg]; exact (below_size (by repeat (first | (with_reducible first | exact HB.out | apply below_alloc | apply pw_below_drewN | apply below_drew1) | exact HB.out))) : w.heap.size ≤ gb144)); have n3_ := Aside0.mk ((by rw [hg]; exact (below_size (by repeat (first | (with_reducible first | exact HB.out | apply below_alloc | apply pw_below_drewN | apply below_drew1) | exact HB.out))) : w.heap.size ≤ gb144)); clear HB; have HB := n0_; have BK144 := n1_; have GW144 := n2_; have GE144 := n3_; clear n0_ n1_ n2_ n3_; clear hb hbox hg))
    have n0_ := Aside0.mk (blk_drew BK144.out)
    have n1_ := Aside0.mk (below_drew1 HB.out)
    clear BK144
    clear HB
    have BK144 := n0_
    have HB := n1_
    clear n0_ n1_
    refine start_ (n := 14) (S := fun w' => w'.cell? ⟨gb144, 0, none⟩ = some (.int .u64 a0_0) ∧ w'.cell? ⟨gb144, 1, none⟩ = some (.int .u64 a0_1)) (ds := []) (bz 14 0) (by kernel_rfl) rfl rfl ⟨(blk_cell BK144.out 0).trans rfl, (blk_cell BK144.out 1).trans rfl⟩ (fun hHeld => ?_); refine with_tabW imprimaturref02_Words_small.tab1 imprimaturref02_Words_small.bits1 (fun HT_ HW_ => ?_)
    generalize w10.drew = w11 at BK144 HB hHeld ⊢
    refine xpz 1 (some 12) (bz 14 2) (any_of HT_.out (by kernel_rfl)) ?_
    refine xpz 2 (some 13) (bz 14 6) (any_of HT_.out (by kernel_rfl)) ?_
    refine xpz 5 (some 16) (bz 14 38) (any_of HT_.out (by kernel_rfl)) ?_
    refine xpz 6 (some 17) (bz 14 102) (any_of HT_.out (by kernel_rfl)) ?_
    refine xpz 9 (some 20) (bz 14 614) (any_of HT_.out (by kernel_rfl)) ?_
    refine xpz 10 (some 21) (bz 14 1638) (any_of HT_.out (by kernel_rfl)) ?_
    refine xpz 11 (some 22) (bz 14 3686) (any_of HT_.out (by kernel_rfl)) ?_
    refine xtz2 0 (some 11) (bz 14 3687) (take_ofW HT_.out HW_.out (by kernel_rfl)) hHeld ?_
    refine xtz2 4 (some 15) (bz 14 3703) (take_ofW HT_.out HW_.out (by kernel_rfl)) hHeld ?_
    refine one_ (i := 3) (N := some 14) (bz 14 3711) rfl rfl (one_of HT_.out (by kernel_rfl)) (by decide) (fun K hK => ?_)
    refine goes_ Tryz.func103 (by kernel_rfl) rfl #[.agg #[.int .u64 a0_0, .int .u64 a0_1], .int .u64 a1, .int .u64 a2] (by rfl) rfl rfl (by (try simp only [List.map_toArray, List.map_cons, List.map_nil]); first | done | rfl | (simp only [List.length_drop, List.length_take]; rfl)) ?_
    with_reducible refine (imprimaturref02_Words_turn.calls a0_0 a0_1 a1 a2 t145 _ A6.out).mono ?_
    rintro e w12 ⟨rfl, hb⟩
    refine ⟨_, rfl, ?_⟩
    have n0_ := Aside0.mk (blk_below (g := gb144) (o := .cells #[.int .u64 a0_0, .int .u64 a0_1] 125 (0, 0)) (by (with_reducible repeat (first | refine blk_drewN ?_ _ | refine blk_drew ?_ | refine blk_alloc ?_ _)); exact BK144.out) hb)
    have n1_ := Aside0.mk (below_step (by repeat (first | (with_reducible first | exact HB.out | apply below_alloc | apply pw_below_drewN | apply below_drew1 | refine below_set ?_ GE144.out) | exact HB.out)) hb)
    clear BK144
    clear HB
    have BK144 := n0_
    have HB := n1_
    clear n0_ n1_
    (try clear hb)
    (try clear hb2)
    (try clear hk)
    (try clear hi)
    refine hK.out _ _ ⟨(blk_cell BK144.out 0).trans rfl, (blk_cell BK144.out 1).trans rfl⟩ (fun hHeld => ?_)
    clear hK K
    refine norm_ (a' := ?_) ?_ ?_
    rotate_left
    · show Act.put _ (some 14) _ = _
      simp only [Act.put, List.setIfInBounds_toArray, List.set_cons_zero, List.set_cons_succ, i64_w, i32_w]
      rfl
    refine one_ (i := 7) (N := some 18) (bz 14 3839) rfl rfl (one_of HT_.out (by kernel_rfl)) (by decide) (fun K hK => ?_)
    refine goes_ Tryz.func103 (by kernel_rfl) rfl #[.agg #[.int .u64 a0_0, .int .u64 a0_1], .int .u64 a1, .int .u64 a3] (by rfl) rfl rfl (by (try simp only [List.map_toArray, List.map_cons, List.map_nil]); first | done | rfl | (simp only [List.length_drop, List.length_take]; rfl)) ?_
    with_reducible refine (imprimaturref02_Words_turn.calls a0_0 a0_1 a1 a3 t146 _ A7.out).mono ?_
    rintro e w13 ⟨rfl, hb⟩
    refine ⟨_, rfl, ?_⟩
    have n0_ := Aside0.mk (blk_below (g := gb144) (o := .cells #[.int .u64 a0_0, .int .u64 a0_1] 125 (0, 0)) (by (with_reducible repeat (first | refine blk_drewN ?_ _ | refine blk_drew ?_ | refine blk_alloc ?_ _)); exact BK144.out) hb)
    have n1_ := Aside0.mk (below_step (by repeat (first | (with_reducible first | exact HB.out | apply below_alloc | apply pw_below_drewN | apply below_drew1 | refine below_set ?_ GE144.out) | exact HB.out)) hb)
    clear BK144
    clear HB
    have BK144 := n0_
    have HB := n1_
    clear n0_ n1_
    (try clear hb)
    (try clear hb2)
    (try clear hk)
    (try clear hi)
    refine hK.out _ _ ⟨(blk_cell BK144.out 0).trans rfl, (blk_cell BK144.out 1).trans rfl⟩ (fun hHeld => ?_)
    clear hK K
    refine norm_ (a' := ?_) ?_ ?_
    rotate_left
    · show Act.put _ (some 18) _ = _
      simp only [Act.put, List.setIfInBounds_toArray, List.set_cons_zero, List.set_cons_succ, i64_w, i32_w]
      rfl
    refine xpz 8 (some 19) (bz 14 4095) (any_of HT_.out (by kernel_rfl)) ?_
    refine xpz 12 (some 23) (bz 14 8191) (any_of HT_.out (by kernel_rfl)) ?_
    refine xpz 13 (some 10) (bz 14 16383) (any_of HT_.out (by kernel_rfl)) ?_
    refine done_ (done_of HT_.out (by kernel_rfl)) ?_
    try go_wp2
    go_ret
    exact ⟨by first | rfl | (simp [errW_none, errW_some] <;> rfl) | (simp only [← hji9]; first | rfl | (simp [errW_none, errW_some] <;> rfl)) | (simp [*, errW_none, errW_some] <;> rfl), by repeat (first | (with_reducible first | exact HB.out | apply below_alloc | apply pw_below_drewN | apply below_drew1 | refine below_set ?_ GE144.out) | exact HB.out)⟩
  · rw [if_neg c8] at H
    exact absurd H (by simp)

end Go.Proofs.YtmblnflfklmmkaaGreatDoor.P
/- Functions of the program and of its laws, each with a Lean function and the proof that a call comes to what that function tells, under the conditions that its contract names. (Laid by a program of this session, out of the translation; Lean checks it.) -/
namespace Go.Proofs.YtmblnflfklmmkaaGreatDoor.P
open Go.RowKit Go.Proofs.YtmblnflfklmmkaaGreatDoorW.PrintWords Go.Proofs.YtmblnflfklmmkaaGreatDoorW.PrintLast Go.Proofs.YtmblnflfklmmkaaGreatDoorW.PrintMore
attribute [local go_sem] max2_int min2_int max_two min_two max_three min_three max_four min_four   -- for this text's walks alone
set_option linter.unusedVariables false
set_option linter.unusedSimpArgs false

/-! ### imprimaturref02_Words_expand: function 87 -/
mutual
def imprimaturref02_Words_expand.l0 : Nat → List Int → Int → List Int → Int → Int → Int → Option (List Int)
  | 0, _, _, _, _, _, _ => none
  | k + 1, x1, x5, x6, x7, x148000, x148001 => if x7 < 16 then (imprimaturref02_Words_expand.l1 k x1 x5 x6 x7 0 0 x148000 x148001) else (if x148000 = 0 then (imprimaturref02_Words_expand.j2 k x6 80 x148000 x148001) else (imprimaturref02_Words_expand.j2 k x6 64 x148000 x148001))
def imprimaturref02_Words_expand.l1 : Nat → List Int → Int → List Int → Int → Int → Int → Int → Int → Option (List Int)
  | 0, _, _, _, _, _, _, _, _ => none
  | k + 1, x1, x5, x6, x7, x8, x9, x148000, x148001 => if x9 < x5 then (if 0 ≤ (wrap64 ((wrap64 (x7 * x5)) + x9)) then (if (wrap64 ((wrap64 (x7 * x5)) + x9)) < (x1.length : Int) then (imprimaturref02_Words_expand.l1 k x1 x5 x6 x7 (IntKind.u64.wrap ((IntKind.u64.wrap (x8 * 256)) + (IntKind.u64.wrap (rd x1 (wrap64 ((wrap64 (x7 * x5)) + x9)))))) (wrap64 (x9 + 1)) x148000 x148001) else (none)) else (none)) else (if x6.length < 17592186044416 then (imprimaturref02_Words_expand.l0 k x1 x5 (x6 ++ [x8]) (wrap64 (x7 + 1)) x148000 x148001) else (none))
def imprimaturref02_Words_expand.j2 : Nat → List Int → Int → Int → Int → Option (List Int)
  | 0, _, _, _, _ => none
  | k + 1, x6, x10, x148000, x148001 => imprimaturref02_Words_expand.l2 k x6 x10 16 x148000 x148001
def imprimaturref02_Words_expand.l2 : Nat → List Int → Int → Int → Int → Int → Option (List Int)
  | 0, _, _, _, _, _ => none
  | k + 1, x6, x10, x11, x148000, x148001 => if x11 < x10 then (if 0 ≤ (wrap64 (x11 - 16)) then (if (wrap64 (x11 - 16)) < (x6.length : Int) then (if 0 ≤ (wrap64 (x11 - 7)) then (if (wrap64 (x11 - 7)) < (x6.length : Int) then (if x148000 = 0 then (if 0 ≤ (wrap64 (x11 - 15)) then (if (wrap64 (x11 - 15)) < (x6.length : Int) then ((imprimaturref02_Words_small.f x148000 x148001 (rd x6 (wrap64 (x11 - 15))) 1 8 7).bind fun t155 => (if 0 ≤ (wrap64 (x11 - 2)) then (if (wrap64 (x11 - 2)) < (x6.length : Int) then ((imprimaturref02_Words_small.f x148000 x148001 (rd x6 (wrap64 (x11 - 2))) 19 61 6).bind fun t157 => ((imprimaturref02_Words_cut.f x148000 x148001 (IntKind.u64.wrap ((IntKind.u64.wrap ((IntKind.u64.wrap ((rd x6 (wrap64 (x11 - 16))) + (rd x6 (wrap64 (x11 - 7))))) + t155)) + t157))).bind fun t158 => (if x6.length < 17592186044416 then (imprimaturref02_Words_expand.l2 k (x6 ++ [t158]) x10 (wrap64 (x11 + 1)) x148000 x148001) else (none)))) else (none)) else (none))) else (none)) else (none)) else (if 0 ≤ (wrap64 (x11 - 15)) then (if (wrap64 (x11 - 15)) < (x6.length : Int) then ((imprimaturref02_Words_small.f x148000 x148001 (rd x6 (wrap64 (x11 - 15))) 7 18 3).bind fun t163 => (if 0 ≤ (wrap64 (x11 - 2)) then (if (wrap64 (x11 - 2)) < (x6.length : Int) then ((imprimaturref02_Words_small.f x148000 x148001 (rd x6 (wrap64 (x11 - 2))) 17 19 10).bind fun t165 => ((imprimaturref02_Words_cut.f x148000 x148001 (IntKind.u64.wrap ((IntKind.u64.wrap ((IntKind.u64.wrap ((rd x6 (wrap64 (x11 - 16))) + (rd x6 (wrap64 (x11 - 7))))) + t163)) + t165))).bind fun t166 => (if x6.length < 17592186044416 then (imprimaturref02_Words_expand.l2 k (x6 ++ [t166]) x10 (wrap64 (x11 + 1)) x148000 x148001) else (none)))) else (none)) else (none))) else (none)) else (none))) else (none)) else (none)) else (none)) else (none)) else (some x6)
end
def imprimaturref02_Words_expand.f (k : Nat) (a0_0 : Int) (a0_1 : Int) (l1 : List Int) : Option (List Int) := imprimaturref02_Words_expand.l0 k l1 (wrap64 (IntKind.u64.wrap (Int.tdiv a0_1 8))) ([] : List Int) 0 a0_0 a0_1
def imprimaturref02_Words_expand.T18 : Bool × List (List Nat × List Nat) := (true, [([], []), ([], []), ([1], [1]), ([0, 2], [0, 2]), ([3], [3]), ([], []), ([], []), ([6], [6]), ([5, 7], [5, 7]), ([8], [8]), ([4, 9], [4, 9]), ([10, 0, 1, 2, 3, 4, 5, 6, 7, 8, 9, 10], [10])])
def imprimaturref02_Words_expand.B18 : List Nat := [0, 0, 2, 7, 15, 0, 0, 64, 224, 480, 1023, 2047]
theorem imprimaturref02_Words_expand.tab18 : rtab .any (opsOf Tryz.f87 18) = imprimaturref02_Words_expand.T18 := by kernel_rfl
theorem imprimaturref02_Words_expand.bits18 : waitsOk imprimaturref02_Words_expand.T18.2 imprimaturref02_Words_expand.B18 = true := by kernel_rfl
def imprimaturref02_Words_expand.T20 : Bool × List (List Nat × List Nat) := (true, [([], []), ([], []), ([], []), ([], []), ([3], [3]), ([2, 4], [2, 4]), ([5], [5]), ([1, 6], [1, 6]), ([0, 7], [0, 7]), ([], []), ([], []), ([], []), ([11], [11]), ([10, 12], [10, 12]), ([13], [13]), ([9, 14, 7], [9, 14]), ([8, 15], [8, 15]), ([16, 15, 0, 1, 2, 3, 4, 5, 6, 7, 8, 9, 10, 11, 12, 13, 14, 15, 16], [0, 16])])
def imprimaturref02_Words_expand.B20 : List Nat := [0, 0, 0, 0, 8, 28, 60, 126, 255, 0, 0, 0, 2048, 7168, 15360, 32510, 65535, 131071]
theorem imprimaturref02_Words_expand.tab20 : rtab .any (opsOf Tryz.f87 20) = imprimaturref02_Words_expand.T20 := by kernel_rfl
theorem imprimaturref02_Words_expand.bits20 : waitsOk imprimaturref02_Words_expand.T20.2 imprimaturref02_Words_expand.B20 = true := by kernel_rfl
def imprimaturref02_Words_expand.T21 : Bool × List (List Nat × List Nat) := (true, [([], []), ([], []), ([], []), ([], []), ([3], [3]), ([2, 4], [2, 4]), ([5], [5]), ([1, 6], [1, 6]), ([0, 7], [0, 7]), ([], []), ([], []), ([], []), ([11], [11]), ([10, 12], [10, 12]), ([13], [13]), ([9, 14, 7], [9, 14]), ([8, 15], [8, 15]), ([16, 15, 0, 1, 2, 3, 4, 5, 6, 7, 8, 9, 10, 11, 12, 13, 14, 15, 16], [0, 16])])
def imprimaturref02_Words_expand.B21 : List Nat := [0, 0, 0, 0, 8, 28, 60, 126, 255, 0, 0, 0, 2048, 7168, 15360, 32510, 65535, 131071]
theorem imprimaturref02_Words_expand.tab21 : rtab .any (opsOf Tryz.f87 21) = imprimaturref02_Words_expand.T21 := by kernel_rfl
theorem imprimaturref02_Words_expand.bits21 : waitsOk imprimaturref02_Words_expand.T21.2 imprimaturref02_Words_expand.B21 = true := by kernel_rfl
set_option maxHeartbeats 8000000 in
set_option maxRecDepth 100000 in
theorem imprimaturref02_Words_expand.calls (k : Nat) (a0_0 : Int) (a0_1 : Int) (A1 : Option Addr) (c1 : Nat) (l1 : List Int) (r : List Int) (w : World) (hr1 : Kd.C (Kd.int .u8) w A1 l1.length l1) (hc1 : l1.length ≤ c1) (h : imprimaturref02_Words_expand.f k a0_0 a0_1 l1 = some r) :
    Calls Tryz.prog 87 #[.agg #[.int .u64 a0_0, .int .u64 a0_1], .slice A1 l1.length c1] w fun e w' => ∃ v0_ : Value, e = .returned (v0_) ∧ Kd.R (Kd.int .u64) 45 w' w.heap.size (fun _ => True) v0_ r ∧ Below w.heap.size w w' := by
  have hu125 := Tryz.underlying125
  have HR1 := Aside0.mk hr1
  have HC1 := Aside0.mk hc1
  clear hr1 hc1
  have HB := Aside0.mk (Below.refl w.heap.size w)
  have H : (imprimaturref02_Words_expand.l0 k l1 (wrap64 (IntKind.u64.wrap (Int.tdiv a0_1 8))) ([] : List Int) 0 a0_0 a0_1) = some r := h
  clear h
  have H' := Aside0.mk H
  clear H
  go_enter Tryz.func87, Tryz.ntmps87
  go_wp2_with (first | ((with_reducible refine gate_dst (N := 2) rfl ?_); refine box_event ?hg (N := 2) ?hd (cs := #[.int .u64 a0_0, .int .u64 a0_1]) (t := 125) ?hr ?_; (case hd => rfl); (case hg => rfl); (case hr => first | (go_simp; done) | (go_simp; rfl)); intro gb147 hg w3 hbox hb; have n0_ := Aside0.mk (below_step (by repeat (first | (with_reducible first | exact HB.out | apply below_alloc | apply pw_below_drewN | apply below_drew1) | exact HB.out)) hb); have n1_ := Aside0.mk (hbox); have n2_ := Aside0.mk ((by rw [hg]; exact (below_size (by repeat (first | (with_reducible first | exact HB.out | apply below_alloc | apply pw_below_drewN | apply below_drew1) | exact HB.out))) : w.heap.size ≤ gb147)); have n3_ := Aside0.mk ((by rw [hg]; exact (below_size (by repeat (first | (with_reducible first | exact HB.out | apply below_alloc | apply pw_below_drewN | apply below_drew1) | exact HB.out))) : w.heap.size ≤ gb147)); clear HB; have HB := n0_; have BK147 := n1_; have GW147 := n2_; have GE147 := n3_; clear n0_ n1_ n2_ n3_; clear hb hbox hg; have hcz4_0 : w3.cell? ⟨gb147, 0, none⟩ = some (.int .u64 a0_0) := (blk_cell BK147.out 0).trans rfl; have hcz4_1 : w3.cell? ⟨gb147, 1, none⟩ = some (.int .u64 a0_1) := (blk_cell BK147.out 1).trans rfl; have hfz4_0 := blk_frozen BK147.out 0; have hfz4_1 := blk_frozen BK147.out 1))
  go_loopg [6, 7] k (fun kq v6 v7 w' => ∃ (x6_1 : List Int) (x7_1 : Int), v7 = .int .i64 x7_1 ∧ Aside0 (imprimaturref02_Words_expand.l0 kq l1 (wrap64 (IntKind.u64.wrap (Int.tdiv a0_1 8))) x6_1 x7_1 a0_0 a0_1 = some r) ∧ Aside0 (kq ≤ k) ∧ Aside0 (Kd.R (Kd.int .u64) 45 w' w.heap.size (fun _ => True) v6 x6_1) ∧ Aside0 (w'.heap[gb147]? = some (.cells #[.int .u64 a0_0, .int .u64 a0_1] 125 (0, 0))) ∧ Aside0 (Below w.heap.size w w'))
  case atStart => exact ⟨(([] : List Int)), (0), (by first | rfl | (simp; done) | (simp [*]; done)), H', ⟨Nat.le_refl _⟩, ⟨by first | exact Kd.R_nil _ _ _ _ _ | exact Kd.N_nil _ _ _ _ _ | exact Kd.V_nil _ _ _ _ _ | exact Kd.Q_nil _ _ _ _ _ | exact Kd.S_nil _ _ _ _ _⟩, ⟨by (with_reducible repeat (first | refine blk_drewN ?_ _ | refine blk_drew ?_ | refine blk_alloc ?_ _)); exact BK147.out⟩, ⟨by repeat (first | (with_reducible first | exact HB.out | apply below_alloc | apply pw_below_drewN | apply below_drew1 | refine below_set ?_ GE147.out) | exact HB.out)⟩⟩
  case round =>
    clear H'
    try clear c1
    try clear p2
    try clear hcz4_0
    try clear hcz4_1
    try clear hfz4_0
    try clear hfz4_1
    obtain ⟨x6_1, x7_1, rfl, HA, HK1, HO_6, BK147, HB⟩ := hrel
    cases gk with
    | zero => exact absurd HA.out (by simp [imprimaturref02_Words_expand.l0])
    | succ k1 =>
      have H := HA.out
      clear HA
      simp only [imprimaturref02_Words_expand.l0] at H
      by_cases c5 : x7_1 < 16
      · rw [if_pos c5] at H
        have c5b0 : decide (x7_1 < 16) = true := decide_eq_true c5
        clear c5
        have H' := Aside0.mk H
        clear H
        go_wp2
        go_loopg [8, 9] k1 (fun kq v8 v9 w' => ∃ (x8_2 : Int) (x9_2 : Int), v8 = .int .u64 x8_2 ∧ v9 = .int .i64 x9_2 ∧ Aside0 (imprimaturref02_Words_expand.l1 kq l1 (wrap64 (IntKind.u64.wrap (Int.tdiv a0_1 8))) x6_1 x7_1 x8_2 x9_2 a0_0 a0_1 = some r) ∧ Aside0 (kq ≤ k1) ∧ Aside0 (Kd.R (Kd.int .u64) 45 w' w.heap.size (fun _ => True) u6 x6_1) ∧ Aside0 (w'.heap[gb147]? = some (.cells #[.int .u64 a0_0, .int .u64 a0_1] 125 (0, 0))) ∧ Aside0 (Below w.heap.size w w'))
        case atStart => exact ⟨(0), (0), (by first | rfl | (simp; done) | (simp [*]; done)), (by first | rfl | (simp; done) | (simp [*]; done)), H', ⟨Nat.le_refl _⟩, ⟨by (with_reducible repeat (first | apply Kd.R_alloc | apply Kd.R_drewN | apply Kd.R_drew)); exact HO_6.out⟩, ⟨by (with_reducible repeat (first | refine blk_drewN ?_ _ | refine blk_drew ?_ | refine blk_alloc ?_ _)); exact BK147.out⟩, ⟨by repeat (first | (with_reducible first | exact HB.out | apply below_alloc | apply pw_below_drewN | apply below_drew1 | refine below_set ?_ GE147.out) | exact HB.out)⟩⟩
        case round =>
          clear H'
          try clear c1
          try clear p2
          try clear c5
          try clear c5b0
          try clear hcz4_0
          try clear hcz4_1
          try clear hfz4_0
          try clear hfz4_1
          try clear p2
          obtain ⟨x8_2, x9_2, rfl, rfl, HA, HK2, HO_6, BK147, HB⟩ := hrel
          cases gk with
          | zero => exact absurd HA.out (by simp [imprimaturref02_Words_expand.l1])
          | succ k2 =>
            have H := HA.out
            clear HA
            simp only [imprimaturref02_Words_expand.l1] at H
            by_cases c6 : x9_2 < (wrap64 (IntKind.u64.wrap (Int.tdiv a0_1 8)))
            · rw [if_pos c6] at H
              have c6b0 : decide (x9_2 < (wrap64 (IntKind.u64.wrap (Int.tdiv a0_1 8)))) = true := decide_eq_true c6
              clear c6
              obtain ⟨ji7, hji7⟩ : ∃ j_ : Int, (wrap64 ((wrap64 (x7_1 * (wrap64 (IntKind.u64.wrap (Int.tdiv a0_1 8))))) + x9_2)) = j_ := ⟨_, rfl⟩
              replace H : (if 0 ≤ (ji7) then (if (ji7) < (l1.length : Int) then (imprimaturref02_Words_expand.l1 k2 l1 (wrap64 (IntKind.u64.wrap (Int.tdiv a0_1 8))) x6_1 x7_1 (IntKind.u64.wrap ((IntKind.u64.wrap (x8_2 * 256)) + (IntKind.u64.wrap (rd l1 (ji7))))) (wrap64 (x9_2 + 1)) a0_0 a0_1) else (none)) else (none)) = some r := by first | (rw [hji7] at H; exact H) | (simp only [hji7] at H ⊢; exact H)
              have hji7w : (IntKind.i64.wrap ((wrap64 (x7_1 * (wrap64 (IntKind.u64.wrap (Int.tdiv a0_1 8))))) + x9_2)) = ji7 := (i64_w _).trans hji7
              by_cases c8 : 0 ≤ (ji7)
              · rw [if_pos c8] at H
                have c8b0 : decide (0 ≤ (ji7)) = true := decide_eq_true c8
                clear c8
                by_cases c9 : (ji7) < (l1.length : Int)
                · rw [if_pos c9] at H
                  have c9b0 : decide ((ji7) < (l1.length : Int)) = true := decide_eq_true c9
                  clear c9
                  have H' := Aside0.mk H
                  clear H
                  have p148 : 0 ≤ ((ji7) : Int) := of_decide_eq_true (by first | (with_reducible assumption) | assumption)
                  have q148 : (ji7) < (l1.length : Int) := of_decide_eq_true (by first | (with_reducible assumption) | assumption)
                  obtain ⟨ad148, e148, hx148_0⟩ := Kd.at_int HR1.out (ji7) p148 q148
                  cases e148
                  replace hx148_0 := (HB.out.cell (World.block_lt_of_cell? w _ hx148_0)).trans hx148_0
                  replace p148 := eq_true p148
                  replace q148 := eq_true q148
                  go_wp2
                  go_roundg k2
                  case measure => have := HK1.out; have := HK2.out; omega
                  case rel => exact ⟨(IntKind.u64.wrap ((IntKind.u64.wrap (x8_2 * 256)) + (IntKind.u64.wrap (rd l1 (ji7))))), (wrap64 (x9_2 + 1)), (by first | rfl | (simp; done) | (simp only [← hji7] <;> (first | rfl | simp)) | (simp [*]; done)), (by first | rfl | (simp; done) | (simp [*]; done)), H', ⟨by have := HK1.out; have := HK2.out; omega⟩, ⟨by (with_reducible repeat (first | apply Kd.R_alloc | apply Kd.R_drewN | apply Kd.R_drew)); exact HO_6.out⟩, ⟨by (with_reducible repeat (first | refine blk_drewN ?_ _ | refine blk_drew ?_ | refine blk_alloc ?_ _)); exact BK147.out⟩, ⟨by repeat (first | (with_reducible first | exact HB.out | apply below_alloc | apply pw_below_drewN | apply below_drew1 | refine below_set ?_ GE147.out) | exact HB.out)⟩⟩
                · rw [if_neg c9] at H
                  exact absurd H (by simp)
              · rw [if_neg c8] at H
                exact absurd H (by simp)
            · rw [if_neg c6] at H
              have c6b0 : decide (x9_2 < (wrap64 (IntKind.u64.wrap (Int.tdiv a0_1 8)))) = false := decide_eq_false c6
              clear c6
              by_cases c10 : x6_1.length < 17592186044416
              · rw [if_pos c10] at H
                have LMc10 := Aside0.mk c10
                clear c10
                obtain ⟨y149, hy149⟩ : ∃ y_ : List Int, y_ = (x6_1 ++ [x8_2]) := ⟨_, rfl⟩
                replace H : (imprimaturref02_Words_expand.l0 k2 l1 (wrap64 (IntKind.u64.wrap (Int.tdiv a0_1 8))) y149 (wrap64 (x7_1 + 1)) a0_0 a0_1) = some r := by first | (rw [hy149]; with_reducible exact H) | (have H2_ := (Option.bind_some _ _).symm.trans H; rw [hy149]; with_reducible exact H2_) | (have H2_ := (Option.bind_some _ _).symm.trans H; with_reducible exact H2_) | with_reducible exact H | (rw [hy149]; exact H) | exact H
                have Ny149 := Aside0.mk hy149
                clear hy149
                have H' := Aside0.mk H
                clear H
                go_wp2_with (first | ((with_reducible refine gate_builtin (b := .append) (xs := #[.tmp 38, .tmp 40]) rfl ?_); at_builtin; refine Kd.R_append (Kd.int .u64) (w0 := w) w.heap.size rfl (.tmp 38) (.tmp 40) 126 45 (.int .u64 0) 8 rfl Tryz.underlying126 info45 rfl (by decide) (by omega) u6 x6_1 x8_2 [.int .u64 x8_2] (fun _ => True) (fun _ => False) rfl rfl ?aP (fun _ hk => hk.elim) ?aF ?aO ?aB ?aS ?aL ?_; (case aP => exact rfl); (case aB => exact (by repeat (first | (with_reducible first | exact HB.out | apply below_alloc | apply pw_below_drewN | apply below_drew1 | refine below_set ?_ GE147.out) | exact HB.out))); (case aF => exact (fun _ _ => trivial)); (case aO => exact (by (with_reducible repeat (first | apply Kd.R_alloc | apply Kd.R_drewN | apply Kd.R_drew)); exact HO_6.out)); (case aS => exact (below_size (by repeat (first | (with_reducible first | exact HB.out | apply below_alloc | apply pw_below_drewN | apply below_drew1 | refine below_set ?_ GE147.out) | exact HB.out)))); (case aL => have := LMc10.out; omega); intro v150 w11 ho hb hg hat; rw [← Ny149.out] at ho; have n0_ := Aside0.mk (blk_grown (g := gb147) (o := .cells #[.int .u64 a0_0, .int .u64 a0_1] 125 (0, 0)) (by (with_reducible repeat (first | refine blk_drewN ?_ _ | refine blk_drew ?_ | refine blk_alloc ?_ _)); exact BK147.out) hg (Kd.R_ne HO_6.out BK147.out (by decide))); have n1_ := Aside0.mk (hb); have n2_ := Aside0.mk (ho); clear BK147; clear HB; clear HO_6; have BK147 := n0_; have HB := n1_; have HO151 := n2_; clear n0_ n1_ n2_; clear ho hb hg hat))
                go_roundg k2
                case measure => have := HK1.out; have := HK2.out; omega
                case rel => exact ⟨(y149), (wrap64 (x7_1 + 1)), (by first | rfl | (simp; done) | (simp [*]; done)), H', ⟨by have := HK1.out; have := HK2.out; omega⟩, ⟨by (with_reducible repeat (first | apply Kd.R_alloc | apply Kd.R_drewN | apply Kd.R_drew)); exact HO151.out⟩, ⟨by (with_reducible repeat (first | refine blk_drewN ?_ _ | refine blk_drew ?_ | refine blk_alloc ?_ _)); exact BK147.out⟩, ⟨by repeat (first | (with_reducible first | exact HB.out | apply below_alloc | apply pw_below_drewN | apply below_drew1 | refine below_set ?_ GE147.out) | exact HB.out)⟩⟩
              · rw [if_neg c10] at H
                exact absurd H (by simp)
      · rw [if_neg c5] at H
        have c5b0 : decide (x7_1 < 16) = false := decide_eq_false c5
        clear c5
        have HC12 := Aside0.mk H
        clear H
        have hcz13_0 : wr.cell? ⟨gb147, 0, none⟩ = some (.int .u64 a0_0) := (blk_cell BK147.out 0).trans rfl
        have hcz13_1 : wr.cell? ⟨gb147, 1, none⟩ = some (.int .u64 a0_1) := (blk_cell BK147.out 1).trans rfl
        have hfz13_0 := blk_frozen BK147.out 0
        have hfz13_1 := blk_frozen BK147.out 1
        go_upto_if 44 with (fail)
        go_cut [10] (fun v10 wc => ∃ (kq : Nat) (x10_11 : Int), v10 = .int .i64 x10_11 ∧ Aside0 (imprimaturref02_Words_expand.j2 kq x6_1 x10_11 a0_0 a0_1 = some r) ∧ Aside0 (kq ≤ k1) ∧ Aside0 (Kd.R (Kd.int .u64) 45 wc w.heap.size (fun _ => True) u6 x6_1) ∧ Aside0 (wc.heap[gb147]? = some (.cells #[.int .u64 a0_0, .int .u64 a0_1] 125 (0, 0))) ∧ Aside0 (Below w.heap.size w wc))
        case first =>
          have H := HC12.out
          clear HC12
          by_cases c14 : a0_0 = 0
          · rw [if_pos c14] at H
            have c14b0 : (a0_0 == 0) = true := beq_iff_eq.mpr c14
            have c14b1 : (a0_0 != 0) = false := bne_eq_false_iff_eq.mpr c14
            clear c14
            (first | rw [c14b0] | (simp only [i64_w, i32_w]; rw [c14b0]) | skip)
            have H' := Aside0.mk H
            clear H
            go_wp2
            go_meet
            case rel => exact ⟨_, (80), (by first | rfl | (simp; done) | (simp [*]; done)), H', ⟨by have := HK1.out; first | omega | exact Nat.le_refl _⟩, ⟨by (with_reducible repeat (first | apply Kd.R_alloc | apply Kd.R_drewN | apply Kd.R_drew)); exact HO_6.out⟩, ⟨by (with_reducible repeat (first | refine blk_drewN ?_ _ | refine blk_drew ?_ | refine blk_alloc ?_ _)); exact BK147.out⟩, ⟨by repeat (first | (with_reducible first | exact HB.out | apply below_alloc | apply pw_below_drewN | apply below_drew1 | refine below_set ?_ GE147.out) | exact HB.out)⟩⟩
          · rw [if_neg c14] at H
            have c14b0 : (a0_0 == 0) = false := beq_eq_false_iff_ne.mpr c14
            have c14b1 : (a0_0 != 0) = true := bne_iff_ne.mpr c14
            (first | rw [c14b0] | (simp only [i64_w, i32_w]; rw [c14b0]) | skip)
            have H' := Aside0.mk H
            clear H
            go_wp2
            go_meet
            case rel => exact ⟨_, (64), (by first | rfl | (simp; done) | (simp [*]; done)), H', ⟨by have := HK1.out; first | omega | exact Nat.le_refl _⟩, ⟨by (with_reducible repeat (first | apply Kd.R_alloc | apply Kd.R_drewN | apply Kd.R_drew)); exact HO_6.out⟩, ⟨by (with_reducible repeat (first | refine blk_drewN ?_ _ | refine blk_drew ?_ | refine blk_alloc ?_ _)); exact BK147.out⟩, ⟨by repeat (first | (with_reducible first | exact HB.out | apply below_alloc | apply pw_below_drewN | apply below_drew1 | refine below_set ?_ GE147.out) | exact HB.out)⟩⟩
        case rest =>
          clear HC12
          try clear c1
          try clear p1
          try clear q1
          try clear hx1
          try clear p2
          try clear c5
          try clear c5b0
          try clear c6
          try clear c6b0
          try clear p6
          try clear c8
          try clear c8b0
          try clear c9
          try clear c9b0
          try clear c10
          try clear c14
          try clear c14b0
          try clear c14b1
          try clear p14
          try clear q14
          try clear hx14
          try clear hcz13_0
          try clear hcz13_1
          try clear hcz4_0
          try clear hcz4_1
          try clear hfz13_0
          try clear hfz13_1
          try clear hfz4_0
          try clear hfz4_1
          try clear hx148_0
          try clear p148
          try clear p2
          try clear q148
          obtain ⟨kq, x10_11, rfl, HA, HJ11, HO_6, BK147, HB⟩ := hcut
          cases kq with
          | zero => exact absurd HA.out (by simp [imprimaturref02_Words_expand.j2])
          | succ kj11 =>
            have H := HA.out
            clear HA
            simp only [imprimaturref02_Words_expand.j2] at H
            have H' := Aside0.mk H
            clear H
            go_wp2
            go_loopg [6, 11] kj11 (fun kq v6 v11 w' => ∃ (x6_3 : List Int) (x11_3 : Int), v11 = .int .i64 x11_3 ∧ Aside0 (imprimaturref02_Words_expand.l2 kq x6_3 x10_11 x11_3 a0_0 a0_1 = some r) ∧ Aside0 (kq ≤ kj11) ∧ Aside0 (Kd.R (Kd.int .u64) 45 w' w.heap.size (fun _ => True) v6 x6_3) ∧ Aside0 (w'.heap[gb147]? = some (.cells #[.int .u64 a0_0, .int .u64 a0_1] 125 (0, 0))) ∧ Aside0 (Below w.heap.size w w'))
            case atStart => exact ⟨(x6_1), (16), (by first | rfl | (simp; done) | (simp [*]; done)), H', ⟨Nat.le_refl _⟩, ⟨by (with_reducible repeat (first | apply Kd.R_alloc | apply Kd.R_drewN | apply Kd.R_drew)); exact HO_6.out⟩, ⟨by (with_reducible repeat (first | refine blk_drewN ?_ _ | refine blk_drew ?_ | refine blk_alloc ?_ _)); exact BK147.out⟩, ⟨by repeat (first | (with_reducible first | exact HB.out | apply below_alloc | apply pw_below_drewN | apply below_drew1 | refine below_set ?_ GE147.out) | exact HB.out)⟩⟩
            case round =>
              clear H'
              try clear c1
              try clear p1
              try clear q1
              try clear hx1
              try clear p2
              try clear c5
              try clear c5b0
              try clear c6
              try clear c6b0
              try clear p6
              try clear c8
              try clear c8b0
              try clear c9
              try clear c9b0
              try clear c10
              try clear c14
              try clear c14b0
              try clear c14b1
              try clear p14
              try clear q14
              try clear hx14
              try clear hcz13_0
              try clear hcz13_1
              try clear hcz4_0
              try clear hcz4_1
              try clear hfz13_0
              try clear hfz13_1
              try clear hfz4_0
              try clear hfz4_1
              try clear hx148_0
              try clear p1
              try clear p14
              try clear p148
              try clear p2
              try clear p6
              try clear q1
              try clear q14
              try clear q148
              obtain ⟨x6_3, x11_3, rfl, HA, HK3, HO_6, BK147, HB⟩ := hrel
              cases gk with
              | zero => exact absurd HA.out (by simp [imprimaturref02_Words_expand.l2])
              | succ k3 =>
                have H := HA.out
                clear HA
                simp only [imprimaturref02_Words_expand.l2] at H
                by_cases c15 : x11_3 < x10_11
                · rw [if_pos c15] at H
                  have c15b0 : decide (x11_3 < x10_11) = true := decide_eq_true c15
                  clear c15
                  obtain ⟨ji16, hji16⟩ : ∃ j_ : Int, (wrap64 (x11_3 - 16)) = j_ := ⟨_, rfl⟩
                  replace H : (if 0 ≤ (ji16) then (if (ji16) < (x6_3.length : Int) then (if 0 ≤ (wrap64 (x11_3 - 7)) then (if (wrap64 (x11_3 - 7)) < (x6_3.length : Int) then (if a0_0 = 0 then (if 0 ≤ (wrap64 (x11_3 - 15)) then (if (wrap64 (x11_3 - 15)) < (x6_3.length : Int) then ((imprimaturref02_Words_small.f a0_0 a0_1 (rd x6_3 (wrap64 (x11_3 - 15))) 1 8 7).bind fun t155 => (if 0 ≤ (wrap64 (x11_3 - 2)) then (if (wrap64 (x11_3 - 2)) < (x6_3.length : Int) then ((imprimaturref02_Words_small.f a0_0 a0_1 (rd x6_3 (wrap64 (x11_3 - 2))) 19 61 6).bind fun t157 => ((imprimaturref02_Words_cut.f a0_0 a0_1 (IntKind.u64.wrap ((IntKind.u64.wrap ((IntKind.u64.wrap ((rd x6_3 (ji16)) + (rd x6_3 (wrap64 (x11_3 - 7))))) + t155)) + t157))).bind fun t158 => (if x6_3.length < 17592186044416 then (imprimaturref02_Words_expand.l2 k3 (x6_3 ++ [t158]) x10_11 (wrap64 (x11_3 + 1)) a0_0 a0_1) else (none)))) else (none)) else (none))) else (none)) else (none)) else (if 0 ≤ (wrap64 (x11_3 - 15)) then (if (wrap64 (x11_3 - 15)) < (x6_3.length : Int) then ((imprimaturref02_Words_small.f a0_0 a0_1 (rd x6_3 (wrap64 (x11_3 - 15))) 7 18 3).bind fun t163 => (if 0 ≤ (wrap64 (x11_3 - 2)) then (if (wrap64 (x11_3 - 2)) < (x6_3.length : Int) then ((imprimaturref02_Words_small.f a0_0 a0_1 (rd x6_3 (wrap64 (x11_3 - 2))) 17 19 10).bind fun t165 => ((imprimaturref02_Words_cut.f a0_0 a0_1 (IntKind.u64.wrap ((IntKind.u64.wrap ((IntKind.u64.wrap ((rd x6_3 (ji16)) + (rd x6_3 (wrap64 (x11_3 - 7))))) + t163)) + t165))).bind fun t166 => (if x6_3.length < 17592186044416 then (imprimaturref02_Words_expand.l2 k3 (x6_3 ++ [t166]) x10_11 (wrap64 (x11_3 + 1)) a0_0 a0_1) else (none)))) else (none)) else (none))) else (none)) else (none))) else (none)) else (none)) else (none)) else (none)) = some r := by first | (rw [hji16] at H; exact H) | (simp only [hji16] at H ⊢; exact H)
                  have hji16w : (IntKind.i64.wrap (x11_3 - 16)) = ji16 := (i64_w _).trans hji16
                  by_cases c17 : 0 ≤ (ji16)
                  · rw [if_pos c17] at H
                    have c17b0 : decide (0 ≤ (ji16)) = true := decide_eq_true c17
                    clear c17
                    by_cases c18 : (ji16) < (x6_3.length : Int)
                    · rw [if_pos c18] at H
                      have c18b0 : decide ((ji16) < (x6_3.length : Int)) = true := decide_eq_true c18
                      clear c18
                      obtain ⟨ji19, hji19⟩ : ∃ j_ : Int, (wrap64 (x11_3 - 7)) = j_ := ⟨_, rfl⟩
                      replace H : (if 0 ≤ (ji19) then (if (ji19) < (x6_3.length : Int) then (if a0_0 = 0 then (if 0 ≤ (wrap64 (x11_3 - 15)) then (if (wrap64 (x11_3 - 15)) < (x6_3.length : Int) then ((imprimaturref02_Words_small.f a0_0 a0_1 (rd x6_3 (wrap64 (x11_3 - 15))) 1 8 7).bind fun t155 => (if 0 ≤ (wrap64 (x11_3 - 2)) then (if (wrap64 (x11_3 - 2)) < (x6_3.length : Int) then ((imprimaturref02_Words_small.f a0_0 a0_1 (rd x6_3 (wrap64 (x11_3 - 2))) 19 61 6).bind fun t157 => ((imprimaturref02_Words_cut.f a0_0 a0_1 (IntKind.u64.wrap ((IntKind.u64.wrap ((IntKind.u64.wrap ((rd x6_3 (ji16)) + (rd x6_3 (ji19)))) + t155)) + t157))).bind fun t158 => (if x6_3.length < 17592186044416 then (imprimaturref02_Words_expand.l2 k3 (x6_3 ++ [t158]) x10_11 (wrap64 (x11_3 + 1)) a0_0 a0_1) else (none)))) else (none)) else (none))) else (none)) else (none)) else (if 0 ≤ (wrap64 (x11_3 - 15)) then (if (wrap64 (x11_3 - 15)) < (x6_3.length : Int) then ((imprimaturref02_Words_small.f a0_0 a0_1 (rd x6_3 (wrap64 (x11_3 - 15))) 7 18 3).bind fun t163 => (if 0 ≤ (wrap64 (x11_3 - 2)) then (if (wrap64 (x11_3 - 2)) < (x6_3.length : Int) then ((imprimaturref02_Words_small.f a0_0 a0_1 (rd x6_3 (wrap64 (x11_3 - 2))) 17 19 10).bind fun t165 => ((imprimaturref02_Words_cut.f a0_0 a0_1 (IntKind.u64.wrap ((IntKind.u64.wrap ((IntKind.u64.wrap ((rd x6_3 (ji16)) + (rd x6_3 (ji19)))) + t163)) + t165))).bind fun t166 => (if x6_3.length < 17592186044416 then (imprimaturref02_Words_expand.l2 k3 (x6_3 ++ [t166]) x10_11 (wrap64 (x11_3 + 1)) a0_0 a0_1) else (none)))) else (none)) else (none))) else (none)) else (none))) else (none)) else (none)) = some r := by first | (rw [hji19] at H; exact H) | (simp only [hji19] at H ⊢; exact H)
                      have hji19w : (IntKind.i64.wrap (x11_3 - 7)) = ji19 := (i64_w _).trans hji19
                      by_cases c20 : 0 ≤ (ji19)
                      · rw [if_pos c20] at H
                        have c20b0 : decide (0 ≤ (ji19)) = true := decide_eq_true c20
                        clear c20
                        by_cases c21 : (ji19) < (x6_3.length : Int)
                        · rw [if_pos c21] at H
                          have c21b0 : decide ((ji19) < (x6_3.length : Int)) = true := decide_eq_true c21
                          clear c21
                          by_cases c22 : a0_0 = 0
                          · rw [if_pos c22] at H
                            have c22b0 : (a0_0 == 0) = true := beq_iff_eq.mpr c22
                            have c22b1 : (a0_0 != 0) = false := bne_eq_false_iff_eq.mpr c22
                            clear c22
                            obtain ⟨ji23, hji23⟩ : ∃ j_ : Int, (wrap64 (x11_3 - 15)) = j_ := ⟨_, rfl⟩
                            replace H : (if 0 ≤ (ji23) then (if (ji23) < (x6_3.length : Int) then ((imprimaturref02_Words_small.f a0_0 a0_1 (rd x6_3 (ji23)) 1 8 7).bind fun t155 => (if 0 ≤ (wrap64 (x11_3 - 2)) then (if (wrap64 (x11_3 - 2)) < (x6_3.length : Int) then ((imprimaturref02_Words_small.f a0_0 a0_1 (rd x6_3 (wrap64 (x11_3 - 2))) 19 61 6).bind fun t157 => ((imprimaturref02_Words_cut.f a0_0 a0_1 (IntKind.u64.wrap ((IntKind.u64.wrap ((IntKind.u64.wrap ((rd x6_3 (ji16)) + (rd x6_3 (ji19)))) + t155)) + t157))).bind fun t158 => (if x6_3.length < 17592186044416 then (imprimaturref02_Words_expand.l2 k3 (x6_3 ++ [t158]) x10_11 (wrap64 (x11_3 + 1)) a0_0 a0_1) else (none)))) else (none)) else (none))) else (none)) else (none)) = some r := by first | (rw [hji23] at H; exact H) | (simp only [hji23] at H ⊢; exact H)
                            have hji23w : (IntKind.i64.wrap (x11_3 - 15)) = ji23 := (i64_w _).trans hji23
                            by_cases c24 : 0 ≤ (ji23)
                            · rw [if_pos c24] at H
                              have c24b0 : decide (0 ≤ (ji23)) = true := decide_eq_true c24
                              clear c24
                              by_cases c25 : (ji23) < (x6_3.length : Int)
                              · rw [if_pos c25] at H
                                have c25b0 : decide ((ji23) < (x6_3.length : Int)) = true := decide_eq_true c25
                                clear c25
                                replace H := Option.bind_eq_some_iff.mp H
                                obtain ⟨t155, A260, H⟩ := H
                                replace H : (if 0 ≤ (wrap64 (x11_3 - 2)) then (if (wrap64 (x11_3 - 2)) < (x6_3.length : Int) then ((imprimaturref02_Words_small.f a0_0 a0_1 (rd x6_3 (wrap64 (x11_3 - 2))) 19 61 6).bind fun t157 => ((imprimaturref02_Words_cut.f a0_0 a0_1 (IntKind.u64.wrap ((IntKind.u64.wrap ((IntKind.u64.wrap ((rd x6_3 (ji16)) + (rd x6_3 (ji19)))) + t155)) + t157))).bind fun t158 => (if x6_3.length < 17592186044416 then (imprimaturref02_Words_expand.l2 k3 (x6_3 ++ [t158]) x10_11 (wrap64 (x11_3 + 1)) a0_0 a0_1) else (none)))) else (none)) else (none)) = some r := H
                                have A26 := Aside0.mk A260
                                clear A260
                                obtain ⟨ji27, hji27⟩ : ∃ j_ : Int, (wrap64 (x11_3 - 2)) = j_ := ⟨_, rfl⟩
                                replace H : (if 0 ≤ (ji27) then (if (ji27) < (x6_3.length : Int) then ((imprimaturref02_Words_small.f a0_0 a0_1 (rd x6_3 (ji27)) 19 61 6).bind fun t157 => ((imprimaturref02_Words_cut.f a0_0 a0_1 (IntKind.u64.wrap ((IntKind.u64.wrap ((IntKind.u64.wrap ((rd x6_3 (ji16)) + (rd x6_3 (ji19)))) + t155)) + t157))).bind fun t158 => (if x6_3.length < 17592186044416 then (imprimaturref02_Words_expand.l2 k3 (x6_3 ++ [t158]) x10_11 (wrap64 (x11_3 + 1)) a0_0 a0_1) else (none)))) else (none)) else (none)) = some r := by first | (rw [hji27] at H; exact H) | (simp only [hji27] at H ⊢; exact H)
                                (try rw [hji27] at A26)
                                have hji27w : (IntKind.i64.wrap (x11_3 - 2)) = ji27 := (i64_w _).trans hji27
                                by_cases c28 : 0 ≤ (ji27)
                                · rw [if_pos c28] at H
                                  have c28b0 : decide (0 ≤ (ji27)) = true := decide_eq_true c28
                                  clear c28
                                  by_cases c29 : (ji27) < (x6_3.length : Int)
                                  · rw [if_pos c29] at H
                                    have c29b0 : decide ((ji27) < (x6_3.length : Int)) = true := decide_eq_true c29
                                    clear c29
                                    replace H := Option.bind_eq_some_iff.mp H
                                    obtain ⟨t157, A300, H⟩ := H
                                    replace H : ((imprimaturref02_Words_cut.f a0_0 a0_1 (IntKind.u64.wrap ((IntKind.u64.wrap ((IntKind.u64.wrap ((rd x6_3 (ji16)) + (rd x6_3 (ji19)))) + t155)) + t157))).bind fun t158 => (if x6_3.length < 17592186044416 then (imprimaturref02_Words_expand.l2 k3 (x6_3 ++ [t158]) x10_11 (wrap64 (x11_3 + 1)) a0_0 a0_1) else (none))) = some r := H
                                    have A30 := Aside0.mk A300
                                    clear A300
                                    replace H := Option.bind_eq_some_iff.mp H
                                    obtain ⟨t158, A310, H⟩ := H
                                    replace H : (if x6_3.length < 17592186044416 then (imprimaturref02_Words_expand.l2 k3 (x6_3 ++ [t158]) x10_11 (wrap64 (x11_3 + 1)) a0_0 a0_1) else (none)) = some r := H
                                    have A31 := Aside0.mk A310
                                    clear A310
                                    by_cases c32 : x6_3.length < 17592186044416
                                    · rw [if_pos c32] at H
                                      have LMc32 := Aside0.mk c32
                                      clear c32
                                      obtain ⟨y159, hy159⟩ : ∃ y_ : List Int, y_ = (x6_3 ++ [t158]) := ⟨_, rfl⟩
                                      replace H : (imprimaturref02_Words_expand.l2 k3 y159 x10_11 (wrap64 (x11_3 + 1)) a0_0 a0_1) = some r := by first | (rw [hy159]; with_reducible exact H) | (have H2_ := (Option.bind_some _ _).symm.trans H; rw [hy159]; with_reducible exact H2_) | (have H2_ := (Option.bind_some _ _).symm.trans H; with_reducible exact H2_) | with_reducible exact H | (rw [hy159]; exact H) | exact H
                                      have Ny159 := Aside0.mk hy159
                                      clear hy159
                                      have H' := Aside0.mk H
                                      clear H
                                      try go_wp2
                                      have n0_ := Aside0.mk (Kd.R_drew HO_6.out)
                                      have n1_ := Aside0.mk (blk_drew BK147.out)
                                      have n2_ := Aside0.mk (below_drew1 HB.out)
                                      clear HO_6
                                      clear BK147
                                      clear HB
                                      have HO_6 := n0_
                                      have BK147 := n1_
                                      have HB := n2_
                                      clear n0_ n1_ n2_
                                      obtain ⟨Ao34, co34, eo34⟩ := Kd.R_slice HO_6.out
                                      (first | subst eo34 | (injection eo34 with f1_ f2_ f3_; have f4_ := f1_.symm; have f5_ := f3_.symm; clear f1_ f2_ f3_; subst f4_; subst f5_))
                                      have p152 : 0 ≤ ((ji16) : Int) := of_decide_eq_true (by first | (with_reducible assumption) | assumption)
                                      have q152 : (ji16) < (x6_3.length : Int) := of_decide_eq_true (by first | (with_reducible assumption) | assumption)
                                      obtain ⟨ad152, e152, hx152_0⟩ := Kd.at_int (Kd.R_reads' HO_6.out).2.2 (ji16) p152 q152
                                      cases e152
                                      replace p152 := eq_true p152
                                      replace q152 := eq_true q152
                                      have p153 : 0 ≤ ((ji19) : Int) := of_decide_eq_true (by first | (with_reducible assumption) | assumption)
                                      have q153 : (ji19) < (x6_3.length : Int) := of_decide_eq_true (by first | (with_reducible assumption) | assumption)
                                      obtain ⟨ad153, e153, hx153_0⟩ := Kd.at_int (Kd.R_reads' HO_6.out).2.2 (ji19) p153 q153
                                      obtain rfl : ad152 = ad153 := (by injection e153)
                                      replace p153 := eq_true p153
                                      replace q153 := eq_true q153
                                      refine start_ (n := 12) (S := fun w' => w'.cell? (ad152.add ((ji16)).toNat) = some (.int .u64 (rd x6_3 (ji16))) ∧ w'.cell? (ad152.add ((ji19)).toNat) = some (.int .u64 (rd x6_3 (ji19)))) (ds := []) (bz 12 0) (by kernel_rfl) rfl rfl ⟨hx152_0, hx153_0⟩ (fun hHeld => ?_); refine with_tabW imprimaturref02_Words_expand.tab18 imprimaturref02_Words_expand.bits18 (fun HT_ HW_ => ?_)
                                      generalize wr.drew = w33 at HO_6 BK147 HB hx152_0 hx153_0 hHeld ⊢
                                      refine xpz 0 (some 50) (bz 12 1) (any_of HT_.out (by kernel_rfl)) ?_
                                      refine xpz 1 (some 51) (bz 12 3) (any_of HT_.out (by kernel_rfl)) ?_
                                      refine xpz 2 (some 52) (bz 12 7) (any_of HT_.out (by kernel_rfl)) ?_
                                      refine xpz 3 (some 53) (bz 12 15) (any_of HT_.out (by kernel_rfl)) ?_
                                      refine xpz 5 (some 55) (bz 12 47) (any_of HT_.out (by kernel_rfl)) ?_
                                      refine xpz 6 (some 56) (bz 12 111) (any_of HT_.out (by kernel_rfl)) ?_
                                      refine xpz 7 (some 57) (bz 12 239) (any_of HT_.out (by kernel_rfl)) ?_
                                      refine xpz 8 (some 58) (bz 12 495) (any_of HT_.out (by kernel_rfl)) ?_
                                      refine xtz2 4 (some 54) (bz 12 511) (take_ofW HT_.out HW_.out (by kernel_rfl)) hHeld ?_
                                      refine xtz2 9 (some 59) (bz 12 1023) (take_ofW HT_.out HW_.out (by kernel_rfl)) hHeld ?_
                                      refine xpz 10 (some 60) (bz 12 2047) (any_of HT_.out (by kernel_rfl)) ?_
                                      refine xpz 11 (some 12) (bz 12 4095) (any_of HT_.out (by kernel_rfl)) ?_
                                      refine done_ (done_of HT_.out (by kernel_rfl)) ?_
                                      have hcz35_0 : w33.cell? ⟨gb147, 0, none⟩ = some (.int .u64 a0_0) := (blk_cell BK147.out 0).trans rfl
                                      have hcz35_1 : w33.cell? ⟨gb147, 1, none⟩ = some (.int .u64 a0_1) := (blk_cell BK147.out 1).trans rfl
                                      have hfz35_0 := blk_frozen BK147.out 0
                                      have hfz35_1 := blk_frozen BK147.out 1
                                      try go_wp2
                                      have n0_ := Aside0.mk (Kd.R_drew HO_6.out)
                                      have n1_ := Aside0.mk (blk_drew BK147.out)
                                      have n2_ := Aside0.mk (below_drew1 HB.out)
                                      clear HO_6
                                      clear BK147
                                      clear HB
                                      have HO_6 := n0_
                                      have BK147 := n1_
                                      have HB := n2_
                                      clear n0_ n1_ n2_
                                      have p154 : 0 ≤ ((ji23) : Int) := of_decide_eq_true (by first | (with_reducible assumption) | assumption)
                                      have q154 : (ji23) < (x6_3.length : Int) := of_decide_eq_true (by first | (with_reducible assumption) | assumption)
                                      obtain ⟨ad154, e154, hx154_0⟩ := Kd.at_int (Kd.R_reads' HO_6.out).2.2 (ji23) p154 q154
                                      obtain rfl : ad152 = ad154 := (by injection e154)
                                      replace p154 := eq_true p154
                                      replace q154 := eq_true q154
                                      have p156 : 0 ≤ ((ji27) : Int) := of_decide_eq_true (by first | (with_reducible assumption) | assumption)
                                      have q156 : (ji27) < (x6_3.length : Int) := of_decide_eq_true (by first | (with_reducible assumption) | assumption)
                                      obtain ⟨ad156, e156, hx156_0⟩ := Kd.at_int (Kd.R_reads' HO_6.out).2.2 (ji27) p156 q156
                                      obtain rfl : ad152 = ad156 := (by injection e156)
                                      replace p156 := eq_true p156
                                      replace q156 := eq_true q156
                                      refine start_ (n := 18) (S := fun w' => w'.cell? ⟨gb147, 0, none⟩ = some (.int .u64 a0_0) ∧ w'.cell? ⟨gb147, 1, none⟩ = some (.int .u64 a0_1) ∧ w'.cell? (ad152.add ((ji23)).toNat) = some (.int .u64 (rd x6_3 (ji23))) ∧ w'.cell? (ad152.add ((ji27)).toNat) = some (.int .u64 (rd x6_3 (ji27)))) (ds := []) (bz 18 0) (by kernel_rfl) rfl rfl ⟨(blk_cell BK147.out 0).trans rfl, (blk_cell BK147.out 1).trans rfl, hx154_0, hx156_0⟩ (fun hHeld => ?_); refine with_tabW imprimaturref02_Words_expand.tab21 imprimaturref02_Words_expand.bits21 (fun HT_ HW_ => ?_)
                                      generalize w33.drew = w36 at HO_6 BK147 HB hx154_0 hx156_0 hHeld ⊢
                                      refine xpz 0 (some 81) (bz 18 1) (any_of HT_.out (by kernel_rfl)) ?_
                                      refine xpz 2 (some 83) (bz 18 5) (any_of HT_.out (by kernel_rfl)) ?_
                                      refine xpz 3 (some 84) (bz 18 13) (any_of HT_.out (by kernel_rfl)) ?_
                                      refine xpz 4 (some 85) (bz 18 29) (any_of HT_.out (by kernel_rfl)) ?_
                                      refine xpz 5 (some 86) (bz 18 61) (any_of HT_.out (by kernel_rfl)) ?_
                                      refine xpz 10 (some 91) (bz 18 1085) (any_of HT_.out (by kernel_rfl)) ?_
                                      refine xpz 11 (some 92) (bz 18 3133) (any_of HT_.out (by kernel_rfl)) ?_
                                      refine xpz 12 (some 93) (bz 18 7229) (any_of HT_.out (by kernel_rfl)) ?_
                                      refine xpz 13 (some 94) (bz 18 15421) (any_of HT_.out (by kernel_rfl)) ?_
                                      refine xtz4 1 (some 82) (bz 18 15423) (take_ofW HT_.out HW_.out (by kernel_rfl)) hHeld ?_
                                      refine xtz4 6 (some 87) (bz 18 15487) (take_ofW HT_.out HW_.out (by kernel_rfl)) hHeld ?_
                                      refine xtz4 9 (some 90) (bz 18 15999) (take_ofW HT_.out HW_.out (by kernel_rfl)) hHeld ?_
                                      refine xtz4 14 (some 95) (bz 18 32383) (take_ofW HT_.out HW_.out (by kernel_rfl)) hHeld ?_
                                      refine one_ (i := 7) (N := some 88) (bz 18 32511) rfl rfl (one_of HT_.out (by kernel_rfl)) (by decide) (fun K hK => ?_)
                                      refine goes_ Tryz.func97 (by kernel_rfl) rfl #[.agg #[.int .u64 a0_0, .int .u64 a0_1], .int .u64 (rd x6_3 (ji23)), .int .u64 1, .int .u64 8, .int .u64 7] (by rfl) rfl rfl (by (try simp only [List.map_toArray, List.map_cons, List.map_nil]); first | done | (simp only [hji23]; rfl) | rfl | (simp only [List.length_drop, List.length_take]; rfl)) ?_
                                      with_reducible refine (imprimaturref02_Words_small.calls a0_0 a0_1 (rd x6_3 (ji23)) 1 8 7 t155 _ A26.out).mono ?_
                                      rintro e w37 ⟨rfl, hb⟩
                                      have HS2_ := (hb.cell (World.block_lt_of_cell? _ _ (hHeld.2.2.1))).trans (hHeld.2.2.1)
                                      have HS3_ := (hb.cell (World.block_lt_of_cell? _ _ (hHeld.2.2.2))).trans (hHeld.2.2.2)
                                      refine ⟨_, rfl, ?_⟩
                                      have n0_ := Aside0.mk (Kd.R_below (by (with_reducible repeat (first | apply Kd.R_alloc | apply Kd.R_drewN | apply Kd.R_drew)); exact HO_6.out) hb)
                                      have n1_ := Aside0.mk (blk_below (g := gb147) (o := .cells #[.int .u64 a0_0, .int .u64 a0_1] 125 (0, 0)) (by (with_reducible repeat (first | refine blk_drewN ?_ _ | refine blk_drew ?_ | refine blk_alloc ?_ _)); exact BK147.out) hb)
                                      have n2_ := Aside0.mk (below_step (by repeat (first | (with_reducible first | exact HB.out | apply below_alloc | apply pw_below_drewN | apply below_drew1 | refine below_set ?_ GE147.out) | exact HB.out)) hb)
                                      clear HO_6
                                      clear BK147
                                      clear HB
                                      have HO_6 := n0_
                                      have BK147 := n1_
                                      have HB := n2_
                                      clear n0_ n1_ n2_
                                      (try clear hb)
                                      (try clear hb2)
                                      (try clear hk)
                                      (try clear hi)
                                      refine hK.out _ _ ⟨(blk_cell BK147.out 0).trans rfl, (blk_cell BK147.out 1).trans rfl, HS2_, HS3_⟩ (fun hHeld => ?_)
                                      clear hK K
                                      refine norm_ (a' := ?_) ?_ ?_
                                      rotate_left
                                      · show Act.put _ (some 88) _ = _
                                        simp only [Act.put, List.setIfInBounds_toArray, List.set_cons_zero, List.set_cons_succ, i64_w, i32_w]
                                        rfl
                                      refine xpz 8 (some 89) (bz 18 32767) (any_of HT_.out (by kernel_rfl)) ?_
                                      refine one_ (i := 15) (N := some 96) (bz 18 65535) rfl rfl (one_of HT_.out (by kernel_rfl)) (by decide) (fun K hK => ?_)
                                      refine goes_ Tryz.func97 (by kernel_rfl) rfl #[.agg #[.int .u64 a0_0, .int .u64 a0_1], .int .u64 (rd x6_3 (ji27)), .int .u64 19, .int .u64 61, .int .u64 6] (by rfl) rfl rfl (by (try simp only [List.map_toArray, List.map_cons, List.map_nil]); first | done | (simp only [hji27]; rfl) | rfl | (simp only [List.length_drop, List.length_take]; rfl)) ?_
                                      with_reducible refine (imprimaturref02_Words_small.calls a0_0 a0_1 (rd x6_3 (ji27)) 19 61 6 t157 _ A30.out).mono ?_
                                      rintro e w38 ⟨rfl, hb⟩
                                      have HS2_ := (hb.cell (World.block_lt_of_cell? _ _ (hHeld.2.2.1))).trans (hHeld.2.2.1)
                                      have HS3_ := (hb.cell (World.block_lt_of_cell? _ _ (hHeld.2.2.2))).trans (hHeld.2.2.2)
                                      refine ⟨_, rfl, ?_⟩
                                      have n0_ := Aside0.mk (Kd.R_below (by (with_reducible repeat (first | apply Kd.R_alloc | apply Kd.R_drewN | apply Kd.R_drew)); exact HO_6.out) hb)
                                      have n1_ := Aside0.mk (blk_below (g := gb147) (o := .cells #[.int .u64 a0_0, .int .u64 a0_1] 125 (0, 0)) (by (with_reducible repeat (first | refine blk_drewN ?_ _ | refine blk_drew ?_ | refine blk_alloc ?_ _)); exact BK147.out) hb)
                                      have n2_ := Aside0.mk (below_step (by repeat (first | (with_reducible first | exact HB.out | apply below_alloc | apply pw_below_drewN | apply below_drew1 | refine below_set ?_ GE147.out) | exact HB.out)) hb)
                                      clear HO_6
                                      clear BK147
                                      clear HB
                                      have HO_6 := n0_
                                      have BK147 := n1_
                                      have HB := n2_
                                      clear n0_ n1_ n2_
                                      (try clear hb)
                                      (try clear hb2)
                                      (try clear hk)
                                      (try clear hi)
                                      refine hK.out _ _ ⟨(blk_cell BK147.out 0).trans rfl, (blk_cell BK147.out 1).trans rfl, HS2_, HS3_⟩ (fun hHeld => ?_)
                                      clear hK K
                                      refine norm_ (a' := ?_) ?_ ?_
                                      rotate_left
                                      · show Act.put _ (some 96) _ = _
                                        simp only [Act.put, List.setIfInBounds_toArray, List.set_cons_zero, List.set_cons_succ, i64_w, i32_w]
                                        rfl
                                      refine xpz 16 (some 97) (bz 18 131071) (any_of HT_.out (by kernel_rfl)) ?_
                                      refine xpz 17 (some 12) (bz 18 262143) (any_of HT_.out (by kernel_rfl)) ?_
                                      refine done_ (done_of HT_.out (by kernel_rfl)) ?_
                                      have hcz39_0 : w38.cell? ⟨gb147, 0, none⟩ = some (.int .u64 a0_0) := (blk_cell BK147.out 0).trans rfl
                                      have hcz39_1 : w38.cell? ⟨gb147, 1, none⟩ = some (.int .u64 a0_1) := (blk_cell BK147.out 1).trans rfl
                                      have hfz39_0 := blk_frozen BK147.out 0
                                      have hfz39_1 := blk_frozen BK147.out 1
                                      try go_wp2_with (first | ((with_reducible refine gate_callee (f := 89) rfl ?_); refine goesL_ (some 101) rfl rfl Tryz.func89 (by kernel_rfl) rfl #[.agg #[.int .u64 a0_0, .int .u64 a0_1], .int .u64 (IntKind.u64.wrap ((IntKind.u64.wrap ((IntKind.u64.wrap ((rd x6_3 (ji16)) + (rd x6_3 (ji19)))) + t155)) + t157))] rfl (by (try simp only [List.map_toArray, List.map_cons, List.map_nil]); first | done | (simp only [hji16, hji19]; rfl) | rfl | (simp only [List.length_drop, List.length_take]; rfl)) ?_; (with_reducible refine (imprimaturref02_Words_cut.calls a0_0 a0_1 (IntKind.u64.wrap ((IntKind.u64.wrap ((IntKind.u64.wrap ((rd x6_3 (ji16)) + (rd x6_3 (ji19)))) + t155)) + t157)) t158 _ A31.out).mono ?_); rintro e w40 ⟨rfl, hb⟩; refine ⟨_, rfl, ?_⟩; have n0_ := Aside0.mk (Kd.R_below (by (with_reducible repeat (first | apply Kd.R_alloc | apply Kd.R_drewN | apply Kd.R_drew)); exact HO_6.out) hb); have n1_ := Aside0.mk (blk_below (g := gb147) (o := .cells #[.int .u64 a0_0, .int .u64 a0_1] 125 (0, 0)) (by (with_reducible repeat (first | refine blk_drewN ?_ _ | refine blk_drew ?_ | refine blk_alloc ?_ _)); exact BK147.out) hb); have n2_ := Aside0.mk (below_step (by repeat (first | (with_reducible first | exact HB.out | apply below_alloc | apply pw_below_drewN | apply below_drew1 | refine below_set ?_ GE147.out) | exact HB.out)) hb); clear HO_6; clear BK147; clear HB; have HO_6 := n0_; have BK147 := n1_; have HB := n2_; clear n0_ n1_ n2_; (try clear hb); (try clear hb2); (try clear hk); (try clear hi)) | ((with_reducible refine gate_builtin (b := .append) (xs := #[.tmp 98, .tmp 102]) rfl ?_); at_builtin; refine Kd.R_append (Kd.int .u64) (w0 := w) w.heap.size rfl (.tmp 98) (.tmp 102) 126 45 (.int .u64 0) 8 rfl Tryz.underlying126 info45 rfl (by decide) (by omega) (.slice (some ad152) x6_3.length co34) x6_3 t158 [.int .u64 t158] (fun _ => True) (fun _ => False) rfl rfl ?aP (fun _ hk => hk.elim) ?aF ?aO ?aB ?aS ?aL ?_; (case aP => exact rfl); (case aB => exact (by repeat (first | (with_reducible first | exact HB.out | apply below_alloc | apply pw_below_drewN | apply below_drew1 | refine below_set ?_ GE147.out) | exact HB.out))); (case aF => exact (fun _ _ => trivial)); (case aO => exact (by (with_reducible repeat (first | apply Kd.R_alloc | apply Kd.R_drewN | apply Kd.R_drew)); exact HO_6.out)); (case aS => exact (below_size (by repeat (first | (with_reducible first | exact HB.out | apply below_alloc | apply pw_below_drewN | apply below_drew1 | refine below_set ?_ GE147.out) | exact HB.out)))); (case aL => have := LMc32.out; omega); intro v160 w41 ho hb hg hat; rw [← Ny159.out] at ho; have n0_ := Aside0.mk (blk_grown (g := gb147) (o := .cells #[.int .u64 a0_0, .int .u64 a0_1] 125 (0, 0)) (by (with_reducible repeat (first | refine blk_drewN ?_ _ | refine blk_drew ?_ | refine blk_alloc ?_ _)); exact BK147.out) hg (Kd.R_ne HO_6.out BK147.out (by decide))); have n1_ := Aside0.mk (hb); have n2_ := Aside0.mk (ho); clear BK147; clear HB; clear HO_6; have BK147 := n0_; have HB := n1_; have HO161 := n2_; clear n0_ n1_ n2_; clear ho hb hg hat))
                                      go_roundg k3
                                      case measure => have := HK1.out; have := HJ11.out; have := HK3.out; omega
                                      case rel => exact ⟨(y159), (wrap64 (x11_3 + 1)), (by first | rfl | (simp; done) | (simp [*]; done)), H', ⟨by have := HK1.out; have := HJ11.out; have := HK3.out; omega⟩, ⟨by (with_reducible repeat (first | apply Kd.R_alloc | apply Kd.R_drewN | apply Kd.R_drew)); exact HO161.out⟩, ⟨by (with_reducible repeat (first | refine blk_drewN ?_ _ | refine blk_drew ?_ | refine blk_alloc ?_ _)); exact BK147.out⟩, ⟨by repeat (first | (with_reducible first | exact HB.out | apply below_alloc | apply pw_below_drewN | apply below_drew1 | refine below_set ?_ GE147.out) | exact HB.out)⟩⟩
                                    · rw [if_neg c32] at H
                                      exact absurd H (by simp)
                                  · rw [if_neg c29] at H
                                    exact absurd H (by simp)
                                · rw [if_neg c28] at H
                                  exact absurd H (by simp)
                              · rw [if_neg c25] at H
                                exact absurd H (by simp)
                            · rw [if_neg c24] at H
                              exact absurd H (by simp)
                          · rw [if_neg c22] at H
                            have c22b0 : (a0_0 == 0) = false := beq_eq_false_iff_ne.mpr c22
                            have c22b1 : (a0_0 != 0) = true := bne_iff_ne.mpr c22
                            obtain ⟨ji42, hji42⟩ : ∃ j_ : Int, (wrap64 (x11_3 - 15)) = j_ := ⟨_, rfl⟩
                            replace H : (if 0 ≤ (ji42) then (if (ji42) < (x6_3.length : Int) then ((imprimaturref02_Words_small.f a0_0 a0_1 (rd x6_3 (ji42)) 7 18 3).bind fun t163 => (if 0 ≤ (wrap64 (x11_3 - 2)) then (if (wrap64 (x11_3 - 2)) < (x6_3.length : Int) then ((imprimaturref02_Words_small.f a0_0 a0_1 (rd x6_3 (wrap64 (x11_3 - 2))) 17 19 10).bind fun t165 => ((imprimaturref02_Words_cut.f a0_0 a0_1 (IntKind.u64.wrap ((IntKind.u64.wrap ((IntKind.u64.wrap ((rd x6_3 (ji16)) + (rd x6_3 (ji19)))) + t163)) + t165))).bind fun t166 => (if x6_3.length < 17592186044416 then (imprimaturref02_Words_expand.l2 k3 (x6_3 ++ [t166]) x10_11 (wrap64 (x11_3 + 1)) a0_0 a0_1) else (none)))) else (none)) else (none))) else (none)) else (none)) = some r := by first | (rw [hji42] at H; exact H) | (simp only [hji42] at H ⊢; exact H)
                            have hji42w : (IntKind.i64.wrap (x11_3 - 15)) = ji42 := (i64_w _).trans hji42
                            by_cases c43 : 0 ≤ (ji42)
                            · rw [if_pos c43] at H
                              have c43b0 : decide (0 ≤ (ji42)) = true := decide_eq_true c43
                              clear c43
                              by_cases c44 : (ji42) < (x6_3.length : Int)
                              · rw [if_pos c44] at H
                                have c44b0 : decide ((ji42) < (x6_3.length : Int)) = true := decide_eq_true c44
                                clear c44
                                replace H := Option.bind_eq_some_iff.mp H
                                obtain ⟨t163, A450, H⟩ := H
                                replace H : (if 0 ≤ (wrap64 (x11_3 - 2)) then (if (wrap64 (x11_3 - 2)) < (x6_3.length : Int) then ((imprimaturref02_Words_small.f a0_0 a0_1 (rd x6_3 (wrap64 (x11_3 - 2))) 17 19 10).bind fun t165 => ((imprimaturref02_Words_cut.f a0_0 a0_1 (IntKind.u64.wrap ((IntKind.u64.wrap ((IntKind.u64.wrap ((rd x6_3 (ji16)) + (rd x6_3 (ji19)))) + t163)) + t165))).bind fun t166 => (if x6_3.length < 17592186044416 then (imprimaturref02_Words_expand.l2 k3 (x6_3 ++ [t166]) x10_11 (wrap64 (x11_3 + 1)) a0_0 a0_1) else (none)))) else (none)) else (none)) = some r := H
                                have A45 := Aside0.mk A450
                                clear A450
                                obtain ⟨ji46, hji46⟩ : ∃ j_ : Int, (wrap64 (x11_3 - 2)) = j_ := ⟨_, rfl⟩
                                replace H : (if 0 ≤ (ji46) then (if (ji46) < (x6_3.length : Int) then ((imprimaturref02_Words_small.f a0_0 a0_1 (rd x6_3 (ji46)) 17 19 10).bind fun t165 => ((imprimaturref02_Words_cut.f a0_0 a0_1 (IntKind.u64.wrap ((IntKind.u64.wrap ((IntKind.u64.wrap ((rd x6_3 (ji16)) + (rd x6_3 (ji19)))) + t163)) + t165))).bind fun t166 => (if x6_3.length < 17592186044416 then (imprimaturref02_Words_expand.l2 k3 (x6_3 ++ [t166]) x10_11 (wrap64 (x11_3 + 1)) a0_0 a0_1) else (none)))) else (none)) else (none)) = some r := by first | (rw [hji46] at H; exact H) | (simp only [hji46] at H ⊢; exact H)
                                (try rw [hji46] at A45)
                                have hji46w : (IntKind.i64.wrap (x11_3 - 2)) = ji46 := (i64_w _).trans hji46
                                by_cases c47 : 0 ≤ (ji46)
                                · rw [if_pos c47] at H
                                  have c47b0 : decide (0 ≤ (ji46)) = true := decide_eq_true c47
                                  clear c47
                                  by_cases c48 : (ji46) < (x6_3.length : Int)
                                  · rw [if_pos c48] at H
                                    have c48b0 : decide ((ji46) < (x6_3.length : Int)) = true := decide_eq_true c48
                                    clear c48
                                    replace H := Option.bind_eq_some_iff.mp H
                                    obtain ⟨t165, A490, H⟩ := H
                                    replace H : ((imprimaturref02_Words_cut.f a0_0 a0_1 (IntKind.u64.wrap ((IntKind.u64.wrap ((IntKind.u64.wrap ((rd x6_3 (ji16)) + (rd x6_3 (ji19)))) + t163)) + t165))).bind fun t166 => (if x6_3.length < 17592186044416 then (imprimaturref02_Words_expand.l2 k3 (x6_3 ++ [t166]) x10_11 (wrap64 (x11_3 + 1)) a0_0 a0_1) else (none))) = some r := H
                                    have A49 := Aside0.mk A490
                                    clear A490
                                    replace H := Option.bind_eq_some_iff.mp H
                                    obtain ⟨t166, A500, H⟩ := H
                                    replace H : (if x6_3.length < 17592186044416 then (imprimaturref02_Words_expand.l2 k3 (x6_3 ++ [t166]) x10_11 (wrap64 (x11_3 + 1)) a0_0 a0_1) else (none)) = some r := H
                                    have A50 := Aside0.mk A500
                                    clear A500
                                    by_cases c51 : x6_3.length < 17592186044416
                                    · rw [if_pos c51] at H
                                      have LMc51 := Aside0.mk c51
                                      clear c51
                                      obtain ⟨y167, hy167⟩ : ∃ y_ : List Int, y_ = (x6_3 ++ [t166]) := ⟨_, rfl⟩
                                      replace H : (imprimaturref02_Words_expand.l2 k3 y167 x10_11 (wrap64 (x11_3 + 1)) a0_0 a0_1) = some r := by first | (rw [hy167]; with_reducible exact H) | (have H2_ := (Option.bind_some _ _).symm.trans H; rw [hy167]; with_reducible exact H2_) | (have H2_ := (Option.bind_some _ _).symm.trans H; with_reducible exact H2_) | with_reducible exact H | (rw [hy167]; exact H) | exact H
                                      have Ny167 := Aside0.mk hy167
                                      clear hy167
                                      have H' := Aside0.mk H
                                      clear H
                                      try go_wp2
                                      have n0_ := Aside0.mk (Kd.R_drew HO_6.out)
                                      have n1_ := Aside0.mk (blk_drew BK147.out)
                                      have n2_ := Aside0.mk (below_drew1 HB.out)
                                      clear HO_6
                                      clear BK147
                                      clear HB
                                      have HO_6 := n0_
                                      have BK147 := n1_
                                      have HB := n2_
                                      clear n0_ n1_ n2_
                                      obtain ⟨Ao53, co53, eo53⟩ := Kd.R_slice HO_6.out
                                      (first | subst eo53 | (injection eo53 with f1_ f2_ f3_; have f4_ := f1_.symm; have f5_ := f3_.symm; clear f1_ f2_ f3_; subst f4_; subst f5_))
                                      have p152 : 0 ≤ ((ji16) : Int) := of_decide_eq_true (by first | (with_reducible assumption) | assumption)
                                      have q152 : (ji16) < (x6_3.length : Int) := of_decide_eq_true (by first | (with_reducible assumption) | assumption)
                                      obtain ⟨ad152, e152, hx152_0⟩ := Kd.at_int (Kd.R_reads' HO_6.out).2.2 (ji16) p152 q152
                                      cases e152
                                      replace p152 := eq_true p152
                                      replace q152 := eq_true q152
                                      have p153 : 0 ≤ ((ji19) : Int) := of_decide_eq_true (by first | (with_reducible assumption) | assumption)
                                      have q153 : (ji19) < (x6_3.length : Int) := of_decide_eq_true (by first | (with_reducible assumption) | assumption)
                                      obtain ⟨ad153, e153, hx153_0⟩ := Kd.at_int (Kd.R_reads' HO_6.out).2.2 (ji19) p153 q153
                                      obtain rfl : ad152 = ad153 := (by injection e153)
                                      replace p153 := eq_true p153
                                      replace q153 := eq_true q153
                                      refine start_ (n := 12) (S := fun w' => w'.cell? (ad152.add ((ji16)).toNat) = some (.int .u64 (rd x6_3 (ji16))) ∧ w'.cell? (ad152.add ((ji19)).toNat) = some (.int .u64 (rd x6_3 (ji19)))) (ds := []) (bz 12 0) (by kernel_rfl) rfl rfl ⟨hx152_0, hx153_0⟩ (fun hHeld => ?_); refine with_tabW imprimaturref02_Words_expand.tab18 imprimaturref02_Words_expand.bits18 (fun HT_ HW_ => ?_)
                                      generalize wr.drew = w52 at HO_6 BK147 HB hx152_0 hx153_0 hHeld ⊢
                                      refine xpz 0 (some 50) (bz 12 1) (any_of HT_.out (by kernel_rfl)) ?_
                                      refine xpz 1 (some 51) (bz 12 3) (any_of HT_.out (by kernel_rfl)) ?_
                                      refine xpz 2 (some 52) (bz 12 7) (any_of HT_.out (by kernel_rfl)) ?_
                                      refine xpz 3 (some 53) (bz 12 15) (any_of HT_.out (by kernel_rfl)) ?_
                                      refine xpz 5 (some 55) (bz 12 47) (any_of HT_.out (by kernel_rfl)) ?_
                                      refine xpz 6 (some 56) (bz 12 111) (any_of HT_.out (by kernel_rfl)) ?_
                                      refine xpz 7 (some 57) (bz 12 239) (any_of HT_.out (by kernel_rfl)) ?_
                                      refine xpz 8 (some 58) (bz 12 495) (any_of HT_.out (by kernel_rfl)) ?_
                                      refine xtz2 4 (some 54) (bz 12 511) (take_ofW HT_.out HW_.out (by kernel_rfl)) hHeld ?_
                                      refine xtz2 9 (some 59) (bz 12 1023) (take_ofW HT_.out HW_.out (by kernel_rfl)) hHeld ?_
                                      refine xpz 10 (some 60) (bz 12 2047) (any_of HT_.out (by kernel_rfl)) ?_
                                      refine xpz 11 (some 12) (bz 12 4095) (any_of HT_.out (by kernel_rfl)) ?_
                                      refine done_ (done_of HT_.out (by kernel_rfl)) ?_
                                      have hcz54_0 : w52.cell? ⟨gb147, 0, none⟩ = some (.int .u64 a0_0) := (blk_cell BK147.out 0).trans rfl
                                      have hcz54_1 : w52.cell? ⟨gb147, 1, none⟩ = some (.int .u64 a0_1) := (blk_cell BK147.out 1).trans rfl
                                      have hfz54_0 := blk_frozen BK147.out 0
                                      have hfz54_1 := blk_frozen BK147.out 1
                                      try go_wp2
                                      have n0_ := Aside0.mk (Kd.R_drew HO_6.out)
                                      have n1_ := Aside0.mk (blk_drew BK147.out)
                                      have n2_ := Aside0.mk (below_drew1 HB.out)
                                      clear HO_6
                                      clear BK147
                                      clear HB
                                      have HO_6 := n0_
                                      have BK147 := n1_
                                      have HB := n2_
                                      clear n0_ n1_ n2_
                                      have p162 : 0 ≤ ((ji42) : Int) := of_decide_eq_true (by first | (with_reducible assumption) | assumption)
                                      have q162 : (ji42) < (x6_3.length : Int) := of_decide_eq_true (by first | (with_reducible assumption) | assumption)
                                      obtain ⟨ad162, e162, hx162_0⟩ := Kd.at_int (Kd.R_reads' HO_6.out).2.2 (ji42) p162 q162
                                      obtain rfl : ad152 = ad162 := (by injection e162)
                                      replace p162 := eq_true p162
                                      replace q162 := eq_true q162
                                      have p164 : 0 ≤ ((ji46) : Int) := of_decide_eq_true (by first | (with_reducible assumption) | assumption)
                                      have q164 : (ji46) < (x6_3.length : Int) := of_decide_eq_true (by first | (with_reducible assumption) | assumption)
                                      obtain ⟨ad164, e164, hx164_0⟩ := Kd.at_int (Kd.R_reads' HO_6.out).2.2 (ji46) p164 q164
                                      obtain rfl : ad152 = ad164 := (by injection e164)
                                      replace p164 := eq_true p164
                                      replace q164 := eq_true q164
                                      refine start_ (n := 18) (S := fun w' => w'.cell? ⟨gb147, 0, none⟩ = some (.int .u64 a0_0) ∧ w'.cell? ⟨gb147, 1, none⟩ = some (.int .u64 a0_1) ∧ w'.cell? (ad152.add ((ji42)).toNat) = some (.int .u64 (rd x6_3 (ji42))) ∧ w'.cell? (ad152.add ((ji46)).toNat) = some (.int .u64 (rd x6_3 (ji46)))) (ds := []) (bz 18 0) (by kernel_rfl) rfl rfl ⟨(blk_cell BK147.out 0).trans rfl, (blk_cell BK147.out 1).trans rfl, hx162_0, hx164_0⟩ (fun hHeld => ?_); refine with_tabW imprimaturref02_Words_expand.tab20 imprimaturref02_Words_expand.bits20 (fun HT_ HW_ => ?_)
                                      generalize w52.drew = w55 at HO_6 BK147 HB hx162_0 hx164_0 hHeld ⊢
                                      refine xpz 0 (some 64) (bz 18 1) (any_of HT_.out (by kernel_rfl)) ?_
                                      refine xpz 2 (some 66) (bz 18 5) (any_of HT_.out (by kernel_rfl)) ?_
                                      refine xpz 3 (some 67) (bz 18 13) (any_of HT_.out (by kernel_rfl)) ?_
                                      refine xpz 4 (some 68) (bz 18 29) (any_of HT_.out (by kernel_rfl)) ?_
                                      refine xpz 5 (some 69) (bz 18 61) (any_of HT_.out (by kernel_rfl)) ?_
                                      refine xpz 10 (some 74) (bz 18 1085) (any_of HT_.out (by kernel_rfl)) ?_
                                      refine xpz 11 (some 75) (bz 18 3133) (any_of HT_.out (by kernel_rfl)) ?_
                                      refine xpz 12 (some 76) (bz 18 7229) (any_of HT_.out (by kernel_rfl)) ?_
                                      refine xpz 13 (some 77) (bz 18 15421) (any_of HT_.out (by kernel_rfl)) ?_
                                      refine xtz4 1 (some 65) (bz 18 15423) (take_ofW HT_.out HW_.out (by kernel_rfl)) hHeld ?_
                                      refine xtz4 6 (some 70) (bz 18 15487) (take_ofW HT_.out HW_.out (by kernel_rfl)) hHeld ?_
                                      refine xtz4 9 (some 73) (bz 18 15999) (take_ofW HT_.out HW_.out (by kernel_rfl)) hHeld ?_
                                      refine xtz4 14 (some 78) (bz 18 32383) (take_ofW HT_.out HW_.out (by kernel_rfl)) hHeld ?_
                                      refine one_ (i := 7) (N := some 71) (bz 18 32511) rfl rfl (one_of HT_.out (by kernel_rfl)) (by decide) (fun K hK => ?_)
                                      refine goes_ Tryz.func97 (by kernel_rfl) rfl #[.agg #[.int .u64 a0_0, .int .u64 a0_1], .int .u64 (rd x6_3 (ji42)), .int .u64 7, .int .u64 18, .int .u64 3] (by rfl) rfl rfl (by (try simp only [List.map_toArray, List.map_cons, List.map_nil]); first | done | (simp only [hji42]; rfl) | rfl | (simp only [List.length_drop, List.length_take]; rfl)) ?_
                                      with_reducible refine (imprimaturref02_Words_small.calls a0_0 a0_1 (rd x6_3 (ji42)) 7 18 3 t163 _ A45.out).mono ?_
                                      rintro e w56 ⟨rfl, hb⟩
                                      have HS2_ := (hb.cell (World.block_lt_of_cell? _ _ (hHeld.2.2.1))).trans (hHeld.2.2.1)
                                      have HS3_ := (hb.cell (World.block_lt_of_cell? _ _ (hHeld.2.2.2))).trans (hHeld.2.2.2)
                                      refine ⟨_, rfl, ?_⟩
                                      have n0_ := Aside0.mk (Kd.R_below (by (with_reducible repeat (first | apply Kd.R_alloc | apply Kd.R_drewN | apply Kd.R_drew)); exact HO_6.out) hb)
                                      have n1_ := Aside0.mk (blk_below (g := gb147) (o := .cells #[.int .u64 a0_0, .int .u64 a0_1] 125 (0, 0)) (by (with_reducible repeat (first | refine blk_drewN ?_ _ | refine blk_drew ?_ | refine blk_alloc ?_ _)); exact BK147.out) hb)
                                      have n2_ := Aside0.mk (below_step (by repeat (first | (with_reducible first | exact HB.out | apply below_alloc | apply pw_below_drewN | apply below_drew1 | refine below_set ?_ GE147.out) | exact HB.out)) hb)
                                      clear HO_6
                                      clear BK147
                                      clear HB
                                      have HO_6 := n0_
                                      have BK147 := n1_
                                      have HB := n2_
                                      clear n0_ n1_ n2_
                                      (try clear hb)
                                      (try clear hb2)
                                      (try clear hk)
                                      (try clear hi)
                                      refine hK.out _ _ ⟨(blk_cell BK147.out 0).trans rfl, (blk_cell BK147.out 1).trans rfl, HS2_, HS3_⟩ (fun hHeld => ?_)
                                      clear hK K
                                      refine norm_ (a' := ?_) ?_ ?_
                                      rotate_left
                                      · show Act.put _ (some 71) _ = _
                                        simp only [Act.put, List.setIfInBounds_toArray, List.set_cons_zero, List.set_cons_succ, i64_w, i32_w]
                                        rfl
                                      refine xpz 8 (some 72) (bz 18 32767) (any_of HT_.out (by kernel_rfl)) ?_
                                      refine one_ (i := 15) (N := some 79) (bz 18 65535) rfl rfl (one_of HT_.out (by kernel_rfl)) (by decide) (fun K hK => ?_)
                                      refine goes_ Tryz.func97 (by kernel_rfl) rfl #[.agg #[.int .u64 a0_0, .int .u64 a0_1], .int .u64 (rd x6_3 (ji46)), .int .u64 17, .int .u64 19, .int .u64 10] (by rfl) rfl rfl (by (try simp only [List.map_toArray, List.map_cons, List.map_nil]); first | done | (simp only [hji46]; rfl) | rfl | (simp only [List.length_drop, List.length_take]; rfl)) ?_
                                      with_reducible refine (imprimaturref02_Words_small.calls a0_0 a0_1 (rd x6_3 (ji46)) 17 19 10 t165 _ A49.out).mono ?_
                                      rintro e w57 ⟨rfl, hb⟩
                                      have HS2_ := (hb.cell (World.block_lt_of_cell? _ _ (hHeld.2.2.1))).trans (hHeld.2.2.1)
                                      have HS3_ := (hb.cell (World.block_lt_of_cell? _ _ (hHeld.2.2.2))).trans (hHeld.2.2.2)
                                      refine ⟨_, rfl, ?_⟩
                                      have n0_ := Aside0.mk (Kd.R_below (by (with_reducible repeat (first | apply Kd.R_alloc | apply Kd.R_drewN | apply Kd.R_drew)); exact HO_6.out) hb)
                                      have n1_ := Aside0.mk (blk_below (g := gb147) (o := .cells #[.int .u64 a0_0, .int .u64 a0_1] 125 (0, 0)) (by (with_reducible repeat (first | refine blk_drewN ?_ _ | refine blk_drew ?_ | refine blk_alloc ?_ _)); exact BK147.out) hb)
                                      have n2_ := Aside0.mk (below_step (by repeat (first | (with_reducible first | exact HB.out | apply below_alloc | apply pw_below_drewN | apply below_drew1 | refine below_set ?_ GE147.out) | exact HB.out)) hb)
                                      clear HO_6
                                      clear BK147
                                      clear HB
                                      have HO_6 := n0_
                                      have BK147 := n1_
                                      have HB := n2_
                                      clear n0_ n1_ n2_
                                      (try clear hb)
                                      (try clear hb2)
                                      (try clear hk)
                                      (try clear hi)
                                      refine hK.out _ _ ⟨(blk_cell BK147.out 0).trans rfl, (blk_cell BK147.out 1).trans rfl, HS2_, HS3_⟩ (fun hHeld => ?_)
                                      clear hK K
                                      refine norm_ (a' := ?_) ?_ ?_
                                      rotate_left
                                      · show Act.put _ (some 79) _ = _
                                        simp only [Act.put, List.setIfInBounds_toArray, List.set_cons_zero, List.set_cons_succ, i64_w, i32_w]
                                        rfl
                                      refine xpz 16 (some 80) (bz 18 131071) (any_of HT_.out (by kernel_rfl)) ?_
                                      refine xpz 17 (some 12) (bz 18 262143) (any_of HT_.out (by kernel_rfl)) ?_
                                      refine done_ (done_of HT_.out (by kernel_rfl)) ?_
                                      have hcz58_0 : w57.cell? ⟨gb147, 0, none⟩ = some (.int .u64 a0_0) := (blk_cell BK147.out 0).trans rfl
                                      have hcz58_1 : w57.cell? ⟨gb147, 1, none⟩ = some (.int .u64 a0_1) := (blk_cell BK147.out 1).trans rfl
                                      have hfz58_0 := blk_frozen BK147.out 0
                                      have hfz58_1 := blk_frozen BK147.out 1
                                      try go_wp2_with (first | ((with_reducible refine gate_callee (f := 89) rfl ?_); refine goesL_ (some 101) rfl rfl Tryz.func89 (by kernel_rfl) rfl #[.agg #[.int .u64 a0_0, .int .u64 a0_1], .int .u64 (IntKind.u64.wrap ((IntKind.u64.wrap ((IntKind.u64.wrap ((rd x6_3 (ji16)) + (rd x6_3 (ji19)))) + t163)) + t165))] rfl (by (try simp only [List.map_toArray, List.map_cons, List.map_nil]); first | done | (simp only [hji16, hji19]; rfl) | rfl | (simp only [List.length_drop, List.length_take]; rfl)) ?_; (with_reducible refine (imprimaturref02_Words_cut.calls a0_0 a0_1 (IntKind.u64.wrap ((IntKind.u64.wrap ((IntKind.u64.wrap ((rd x6_3 (ji16)) + (rd x6_3 (ji19)))) + t163)) + t165)) t166 _ A50.out).mono ?_); rintro e w59 ⟨rfl, hb⟩; refine ⟨_, rfl, ?_⟩; have n0_ := Aside0.mk (Kd.R_below (by (with_reducible repeat (first | apply Kd.R_alloc | apply Kd.R_drewN | apply Kd.R_drew)); exact HO_6.out) hb); have n1_ := Aside0.mk (blk_below (g := gb147) (o := .cells #[.int .u64 a0_0, .int .u64 a0_1] 125 (0, 0)) (by (with_reducible repeat (first | refine blk_drewN ?_ _ | refine blk_drew ?_ | refine blk_alloc ?_ _)); exact BK147.out) hb); have n2_ := Aside0.mk (below_step (by repeat (first | (with_reducible first | exact HB.out | apply below_alloc | apply pw_below_drewN | apply below_drew1 | refine below_set ?_ GE147.out) | exact HB.out)) hb); clear HO_6; clear BK147; clear HB; have HO_6 := n0_; have BK147 := n1_; have HB := n2_; clear n0_ n1_ n2_; (try clear hb); (try clear hb2); (try clear hk); (try clear hi)) | ((with_reducible refine gate_builtin (b := .append) (xs := #[.tmp 98, .tmp 102]) rfl ?_); at_builtin; refine Kd.R_append (Kd.int .u64) (w0 := w) w.heap.size rfl (.tmp 98) (.tmp 102) 126 45 (.int .u64 0) 8 rfl Tryz.underlying126 info45 rfl (by decide) (by omega) (.slice (some ad152) x6_3.length co53) x6_3 t166 [.int .u64 t166] (fun _ => True) (fun _ => False) rfl rfl ?aP (fun _ hk => hk.elim) ?aF ?aO ?aB ?aS ?aL ?_; (case aP => exact rfl); (case aB => exact (by repeat (first | (with_reducible first | exact HB.out | apply below_alloc | apply pw_below_drewN | apply below_drew1 | refine below_set ?_ GE147.out) | exact HB.out))); (case aF => exact (fun _ _ => trivial)); (case aO => exact (by (with_reducible repeat (first | apply Kd.R_alloc | apply Kd.R_drewN | apply Kd.R_drew)); exact HO_6.out)); (case aS => exact (below_size (by repeat (first | (with_reducible first | exact HB.out | apply below_alloc | apply pw_below_drewN | apply below_drew1 | refine below_set ?_ GE147.out) | exact HB.out)))); (case aL => have := LMc51.out; omega); intro v168 w60 ho hb hg hat; rw [← Ny167.out] at ho; have n0_ := Aside0.mk (blk_grown (g := gb147) (o := .cells #[.int .u64 a0_0, .int .u64 a0_1] 125 (0, 0)) (by (with_reducible repeat (first | refine blk_drewN ?_ _ | refine blk_drew ?_ | refine blk_alloc ?_ _)); exact BK147.out) hg (Kd.R_ne HO_6.out BK147.out (by decide))); have n1_ := Aside0.mk (hb); have n2_ := Aside0.mk (ho); clear BK147; clear HB; clear HO_6; have BK147 := n0_; have HB := n1_; have HO169 := n2_; clear n0_ n1_ n2_; clear ho hb hg hat))
                                      go_roundg k3
                                      case measure => have := HK1.out; have := HJ11.out; have := HK3.out; omega
                                      case rel => exact ⟨(y167), (wrap64 (x11_3 + 1)), (by first | rfl | (simp; done) | (simp [*]; done)), H', ⟨by have := HK1.out; have := HJ11.out; have := HK3.out; omega⟩, ⟨by (with_reducible repeat (first | apply Kd.R_alloc | apply Kd.R_drewN | apply Kd.R_drew)); exact HO169.out⟩, ⟨by (with_reducible repeat (first | refine blk_drewN ?_ _ | refine blk_drew ?_ | refine blk_alloc ?_ _)); exact BK147.out⟩, ⟨by repeat (first | (with_reducible first | exact HB.out | apply below_alloc | apply pw_below_drewN | apply below_drew1 | refine below_set ?_ GE147.out) | exact HB.out)⟩⟩
                                    · rw [if_neg c51] at H
                                      exact absurd H (by simp)
                                  · rw [if_neg c48] at H
                                    exact absurd H (by simp)
                                · rw [if_neg c47] at H
                                  exact absurd H (by simp)
                              · rw [if_neg c44] at H
                                exact absurd H (by simp)
                            · rw [if_neg c43] at H
                              exact absurd H (by simp)
                        · rw [if_neg c21] at H
                          exact absurd H (by simp)
                      · rw [if_neg c20] at H
                        exact absurd H (by simp)
                    · rw [if_neg c18] at H
                      exact absurd H (by simp)
                  · rw [if_neg c17] at H
                    exact absurd H (by simp)
                · rw [if_neg c15] at H
                  have c15b0 : decide (x11_3 < x10_11) = false := decide_eq_false c15
                  clear c15
                  obtain rfl := Option.some.inj H
                  go_wp2
                  go_ret
                  exact ⟨_, by first | rfl | (simp [errW_none, errW_some] <;> rfl) | (simp [*, errW_none, errW_some] <;> rfl), by (with_reducible repeat (first | apply Kd.R_alloc | apply Kd.R_drewN | apply Kd.R_drew)); exact HO_6.out, by repeat (first | (with_reducible first | exact HB.out | apply below_alloc | apply pw_below_drewN | apply below_drew1 | refine below_set ?_ GE147.out) | exact HB.out)⟩

end Go.Proofs.YtmblnflfklmmkaaGreatDoor.P
/- Functions of the program and of its laws, each with a Lean function and the proof that a call comes to what that function tells, under the conditions that its contract names. (Laid by a program of this session, out of the translation; Lean checks it.) -/
namespace Go.Proofs.YtmblnflfklmmkaaGreatDoor.P
open Go.RowKit Go.Proofs.YtmblnflfklmmkaaGreatDoorW.PrintWords Go.Proofs.YtmblnflfklmmkaaGreatDoorW.PrintLast Go.Proofs.YtmblnflfklmmkaaGreatDoorW.PrintMore
attribute [local go_sem] max2_int min2_int max_two min_two max_three min_three max_four min_four   -- for this text's walks alone
set_option linter.unusedVariables false
set_option linter.unusedSimpArgs false

/-! ### imprimaturref02_Words_big: function 98 -/
def imprimaturref02_Words_big.f (a0_0 : Int) (a0_1 : Int) (a1 : Int) (a2 : Int) (a3 : Int) (a4 : Int) : Option (Int) := (imprimaturref02_Words_turn.f a0_0 a0_1 a1 a2).bind fun t171 => ((imprimaturref02_Words_turn.f a0_0 a0_1 a1 a3).bind fun t172 => ((imprimaturref02_Words_turn.f a0_0 a0_1 a1 a4).bind fun t173 => (some (Go.bits .xor .u64 (Go.bits .xor .u64 t171 t172) t173))))
def imprimaturref02_Words_big.T1 : Bool × List (List Nat × List Nat) := (true, [([], []), ([], []), ([], []), ([0, 1, 2], [0, 1, 2]), ([], []), ([], []), ([], []), ([4, 5, 6, 3], [4, 5, 6]), ([3, 7], [3, 7]), ([], []), ([], []), ([], []), ([9, 10, 11, 7], [9, 10, 11]), ([8, 12], [8, 12]), ([13, 12, 0, 1, 2, 3, 4, 5, 6, 7, 8, 9, 10, 11, 12, 13], [13])])
def imprimaturref02_Words_big.B1 : List Nat := [0, 0, 0, 7, 0, 0, 0, 127, 255, 0, 0, 0, 3839, 8191, 16383]
theorem imprimaturref02_Words_big.tab1 : rtab .any (opsOf Tryz.f98 1) = imprimaturref02_Words_big.T1 := by kernel_rfl
theorem imprimaturref02_Words_big.bits1 : waitsOk imprimaturref02_Words_big.T1.2 imprimaturref02_Words_big.B1 = true := by kernel_rfl
set_option maxHeartbeats 8000000 in
set_option maxRecDepth 100000 in
theorem imprimaturref02_Words_big.calls (a0_0 : Int) (a0_1 : Int) (a1 : Int) (a2 : Int) (a3 : Int) (a4 : Int) (r : Int) (w : World) (h : imprimaturref02_Words_big.f a0_0 a0_1 a1 a2 a3 a4 = some r) :
    Calls Tryz.prog 98 #[.agg #[.int .u64 a0_0, .int .u64 a0_1], .int .u64 a1, .int .u64 a2, .int .u64 a3, .int .u64 a4] w fun e w' => e = .returned (.int .u64 r) ∧ Below w.heap.size w w' := by
  have hu125 := Tryz.underlying125
  have HB := Aside0.mk (Below.refl w.heap.size w)
  have H : ((imprimaturref02_Words_turn.f a0_0 a0_1 a1 a2).bind fun t171 => ((imprimaturref02_Words_turn.f a0_0 a0_1 a1 a3).bind fun t172 => ((imprimaturref02_Words_turn.f a0_0 a0_1 a1 a4).bind fun t173 => (some (Go.bits .xor .u64 (Go.bits .xor .u64 t171 t172) t173))))) = some r := h
  clear h
  replace H := Option.bind_eq_some_iff.mp H
  obtain ⟨t171, A60, H⟩ := H
  replace H : ((imprimaturref02_Words_turn.f a0_0 a0_1 a1 a3).bind fun t172 => ((imprimaturref02_Words_turn.f a0_0 a0_1 a1 a4).bind fun t173 => (some (Go.bits .xor .u64 (Go.bits .xor .u64 t171 t172) t173)))) = some r := H
  have A6 := Aside0.mk A60
  clear A60
  replace H := Option.bind_eq_some_iff.mp H
  obtain ⟨t172, A70, H⟩ := H
  replace H : ((imprimaturref02_Words_turn.f a0_0 a0_1 a1 a4).bind fun t173 => (some (Go.bits .xor .u64 (Go.bits .xor .u64 t171 t172) t173))) = some r := H
  have A7 := Aside0.mk A70
  clear A70
  replace H := Option.bind_eq_some_iff.mp H
  obtain ⟨t173, A80, H⟩ := H
  replace H : (some (Go.bits .xor .u64 (Go.bits .xor .u64 t171 t172) t173)) = some r := H
  have A8 := Aside0.mk A80
  clear A80
  obtain rfl := Option.some.inj H
  go_enter Tryz.func98, Tryz.ntmps98
  try go_wp2_with (first | ((with_reducible refine gate_dst (N := 5) rfl ?_); refine box_event ?hg (N := 5) ?hd (cs := #[.int .u64 a0_0, .int .u64 a0_1]) (t := 125) ?hr ?_; (case hd => rfl); (case hg => rfl); (case hr => first | (go_simp; done) | (go_simp; rfl)); intro gb170 hg w9 hbox hb; have n0_ := Aside0.mk (below_step (by repeat (first | (with_reducible first | exact HB.out | apply below_alloc | apply pw_below_drewN | apply below_drew1) | exact HB.out)) hb); have n1_ := Aside0.mk (hbox); have n2_ := Aside0.mk ((by rw [hg]; exact (below_size (by repeat (first | (with_reducible first | exact HB.out | apply below_alloc | apply pw_below_drewN | apply below_drew1) | exact HB.out))) : w.heap.size ≤ gb170)); have n3_ := Aside0.mk ((by rw [hg]; exact (below_size (by repeat (first | (with_reducible first | exact HB.out | apply below_alloc | apply pw_below_drewN | apply below_drew1) | exact HB.out))) : w.heap.size ≤ gb170)); clear HB; have HB := n0_; have BK170 := n1_; have GW170 := n2_; have GE170 := n3_; clear n0_ n1_ n2_ n3_; clear hb hbox hg))
  have n0_ := Aside0.mk (blk_drew BK170.out)
  have n1_ := Aside0.mk (below_drew1 HB.out)
  clear BK170
  clear HB
  have BK170 := n0_
  have HB := n1_
  clear n0_ n1_
  refine start_ (n := 15) (S := fun w' => w'.cell? ⟨gb170, 0, none⟩ = some (.int .u64 a0_0) ∧ w'.cell? ⟨gb170, 1, none⟩ = some (.int .u64 a0_1)) (ds := []) (bz 15 0) (by kernel_rfl) rfl rfl ⟨(blk_cell BK170.out 0).trans rfl, (blk_cell BK170.out 1).trans rfl⟩ (fun hHeld => ?_); refine with_tabW imprimaturref02_Words_big.tab1 imprimaturref02_Words_big.bits1 (fun HT_ HW_ => ?_)
  generalize w9.drew = w10 at BK170 HB hHeld ⊢
  refine xpz 1 (some 12) (bz 15 2) (any_of HT_.out (by kernel_rfl)) ?_
  refine xpz 2 (some 13) (bz 15 6) (any_of HT_.out (by kernel_rfl)) ?_
  refine xpz 5 (some 16) (bz 15 38) (any_of HT_.out (by kernel_rfl)) ?_
  refine xpz 6 (some 17) (bz 15 102) (any_of HT_.out (by kernel_rfl)) ?_
  refine xpz 10 (some 21) (bz 15 1126) (any_of HT_.out (by kernel_rfl)) ?_
  refine xpz 11 (some 22) (bz 15 3174) (any_of HT_.out (by kernel_rfl)) ?_
  refine xtz2 0 (some 11) (bz 15 3175) (take_ofW HT_.out HW_.out (by kernel_rfl)) hHeld ?_
  refine xtz2 4 (some 15) (bz 15 3191) (take_ofW HT_.out HW_.out (by kernel_rfl)) hHeld ?_
  refine xtz2 9 (some 20) (bz 15 3703) (take_ofW HT_.out HW_.out (by kernel_rfl)) hHeld ?_
  refine one_ (i := 3) (N := some 14) (bz 15 3711) rfl rfl (one_of HT_.out (by kernel_rfl)) (by decide) (fun K hK => ?_)
  refine goes_ Tryz.func103 (by kernel_rfl) rfl #[.agg #[.int .u64 a0_0, .int .u64 a0_1], .int .u64 a1, .int .u64 a2] (by rfl) rfl rfl (by (try simp only [List.map_toArray, List.map_cons, List.map_nil]); first | done | rfl | (simp only [List.length_drop, List.length_take]; rfl)) ?_
  with_reducible refine (imprimaturref02_Words_turn.calls a0_0 a0_1 a1 a2 t171 _ A6.out).mono ?_
  rintro e w11 ⟨rfl, hb⟩
  refine ⟨_, rfl, ?_⟩
  have n0_ := Aside0.mk (blk_below (g := gb170) (o := .cells #[.int .u64 a0_0, .int .u64 a0_1] 125 (0, 0)) (by (with_reducible repeat (first | refine blk_drewN ?_ _ | refine blk_drew ?_ | refine blk_alloc ?_ _)); exact BK170.out) hb)
  have n1_ := Aside0.mk (below_step (by repeat (first | (with_reducible first | exact HB.out | apply below_alloc | apply pw_below_drewN | apply below_drew1 | refine below_set ?_ GE170.out) | exact HB.out)) hb)
  clear BK170
  clear HB
  have BK170 := n0_
  have HB := n1_
  clear n0_ n1_
  (try clear hb)
  (try clear hb2)
  (try clear hk)
  (try clear hi)
  refine hK.out _ _ ⟨(blk_cell BK170.out 0).trans rfl, (blk_cell BK170.out 1).trans rfl⟩ (fun hHeld => ?_)
  clear hK K
  refine norm_ (a' := ?_) ?_ ?_
  rotate_left
  · show Act.put _ (some 14) _ = _
    simp only [Act.put, List.setIfInBounds_toArray, List.set_cons_zero, List.set_cons_succ, i64_w, i32_w]
    rfl
  refine one_ (i := 7) (N := some 18) (bz 15 3839) rfl rfl (one_of HT_.out (by kernel_rfl)) (by decide) (fun K hK => ?_)
  refine goes_ Tryz.func103 (by kernel_rfl) rfl #[.agg #[.int .u64 a0_0, .int .u64 a0_1], .int .u64 a1, .int .u64 a3] (by rfl) rfl rfl (by (try simp only [List.map_toArray, List.map_cons, List.map_nil]); first | done | rfl | (simp only [List.length_drop, List.length_take]; rfl)) ?_
  with_reducible refine (imprimaturref02_Words_turn.calls a0_0 a0_1 a1 a3 t172 _ A7.out).mono ?_
  rintro e w12 ⟨rfl, hb⟩
  refine ⟨_, rfl, ?_⟩
  have n0_ := Aside0.mk (blk_below (g := gb170) (o := .cells #[.int .u64 a0_0, .int .u64 a0_1] 125 (0, 0)) (by (with_reducible repeat (first | refine blk_drewN ?_ _ | refine blk_drew ?_ | refine blk_alloc ?_ _)); exact BK170.out) hb)
  have n1_ := Aside0.mk (below_step (by repeat (first | (with_reducible first | exact HB.out | apply below_alloc | apply pw_below_drewN | apply below_drew1 | refine below_set ?_ GE170.out) | exact HB.out)) hb)
  clear BK170
  clear HB
  have BK170 := n0_
  have HB := n1_
  clear n0_ n1_
  (try clear hb)
  (try clear hb2)
  (try clear hk)
  (try clear hi)
  refine hK.out _ _ ⟨(blk_cell BK170.out 0).trans rfl, (blk_cell BK170.out 1).trans rfl⟩ (fun hHeld => ?_)
  clear hK K
  refine norm_ (a' := ?_) ?_ ?_
  rotate_left
  · show Act.put _ (some 18) _ = _
    simp only [Act.put, List.setIfInBounds_toArray, List.set_cons_zero, List.set_cons_succ, i64_w, i32_w]
    rfl
  refine xpz 8 (some 19) (bz 15 4095) (any_of HT_.out (by kernel_rfl)) ?_
  refine one_ (i := 12) (N := some 23) (bz 15 8191) rfl rfl (one_of HT_.out (by kernel_rfl)) (by decide) (fun K hK => ?_)
  refine goes_ Tryz.func103 (by kernel_rfl) rfl #[.agg #[.int .u64 a0_0, .int .u64 a0_1], .int .u64 a1, .int .u64 a4] (by rfl) rfl rfl (by (try simp only [List.map_toArray, List.map_cons, List.map_nil]); first | done | rfl | (simp only [List.length_drop, List.length_take]; rfl)) ?_
  with_reducible refine (imprimaturref02_Words_turn.calls a0_0 a0_1 a1 a4 t173 _ A8.out).mono ?_
  rintro e w13 ⟨rfl, hb⟩
  refine ⟨_, rfl, ?_⟩
  have n0_ := Aside0.mk (blk_below (g := gb170) (o := .cells #[.int .u64 a0_0, .int .u64 a0_1] 125 (0, 0)) (by (with_reducible repeat (first | refine blk_drewN ?_ _ | refine blk_drew ?_ | refine blk_alloc ?_ _)); exact BK170.out) hb)
  have n1_ := Aside0.mk (below_step (by repeat (first | (with_reducible first | exact HB.out | apply below_alloc | apply pw_below_drewN | apply below_drew1 | refine below_set ?_ GE170.out) | exact HB.out)) hb)
  clear BK170
  clear HB
  have BK170 := n0_
  have HB := n1_
  clear n0_ n1_
  (try clear hb)
  (try clear hb2)
  (try clear hk)
  (try clear hi)
  refine hK.out _ _ ⟨(blk_cell BK170.out 0).trans rfl, (blk_cell BK170.out 1).trans rfl⟩ (fun hHeld => ?_)
  clear hK K
  refine norm_ (a' := ?_) ?_ ?_
  rotate_left
  · show Act.put _ (some 23) _ = _
    simp only [Act.put, List.setIfInBounds_toArray, List.set_cons_zero, List.set_cons_succ, i64_w, i32_w]
    rfl
  refine xpz 13 (some 24) (bz 15 16383) (any_of HT_.out (by kernel_rfl)) ?_
  refine xpz 14 (some 10) (bz 15 32767) (any_of HT_.out (by kernel_rfl)) ?_
  refine done_ (done_of HT_.out (by kernel_rfl)) ?_
  try go_wp2
  go_ret
  exact ⟨by first | rfl | (simp [errW_none, errW_some] <;> rfl) | (simp [*, errW_none, errW_some] <;> rfl), by repeat (first | (with_reducible first | exact HB.out | apply below_alloc | apply pw_below_drewN | apply below_drew1 | refine below_set ?_ GE170.out) | exact HB.out)⟩

end Go.Proofs.YtmblnflfklmmkaaGreatDoor.P
/- Functions of the program and of its laws, each with a Lean function and the proof that a call comes to what that function tells, under the conditions that its contract names. (Laid by a program of this session, out of the translation; Lean checks it.) -/
namespace Go.Proofs.YtmblnflfklmmkaaGreatDoor.P
open Go.RowKit Go.Proofs.YtmblnflfklmmkaaGreatDoorW.PrintWords Go.Proofs.YtmblnflfklmmkaaGreatDoorW.PrintLast Go.Proofs.YtmblnflfklmmkaaGreatDoorW.PrintMore
attribute [local go_sem] max2_int min2_int max_two min_two max_three min_three max_four min_four   -- for this text's walks alone
set_option linter.unusedVariables false
set_option linter.unusedSimpArgs false

/-! ### imprimaturref02_Words_round: function 88 -/
def imprimaturref02_Words_round.f (a0_0 : Int) (a0_1 : Int) (l1 : List Int) (a2 : Int) (a3 : Int) : Option (List Int) := if 0 < (l1.length : Int) then (if 1 < (l1.length : Int) then (if 2 < (l1.length : Int) then (if 4 < (l1.length : Int) then (if 5 < (l1.length : Int) then (if 6 < (l1.length : Int) then (if a0_0 = 0 then ((imprimaturref02_Words_big.f a0_0 a0_1 (rd l1 4) 14 18 41).bind fun t181 => ((imprimaturref02_Words_big.f a0_0 a0_1 (rd l1 0) 28 34 39).bind fun t182 => ((imprimaturref02_Words_cut.f a0_0 a0_1 (Go.bits .xor .u64 (if IntKind.u64.signed = true then -1 else IntKind.u64.max) (rd l1 4))).bind fun t183 => (if 7 < (l1.length : Int) then ((imprimaturref02_Words_cut.f a0_0 a0_1 (IntKind.u64.wrap ((IntKind.u64.wrap ((IntKind.u64.wrap ((IntKind.u64.wrap ((IntKind.u64.wrap ((IntKind.u64.wrap ((rd l1 7) + t181)) + (Go.bits .or .u64 (Go.bits .and .u64 (rd l1 4) (rd l1 5)) (Go.bits .and .u64 t183 (rd l1 6))))) + a2)) + a3)) + t182)) + (Go.bits .or .u64 (Go.bits .or .u64 (Go.bits .and .u64 (rd l1 0) (rd l1 1)) (Go.bits .and .u64 (rd l1 0) (rd l1 2))) (Go.bits .and .u64 (rd l1 1) (rd l1 2)))))).bind fun t185 => (if 3 < (l1.length : Int) then ((imprimaturref02_Words_cut.f a0_0 a0_1 (IntKind.u64.wrap ((rd l1 3) + (IntKind.u64.wrap ((IntKind.u64.wrap ((IntKind.u64.wrap ((IntKind.u64.wrap ((rd l1 7) + t181)) + (Go.bits .or .u64 (Go.bits .and .u64 (rd l1 4) (rd l1 5)) (Go.bits .and .u64 t183 (rd l1 6))))) + a2)) + a3))))).bind fun t187 => (some (([t185, rd l1 0, rd l1 1, rd l1 2, t187, rd l1 4, rd l1 5, rd l1 6] : List Int)))) else (none))) else (none))))) else ((imprimaturref02_Words_big.f a0_0 a0_1 (rd l1 4) 6 11 25).bind fun t191 => ((imprimaturref02_Words_big.f a0_0 a0_1 (rd l1 0) 2 13 22).bind fun t192 => ((imprimaturref02_Words_cut.f a0_0 a0_1 (Go.bits .xor .u64 (if IntKind.u64.signed = true then -1 else IntKind.u64.max) (rd l1 4))).bind fun t193 => (if 7 < (l1.length : Int) then ((imprimaturref02_Words_cut.f a0_0 a0_1 (IntKind.u64.wrap ((IntKind.u64.wrap ((IntKind.u64.wrap ((IntKind.u64.wrap ((IntKind.u64.wrap ((IntKind.u64.wrap ((rd l1 7) + t191)) + (Go.bits .or .u64 (Go.bits .and .u64 (rd l1 4) (rd l1 5)) (Go.bits .and .u64 t193 (rd l1 6))))) + (IntKind.u64.wrap (Int.tdiv a2 4294967296)))) + a3)) + t192)) + (Go.bits .or .u64 (Go.bits .or .u64 (Go.bits .and .u64 (rd l1 0) (rd l1 1)) (Go.bits .and .u64 (rd l1 0) (rd l1 2))) (Go.bits .and .u64 (rd l1 1) (rd l1 2)))))).bind fun t195 => (if 3 < (l1.length : Int) then ((imprimaturref02_Words_cut.f a0_0 a0_1 (IntKind.u64.wrap ((rd l1 3) + (IntKind.u64.wrap ((IntKind.u64.wrap ((IntKind.u64.wrap ((IntKind.u64.wrap ((rd l1 7) + t191)) + (Go.bits .or .u64 (Go.bits .and .u64 (rd l1 4) (rd l1 5)) (Go.bits .and .u64 t193 (rd l1 6))))) + (IntKind.u64.wrap (Int.tdiv a2 4294967296)))) + a3))))).bind fun t197 => (some (([t195, rd l1 0, rd l1 1, rd l1 2, t197, rd l1 4, rd l1 5, rd l1 6] : List Int)))) else (none))) else (none)))))) else (none)) else (none)) else (none)) else (none)) else (none)) else (none)
def imprimaturref02_Words_round.T1 : Bool × List (List Nat × List Nat) := (true, [([], []), ([0], [0]), ([1], [1]), ([], []), ([3], [3]), ([4], [4]), ([], []), ([6], [6]), ([7], [7]), ([], []), ([9], [9]), ([10], [10]), ([], []), ([12], [12]), ([13], [13]), ([], []), ([15], [15]), ([16], [16]), ([2, 0, 1, 2], [2]), ([5, 18, 0, 1, 2, 3, 4, 5, 18], [5]), ([8, 19, 0, 1, 2, 3, 4, 5, 6, 7, 8, 18, 19], [8]), ([11, 20, 0, 1, 2, 3, 4, 5, 6, 7, 8, 9, 10, 11, 18, 19, 20], [11]), ([14, 21, 0, 1, 2, 3, 4, 5, 6, 7, 8, 9, 10, 11, 12, 13, 14, 18, 19, 20, 21], [14]), ([17, 22, 0, 1, 2, 3, 4, 5, 6, 7, 8, 9, 10, 11, 12, 13, 14, 15, 16, 17, 18, 19, 20, 21, 22], [17])])
def imprimaturref02_Words_round.B1 : List Nat := [0, 1, 3, 0, 8, 24, 0, 64, 192, 0, 512, 1536, 0, 4096, 12288, 0, 32768, 98304, 7, 262207, 786943, 1839103, 3964927, 8388607]
theorem imprimaturref02_Words_round.tab1 : rtab .any (opsOf Tryz.f88 1) = imprimaturref02_Words_round.T1 := by kernel_rfl
theorem imprimaturref02_Words_round.bits1 : waitsOk imprimaturref02_Words_round.T1.2 imprimaturref02_Words_round.B1 = true := by kernel_rfl
def imprimaturref02_Words_round.T12 : Bool × List (List Nat × List Nat) := (true, [([], []), ([], []), ([], []), ([1, 2], [1, 2]), ([], []), ([3, 4], [3, 4]), ([0, 5], [0, 5]), ([], []), ([], []), ([], []), ([], []), ([], []), ([11], [11]), ([12], [12]), ([], []), ([13, 14], [13, 14]), ([10, 15, 6], [10, 15]), ([], []), ([], []), ([], []), ([6, 7, 8, 9, 16, 17, 18, 19], [6, 7, 8, 9, 16, 17, 18, 19]), ([20, 16, 0, 1, 2, 3, 4, 5, 6, 7, 8, 9, 10, 11, 12, 13, 14, 15, 16, 17, 18, 19, 20], [20])])
def imprimaturref02_Words_round.B12 : List Nat := [0, 0, 0, 6, 0, 30, 63, 0, 0, 0, 0, 0, 2048, 6144, 0, 30720, 64639, 0, 0, 0, 1048575, 2097151]
theorem imprimaturref02_Words_round.tab12 : rtab .any (opsOf Tryz.f88 12) = imprimaturref02_Words_round.T12 := by kernel_rfl
theorem imprimaturref02_Words_round.bits12 : waitsOk imprimaturref02_Words_round.T12.2 imprimaturref02_Words_round.B12 = true := by kernel_rfl
set_option maxHeartbeats 8000000 in
set_option maxRecDepth 100000 in
theorem imprimaturref02_Words_round.calls (a0_0 : Int) (a0_1 : Int) (A1 : Option Addr) (c1 : Nat) (l1 : List Int) (a2 : Int) (a3 : Int) (r : List Int) (w : World) (hr1 : Kd.C (Kd.int .u64) w A1 l1.length l1) (hc1 : l1.length ≤ c1) (h : imprimaturref02_Words_round.f a0_0 a0_1 l1 a2 a3 = some r) :
    Calls Tryz.prog 88 #[.agg #[.int .u64 a0_0, .int .u64 a0_1], .slice A1 l1.length c1, .int .u64 a2, .int .u64 a3] w fun e w' => ∃ v0_ : Value, e = .returned (v0_) ∧ Kd.R (Kd.int .u64) 45 w' w.heap.size (fun _ => True) v0_ r ∧ Below w.heap.size w w' := by
  have hu125 := Tryz.underlying125
  have HR1 := Aside0.mk hr1
  have HC1 := Aside0.mk hc1
  clear hr1 hc1
  have HB := Aside0.mk (Below.refl w.heap.size w)
  have H : (if 0 < (l1.length : Int) then (if 1 < (l1.length : Int) then (if 2 < (l1.length : Int) then (if 4 < (l1.length : Int) then (if 5 < (l1.length : Int) then (if 6 < (l1.length : Int) then (if a0_0 = 0 then ((imprimaturref02_Words_big.f a0_0 a0_1 (rd l1 4) 14 18 41).bind fun t181 => ((imprimaturref02_Words_big.f a0_0 a0_1 (rd l1 0) 28 34 39).bind fun t182 => ((imprimaturref02_Words_cut.f a0_0 a0_1 (Go.bits .xor .u64 (if IntKind.u64.signed = true then -1 else IntKind.u64.max) (rd l1 4))).bind fun t183 => (if 7 < (l1.length : Int) then ((imprimaturref02_Words_cut.f a0_0 a0_1 (IntKind.u64.wrap ((IntKind.u64.wrap ((IntKind.u64.wrap ((IntKind.u64.wrap ((IntKind.u64.wrap ((IntKind.u64.wrap ((rd l1 7) + t181)) + (Go.bits .or .u64 (Go.bits .and .u64 (rd l1 4) (rd l1 5)) (Go.bits .and .u64 t183 (rd l1 6))))) + a2)) + a3)) + t182)) + (Go.bits .or .u64 (Go.bits .or .u64 (Go.bits .and .u64 (rd l1 0) (rd l1 1)) (Go.bits .and .u64 (rd l1 0) (rd l1 2))) (Go.bits .and .u64 (rd l1 1) (rd l1 2)))))).bind fun t185 => (if 3 < (l1.length : Int) then ((imprimaturref02_Words_cut.f a0_0 a0_1 (IntKind.u64.wrap ((rd l1 3) + (IntKind.u64.wrap ((IntKind.u64.wrap ((IntKind.u64.wrap ((IntKind.u64.wrap ((rd l1 7) + t181)) + (Go.bits .or .u64 (Go.bits .and .u64 (rd l1 4) (rd l1 5)) (Go.bits .and .u64 t183 (rd l1 6))))) + a2)) + a3))))).bind fun t187 => (some (([t185, rd l1 0, rd l1 1, rd l1 2, t187, rd l1 4, rd l1 5, rd l1 6] : List Int)))) else (none))) else (none))))) else ((imprimaturref02_Words_big.f a0_0 a0_1 (rd l1 4) 6 11 25).bind fun t191 => ((imprimaturref02_Words_big.f a0_0 a0_1 (rd l1 0) 2 13 22).bind fun t192 => ((imprimaturref02_Words_cut.f a0_0 a0_1 (Go.bits .xor .u64 (if IntKind.u64.signed = true then -1 else IntKind.u64.max) (rd l1 4))).bind fun t193 => (if 7 < (l1.length : Int) then ((imprimaturref02_Words_cut.f a0_0 a0_1 (IntKind.u64.wrap ((IntKind.u64.wrap ((IntKind.u64.wrap ((IntKind.u64.wrap ((IntKind.u64.wrap ((IntKind.u64.wrap ((rd l1 7) + t191)) + (Go.bits .or .u64 (Go.bits .and .u64 (rd l1 4) (rd l1 5)) (Go.bits .and .u64 t193 (rd l1 6))))) + (IntKind.u64.wrap (Int.tdiv a2 4294967296)))) + a3)) + t192)) + (Go.bits .or .u64 (Go.bits .or .u64 (Go.bits .and .u64 (rd l1 0) (rd l1 1)) (Go.bits .and .u64 (rd l1 0) (rd l1 2))) (Go.bits .and .u64 (rd l1 1) (rd l1 2)))))).bind fun t195 => (if 3 < (l1.length : Int) then ((imprimaturref02_Words_cut.f a0_0 a0_1 (IntKind.u64.wrap ((rd l1 3) + (IntKind.u64.wrap ((IntKind.u64.wrap ((IntKind.u64.wrap ((IntKind.u64.wrap ((rd l1 7) + t191)) + (Go.bits .or .u64 (Go.bits .and .u64 (rd l1 4) (rd l1 5)) (Go.bits .and .u64 t193 (rd l1 6))))) + (IntKind.u64.wrap (Int.tdiv a2 4294967296)))) + a3))))).bind fun t197 => (some (([t195, rd l1 0, rd l1 1, rd l1 2, t197, rd l1 4, rd l1 5, rd l1 6] : List Int)))) else (none))) else (none)))))) else (none)) else (none)) else (none)) else (none)) else (none)) else (none)) = some r := h
  clear h
  by_cases c5 : 0 < (l1.length : Int)
  · rw [if_pos c5] at H
    have c5b0 : decide (0 < (l1.length : Int)) = true := decide_eq_true c5
    have c5b1 : decide (0 < l1.length) = true := decide_eq_true (by omega)
    clear c5
    by_cases c6 : 1 < (l1.length : Int)
    · rw [if_pos c6] at H
      have c6b0 : decide (1 < (l1.length : Int)) = true := decide_eq_true c6
      have c6b1 : decide (1 < l1.length) = true := decide_eq_true (by omega)
      clear c6
      by_cases c7 : 2 < (l1.length : Int)
      · rw [if_pos c7] at H
        have c7b0 : decide (2 < (l1.length : Int)) = true := decide_eq_true c7
        have c7b1 : decide (2 < l1.length) = true := decide_eq_true (by omega)
        clear c7
        by_cases c8 : 4 < (l1.length : Int)
        · rw [if_pos c8] at H
          have c8b0 : decide (4 < (l1.length : Int)) = true := decide_eq_true c8
          have c8b1 : decide (4 < l1.length) = true := decide_eq_true (by omega)
          clear c8
          by_cases c9 : 5 < (l1.length : Int)
          · rw [if_pos c9] at H
            have c9b0 : decide (5 < (l1.length : Int)) = true := decide_eq_true c9
            have c9b1 : decide (5 < l1.length) = true := decide_eq_true (by omega)
            clear c9
            by_cases c10 : 6 < (l1.length : Int)
            · rw [if_pos c10] at H
              have c10b0 : decide (6 < (l1.length : Int)) = true := decide_eq_true c10
              have c10b1 : decide (6 < l1.length) = true := decide_eq_true (by omega)
              clear c10
              by_cases c11 : a0_0 = 0
              · rw [if_pos c11] at H
                have c11b0 : (a0_0 == 0) = true := beq_iff_eq.mpr c11
                have c11b1 : (a0_0 != 0) = false := bne_eq_false_iff_eq.mpr c11
                clear c11
                replace H := Option.bind_eq_some_iff.mp H
                obtain ⟨t181, A120, H⟩ := H
                replace H : ((imprimaturref02_Words_big.f a0_0 a0_1 (rd l1 0) 28 34 39).bind fun t182 => ((imprimaturref02_Words_cut.f a0_0 a0_1 (Go.bits .xor .u64 (if IntKind.u64.signed = true then -1 else IntKind.u64.max) (rd l1 4))).bind fun t183 => (if 7 < (l1.length : Int) then ((imprimaturref02_Words_cut.f a0_0 a0_1 (IntKind.u64.wrap ((IntKind.u64.wrap ((IntKind.u64.wrap ((IntKind.u64.wrap ((IntKind.u64.wrap ((IntKind.u64.wrap ((rd l1 7) + t181)) + (Go.bits .or .u64 (Go.bits .and .u64 (rd l1 4) (rd l1 5)) (Go.bits .and .u64 t183 (rd l1 6))))) + a2)) + a3)) + t182)) + (Go.bits .or .u64 (Go.bits .or .u64 (Go.bits .and .u64 (rd l1 0) (rd l1 1)) (Go.bits .and .u64 (rd l1 0) (rd l1 2))) (Go.bits .and .u64 (rd l1 1) (rd l1 2)))))).bind fun t185 => (if 3 < (l1.length : Int) then ((imprimaturref02_Words_cut.f a0_0 a0_1 (IntKind.u64.wrap ((rd l1 3) + (IntKind.u64.wrap ((IntKind.u64.wrap ((IntKind.u64.wrap ((IntKind.u64.wrap ((rd l1 7) + t181)) + (Go.bits .or .u64 (Go.bits .and .u64 (rd l1 4) (rd l1 5)) (Go.bits .and .u64 t183 (rd l1 6))))) + a2)) + a3))))).bind fun t187 => (some (([t185, rd l1 0, rd l1 1, rd l1 2, t187, rd l1 4, rd l1 5, rd l1 6] : List Int)))) else (none))) else (none)))) = some r := H
                have A12 := Aside0.mk A120
                clear A120
                replace H := Option.bind_eq_some_iff.mp H
                obtain ⟨t182, A130, H⟩ := H
                replace H : ((imprimaturref02_Words_cut.f a0_0 a0_1 (Go.bits .xor .u64 (if IntKind.u64.signed = true then -1 else IntKind.u64.max) (rd l1 4))).bind fun t183 => (if 7 < (l1.length : Int) then ((imprimaturref02_Words_cut.f a0_0 a0_1 (IntKind.u64.wrap ((IntKind.u64.wrap ((IntKind.u64.wrap ((IntKind.u64.wrap ((IntKind.u64.wrap ((IntKind.u64.wrap ((rd l1 7) + t181)) + (Go.bits .or .u64 (Go.bits .and .u64 (rd l1 4) (rd l1 5)) (Go.bits .and .u64 t183 (rd l1 6))))) + a2)) + a3)) + t182)) + (Go.bits .or .u64 (Go.bits .or .u64 (Go.bits .and .u64 (rd l1 0) (rd l1 1)) (Go.bits .and .u64 (rd l1 0) (rd l1 2))) (Go.bits .and .u64 (rd l1 1) (rd l1 2)))))).bind fun t185 => (if 3 < (l1.length : Int) then ((imprimaturref02_Words_cut.f a0_0 a0_1 (IntKind.u64.wrap ((rd l1 3) + (IntKind.u64.wrap ((IntKind.u64.wrap ((IntKind.u64.wrap ((IntKind.u64.wrap ((rd l1 7) + t181)) + (Go.bits .or .u64 (Go.bits .and .u64 (rd l1 4) (rd l1 5)) (Go.bits .and .u64 t183 (rd l1 6))))) + a2)) + a3))))).bind fun t187 => (some (([t185, rd l1 0, rd l1 1, rd l1 2, t187, rd l1 4, rd l1 5, rd l1 6] : List Int)))) else (none))) else (none))) = some r := H
                have A13 := Aside0.mk A130
                clear A130
                replace H := Option.bind_eq_some_iff.mp H
                obtain ⟨t183, A140, H⟩ := H
                replace H : (if 7 < (l1.length : Int) then ((imprimaturref02_Words_cut.f a0_0 a0_1 (IntKind.u64.wrap ((IntKind.u64.wrap ((IntKind.u64.wrap ((IntKind.u64.wrap ((IntKind.u64.wrap ((IntKind.u64.wrap ((rd l1 7) + t181)) + (Go.bits .or .u64 (Go.bits .and .u64 (rd l1 4) (rd l1 5)) (Go.bits .and .u64 t183 (rd l1 6))))) + a2)) + a3)) + t182)) + (Go.bits .or .u64 (Go.bits .or .u64 (Go.bits .and .u64 (rd l1 0) (rd l1 1)) (Go.bits .and .u64 (rd l1 0) (rd l1 2))) (Go.bits .and .u64 (rd l1 1) (rd l1 2)))))).bind fun t185 => (if 3 < (l1.length : Int) then ((imprimaturref02_Words_cut.f a0_0 a0_1 (IntKind.u64.wrap ((rd l1 3) + (IntKind.u64.wrap ((IntKind.u64.wrap ((IntKind.u64.wrap ((IntKind.u64.wrap ((rd l1 7) + t181)) + (Go.bits .or .u64 (Go.bits .and .u64 (rd l1 4) (rd l1 5)) (Go.bits .and .u64 t183 (rd l1 6))))) + a2)) + a3))))).bind fun t187 => (some (([t185, rd l1 0, rd l1 1, rd l1 2, t187, rd l1 4, rd l1 5, rd l1 6] : List Int)))) else (none))) else (none)) = some r := H
                have A14 := Aside0.mk A140
                clear A140
                by_cases c15 : 7 < (l1.length : Int)
                · rw [if_pos c15] at H
                  have c15b0 : decide (7 < (l1.length : Int)) = true := decide_eq_true c15
                  have c15b1 : decide (7 < l1.length) = true := decide_eq_true (by omega)
                  clear c15
                  replace H := Option.bind_eq_some_iff.mp H
                  obtain ⟨t185, A160, H⟩ := H
                  replace H : (if 3 < (l1.length : Int) then ((imprimaturref02_Words_cut.f a0_0 a0_1 (IntKind.u64.wrap ((rd l1 3) + (IntKind.u64.wrap ((IntKind.u64.wrap ((IntKind.u64.wrap ((IntKind.u64.wrap ((rd l1 7) + t181)) + (Go.bits .or .u64 (Go.bits .and .u64 (rd l1 4) (rd l1 5)) (Go.bits .and .u64 t183 (rd l1 6))))) + a2)) + a3))))).bind fun t187 => (some (([t185, rd l1 0, rd l1 1, rd l1 2, t187, rd l1 4, rd l1 5, rd l1 6] : List Int)))) else (none)) = some r := H
                  have A16 := Aside0.mk A160
                  clear A160
                  by_cases c17 : 3 < (l1.length : Int)
                  · rw [if_pos c17] at H
                    have c17b0 : decide (3 < (l1.length : Int)) = true := decide_eq_true c17
                    have c17b1 : decide (3 < l1.length) = true := decide_eq_true (by omega)
                    clear c17
                    replace H := Option.bind_eq_some_iff.mp H
                    obtain ⟨t187, A180, H⟩ := H
                    replace H : (some (([t185, rd l1 0, rd l1 1, rd l1 2, t187, rd l1 4, rd l1 5, rd l1 6] : List Int))) = some r := H
                    have A18 := Aside0.mk A180
                    clear A180
                    obtain ⟨y188, hy188⟩ : ∃ y_ : List Int, y_ = (([t185, rd l1 0, rd l1 1, rd l1 2, t187, rd l1 4, rd l1 5, rd l1 6] : List Int)) := ⟨_, rfl⟩
                    replace H : (some y188) = some r := by first | (rw [hy188]; with_reducible exact H) | (have H2_ := (Option.bind_some _ _).symm.trans H; rw [hy188]; with_reducible exact H2_) | (have H2_ := (Option.bind_some _ _).symm.trans H; with_reducible exact H2_) | with_reducible exact H | (rw [hy188]; exact H) | exact H
                    have Ny188 := Aside0.mk hy188
                    clear hy188
                    obtain rfl := Option.some.inj H
                    go_enter Tryz.func88, Tryz.ntmps88
                    try go_wp2_with (first | ((with_reducible refine gate_dst (N := 4) rfl ?_); refine box_event ?hg (N := 4) ?hd (cs := #[.int .u64 a0_0, .int .u64 a0_1]) (t := 125) ?hr ?_; (case hd => rfl); (case hg => rfl); (case hr => first | (go_simp; done) | (go_simp; rfl)); intro gb174 hg w19 hbox hb; have n0_ := Aside0.mk (below_step (by repeat (first | (with_reducible first | exact HB.out | apply below_alloc | apply pw_below_drewN | apply below_drew1) | exact HB.out)) hb); have n1_ := Aside0.mk (hbox); have n2_ := Aside0.mk ((by rw [hg]; exact (below_size (by repeat (first | (with_reducible first | exact HB.out | apply below_alloc | apply pw_below_drewN | apply below_drew1) | exact HB.out))) : w.heap.size ≤ gb174)); have n3_ := Aside0.mk ((by rw [hg]; exact (below_size (by repeat (first | (with_reducible first | exact HB.out | apply below_alloc | apply pw_below_drewN | apply below_drew1) | exact HB.out))) : w.heap.size ≤ gb174)); clear HB; have HB := n0_; have BK174 := n1_; have GW174 := n2_; have GE174 := n3_; clear n0_ n1_ n2_ n3_; clear hb hbox hg))
                    have n0_ := Aside0.mk (blk_drew BK174.out)
                    have n1_ := Aside0.mk (below_drew1 HB.out)
                    clear BK174
                    clear HB
                    have BK174 := n0_
                    have HB := n1_
                    clear n0_ n1_
                    have p175 : 0 ≤ (0 : Int) := (by omega)
                    have q175 : 0 < (l1.length : Int) := of_decide_eq_true (by first | (with_reducible assumption) | assumption)
                    obtain ⟨ad175, e175, hx175_0⟩ := Kd.at_int HR1.out 0 p175 q175
                    have hw175_0 := hx175_0
                    (try rw [show ((0 : Int)).toNat = 0 from rfl] at hw175_0)
                    (try rw [show 0 * 1 = 0 from rfl] at hw175_0)
                    (try rw [Addr.add_zero'] at hw175_0)
                    cases e175
                    have qi175 : (0 < l1.length) = True := eq_true (by omega)
                    (try rw [show ((0 : Int)).toNat = 0 from rfl] at hx175_0)
                    (try rw [Addr.add_zero'] at hx175_0)
                    replace hx175_0 := (HB.out.cell (World.block_lt_of_cell? w _ hx175_0)).trans hx175_0
                    replace p175 := eq_true p175
                    replace q175 := eq_true q175
                    have p176 : 0 ≤ (1 : Int) := (by omega)
                    have q176 : 1 < (l1.length : Int) := of_decide_eq_true (by first | (with_reducible assumption) | assumption)
                    obtain ⟨ad176, e176, hx176_0⟩ := Kd.at_int HR1.out 1 p176 q176
                    have hw176_0 := hx176_0
                    (try rw [show ((1 : Int)).toNat = 1 from rfl] at hw176_0)
                    (try rw [show 1 * 1 = 1 from rfl] at hw176_0)
                    (try simp only [Nat.reduceMul, Nat.reduceEqDiff, Go.Addr.add, ↓reduceIte] at hw176_0)
                    obtain rfl : ad175 = ad176 := (by injection e176)
                    (try simp only [show (1 : Int).toNat = 1 from rfl, Nat.reduceMul, Nat.reduceEqDiff, Go.Addr.add, ↓reduceIte] at hx176_0)
                    have qi176 : (1 < l1.length) = True := eq_true (by omega)
                    (try rw [show ((1 : Int)).toNat = 1 from rfl] at hx176_0)
                    replace hx176_0 := (HB.out.cell (World.block_lt_of_cell? w _ hx176_0)).trans hx176_0
                    replace p176 := eq_true p176
                    replace q176 := eq_true q176
                    have p177 : 0 ≤ (2 : Int) := (by omega)
                    have q177 : 2 < (l1.length : Int) := of_decide_eq_true (by first | (with_reducible assumption) | assumption)
                    obtain ⟨ad177, e177, hx177_0⟩ := Kd.at_int HR1.out 2 p177 q177
                    have hw177_0 := hx177_0
                    (try rw [show ((2 : Int)).toNat = 2 from rfl] at hw177_0)
                    (try rw [show 2 * 1 = 2 from rfl] at hw177_0)
                    (try simp only [Nat.reduceMul, Nat.reduceEqDiff, Go.Addr.add, ↓reduceIte] at hw177_0)
                    obtain rfl : ad175 = ad177 := (by injection e177)
                    (try simp only [show (2 : Int).toNat = 2 from rfl, Nat.reduceMul, Nat.reduceEqDiff, Go.Addr.add, ↓reduceIte] at hx177_0)
                    have qi177 : (2 < l1.length) = True := eq_true (by omega)
                    (try rw [show ((2 : Int)).toNat = 2 from rfl] at hx177_0)
                    replace hx177_0 := (HB.out.cell (World.block_lt_of_cell? w _ hx177_0)).trans hx177_0
                    replace p177 := eq_true p177
                    replace q177 := eq_true q177
                    have p178 : 0 ≤ (4 : Int) := (by omega)
                    have q178 : 4 < (l1.length : Int) := of_decide_eq_true (by first | (with_reducible assumption) | assumption)
                    obtain ⟨ad178, e178, hx178_0⟩ := Kd.at_int HR1.out 4 p178 q178
                    have hw178_0 := hx178_0
                    (try rw [show ((4 : Int)).toNat = 4 from rfl] at hw178_0)
                    (try rw [show 4 * 1 = 4 from rfl] at hw178_0)
                    (try simp only [Nat.reduceMul, Nat.reduceEqDiff, Go.Addr.add, ↓reduceIte] at hw178_0)
                    obtain rfl : ad175 = ad178 := (by injection e178)
                    (try simp only [show (4 : Int).toNat = 4 from rfl, Nat.reduceMul, Nat.reduceEqDiff, Go.Addr.add, ↓reduceIte] at hx178_0)
                    have qi178 : (4 < l1.length) = True := eq_true (by omega)
                    (try rw [show ((4 : Int)).toNat = 4 from rfl] at hx178_0)
                    replace hx178_0 := (HB.out.cell (World.block_lt_of_cell? w _ hx178_0)).trans hx178_0
                    replace p178 := eq_true p178
                    replace q178 := eq_true q178
                    have p179 : 0 ≤ (5 : Int) := (by omega)
                    have q179 : 5 < (l1.length : Int) := of_decide_eq_true (by first | (with_reducible assumption) | assumption)
                    obtain ⟨ad179, e179, hx179_0⟩ := Kd.at_int HR1.out 5 p179 q179
                    have hw179_0 := hx179_0
                    (try rw [show ((5 : Int)).toNat = 5 from rfl] at hw179_0)
                    (try rw [show 5 * 1 = 5 from rfl] at hw179_0)
                    (try simp only [Nat.reduceMul, Nat.reduceEqDiff, Go.Addr.add, ↓reduceIte] at hw179_0)
                    obtain rfl : ad175 = ad179 := (by injection e179)
                    (try simp only [show (5 : Int).toNat = 5 from rfl, Nat.reduceMul, Nat.reduceEqDiff, Go.Addr.add, ↓reduceIte] at hx179_0)
                    have qi179 : (5 < l1.length) = True := eq_true (by omega)
                    (try rw [show ((5 : Int)).toNat = 5 from rfl] at hx179_0)
                    replace hx179_0 := (HB.out.cell (World.block_lt_of_cell? w _ hx179_0)).trans hx179_0
                    replace p179 := eq_true p179
                    replace q179 := eq_true q179
                    have p180 : 0 ≤ (6 : Int) := (by omega)
                    have q180 : 6 < (l1.length : Int) := of_decide_eq_true (by first | (with_reducible assumption) | assumption)
                    obtain ⟨ad180, e180, hx180_0⟩ := Kd.at_int HR1.out 6 p180 q180
                    have hw180_0 := hx180_0
                    (try rw [show ((6 : Int)).toNat = 6 from rfl] at hw180_0)
                    (try rw [show 6 * 1 = 6 from rfl] at hw180_0)
                    (try simp only [Nat.reduceMul, Nat.reduceEqDiff, Go.Addr.add, ↓reduceIte] at hw180_0)
                    obtain rfl : ad175 = ad180 := (by injection e180)
                    (try simp only [show (6 : Int).toNat = 6 from rfl, Nat.reduceMul, Nat.reduceEqDiff, Go.Addr.add, ↓reduceIte] at hx180_0)
                    have qi180 : (6 < l1.length) = True := eq_true (by omega)
                    (try rw [show ((6 : Int)).toNat = 6 from rfl] at hx180_0)
                    replace hx180_0 := (HB.out.cell (World.block_lt_of_cell? w _ hx180_0)).trans hx180_0
                    replace p180 := eq_true p180
                    replace q180 := eq_true q180
                    refine start_ (n := 24) (S := fun w' => w'.cell? ad175 = some (.int .u64 (rd l1 0)) ∧ w'.cell? ⟨ad175.block, ad175.off + 1, none⟩ = some (.int .u64 (rd l1 1)) ∧ w'.cell? ⟨ad175.block, ad175.off + 2, none⟩ = some (.int .u64 (rd l1 2)) ∧ w'.cell? ⟨ad175.block, ad175.off + 4, none⟩ = some (.int .u64 (rd l1 4)) ∧ w'.cell? ⟨ad175.block, ad175.off + 5, none⟩ = some (.int .u64 (rd l1 5)) ∧ w'.cell? ⟨ad175.block, ad175.off + 6, none⟩ = some (.int .u64 (rd l1 6))) (ds := []) (bz 24 0) (by kernel_rfl) rfl rfl ⟨((HB.out.cell (World.block_lt_of_cell? w _ hw175_0)).trans hw175_0), ((HB.out.cell (World.block_lt_of_cell? w _ hw176_0)).trans hw176_0), ((HB.out.cell (World.block_lt_of_cell? w _ hw177_0)).trans hw177_0), ((HB.out.cell (World.block_lt_of_cell? w _ hw178_0)).trans hw178_0), ((HB.out.cell (World.block_lt_of_cell? w _ hw179_0)).trans hw179_0), ((HB.out.cell (World.block_lt_of_cell? w _ hw180_0)).trans hw180_0)⟩ (fun hHeld => ?_); refine with_tabW imprimaturref02_Words_round.tab1 imprimaturref02_Words_round.bits1 (fun HT_ HW_ => ?_)
                    generalize w19.drew = w20 at BK174 HB hx175_0 hx176_0 hx177_0 hx178_0 hx179_0 hx180_0 hHeld ⊢
                    refine xpz 0 (some 20) (bz 24 1) (any_of HT_.out (by kernel_rfl)) ?_
                    refine xpz 1 (some 21) (bz 24 3) (any_of HT_.out (by kernel_rfl)) ?_
                    refine xpz 3 (some 23) (bz 24 11) (any_of HT_.out (by kernel_rfl)) ?_
                    refine xpz 4 (some 24) (bz 24 27) (any_of HT_.out (by kernel_rfl)) ?_
                    refine xpz 6 (some 26) (bz 24 91) (any_of HT_.out (by kernel_rfl)) ?_
                    refine xpz 7 (some 27) (bz 24 219) (any_of HT_.out (by kernel_rfl)) ?_
                    refine xpz 9 (some 29) (bz 24 731) (any_of HT_.out (by kernel_rfl)) ?_
                    refine xpz 10 (some 30) (bz 24 1755) (any_of HT_.out (by kernel_rfl)) ?_
                    refine xpz 12 (some 32) (bz 24 5851) (any_of HT_.out (by kernel_rfl)) ?_
                    refine xpz 13 (some 33) (bz 24 14043) (any_of HT_.out (by kernel_rfl)) ?_
                    refine xpz 15 (some 35) (bz 24 46811) (any_of HT_.out (by kernel_rfl)) ?_
                    refine xpz 16 (some 36) (bz 24 112347) (any_of HT_.out (by kernel_rfl)) ?_
                    refine xtz6 2 (some 22) (bz 24 112351) (take_ofW HT_.out HW_.out (by kernel_rfl)) hHeld ?_
                    refine xpz 18 (some 9) (bz 24 374495) (any_of HT_.out (by kernel_rfl)) ?_
                    refine xtz6 5 (some 25) (bz 24 374527) (take_ofW HT_.out HW_.out (by kernel_rfl)) hHeld ?_
                    refine xpz 19 (some 10) (bz 24 898815) (any_of HT_.out (by kernel_rfl)) ?_
                    refine xtz6 8 (some 28) (bz 24 899071) (take_ofW HT_.out HW_.out (by kernel_rfl)) hHeld ?_
                    refine xpz 20 (some 11) (bz 24 1947647) (any_of HT_.out (by kernel_rfl)) ?_
                    refine xtz6 11 (some 31) (bz 24 1949695) (take_ofW HT_.out HW_.out (by kernel_rfl)) hHeld ?_
                    refine xpz 21 (some 12) (bz 24 4046847) (any_of HT_.out (by kernel_rfl)) ?_
                    refine xtz6 14 (some 34) (bz 24 4063231) (take_ofW HT_.out HW_.out (by kernel_rfl)) hHeld ?_
                    refine xpz 22 (some 13) (bz 24 8257535) (any_of HT_.out (by kernel_rfl)) ?_
                    refine xtz6 17 (some 37) (bz 24 8388607) (take_ofW HT_.out HW_.out (by kernel_rfl)) hHeld ?_
                    refine xpz 23 (some 14) (bz 24 16777215) (any_of HT_.out (by kernel_rfl)) ?_
                    refine done_ (done_of HT_.out (by kernel_rfl)) ?_
                    have hcz21_0 : w20.cell? ⟨gb174, 0, none⟩ = some (.int .u64 a0_0) := (blk_cell BK174.out 0).trans rfl
                    have hcz21_1 : w20.cell? ⟨gb174, 1, none⟩ = some (.int .u64 a0_1) := (blk_cell BK174.out 1).trans rfl
                    have hfz21_0 := blk_frozen BK174.out 0
                    have hfz21_1 := blk_frozen BK174.out 1
                    try go_wp2_with (first | ((with_reducible refine gate_callee (f := 98) rfl ?_); refine goesL_ (some 51) rfl rfl Tryz.func98 (by kernel_rfl) rfl #[.agg #[.int .u64 a0_0, .int .u64 a0_1], .int .u64 (rd l1 4), .int .u64 14, .int .u64 18, .int .u64 41] rfl (by (try simp only [List.map_toArray, List.map_cons, List.map_nil]); first | done | rfl | (simp only [List.length_drop, List.length_take]; rfl)) ?_; (with_reducible refine (imprimaturref02_Words_big.calls a0_0 a0_1 (rd l1 4) 14 18 41 t181 _ A12.out).mono ?_); rintro e w22 ⟨rfl, hb⟩; refine ⟨_, rfl, ?_⟩; have n0_ := Aside0.mk (blk_below (g := gb174) (o := .cells #[.int .u64 a0_0, .int .u64 a0_1] 125 (0, 0)) (by (with_reducible repeat (first | refine blk_drewN ?_ _ | refine blk_drew ?_ | refine blk_alloc ?_ _)); exact BK174.out) hb); have n1_ := Aside0.mk (below_step (by repeat (first | (with_reducible first | exact HB.out | apply below_alloc | apply pw_below_drewN | apply below_drew1 | refine below_set ?_ GE174.out) | exact HB.out)) hb); clear BK174; clear HB; have BK174 := n0_; have HB := n1_; clear n0_ n1_; (try clear hb); (try clear hb2); (try clear hk); (try clear hi); have hcz23_0 : w22.cell? ⟨gb174, 0, none⟩ = some (.int .u64 a0_0) := (blk_cell BK174.out 0).trans rfl; have hcz23_1 : w22.cell? ⟨gb174, 1, none⟩ = some (.int .u64 a0_1) := (blk_cell BK174.out 1).trans rfl; have hfz23_0 := blk_frozen BK174.out 0; have hfz23_1 := blk_frozen BK174.out 1) | ((with_reducible refine gate_callee (f := 98) rfl ?_); refine goesL_ (some 54) rfl rfl Tryz.func98 (by kernel_rfl) rfl #[.agg #[.int .u64 a0_0, .int .u64 a0_1], .int .u64 (rd l1 0), .int .u64 28, .int .u64 34, .int .u64 39] rfl (by (try simp only [List.map_toArray, List.map_cons, List.map_nil]); first | done | rfl | (simp only [List.length_drop, List.length_take]; rfl)) ?_; (with_reducible refine (imprimaturref02_Words_big.calls a0_0 a0_1 (rd l1 0) 28 34 39 t182 _ A13.out).mono ?_); rintro e w24 ⟨rfl, hb⟩; refine ⟨_, rfl, ?_⟩; have n0_ := Aside0.mk (blk_below (g := gb174) (o := .cells #[.int .u64 a0_0, .int .u64 a0_1] 125 (0, 0)) (by (with_reducible repeat (first | refine blk_drewN ?_ _ | refine blk_drew ?_ | refine blk_alloc ?_ _)); exact BK174.out) hb); have n1_ := Aside0.mk (below_step (by repeat (first | (with_reducible first | exact HB.out | apply below_alloc | apply pw_below_drewN | apply below_drew1 | refine below_set ?_ GE174.out) | exact HB.out)) hb); clear BK174; clear HB; have BK174 := n0_; have HB := n1_; clear n0_ n1_; (try clear hb); (try clear hb2); (try clear hk); (try clear hi); have hcz25_0 : w24.cell? ⟨gb174, 0, none⟩ = some (.int .u64 a0_0) := (blk_cell BK174.out 0).trans rfl; have hcz25_1 : w24.cell? ⟨gb174, 1, none⟩ = some (.int .u64 a0_1) := (blk_cell BK174.out 1).trans rfl; have hfz25_0 := blk_frozen BK174.out 0; have hfz25_1 := blk_frozen BK174.out 1) | ((with_reducible refine gate_callee (f := 89) rfl ?_); refine goesL_ (some 61) rfl rfl Tryz.func89 (by kernel_rfl) rfl #[.agg #[.int .u64 a0_0, .int .u64 a0_1], .int .u64 (Go.bits .xor .u64 (if IntKind.u64.signed = true then -1 else IntKind.u64.max) (rd l1 4))] rfl (by (try simp only [List.map_toArray, List.map_cons, List.map_nil]); first | done | rfl | (simp only [List.length_drop, List.length_take]; rfl)) ?_; (with_reducible refine (imprimaturref02_Words_cut.calls a0_0 a0_1 (Go.bits .xor .u64 (if IntKind.u64.signed = true then -1 else IntKind.u64.max) (rd l1 4)) t183 _ A14.out).mono ?_); rintro e w26 ⟨rfl, hb⟩; refine ⟨_, rfl, ?_⟩; have n0_ := Aside0.mk (blk_below (g := gb174) (o := .cells #[.int .u64 a0_0, .int .u64 a0_1] 125 (0, 0)) (by (with_reducible repeat (first | refine blk_drewN ?_ _ | refine blk_drew ?_ | refine blk_alloc ?_ _)); exact BK174.out) hb); have n1_ := Aside0.mk (below_step (by repeat (first | (with_reducible first | exact HB.out | apply below_alloc | apply pw_below_drewN | apply below_drew1 | refine below_set ?_ GE174.out) | exact HB.out)) hb); clear BK174; clear HB; have BK174 := n0_; have HB := n1_; clear n0_ n1_; (try clear hb); (try clear hb2); (try clear hk); (try clear hi); have p184 : 0 ≤ (7 : Int) := (by omega); have q184 : 7 < (l1.length : Int) := of_decide_eq_true (by first | (with_reducible assumption) | assumption); obtain ⟨ad184, e184, hx184_0⟩ := Kd.at_int HR1.out 7 p184 q184; obtain rfl : ad175 = ad184 := (by injection e184); (try simp only [show (7 : Int).toNat = 7 from rfl, Nat.reduceMul, Nat.reduceEqDiff, Go.Addr.add, ↓reduceIte] at hx184_0); have qi184 : (7 < l1.length) = True := eq_true (by omega); (try rw [show ((7 : Int)).toNat = 7 from rfl] at hx184_0); replace hx184_0 := (HB.out.cell (World.block_lt_of_cell? w _ hx184_0)).trans hx184_0; replace p184 := eq_true p184; replace q184 := eq_true q184))
                    have n0_ := Aside0.mk (blk_drew BK174.out)
                    have n1_ := Aside0.mk (below_drew1 HB.out)
                    clear BK174
                    clear HB
                    have BK174 := n0_
                    have HB := n1_
                    clear n0_ n1_
                    have p186 : 0 ≤ (3 : Int) := (by omega)
                    have q186 : 3 < (l1.length : Int) := of_decide_eq_true (by first | (with_reducible assumption) | assumption)
                    obtain ⟨ad186, e186, hx186_0⟩ := Kd.at_int HR1.out 3 p186 q186
                    have hw186_0 := hx186_0
                    (try rw [show ((3 : Int)).toNat = 3 from rfl] at hw186_0)
                    (try rw [show 3 * 1 = 3 from rfl] at hw186_0)
                    (try simp only [Nat.reduceMul, Nat.reduceEqDiff, Go.Addr.add, ↓reduceIte] at hw186_0)
                    obtain rfl : ad175 = ad186 := (by injection e186)
                    (try simp only [show (3 : Int).toNat = 3 from rfl, Nat.reduceMul, Nat.reduceEqDiff, Go.Addr.add, ↓reduceIte] at hx186_0)
                    have qi186 : (3 < l1.length) = True := eq_true (by omega)
                    (try rw [show ((3 : Int)).toNat = 3 from rfl] at hx186_0)
                    replace hx186_0 := (HB.out.cell (World.block_lt_of_cell? w _ hx186_0)).trans hx186_0
                    replace p186 := eq_true p186
                    replace q186 := eq_true q186
                    refine start_ (n := 22) (S := fun w' => w'.cell? ⟨gb174, 0, none⟩ = some (.int .u64 a0_0) ∧ w'.cell? ⟨gb174, 1, none⟩ = some (.int .u64 a0_1) ∧ w'.cell? ⟨ad175.block, ad175.off + 3, none⟩ = some (.int .u64 (rd l1 3))) (ds := []) (bz 22 0) (by kernel_rfl) rfl rfl ⟨(blk_cell BK174.out 0).trans rfl, (blk_cell BK174.out 1).trans rfl, ((HB.out.cell (World.block_lt_of_cell? w _ hw186_0)).trans hw186_0)⟩ (fun hHeld => ?_); refine with_tabW imprimaturref02_Words_round.tab12 imprimaturref02_Words_round.bits12 (fun HT_ HW_ => ?_)
                    generalize w26.drew = w27 at BK174 HB hx186_0 hHeld ⊢
                    refine xpz 1 (some 88) (bz 22 2) (any_of HT_.out (by kernel_rfl)) ?_
                    refine xpz 2 (some 89) (bz 22 6) (any_of HT_.out (by kernel_rfl)) ?_
                    refine xpz 3 (some 90) (bz 22 14) (any_of HT_.out (by kernel_rfl)) ?_
                    refine xpz 4 (some 91) (bz 22 30) (any_of HT_.out (by kernel_rfl)) ?_
                    refine xpz 5 (some 92) (bz 22 62) (any_of HT_.out (by kernel_rfl)) ?_
                    refine xpz 7 (some 94) (bz 22 190) (any_of HT_.out (by kernel_rfl)) ?_
                    refine xpz 8 (some 95) (bz 22 446) (any_of HT_.out (by kernel_rfl)) ?_
                    refine xpz 9 (some 96) (bz 22 958) (any_of HT_.out (by kernel_rfl)) ?_
                    refine xpz 11 (some 98) (bz 22 3006) (any_of HT_.out (by kernel_rfl)) ?_
                    refine xpz 12 (some 99) (bz 22 7102) (any_of HT_.out (by kernel_rfl)) ?_
                    refine xpz 14 (some 101) (bz 22 23486) (any_of HT_.out (by kernel_rfl)) ?_
                    refine xpz 17 (some 104) (bz 22 154558) (any_of HT_.out (by kernel_rfl)) ?_
                    refine xpz 18 (some 105) (bz 22 416702) (any_of HT_.out (by kernel_rfl)) ?_
                    refine xpz 19 (some 106) (bz 22 940990) (any_of HT_.out (by kernel_rfl)) ?_
                    refine xtz3 0 (some 87) (bz 22 940991) (take_ofW HT_.out HW_.out (by kernel_rfl)) hHeld ?_
                    refine xtz3 10 (some 97) (bz 22 942015) (take_ofW HT_.out HW_.out (by kernel_rfl)) hHeld ?_
                    refine xtz3 13 (some 100) (bz 22 950207) (take_ofW HT_.out HW_.out (by kernel_rfl)) hHeld ?_
                    refine xpz 15 (some 102) (bz 22 982975) (any_of HT_.out (by kernel_rfl)) ?_
                    refine one_ (i := 6) (N := some 93) (bz 22 983039) rfl rfl (one_of HT_.out (by kernel_rfl)) (by decide) (fun K hK => ?_)
                    refine goes_ Tryz.func89 (by kernel_rfl) rfl #[.agg #[.int .u64 a0_0, .int .u64 a0_1], .int .u64 (IntKind.u64.wrap ((IntKind.u64.wrap ((IntKind.u64.wrap ((IntKind.u64.wrap ((IntKind.u64.wrap ((IntKind.u64.wrap ((rd l1 7) + t181)) + (Go.bits .or .u64 (Go.bits .and .u64 (rd l1 4) (rd l1 5)) (Go.bits .and .u64 t183 (rd l1 6))))) + a2)) + a3)) + t182)) + (Go.bits .or .u64 (Go.bits .or .u64 (Go.bits .and .u64 (rd l1 0) (rd l1 1)) (Go.bits .and .u64 (rd l1 0) (rd l1 2))) (Go.bits .and .u64 (rd l1 1) (rd l1 2)))))] (by rfl) rfl rfl (by (try simp only [List.map_toArray, List.map_cons, List.map_nil]); first | done | rfl | (simp only [List.length_drop, List.length_take]; rfl)) ?_
                    with_reducible refine (imprimaturref02_Words_cut.calls a0_0 a0_1 (IntKind.u64.wrap ((IntKind.u64.wrap ((IntKind.u64.wrap ((IntKind.u64.wrap ((IntKind.u64.wrap ((IntKind.u64.wrap ((rd l1 7) + t181)) + (Go.bits .or .u64 (Go.bits .and .u64 (rd l1 4) (rd l1 5)) (Go.bits .and .u64 t183 (rd l1 6))))) + a2)) + a3)) + t182)) + (Go.bits .or .u64 (Go.bits .or .u64 (Go.bits .and .u64 (rd l1 0) (rd l1 1)) (Go.bits .and .u64 (rd l1 0) (rd l1 2))) (Go.bits .and .u64 (rd l1 1) (rd l1 2))))) t185 _ A16.out).mono ?_
                    rintro e w28 ⟨rfl, hb⟩
                    refine ⟨_, rfl, ?_⟩
                    have n0_ := Aside0.mk (blk_below (g := gb174) (o := .cells #[.int .u64 a0_0, .int .u64 a0_1] 125 (0, 0)) (by (with_reducible repeat (first | refine blk_drewN ?_ _ | refine blk_drew ?_ | refine blk_alloc ?_ _)); exact BK174.out) hb)
                    have n1_ := Aside0.mk (below_step (by repeat (first | (with_reducible first | exact HB.out | apply below_alloc | apply pw_below_drewN | apply below_drew1 | refine below_set ?_ GE174.out) | exact HB.out)) hb)
                    clear BK174
                    clear HB
                    have BK174 := n0_
                    have HB := n1_
                    clear n0_ n1_
                    (try clear hb)
                    (try clear hb2)
                    (try clear hk)
                    (try clear hi)
                    refine hK.out _ _ ⟨(blk_cell BK174.out 0).trans rfl, (blk_cell BK174.out 1).trans rfl, ((HB.out.cell (World.block_lt_of_cell? w _ hw186_0)).trans hw186_0)⟩ (fun hHeld => ?_)
                    clear hK K
                    refine norm_ (a' := ?_) ?_ ?_
                    rotate_left
                    · show Act.put _ (some 93) _ = _
                      simp only [Act.put, List.setIfInBounds_toArray, List.set_cons_zero, List.set_cons_succ, i64_w, i32_w]
                      rfl
                    refine one_ (i := 16) (N := some 103) (bz 22 1048575) rfl rfl (one_of HT_.out (by kernel_rfl)) (by decide) (fun K hK => ?_)
                    refine goes_ Tryz.func89 (by kernel_rfl) rfl #[.agg #[.int .u64 a0_0, .int .u64 a0_1], .int .u64 (IntKind.u64.wrap ((rd l1 3) + (IntKind.u64.wrap ((IntKind.u64.wrap ((IntKind.u64.wrap ((IntKind.u64.wrap ((rd l1 7) + t181)) + (Go.bits .or .u64 (Go.bits .and .u64 (rd l1 4) (rd l1 5)) (Go.bits .and .u64 t183 (rd l1 6))))) + a2)) + a3))))] (by rfl) rfl rfl (by (try simp only [List.map_toArray, List.map_cons, List.map_nil]); first | done | rfl | (simp only [List.length_drop, List.length_take]; rfl)) ?_
                    with_reducible refine (imprimaturref02_Words_cut.calls a0_0 a0_1 (IntKind.u64.wrap ((rd l1 3) + (IntKind.u64.wrap ((IntKind.u64.wrap ((IntKind.u64.wrap ((IntKind.u64.wrap ((rd l1 7) + t181)) + (Go.bits .or .u64 (Go.bits .and .u64 (rd l1 4) (rd l1 5)) (Go.bits .and .u64 t183 (rd l1 6))))) + a2)) + a3)))) t187 _ A18.out).mono ?_
                    rintro e w29 ⟨rfl, hb⟩
                    refine ⟨_, rfl, ?_⟩
                    have n0_ := Aside0.mk (blk_below (g := gb174) (o := .cells #[.int .u64 a0_0, .int .u64 a0_1] 125 (0, 0)) (by (with_reducible repeat (first | refine blk_drewN ?_ _ | refine blk_drew ?_ | refine blk_alloc ?_ _)); exact BK174.out) hb)
                    have n1_ := Aside0.mk (below_step (by repeat (first | (with_reducible first | exact HB.out | apply below_alloc | apply pw_below_drewN | apply below_drew1 | refine below_set ?_ GE174.out) | exact HB.out)) hb)
                    clear BK174
                    clear HB
                    have BK174 := n0_
                    have HB := n1_
                    clear n0_ n1_
                    (try clear hb)
                    (try clear hb2)
                    (try clear hk)
                    (try clear hi)
                    refine hK.out _ _ ⟨(blk_cell BK174.out 0).trans rfl, (blk_cell BK174.out 1).trans rfl, ((HB.out.cell (World.block_lt_of_cell? w _ hw186_0)).trans hw186_0)⟩ (fun hHeld => ?_)
                    clear hK K
                    refine norm_ (a' := ?_) ?_ ?_
                    rotate_left
                    · show Act.put _ (some 103) _ = _
                      simp only [Act.put, List.setIfInBounds_toArray, List.set_cons_zero, List.set_cons_succ, i64_w, i32_w]
                      rfl
                    refine one_ (i := 20) (N := some 107) (bz 22 2097151) rfl rfl (one_of HT_.out (by kernel_rfl)) (by decide) (fun K hK => ?_)
                    refine Kd.R_lit_step (Kd.int .u64) _ 45 ?hg (N := 107) ?hd (xs := ([t185, rd l1 0, rd l1 1, rd l1 2, t187, rd l1 4, rd l1 5, rd l1 6] : List Int)) (inner := [.int .u64 t185, .int .u64 (rd l1 0), .int .u64 (rd l1 1), .int .u64 (rd l1 2), .int .u64 t187, .int .u64 (rd l1 4), .int .u64 (rd l1 5), .int .u64 (rd l1 6)]) (ok := fun _ => True) (okp := fun _ => True) ?hr ?hp (fun _ hk => hk) trivial (Below.refl _ _) (Nat.le_refl _) (by simp) ?_; (case hd => rfl); (case hg => rfl); (case hr => first | (go_simp; done) | (go_simp; rfl)); (case hp => exact (Reps.one (show Kd.M (Kd.int .u64) _ _ _ t185 [.int .u64 t185] from rfl) (Reps.one (show Kd.M (Kd.int .u64) _ _ _ (rd l1 0) [.int .u64 (rd l1 0)] from rfl) (Reps.one (show Kd.M (Kd.int .u64) _ _ _ (rd l1 1) [.int .u64 (rd l1 1)] from rfl) (Reps.one (show Kd.M (Kd.int .u64) _ _ _ (rd l1 2) [.int .u64 (rd l1 2)] from rfl) (Reps.one (show Kd.M (Kd.int .u64) _ _ _ t187 [.int .u64 t187] from rfl) (Reps.one (show Kd.M (Kd.int .u64) _ _ _ (rd l1 4) [.int .u64 (rd l1 4)] from rfl) (Reps.one (show Kd.M (Kd.int .u64) _ _ _ (rd l1 5) [.int .u64 (rd l1 5)] from rfl) (Reps.one (show Kd.M (Kd.int .u64) _ _ _ (rd l1 6) [.int .u64 (rd l1 6)] from rfl) (Reps.none _ _))))))))))
                    intro v189 w30 ho31 hb hg_ hnew_
                    clear hg_ hnew_
                    (first | rw [← Ny188.out] at ho31 | (simp only [Int.reduceToNat] at ho31; rw [← Ny188.out] at ho31))
                    have n0_ := Aside0.mk (Kd.R_lower ho31 (below_size (by repeat (first | (with_reducible first | exact HB.out | apply below_alloc | apply pw_below_drewN | apply below_drew1 | refine below_set ?_ GE174.out) | exact HB.out))))
                    have n1_ := Aside0.mk (blk_below (g := gb174) (o := .cells #[.int .u64 a0_0, .int .u64 a0_1] 125 (0, 0)) (by (with_reducible repeat (first | refine blk_drewN ?_ _ | refine blk_drew ?_ | refine blk_alloc ?_ _)); exact BK174.out) hb)
                    have n2_ := Aside0.mk (below_step (by repeat (first | (with_reducible first | exact HB.out | apply below_alloc | apply pw_below_drewN | apply below_drew1 | refine below_set ?_ GE174.out) | exact HB.out)) hb)
                    clear BK174
                    clear HB
                    have HO190 := n0_
                    have BK174 := n1_
                    have HB := n2_
                    clear n0_ n1_ n2_
                    clear hb ho31
                    refine hK.out _ _ ⟨(blk_cell BK174.out 0).trans rfl, (blk_cell BK174.out 1).trans rfl, ((HB.out.cell (World.block_lt_of_cell? w _ hw186_0)).trans hw186_0)⟩ (fun hHeld => ?_)
                    clear hK K
                    refine norm_ (a' := ?_) ?_ ?_
                    rotate_left
                    · show Act.put _ (some 107) _ = _
                      simp only [Act.put, List.setIfInBounds_toArray, List.set_cons_zero, List.set_cons_succ, i64_w, i32_w]
                      rfl
                    refine xpz 21 (some 8) (bz 22 4194303) (any_of HT_.out (by kernel_rfl)) ?_
                    refine done_ (done_of HT_.out (by kernel_rfl)) ?_
                    try go_wp2
                    go_ret
                    exact ⟨_, by first | rfl | (simp [errW_none, errW_some] <;> rfl) | (simp [*, errW_none, errW_some] <;> rfl), by (with_reducible repeat (first | apply Kd.R_alloc | apply Kd.R_drewN | apply Kd.R_drew)); exact HO190.out, by repeat (first | (with_reducible first | exact HB.out | apply below_alloc | apply pw_below_drewN | apply below_drew1 | refine below_set ?_ GE174.out) | exact HB.out)⟩
                  · rw [if_neg c17] at H
                    exact absurd H (by simp)
                · rw [if_neg c15] at H
                  exact absurd H (by simp)
              · rw [if_neg c11] at H
                have c11b0 : (a0_0 == 0) = false := beq_eq_false_iff_ne.mpr c11
                have c11b1 : (a0_0 != 0) = true := bne_iff_ne.mpr c11
                replace H := Option.bind_eq_some_iff.mp H
                obtain ⟨t191, A320, H⟩ := H
                replace H : ((imprimaturref02_Words_big.f a0_0 a0_1 (rd l1 0) 2 13 22).bind fun t192 => ((imprimaturref02_Words_cut.f a0_0 a0_1 (Go.bits .xor .u64 (if IntKind.u64.signed = true then -1 else IntKind.u64.max) (rd l1 4))).bind fun t193 => (if 7 < (l1.length : Int) then ((imprimaturref02_Words_cut.f a0_0 a0_1 (IntKind.u64.wrap ((IntKind.u64.wrap ((IntKind.u64.wrap ((IntKind.u64.wrap ((IntKind.u64.wrap ((IntKind.u64.wrap ((rd l1 7) + t191)) + (Go.bits .or .u64 (Go.bits .and .u64 (rd l1 4) (rd l1 5)) (Go.bits .and .u64 t193 (rd l1 6))))) + (IntKind.u64.wrap (Int.tdiv a2 4294967296)))) + a3)) + t192)) + (Go.bits .or .u64 (Go.bits .or .u64 (Go.bits .and .u64 (rd l1 0) (rd l1 1)) (Go.bits .and .u64 (rd l1 0) (rd l1 2))) (Go.bits .and .u64 (rd l1 1) (rd l1 2)))))).bind fun t195 => (if 3 < (l1.length : Int) then ((imprimaturref02_Words_cut.f a0_0 a0_1 (IntKind.u64.wrap ((rd l1 3) + (IntKind.u64.wrap ((IntKind.u64.wrap ((IntKind.u64.wrap ((IntKind.u64.wrap ((rd l1 7) + t191)) + (Go.bits .or .u64 (Go.bits .and .u64 (rd l1 4) (rd l1 5)) (Go.bits .and .u64 t193 (rd l1 6))))) + (IntKind.u64.wrap (Int.tdiv a2 4294967296)))) + a3))))).bind fun t197 => (some (([t195, rd l1 0, rd l1 1, rd l1 2, t197, rd l1 4, rd l1 5, rd l1 6] : List Int)))) else (none))) else (none)))) = some r := H
                have A32 := Aside0.mk A320
                clear A320
                replace H := Option.bind_eq_some_iff.mp H
                obtain ⟨t192, A330, H⟩ := H
                replace H : ((imprimaturref02_Words_cut.f a0_0 a0_1 (Go.bits .xor .u64 (if IntKind.u64.signed = true then -1 else IntKind.u64.max) (rd l1 4))).bind fun t193 => (if 7 < (l1.length : Int) then ((imprimaturref02_Words_cut.f a0_0 a0_1 (IntKind.u64.wrap ((IntKind.u64.wrap ((IntKind.u64.wrap ((IntKind.u64.wrap ((IntKind.u64.wrap ((IntKind.u64.wrap ((rd l1 7) + t191)) + (Go.bits .or .u64 (Go.bits .and .u64 (rd l1 4) (rd l1 5)) (Go.bits .and .u64 t193 (rd l1 6))))) + (IntKind.u64.wrap (Int.tdiv a2 4294967296)))) + a3)) + t192)) + (Go.bits .or .u64 (Go.bits .or .u64 (Go.bits .and .u64 (rd l1 0) (rd l1 1)) (Go.bits .and .u64 (rd l1 0) (rd l1 2))) (Go.bits .and .u64 (rd l1 1) (rd l1 2)))))).bind fun t195 => (if 3 < (l1.length : Int) then ((imprimaturref02_Words_cut.f a0_0 a0_1 (IntKind.u64.wrap ((rd l1 3) + (IntKind.u64.wrap ((IntKind.u64.wrap ((IntKind.u64.wrap ((IntKind.u64.wrap ((rd l1 7) + t191)) + (Go.bits .or .u64 (Go.bits .and .u64 (rd l1 4) (rd l1 5)) (Go.bits .and .u64 t193 (rd l1 6))))) + (IntKind.u64.wrap (Int.tdiv a2 4294967296)))) + a3))))).bind fun t197 => (some (([t195, rd l1 0, rd l1 1, rd l1 2, t197, rd l1 4, rd l1 5, rd l1 6] : List Int)))) else (none))) else (none))) = some r := H
                have A33 := Aside0.mk A330
                clear A330
                replace H := Option.bind_eq_some_iff.mp H
                obtain ⟨t193, A340, H⟩ := H
                replace H : (if 7 < (l1.length : Int) then ((imprimaturref02_Words_cut.f a0_0 a0_1 (IntKind.u64.wrap ((IntKind.u64.wrap ((IntKind.u64.wrap ((IntKind.u64.wrap ((IntKind.u64.wrap ((IntKind.u64.wrap ((rd l1 7) + t191)) + (Go.bits .or .u64 (Go.bits .and .u64 (rd l1 4) (rd l1 5)) (Go.bits .and .u64 t193 (rd l1 6))))) + (IntKind.u64.wrap (Int.tdiv a2 4294967296)))) + a3)) + t192)) + (Go.bits .or .u64 (Go.bits .or .u64 (Go.bits .and .u64 (rd l1 0) (rd l1 1)) (Go.bits .and .u64 (rd l1 0) (rd l1 2))) (Go.bits .and .u64 (rd l1 1) (rd l1 2)))))).bind fun t195 => (if 3 < (l1.length : Int) then ((imprimaturref02_Words_cut.f a0_0 a0_1 (IntKind.u64.wrap ((rd l1 3) + (IntKind.u64.wrap ((IntKind.u64.wrap ((IntKind.u64.wrap ((IntKind.u64.wrap ((rd l1 7) + t191)) + (Go.bits .or .u64 (Go.bits .and .u64 (rd l1 4) (rd l1 5)) (Go.bits .and .u64 t193 (rd l1 6))))) + (IntKind.u64.wrap (Int.tdiv a2 4294967296)))) + a3))))).bind fun t197 => (some (([t195, rd l1 0, rd l1 1, rd l1 2, t197, rd l1 4, rd l1 5, rd l1 6] : List Int)))) else (none))) else (none)) = some r := H
                have A34 := Aside0.mk A340
                clear A340
                by_cases c35 : 7 < (l1.length : Int)
                · rw [if_pos c35] at H
                  have c35b0 : decide (7 < (l1.length : Int)) = true := decide_eq_true c35
                  have c35b1 : decide (7 < l1.length) = true := decide_eq_true (by omega)
                  clear c35
                  replace H := Option.bind_eq_some_iff.mp H
                  obtain ⟨t195, A360, H⟩ := H
                  replace H : (if 3 < (l1.length : Int) then ((imprimaturref02_Words_cut.f a0_0 a0_1 (IntKind.u64.wrap ((rd l1 3) + (IntKind.u64.wrap ((IntKind.u64.wrap ((IntKind.u64.wrap ((IntKind.u64.wrap ((rd l1 7) + t191)) + (Go.bits .or .u64 (Go.bits .and .u64 (rd l1 4) (rd l1 5)) (Go.bits .and .u64 t193 (rd l1 6))))) + (IntKind.u64.wrap (Int.tdiv a2 4294967296)))) + a3))))).bind fun t197 => (some (([t195, rd l1 0, rd l1 1, rd l1 2, t197, rd l1 4, rd l1 5, rd l1 6] : List Int)))) else (none)) = some r := H
                  have A36 := Aside0.mk A360
                  clear A360
                  by_cases c37 : 3 < (l1.length : Int)
                  · rw [if_pos c37] at H
                    have c37b0 : decide (3 < (l1.length : Int)) = true := decide_eq_true c37
                    have c37b1 : decide (3 < l1.length) = true := decide_eq_true (by omega)
                    clear c37
                    replace H := Option.bind_eq_some_iff.mp H
                    obtain ⟨t197, A380, H⟩ := H
                    replace H : (some (([t195, rd l1 0, rd l1 1, rd l1 2, t197, rd l1 4, rd l1 5, rd l1 6] : List Int))) = some r := H
                    have A38 := Aside0.mk A380
                    clear A380
                    obtain ⟨y198, hy198⟩ : ∃ y_ : List Int, y_ = (([t195, rd l1 0, rd l1 1, rd l1 2, t197, rd l1 4, rd l1 5, rd l1 6] : List Int)) := ⟨_, rfl⟩
                    replace H : (some y198) = some r := by first | (rw [hy198]; with_reducible exact H) | (have H2_ := (Option.bind_some _ _).symm.trans H; rw [hy198]; with_reducible exact H2_) | (have H2_ := (Option.bind_some _ _).symm.trans H; with_reducible exact H2_) | with_reducible exact H | (rw [hy198]; exact H) | exact H
                    have Ny198 := Aside0.mk hy198
                    clear hy198
                    obtain rfl := Option.some.inj H
                    go_enter Tryz.func88, Tryz.ntmps88
                    try go_wp2_with (first | ((with_reducible refine gate_dst (N := 4) rfl ?_); refine box_event ?hg (N := 4) ?hd (cs := #[.int .u64 a0_0, .int .u64 a0_1]) (t := 125) ?hr ?_; (case hd => rfl); (case hg => rfl); (case hr => first | (go_simp; done) | (go_simp; rfl)); intro gb174 hg w39 hbox hb; have n0_ := Aside0.mk (below_step (by repeat (first | (with_reducible first | exact HB.out | apply below_alloc | apply pw_below_drewN | apply below_drew1) | exact HB.out)) hb); have n1_ := Aside0.mk (hbox); have n2_ := Aside0.mk ((by rw [hg]; exact (below_size (by repeat (first | (with_reducible first | exact HB.out | apply below_alloc | apply pw_below_drewN | apply below_drew1) | exact HB.out))) : w.heap.size ≤ gb174)); have n3_ := Aside0.mk ((by rw [hg]; exact (below_size (by repeat (first | (with_reducible first | exact HB.out | apply below_alloc | apply pw_below_drewN | apply below_drew1) | exact HB.out))) : w.heap.size ≤ gb174)); clear HB; have HB := n0_; have BK174 := n1_; have GW174 := n2_; have GE174 := n3_; clear n0_ n1_ n2_ n3_; clear hb hbox hg))
                    have n0_ := Aside0.mk (blk_drew BK174.out)
                    have n1_ := Aside0.mk (below_drew1 HB.out)
                    clear BK174
                    clear HB
                    have BK174 := n0_
                    have HB := n1_
                    clear n0_ n1_
                    have p175 : 0 ≤ (0 : Int) := (by omega)
                    have q175 : 0 < (l1.length : Int) := of_decide_eq_true (by first | (with_reducible assumption) | assumption)
                    obtain ⟨ad175, e175, hx175_0⟩ := Kd.at_int HR1.out 0 p175 q175
                    have hw175_0 := hx175_0
                    (try rw [show ((0 : Int)).toNat = 0 from rfl] at hw175_0)
                    (try rw [show 0 * 1 = 0 from rfl] at hw175_0)
                    (try rw [Addr.add_zero'] at hw175_0)
                    cases e175
                    have qi175 : (0 < l1.length) = True := eq_true (by omega)
                    (try rw [show ((0 : Int)).toNat = 0 from rfl] at hx175_0)
                    (try rw [Addr.add_zero'] at hx175_0)
                    replace hx175_0 := (HB.out.cell (World.block_lt_of_cell? w _ hx175_0)).trans hx175_0
                    replace p175 := eq_true p175
                    replace q175 := eq_true q175
                    have p176 : 0 ≤ (1 : Int) := (by omega)
                    have q176 : 1 < (l1.length : Int) := of_decide_eq_true (by first | (with_reducible assumption) | assumption)
                    obtain ⟨ad176, e176, hx176_0⟩ := Kd.at_int HR1.out 1 p176 q176
                    have hw176_0 := hx176_0
                    (try rw [show ((1 : Int)).toNat = 1 from rfl] at hw176_0)
                    (try rw [show 1 * 1 = 1 from rfl] at hw176_0)
                    (try simp only [Nat.reduceMul, Nat.reduceEqDiff, Go.Addr.add, ↓reduceIte] at hw176_0)
                    obtain rfl : ad175 = ad176 := (by injection e176)
                    (try simp only [show (1 : Int).toNat = 1 from rfl, Nat.reduceMul, Nat.reduceEqDiff, Go.Addr.add, ↓reduceIte] at hx176_0)
                    have qi176 : (1 < l1.length) = True := eq_true (by omega)
                    (try rw [show ((1 : Int)).toNat = 1 from rfl] at hx176_0)
                    replace hx176_0 := (HB.out.cell (World.block_lt_of_cell? w _ hx176_0)).trans hx176_0
                    replace p176 := eq_true p176
                    replace q176 := eq_true q176
                    have p177 : 0 ≤ (2 : Int) := (by omega)
                    have q177 : 2 < (l1.length : Int) := of_decide_eq_true (by first | (with_reducible assumption) | assumption)
                    obtain ⟨ad177, e177, hx177_0⟩ := Kd.at_int HR1.out 2 p177 q177
                    have hw177_0 := hx177_0
                    (try rw [show ((2 : Int)).toNat = 2 from rfl] at hw177_0)
                    (try rw [show 2 * 1 = 2 from rfl] at hw177_0)
                    (try simp only [Nat.reduceMul, Nat.reduceEqDiff, Go.Addr.add, ↓reduceIte] at hw177_0)
                    obtain rfl : ad175 = ad177 := (by injection e177)
                    (try simp only [show (2 : Int).toNat = 2 from rfl, Nat.reduceMul, Nat.reduceEqDiff, Go.Addr.add, ↓reduceIte] at hx177_0)
                    have qi177 : (2 < l1.length) = True := eq_true (by omega)
                    (try rw [show ((2 : Int)).toNat = 2 from rfl] at hx177_0)
                    replace hx177_0 := (HB.out.cell (World.block_lt_of_cell? w _ hx177_0)).trans hx177_0
                    replace p177 := eq_true p177
                    replace q177 := eq_true q177
                    have p178 : 0 ≤ (4 : Int) := (by omega)
                    have q178 : 4 < (l1.length : Int) := of_decide_eq_true (by first | (with_reducible assumption) | assumption)
                    obtain ⟨ad178, e178, hx178_0⟩ := Kd.at_int HR1.out 4 p178 q178
                    have hw178_0 := hx178_0
                    (try rw [show ((4 : Int)).toNat = 4 from rfl] at hw178_0)
                    (try rw [show 4 * 1 = 4 from rfl] at hw178_0)
                    (try simp only [Nat.reduceMul, Nat.reduceEqDiff, Go.Addr.add, ↓reduceIte] at hw178_0)
                    obtain rfl : ad175 = ad178 := (by injection e178)
                    (try simp only [show (4 : Int).toNat = 4 from rfl, Nat.reduceMul, Nat.reduceEqDiff, Go.Addr.add, ↓reduceIte] at hx178_0)
                    have qi178 : (4 < l1.length) = True := eq_true (by omega)
                    (try rw [show ((4 : Int)).toNat = 4 from rfl] at hx178_0)
                    replace hx178_0 := (HB.out.cell (World.block_lt_of_cell? w _ hx178_0)).trans hx178_0
                    replace p178 := eq_true p178
                    replace q178 := eq_true q178
                    have p179 : 0 ≤ (5 : Int) := (by omega)
                    have q179 : 5 < (l1.length : Int) := of_decide_eq_true (by first | (with_reducible assumption) | assumption)
                    obtain ⟨ad179, e179, hx179_0⟩ := Kd.at_int HR1.out 5 p179 q179
                    have hw179_0 := hx179_0
                    (try rw [show ((5 : Int)).toNat = 5 from rfl] at hw179_0)
                    (try rw [show 5 * 1 = 5 from rfl] at hw179_0)
                    (try simp only [Nat.reduceMul, Nat.reduceEqDiff, Go.Addr.add, ↓reduceIte] at hw179_0)
                    obtain rfl : ad175 = ad179 := (by injection e179)
                    (try simp only [show (5 : Int).toNat = 5 from rfl, Nat.reduceMul, Nat.reduceEqDiff, Go.Addr.add, ↓reduceIte] at hx179_0)
                    have qi179 : (5 < l1.length) = True := eq_true (by omega)
                    (try rw [show ((5 : Int)).toNat = 5 from rfl] at hx179_0)
                    replace hx179_0 := (HB.out.cell (World.block_lt_of_cell? w _ hx179_0)).trans hx179_0
                    replace p179 := eq_true p179
                    replace q179 := eq_true q179
                    have p180 : 0 ≤ (6 : Int) := (by omega)
                    have q180 : 6 < (l1.length : Int) := of_decide_eq_true (by first | (with_reducible assumption) | assumption)
                    obtain ⟨ad180, e180, hx180_0⟩ := Kd.at_int HR1.out 6 p180 q180
                    have hw180_0 := hx180_0
                    (try rw [show ((6 : Int)).toNat = 6 from rfl] at hw180_0)
                    (try rw [show 6 * 1 = 6 from rfl] at hw180_0)
                    (try simp only [Nat.reduceMul, Nat.reduceEqDiff, Go.Addr.add, ↓reduceIte] at hw180_0)
                    obtain rfl : ad175 = ad180 := (by injection e180)
                    (try simp only [show (6 : Int).toNat = 6 from rfl, Nat.reduceMul, Nat.reduceEqDiff, Go.Addr.add, ↓reduceIte] at hx180_0)
                    have qi180 : (6 < l1.length) = True := eq_true (by omega)
                    (try rw [show ((6 : Int)).toNat = 6 from rfl] at hx180_0)
                    replace hx180_0 := (HB.out.cell (World.block_lt_of_cell? w _ hx180_0)).trans hx180_0
                    replace p180 := eq_true p180
                    replace q180 := eq_true q180
                    refine start_ (n := 24) (S := fun w' => w'.cell? ad175 = some (.int .u64 (rd l1 0)) ∧ w'.cell? ⟨ad175.block, ad175.off + 1, none⟩ = some (.int .u64 (rd l1 1)) ∧ w'.cell? ⟨ad175.block, ad175.off + 2, none⟩ = some (.int .u64 (rd l1 2)) ∧ w'.cell? ⟨ad175.block, ad175.off + 4, none⟩ = some (.int .u64 (rd l1 4)) ∧ w'.cell? ⟨ad175.block, ad175.off + 5, none⟩ = some (.int .u64 (rd l1 5)) ∧ w'.cell? ⟨ad175.block, ad175.off + 6, none⟩ = some (.int .u64 (rd l1 6))) (ds := []) (bz 24 0) (by kernel_rfl) rfl rfl ⟨((HB.out.cell (World.block_lt_of_cell? w _ hw175_0)).trans hw175_0), ((HB.out.cell (World.block_lt_of_cell? w _ hw176_0)).trans hw176_0), ((HB.out.cell (World.block_lt_of_cell? w _ hw177_0)).trans hw177_0), ((HB.out.cell (World.block_lt_of_cell? w _ hw178_0)).trans hw178_0), ((HB.out.cell (World.block_lt_of_cell? w _ hw179_0)).trans hw179_0), ((HB.out.cell (World.block_lt_of_cell? w _ hw180_0)).trans hw180_0)⟩ (fun hHeld => ?_); refine with_tabW imprimaturref02_Words_round.tab1 imprimaturref02_Words_round.bits1 (fun HT_ HW_ => ?_)
                    generalize w39.drew = w40 at BK174 HB hx175_0 hx176_0 hx177_0 hx178_0 hx179_0 hx180_0 hHeld ⊢
                    refine xpz 0 (some 20) (bz 24 1) (any_of HT_.out (by kernel_rfl)) ?_
                    refine xpz 1 (some 21) (bz 24 3) (any_of HT_.out (by kernel_rfl)) ?_
                    refine xpz 3 (some 23) (bz 24 11) (any_of HT_.out (by kernel_rfl)) ?_
                    refine xpz 4 (some 24) (bz 24 27) (any_of HT_.out (by kernel_rfl)) ?_
                    refine xpz 6 (some 26) (bz 24 91) (any_of HT_.out (by kernel_rfl)) ?_
                    refine xpz 7 (some 27) (bz 24 219) (any_of HT_.out (by kernel_rfl)) ?_
                    refine xpz 9 (some 29) (bz 24 731) (any_of HT_.out (by kernel_rfl)) ?_
                    refine xpz 10 (some 30) (bz 24 1755) (any_of HT_.out (by kernel_rfl)) ?_
                    refine xpz 12 (some 32) (bz 24 5851) (any_of HT_.out (by kernel_rfl)) ?_
                    refine xpz 13 (some 33) (bz 24 14043) (any_of HT_.out (by kernel_rfl)) ?_
                    refine xpz 15 (some 35) (bz 24 46811) (any_of HT_.out (by kernel_rfl)) ?_
                    refine xpz 16 (some 36) (bz 24 112347) (any_of HT_.out (by kernel_rfl)) ?_
                    refine xtz6 2 (some 22) (bz 24 112351) (take_ofW HT_.out HW_.out (by kernel_rfl)) hHeld ?_
                    refine xpz 18 (some 9) (bz 24 374495) (any_of HT_.out (by kernel_rfl)) ?_
                    refine xtz6 5 (some 25) (bz 24 374527) (take_ofW HT_.out HW_.out (by kernel_rfl)) hHeld ?_
                    refine xpz 19 (some 10) (bz 24 898815) (any_of HT_.out (by kernel_rfl)) ?_
                    refine xtz6 8 (some 28) (bz 24 899071) (take_ofW HT_.out HW_.out (by kernel_rfl)) hHeld ?_
                    refine xpz 20 (some 11) (bz 24 1947647) (any_of HT_.out (by kernel_rfl)) ?_
                    refine xtz6 11 (some 31) (bz 24 1949695) (take_ofW HT_.out HW_.out (by kernel_rfl)) hHeld ?_
                    refine xpz 21 (some 12) (bz 24 4046847) (any_of HT_.out (by kernel_rfl)) ?_
                    refine xtz6 14 (some 34) (bz 24 4063231) (take_ofW HT_.out HW_.out (by kernel_rfl)) hHeld ?_
                    refine xpz 22 (some 13) (bz 24 8257535) (any_of HT_.out (by kernel_rfl)) ?_
                    refine xtz6 17 (some 37) (bz 24 8388607) (take_ofW HT_.out HW_.out (by kernel_rfl)) hHeld ?_
                    refine xpz 23 (some 14) (bz 24 16777215) (any_of HT_.out (by kernel_rfl)) ?_
                    refine done_ (done_of HT_.out (by kernel_rfl)) ?_
                    have hcz41_0 : w40.cell? ⟨gb174, 0, none⟩ = some (.int .u64 a0_0) := (blk_cell BK174.out 0).trans rfl
                    have hcz41_1 : w40.cell? ⟨gb174, 1, none⟩ = some (.int .u64 a0_1) := (blk_cell BK174.out 1).trans rfl
                    have hfz41_0 := blk_frozen BK174.out 0
                    have hfz41_1 := blk_frozen BK174.out 1
                    try go_wp2_with (first | ((with_reducible refine gate_callee (f := 98) rfl ?_); refine goesL_ (some 43) rfl rfl Tryz.func98 (by kernel_rfl) rfl #[.agg #[.int .u64 a0_0, .int .u64 a0_1], .int .u64 (rd l1 4), .int .u64 6, .int .u64 11, .int .u64 25] rfl (by (try simp only [List.map_toArray, List.map_cons, List.map_nil]); first | done | rfl | (simp only [List.length_drop, List.length_take]; rfl)) ?_; (with_reducible refine (imprimaturref02_Words_big.calls a0_0 a0_1 (rd l1 4) 6 11 25 t191 _ A32.out).mono ?_); rintro e w42 ⟨rfl, hb⟩; refine ⟨_, rfl, ?_⟩; have n0_ := Aside0.mk (blk_below (g := gb174) (o := .cells #[.int .u64 a0_0, .int .u64 a0_1] 125 (0, 0)) (by (with_reducible repeat (first | refine blk_drewN ?_ _ | refine blk_drew ?_ | refine blk_alloc ?_ _)); exact BK174.out) hb); have n1_ := Aside0.mk (below_step (by repeat (first | (with_reducible first | exact HB.out | apply below_alloc | apply pw_below_drewN | apply below_drew1 | refine below_set ?_ GE174.out) | exact HB.out)) hb); clear BK174; clear HB; have BK174 := n0_; have HB := n1_; clear n0_ n1_; (try clear hb); (try clear hb2); (try clear hk); (try clear hi); have hcz43_0 : w42.cell? ⟨gb174, 0, none⟩ = some (.int .u64 a0_0) := (blk_cell BK174.out 0).trans rfl; have hcz43_1 : w42.cell? ⟨gb174, 1, none⟩ = some (.int .u64 a0_1) := (blk_cell BK174.out 1).trans rfl; have hfz43_0 := blk_frozen BK174.out 0; have hfz43_1 := blk_frozen BK174.out 1) | ((with_reducible refine gate_callee (f := 98) rfl ?_); refine goesL_ (some 46) rfl rfl Tryz.func98 (by kernel_rfl) rfl #[.agg #[.int .u64 a0_0, .int .u64 a0_1], .int .u64 (rd l1 0), .int .u64 2, .int .u64 13, .int .u64 22] rfl (by (try simp only [List.map_toArray, List.map_cons, List.map_nil]); first | done | rfl | (simp only [List.length_drop, List.length_take]; rfl)) ?_; (with_reducible refine (imprimaturref02_Words_big.calls a0_0 a0_1 (rd l1 0) 2 13 22 t192 _ A33.out).mono ?_); rintro e w44 ⟨rfl, hb⟩; refine ⟨_, rfl, ?_⟩; have n0_ := Aside0.mk (blk_below (g := gb174) (o := .cells #[.int .u64 a0_0, .int .u64 a0_1] 125 (0, 0)) (by (with_reducible repeat (first | refine blk_drewN ?_ _ | refine blk_drew ?_ | refine blk_alloc ?_ _)); exact BK174.out) hb); have n1_ := Aside0.mk (below_step (by repeat (first | (with_reducible first | exact HB.out | apply below_alloc | apply pw_below_drewN | apply below_drew1 | refine below_set ?_ GE174.out) | exact HB.out)) hb); clear BK174; clear HB; have BK174 := n0_; have HB := n1_; clear n0_ n1_; (try clear hb); (try clear hb2); (try clear hk); (try clear hi); have hcz45_0 : w44.cell? ⟨gb174, 0, none⟩ = some (.int .u64 a0_0) := (blk_cell BK174.out 0).trans rfl; have hcz45_1 : w44.cell? ⟨gb174, 1, none⟩ = some (.int .u64 a0_1) := (blk_cell BK174.out 1).trans rfl; have hfz45_0 := blk_frozen BK174.out 0; have hfz45_1 := blk_frozen BK174.out 1) | ((with_reducible refine gate_callee (f := 89) rfl ?_); refine goesL_ (some 61) rfl rfl Tryz.func89 (by kernel_rfl) rfl #[.agg #[.int .u64 a0_0, .int .u64 a0_1], .int .u64 (Go.bits .xor .u64 (if IntKind.u64.signed = true then -1 else IntKind.u64.max) (rd l1 4))] rfl (by (try simp only [List.map_toArray, List.map_cons, List.map_nil]); first | done | rfl | (simp only [List.length_drop, List.length_take]; rfl)) ?_; (with_reducible refine (imprimaturref02_Words_cut.calls a0_0 a0_1 (Go.bits .xor .u64 (if IntKind.u64.signed = true then -1 else IntKind.u64.max) (rd l1 4)) t193 _ A34.out).mono ?_); rintro e w46 ⟨rfl, hb⟩; refine ⟨_, rfl, ?_⟩; have n0_ := Aside0.mk (blk_below (g := gb174) (o := .cells #[.int .u64 a0_0, .int .u64 a0_1] 125 (0, 0)) (by (with_reducible repeat (first | refine blk_drewN ?_ _ | refine blk_drew ?_ | refine blk_alloc ?_ _)); exact BK174.out) hb); have n1_ := Aside0.mk (below_step (by repeat (first | (with_reducible first | exact HB.out | apply below_alloc | apply pw_below_drewN | apply below_drew1 | refine below_set ?_ GE174.out) | exact HB.out)) hb); clear BK174; clear HB; have BK174 := n0_; have HB := n1_; clear n0_ n1_; (try clear hb); (try clear hb2); (try clear hk); (try clear hi); have p194 : 0 ≤ (7 : Int) := (by omega); have q194 : 7 < (l1.length : Int) := of_decide_eq_true (by first | (with_reducible assumption) | assumption); obtain ⟨ad194, e194, hx194_0⟩ := Kd.at_int HR1.out 7 p194 q194; obtain rfl : ad175 = ad194 := (by injection e194); (try simp only [show (7 : Int).toNat = 7 from rfl, Nat.reduceMul, Nat.reduceEqDiff, Go.Addr.add, ↓reduceIte] at hx194_0); have qi194 : (7 < l1.length) = True := eq_true (by omega); (try rw [show ((7 : Int)).toNat = 7 from rfl] at hx194_0); replace hx194_0 := (HB.out.cell (World.block_lt_of_cell? w _ hx194_0)).trans hx194_0; replace p194 := eq_true p194; replace q194 := eq_true q194))
                    have n0_ := Aside0.mk (blk_drew BK174.out)
                    have n1_ := Aside0.mk (below_drew1 HB.out)
                    clear BK174
                    clear HB
                    have BK174 := n0_
                    have HB := n1_
                    clear n0_ n1_
                    have p196 : 0 ≤ (3 : Int) := (by omega)
                    have q196 : 3 < (l1.length : Int) := of_decide_eq_true (by first | (with_reducible assumption) | assumption)
                    obtain ⟨ad196, e196, hx196_0⟩ := Kd.at_int HR1.out 3 p196 q196
                    have hw196_0 := hx196_0
                    (try rw [show ((3 : Int)).toNat = 3 from rfl] at hw196_0)
                    (try rw [show 3 * 1 = 3 from rfl] at hw196_0)
                    (try simp only [Nat.reduceMul, Nat.reduceEqDiff, Go.Addr.add, ↓reduceIte] at hw196_0)
                    obtain rfl : ad175 = ad196 := (by injection e196)
                    (try simp only [show (3 : Int).toNat = 3 from rfl, Nat.reduceMul, Nat.reduceEqDiff, Go.Addr.add, ↓reduceIte] at hx196_0)
                    have qi196 : (3 < l1.length) = True := eq_true (by omega)
                    (try rw [show ((3 : Int)).toNat = 3 from rfl] at hx196_0)
                    replace hx196_0 := (HB.out.cell (World.block_lt_of_cell? w _ hx196_0)).trans hx196_0
                    replace p196 := eq_true p196
                    replace q196 := eq_true q196
                    refine start_ (n := 22) (S := fun w' => w'.cell? ⟨gb174, 0, none⟩ = some (.int .u64 a0_0) ∧ w'.cell? ⟨gb174, 1, none⟩ = some (.int .u64 a0_1) ∧ w'.cell? ⟨ad175.block, ad175.off + 3, none⟩ = some (.int .u64 (rd l1 3))) (ds := []) (bz 22 0) (by kernel_rfl) rfl rfl ⟨(blk_cell BK174.out 0).trans rfl, (blk_cell BK174.out 1).trans rfl, ((HB.out.cell (World.block_lt_of_cell? w _ hw196_0)).trans hw196_0)⟩ (fun hHeld => ?_); refine with_tabW imprimaturref02_Words_round.tab12 imprimaturref02_Words_round.bits12 (fun HT_ HW_ => ?_)
                    generalize w46.drew = w47 at BK174 HB hx196_0 hHeld ⊢
                    refine xpz 1 (some 88) (bz 22 2) (any_of HT_.out (by kernel_rfl)) ?_
                    refine xpz 2 (some 89) (bz 22 6) (any_of HT_.out (by kernel_rfl)) ?_
                    refine xpz 3 (some 90) (bz 22 14) (any_of HT_.out (by kernel_rfl)) ?_
                    refine xpz 4 (some 91) (bz 22 30) (any_of HT_.out (by kernel_rfl)) ?_
                    refine xpz 5 (some 92) (bz 22 62) (any_of HT_.out (by kernel_rfl)) ?_
                    refine xpz 7 (some 94) (bz 22 190) (any_of HT_.out (by kernel_rfl)) ?_
                    refine xpz 8 (some 95) (bz 22 446) (any_of HT_.out (by kernel_rfl)) ?_
                    refine xpz 9 (some 96) (bz 22 958) (any_of HT_.out (by kernel_rfl)) ?_
                    refine xpz 11 (some 98) (bz 22 3006) (any_of HT_.out (by kernel_rfl)) ?_
                    refine xpz 12 (some 99) (bz 22 7102) (any_of HT_.out (by kernel_rfl)) ?_
                    refine xpz 14 (some 101) (bz 22 23486) (any_of HT_.out (by kernel_rfl)) ?_
                    refine xpz 17 (some 104) (bz 22 154558) (any_of HT_.out (by kernel_rfl)) ?_
                    refine xpz 18 (some 105) (bz 22 416702) (any_of HT_.out (by kernel_rfl)) ?_
                    refine xpz 19 (some 106) (bz 22 940990) (any_of HT_.out (by kernel_rfl)) ?_
                    refine xtz3 0 (some 87) (bz 22 940991) (take_ofW HT_.out HW_.out (by kernel_rfl)) hHeld ?_
                    refine xtz3 10 (some 97) (bz 22 942015) (take_ofW HT_.out HW_.out (by kernel_rfl)) hHeld ?_
                    refine xtz3 13 (some 100) (bz 22 950207) (take_ofW HT_.out HW_.out (by kernel_rfl)) hHeld ?_
                    refine xpz 15 (some 102) (bz 22 982975) (any_of HT_.out (by kernel_rfl)) ?_
                    refine one_ (i := 6) (N := some 93) (bz 22 983039) rfl rfl (one_of HT_.out (by kernel_rfl)) (by decide) (fun K hK => ?_)
                    refine goes_ Tryz.func89 (by kernel_rfl) rfl #[.agg #[.int .u64 a0_0, .int .u64 a0_1], .int .u64 (IntKind.u64.wrap ((IntKind.u64.wrap ((IntKind.u64.wrap ((IntKind.u64.wrap ((IntKind.u64.wrap ((IntKind.u64.wrap ((rd l1 7) + t191)) + (Go.bits .or .u64 (Go.bits .and .u64 (rd l1 4) (rd l1 5)) (Go.bits .and .u64 t193 (rd l1 6))))) + (IntKind.u64.wrap (Int.tdiv a2 4294967296)))) + a3)) + t192)) + (Go.bits .or .u64 (Go.bits .or .u64 (Go.bits .and .u64 (rd l1 0) (rd l1 1)) (Go.bits .and .u64 (rd l1 0) (rd l1 2))) (Go.bits .and .u64 (rd l1 1) (rd l1 2)))))] (by rfl) rfl rfl (by (try simp only [List.map_toArray, List.map_cons, List.map_nil]); first | done | rfl | (simp only [List.length_drop, List.length_take]; rfl)) ?_
                    with_reducible refine (imprimaturref02_Words_cut.calls a0_0 a0_1 (IntKind.u64.wrap ((IntKind.u64.wrap ((IntKind.u64.wrap ((IntKind.u64.wrap ((IntKind.u64.wrap ((IntKind.u64.wrap ((rd l1 7) + t191)) + (Go.bits .or .u64 (Go.bits .and .u64 (rd l1 4) (rd l1 5)) (Go.bits .and .u64 t193 (rd l1 6))))) + (IntKind.u64.wrap (Int.tdiv a2 4294967296)))) + a3)) + t192)) + (Go.bits .or .u64 (Go.bits .or .u64 (Go.bits .and .u64 (rd l1 0) (rd l1 1)) (Go.bits .and .u64 (rd l1 0) (rd l1 2))) (Go.bits .and .u64 (rd l1 1) (rd l1 2))))) t195 _ A36.out).mono ?_
                    rintro e w48 ⟨rfl, hb⟩
                    refine ⟨_, rfl, ?_⟩
                    have n0_ := Aside0.mk (blk_below (g := gb174) (o := .cells #[.int .u64 a0_0, .int .u64 a0_1] 125 (0, 0)) (by (with_reducible repeat (first | refine blk_drewN ?_ _ | refine blk_drew ?_ | refine blk_alloc ?_ _)); exact BK174.out) hb)
                    have n1_ := Aside0.mk (below_step (by repeat (first | (with_reducible first | exact HB.out | apply below_alloc | apply pw_below_drewN | apply below_drew1 | refine below_set ?_ GE174.out) | exact HB.out)) hb)
                    clear BK174
                    clear HB
                    have BK174 := n0_
                    have HB := n1_
                    clear n0_ n1_
                    (try clear hb)
                    (try clear hb2)
                    (try clear hk)
                    (try clear hi)
                    refine hK.out _ _ ⟨(blk_cell BK174.out 0).trans rfl, (blk_cell BK174.out 1).trans rfl, ((HB.out.cell (World.block_lt_of_cell? w _ hw196_0)).trans hw196_0)⟩ (fun hHeld => ?_)
                    clear hK K
                    refine norm_ (a' := ?_) ?_ ?_
                    rotate_left
                    · show Act.put _ (some 93) _ = _
                      simp only [Act.put, List.setIfInBounds_toArray, List.set_cons_zero, List.set_cons_succ, i64_w, i32_w]
                      rfl
                    refine one_ (i := 16) (N := some 103) (bz 22 1048575) rfl rfl (one_of HT_.out (by kernel_rfl)) (by decide) (fun K hK => ?_)
                    refine goes_ Tryz.func89 (by kernel_rfl) rfl #[.agg #[.int .u64 a0_0, .int .u64 a0_1], .int .u64 (IntKind.u64.wrap ((rd l1 3) + (IntKind.u64.wrap ((IntKind.u64.wrap ((IntKind.u64.wrap ((IntKind.u64.wrap ((rd l1 7) + t191)) + (Go.bits .or .u64 (Go.bits .and .u64 (rd l1 4) (rd l1 5)) (Go.bits .and .u64 t193 (rd l1 6))))) + (IntKind.u64.wrap (Int.tdiv a2 4294967296)))) + a3))))] (by rfl) rfl rfl (by (try simp only [List.map_toArray, List.map_cons, List.map_nil]); first | done | rfl | (simp only [List.length_drop, List.length_take]; rfl)) ?_
                    with_reducible refine (imprimaturref02_Words_cut.calls a0_0 a0_1 (IntKind.u64.wrap ((rd l1 3) + (IntKind.u64.wrap ((IntKind.u64.wrap ((IntKind.u64.wrap ((IntKind.u64.wrap ((rd l1 7) + t191)) + (Go.bits .or .u64 (Go.bits .and .u64 (rd l1 4) (rd l1 5)) (Go.bits .and .u64 t193 (rd l1 6))))) + (IntKind.u64.wrap (Int.tdiv a2 4294967296)))) + a3)))) t197 _ A38.out).mono ?_
                    rintro e w49 ⟨rfl, hb⟩
                    refine ⟨_, rfl, ?_⟩
                    have n0_ := Aside0.mk (blk_below (g := gb174) (o := .cells #[.int .u64 a0_0, .int .u64 a0_1] 125 (0, 0)) (by (with_reducible repeat (first | refine blk_drewN ?_ _ | refine blk_drew ?_ | refine blk_alloc ?_ _)); exact BK174.out) hb)
                    have n1_ := Aside0.mk (below_step (by repeat (first | (with_reducible first | exact HB.out | apply below_alloc | apply pw_below_drewN | apply below_drew1 | refine below_set ?_ GE174.out) | exact HB.out)) hb)
                    clear BK174
                    clear HB
                    have BK174 := n0_
                    have HB := n1_
                    clear n0_ n1_
                    (try clear hb)
                    (try clear hb2)
                    (try clear hk)
                    (try clear hi)
                    refine hK.out _ _ ⟨(blk_cell BK174.out 0).trans rfl, (blk_cell BK174.out 1).trans rfl, ((HB.out.cell (World.block_lt_of_cell? w _ hw196_0)).trans hw196_0)⟩ (fun hHeld => ?_)
                    clear hK K
                    refine norm_ (a' := ?_) ?_ ?_
                    rotate_left
                    · show Act.put _ (some 103) _ = _
                      simp only [Act.put, List.setIfInBounds_toArray, List.set_cons_zero, List.set_cons_succ, i64_w, i32_w]
                      rfl
                    refine one_ (i := 20) (N := some 107) (bz 22 2097151) rfl rfl (one_of HT_.out (by kernel_rfl)) (by decide) (fun K hK => ?_)
                    refine Kd.R_lit_step (Kd.int .u64) _ 45 ?hg (N := 107) ?hd (xs := ([t195, rd l1 0, rd l1 1, rd l1 2, t197, rd l1 4, rd l1 5, rd l1 6] : List Int)) (inner := [.int .u64 t195, .int .u64 (rd l1 0), .int .u64 (rd l1 1), .int .u64 (rd l1 2), .int .u64 t197, .int .u64 (rd l1 4), .int .u64 (rd l1 5), .int .u64 (rd l1 6)]) (ok := fun _ => True) (okp := fun _ => True) ?hr ?hp (fun _ hk => hk) trivial (Below.refl _ _) (Nat.le_refl _) (by simp) ?_; (case hd => rfl); (case hg => rfl); (case hr => first | (go_simp; done) | (go_simp; rfl)); (case hp => exact (Reps.one (show Kd.M (Kd.int .u64) _ _ _ t195 [.int .u64 t195] from rfl) (Reps.one (show Kd.M (Kd.int .u64) _ _ _ (rd l1 0) [.int .u64 (rd l1 0)] from rfl) (Reps.one (show Kd.M (Kd.int .u64) _ _ _ (rd l1 1) [.int .u64 (rd l1 1)] from rfl) (Reps.one (show Kd.M (Kd.int .u64) _ _ _ (rd l1 2) [.int .u64 (rd l1 2)] from rfl) (Reps.one (show Kd.M (Kd.int .u64) _ _ _ t197 [.int .u64 t197] from rfl) (Reps.one (show Kd.M (Kd.int .u64) _ _ _ (rd l1 4) [.int .u64 (rd l1 4)] from rfl) (Reps.one (show Kd.M (Kd.int .u64) _ _ _ (rd l1 5) [.int .u64 (rd l1 5)] from rfl) (Reps.one (show Kd.M (Kd.int .u64) _ _ _ (rd l1 6) [.int .u64 (rd l1 6)] from rfl) (Reps.none _ _))))))))))
                    intro v199 w50 ho51 hb hg_ hnew_
                    clear hg_ hnew_
                    (first | rw [← Ny198.out] at ho51 | (simp only [Int.reduceToNat] at ho51; rw [← Ny198.out] at ho51))
                    have n0_ := Aside0.mk (Kd.R_lower ho51 (below_size (by repeat (first | (with_reducible first | exact HB.out | apply below_alloc | apply pw_below_drewN | apply below_drew1 | refine below_set ?_ GE174.out) | exact HB.out))))
                    have n1_ := Aside0.mk (blk_below (g := gb174) (o := .cells #[.int .u64 a0_0, .int .u64 a0_1] 125 (0, 0)) (by (with_reducible repeat (first | refine blk_drewN ?_ _ | refine blk_drew ?_ | refine blk_alloc ?_ _)); exact BK174.out) hb)
                    have n2_ := Aside0.mk (below_step (by repeat (first | (with_reducible first | exact HB.out | apply below_alloc | apply pw_below_drewN | apply below_drew1 | refine below_set ?_ GE174.out) | exact HB.out)) hb)
                    clear BK174
                    clear HB
                    have HO200 := n0_
                    have BK174 := n1_
                    have HB := n2_
                    clear n0_ n1_ n2_
                    clear hb ho51
                    refine hK.out _ _ ⟨(blk_cell BK174.out 0).trans rfl, (blk_cell BK174.out 1).trans rfl, ((HB.out.cell (World.block_lt_of_cell? w _ hw196_0)).trans hw196_0)⟩ (fun hHeld => ?_)
                    clear hK K
                    refine norm_ (a' := ?_) ?_ ?_
                    rotate_left
                    · show Act.put _ (some 107) _ = _
                      simp only [Act.put, List.setIfInBounds_toArray, List.set_cons_zero, List.set_cons_succ, i64_w, i32_w]
                      rfl
                    refine xpz 21 (some 8) (bz 22 4194303) (any_of HT_.out (by kernel_rfl)) ?_
                    refine done_ (done_of HT_.out (by kernel_rfl)) ?_
                    try go_wp2
                    go_ret
                    exact ⟨_, by first | rfl | (simp [errW_none, errW_some] <;> rfl) | (simp [*, errW_none, errW_some] <;> rfl), by (with_reducible repeat (first | apply Kd.R_alloc | apply Kd.R_drewN | apply Kd.R_drew)); exact HO200.out, by repeat (first | (with_reducible first | exact HB.out | apply below_alloc | apply pw_below_drewN | apply below_drew1 | refine below_set ?_ GE174.out) | exact HB.out)⟩
                  · rw [if_neg c37] at H
                    exact absurd H (by simp)
                · rw [if_neg c35] at H
                  exact absurd H (by simp)
            · rw [if_neg c10] at H
              exact absurd H (by simp)
          · rw [if_neg c9] at H
            exact absurd H (by simp)
        · rw [if_neg c8] at H
          exact absurd H (by simp)
      · rw [if_neg c7] at H
        exact absurd H (by simp)
    · rw [if_neg c6] at H
      exact absurd H (by simp)
  · rw [if_neg c5] at H
    exact absurd H (by simp)

end Go.Proofs.YtmblnflfklmmkaaGreatDoor.P
/- Contracts of package sha2: words. -/
namespace Go.Proofs.YtmblnflfklmmkaaGreatDoor.Sh
open Go.Proofs.YtmblnflfklmmkaaGreatDoor.Dk
open Go.RowKit Go.Proofs.YtmblnflfklmmkaaGreatDoorW.PrintWords Go.Proofs.YtmblnflfklmmkaaGreatDoorW.PrintLast Go.Proofs.YtmblnflfklmmkaaGreatDoorW.PrintMore
set_option linter.unusedVariables false
set_option linter.unusedSimpArgs false
set_option maxRecDepth 30000
variable {w w1 w2 wr : World}
def z80 : Array Value := (nums .u32 (List.replicate 80 0)).toArray
theorem run_alloc141 (w : World) : (Instr.alloc 137 true (.tuple #[])).run Tryz.prog w = .ok (.pointer (some ⟨w.heap.size, 0, none⟩)) (w.alloc (.cells z80 137)) := by kernel_rfl
theorem info141 (x : List Int) (h : x.length = 80) : (Tryz.prog.info? 137).map (·.size) = some (nums .u32 x).toArray.size := by rw [List.size_toArray, nums_length, h]; kernel_rfl
/-- Bytes in memory. -/
def Bys (w : World) (g o : Nat) (b : List Int) : Prop := ∀ j, j < b.length → w.cell? ⟨g, o + j, none⟩ = some (.int .u8 (b.getD j 0))
theorem Bys.below {g o : Nat} {b : List Int} (h : Bys w g o b) (hg : g < w.heap.size) (hb : Below w.heap.size w w1) : Bys w1 g o b := fun j hj => (cell_block (hb.block g hg) (o + j)).trans (h j hj)
/-- One byte goes into a word. -/
def in1 (x c : Int) : Int := Go.bits .or .u32 (x * 256 % 4294967296) (c % 4294967296)
def inR (b : List Int) (t : Nat) (xs : List Int) : Nat → List Int
  | 0 => xs
  | j + 1 => (inR b t xs j).set t (in1 ((inR b t xs j).getD t 0) (b.getD (t * 4 + j) 0))
def wordsA (b : List Int) : Nat → List Int
  | 0 => List.replicate 80 0
  | t + 1 => inR b t (wordsA b t) 4
theorem inR_length (b : List Int) (t : Nat) (xs : List Int) : ∀ j, (inR b t xs j).length = xs.length
  | 0 => rfl
  | j + 1 => by rw [inR, List.length_set]; exact inR_length b t xs j
theorem wordsA_length (b : List Int) : ∀ t, (wordsA b t).length = 80
  | 0 => by simp [wordsA]
  | t + 1 => by rw [wordsA, inR_length]; exact wordsA_length b t
def mixW (x16 x15 x7 x2 : Int) : Int := IntKind.u32.wrap (IntKind.u32.wrap (IntKind.u32.wrap (x16 + smallM x15 7 18 3) + x7) + smallM x2 17 19 10)
def wordsB (b : List Int) : Nat → List Int
  | 0 => wordsA b 16
  | k + 1 => (wordsB b k).set (k + 16) (mixW ((wordsB b k).getD k 0) ((wordsB b k).getD (k + 1) 0) ((wordsB b k).getD (k + 9) 0) ((wordsB b k).getD (k + 14) 0))
theorem wordsB_length (b : List Int) : ∀ k, (wordsB b k).length = 80
  | 0 => wordsA_length b 16
  | k + 1 => by rw [wordsB, List.length_set]; exact wordsB_length b k
def wordsM (b : List Int) : List Int := wordsB b 48
theorem wordsM_length (b : List Int) : (wordsM b).length = 80 := wordsB_length b 48
def In3 (w w' : World) (xs : List Int) : Prop := w'.heap[w.heap.size]? = some (.cells narrowA 113 (0, 0)) ∧ w'.heap[w.heap.size + 1]? = some (.cells z80 137 (0, 0)) ∧ w'.heap[w.heap.size + 1 + 1]? = some (.cells (nums .u32 xs).toArray 137 (0, 0)) ∧ Below w.heap.size w w'
theorem In3.drew {xs : List Int} (h : In3 w w1 xs) : In3 w w1.drew xs := ⟨h.1, h.2.1, h.2.2.1, below_drew h.2.2.2⟩
theorem In3.set {xs : List Int} (h : In3 w w1 xs) (i : Nat) (v : Int) : In3 w (w1.setCell ⟨w.heap.size + 1 + 1, i, none⟩ (.int .u32 v)) (xs.set i v) := by
  refine ⟨put_other i _ (by omega) h.1, put_other i _ (by omega) h.2.1, ?_, below_put h.2.2.2 (by omega) i _⟩
  have h3 := put_cell h.2.2.1 i (.int .u32 v)
  rw [nums_set] at h3
  exact h3
theorem In3.below {xs : List Int} (h : In3 w w1 xs) (hb : Below w1.heap.size w1 w2) : In3 w w2 xs := ⟨blk_below h.1 hb, blk_below h.2.1 hb, blk_below h.2.2.1 hb, h.2.2.2.trans (hb.mono h.2.2.2.size)⟩
theorem In3.cell {xs : List Int} (h : In3 w w1 xs) {i : Nat} (hi : i < xs.length) : w1.cell? ⟨w.heap.size + 1 + 1, i, none⟩ = some (.int .u32 (xs.getD i 0)) := cell_nums h.2.2.1 hi
theorem In3.free {xs : List Int} (h : In3 w w1 xs) (i : Nat) : w1.frozen? ⟨w.heap.size + 1 + 1, i, none⟩ = false := free_row h.2.2.1 i
theorem In3.shape {xs : List Int} (h : In3 w w1 xs) (j : Nat) (v : Value) (hj : narrowA[j]? = some v) : w1.cell? ⟨w.heap.size, j, none⟩ = some v := cellB3 h.1 j v hj
set_option maxHeartbeats 8000000 in
theorem words_calls (g o c : Nat) (b : List Int) (h64 : b.length = 64) (hc : 64 ≤ c) (hC : Bys w g o b) (hgl : g < w.heap.size) : Calls Tryz.prog 99 #[.agg narrowA, .slice (some ⟨g, o, none⟩) 64 c] w fun e w' => e = .returned (.agg (nums .u32 (wordsM b)).toArray) ∧ Below w.heap.size w w' := by
  have HC := Aside0.mk hC
  have H64 := Aside0.mk h64
  have HGL := Aside0.mk hgl
  have HI := Aside0.mk (show In3 w (((w.alloc (.cells narrowA 113)).alloc (.cells z80 137)).alloc (.cells z80 137)) (wordsA b 0) from ⟨nth3_0 w _ _ _, nth3_1 w _ _ _, nth3_2 w _ _ _, below3 w _ _ _⟩)
  clear hC h64 hgl
  go_enter Tryz.func99, Tryz.ntmps99
  go_wp2_with (first | (refine wpList_alloc rfl rfl _ rfl z80 (run_alloc141 _) ?_))
  go_loopw [6, 8, 10] (fun v6 v8 v10 w' => ∃ t : Nat, v10 = .int .i64 t ∧ t ≤ 16 ∧ Aside0 (In3 w w' (wordsA b t))) (fun v6 v8 v10 _ => 16 - (intOf v10).toNat)
  case atStart => exact ⟨0, rfl, Nat.zero_le _, HI⟩
  case round =>
    clear HI
    obtain ⟨t, rfl, ht, HI⟩ := hrel
    by_cases hlt : t < 16
    · have hs0 := HI.out.shape 0 (.int .i64 4) rfl
      obtain ⟨wA, hwA⟩ : ∃ wA, wA = wr := ⟨_, rfl⟩
      subst hwA
      go_wp2
      clear hs0
      go_loopw [8, 25] (fun v8 v25 w' => ∃ j : Nat, v25 = .int .i64 j ∧ j ≤ 4 ∧ Aside0 (In3 w w' (inR b t (wordsA b t) j))) (fun v8 v25 _ => 4 - (intOf v25).toNat)
      case atStart => exact ⟨0, rfl, Nat.zero_le _, HI⟩
      case round =>
        clear HI
        obtain ⟨j, rfl, hj, HI⟩ := hrel
        by_cases hl4 : j < 4
        · obtain ⟨x, hx⟩ : ∃ x, (inR b t (wordsA b t) j).getD t 0 = x := ⟨_, rfl⟩
          obtain ⟨y, hy⟩ : ∃ y, b.getD (t * 4 + j) 0 = y := ⟨_, rfl⟩
          have hb0 : wr.cell? ⟨g, o + t * 4 + j, none⟩ = some (.int .u8 y) := by
            rw [← hy, Nat.add_assoc]
            exact (HC.out.below HGL.out HI.out.2.2.2) (t * 4 + j) (by have := H64.out; omega)
          have hc0 : wr.cell? ⟨w.heap.size + 1 + 1, t, none⟩ = some (.int .u32 x) := by
            rw [← hx]
            exact HI.out.cell (by rw [inR_length, wordsA_length]; omega)
          have hf0 := HI.out.free t
          have HN := Aside0.mk (show inR b t (wordsA b t) (j + 1) = (inR b t (wordsA b t) j).set t (in1 x y) by rw [inR, hx, hy])
          clear hx hy
          go_wp2
          go_roundw
          case rel => exact ⟨j + 1, by go_num, by omega, ⟨by rw [HN.out]; exact HI.out.set t _⟩⟩
          case measure => simp [intOf]; omega
        · have hj4 : (decide (j < (t + 1) * 4 - t * 4)) = false := by simp; omega
          obtain rfl : j = 4 := by omega
          go_wp2
          go_roundw
          case rel => exact ⟨t + 1, by go_num, by omega, HI⟩
          case measure => simp [intOf]; omega
    · obtain rfl : t = 16 := by omega
      go_wp2
      go_loopw [9] (fun v9 w' => ∃ k : Nat, v9 = .int .i64 (k + 16 : Nat) ∧ k ≤ 48 ∧ Aside0 (In3 w w' (wordsB b k))) (fun v9 _ => 64 - (intOf v9).toNat)
      case atStart => exact ⟨0, rfl, Nat.zero_le _, HI⟩
      case round =>
        clear HI
        obtain ⟨k, rfl, hk, HI⟩ := hrel
        obtain ⟨t, htk⟩ : ∃ t : Nat, t = k + 16 := ⟨_, rfl⟩
        by_cases hlt2 : k < 48
        · have hs2 := HI.out.shape 2 (.int .i64 64) rfl
          rw [← htk]
          have ht64 : t < 64 := by omega
          have HKT := Aside0.mk htk
          have hlk : k < 48 := hlt2
          obtain ⟨x0, hx0⟩ : ∃ x, (wordsB b k).getD k 0 = x := ⟨_, rfl⟩
          obtain ⟨x1, hx1⟩ : ∃ x, (wordsB b k).getD (k + 1) 0 = x := ⟨_, rfl⟩
          obtain ⟨x7, hx7⟩ : ∃ x, (wordsB b k).getD (k + 9) 0 = x := ⟨_, rfl⟩
          obtain ⟨x2, hx2⟩ : ∃ x, (wordsB b k).getD (k + 14) 0 = x := ⟨_, rfl⟩
          have HN := Aside0.mk (show wordsB b (k + 1) = (wordsB b k).set t (mixW x0 x1 x7 x2) by rw [wordsB, hx0, hx1, hx7, hx2, htk])
          have hl : (wordsB b k).length = 80 := wordsB_length b k
          obtain ⟨a1, ha1⟩ : ∃ a, a = k + 1 := ⟨_, rfl⟩
          obtain ⟨a7, ha7⟩ : ∃ a, a = k + 9 := ⟨_, rfl⟩
          obtain ⟨a2, ha2⟩ : ∃ a, a = k + 14 := ⟨_, rfl⟩
          have e0 : wrap64 ((t : Int) - 16) = k := by unfold wrap64; omega
          have e1 : wrap64 ((t : Int) - 15) = a1 := by unfold wrap64; omega
          have e7 : wrap64 ((t : Int) - 7) = a7 := by unfold wrap64; omega
          have e2 : wrap64 ((t : Int) - 2) = a2 := by unfold wrap64; omega
          have HD := Aside0.mk HI.out.drew
          have S0 := fun {W : World} (h : In3 w W (wordsB b k)) => (hx0 ▸ h.cell (i := k) (by omega) : W.cell? ⟨w.heap.size + 1 + 1, k, none⟩ = some (.int .u32 x0))
          have S1 := fun {W : World} (h : In3 w W (wordsB b k)) => (hx1 ▸ ha1 ▸ h.cell (i := k + 1) (by omega) : W.cell? ⟨w.heap.size + 1 + 1, a1, none⟩ = some (.int .u32 x1))
          have S7 := fun {W : World} (h : In3 w W (wordsB b k)) => (hx7 ▸ ha7 ▸ h.cell (i := k + 9) (by omega) : W.cell? ⟨w.heap.size + 1 + 1, a7, none⟩ = some (.int .u32 x7))
          have S2 := fun {W : World} (h : In3 w W (wordsB b k)) => (hx2 ▸ ha2 ▸ h.cell (i := k + 14) (by omega) : W.cell? ⟨w.heap.size + 1 + 1, a2, none⟩ = some (.int .u32 x2))
          have bt : ((t : Int) < 80) = True := eq_true (by omega)
          have b1 : ((a1 : Int) < 80) = True := eq_true (by omega)
          have b7 : ((a7 : Int) < 80) = True := eq_true (by omega)
          have b2 : ((a2 : Int) < 80) = True := eq_true (by omega)
          have b0 : ((k : Int) < 80) = True := eq_true (by omega)
          clear hx0 hx1 hx7 hx2 ha1 ha7 ha2 htk hl
          go_wp2
          refine start_ (n := 32) (S := fun w' => w'.cell? ⟨w.heap.size + 1 + 1, k, none⟩ = some (.int .u32 x0) ∧ w'.cell? ⟨w.heap.size + 1 + 1, a1, none⟩ = some (.int .u32 x1) ∧ w'.cell? ⟨w.heap.size + 1 + 1, a7, none⟩ = some (.int .u32 x7) ∧ w'.cell? ⟨w.heap.size + 1 + 1, a2, none⟩ = some (.int .u32 x2) ∧ w'.cell? ⟨w.heap.size, 1, none⟩ = some (.int .i64 32) ∧ w'.cell? ⟨w.heap.size, 3, none⟩ = some (.int .i64 7) ∧ w'.cell? ⟨w.heap.size, 4, none⟩ = some (.int .i64 18) ∧ w'.cell? ⟨w.heap.size, 5, none⟩ = some (.int .i64 3) ∧ w'.cell? ⟨w.heap.size, 6, none⟩ = some (.int .i64 17) ∧ w'.cell? ⟨w.heap.size, 7, none⟩ = some (.int .i64 19) ∧ w'.cell? ⟨w.heap.size, 8, none⟩ = some (.int .i64 10)) (ds := [31]) (bz 32 0) (by kernel_rfl) rfl rfl ⟨(S0 HD.out), (S1 HD.out), (S7 HD.out), (S2 HD.out), (HD.out.shape 1 _ rfl), (HD.out.shape 3 _ rfl), (HD.out.shape 4 _ rfl), (HD.out.shape 5 _ rfl), (HD.out.shape 6 _ rfl), (HD.out.shape 7 _ rfl), (HD.out.shape 8 _ rfl)⟩ (fun hHeld => ?_)
          refine pz 0 (some 46) (bz 32 1) ?_
          refine pz 1 (some 47) (bz 32 3) ?_
          refine pz 2 (some 48) (bz 32 7) ?_
          refine pz 3 (some 49) (bz 32 15) ?_
          refine pz 5 (some 51) (bz 32 47) ?_
          refine pz 6 (some 52) (bz 32 111) ?_
          refine pz 7 (some 53) (bz 32 239) ?_
          refine pz 9 (some 55) (bz 32 751) ?_
          refine pz 11 (some 57) (bz 32 2799) ?_
          refine pz 15 (some 61) (bz 32 35567) ?_
          refine pz 16 (some 62) (bz 32 101103) ?_
          refine pz 17 (some 63) (bz 32 232175) ?_
          refine pz 20 (some 66) (bz 32 1280751) ?_
          refine pz 21 (some 67) (bz 32 3377903) ?_
          refine pz 22 (some 68) (bz 32 7572207) ?_
          refine pz 24 (some 70) (bz 32 24349423) ?_
          refine pz 26 (some 72) (bz 32 91458287) ?_
          refine tz11 4 (some 50) (bz 32 91458303) hHeld ?_
          refine tz11 8 (some 54) (bz 32 91458559) hHeld ?_
          refine tz11 10 (some 56) (bz 32 91459583) hHeld ?_
          refine tz11 12 (some 58) (bz 32 91463679) hHeld ?_
          refine tz11 18 (some 64) (bz 32 91725823) hHeld ?_
          refine tz11 23 (some 69) (bz 32 100114431) hHeld ?_
          refine tz11 25 (some 71) (bz 32 133668863) hHeld ?_
          refine tz11 27 (some 73) (bz 32 267886591) hHeld ?_
          refine one_ (i := 13) (N := some 59) (bz 32 267894783) rfl rfl (by kernel_rfl) (by decide) (fun K hK => ?_)
          refine goes_ Tryz.func104 (by kernel_rfl) rfl #[.int .u32 x1, .agg #[.int .i64 7, .int .i64 18, .int .i64 3], .int .i64 32] (by rfl) rfl rfl (by simp only [List.map_toArray, List.map_cons, List.map_nil]; rfl) ?_
          with_reducible refine (small_calls x1 7 18 3 (by decide) (by decide) (by decide) (by decide) (by decide) (by decide) _).mono ?_
          rintro e w2 ⟨rfl, hd⟩
          refine ⟨_, rfl, ?_⟩
          have HI2 := Aside0.mk (HD.out.below hd)
          clear hd
          refine hK.out _ _ ⟨(S0 HI2.out), (S1 HI2.out), (S7 HI2.out), (S2 HI2.out), (HI2.out.shape 1 _ rfl), (HI2.out.shape 3 _ rfl), (HI2.out.shape 4 _ rfl), (HI2.out.shape 5 _ rfl), (HI2.out.shape 6 _ rfl), (HI2.out.shape 7 _ rfl), (HI2.out.shape 8 _ rfl)⟩ (fun hHeld => ?_)
          clear hK K
          refine norm_ (a' := ?_) ?_ ?_
          rotate_left
          · show Act.put _ (some 59) _ = _
            simp only [Act.put, List.setIfInBounds_toArray, List.set_cons_zero, List.set_cons_succ, i64_w, i32_w]
            rfl
          refine pz 14 (some 60) (bz 32 267911167) ?_
          refine pz 19 (some 65) (bz 32 268435455) ?_
          refine one_ (i := 28) (N := some 74) (bz 32 536870911) rfl rfl (by kernel_rfl) (by decide) (fun K hK => ?_)
          refine goes_ Tryz.func104 (by kernel_rfl) rfl #[.int .u32 x2, .agg #[.int .i64 17, .int .i64 19, .int .i64 10], .int .i64 32] (by rfl) rfl rfl (by simp only [List.map_toArray, List.map_cons, List.map_nil]; rfl) ?_
          with_reducible refine (small_calls x2 17 19 10 (by decide) (by decide) (by decide) (by decide) (by decide) (by decide) _).mono ?_
          rintro e w3 ⟨rfl, hd⟩
          refine ⟨_, rfl, ?_⟩
          have HI3 := Aside0.mk (HI2.out.below hd)
          have hf3 := HI3.out.free t
          have hc3 := HI3.out.cell (i := t) (by rw [wordsB_length]; omega)
          clear hd
          refine hK.out _ _ ⟨(S0 HI3.out), (S1 HI3.out), (S7 HI3.out), (S2 HI3.out), (HI3.out.shape 1 _ rfl), (HI3.out.shape 3 _ rfl), (HI3.out.shape 4 _ rfl), (HI3.out.shape 5 _ rfl), (HI3.out.shape 6 _ rfl), (HI3.out.shape 7 _ rfl), (HI3.out.shape 8 _ rfl)⟩ (fun hHeld => ?_)
          clear hK K
          refine norm_ (a' := ?_) ?_ ?_
          rotate_left
          · show Act.put _ (some 74) _ = _
            simp only [Act.put, List.setIfInBounds_toArray, List.set_cons_zero, List.set_cons_succ, i64_w, i32_w]
            rfl
          refine pz 29 (some 75) (bz 32 1073741823) ?_
          refine pz 30 (some 76) (bz 32 2147483647) ?_
          refine last_ (i := 31) (N := none) (bz 32 4294967295) rfl rfl (by kernel_rfl) (by decide) (fun K hK => ?_)
          refine skip_ (w1 := ?_) (by rfl) rfl ?_ ?_
          rotate_left
          · go_simp
            rfl
          refine hK.out _ _ ?_
          clear hK K
          refine done_ (by kernel_rfl) ?_
          clear hHeld
          go_wp2
          go_roundw
          case rel => exact ⟨k + 1, by have := HKT.out; subst this; go_num, by omega, ⟨by rw [HN.out]; exact HI3.out.set t _⟩⟩
          case measure => simp [intOf]; omega
        · obtain rfl : k = 48 := by omega
          have hs2 := HI.out.shape 2 (.int .i64 64) rfl
          have HL := Aside0.mk (run_loadAt_cells (P := Tryz.prog) (w := wr) 137 Tryz.underlying137 rfl (w.heap.size + 1 + 1) 0 (nums .u32 (wordsB b 48)) (by rw [nums_length, wordsB_length]; kernel_rfl) (fun j u hu => by rw [Nat.zero_add, cell_of_row _ _ j _ _ _ HI.out.2.2.1]; simpa using hu))
          have HST := Aside0.mk (run_store_block (P := Tryz.prog) (w.heap.size + 1) 137 z80 (nums .u32 (wordsB b 48)).toArray 137 HI.out.2.1 (info141 _ (wordsB_length _ _)) (by simp [z80, nums_length, wordsB_length]) (by simp [nums, List.all_eq_true]; intros; rfl))
          clear htk
          go_wp2_with (first | (refine load_at (ty := 137) (.tmp 5) rfl rfl HL.out rfl ?_) | (refine store_at (ty := 137) (.tmp 4) (.tmp 77) rfl rfl rfl HST.out rfl rfl ?_))
          refine bodyPost_ret (results_cell_row rfl _ _ _ _ (nums .u32 (wordsB b 48)).toArray _ _ rfl (setRow_heap _ _ _ _ _ _ HI.out.2.1) Tryz.underlying137 rfl (info141 _ (wordsB_length _ _))) rfl ?_
          exact ⟨rfl, below_row HI.out.2.2.2 (by omega) _⟩

end Go.Proofs.YtmblnflfklmmkaaGreatDoor.Sh
