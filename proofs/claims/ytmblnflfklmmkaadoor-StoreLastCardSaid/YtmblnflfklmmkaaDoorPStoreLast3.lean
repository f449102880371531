/- StoreLast: the texts Px3 Px4 Px5 ShC Wk ShD By ShE ShF. -/
import Derived.Test.YtmblnflfklmmkaaDoorPStoreLast2
import Derived.Test.YtmblnflfklmmkaaDoorPStoreLast1
import Derived.Deep.MidRow
/- Functions of the program and of its laws, each with a Lean function and the proof that a call comes to what that function tells, under the conditions that its contract names. (Laid by a program of this session, out of the translation; Lean checks it.) -/
namespace Go.Proofs.YtmblnflfklmmkaaDoor.P
open Go.RowKit Go.Proofs.YtmblnflfklmmkaaDoorW.PrintWords Go.Proofs.YtmblnflfklmmkaaDoorW.PrintLast Go.Proofs.YtmblnflfklmmkaaDoorW.PrintMore
attribute [local go_sem] max2_int min2_int max_two min_two max_three min_three max_four min_four   -- for this text's walks alone
set_option linter.unusedVariables false
set_option linter.unusedSimpArgs false

/-! ### imprimaturref02_Words_expand: function 67 -/
mutual
def imprimaturref02_Words_expand.l0 : Nat → List Int → Int → List Int → Int → Int → Int → Option (List Int)
  | 0, _, _, _, _, _, _ => none
  | k + 1, x1, x5, x6, x7, x137000, x137001 => if x7 < 16 then (imprimaturref02_Words_expand.l1 k x1 x5 x6 x7 0 0 x137000 x137001) else (if x137000 = 0 then (imprimaturref02_Words_expand.j2 k x6 80 x137000 x137001) else (imprimaturref02_Words_expand.j2 k x6 64 x137000 x137001))
def imprimaturref02_Words_expand.l1 : Nat → List Int → Int → List Int → Int → Int → Int → Int → Int → Option (List Int)
  | 0, _, _, _, _, _, _, _, _ => none
  | k + 1, x1, x5, x6, x7, x8, x9, x137000, x137001 => if x9 < x5 then (if 0 ≤ (wrap64 ((wrap64 (x7 * x5)) + x9)) then (if (wrap64 ((wrap64 (x7 * x5)) + x9)) < (x1.length : Int) then (imprimaturref02_Words_expand.l1 k x1 x5 x6 x7 (IntKind.u64.wrap ((IntKind.u64.wrap (x8 * 256)) + (IntKind.u64.wrap (rd x1 (wrap64 ((wrap64 (x7 * x5)) + x9)))))) (wrap64 (x9 + 1)) x137000 x137001) else (none)) else (none)) else (if x6.length < 17592186044416 then (imprimaturref02_Words_expand.l0 k x1 x5 (x6 ++ [x8]) (wrap64 (x7 + 1)) x137000 x137001) else (none))
def imprimaturref02_Words_expand.j2 : Nat → List Int → Int → Int → Int → Option (List Int)
  | 0, _, _, _, _ => none
  | k + 1, x6, x10, x137000, x137001 => imprimaturref02_Words_expand.l2 k x6 x10 16 x137000 x137001
def imprimaturref02_Words_expand.l2 : Nat → List Int → Int → Int → Int → Int → Option (List Int)
  | 0, _, _, _, _, _ => none
  | k + 1, x6, x10, x11, x137000, x137001 => if x11 < x10 then (if 0 ≤ (wrap64 (x11 - 16)) then (if (wrap64 (x11 - 16)) < (x6.length : Int) then (if 0 ≤ (wrap64 (x11 - 7)) then (if (wrap64 (x11 - 7)) < (x6.length : Int) then (if x137000 = 0 then (if 0 ≤ (wrap64 (x11 - 15)) then (if (wrap64 (x11 - 15)) < (x6.length : Int) then ((imprimaturref02_Words_small.f x137000 x137001 (rd x6 (wrap64 (x11 - 15))) 1 8 7).bind fun t144 => (if 0 ≤ (wrap64 (x11 - 2)) then (if (wrap64 (x11 - 2)) < (x6.length : Int) then ((imprimaturref02_Words_small.f x137000 x137001 (rd x6 (wrap64 (x11 - 2))) 19 61 6).bind fun t146 => ((imprimaturref02_Words_cut.f x137000 x137001 (IntKind.u64.wrap ((IntKind.u64.wrap ((IntKind.u64.wrap ((rd x6 (wrap64 (x11 - 16))) + (rd x6 (wrap64 (x11 - 7))))) + t144)) + t146))).bind fun t147 => (if x6.length < 17592186044416 then (imprimaturref02_Words_expand.l2 k (x6 ++ [t147]) x10 (wrap64 (x11 + 1)) x137000 x137001) else (none)))) else (none)) else (none))) else (none)) else (none)) else (if 0 ≤ (wrap64 (x11 - 15)) then (if (wrap64 (x11 - 15)) < (x6.length : Int) then ((imprimaturref02_Words_small.f x137000 x137001 (rd x6 (wrap64 (x11 - 15))) 7 18 3).bind fun t152 => (if 0 ≤ (wrap64 (x11 - 2)) then (if (wrap64 (x11 - 2)) < (x6.length : Int) then ((imprimaturref02_Words_small.f x137000 x137001 (rd x6 (wrap64 (x11 - 2))) 17 19 10).bind fun t154 => ((imprimaturref02_Words_cut.f x137000 x137001 (IntKind.u64.wrap ((IntKind.u64.wrap ((IntKind.u64.wrap ((rd x6 (wrap64 (x11 - 16))) + (rd x6 (wrap64 (x11 - 7))))) + t152)) + t154))).bind fun t155 => (if x6.length < 17592186044416 then (imprimaturref02_Words_expand.l2 k (x6 ++ [t155]) x10 (wrap64 (x11 + 1)) x137000 x137001) else (none)))) else (none)) else (none))) else (none)) else (none))) else (none)) else (none)) else (none)) else (none)) else (some x6)
end
def imprimaturref02_Words_expand.f (k : Nat) (a0_0 : Int) (a0_1 : Int) (l1 : List Int) : Option (List Int) := imprimaturref02_Words_expand.l0 k l1 (wrap64 (IntKind.u64.wrap (Int.tdiv a0_1 8))) ([] : List Int) 0 a0_0 a0_1
theorem imprimaturref02_Words_expand.mono_l : ∀ k, (∀ y0 y1 y2 y3 y4 y5, LeO (imprimaturref02_Words_expand.l0 k y0 y1 y2 y3 y4 y5) (imprimaturref02_Words_expand.l0 (k + 1) y0 y1 y2 y3 y4 y5)) ∧ (∀ y0 y1 y2 y3 y4 y5 y6 y7, LeO (imprimaturref02_Words_expand.l1 k y0 y1 y2 y3 y4 y5 y6 y7) (imprimaturref02_Words_expand.l1 (k + 1) y0 y1 y2 y3 y4 y5 y6 y7)) ∧ (∀ y0 y1 y2 y3, LeO (imprimaturref02_Words_expand.j2 k y0 y1 y2 y3) (imprimaturref02_Words_expand.j2 (k + 1) y0 y1 y2 y3)) ∧ (∀ y0 y1 y2 y3 y4, LeO (imprimaturref02_Words_expand.l2 k y0 y1 y2 y3 y4) (imprimaturref02_Words_expand.l2 (k + 1) y0 y1 y2 y3 y4))
  | 0 => ⟨fun _ _ _ _ _ _ r h => by simp [imprimaturref02_Words_expand.l0] at h, fun _ _ _ _ _ _ _ _ r h => by simp [imprimaturref02_Words_expand.l1] at h, fun _ _ _ _ r h => by simp [imprimaturref02_Words_expand.j2] at h, fun _ _ _ _ _ r h => by simp [imprimaturref02_Words_expand.l2] at h⟩
  | k + 1 => by
    obtain ⟨ih0, ih1, ih2, ih3⟩ := imprimaturref02_Words_expand.mono_l k
    refine ⟨?_, ?_, ?_, ?_⟩
    · intro y0 y1 y2 y3 y4 y5
      unfold imprimaturref02_Words_expand.l0
      repeat' first
      | (with_reducible exact ih0 _ _ _ _ _ _)
      | (with_reducible exact ih1 _ _ _ _ _ _ _ _)
      | (with_reducible exact ih2 _ _ _ _)
      | (with_reducible exact ih3 _ _ _ _ _)
      | (with_reducible exact LeO.refl _)
      | (with_reducible exact LeO.none _)
      | (with_reducible refine LeO.ite ?_ ?_)
      | (with_reducible refine LeO.bind ?_ (fun _ => ?_))
      | exact ih0 _ _ _ _ _ _
      | exact ih1 _ _ _ _ _ _ _ _
      | exact ih2 _ _ _ _
      | exact ih3 _ _ _ _ _
      | exact LeO.none _
      | refine LeO.ite ?_ ?_
      | refine LeO.bind ?_ (fun _ => ?_)
    · intro y0 y1 y2 y3 y4 y5 y6 y7
      unfold imprimaturref02_Words_expand.l1
      repeat' first
      | (with_reducible exact ih0 _ _ _ _ _ _)
      | (with_reducible exact ih1 _ _ _ _ _ _ _ _)
      | (with_reducible exact ih2 _ _ _ _)
      | (with_reducible exact ih3 _ _ _ _ _)
      | (with_reducible exact LeO.refl _)
      | (with_reducible exact LeO.none _)
      | (with_reducible refine LeO.ite ?_ ?_)
      | (with_reducible refine LeO.bind ?_ (fun _ => ?_))
      | exact ih0 _ _ _ _ _ _
      | exact ih1 _ _ _ _ _ _ _ _
      | exact ih2 _ _ _ _
      | exact ih3 _ _ _ _ _
      | exact LeO.none _
      | refine LeO.ite ?_ ?_
      | refine LeO.bind ?_ (fun _ => ?_)
    · intro y0 y1 y2 y3
      unfold imprimaturref02_Words_expand.j2
      repeat' first
      | (with_reducible exact ih0 _ _ _ _ _ _)
      | (with_reducible exact ih1 _ _ _ _ _ _ _ _)
      | (with_reducible exact ih2 _ _ _ _)
      | (with_reducible exact ih3 _ _ _ _ _)
      | (with_reducible exact LeO.refl _)
      | (with_reducible exact LeO.none _)
      | (with_reducible refine LeO.ite ?_ ?_)
      | (with_reducible refine LeO.bind ?_ (fun _ => ?_))
      | exact ih0 _ _ _ _ _ _
      | exact ih1 _ _ _ _ _ _ _ _
      | exact ih2 _ _ _ _
      | exact ih3 _ _ _ _ _
      | exact LeO.none _
      | refine LeO.ite ?_ ?_
      | refine LeO.bind ?_ (fun _ => ?_)
    · intro y0 y1 y2 y3 y4
      unfold imprimaturref02_Words_expand.l2
      repeat' first
      | (with_reducible exact ih0 _ _ _ _ _ _)
      | (with_reducible exact ih1 _ _ _ _ _ _ _ _)
      | (with_reducible exact ih2 _ _ _ _)
      | (with_reducible exact ih3 _ _ _ _ _)
      | (with_reducible exact LeO.refl _)
      | (with_reducible exact LeO.none _)
      | (with_reducible refine LeO.ite ?_ ?_)
      | (with_reducible refine LeO.bind ?_ (fun _ => ?_))
      | exact ih0 _ _ _ _ _ _
      | exact ih1 _ _ _ _ _ _ _ _
      | exact ih2 _ _ _ _
      | exact ih3 _ _ _ _ _
      | exact LeO.none _
      | refine LeO.ite ?_ ?_
      | refine LeO.bind ?_ (fun _ => ?_)
theorem imprimaturref02_Words_expand.mono : ∀ a0 a1 a2 k, LeO (imprimaturref02_Words_expand.f k a0 a1 a2) (imprimaturref02_Words_expand.f (k + 1) a0 a1 a2) := by
  intro a0 a1 a2 k
  obtain ⟨ih0, ih1, ih2, ih3⟩ := imprimaturref02_Words_expand.mono_l k
  unfold imprimaturref02_Words_expand.f
  repeat' first
      | (with_reducible exact ih0 _ _ _ _ _ _)
      | (with_reducible exact ih1 _ _ _ _ _ _ _ _)
      | (with_reducible exact ih2 _ _ _ _)
      | (with_reducible exact ih3 _ _ _ _ _)
      | (with_reducible exact LeO.refl _)
      | (with_reducible exact LeO.none _)
      | (with_reducible refine LeO.ite ?_ ?_)
      | (with_reducible refine LeO.bind ?_ (fun _ => ?_))
      | exact ih0 _ _ _ _ _ _
      | exact ih1 _ _ _ _ _ _ _ _
      | exact ih2 _ _ _ _
      | exact ih3 _ _ _ _ _
      | exact LeO.none _
      | refine LeO.ite ?_ ?_
      | refine LeO.bind ?_ (fun _ => ?_)
def imprimaturref02_Words_expand.T18 : Bool × List (List Nat × List Nat) := (true, [([], []), ([], []), ([1], [1]), ([0, 2], [0, 2]), ([3], [3]), ([], []), ([], []), ([6], [6]), ([5, 7], [5, 7]), ([8], [8]), ([4, 9], [4, 9]), ([10, 0, 1, 2, 3, 4, 5, 6, 7, 8, 9, 10], [10])])
def imprimaturref02_Words_expand.B18 : List Nat := [0, 0, 2, 7, 15, 0, 0, 64, 224, 480, 1023, 2047]
theorem imprimaturref02_Words_expand.tab18 : rtab .any (opsOf Tryd.f67 18) = imprimaturref02_Words_expand.T18 := by kernel_rfl
theorem imprimaturref02_Words_expand.bits18 : waitsOk imprimaturref02_Words_expand.T18.2 imprimaturref02_Words_expand.B18 = true := by kernel_rfl
def imprimaturref02_Words_expand.T20 : Bool × List (List Nat × List Nat) := (true, [([], []), ([], []), ([], []), ([], []), ([3], [3]), ([2, 4], [2, 4]), ([5], [5]), ([1, 6], [1, 6]), ([0, 7], [0, 7]), ([], []), ([], []), ([], []), ([11], [11]), ([10, 12], [10, 12]), ([13], [13]), ([9, 14, 7], [9, 14]), ([8, 15], [8, 15]), ([16, 15, 0, 1, 2, 3, 4, 5, 6, 7, 8, 9, 10, 11, 12, 13, 14, 15, 16], [0, 16])])
def imprimaturref02_Words_expand.B20 : List Nat := [0, 0, 0, 0, 8, 28, 60, 126, 255, 0, 0, 0, 2048, 7168, 15360, 32510, 65535, 131071]
theorem imprimaturref02_Words_expand.tab20 : rtab .any (opsOf Tryd.f67 20) = imprimaturref02_Words_expand.T20 := by kernel_rfl
theorem imprimaturref02_Words_expand.bits20 : waitsOk imprimaturref02_Words_expand.T20.2 imprimaturref02_Words_expand.B20 = true := by kernel_rfl
def imprimaturref02_Words_expand.T21 : Bool × List (List Nat × List Nat) := (true, [([], []), ([], []), ([], []), ([], []), ([3], [3]), ([2, 4], [2, 4]), ([5], [5]), ([1, 6], [1, 6]), ([0, 7], [0, 7]), ([], []), ([], []), ([], []), ([11], [11]), ([10, 12], [10, 12]), ([13], [13]), ([9, 14, 7], [9, 14]), ([8, 15], [8, 15]), ([16, 15, 0, 1, 2, 3, 4, 5, 6, 7, 8, 9, 10, 11, 12, 13, 14, 15, 16], [0, 16])])
def imprimaturref02_Words_expand.B21 : List Nat := [0, 0, 0, 0, 8, 28, 60, 126, 255, 0, 0, 0, 2048, 7168, 15360, 32510, 65535, 131071]
theorem imprimaturref02_Words_expand.tab21 : rtab .any (opsOf Tryd.f67 21) = imprimaturref02_Words_expand.T21 := by kernel_rfl
theorem imprimaturref02_Words_expand.bits21 : waitsOk imprimaturref02_Words_expand.T21.2 imprimaturref02_Words_expand.B21 = true := by kernel_rfl
set_option maxHeartbeats 8000000 in
set_option maxRecDepth 100000 in
theorem imprimaturref02_Words_expand.calls (k : Nat) (a0_0 : Int) (a0_1 : Int) (A1 : Option Addr) (c1 : Nat) (l1 : List Int) (r : List Int) (w : World) (hr1 : Kd.C (Kd.int .u8) w A1 l1.length l1) (hc1 : l1.length ≤ c1) (h : imprimaturref02_Words_expand.f k a0_0 a0_1 l1 = some r) :
    Calls Tryd.prog 67 #[.agg #[.int .u64 a0_0, .int .u64 a0_1], .slice A1 l1.length c1] w fun e w' => ∃ v0_ : Value, e = .returned (v0_) ∧ Kd.R (Kd.int .u64) 27 w' w.heap.size (fun _ => True) v0_ r ∧ Below w.heap.size w w' := by
  have hu103 := Tryd.underlying103
  have HR1 := Aside0.mk hr1
  have HC1 := Aside0.mk hc1
  clear hr1 hc1
  have HB := Aside0.mk (Below.refl w.heap.size w)
  have H : (imprimaturref02_Words_expand.l0 k l1 (wrap64 (IntKind.u64.wrap (Int.tdiv a0_1 8))) ([] : List Int) 0 a0_0 a0_1) = some r := h
  clear h
  have H' := Aside0.mk H
  clear H
  go_enter Tryd.func67, Tryd.ntmps67
  go_wp2_with (first | ((with_reducible refine gate_dst (N := 2) rfl ?_); refine box_event ?hg (N := 2) ?hd (cs := #[.int .u64 a0_0, .int .u64 a0_1]) (t := 103) ?hr ?_; (case hd => rfl); (case hg => rfl); (case hr => first | (go_simp; done) | (go_simp; rfl)); intro gb136 hg w3 hbox hb; have n0_ := Aside0.mk (below_step (by repeat (first | (with_reducible first | exact HB.out | apply below_alloc | apply pw_below_drewN | apply below_drew1) | exact HB.out)) hb); have n1_ := Aside0.mk (hbox); have n2_ := Aside0.mk ((by rw [hg]; exact (below_size (by repeat (first | (with_reducible first | exact HB.out | apply below_alloc | apply pw_below_drewN | apply below_drew1) | exact HB.out))) : w.heap.size ≤ gb136)); have n3_ := Aside0.mk ((by rw [hg]; exact (below_size (by repeat (first | (with_reducible first | exact HB.out | apply below_alloc | apply pw_below_drewN | apply below_drew1) | exact HB.out))) : w.heap.size ≤ gb136)); clear HB; have HB := n0_; have BK136 := n1_; have GW136 := n2_; have GE136 := n3_; clear n0_ n1_ n2_ n3_; clear hb hbox hg; have hcz4_0 : w3.cell? ⟨gb136, 0, none⟩ = some (.int .u64 a0_0) := (blk_cell BK136.out 0).trans rfl; have hcz4_1 : w3.cell? ⟨gb136, 1, none⟩ = some (.int .u64 a0_1) := (blk_cell BK136.out 1).trans rfl; have hfz4_0 := blk_frozen BK136.out 0; have hfz4_1 := blk_frozen BK136.out 1))
  go_loopg [6, 7] k (fun kq v6 v7 w' => ∃ (x6_1 : List Int) (x7_1 : Int), v7 = .int .i64 x7_1 ∧ Aside0 (imprimaturref02_Words_expand.l0 kq l1 (wrap64 (IntKind.u64.wrap (Int.tdiv a0_1 8))) x6_1 x7_1 a0_0 a0_1 = some r) ∧ Aside0 (kq ≤ k) ∧ Aside0 (Kd.R (Kd.int .u64) 27 w' w.heap.size (fun _ => True) v6 x6_1) ∧ Aside0 (w'.heap[gb136]? = some (.cells #[.int .u64 a0_0, .int .u64 a0_1] 103 (0, 0))) ∧ Aside0 (Below w.heap.size w w'))
  case atStart => exact ⟨(([] : List Int)), (0), (by first | rfl | (simp; done) | (simp [*]; done)), H', ⟨Nat.le_refl _⟩, ⟨by first | exact Kd.R_nil _ _ _ _ _ | exact Kd.N_nil _ _ _ _ _ | exact Kd.V_nil _ _ _ _ _ | exact Kd.Q_nil _ _ _ _ _ | exact Kd.S_nil _ _ _ _ _⟩, ⟨by (with_reducible repeat (first | refine blk_drewN ?_ _ | refine blk_drew ?_ | refine blk_alloc ?_ _)); exact BK136.out⟩, ⟨by repeat (first | (with_reducible first | exact HB.out | apply below_alloc | apply pw_below_drewN | apply below_drew1 | refine below_set ?_ GE136.out) | exact HB.out)⟩⟩
  case round =>
    clear H'
    try clear c1
    try clear p2
    try clear hcz4_0
    try clear hcz4_1
    try clear hfz4_0
    try clear hfz4_1
    obtain ⟨x6_1, x7_1, rfl, HA, HK1, HO_6, BK136, HB⟩ := hrel
    cases gk with
    | zero => exact absurd HA.out (by simp [imprimaturref02_Words_expand.l0])
    | succ k1 =>
      have H := HA.out
      clear HA
      simp only [imprimaturref02_Words_expand.l0] at H
      by_cases c5 : x7_1 < 16
      · rw [if_pos c5] at H
        have c5b0 : decide (x7_1 < 16) = true := decide_eq_true c5
        clear c5
        have H' := Aside0.mk H
        clear H
        go_wp2
        go_loopg [8, 9] k1 (fun kq v8 v9 w' => ∃ (x8_2 : Int) (x9_2 : Int), v8 = .int .u64 x8_2 ∧ v9 = .int .i64 x9_2 ∧ Aside0 (imprimaturref02_Words_expand.l1 kq l1 (wrap64 (IntKind.u64.wrap (Int.tdiv a0_1 8))) x6_1 x7_1 x8_2 x9_2 a0_0 a0_1 = some r) ∧ Aside0 (kq ≤ k1) ∧ Aside0 (Kd.R (Kd.int .u64) 27 w' w.heap.size (fun _ => True) u6 x6_1) ∧ Aside0 (w'.heap[gb136]? = some (.cells #[.int .u64 a0_0, .int .u64 a0_1] 103 (0, 0))) ∧ Aside0 (Below w.heap.size w w'))
        case atStart => exact ⟨(0), (0), (by first | rfl | (simp; done) | (simp [*]; done)), (by first | rfl | (simp; done) | (simp [*]; done)), H', ⟨Nat.le_refl _⟩, ⟨by (with_reducible repeat (first | apply Kd.R_alloc | apply Kd.R_drewN | apply Kd.R_drew)); exact HO_6.out⟩, ⟨by (with_reducible repeat (first | refine blk_drewN ?_ _ | refine blk_drew ?_ | refine blk_alloc ?_ _)); exact BK136.out⟩, ⟨by repeat (first | (with_reducible first | exact HB.out | apply below_alloc | apply pw_below_drewN | apply below_drew1 | refine below_set ?_ GE136.out) | exact HB.out)⟩⟩
        case round =>
          clear H'
          try clear c1
          try clear p2
          try clear c5
          try clear c5b0
          try clear hcz4_0
          try clear hcz4_1
          try clear hfz4_0
          try clear hfz4_1
          try clear p2
          obtain ⟨x8_2, x9_2, rfl, rfl, HA, HK2, HO_6, BK136, HB⟩ := hrel
          cases gk with
          | zero => exact absurd HA.out (by simp [imprimaturref02_Words_expand.l1])
          | succ k2 =>
            have H := HA.out
            clear HA
            simp only [imprimaturref02_Words_expand.l1] at H
            by_cases c6 : x9_2 < (wrap64 (IntKind.u64.wrap (Int.tdiv a0_1 8)))
            · rw [if_pos c6] at H
              have c6b0 : decide (x9_2 < (wrap64 (IntKind.u64.wrap (Int.tdiv a0_1 8)))) = true := decide_eq_true c6
              clear c6
              obtain ⟨ji7, hji7⟩ : ∃ j_ : Int, (wrap64 ((wrap64 (x7_1 * (wrap64 (IntKind.u64.wrap (Int.tdiv a0_1 8))))) + x9_2)) = j_ := ⟨_, rfl⟩
              replace H : (if 0 ≤ (ji7) then (if (ji7) < (l1.length : Int) then (imprimaturref02_Words_expand.l1 k2 l1 (wrap64 (IntKind.u64.wrap (Int.tdiv a0_1 8))) x6_1 x7_1 (IntKind.u64.wrap ((IntKind.u64.wrap (x8_2 * 256)) + (IntKind.u64.wrap (rd l1 (ji7))))) (wrap64 (x9_2 + 1)) a0_0 a0_1) else (none)) else (none)) = some r := by first | (rw [hji7] at H; exact H) | (simp only [hji7] at H ⊢; exact H)
              have hji7w : (IntKind.i64.wrap ((wrap64 (x7_1 * (wrap64 (IntKind.u64.wrap (Int.tdiv a0_1 8))))) + x9_2)) = ji7 := (i64_w _).trans hji7
              by_cases c8 : 0 ≤ (ji7)
              · rw [if_pos c8] at H
                have c8b0 : decide (0 ≤ (ji7)) = true := decide_eq_true c8
                clear c8
                by_cases c9 : (ji7) < (l1.length : Int)
                · rw [if_pos c9] at H
                  have c9b0 : decide ((ji7) < (l1.length : Int)) = true := decide_eq_true c9
                  clear c9
                  have H' := Aside0.mk H
                  clear H
                  have p137 : 0 ≤ ((ji7) : Int) := of_decide_eq_true (by first | (with_reducible assumption) | assumption)
                  have q137 : (ji7) < (l1.length : Int) := of_decide_eq_true (by first | (with_reducible assumption) | assumption)
                  obtain ⟨ad137, e137, hx137_0⟩ := Kd.at_int HR1.out (ji7) p137 q137
                  cases e137
                  replace hx137_0 := (HB.out.cell (World.block_lt_of_cell? w _ hx137_0)).trans hx137_0
                  replace p137 := eq_true p137
                  replace q137 := eq_true q137
                  go_wp2
                  go_roundg k2
                  case measure => have := HK1.out; have := HK2.out; omega
                  case rel => exact ⟨(IntKind.u64.wrap ((IntKind.u64.wrap (x8_2 * 256)) + (IntKind.u64.wrap (rd l1 (ji7))))), (wrap64 (x9_2 + 1)), (by first | rfl | (simp; done) | (simp only [← hji7] <;> (first | rfl | simp)) | (simp [*]; done)), (by first | rfl | (simp; done) | (simp [*]; done)), H', ⟨by have := HK1.out; have := HK2.out; omega⟩, ⟨by (with_reducible repeat (first | apply Kd.R_alloc | apply Kd.R_drewN | apply Kd.R_drew)); exact HO_6.out⟩, ⟨by (with_reducible repeat (first | refine blk_drewN ?_ _ | refine blk_drew ?_ | refine blk_alloc ?_ _)); exact BK136.out⟩, ⟨by repeat (first | (with_reducible first | exact HB.out | apply below_alloc | apply pw_below_drewN | apply below_drew1 | refine below_set ?_ GE136.out) | exact HB.out)⟩⟩
                · rw [if_neg c9] at H
                  exact absurd H (by simp)
              · rw [if_neg c8] at H
                exact absurd H (by simp)
            · rw [if_neg c6] at H
              have c6b0 : decide (x9_2 < (wrap64 (IntKind.u64.wrap (Int.tdiv a0_1 8)))) = false := decide_eq_false c6
              clear c6
              by_cases c10 : x6_1.length < 17592186044416
              · rw [if_pos c10] at H
                have LMc10 := Aside0.mk c10
                clear c10
                obtain ⟨y138, hy138⟩ : ∃ y_ : List Int, y_ = (x6_1 ++ [x8_2]) := ⟨_, rfl⟩
                replace H : (imprimaturref02_Words_expand.l0 k2 l1 (wrap64 (IntKind.u64.wrap (Int.tdiv a0_1 8))) y138 (wrap64 (x7_1 + 1)) a0_0 a0_1) = some r := by first | (rw [hy138]; with_reducible exact H) | (have H2_ := (Option.bind_some _ _).symm.trans H; rw [hy138]; with_reducible exact H2_) | (have H2_ := (Option.bind_some _ _).symm.trans H; with_reducible exact H2_) | with_reducible exact H | (rw [hy138]; exact H) | exact H
                have Ny138 := Aside0.mk hy138
                clear hy138
                have H' := Aside0.mk H
                clear H
                go_wp2_with (first | ((with_reducible refine gate_builtin (b := .append) (xs := #[.tmp 38, .tmp 40]) rfl ?_); at_builtin; refine Kd.R_append (Kd.int .u64) (w0 := w) w.heap.size rfl (.tmp 38) (.tmp 40) 105 27 (.int .u64 0) 8 rfl Tryd.underlying105 info27 rfl (by decide) (by omega) u6 x6_1 x8_2 [.int .u64 x8_2] (fun _ => True) (fun _ => False) rfl rfl ?aP (fun _ hk => hk.elim) ?aF ?aO ?aB ?aS ?aL ?_; (case aP => exact rfl); (case aB => exact (by repeat (first | (with_reducible first | exact HB.out | apply below_alloc | apply pw_below_drewN | apply below_drew1 | refine below_set ?_ GE136.out) | exact HB.out))); (case aF => exact (fun _ _ => trivial)); (case aO => exact (by (with_reducible repeat (first | apply Kd.R_alloc | apply Kd.R_drewN | apply Kd.R_drew)); exact HO_6.out)); (case aS => exact (below_size (by repeat (first | (with_reducible first | exact HB.out | apply below_alloc | apply pw_below_drewN | apply below_drew1 | refine below_set ?_ GE136.out) | exact HB.out)))); (case aL => have := LMc10.out; omega); intro v139 w11 ho hb hg hat; rw [← Ny138.out] at ho; have n0_ := Aside0.mk (blk_grown (g := gb136) (o := .cells #[.int .u64 a0_0, .int .u64 a0_1] 103 (0, 0)) (by (with_reducible repeat (first | refine blk_drewN ?_ _ | refine blk_drew ?_ | refine blk_alloc ?_ _)); exact BK136.out) hg (Kd.R_ne HO_6.out BK136.out (by decide))); have n1_ := Aside0.mk (hb); have n2_ := Aside0.mk (ho); clear BK136; clear HB; clear HO_6; have BK136 := n0_; have HB := n1_; have HO140 := n2_; clear n0_ n1_ n2_; clear ho hb hg hat))
                go_roundg k2
                case measure => have := HK1.out; have := HK2.out; omega
                case rel => exact ⟨(y138), (wrap64 (x7_1 + 1)), (by first | rfl | (simp; done) | (simp [*]; done)), H', ⟨by have := HK1.out; have := HK2.out; omega⟩, ⟨by (with_reducible repeat (first | apply Kd.R_alloc | apply Kd.R_drewN | apply Kd.R_drew)); exact HO140.out⟩, ⟨by (with_reducible repeat (first | refine blk_drewN ?_ _ | refine blk_drew ?_ | refine blk_alloc ?_ _)); exact BK136.out⟩, ⟨by repeat (first | (with_reducible first | exact HB.out | apply below_alloc | apply pw_below_drewN | apply below_drew1 | refine below_set ?_ GE136.out) | exact HB.out)⟩⟩
              · rw [if_neg c10] at H
                exact absurd H (by simp)
      · rw [if_neg c5] at H
        have c5b0 : decide (x7_1 < 16) = false := decide_eq_false c5
        clear c5
        have HC12 := Aside0.mk H
        clear H
        have hcz13_0 : wr.cell? ⟨gb136, 0, none⟩ = some (.int .u64 a0_0) := (blk_cell BK136.out 0).trans rfl
        have hcz13_1 : wr.cell? ⟨gb136, 1, none⟩ = some (.int .u64 a0_1) := (blk_cell BK136.out 1).trans rfl
        have hfz13_0 := blk_frozen BK136.out 0
        have hfz13_1 := blk_frozen BK136.out 1
        go_upto_if 44 with (fail)
        go_cut [10] (fun v10 wc => ∃ (kq : Nat) (x10_11 : Int), v10 = .int .i64 x10_11 ∧ Aside0 (imprimaturref02_Words_expand.j2 kq x6_1 x10_11 a0_0 a0_1 = some r) ∧ Aside0 (kq ≤ k1) ∧ Aside0 (Kd.R (Kd.int .u64) 27 wc w.heap.size (fun _ => True) u6 x6_1) ∧ Aside0 (wc.heap[gb136]? = some (.cells #[.int .u64 a0_0, .int .u64 a0_1] 103 (0, 0))) ∧ Aside0 (Below w.heap.size w wc))
        case first =>
          have H := HC12.out
          clear HC12
          by_cases c14 : a0_0 = 0
          · rw [if_pos c14] at H
            have c14b0 : (a0_0 == 0) = true := beq_iff_eq.mpr c14
            have c14b1 : (a0_0 != 0) = false := bne_eq_false_iff_eq.mpr c14
            clear c14
            (first | rw [c14b0] | (simp only [i64_w, i32_w]; rw [c14b0]) | skip)
            have H' := Aside0.mk H
            clear H
            go_wp2
            go_meet
            case rel => exact ⟨_, (80), (by first | rfl | (simp; done) | (simp [*]; done)), H', ⟨by have := HK1.out; first | omega | exact Nat.le_refl _⟩, ⟨by (with_reducible repeat (first | apply Kd.R_alloc | apply Kd.R_drewN | apply Kd.R_drew)); exact HO_6.out⟩, ⟨by (with_reducible repeat (first | refine blk_drewN ?_ _ | refine blk_drew ?_ | refine blk_alloc ?_ _)); exact BK136.out⟩, ⟨by repeat (first | (with_reducible first | exact HB.out | apply below_alloc | apply pw_below_drewN | apply below_drew1 | refine below_set ?_ GE136.out) | exact HB.out)⟩⟩
          · rw [if_neg c14] at H
            have c14b0 : (a0_0 == 0) = false := beq_eq_false_iff_ne.mpr c14
            have c14b1 : (a0_0 != 0) = true := bne_iff_ne.mpr c14
            (first | rw [c14b0] | (simp only [i64_w, i32_w]; rw [c14b0]) | skip)
            have H' := Aside0.mk H
            clear H
            go_wp2
            go_meet
            case rel => exact ⟨_, (64), (by first | rfl | (simp; done) | (simp [*]; done)), H', ⟨by have := HK1.out; first | omega | exact Nat.le_refl _⟩, ⟨by (with_reducible repeat (first | apply Kd.R_alloc | apply Kd.R_drewN | apply Kd.R_drew)); exact HO_6.out⟩, ⟨by (with_reducible repeat (first | refine blk_drewN ?_ _ | refine blk_drew ?_ | refine blk_alloc ?_ _)); exact BK136.out⟩, ⟨by repeat (first | (with_reducible first | exact HB.out | apply below_alloc | apply pw_below_drewN | apply below_drew1 | refine below_set ?_ GE136.out) | exact HB.out)⟩⟩
        case rest =>
          clear HC12
          try clear c1
          try clear p1
          try clear q1
          try clear hx1
          try clear p2
          try clear c5
          try clear c5b0
          try clear c6
          try clear c6b0
          try clear p6
          try clear c8
          try clear c8b0
          try clear c9
          try clear c9b0
          try clear c10
          try clear p13
          try clear q13
          try clear hx13
          try clear c14
          try clear c14b0
          try clear c14b1
          try clear hcz13_0
          try clear hcz13_1
          try clear hcz4_0
          try clear hcz4_1
          try clear hfz13_0
          try clear hfz13_1
          try clear hfz4_0
          try clear hfz4_1
          try clear hx137_0
          try clear p137
          try clear p2
          try clear q137
          obtain ⟨kq, x10_11, rfl, HA, HJ11, HO_6, BK136, HB⟩ := hcut
          cases kq with
          | zero => exact absurd HA.out (by simp [imprimaturref02_Words_expand.j2])
          | succ kj11 =>
            have H := HA.out
            clear HA
            simp only [imprimaturref02_Words_expand.j2] at H
            have H' := Aside0.mk H
            clear H
            go_wp2
            go_loopg [6, 11] kj11 (fun kq v6 v11 w' => ∃ (x6_3 : List Int) (x11_3 : Int), v11 = .int .i64 x11_3 ∧ Aside0 (imprimaturref02_Words_expand.l2 kq x6_3 x10_11 x11_3 a0_0 a0_1 = some r) ∧ Aside0 (kq ≤ kj11) ∧ Aside0 (Kd.R (Kd.int .u64) 27 w' w.heap.size (fun _ => True) v6 x6_3) ∧ Aside0 (w'.heap[gb136]? = some (.cells #[.int .u64 a0_0, .int .u64 a0_1] 103 (0, 0))) ∧ Aside0 (Below w.heap.size w w'))
            case atStart => exact ⟨(x6_1), (16), (by first | rfl | (simp; done) | (simp [*]; done)), H', ⟨Nat.le_refl _⟩, ⟨by (with_reducible repeat (first | apply Kd.R_alloc | apply Kd.R_drewN | apply Kd.R_drew)); exact HO_6.out⟩, ⟨by (with_reducible repeat (first | refine blk_drewN ?_ _ | refine blk_drew ?_ | refine blk_alloc ?_ _)); exact BK136.out⟩, ⟨by repeat (first | (with_reducible first | exact HB.out | apply below_alloc | apply pw_below_drewN | apply below_drew1 | refine below_set ?_ GE136.out) | exact HB.out)⟩⟩
            case round =>
              clear H'
              try clear c1
              try clear p1
              try clear q1
              try clear hx1
              try clear p2
              try clear c5
              try clear c5b0
              try clear c6
              try clear c6b0
              try clear p6
              try clear c8
              try clear c8b0
              try clear c9
              try clear c9b0
              try clear c10
              try clear p13
              try clear q13
              try clear hx13
              try clear c14
              try clear c14b0
              try clear c14b1
              try clear hcz13_0
              try clear hcz13_1
              try clear hcz4_0
              try clear hcz4_1
              try clear hfz13_0
              try clear hfz13_1
              try clear hfz4_0
              try clear hfz4_1
              try clear hx137_0
              try clear p1
              try clear p13
              try clear p137
              try clear p2
              try clear p6
              try clear q1
              try clear q13
              try clear q137
              obtain ⟨x6_3, x11_3, rfl, HA, HK3, HO_6, BK136, HB⟩ := hrel
              cases gk with
              | zero => exact absurd HA.out (by simp [imprimaturref02_Words_expand.l2])
              | succ k3 =>
                have H := HA.out
                clear HA
                simp only [imprimaturref02_Words_expand.l2] at H
                by_cases c15 : x11_3 < x10_11
                · rw [if_pos c15] at H
                  have c15b0 : decide (x11_3 < x10_11) = true := decide_eq_true c15
                  clear c15
                  obtain ⟨ji16, hji16⟩ : ∃ j_ : Int, (wrap64 (x11_3 - 16)) = j_ := ⟨_, rfl⟩
                  replace H : (if 0 ≤ (ji16) then (if (ji16) < (x6_3.length : Int) then (if 0 ≤ (wrap64 (x11_3 - 7)) then (if (wrap64 (x11_3 - 7)) < (x6_3.length : Int) then (if a0_0 = 0 then (if 0 ≤ (wrap64 (x11_3 - 15)) then (if (wrap64 (x11_3 - 15)) < (x6_3.length : Int) then ((imprimaturref02_Words_small.f a0_0 a0_1 (rd x6_3 (wrap64 (x11_3 - 15))) 1 8 7).bind fun t144 => (if 0 ≤ (wrap64 (x11_3 - 2)) then (if (wrap64 (x11_3 - 2)) < (x6_3.length : Int) then ((imprimaturref02_Words_small.f a0_0 a0_1 (rd x6_3 (wrap64 (x11_3 - 2))) 19 61 6).bind fun t146 => ((imprimaturref02_Words_cut.f a0_0 a0_1 (IntKind.u64.wrap ((IntKind.u64.wrap ((IntKind.u64.wrap ((rd x6_3 (ji16)) + (rd x6_3 (wrap64 (x11_3 - 7))))) + t144)) + t146))).bind fun t147 => (if x6_3.length < 17592186044416 then (imprimaturref02_Words_expand.l2 k3 (x6_3 ++ [t147]) x10_11 (wrap64 (x11_3 + 1)) a0_0 a0_1) else (none)))) else (none)) else (none))) else (none)) else (none)) else (if 0 ≤ (wrap64 (x11_3 - 15)) then (if (wrap64 (x11_3 - 15)) < (x6_3.length : Int) then ((imprimaturref02_Words_small.f a0_0 a0_1 (rd x6_3 (wrap64 (x11_3 - 15))) 7 18 3).bind fun t152 => (if 0 ≤ (wrap64 (x11_3 - 2)) then (if (wrap64 (x11_3 - 2)) < (x6_3.length : Int) then ((imprimaturref02_Words_small.f a0_0 a0_1 (rd x6_3 (wrap64 (x11_3 - 2))) 17 19 10).bind fun t154 => ((imprimaturref02_Words_cut.f a0_0 a0_1 (IntKind.u64.wrap ((IntKind.u64.wrap ((IntKind.u64.wrap ((rd x6_3 (ji16)) + (rd x6_3 (wrap64 (x11_3 - 7))))) + t152)) + t154))).bind fun t155 => (if x6_3.length < 17592186044416 then (imprimaturref02_Words_expand.l2 k3 (x6_3 ++ [t155]) x10_11 (wrap64 (x11_3 + 1)) a0_0 a0_1) else (none)))) else (none)) else (none))) else (none)) else (none))) else (none)) else (none)) else (none)) else (none)) = some r := by first | (rw [hji16] at H; exact H) | (simp only [hji16] at H ⊢; exact H)
                  have hji16w : (IntKind.i64.wrap (x11_3 - 16)) = ji16 := (i64_w _).trans hji16
                  by_cases c17 : 0 ≤ (ji16)
                  · rw [if_pos c17] at H
                    have c17b0 : decide (0 ≤ (ji16)) = true := decide_eq_true c17
                    clear c17
                    by_cases c18 : (ji16) < (x6_3.length : Int)
                    · rw [if_pos c18] at H
                      have c18b0 : decide ((ji16) < (x6_3.length : Int)) = true := decide_eq_true c18
                      clear c18
                      obtain ⟨ji19, hji19⟩ : ∃ j_ : Int, (wrap64 (x11_3 - 7)) = j_ := ⟨_, rfl⟩
                      replace H : (if 0 ≤ (ji19) then (if (ji19) < (x6_3.length : Int) then (if a0_0 = 0 then (if 0 ≤ (wrap64 (x11_3 - 15)) then (if (wrap64 (x11_3 - 15)) < (x6_3.length : Int) then ((imprimaturref02_Words_small.f a0_0 a0_1 (rd x6_3 (wrap64 (x11_3 - 15))) 1 8 7).bind fun t144 => (if 0 ≤ (wrap64 (x11_3 - 2)) then (if (wrap64 (x11_3 - 2)) < (x6_3.length : Int) then ((imprimaturref02_Words_small.f a0_0 a0_1 (rd x6_3 (wrap64 (x11_3 - 2))) 19 61 6).bind fun t146 => ((imprimaturref02_Words_cut.f a0_0 a0_1 (IntKind.u64.wrap ((IntKind.u64.wrap ((IntKind.u64.wrap ((rd x6_3 (ji16)) + (rd x6_3 (ji19)))) + t144)) + t146))).bind fun t147 => (if x6_3.length < 17592186044416 then (imprimaturref02_Words_expand.l2 k3 (x6_3 ++ [t147]) x10_11 (wrap64 (x11_3 + 1)) a0_0 a0_1) else (none)))) else (none)) else (none))) else (none)) else (none)) else (if 0 ≤ (wrap64 (x11_3 - 15)) then (if (wrap64 (x11_3 - 15)) < (x6_3.length : Int) then ((imprimaturref02_Words_small.f a0_0 a0_1 (rd x6_3 (wrap64 (x11_3 - 15))) 7 18 3).bind fun t152 => (if 0 ≤ (wrap64 (x11_3 - 2)) then (if (wrap64 (x11_3 - 2)) < (x6_3.length : Int) then ((imprimaturref02_Words_small.f a0_0 a0_1 (rd x6_3 (wrap64 (x11_3 - 2))) 17 19 10).bind fun t154 => ((imprimaturref02_Words_cut.f a0_0 a0_1 (IntKind.u64.wrap ((IntKind.u64.wrap ((IntKind.u64.wrap ((rd x6_3 (ji16)) + (rd x6_3 (ji19)))) + t152)) + t154))).bind fun t155 => (if x6_3.length < 17592186044416 then (imprimaturref02_Words_expand.l2 k3 (x6_3 ++ [t155]) x10_11 (wrap64 (x11_3 + 1)) a0_0 a0_1) else (none)))) else (none)) else (none))) else (none)) else (none))) else (none)) else (none)) = some r := by first | (rw [hji19] at H; exact H) | (simp only [hji19] at H ⊢; exact H)
                      have hji19w : (IntKind.i64.wrap (x11_3 - 7)) = ji19 := (i64_w _).trans hji19
                      by_cases c20 : 0 ≤ (ji19)
                      · rw [if_pos c20] at H
                        have c20b0 : decide (0 ≤ (ji19)) = true := decide_eq_true c20
                        clear c20
                        by_cases c21 : (ji19) < (x6_3.length : Int)
                        · rw [if_pos c21] at H
                          have c21b0 : decide ((ji19) < (x6_3.length : Int)) = true := decide_eq_true c21
                          clear c21
                          by_cases c22 : a0_0 = 0
                          · rw [if_pos c22] at H
                            have c22b0 : (a0_0 == 0) = true := beq_iff_eq.mpr c22
                            have c22b1 : (a0_0 != 0) = false := bne_eq_false_iff_eq.mpr c22
                            clear c22
                            obtain ⟨ji23, hji23⟩ : ∃ j_ : Int, (wrap64 (x11_3 - 15)) = j_ := ⟨_, rfl⟩
                            replace H : (if 0 ≤ (ji23) then (if (ji23) < (x6_3.length : Int) then ((imprimaturref02_Words_small.f a0_0 a0_1 (rd x6_3 (ji23)) 1 8 7).bind fun t144 => (if 0 ≤ (wrap64 (x11_3 - 2)) then (if (wrap64 (x11_3 - 2)) < (x6_3.length : Int) then ((imprimaturref02_Words_small.f a0_0 a0_1 (rd x6_3 (wrap64 (x11_3 - 2))) 19 61 6).bind fun t146 => ((imprimaturref02_Words_cut.f a0_0 a0_1 (IntKind.u64.wrap ((IntKind.u64.wrap ((IntKind.u64.wrap ((rd x6_3 (ji16)) + (rd x6_3 (ji19)))) + t144)) + t146))).bind fun t147 => (if x6_3.length < 17592186044416 then (imprimaturref02_Words_expand.l2 k3 (x6_3 ++ [t147]) x10_11 (wrap64 (x11_3 + 1)) a0_0 a0_1) else (none)))) else (none)) else (none))) else (none)) else (none)) = some r := by first | (rw [hji23] at H; exact H) | (simp only [hji23] at H ⊢; exact H)
                            have hji23w : (IntKind.i64.wrap (x11_3 - 15)) = ji23 := (i64_w _).trans hji23
                            by_cases c24 : 0 ≤ (ji23)
                            · rw [if_pos c24] at H
                              have c24b0 : decide (0 ≤ (ji23)) = true := decide_eq_true c24
                              clear c24
                              by_cases c25 : (ji23) < (x6_3.length : Int)
                              · rw [if_pos c25] at H
                                have c25b0 : decide ((ji23) < (x6_3.length : Int)) = true := decide_eq_true c25
                                clear c25
                                replace H := Option.bind_eq_some_iff.mp H
                                obtain ⟨t144, A260, H⟩ := H
                                replace H : (if 0 ≤ (wrap64 (x11_3 - 2)) then (if (wrap64 (x11_3 - 2)) < (x6_3.length : Int) then ((imprimaturref02_Words_small.f a0_0 a0_1 (rd x6_3 (wrap64 (x11_3 - 2))) 19 61 6).bind fun t146 => ((imprimaturref02_Words_cut.f a0_0 a0_1 (IntKind.u64.wrap ((IntKind.u64.wrap ((IntKind.u64.wrap ((rd x6_3 (ji16)) + (rd x6_3 (ji19)))) + t144)) + t146))).bind fun t147 => (if x6_3.length < 17592186044416 then (imprimaturref02_Words_expand.l2 k3 (x6_3 ++ [t147]) x10_11 (wrap64 (x11_3 + 1)) a0_0 a0_1) else (none)))) else (none)) else (none)) = some r := H
                                have A26 := Aside0.mk A260
                                clear A260
                                obtain ⟨ji27, hji27⟩ : ∃ j_ : Int, (wrap64 (x11_3 - 2)) = j_ := ⟨_, rfl⟩
                                replace H : (if 0 ≤ (ji27) then (if (ji27) < (x6_3.length : Int) then ((imprimaturref02_Words_small.f a0_0 a0_1 (rd x6_3 (ji27)) 19 61 6).bind fun t146 => ((imprimaturref02_Words_cut.f a0_0 a0_1 (IntKind.u64.wrap ((IntKind.u64.wrap ((IntKind.u64.wrap ((rd x6_3 (ji16)) + (rd x6_3 (ji19)))) + t144)) + t146))).bind fun t147 => (if x6_3.length < 17592186044416 then (imprimaturref02_Words_expand.l2 k3 (x6_3 ++ [t147]) x10_11 (wrap64 (x11_3 + 1)) a0_0 a0_1) else (none)))) else (none)) else (none)) = some r := by first | (rw [hji27] at H; exact H) | (simp only [hji27] at H ⊢; exact H)
                                (try rw [hji27] at A26)
                                have hji27w : (IntKind.i64.wrap (x11_3 - 2)) = ji27 := (i64_w _).trans hji27
                                by_cases c28 : 0 ≤ (ji27)
                                · rw [if_pos c28] at H
                                  have c28b0 : decide (0 ≤ (ji27)) = true := decide_eq_true c28
                                  clear c28
                                  by_cases c29 : (ji27) < (x6_3.length : Int)
                                  · rw [if_pos c29] at H
                                    have c29b0 : decide ((ji27) < (x6_3.length : Int)) = true := decide_eq_true c29
                                    clear c29
                                    replace H := Option.bind_eq_some_iff.mp H
                                    obtain ⟨t146, A300, H⟩ := H
                                    replace H : ((imprimaturref02_Words_cut.f a0_0 a0_1 (IntKind.u64.wrap ((IntKind.u64.wrap ((IntKind.u64.wrap ((rd x6_3 (ji16)) + (rd x6_3 (ji19)))) + t144)) + t146))).bind fun t147 => (if x6_3.length < 17592186044416 then (imprimaturref02_Words_expand.l2 k3 (x6_3 ++ [t147]) x10_11 (wrap64 (x11_3 + 1)) a0_0 a0_1) else (none))) = some r := H
                                    have A30 := Aside0.mk A300
                                    clear A300
                                    replace H := Option.bind_eq_some_iff.mp H
                                    obtain ⟨t147, A310, H⟩ := H
                                    replace H : (if x6_3.length < 17592186044416 then (imprimaturref02_Words_expand.l2 k3 (x6_3 ++ [t147]) x10_11 (wrap64 (x11_3 + 1)) a0_0 a0_1) else (none)) = some r := H
                                    have A31 := Aside0.mk A310
                                    clear A310
                                    by_cases c32 : x6_3.length < 17592186044416
                                    · rw [if_pos c32] at H
                                      have LMc32 := Aside0.mk c32
                                      clear c32
                                      obtain ⟨y148, hy148⟩ : ∃ y_ : List Int, y_ = (x6_3 ++ [t147]) := ⟨_, rfl⟩
                                      replace H : (imprimaturref02_Words_expand.l2 k3 y148 x10_11 (wrap64 (x11_3 + 1)) a0_0 a0_1) = some r := by first | (rw [hy148]; with_reducible exact H) | (have H2_ := (Option.bind_some _ _).symm.trans H; rw [hy148]; with_reducible exact H2_) | (have H2_ := (Option.bind_some _ _).symm.trans H; with_reducible exact H2_) | with_reducible exact H | (rw [hy148]; exact H) | exact H
                                      have Ny148 := Aside0.mk hy148
                                      clear hy148
                                      have H' := Aside0.mk H
                                      clear H
                                      try go_wp2
                                      have n0_ := Aside0.mk (Kd.R_drew HO_6.out)
                                      have n1_ := Aside0.mk (blk_drew BK136.out)
                                      have n2_ := Aside0.mk (below_drew1 HB.out)
                                      clear HO_6
                                      clear BK136
                                      clear HB
                                      have HO_6 := n0_
                                      have BK136 := n1_
                                      have HB := n2_
                                      clear n0_ n1_ n2_
                                      obtain ⟨Ao34, co34, eo34⟩ := Kd.R_slice HO_6.out
                                      (first | subst eo34 | (injection eo34 with f1_ f2_ f3_; have f4_ := f1_.symm; have f5_ := f3_.symm; clear f1_ f2_ f3_; subst f4_; subst f5_))
                                      have p141 : 0 ≤ ((ji16) : Int) := of_decide_eq_true (by first | (with_reducible assumption) | assumption)
                                      have q141 : (ji16) < (x6_3.length : Int) := of_decide_eq_true (by first | (with_reducible assumption) | assumption)
                                      obtain ⟨ad141, e141, hx141_0⟩ := Kd.at_int (Kd.R_reads' HO_6.out).2.2 (ji16) p141 q141
                                      cases e141
                                      replace p141 := eq_true p141
                                      replace q141 := eq_true q141
                                      have p142 : 0 ≤ ((ji19) : Int) := of_decide_eq_true (by first | (with_reducible assumption) | assumption)
                                      have q142 : (ji19) < (x6_3.length : Int) := of_decide_eq_true (by first | (with_reducible assumption) | assumption)
                                      obtain ⟨ad142, e142, hx142_0⟩ := Kd.at_int (Kd.R_reads' HO_6.out).2.2 (ji19) p142 q142
                                      obtain rfl : ad141 = ad142 := (by injection e142)
                                      replace p142 := eq_true p142
                                      replace q142 := eq_true q142
                                      refine start_ (n := 12) (S := fun w' => w'.cell? (ad141.add ((ji16)).toNat) = some (.int .u64 (rd x6_3 (ji16))) ∧ w'.cell? (ad141.add ((ji19)).toNat) = some (.int .u64 (rd x6_3 (ji19)))) (ds := []) (bz 12 0) (by kernel_rfl) rfl rfl ⟨hx141_0, hx142_0⟩ (fun hHeld => ?_); refine with_tabW imprimaturref02_Words_expand.tab18 imprimaturref02_Words_expand.bits18 (fun HT_ HW_ => ?_)
                                      generalize wr.drew = w33 at HO_6 BK136 HB hx141_0 hx142_0 hHeld ⊢
                                      refine xpz 0 (some 50) (bz 12 1) (any_of HT_.out (by kernel_rfl)) ?_
                                      refine xpz 1 (some 51) (bz 12 3) (any_of HT_.out (by kernel_rfl)) ?_
                                      refine xpz 2 (some 52) (bz 12 7) (any_of HT_.out (by kernel_rfl)) ?_
                                      refine xpz 3 (some 53) (bz 12 15) (any_of HT_.out (by kernel_rfl)) ?_
                                      refine xpz 5 (some 55) (bz 12 47) (any_of HT_.out (by kernel_rfl)) ?_
                                      refine xpz 6 (some 56) (bz 12 111) (any_of HT_.out (by kernel_rfl)) ?_
                                      refine xpz 7 (some 57) (bz 12 239) (any_of HT_.out (by kernel_rfl)) ?_
                                      refine xpz 8 (some 58) (bz 12 495) (any_of HT_.out (by kernel_rfl)) ?_
                                      refine xtz2 4 (some 54) (bz 12 511) (take_ofW HT_.out HW_.out (by kernel_rfl)) hHeld ?_
                                      refine xtz2 9 (some 59) (bz 12 1023) (take_ofW HT_.out HW_.out (by kernel_rfl)) hHeld ?_
                                      refine xpz 10 (some 60) (bz 12 2047) (any_of HT_.out (by kernel_rfl)) ?_
                                      refine xpz 11 (some 12) (bz 12 4095) (any_of HT_.out (by kernel_rfl)) ?_
                                      refine done_ (done_of HT_.out (by kernel_rfl)) ?_
                                      have hcz35_0 : w33.cell? ⟨gb136, 0, none⟩ = some (.int .u64 a0_0) := (blk_cell BK136.out 0).trans rfl
                                      have hcz35_1 : w33.cell? ⟨gb136, 1, none⟩ = some (.int .u64 a0_1) := (blk_cell BK136.out 1).trans rfl
                                      have hfz35_0 := blk_frozen BK136.out 0
                                      have hfz35_1 := blk_frozen BK136.out 1
                                      try go_wp2
                                      have n0_ := Aside0.mk (Kd.R_drew HO_6.out)
                                      have n1_ := Aside0.mk (blk_drew BK136.out)
                                      have n2_ := Aside0.mk (below_drew1 HB.out)
                                      clear HO_6
                                      clear BK136
                                      clear HB
                                      have HO_6 := n0_
                                      have BK136 := n1_
                                      have HB := n2_
                                      clear n0_ n1_ n2_
                                      have p143 : 0 ≤ ((ji23) : Int) := of_decide_eq_true (by first | (with_reducible assumption) | assumption)
                                      have q143 : (ji23) < (x6_3.length : Int) := of_decide_eq_true (by first | (with_reducible assumption) | assumption)
                                      obtain ⟨ad143, e143, hx143_0⟩ := Kd.at_int (Kd.R_reads' HO_6.out).2.2 (ji23) p143 q143
                                      obtain rfl : ad141 = ad143 := (by injection e143)
                                      replace p143 := eq_true p143
                                      replace q143 := eq_true q143
                                      have p145 : 0 ≤ ((ji27) : Int) := of_decide_eq_true (by first | (with_reducible assumption) | assumption)
                                      have q145 : (ji27) < (x6_3.length : Int) := of_decide_eq_true (by first | (with_reducible assumption) | assumption)
                                      obtain ⟨ad145, e145, hx145_0⟩ := Kd.at_int (Kd.R_reads' HO_6.out).2.2 (ji27) p145 q145
                                      obtain rfl : ad141 = ad145 := (by injection e145)
                                      replace p145 := eq_true p145
                                      replace q145 := eq_true q145
                                      refine start_ (n := 18) (S := fun w' => w'.cell? ⟨gb136, 0, none⟩ = some (.int .u64 a0_0) ∧ w'.cell? ⟨gb136, 1, none⟩ = some (.int .u64 a0_1) ∧ w'.cell? (ad141.add ((ji23)).toNat) = some (.int .u64 (rd x6_3 (ji23))) ∧ w'.cell? (ad141.add ((ji27)).toNat) = some (.int .u64 (rd x6_3 (ji27)))) (ds := []) (bz 18 0) (by kernel_rfl) rfl rfl ⟨(blk_cell BK136.out 0).trans rfl, (blk_cell BK136.out 1).trans rfl, hx143_0, hx145_0⟩ (fun hHeld => ?_); refine with_tabW imprimaturref02_Words_expand.tab21 imprimaturref02_Words_expand.bits21 (fun HT_ HW_ => ?_)
                                      generalize w33.drew = w36 at HO_6 BK136 HB hx143_0 hx145_0 hHeld ⊢
                                      refine xpz 0 (some 81) (bz 18 1) (any_of HT_.out (by kernel_rfl)) ?_
                                      refine xpz 2 (some 83) (bz 18 5) (any_of HT_.out (by kernel_rfl)) ?_
                                      refine xpz 3 (some 84) (bz 18 13) (any_of HT_.out (by kernel_rfl)) ?_
                                      refine xpz 4 (some 85) (bz 18 29) (any_of HT_.out (by kernel_rfl)) ?_
                                      refine xpz 5 (some 86) (bz 18 61) (any_of HT_.out (by kernel_rfl)) ?_
                                      refine xpz 10 (some 91) (bz 18 1085) (any_of HT_.out (by kernel_rfl)) ?_
                                      refine xpz 11 (some 92) (bz 18 3133) (any_of HT_.out (by kernel_rfl)) ?_
                                      refine xpz 12 (some 93) (bz 18 7229) (any_of HT_.out (by kernel_rfl)) ?_
                                      refine xpz 13 (some 94) (bz 18 15421) (any_of HT_.out (by kernel_rfl)) ?_
                                      refine xtz4 1 (some 82) (bz 18 15423) (take_ofW HT_.out HW_.out (by kernel_rfl)) hHeld ?_
                                      refine xtz4 6 (some 87) (bz 18 15487) (take_ofW HT_.out HW_.out (by kernel_rfl)) hHeld ?_
                                      refine xtz4 9 (some 90) (bz 18 15999) (take_ofW HT_.out HW_.out (by kernel_rfl)) hHeld ?_
                                      refine xtz4 14 (some 95) (bz 18 32383) (take_ofW HT_.out HW_.out (by kernel_rfl)) hHeld ?_
                                      refine one_ (i := 7) (N := some 88) (bz 18 32511) rfl rfl (one_of HT_.out (by kernel_rfl)) (by decide) (fun K hK => ?_)
                                      refine goes_ Tryd.func84 (by kernel_rfl) rfl #[.agg #[.int .u64 a0_0, .int .u64 a0_1], .int .u64 (rd x6_3 (ji23)), .int .u64 1, .int .u64 8, .int .u64 7] (by rfl) rfl rfl (by (try simp only [List.map_toArray, List.map_cons, List.map_nil]); first | done | (simp only [hji23]; rfl) | rfl | (simp only [List.length_drop, List.length_take]; rfl)) ?_
                                      with_reducible refine (imprimaturref02_Words_small.calls a0_0 a0_1 (rd x6_3 (ji23)) 1 8 7 t144 _ A26.out).mono ?_
                                      rintro e w37 ⟨rfl, hb⟩
                                      have HS2_ := (hb.cell (World.block_lt_of_cell? _ _ (hHeld.2.2.1))).trans (hHeld.2.2.1)
                                      have HS3_ := (hb.cell (World.block_lt_of_cell? _ _ (hHeld.2.2.2))).trans (hHeld.2.2.2)
                                      refine ⟨_, rfl, ?_⟩
                                      have n0_ := Aside0.mk (Kd.R_below (by (with_reducible repeat (first | apply Kd.R_alloc | apply Kd.R_drewN | apply Kd.R_drew)); exact HO_6.out) hb)
                                      have n1_ := Aside0.mk (blk_below (g := gb136) (o := .cells #[.int .u64 a0_0, .int .u64 a0_1] 103 (0, 0)) (by (with_reducible repeat (first | refine blk_drewN ?_ _ | refine blk_drew ?_ | refine blk_alloc ?_ _)); exact BK136.out) hb)
                                      have n2_ := Aside0.mk (below_step (by repeat (first | (with_reducible first | exact HB.out | apply below_alloc | apply pw_below_drewN | apply below_drew1 | refine below_set ?_ GE136.out) | exact HB.out)) hb)
                                      clear HO_6
                                      clear BK136
                                      clear HB
                                      have HO_6 := n0_
                                      have BK136 := n1_
                                      have HB := n2_
                                      clear n0_ n1_ n2_
                                      (try clear hb)
                                      (try clear hb2)
                                      (try clear hk)
                                      (try clear hi)
                                      refine hK.out _ _ ⟨(blk_cell BK136.out 0).trans rfl, (blk_cell BK136.out 1).trans rfl, HS2_, HS3_⟩ (fun hHeld => ?_)
                                      clear hK K
                                      refine norm_ (a' := ?_) ?_ ?_
                                      rotate_left
                                      · show Act.put _ (some 88) _ = _
                                        simp only [Act.put, List.setIfInBounds_toArray, List.set_cons_zero, List.set_cons_succ, i64_w, i32_w]
                                        rfl
                                      refine xpz 8 (some 89) (bz 18 32767) (any_of HT_.out (by kernel_rfl)) ?_
                                      refine one_ (i := 15) (N := some 96) (bz 18 65535) rfl rfl (one_of HT_.out (by kernel_rfl)) (by decide) (fun K hK => ?_)
                                      refine goes_ Tryd.func84 (by kernel_rfl) rfl #[.agg #[.int .u64 a0_0, .int .u64 a0_1], .int .u64 (rd x6_3 (ji27)), .int .u64 19, .int .u64 61, .int .u64 6] (by rfl) rfl rfl (by (try simp only [List.map_toArray, List.map_cons, List.map_nil]); first | done | (simp only [hji27]; rfl) | rfl | (simp only [List.length_drop, List.length_take]; rfl)) ?_
                                      with_reducible refine (imprimaturref02_Words_small.calls a0_0 a0_1 (rd x6_3 (ji27)) 19 61 6 t146 _ A30.out).mono ?_
                                      rintro e w38 ⟨rfl, hb⟩
                                      have HS2_ := (hb.cell (World.block_lt_of_cell? _ _ (hHeld.2.2.1))).trans (hHeld.2.2.1)
                                      have HS3_ := (hb.cell (World.block_lt_of_cell? _ _ (hHeld.2.2.2))).trans (hHeld.2.2.2)
                                      refine ⟨_, rfl, ?_⟩
                                      have n0_ := Aside0.mk (Kd.R_below (by (with_reducible repeat (first | apply Kd.R_alloc | apply Kd.R_drewN | apply Kd.R_drew)); exact HO_6.out) hb)
                                      have n1_ := Aside0.mk (blk_below (g := gb136) (o := .cells #[.int .u64 a0_0, .int .u64 a0_1] 103 (0, 0)) (by (with_reducible repeat (first | refine blk_drewN ?_ _ | refine blk_drew ?_ | refine blk_alloc ?_ _)); exact BK136.out) hb)
                                      have n2_ := Aside0.mk (below_step (by repeat (first | (with_reducible first | exact HB.out | apply below_alloc | apply pw_below_drewN | apply below_drew1 | refine below_set ?_ GE136.out) | exact HB.out)) hb)
                                      clear HO_6
                                      clear BK136
                                      clear HB
                                      have HO_6 := n0_
                                      have BK136 := n1_
                                      have HB := n2_
                                      clear n0_ n1_ n2_
                                      (try clear hb)
                                      (try clear hb2)
                                      (try clear hk)
                                      (try clear hi)
                                      refine hK.out _ _ ⟨(blk_cell BK136.out 0).trans rfl, (blk_cell BK136.out 1).trans rfl, HS2_, HS3_⟩ (fun hHeld => ?_)
                                      clear hK K
                                      refine norm_ (a' := ?_) ?_ ?_
                                      rotate_left
                                      · show Act.put _ (some 96) _ = _
                                        simp only [Act.put, List.setIfInBounds_toArray, List.set_cons_zero, List.set_cons_succ, i64_w, i32_w]
                                        rfl
                                      refine xpz 16 (some 97) (bz 18 131071) (any_of HT_.out (by kernel_rfl)) ?_
                                      refine xpz 17 (some 12) (bz 18 262143) (any_of HT_.out (by kernel_rfl)) ?_
                                      refine done_ (done_of HT_.out (by kernel_rfl)) ?_
                                      have hcz39_0 : w38.cell? ⟨gb136, 0, none⟩ = some (.int .u64 a0_0) := (blk_cell BK136.out 0).trans rfl
                                      have hcz39_1 : w38.cell? ⟨gb136, 1, none⟩ = some (.int .u64 a0_1) := (blk_cell BK136.out 1).trans rfl
                                      have hfz39_0 := blk_frozen BK136.out 0
                                      have hfz39_1 := blk_frozen BK136.out 1
                                      try go_wp2_with (first | ((with_reducible refine gate_callee (f := 69) rfl ?_); refine goesL_ (some 101) rfl rfl Tryd.func69 (by kernel_rfl) rfl #[.agg #[.int .u64 a0_0, .int .u64 a0_1], .int .u64 (IntKind.u64.wrap ((IntKind.u64.wrap ((IntKind.u64.wrap ((rd x6_3 (ji16)) + (rd x6_3 (ji19)))) + t144)) + t146))] rfl (by (try simp only [List.map_toArray, List.map_cons, List.map_nil]); first | done | (simp only [hji16, hji19]; rfl) | rfl | (simp only [List.length_drop, List.length_take]; rfl)) ?_; (with_reducible refine (imprimaturref02_Words_cut.calls a0_0 a0_1 (IntKind.u64.wrap ((IntKind.u64.wrap ((IntKind.u64.wrap ((rd x6_3 (ji16)) + (rd x6_3 (ji19)))) + t144)) + t146)) t147 _ A31.out).mono ?_); rintro e w40 ⟨rfl, hb⟩; refine ⟨_, rfl, ?_⟩; have n0_ := Aside0.mk (Kd.R_below (by (with_reducible repeat (first | apply Kd.R_alloc | apply Kd.R_drewN | apply Kd.R_drew)); exact HO_6.out) hb); have n1_ := Aside0.mk (blk_below (g := gb136) (o := .cells #[.int .u64 a0_0, .int .u64 a0_1] 103 (0, 0)) (by (with_reducible repeat (first | refine blk_drewN ?_ _ | refine blk_drew ?_ | refine blk_alloc ?_ _)); exact BK136.out) hb); have n2_ := Aside0.mk (below_step (by repeat (first | (with_reducible first | exact HB.out | apply below_alloc | apply pw_below_drewN | apply below_drew1 | refine below_set ?_ GE136.out) | exact HB.out)) hb); clear HO_6; clear BK136; clear HB; have HO_6 := n0_; have BK136 := n1_; have HB := n2_; clear n0_ n1_ n2_; (try clear hb); (try clear hb2); (try clear hk); (try clear hi)) | ((with_reducible refine gate_builtin (b := .append) (xs := #[.tmp 98, .tmp 102]) rfl ?_); at_builtin; refine Kd.R_append (Kd.int .u64) (w0 := w) w.heap.size rfl (.tmp 98) (.tmp 102) 105 27 (.int .u64 0) 8 rfl Tryd.underlying105 info27 rfl (by decide) (by omega) (.slice (some ad141) x6_3.length co34) x6_3 t147 [.int .u64 t147] (fun _ => True) (fun _ => False) rfl rfl ?aP (fun _ hk => hk.elim) ?aF ?aO ?aB ?aS ?aL ?_; (case aP => exact rfl); (case aB => exact (by repeat (first | (with_reducible first | exact HB.out | apply below_alloc | apply pw_below_drewN | apply below_drew1 | refine below_set ?_ GE136.out) | exact HB.out))); (case aF => exact (fun _ _ => trivial)); (case aO => exact (by (with_reducible repeat (first | apply Kd.R_alloc | apply Kd.R_drewN | apply Kd.R_drew)); exact HO_6.out)); (case aS => exact (below_size (by repeat (first | (with_reducible first | exact HB.out | apply below_alloc | apply pw_below_drewN | apply below_drew1 | refine below_set ?_ GE136.out) | exact HB.out)))); (case aL => have := LMc32.out; omega); intro v149 w41 ho hb hg hat; rw [← Ny148.out] at ho; have n0_ := Aside0.mk (blk_grown (g := gb136) (o := .cells #[.int .u64 a0_0, .int .u64 a0_1] 103 (0, 0)) (by (with_reducible repeat (first | refine blk_drewN ?_ _ | refine blk_drew ?_ | refine blk_alloc ?_ _)); exact BK136.out) hg (Kd.R_ne HO_6.out BK136.out (by decide))); have n1_ := Aside0.mk (hb); have n2_ := Aside0.mk (ho); clear BK136; clear HB; clear HO_6; have BK136 := n0_; have HB := n1_; have HO150 := n2_; clear n0_ n1_ n2_; clear ho hb hg hat))
                                      go_roundg k3
                                      case measure => have := HK1.out; have := HJ11.out; have := HK3.out; omega
                                      case rel => exact ⟨(y148), (wrap64 (x11_3 + 1)), (by first | rfl | (simp; done) | (simp [*]; done)), H', ⟨by have := HK1.out; have := HJ11.out; have := HK3.out; omega⟩, ⟨by (with_reducible repeat (first | apply Kd.R_alloc | apply Kd.R_drewN | apply Kd.R_drew)); exact HO150.out⟩, ⟨by (with_reducible repeat (first | refine blk_drewN ?_ _ | refine blk_drew ?_ | refine blk_alloc ?_ _)); exact BK136.out⟩, ⟨by repeat (first | (with_reducible first | exact HB.out | apply below_alloc | apply pw_below_drewN | apply below_drew1 | refine below_set ?_ GE136.out) | exact HB.out)⟩⟩
                                    · rw [if_neg c32] at H
                                      exact absurd H (by simp)
                                  · rw [if_neg c29] at H
                                    exact absurd H (by simp)
                                · rw [if_neg c28] at H
                                  exact absurd H (by simp)
                              · rw [if_neg c25] at H
                                exact absurd H (by simp)
                            · rw [if_neg c24] at H
                              exact absurd H (by simp)
                          · rw [if_neg c22] at H
                            have c22b0 : (a0_0 == 0) = false := beq_eq_false_iff_ne.mpr c22
                            have c22b1 : (a0_0 != 0) = true := bne_iff_ne.mpr c22
                            obtain ⟨ji42, hji42⟩ : ∃ j_ : Int, (wrap64 (x11_3 - 15)) = j_ := ⟨_, rfl⟩
                            replace H : (if 0 ≤ (ji42) then (if (ji42) < (x6_3.length : Int) then ((imprimaturref02_Words_small.f a0_0 a0_1 (rd x6_3 (ji42)) 7 18 3).bind fun t152 => (if 0 ≤ (wrap64 (x11_3 - 2)) then (if (wrap64 (x11_3 - 2)) < (x6_3.length : Int) then ((imprimaturref02_Words_small.f a0_0 a0_1 (rd x6_3 (wrap64 (x11_3 - 2))) 17 19 10).bind fun t154 => ((imprimaturref02_Words_cut.f a0_0 a0_1 (IntKind.u64.wrap ((IntKind.u64.wrap ((IntKind.u64.wrap ((rd x6_3 (ji16)) + (rd x6_3 (ji19)))) + t152)) + t154))).bind fun t155 => (if x6_3.length < 17592186044416 then (imprimaturref02_Words_expand.l2 k3 (x6_3 ++ [t155]) x10_11 (wrap64 (x11_3 + 1)) a0_0 a0_1) else (none)))) else (none)) else (none))) else (none)) else (none)) = some r := by first | (rw [hji42] at H; exact H) | (simp only [hji42] at H ⊢; exact H)
                            have hji42w : (IntKind.i64.wrap (x11_3 - 15)) = ji42 := (i64_w _).trans hji42
                            by_cases c43 : 0 ≤ (ji42)
                            · rw [if_pos c43] at H
                              have c43b0 : decide (0 ≤ (ji42)) = true := decide_eq_true c43
                              clear c43
                              by_cases c44 : (ji42) < (x6_3.length : Int)
                              · rw [if_pos c44] at H
                                have c44b0 : decide ((ji42) < (x6_3.length : Int)) = true := decide_eq_true c44
                                clear c44
                                replace H := Option.bind_eq_some_iff.mp H
                                obtain ⟨t152, A450, H⟩ := H
                                replace H : (if 0 ≤ (wrap64 (x11_3 - 2)) then (if (wrap64 (x11_3 - 2)) < (x6_3.length : Int) then ((imprimaturref02_Words_small.f a0_0 a0_1 (rd x6_3 (wrap64 (x11_3 - 2))) 17 19 10).bind fun t154 => ((imprimaturref02_Words_cut.f a0_0 a0_1 (IntKind.u64.wrap ((IntKind.u64.wrap ((IntKind.u64.wrap ((rd x6_3 (ji16)) + (rd x6_3 (ji19)))) + t152)) + t154))).bind fun t155 => (if x6_3.length < 17592186044416 then (imprimaturref02_Words_expand.l2 k3 (x6_3 ++ [t155]) x10_11 (wrap64 (x11_3 + 1)) a0_0 a0_1) else (none)))) else (none)) else (none)) = some r := H
                                have A45 := Aside0.mk A450
                                clear A450
                                obtain ⟨ji46, hji46⟩ : ∃ j_ : Int, (wrap64 (x11_3 - 2)) = j_ := ⟨_, rfl⟩
                                replace H : (if 0 ≤ (ji46) then (if (ji46) < (x6_3.length : Int) then ((imprimaturref02_Words_small.f a0_0 a0_1 (rd x6_3 (ji46)) 17 19 10).bind fun t154 => ((imprimaturref02_Words_cut.f a0_0 a0_1 (IntKind.u64.wrap ((IntKind.u64.wrap ((IntKind.u64.wrap ((rd x6_3 (ji16)) + (rd x6_3 (ji19)))) + t152)) + t154))).bind fun t155 => (if x6_3.length < 17592186044416 then (imprimaturref02_Words_expand.l2 k3 (x6_3 ++ [t155]) x10_11 (wrap64 (x11_3 + 1)) a0_0 a0_1) else (none)))) else (none)) else (none)) = some r := by first | (rw [hji46] at H; exact H) | (simp only [hji46] at H ⊢; exact H)
                                (try rw [hji46] at A45)
                                have hji46w : (IntKind.i64.wrap (x11_3 - 2)) = ji46 := (i64_w _).trans hji46
                                by_cases c47 : 0 ≤ (ji46)
                                · rw [if_pos c47] at H
                                  have c47b0 : decide (0 ≤ (ji46)) = true := decide_eq_true c47
                                  clear c47
                                  by_cases c48 : (ji46) < (x6_3.length : Int)
                                  · rw [if_pos c48] at H
                                    have c48b0 : decide ((ji46) < (x6_3.length : Int)) = true := decide_eq_true c48
                                    clear c48
                                    replace H := Option.bind_eq_some_iff.mp H
                                    obtain ⟨t154, A490, H⟩ := H
                                    replace H : ((imprimaturref02_Words_cut.f a0_0 a0_1 (IntKind.u64.wrap ((IntKind.u64.wrap ((IntKind.u64.wrap ((rd x6_3 (ji16)) + (rd x6_3 (ji19)))) + t152)) + t154))).bind fun t155 => (if x6_3.length < 17592186044416 then (imprimaturref02_Words_expand.l2 k3 (x6_3 ++ [t155]) x10_11 (wrap64 (x11_3 + 1)) a0_0 a0_1) else (none))) = some r := H
                                    have A49 := Aside0.mk A490
                                    clear A490
                                    replace H := Option.bind_eq_some_iff.mp H
                                    obtain ⟨t155, A500, H⟩ := H
                                    replace H : (if x6_3.length < 17592186044416 then (imprimaturref02_Words_expand.l2 k3 (x6_3 ++ [t155]) x10_11 (wrap64 (x11_3 + 1)) a0_0 a0_1) else (none)) = some r := H
                                    have A50 := Aside0.mk A500
                                    clear A500
                                    by_cases c51 : x6_3.length < 17592186044416
                                    · rw [if_pos c51] at H
                                      have LMc51 := Aside0.mk c51
                                      clear c51
                                      obtain ⟨y156, hy156⟩ : ∃ y_ : List Int, y_ = (x6_3 ++ [t155]) := ⟨_, rfl⟩
                                      replace H : (imprimaturref02_Words_expand.l2 k3 y156 x10_11 (wrap64 (x11_3 + 1)) a0_0 a0_1) = some r := by first | (rw [hy156]; with_reducible exact H) | (have H2_ := (Option.bind_some _ _).symm.trans H; rw [hy156]; with_reducible exact H2_) | (have H2_ := (Option.bind_some _ _).symm.trans H; with_reducible exact H2_) | with_reducible exact H | (rw [hy156]; exact H) | exact H
                                      have Ny156 := Aside0.mk hy156
                                      clear hy156
                                      have H' := Aside0.mk H
                                      clear H
                                      try go_wp2
                                      have n0_ := Aside0.mk (Kd.R_drew HO_6.out)
                                      have n1_ := Aside0.mk (blk_drew BK136.out)
                                      have n2_ := Aside0.mk (below_drew1 HB.out)
                                      clear HO_6
                                      clear BK136
                                      clear HB
                                      have HO_6 := n0_
                                      have BK136 := n1_
                                      have HB := n2_
                                      clear n0_ n1_ n2_
                                      obtain ⟨Ao53, co53, eo53⟩ := Kd.R_slice HO_6.out
                                      (first | subst eo53 | (injection eo53 with f1_ f2_ f3_; have f4_ := f1_.symm; have f5_ := f3_.symm; clear f1_ f2_ f3_; subst f4_; subst f5_))
                                      have p141 : 0 ≤ ((ji16) : Int) := of_decide_eq_true (by first | (with_reducible assumption) | assumption)
                                      have q141 : (ji16) < (x6_3.length : Int) := of_decide_eq_true (by first | (with_reducible assumption) | assumption)
                                      obtain ⟨ad141, e141, hx141_0⟩ := Kd.at_int (Kd.R_reads' HO_6.out).2.2 (ji16) p141 q141
                                      cases e141
                                      replace p141 := eq_true p141
                                      replace q141 := eq_true q141
                                      have p142 : 0 ≤ ((ji19) : Int) := of_decide_eq_true (by first | (with_reducible assumption) | assumption)
                                      have q142 : (ji19) < (x6_3.length : Int) := of_decide_eq_true (by first | (with_reducible assumption) | assumption)
                                      obtain ⟨ad142, e142, hx142_0⟩ := Kd.at_int (Kd.R_reads' HO_6.out).2.2 (ji19) p142 q142
                                      obtain rfl : ad141 = ad142 := (by injection e142)
                                      replace p142 := eq_true p142
                                      replace q142 := eq_true q142
                                      refine start_ (n := 12) (S := fun w' => w'.cell? (ad141.add ((ji16)).toNat) = some (.int .u64 (rd x6_3 (ji16))) ∧ w'.cell? (ad141.add ((ji19)).toNat) = some (.int .u64 (rd x6_3 (ji19)))) (ds := []) (bz 12 0) (by kernel_rfl) rfl rfl ⟨hx141_0, hx142_0⟩ (fun hHeld => ?_); refine with_tabW imprimaturref02_Words_expand.tab18 imprimaturref02_Words_expand.bits18 (fun HT_ HW_ => ?_)
                                      generalize wr.drew = w52 at HO_6 BK136 HB hx141_0 hx142_0 hHeld ⊢
                                      refine xpz 0 (some 50) (bz 12 1) (any_of HT_.out (by kernel_rfl)) ?_
                                      refine xpz 1 (some 51) (bz 12 3) (any_of HT_.out (by kernel_rfl)) ?_
                                      refine xpz 2 (some 52) (bz 12 7) (any_of HT_.out (by kernel_rfl)) ?_
                                      refine xpz 3 (some 53) (bz 12 15) (any_of HT_.out (by kernel_rfl)) ?_
                                      refine xpz 5 (some 55) (bz 12 47) (any_of HT_.out (by kernel_rfl)) ?_
                                      refine xpz 6 (some 56) (bz 12 111) (any_of HT_.out (by kernel_rfl)) ?_
                                      refine xpz 7 (some 57) (bz 12 239) (any_of HT_.out (by kernel_rfl)) ?_
                                      refine xpz 8 (some 58) (bz 12 495) (any_of HT_.out (by kernel_rfl)) ?_
                                      refine xtz2 4 (some 54) (bz 12 511) (take_ofW HT_.out HW_.out (by kernel_rfl)) hHeld ?_
                                      refine xtz2 9 (some 59) (bz 12 1023) (take_ofW HT_.out HW_.out (by kernel_rfl)) hHeld ?_
                                      refine xpz 10 (some 60) (bz 12 2047) (any_of HT_.out (by kernel_rfl)) ?_
                                      refine xpz 11 (some 12) (bz 12 4095) (any_of HT_.out (by kernel_rfl)) ?_
                                      refine done_ (done_of HT_.out (by kernel_rfl)) ?_
                                      have hcz54_0 : w52.cell? ⟨gb136, 0, none⟩ = some (.int .u64 a0_0) := (blk_cell BK136.out 0).trans rfl
                                      have hcz54_1 : w52.cell? ⟨gb136, 1, none⟩ = some (.int .u64 a0_1) := (blk_cell BK136.out 1).trans rfl
                                      have hfz54_0 := blk_frozen BK136.out 0
                                      have hfz54_1 := blk_frozen BK136.out 1
                                      try go_wp2
                                      have n0_ := Aside0.mk (Kd.R_drew HO_6.out)
                                      have n1_ := Aside0.mk (blk_drew BK136.out)
                                      have n2_ := Aside0.mk (below_drew1 HB.out)
                                      clear HO_6
                                      clear BK136
                                      clear HB
                                      have HO_6 := n0_
                                      have BK136 := n1_
                                      have HB := n2_
                                      clear n0_ n1_ n2_
                                      have p151 : 0 ≤ ((ji42) : Int) := of_decide_eq_true (by first | (with_reducible assumption) | assumption)
                                      have q151 : (ji42) < (x6_3.length : Int) := of_decide_eq_true (by first | (with_reducible assumption) | assumption)
                                      obtain ⟨ad151, e151, hx151_0⟩ := Kd.at_int (Kd.R_reads' HO_6.out).2.2 (ji42) p151 q151
                                      obtain rfl : ad141 = ad151 := (by injection e151)
                                      replace p151 := eq_true p151
                                      replace q151 := eq_true q151
                                      have p153 : 0 ≤ ((ji46) : Int) := of_decide_eq_true (by first | (with_reducible assumption) | assumption)
                                      have q153 : (ji46) < (x6_3.length : Int) := of_decide_eq_true (by first | (with_reducible assumption) | assumption)
                                      obtain ⟨ad153, e153, hx153_0⟩ := Kd.at_int (Kd.R_reads' HO_6.out).2.2 (ji46) p153 q153
                                      obtain rfl : ad141 = ad153 := (by injection e153)
                                      replace p153 := eq_true p153
                                      replace q153 := eq_true q153
                                      refine start_ (n := 18) (S := fun w' => w'.cell? ⟨gb136, 0, none⟩ = some (.int .u64 a0_0) ∧ w'.cell? ⟨gb136, 1, none⟩ = some (.int .u64 a0_1) ∧ w'.cell? (ad141.add ((ji42)).toNat) = some (.int .u64 (rd x6_3 (ji42))) ∧ w'.cell? (ad141.add ((ji46)).toNat) = some (.int .u64 (rd x6_3 (ji46)))) (ds := []) (bz 18 0) (by kernel_rfl) rfl rfl ⟨(blk_cell BK136.out 0).trans rfl, (blk_cell BK136.out 1).trans rfl, hx151_0, hx153_0⟩ (fun hHeld => ?_); refine with_tabW imprimaturref02_Words_expand.tab20 imprimaturref02_Words_expand.bits20 (fun HT_ HW_ => ?_)
                                      generalize w52.drew = w55 at HO_6 BK136 HB hx151_0 hx153_0 hHeld ⊢
                                      refine xpz 0 (some 64) (bz 18 1) (any_of HT_.out (by kernel_rfl)) ?_
                                      refine xpz 2 (some 66) (bz 18 5) (any_of HT_.out (by kernel_rfl)) ?_
                                      refine xpz 3 (some 67) (bz 18 13) (any_of HT_.out (by kernel_rfl)) ?_
                                      refine xpz 4 (some 68) (bz 18 29) (any_of HT_.out (by kernel_rfl)) ?_
                                      refine xpz 5 (some 69) (bz 18 61) (any_of HT_.out (by kernel_rfl)) ?_
                                      refine xpz 10 (some 74) (bz 18 1085) (any_of HT_.out (by kernel_rfl)) ?_
                                      refine xpz 11 (some 75) (bz 18 3133) (any_of HT_.out (by kernel_rfl)) ?_
                                      refine xpz 12 (some 76) (bz 18 7229) (any_of HT_.out (by kernel_rfl)) ?_
                                      refine xpz 13 (some 77) (bz 18 15421) (any_of HT_.out (by kernel_rfl)) ?_
                                      refine xtz4 1 (some 65) (bz 18 15423) (take_ofW HT_.out HW_.out (by kernel_rfl)) hHeld ?_
                                      refine xtz4 6 (some 70) (bz 18 15487) (take_ofW HT_.out HW_.out (by kernel_rfl)) hHeld ?_
                                      refine xtz4 9 (some 73) (bz 18 15999) (take_ofW HT_.out HW_.out (by kernel_rfl)) hHeld ?_
                                      refine xtz4 14 (some 78) (bz 18 32383) (take_ofW HT_.out HW_.out (by kernel_rfl)) hHeld ?_
                                      refine one_ (i := 7) (N := some 71) (bz 18 32511) rfl rfl (one_of HT_.out (by kernel_rfl)) (by decide) (fun K hK => ?_)
                                      refine goes_ Tryd.func84 (by kernel_rfl) rfl #[.agg #[.int .u64 a0_0, .int .u64 a0_1], .int .u64 (rd x6_3 (ji42)), .int .u64 7, .int .u64 18, .int .u64 3] (by rfl) rfl rfl (by (try simp only [List.map_toArray, List.map_cons, List.map_nil]); first | done | (simp only [hji42]; rfl) | rfl | (simp only [List.length_drop, List.length_take]; rfl)) ?_
                                      with_reducible refine (imprimaturref02_Words_small.calls a0_0 a0_1 (rd x6_3 (ji42)) 7 18 3 t152 _ A45.out).mono ?_
                                      rintro e w56 ⟨rfl, hb⟩
                                      have HS2_ := (hb.cell (World.block_lt_of_cell? _ _ (hHeld.2.2.1))).trans (hHeld.2.2.1)
                                      have HS3_ := (hb.cell (World.block_lt_of_cell? _ _ (hHeld.2.2.2))).trans (hHeld.2.2.2)
                                      refine ⟨_, rfl, ?_⟩
                                      have n0_ := Aside0.mk (Kd.R_below (by (with_reducible repeat (first | apply Kd.R_alloc | apply Kd.R_drewN | apply Kd.R_drew)); exact HO_6.out) hb)
                                      have n1_ := Aside0.mk (blk_below (g := gb136) (o := .cells #[.int .u64 a0_0, .int .u64 a0_1] 103 (0, 0)) (by (with_reducible repeat (first | refine blk_drewN ?_ _ | refine blk_drew ?_ | refine blk_alloc ?_ _)); exact BK136.out) hb)
                                      have n2_ := Aside0.mk (below_step (by repeat (first | (with_reducible first | exact HB.out | apply below_alloc | apply pw_below_drewN | apply below_drew1 | refine below_set ?_ GE136.out) | exact HB.out)) hb)
                                      clear HO_6
                                      clear BK136
                                      clear HB
                                      have HO_6 := n0_
                                      have BK136 := n1_
                                      have HB := n2_
                                      clear n0_ n1_ n2_
                                      (try clear hb)
                                      (try clear hb2)
                                      (try clear hk)
                                      (try clear hi)
                                      refine hK.out _ _ ⟨(blk_cell BK136.out 0).trans rfl, (blk_cell BK136.out 1).trans rfl, HS2_, HS3_⟩ (fun hHeld => ?_)
                                      clear hK K
                                      refine norm_ (a' := ?_) ?_ ?_
                                      rotate_left
                                      · show Act.put _ (some 71) _ = _
                                        simp only [Act.put, List.setIfInBounds_toArray, List.set_cons_zero, List.set_cons_succ, i64_w, i32_w]
                                        rfl
                                      refine xpz 8 (some 72) (bz 18 32767) (any_of HT_.out (by kernel_rfl)) ?_
                                      refine one_ (i := 15) (N := some 79) (bz 18 65535) rfl rfl (one_of HT_.out (by kernel_rfl)) (by decide) (fun K hK => ?_)
                                      refine goes_ Tryd.func84 (by kernel_rfl) rfl #[.agg #[.int .u64 a0_0, .int .u64 a0_1], .int .u64 (rd x6_3 (ji46)), .int .u64 17, .int .u64 19, .int .u64 10] (by rfl) rfl rfl (by (try simp only [List.map_toArray, List.map_cons, List.map_nil]); first | done | (simp only [hji46]; rfl) | rfl | (simp only [List.length_drop, List.length_take]; rfl)) ?_
                                      with_reducible refine (imprimaturref02_Words_small.calls a0_0 a0_1 (rd x6_3 (ji46)) 17 19 10 t154 _ A49.out).mono ?_
                                      rintro e w57 ⟨rfl, hb⟩
                                      have HS2_ := (hb.cell (World.block_lt_of_cell? _ _ (hHeld.2.2.1))).trans (hHeld.2.2.1)
                                      have HS3_ := (hb.cell (World.block_lt_of_cell? _ _ (hHeld.2.2.2))).trans (hHeld.2.2.2)
                                      refine ⟨_, rfl, ?_⟩
                                      have n0_ := Aside0.mk (Kd.R_below (by (with_reducible repeat (first | apply Kd.R_alloc | apply Kd.R_drewN | apply Kd.R_drew)); exact HO_6.out) hb)
                                      have n1_ := Aside0.mk (blk_below (g := gb136) (o := .cells #[.int .u64 a0_0, .int .u64 a0_1] 103 (0, 0)) (by (with_reducible repeat (first | refine blk_drewN ?_ _ | refine blk_drew ?_ | refine blk_alloc ?_ _)); exact BK136.out) hb)
                                      have n2_ := Aside0.mk (below_step (by repeat (first | (with_reducible first | exact HB.out | apply below_alloc | apply pw_below_drewN | apply below_drew1 | refine below_set ?_ GE136.out) | exact HB.out)) hb)
                                      clear HO_6
                                      clear BK136
                                      clear HB
                                      have HO_6 := n0_
                                      have BK136 := n1_
                                      have HB := n2_
                                      clear n0_ n1_ n2_
                                      (try clear hb)
                                      (try clear hb2)
                                      (try clear hk)
                                      (try clear hi)
                                      refine hK.out _ _ ⟨(blk_cell BK136.out 0).trans rfl, (blk_cell BK136.out 1).trans rfl, HS2_, HS3_⟩ (fun hHeld => ?_)
                                      clear hK K
                                      refine norm_ (a' := ?_) ?_ ?_
                                      rotate_left
                                      · show Act.put _ (some 79) _ = _
                                        simp only [Act.put, List.setIfInBounds_toArray, List.set_cons_zero, List.set_cons_succ, i64_w, i32_w]
                                        rfl
                                      refine xpz 16 (some 80) (bz 18 131071) (any_of HT_.out (by kernel_rfl)) ?_
                                      refine xpz 17 (some 12) (bz 18 262143) (any_of HT_.out (by kernel_rfl)) ?_
                                      refine done_ (done_of HT_.out (by kernel_rfl)) ?_
                                      have hcz58_0 : w57.cell? ⟨gb136, 0, none⟩ = some (.int .u64 a0_0) := (blk_cell BK136.out 0).trans rfl
                                      have hcz58_1 : w57.cell? ⟨gb136, 1, none⟩ = some (.int .u64 a0_1) := (blk_cell BK136.out 1).trans rfl
                                      have hfz58_0 := blk_frozen BK136.out 0
                                      have hfz58_1 := blk_frozen BK136.out 1
                                      try go_wp2_with (first | ((with_reducible refine gate_callee (f := 69) rfl ?_); refine goesL_ (some 101) rfl rfl Tryd.func69 (by kernel_rfl) rfl #[.agg #[.int .u64 a0_0, .int .u64 a0_1], .int .u64 (IntKind.u64.wrap ((IntKind.u64.wrap ((IntKind.u64.wrap ((rd x6_3 (ji16)) + (rd x6_3 (ji19)))) + t152)) + t154))] rfl (by (try simp only [List.map_toArray, List.map_cons, List.map_nil]); first | done | (simp only [hji16, hji19]; rfl) | rfl | (simp only [List.length_drop, List.length_take]; rfl)) ?_; (with_reducible refine (imprimaturref02_Words_cut.calls a0_0 a0_1 (IntKind.u64.wrap ((IntKind.u64.wrap ((IntKind.u64.wrap ((rd x6_3 (ji16)) + (rd x6_3 (ji19)))) + t152)) + t154)) t155 _ A50.out).mono ?_); rintro e w59 ⟨rfl, hb⟩; refine ⟨_, rfl, ?_⟩; have n0_ := Aside0.mk (Kd.R_below (by (with_reducible repeat (first | apply Kd.R_alloc | apply Kd.R_drewN | apply Kd.R_drew)); exact HO_6.out) hb); have n1_ := Aside0.mk (blk_below (g := gb136) (o := .cells #[.int .u64 a0_0, .int .u64 a0_1] 103 (0, 0)) (by (with_reducible repeat (first | refine blk_drewN ?_ _ | refine blk_drew ?_ | refine blk_alloc ?_ _)); exact BK136.out) hb); have n2_ := Aside0.mk (below_step (by repeat (first | (with_reducible first | exact HB.out | apply below_alloc | apply pw_below_drewN | apply below_drew1 | refine below_set ?_ GE136.out) | exact HB.out)) hb); clear HO_6; clear BK136; clear HB; have HO_6 := n0_; have BK136 := n1_; have HB := n2_; clear n0_ n1_ n2_; (try clear hb); (try clear hb2); (try clear hk); (try clear hi)) | ((with_reducible refine gate_builtin (b := .append) (xs := #[.tmp 98, .tmp 102]) rfl ?_); at_builtin; refine Kd.R_append (Kd.int .u64) (w0 := w) w.heap.size rfl (.tmp 98) (.tmp 102) 105 27 (.int .u64 0) 8 rfl Tryd.underlying105 info27 rfl (by decide) (by omega) (.slice (some ad141) x6_3.length co53) x6_3 t155 [.int .u64 t155] (fun _ => True) (fun _ => False) rfl rfl ?aP (fun _ hk => hk.elim) ?aF ?aO ?aB ?aS ?aL ?_; (case aP => exact rfl); (case aB => exact (by repeat (first | (with_reducible first | exact HB.out | apply below_alloc | apply pw_below_drewN | apply below_drew1 | refine below_set ?_ GE136.out) | exact HB.out))); (case aF => exact (fun _ _ => trivial)); (case aO => exact (by (with_reducible repeat (first | apply Kd.R_alloc | apply Kd.R_drewN | apply Kd.R_drew)); exact HO_6.out)); (case aS => exact (below_size (by repeat (first | (with_reducible first | exact HB.out | apply below_alloc | apply pw_below_drewN | apply below_drew1 | refine below_set ?_ GE136.out) | exact HB.out)))); (case aL => have := LMc51.out; omega); intro v157 w60 ho hb hg hat; rw [← Ny156.out] at ho; have n0_ := Aside0.mk (blk_grown (g := gb136) (o := .cells #[.int .u64 a0_0, .int .u64 a0_1] 103 (0, 0)) (by (with_reducible repeat (first | refine blk_drewN ?_ _ | refine blk_drew ?_ | refine blk_alloc ?_ _)); exact BK136.out) hg (Kd.R_ne HO_6.out BK136.out (by decide))); have n1_ := Aside0.mk (hb); have n2_ := Aside0.mk (ho); clear BK136; clear HB; clear HO_6; have BK136 := n0_; have HB := n1_; have HO158 := n2_; clear n0_ n1_ n2_; clear ho hb hg hat))
                                      go_roundg k3
                                      case measure => have := HK1.out; have := HJ11.out; have := HK3.out; omega
                                      case rel => exact ⟨(y156), (wrap64 (x11_3 + 1)), (by first | rfl | (simp; done) | (simp [*]; done)), H', ⟨by have := HK1.out; have := HJ11.out; have := HK3.out; omega⟩, ⟨by (with_reducible repeat (first | apply Kd.R_alloc | apply Kd.R_drewN | apply Kd.R_drew)); exact HO158.out⟩, ⟨by (with_reducible repeat (first | refine blk_drewN ?_ _ | refine blk_drew ?_ | refine blk_alloc ?_ _)); exact BK136.out⟩, ⟨by repeat (first | (with_reducible first | exact HB.out | apply below_alloc | apply pw_below_drewN | apply below_drew1 | refine below_set ?_ GE136.out) | exact HB.out)⟩⟩
                                    · rw [if_neg c51] at H
                                      exact absurd H (by simp)
                                  · rw [if_neg c48] at H
                                    exact absurd H (by simp)
                                · rw [if_neg c47] at H
                                  exact absurd H (by simp)
                              · rw [if_neg c44] at H
                                exact absurd H (by simp)
                            · rw [if_neg c43] at H
                              exact absurd H (by simp)
                        · rw [if_neg c21] at H
                          exact absurd H (by simp)
                      · rw [if_neg c20] at H
                        exact absurd H (by simp)
                    · rw [if_neg c18] at H
                      exact absurd H (by simp)
                  · rw [if_neg c17] at H
                    exact absurd H (by simp)
                · rw [if_neg c15] at H
                  have c15b0 : decide (x11_3 < x10_11) = false := decide_eq_false c15
                  clear c15
                  obtain rfl := Option.some.inj H
                  go_wp2
                  go_ret
                  exact ⟨_, by first | rfl | (simp [errW_none, errW_some] <;> rfl) | (simp [*, errW_none, errW_some] <;> rfl), by (with_reducible repeat (first | apply Kd.R_alloc | apply Kd.R_drewN | apply Kd.R_drew)); exact HO_6.out, by repeat (first | (with_reducible first | exact HB.out | apply below_alloc | apply pw_below_drewN | apply below_drew1 | refine below_set ?_ GE136.out) | exact HB.out)⟩

end Go.Proofs.YtmblnflfklmmkaaDoor.P
/- Functions of the program and of its laws, each with a Lean function and the proof that a call comes to what that function tells, under the conditions that its contract names. (Laid by a program of this session, out of the translation; Lean checks it.) -/
namespace Go.Proofs.YtmblnflfklmmkaaDoor.P
open Go.RowKit Go.Proofs.YtmblnflfklmmkaaDoorW.PrintWords Go.Proofs.YtmblnflfklmmkaaDoorW.PrintLast Go.Proofs.YtmblnflfklmmkaaDoorW.PrintMore
attribute [local go_sem] max2_int min2_int max_two min_two max_three min_three max_four min_four   -- for this text's walks alone
set_option linter.unusedVariables false
set_option linter.unusedSimpArgs false

/-! ### imprimaturref02_Words_big: function 85 -/
def imprimaturref02_Words_big.f (a0_0 : Int) (a0_1 : Int) (a1 : Int) (a2 : Int) (a3 : Int) (a4 : Int) : Option (Int) := (imprimaturref02_Words_turn.f a0_0 a0_1 a1 a2).bind fun t160 => ((imprimaturref02_Words_turn.f a0_0 a0_1 a1 a3).bind fun t161 => ((imprimaturref02_Words_turn.f a0_0 a0_1 a1 a4).bind fun t162 => (some (Go.bits .xor .u64 (Go.bits .xor .u64 t160 t161) t162))))
def imprimaturref02_Words_big.T1 : Bool × List (List Nat × List Nat) := (true, [([], []), ([], []), ([], []), ([0, 1, 2], [0, 1, 2]), ([], []), ([], []), ([], []), ([4, 5, 6, 3], [4, 5, 6]), ([3, 7], [3, 7]), ([], []), ([], []), ([], []), ([9, 10, 11, 7], [9, 10, 11]), ([8, 12], [8, 12]), ([13, 12, 0, 1, 2, 3, 4, 5, 6, 7, 8, 9, 10, 11, 12, 13], [13])])
def imprimaturref02_Words_big.B1 : List Nat := [0, 0, 0, 7, 0, 0, 0, 127, 255, 0, 0, 0, 3839, 8191, 16383]
theorem imprimaturref02_Words_big.tab1 : rtab .any (opsOf Tryd.f85 1) = imprimaturref02_Words_big.T1 := by kernel_rfl
theorem imprimaturref02_Words_big.bits1 : waitsOk imprimaturref02_Words_big.T1.2 imprimaturref02_Words_big.B1 = true := by kernel_rfl
set_option maxHeartbeats 8000000 in
set_option maxRecDepth 100000 in
theorem imprimaturref02_Words_big.calls (a0_0 : Int) (a0_1 : Int) (a1 : Int) (a2 : Int) (a3 : Int) (a4 : Int) (r : Int) (w : World) (h : imprimaturref02_Words_big.f a0_0 a0_1 a1 a2 a3 a4 = some r) :
    Calls Tryd.prog 85 #[.agg #[.int .u64 a0_0, .int .u64 a0_1], .int .u64 a1, .int .u64 a2, .int .u64 a3, .int .u64 a4] w fun e w' => e = .returned (.int .u64 r) ∧ Below w.heap.size w w' := by
  have hu103 := Tryd.underlying103
  have HB := Aside0.mk (Below.refl w.heap.size w)
  have H : ((imprimaturref02_Words_turn.f a0_0 a0_1 a1 a2).bind fun t160 => ((imprimaturref02_Words_turn.f a0_0 a0_1 a1 a3).bind fun t161 => ((imprimaturref02_Words_turn.f a0_0 a0_1 a1 a4).bind fun t162 => (some (Go.bits .xor .u64 (Go.bits .xor .u64 t160 t161) t162))))) = some r := h
  clear h
  replace H := Option.bind_eq_some_iff.mp H
  obtain ⟨t160, A60, H⟩ := H
  replace H : ((imprimaturref02_Words_turn.f a0_0 a0_1 a1 a3).bind fun t161 => ((imprimaturref02_Words_turn.f a0_0 a0_1 a1 a4).bind fun t162 => (some (Go.bits .xor .u64 (Go.bits .xor .u64 t160 t161) t162)))) = some r := H
  have A6 := Aside0.mk A60
  clear A60
  replace H := Option.bind_eq_some_iff.mp H
  obtain ⟨t161, A70, H⟩ := H
  replace H : ((imprimaturref02_Words_turn.f a0_0 a0_1 a1 a4).bind fun t162 => (some (Go.bits .xor .u64 (Go.bits .xor .u64 t160 t161) t162))) = some r := H
  have A7 := Aside0.mk A70
  clear A70
  replace H := Option.bind_eq_some_iff.mp H
  obtain ⟨t162, A80, H⟩ := H
  replace H : (some (Go.bits .xor .u64 (Go.bits .xor .u64 t160 t161) t162)) = some r := H
  have A8 := Aside0.mk A80
  clear A80
  obtain rfl := Option.some.inj H
  go_enter Tryd.func85, Tryd.ntmps85
  try go_wp2_with (first | ((with_reducible refine gate_dst (N := 5) rfl ?_); refine box_event ?hg (N := 5) ?hd (cs := #[.int .u64 a0_0, .int .u64 a0_1]) (t := 103) ?hr ?_; (case hd => rfl); (case hg => rfl); (case hr => first | (go_simp; done) | (go_simp; rfl)); intro gb159 hg w9 hbox hb; have n0_ := Aside0.mk (below_step (by repeat (first | (with_reducible first | exact HB.out | apply below_alloc | apply pw_below_drewN | apply below_drew1) | exact HB.out)) hb); have n1_ := Aside0.mk (hbox); have n2_ := Aside0.mk ((by rw [hg]; exact (below_size (by repeat (first | (with_reducible first | exact HB.out | apply below_alloc | apply pw_below_drewN | apply below_drew1) | exact HB.out))) : w.heap.size ≤ gb159)); have n3_ := Aside0.mk ((by rw [hg]; exact (below_size (by repeat (first | (with_reducible first | exact HB.out | apply below_alloc | apply pw_below_drewN | apply below_drew1) | exact HB.out))) : w.heap.size ≤ gb159)); clear HB; have HB := n0_; have BK159 := n1_; have GW159 := n2_; have GE159 := n3_; clear n0_ n1_ n2_ n3_; clear hb hbox hg))
  have n0_ := Aside0.mk (blk_drew BK159.out)
  have n1_ := Aside0.mk (below_drew1 HB.out)
  clear BK159
  clear HB
  have BK159 := n0_
  have HB := n1_
  clear n0_ n1_
  refine start_ (n := 15) (S := fun w' => w'.cell? ⟨gb159, 0, none⟩ = some (.int .u64 a0_0) ∧ w'.cell? ⟨gb159, 1, none⟩ = some (.int .u64 a0_1)) (ds := []) (bz 15 0) (by kernel_rfl) rfl rfl ⟨(blk_cell BK159.out 0).trans rfl, (blk_cell BK159.out 1).trans rfl⟩ (fun hHeld => ?_); refine with_tabW imprimaturref02_Words_big.tab1 imprimaturref02_Words_big.bits1 (fun HT_ HW_ => ?_)
  generalize w9.drew = w10 at BK159 HB hHeld ⊢
  refine xpz 1 (some 12) (bz 15 2) (any_of HT_.out (by kernel_rfl)) ?_
  refine xpz 2 (some 13) (bz 15 6) (any_of HT_.out (by kernel_rfl)) ?_
  refine xpz 5 (some 16) (bz 15 38) (any_of HT_.out (by kernel_rfl)) ?_
  refine xpz 6 (some 17) (bz 15 102) (any_of HT_.out (by kernel_rfl)) ?_
  refine xpz 10 (some 21) (bz 15 1126) (any_of HT_.out (by kernel_rfl)) ?_
  refine xpz 11 (some 22) (bz 15 3174) (any_of HT_.out (by kernel_rfl)) ?_
  refine xtz2 0 (some 11) (bz 15 3175) (take_ofW HT_.out HW_.out (by kernel_rfl)) hHeld ?_
  refine xtz2 4 (some 15) (bz 15 3191) (take_ofW HT_.out HW_.out (by kernel_rfl)) hHeld ?_
  refine xtz2 9 (some 20) (bz 15 3703) (take_ofW HT_.out HW_.out (by kernel_rfl)) hHeld ?_
  refine one_ (i := 3) (N := some 14) (bz 15 3711) rfl rfl (one_of HT_.out (by kernel_rfl)) (by decide) (fun K hK => ?_)
  refine goes_ Tryd.func95 (by kernel_rfl) rfl #[.agg #[.int .u64 a0_0, .int .u64 a0_1], .int .u64 a1, .int .u64 a2] (by rfl) rfl rfl (by (try simp only [List.map_toArray, List.map_cons, List.map_nil]); first | done | rfl | (simp only [List.length_drop, List.length_take]; rfl)) ?_
  with_reducible refine (imprimaturref02_Words_turn.calls a0_0 a0_1 a1 a2 t160 _ A6.out).mono ?_
  rintro e w11 ⟨rfl, hb⟩
  refine ⟨_, rfl, ?_⟩
  have n0_ := Aside0.mk (blk_below (g := gb159) (o := .cells #[.int .u64 a0_0, .int .u64 a0_1] 103 (0, 0)) (by (with_reducible repeat (first | refine blk_drewN ?_ _ | refine blk_drew ?_ | refine blk_alloc ?_ _)); exact BK159.out) hb)
  have n1_ := Aside0.mk (below_step (by repeat (first | (with_reducible first | exact HB.out | apply below_alloc | apply pw_below_drewN | apply below_drew1 | refine below_set ?_ GE159.out) | exact HB.out)) hb)
  clear BK159
  clear HB
  have BK159 := n0_
  have HB := n1_
  clear n0_ n1_
  (try clear hb)
  (try clear hb2)
  (try clear hk)
  (try clear hi)
  refine hK.out _ _ ⟨(blk_cell BK159.out 0).trans rfl, (blk_cell BK159.out 1).trans rfl⟩ (fun hHeld => ?_)
  clear hK K
  refine norm_ (a' := ?_) ?_ ?_
  rotate_left
  · show Act.put _ (some 14) _ = _
    simp only [Act.put, List.setIfInBounds_toArray, List.set_cons_zero, List.set_cons_succ, i64_w, i32_w]
    rfl
  refine one_ (i := 7) (N := some 18) (bz 15 3839) rfl rfl (one_of HT_.out (by kernel_rfl)) (by decide) (fun K hK => ?_)
  refine goes_ Tryd.func95 (by kernel_rfl) rfl #[.agg #[.int .u64 a0_0, .int .u64 a0_1], .int .u64 a1, .int .u64 a3] (by rfl) rfl rfl (by (try simp only [List.map_toArray, List.map_cons, List.map_nil]); first | done | rfl | (simp only [List.length_drop, List.length_take]; rfl)) ?_
  with_reducible refine (imprimaturref02_Words_turn.calls a0_0 a0_1 a1 a3 t161 _ A7.out).mono ?_
  rintro e w12 ⟨rfl, hb⟩
  refine ⟨_, rfl, ?_⟩
  have n0_ := Aside0.mk (blk_below (g := gb159) (o := .cells #[.int .u64 a0_0, .int .u64 a0_1] 103 (0, 0)) (by (with_reducible repeat (first | refine blk_drewN ?_ _ | refine blk_drew ?_ | refine blk_alloc ?_ _)); exact BK159.out) hb)
  have n1_ := Aside0.mk (below_step (by repeat (first | (with_reducible first | exact HB.out | apply below_alloc | apply pw_below_drewN | apply below_drew1 | refine below_set ?_ GE159.out) | exact HB.out)) hb)
  clear BK159
  clear HB
  have BK159 := n0_
  have HB := n1_
  clear n0_ n1_
  (try clear hb)
  (try clear hb2)
  (try clear hk)
  (try clear hi)
  refine hK.out _ _ ⟨(blk_cell BK159.out 0).trans rfl, (blk_cell BK159.out 1).trans rfl⟩ (fun hHeld => ?_)
  clear hK K
  refine norm_ (a' := ?_) ?_ ?_
  rotate_left
  · show Act.put _ (some 18) _ = _
    simp only [Act.put, List.setIfInBounds_toArray, List.set_cons_zero, List.set_cons_succ, i64_w, i32_w]
    rfl
  refine xpz 8 (some 19) (bz 15 4095) (any_of HT_.out (by kernel_rfl)) ?_
  refine one_ (i := 12) (N := some 23) (bz 15 8191) rfl rfl (one_of HT_.out (by kernel_rfl)) (by decide) (fun K hK => ?_)
  refine goes_ Tryd.func95 (by kernel_rfl) rfl #[.agg #[.int .u64 a0_0, .int .u64 a0_1], .int .u64 a1, .int .u64 a4] (by rfl) rfl rfl (by (try simp only [List.map_toArray, List.map_cons, List.map_nil]); first | done | rfl | (simp only [List.length_drop, List.length_take]; rfl)) ?_
  with_reducible refine (imprimaturref02_Words_turn.calls a0_0 a0_1 a1 a4 t162 _ A8.out).mono ?_
  rintro e w13 ⟨rfl, hb⟩
  refine ⟨_, rfl, ?_⟩
  have n0_ := Aside0.mk (blk_below (g := gb159) (o := .cells #[.int .u64 a0_0, .int .u64 a0_1] 103 (0, 0)) (by (with_reducible repeat (first | refine blk_drewN ?_ _ | refine blk_drew ?_ | refine blk_alloc ?_ _)); exact BK159.out) hb)
  have n1_ := Aside0.mk (below_step (by repeat (first | (with_reducible first | exact HB.out | apply below_alloc | apply pw_below_drewN | apply below_drew1 | refine below_set ?_ GE159.out) | exact HB.out)) hb)
  clear BK159
  clear HB
  have BK159 := n0_
  have HB := n1_
  clear n0_ n1_
  (try clear hb)
  (try clear hb2)
  (try clear hk)
  (try clear hi)
  refine hK.out _ _ ⟨(blk_cell BK159.out 0).trans rfl, (blk_cell BK159.out 1).trans rfl⟩ (fun hHeld => ?_)
  clear hK K
  refine norm_ (a' := ?_) ?_ ?_
  rotate_left
  · show Act.put _ (some 23) _ = _
    simp only [Act.put, List.setIfInBounds_toArray, List.set_cons_zero, List.set_cons_succ, i64_w, i32_w]
    rfl
  refine xpz 13 (some 24) (bz 15 16383) (any_of HT_.out (by kernel_rfl)) ?_
  refine xpz 14 (some 10) (bz 15 32767) (any_of HT_.out (by kernel_rfl)) ?_
  refine done_ (done_of HT_.out (by kernel_rfl)) ?_
  try go_wp2
  go_ret
  exact ⟨by first | rfl | (simp [errW_none, errW_some] <;> rfl) | (simp [*, errW_none, errW_some] <;> rfl), by repeat (first | (with_reducible first | exact HB.out | apply below_alloc | apply pw_below_drewN | apply below_drew1 | refine below_set ?_ GE159.out) | exact HB.out)⟩

end Go.Proofs.YtmblnflfklmmkaaDoor.P
/- Functions of the program and of its laws, each with a Lean function and the proof that a call comes to what that function tells, under the conditions that its contract names. (Laid by a program of this session, out of the translation; Lean checks it.) -/
namespace Go.Proofs.YtmblnflfklmmkaaDoor.P
open Go.RowKit Go.Proofs.YtmblnflfklmmkaaDoorW.PrintWords Go.Proofs.YtmblnflfklmmkaaDoorW.PrintLast Go.Proofs.YtmblnflfklmmkaaDoorW.PrintMore
attribute [local go_sem] max2_int min2_int max_two min_two max_three min_three max_four min_four   -- for this text's walks alone
set_option linter.unusedVariables false
set_option linter.unusedSimpArgs false

/-! ### imprimaturref02_Words_round: function 68 -/
def imprimaturref02_Words_round.f (a0_0 : Int) (a0_1 : Int) (l1 : List Int) (a2 : Int) (a3 : Int) : Option (List Int) := if 0 < (l1.length : Int) then (if 1 < (l1.length : Int) then (if 2 < (l1.length : Int) then (if 4 < (l1.length : Int) then (if 5 < (l1.length : Int) then (if 6 < (l1.length : Int) then (if a0_0 = 0 then ((imprimaturref02_Words_big.f a0_0 a0_1 (rd l1 4) 14 18 41).bind fun t170 => ((imprimaturref02_Words_big.f a0_0 a0_1 (rd l1 0) 28 34 39).bind fun t171 => ((imprimaturref02_Words_cut.f a0_0 a0_1 (Go.bits .xor .u64 (if IntKind.u64.signed = true then -1 else IntKind.u64.max) (rd l1 4))).bind fun t172 => (if 7 < (l1.length : Int) then ((imprimaturref02_Words_cut.f a0_0 a0_1 (IntKind.u64.wrap ((IntKind.u64.wrap ((IntKind.u64.wrap ((IntKind.u64.wrap ((IntKind.u64.wrap ((IntKind.u64.wrap ((rd l1 7) + t170)) + (Go.bits .or .u64 (Go.bits .and .u64 (rd l1 4) (rd l1 5)) (Go.bits .and .u64 t172 (rd l1 6))))) + a2)) + a3)) + t171)) + (Go.bits .or .u64 (Go.bits .or .u64 (Go.bits .and .u64 (rd l1 0) (rd l1 1)) (Go.bits .and .u64 (rd l1 0) (rd l1 2))) (Go.bits .and .u64 (rd l1 1) (rd l1 2)))))).bind fun t174 => (if 3 < (l1.length : Int) then ((imprimaturref02_Words_cut.f a0_0 a0_1 (IntKind.u64.wrap ((rd l1 3) + (IntKind.u64.wrap ((IntKind.u64.wrap ((IntKind.u64.wrap ((IntKind.u64.wrap ((rd l1 7) + t170)) + (Go.bits .or .u64 (Go.bits .and .u64 (rd l1 4) (rd l1 5)) (Go.bits .and .u64 t172 (rd l1 6))))) + a2)) + a3))))).bind fun t176 => (some (([t174, rd l1 0, rd l1 1, rd l1 2, t176, rd l1 4, rd l1 5, rd l1 6] : List Int)))) else (none))) else (none))))) else ((imprimaturref02_Words_big.f a0_0 a0_1 (rd l1 4) 6 11 25).bind fun t180 => ((imprimaturref02_Words_big.f a0_0 a0_1 (rd l1 0) 2 13 22).bind fun t181 => ((imprimaturref02_Words_cut.f a0_0 a0_1 (Go.bits .xor .u64 (if IntKind.u64.signed = true then -1 else IntKind.u64.max) (rd l1 4))).bind fun t182 => (if 7 < (l1.length : Int) then ((imprimaturref02_Words_cut.f a0_0 a0_1 (IntKind.u64.wrap ((IntKind.u64.wrap ((IntKind.u64.wrap ((IntKind.u64.wrap ((IntKind.u64.wrap ((IntKind.u64.wrap ((rd l1 7) + t180)) + (Go.bits .or .u64 (Go.bits .and .u64 (rd l1 4) (rd l1 5)) (Go.bits .and .u64 t182 (rd l1 6))))) + (IntKind.u64.wrap (Int.tdiv a2 4294967296)))) + a3)) + t181)) + (Go.bits .or .u64 (Go.bits .or .u64 (Go.bits .and .u64 (rd l1 0) (rd l1 1)) (Go.bits .and .u64 (rd l1 0) (rd l1 2))) (Go.bits .and .u64 (rd l1 1) (rd l1 2)))))).bind fun t184 => (if 3 < (l1.length : Int) then ((imprimaturref02_Words_cut.f a0_0 a0_1 (IntKind.u64.wrap ((rd l1 3) + (IntKind.u64.wrap ((IntKind.u64.wrap ((IntKind.u64.wrap ((IntKind.u64.wrap ((rd l1 7) + t180)) + (Go.bits .or .u64 (Go.bits .and .u64 (rd l1 4) (rd l1 5)) (Go.bits .and .u64 t182 (rd l1 6))))) + (IntKind.u64.wrap (Int.tdiv a2 4294967296)))) + a3))))).bind fun t186 => (some (([t184, rd l1 0, rd l1 1, rd l1 2, t186, rd l1 4, rd l1 5, rd l1 6] : List Int)))) else (none))) else (none)))))) else (none)) else (none)) else (none)) else (none)) else (none)) else (none)
def imprimaturref02_Words_round.T1 : Bool × List (List Nat × List Nat) := (true, [([], []), ([0], [0]), ([1], [1]), ([], []), ([3], [3]), ([4], [4]), ([], []), ([6], [6]), ([7], [7]), ([], []), ([9], [9]), ([10], [10]), ([], []), ([12], [12]), ([13], [13]), ([], []), ([15], [15]), ([16], [16]), ([2, 0, 1, 2], [2]), ([5, 18, 0, 1, 2, 3, 4, 5, 18], [5]), ([8, 19, 0, 1, 2, 3, 4, 5, 6, 7, 8, 18, 19], [8]), ([11, 20, 0, 1, 2, 3, 4, 5, 6, 7, 8, 9, 10, 11, 18, 19, 20], [11]), ([14, 21, 0, 1, 2, 3, 4, 5, 6, 7, 8, 9, 10, 11, 12, 13, 14, 18, 19, 20, 21], [14]), ([17, 22, 0, 1, 2, 3, 4, 5, 6, 7, 8, 9, 10, 11, 12, 13, 14, 15, 16, 17, 18, 19, 20, 21, 22], [17])])
def imprimaturref02_Words_round.B1 : List Nat := [0, 1, 3, 0, 8, 24, 0, 64, 192, 0, 512, 1536, 0, 4096, 12288, 0, 32768, 98304, 7, 262207, 786943, 1839103, 3964927, 8388607]
theorem imprimaturref02_Words_round.tab1 : rtab .any (opsOf Tryd.f68 1) = imprimaturref02_Words_round.T1 := by kernel_rfl
theorem imprimaturref02_Words_round.bits1 : waitsOk imprimaturref02_Words_round.T1.2 imprimaturref02_Words_round.B1 = true := by kernel_rfl
def imprimaturref02_Words_round.T12 : Bool × List (List Nat × List Nat) := (true, [([], []), ([], []), ([], []), ([1, 2], [1, 2]), ([], []), ([3, 4], [3, 4]), ([0, 5], [0, 5]), ([], []), ([], []), ([], []), ([], []), ([], []), ([11], [11]), ([12], [12]), ([], []), ([13, 14], [13, 14]), ([10, 15, 6], [10, 15]), ([], []), ([], []), ([], []), ([6, 7, 8, 9, 16, 17, 18, 19], [6, 7, 8, 9, 16, 17, 18, 19]), ([20, 16, 0, 1, 2, 3, 4, 5, 6, 7, 8, 9, 10, 11, 12, 13, 14, 15, 16, 17, 18, 19, 20], [20])])
def imprimaturref02_Words_round.B12 : List Nat := [0, 0, 0, 6, 0, 30, 63, 0, 0, 0, 0, 0, 2048, 6144, 0, 30720, 64639, 0, 0, 0, 1048575, 2097151]
theorem imprimaturref02_Words_round.tab12 : rtab .any (opsOf Tryd.f68 12) = imprimaturref02_Words_round.T12 := by kernel_rfl
theorem imprimaturref02_Words_round.bits12 : waitsOk imprimaturref02_Words_round.T12.2 imprimaturref02_Words_round.B12 = true := by kernel_rfl
set_option maxHeartbeats 8000000 in
set_option maxRecDepth 100000 in
theorem imprimaturref02_Words_round.calls (a0_0 : Int) (a0_1 : Int) (A1 : Option Addr) (c1 : Nat) (l1 : List Int) (a2 : Int) (a3 : Int) (r : List Int) (w : World) (hr1 : Kd.C (Kd.int .u64) w A1 l1.length l1) (hc1 : l1.length ≤ c1) (h : imprimaturref02_Words_round.f a0_0 a0_1 l1 a2 a3 = some r) :
    Calls Tryd.prog 68 #[.agg #[.int .u64 a0_0, .int .u64 a0_1], .slice A1 l1.length c1, .int .u64 a2, .int .u64 a3] w fun e w' => ∃ v0_ : Value, e = .returned (v0_) ∧ Kd.R (Kd.int .u64) 27 w' w.heap.size (fun _ => True) v0_ r ∧ Below w.heap.size w w' := by
  have hu103 := Tryd.underlying103
  have HR1 := Aside0.mk hr1
  have HC1 := Aside0.mk hc1
  clear hr1 hc1
  have HB := Aside0.mk (Below.refl w.heap.size w)
  have H : (if 0 < (l1.length : Int) then (if 1 < (l1.length : Int) then (if 2 < (l1.length : Int) then (if 4 < (l1.length : Int) then (if 5 < (l1.length : Int) then (if 6 < (l1.length : Int) then (if a0_0 = 0 then ((imprimaturref02_Words_big.f a0_0 a0_1 (rd l1 4) 14 18 41).bind fun t170 => ((imprimaturref02_Words_big.f a0_0 a0_1 (rd l1 0) 28 34 39).bind fun t171 => ((imprimaturref02_Words_cut.f a0_0 a0_1 (Go.bits .xor .u64 (if IntKind.u64.signed = true then -1 else IntKind.u64.max) (rd l1 4))).bind fun t172 => (if 7 < (l1.length : Int) then ((imprimaturref02_Words_cut.f a0_0 a0_1 (IntKind.u64.wrap ((IntKind.u64.wrap ((IntKind.u64.wrap ((IntKind.u64.wrap ((IntKind.u64.wrap ((IntKind.u64.wrap ((rd l1 7) + t170)) + (Go.bits .or .u64 (Go.bits .and .u64 (rd l1 4) (rd l1 5)) (Go.bits .and .u64 t172 (rd l1 6))))) + a2)) + a3)) + t171)) + (Go.bits .or .u64 (Go.bits .or .u64 (Go.bits .and .u64 (rd l1 0) (rd l1 1)) (Go.bits .and .u64 (rd l1 0) (rd l1 2))) (Go.bits .and .u64 (rd l1 1) (rd l1 2)))))).bind fun t174 => (if 3 < (l1.length : Int) then ((imprimaturref02_Words_cut.f a0_0 a0_1 (IntKind.u64.wrap ((rd l1 3) + (IntKind.u64.wrap ((IntKind.u64.wrap ((IntKind.u64.wrap ((IntKind.u64.wrap ((rd l1 7) + t170)) + (Go.bits .or .u64 (Go.bits .and .u64 (rd l1 4) (rd l1 5)) (Go.bits .and .u64 t172 (rd l1 6))))) + a2)) + a3))))).bind fun t176 => (some (([t174, rd l1 0, rd l1 1, rd l1 2, t176, rd l1 4, rd l1 5, rd l1 6] : List Int)))) else (none))) else (none))))) else ((imprimaturref02_Words_big.f a0_0 a0_1 (rd l1 4) 6 11 25).bind fun t180 => ((imprimaturref02_Words_big.f a0_0 a0_1 (rd l1 0) 2 13 22).bind fun t181 => ((imprimaturref02_Words_cut.f a0_0 a0_1 (Go.bits .xor .u64 (if IntKind.u64.signed = true then -1 else IntKind.u64.max) (rd l1 4))).bind fun t182 => (if 7 < (l1.length : Int) then ((imprimaturref02_Words_cut.f a0_0 a0_1 (IntKind.u64.wrap ((IntKind.u64.wrap ((IntKind.u64.wrap ((IntKind.u64.wrap ((IntKind.u64.wrap ((IntKind.u64.wrap ((rd l1 7) + t180)) + (Go.bits .or .u64 (Go.bits .and .u64 (rd l1 4) (rd l1 5)) (Go.bits .and .u64 t182 (rd l1 6))))) + (IntKind.u64.wrap (Int.tdiv a2 4294967296)))) + a3)) + t181)) + (Go.bits .or .u64 (Go.bits .or .u64 (Go.bits .and .u64 (rd l1 0) (rd l1 1)) (Go.bits .and .u64 (rd l1 0) (rd l1 2))) (Go.bits .and .u64 (rd l1 1) (rd l1 2)))))).bind fun t184 => (if 3 < (l1.length : Int) then ((imprimaturref02_Words_cut.f a0_0 a0_1 (IntKind.u64.wrap ((rd l1 3) + (IntKind.u64.wrap ((IntKind.u64.wrap ((IntKind.u64.wrap ((IntKind.u64.wrap ((rd l1 7) + t180)) + (Go.bits .or .u64 (Go.bits .and .u64 (rd l1 4) (rd l1 5)) (Go.bits .and .u64 t182 (rd l1 6))))) + (IntKind.u64.wrap (Int.tdiv a2 4294967296)))) + a3))))).bind fun t186 => (some (([t184, rd l1 0, rd l1 1, rd l1 2, t186, rd l1 4, rd l1 5, rd l1 6] : List Int)))) else (none))) else (none)))))) else (none)) else (none)) else (none)) else (none)) else (none)) else (none)) = some r := h
  clear h
  by_cases c5 : 0 < (l1.length : Int)
  · rw [if_pos c5] at H
    have c5b0 : decide (0 < (l1.length : Int)) = true := decide_eq_true c5
    have c5b1 : decide (0 < l1.length) = true := decide_eq_true (by omega)
    clear c5
    by_cases c6 : 1 < (l1.length : Int)
    · rw [if_pos c6] at H
      have c6b0 : decide (1 < (l1.length : Int)) = true := decide_eq_true c6
      have c6b1 : decide (1 < l1.length) = true := decide_eq_true (by omega)
      clear c6
      by_cases c7 : 2 < (l1.length : Int)
      · rw [if_pos c7] at H
        have c7b0 : decide (2 < (l1.length : Int)) = true := decide_eq_true c7
        have c7b1 : decide (2 < l1.length) = true := decide_eq_true (by omega)
        clear c7
        by_cases c8 : 4 < (l1.length : Int)
        · rw [if_pos c8] at H
          have c8b0 : decide (4 < (l1.length : Int)) = true := decide_eq_true c8
          have c8b1 : decide (4 < l1.length) = true := decide_eq_true (by omega)
          clear c8
          by_cases c9 : 5 < (l1.length : Int)
          · rw [if_pos c9] at H
            have c9b0 : decide (5 < (l1.length : Int)) = true := decide_eq_true c9
            have c9b1 : decide (5 < l1.length) = true := decide_eq_true (by omega)
            clear c9
            by_cases c10 : 6 < (l1.length : Int)
            · rw [if_pos c10] at H
              have c10b0 : decide (6 < (l1.length : Int)) = true := decide_eq_true c10
              have c10b1 : decide (6 < l1.length) = true := decide_eq_true (by omega)
              clear c10
              by_cases c11 : a0_0 = 0
              · rw [if_pos c11] at H
                have c11b0 : (a0_0 == 0) = true := beq_iff_eq.mpr c11
                have c11b1 : (a0_0 != 0) = false := bne_eq_false_iff_eq.mpr c11
                clear c11
                replace H := Option.bind_eq_some_iff.mp H
                obtain ⟨t170, A120, H⟩ := H
                replace H : ((imprimaturref02_Words_big.f a0_0 a0_1 (rd l1 0) 28 34 39).bind fun t171 => ((imprimaturref02_Words_cut.f a0_0 a0_1 (Go.bits .xor .u64 (if IntKind.u64.signed = true then -1 else IntKind.u64.max) (rd l1 4))).bind fun t172 => (if 7 < (l1.length : Int) then ((imprimaturref02_Words_cut.f a0_0 a0_1 (IntKind.u64.wrap ((IntKind.u64.wrap ((IntKind.u64.wrap ((IntKind.u64.wrap ((IntKind.u64.wrap ((IntKind.u64.wrap ((rd l1 7) + t170)) + (Go.bits .or .u64 (Go.bits .and .u64 (rd l1 4) (rd l1 5)) (Go.bits .and .u64 t172 (rd l1 6))))) + a2)) + a3)) + t171)) + (Go.bits .or .u64 (Go.bits .or .u64 (Go.bits .and .u64 (rd l1 0) (rd l1 1)) (Go.bits .and .u64 (rd l1 0) (rd l1 2))) (Go.bits .and .u64 (rd l1 1) (rd l1 2)))))).bind fun t174 => (if 3 < (l1.length : Int) then ((imprimaturref02_Words_cut.f a0_0 a0_1 (IntKind.u64.wrap ((rd l1 3) + (IntKind.u64.wrap ((IntKind.u64.wrap ((IntKind.u64.wrap ((IntKind.u64.wrap ((rd l1 7) + t170)) + (Go.bits .or .u64 (Go.bits .and .u64 (rd l1 4) (rd l1 5)) (Go.bits .and .u64 t172 (rd l1 6))))) + a2)) + a3))))).bind fun t176 => (some (([t174, rd l1 0, rd l1 1, rd l1 2, t176, rd l1 4, rd l1 5, rd l1 6] : List Int)))) else (none))) else (none)))) = some r := H
                have A12 := Aside0.mk A120
                clear A120
                replace H := Option.bind_eq_some_iff.mp H
                obtain ⟨t171, A130, H⟩ := H
                replace H : ((imprimaturref02_Words_cut.f a0_0 a0_1 (Go.bits .xor .u64 (if IntKind.u64.signed = true then -1 else IntKind.u64.max) (rd l1 4))).bind fun t172 => (if 7 < (l1.length : Int) then ((imprimaturref02_Words_cut.f a0_0 a0_1 (IntKind.u64.wrap ((IntKind.u64.wrap ((IntKind.u64.wrap ((IntKind.u64.wrap ((IntKind.u64.wrap ((IntKind.u64.wrap ((rd l1 7) + t170)) + (Go.bits .or .u64 (Go.bits .and .u64 (rd l1 4) (rd l1 5)) (Go.bits .and .u64 t172 (rd l1 6))))) + a2)) + a3)) + t171)) + (Go.bits .or .u64 (Go.bits .or .u64 (Go.bits .and .u64 (rd l1 0) (rd l1 1)) (Go.bits .and .u64 (rd l1 0) (rd l1 2))) (Go.bits .and .u64 (rd l1 1) (rd l1 2)))))).bind fun t174 => (if 3 < (l1.length : Int) then ((imprimaturref02_Words_cut.f a0_0 a0_1 (IntKind.u64.wrap ((rd l1 3) + (IntKind.u64.wrap ((IntKind.u64.wrap ((IntKind.u64.wrap ((IntKind.u64.wrap ((rd l1 7) + t170)) + (Go.bits .or .u64 (Go.bits .and .u64 (rd l1 4) (rd l1 5)) (Go.bits .and .u64 t172 (rd l1 6))))) + a2)) + a3))))).bind fun t176 => (some (([t174, rd l1 0, rd l1 1, rd l1 2, t176, rd l1 4, rd l1 5, rd l1 6] : List Int)))) else (none))) else (none))) = some r := H
                have A13 := Aside0.mk A130
                clear A130
                replace H := Option.bind_eq_some_iff.mp H
                obtain ⟨t172, A140, H⟩ := H
                replace H : (if 7 < (l1.length : Int) then ((imprimaturref02_Words_cut.f a0_0 a0_1 (IntKind.u64.wrap ((IntKind.u64.wrap ((IntKind.u64.wrap ((IntKind.u64.wrap ((IntKind.u64.wrap ((IntKind.u64.wrap ((rd l1 7) + t170)) + (Go.bits .or .u64 (Go.bits .and .u64 (rd l1 4) (rd l1 5)) (Go.bits .and .u64 t172 (rd l1 6))))) + a2)) + a3)) + t171)) + (Go.bits .or .u64 (Go.bits .or .u64 (Go.bits .and .u64 (rd l1 0) (rd l1 1)) (Go.bits .and .u64 (rd l1 0) (rd l1 2))) (Go.bits .and .u64 (rd l1 1) (rd l1 2)))))).bind fun t174 => (if 3 < (l1.length : Int) then ((imprimaturref02_Words_cut.f a0_0 a0_1 (IntKind.u64.wrap ((rd l1 3) + (IntKind.u64.wrap ((IntKind.u64.wrap ((IntKind.u64.wrap ((IntKind.u64.wrap ((rd l1 7) + t170)) + (Go.bits .or .u64 (Go.bits .and .u64 (rd l1 4) (rd l1 5)) (Go.bits .and .u64 t172 (rd l1 6))))) + a2)) + a3))))).bind fun t176 => (some (([t174, rd l1 0, rd l1 1, rd l1 2, t176, rd l1 4, rd l1 5, rd l1 6] : List Int)))) else (none))) else (none)) = some r := H
                have A14 := Aside0.mk A140
                clear A140
                by_cases c15 : 7 < (l1.length : Int)
                · rw [if_pos c15] at H
                  have c15b0 : decide (7 < (l1.length : Int)) = true := decide_eq_true c15
                  have c15b1 : decide (7 < l1.length) = true := decide_eq_true (by omega)
                  clear c15
                  replace H := Option.bind_eq_some_iff.mp H
                  obtain ⟨t174, A160, H⟩ := H
                  replace H : (if 3 < (l1.length : Int) then ((imprimaturref02_Words_cut.f a0_0 a0_1 (IntKind.u64.wrap ((rd l1 3) + (IntKind.u64.wrap ((IntKind.u64.wrap ((IntKind.u64.wrap ((IntKind.u64.wrap ((rd l1 7) + t170)) + (Go.bits .or .u64 (Go.bits .and .u64 (rd l1 4) (rd l1 5)) (Go.bits .and .u64 t172 (rd l1 6))))) + a2)) + a3))))).bind fun t176 => (some (([t174, rd l1 0, rd l1 1, rd l1 2, t176, rd l1 4, rd l1 5, rd l1 6] : List Int)))) else (none)) = some r := H
                  have A16 := Aside0.mk A160
                  clear A160
                  by_cases c17 : 3 < (l1.length : Int)
                  · rw [if_pos c17] at H
                    have c17b0 : decide (3 < (l1.length : Int)) = true := decide_eq_true c17
                    have c17b1 : decide (3 < l1.length) = true := decide_eq_true (by omega)
                    clear c17
                    replace H := Option.bind_eq_some_iff.mp H
                    obtain ⟨t176, A180, H⟩ := H
                    replace H : (some (([t174, rd l1 0, rd l1 1, rd l1 2, t176, rd l1 4, rd l1 5, rd l1 6] : List Int))) = some r := H
                    have A18 := Aside0.mk A180
                    clear A180
                    obtain ⟨y177, hy177⟩ : ∃ y_ : List Int, y_ = (([t174, rd l1 0, rd l1 1, rd l1 2, t176, rd l1 4, rd l1 5, rd l1 6] : List Int)) := ⟨_, rfl⟩
                    replace H : (some y177) = some r := by first | (rw [hy177]; with_reducible exact H) | (have H2_ := (Option.bind_some _ _).symm.trans H; rw [hy177]; with_reducible exact H2_) | (have H2_ := (Option.bind_some _ _).symm.trans H; with_reducible exact H2_) | with_reducible exact H | (rw [hy177]; exact H) | exact H
                    have Ny177 := Aside0.mk hy177
                    clear hy177
                    obtain rfl := Option.some.inj H
                    go_enter Tryd.func68, Tryd.ntmps68
                    try go_wp2_with (first | ((with_reducible refine gate_dst (N := 4) rfl ?_); refine box_event ?hg (N := 4) ?hd (cs := #[.int .u64 a0_0, .int .u64 a0_1]) (t := 103) ?hr ?_; (case hd => rfl); (case hg => rfl); (case hr => first | (go_simp; done) | (go_simp; rfl)); intro gb163 hg w19 hbox hb; have n0_ := Aside0.mk (below_step (by repeat (first | (with_reducible first | exact HB.out | apply below_alloc | apply pw_below_drewN | apply below_drew1) | exact HB.out)) hb); have n1_ := Aside0.mk (hbox); have n2_ := Aside0.mk ((by rw [hg]; exact (below_size (by repeat (first | (with_reducible first | exact HB.out | apply below_alloc | apply pw_below_drewN | apply below_drew1) | exact HB.out))) : w.heap.size ≤ gb163)); have n3_ := Aside0.mk ((by rw [hg]; exact (below_size (by repeat (first | (with_reducible first | exact HB.out | apply below_alloc | apply pw_below_drewN | apply below_drew1) | exact HB.out))) : w.heap.size ≤ gb163)); clear HB; have HB := n0_; have BK163 := n1_; have GW163 := n2_; have GE163 := n3_; clear n0_ n1_ n2_ n3_; clear hb hbox hg))
                    have n0_ := Aside0.mk (blk_drew BK163.out)
                    have n1_ := Aside0.mk (below_drew1 HB.out)
                    clear BK163
                    clear HB
                    have BK163 := n0_
                    have HB := n1_
                    clear n0_ n1_
                    have p164 : 0 ≤ (0 : Int) := (by omega)
                    have q164 : 0 < (l1.length : Int) := of_decide_eq_true (by first | (with_reducible assumption) | assumption)
                    obtain ⟨ad164, e164, hx164_0⟩ := Kd.at_int HR1.out 0 p164 q164
                    have hw164_0 := hx164_0
                    (try rw [show ((0 : Int)).toNat = 0 from rfl] at hw164_0)
                    (try rw [show 0 * 1 = 0 from rfl] at hw164_0)
                    (try rw [Addr.add_zero'] at hw164_0)
                    cases e164
                    have qi164 : (0 < l1.length) = True := eq_true (by omega)
                    (try rw [show ((0 : Int)).toNat = 0 from rfl] at hx164_0)
                    (try rw [Addr.add_zero'] at hx164_0)
                    replace hx164_0 := (HB.out.cell (World.block_lt_of_cell? w _ hx164_0)).trans hx164_0
                    replace p164 := eq_true p164
                    replace q164 := eq_true q164
                    have p165 : 0 ≤ (1 : Int) := (by omega)
                    have q165 : 1 < (l1.length : Int) := of_decide_eq_true (by first | (with_reducible assumption) | assumption)
                    obtain ⟨ad165, e165, hx165_0⟩ := Kd.at_int HR1.out 1 p165 q165
                    have hw165_0 := hx165_0
                    (try rw [show ((1 : Int)).toNat = 1 from rfl] at hw165_0)
                    (try rw [show 1 * 1 = 1 from rfl] at hw165_0)
                    (try simp only [Nat.reduceMul, Nat.reduceEqDiff, Go.Addr.add, ↓reduceIte] at hw165_0)
                    obtain rfl : ad164 = ad165 := (by injection e165)
                    (try simp only [show (1 : Int).toNat = 1 from rfl, Nat.reduceMul, Nat.reduceEqDiff, Go.Addr.add, ↓reduceIte] at hx165_0)
                    have qi165 : (1 < l1.length) = True := eq_true (by omega)
                    (try rw [show ((1 : Int)).toNat = 1 from rfl] at hx165_0)
                    replace hx165_0 := (HB.out.cell (World.block_lt_of_cell? w _ hx165_0)).trans hx165_0
                    replace p165 := eq_true p165
                    replace q165 := eq_true q165
                    have p166 : 0 ≤ (2 : Int) := (by omega)
                    have q166 : 2 < (l1.length : Int) := of_decide_eq_true (by first | (with_reducible assumption) | assumption)
                    obtain ⟨ad166, e166, hx166_0⟩ := Kd.at_int HR1.out 2 p166 q166
                    have hw166_0 := hx166_0
                    (try rw [show ((2 : Int)).toNat = 2 from rfl] at hw166_0)
                    (try rw [show 2 * 1 = 2 from rfl] at hw166_0)
                    (try simp only [Nat.reduceMul, Nat.reduceEqDiff, Go.Addr.add, ↓reduceIte] at hw166_0)
                    obtain rfl : ad164 = ad166 := (by injection e166)
                    (try simp only [show (2 : Int).toNat = 2 from rfl, Nat.reduceMul, Nat.reduceEqDiff, Go.Addr.add, ↓reduceIte] at hx166_0)
                    have qi166 : (2 < l1.length) = True := eq_true (by omega)
                    (try rw [show ((2 : Int)).toNat = 2 from rfl] at hx166_0)
                    replace hx166_0 := (HB.out.cell (World.block_lt_of_cell? w _ hx166_0)).trans hx166_0
                    replace p166 := eq_true p166
                    replace q166 := eq_true q166
                    have p167 : 0 ≤ (4 : Int) := (by omega)
                    have q167 : 4 < (l1.length : Int) := of_decide_eq_true (by first | (with_reducible assumption) | assumption)
                    obtain ⟨ad167, e167, hx167_0⟩ := Kd.at_int HR1.out 4 p167 q167
                    have hw167_0 := hx167_0
                    (try rw [show ((4 : Int)).toNat = 4 from rfl] at hw167_0)
                    (try rw [show 4 * 1 = 4 from rfl] at hw167_0)
                    (try simp only [Nat.reduceMul, Nat.reduceEqDiff, Go.Addr.add, ↓reduceIte] at hw167_0)
                    obtain rfl : ad164 = ad167 := (by injection e167)
                    (try simp only [show (4 : Int).toNat = 4 from rfl, Nat.reduceMul, Nat.reduceEqDiff, Go.Addr.add, ↓reduceIte] at hx167_0)
                    have qi167 : (4 < l1.length) = True := eq_true (by omega)
                    (try rw [show ((4 : Int)).toNat = 4 from rfl] at hx167_0)
                    replace hx167_0 := (HB.out.cell (World.block_lt_of_cell? w _ hx167_0)).trans hx167_0
                    replace p167 := eq_true p167
                    replace q167 := eq_true q167
                    have p168 : 0 ≤ (5 : Int) := (by omega)
                    have q168 : 5 < (l1.length : Int) := of_decide_eq_true (by first | (with_reducible assumption) | assumption)
                    obtain ⟨ad168, e168, hx168_0⟩ := Kd.at_int HR1.out 5 p168 q168
                    have hw168_0 := hx168_0
                    (try rw [show ((5 : Int)).toNat = 5 from rfl] at hw168_0)
                    (try rw [show 5 * 1 = 5 from rfl] at hw168_0)
                    (try simp only [Nat.reduceMul, Nat.reduceEqDiff, Go.Addr.add, ↓reduceIte] at hw168_0)
                    obtain rfl : ad164 = ad168 := (by injection e168)
                    (try simp only [show (5 : Int).toNat = 5 from rfl, Nat.reduceMul, Nat.reduceEqDiff, Go.Addr.add, ↓reduceIte] at hx168_0)
                    have qi168 : (5 < l1.length) = True := eq_true (by omega)
                    (try rw [show ((5 : Int)).toNat = 5 from rfl] at hx168_0)
                    replace hx168_0 := (HB.out.cell (World.block_lt_of_cell? w _ hx168_0)).trans hx168_0
                    replace p168 := eq_true p168
                    replace q168 := eq_true q168
                    have p169 : 0 ≤ (6 : Int) := (by omega)
                    have q169 : 6 < (l1.length : Int) := of_decide_eq_true (by first | (with_reducible assumption) | assumption)
                    obtain ⟨ad169, e169, hx169_0⟩ := Kd.at_int HR1.out 6 p169 q169
                    have hw169_0 := hx169_0
                    (try rw [show ((6 : Int)).toNat = 6 from rfl] at hw169_0)
                    (try rw [show 6 * 1 = 6 from rfl] at hw169_0)
                    (try simp only [Nat.reduceMul, Nat.reduceEqDiff, Go.Addr.add, ↓reduceIte] at hw169_0)
                    obtain rfl : ad164 = ad169 := (by injection e169)
                    (try simp only [show (6 : Int).toNat = 6 from rfl, Nat.reduceMul, Nat.reduceEqDiff, Go.Addr.add, ↓reduceIte] at hx169_0)
                    have qi169 : (6 < l1.length) = True := eq_true (by omega)
                    (try rw [show ((6 : Int)).toNat = 6 from rfl] at hx169_0)
                    replace hx169_0 := (HB.out.cell (World.block_lt_of_cell? w _ hx169_0)).trans hx169_0
                    replace p169 := eq_true p169
                    replace q169 := eq_true q169
                    refine start_ (n := 24) (S := fun w' => w'.cell? ad164 = some (.int .u64 (rd l1 0)) ∧ w'.cell? ⟨ad164.block, ad164.off + 1, none⟩ = some (.int .u64 (rd l1 1)) ∧ w'.cell? ⟨ad164.block, ad164.off + 2, none⟩ = some (.int .u64 (rd l1 2)) ∧ w'.cell? ⟨ad164.block, ad164.off + 4, none⟩ = some (.int .u64 (rd l1 4)) ∧ w'.cell? ⟨ad164.block, ad164.off + 5, none⟩ = some (.int .u64 (rd l1 5)) ∧ w'.cell? ⟨ad164.block, ad164.off + 6, none⟩ = some (.int .u64 (rd l1 6))) (ds := []) (bz 24 0) (by kernel_rfl) rfl rfl ⟨((HB.out.cell (World.block_lt_of_cell? w _ hw164_0)).trans hw164_0), ((HB.out.cell (World.block_lt_of_cell? w _ hw165_0)).trans hw165_0), ((HB.out.cell (World.block_lt_of_cell? w _ hw166_0)).trans hw166_0), ((HB.out.cell (World.block_lt_of_cell? w _ hw167_0)).trans hw167_0), ((HB.out.cell (World.block_lt_of_cell? w _ hw168_0)).trans hw168_0), ((HB.out.cell (World.block_lt_of_cell? w _ hw169_0)).trans hw169_0)⟩ (fun hHeld => ?_); refine with_tabW imprimaturref02_Words_round.tab1 imprimaturref02_Words_round.bits1 (fun HT_ HW_ => ?_)
                    generalize w19.drew = w20 at BK163 HB hx164_0 hx165_0 hx166_0 hx167_0 hx168_0 hx169_0 hHeld ⊢
                    refine xpz 0 (some 20) (bz 24 1) (any_of HT_.out (by kernel_rfl)) ?_
                    refine xpz 1 (some 21) (bz 24 3) (any_of HT_.out (by kernel_rfl)) ?_
                    refine xpz 3 (some 23) (bz 24 11) (any_of HT_.out (by kernel_rfl)) ?_
                    refine xpz 4 (some 24) (bz 24 27) (any_of HT_.out (by kernel_rfl)) ?_
                    refine xpz 6 (some 26) (bz 24 91) (any_of HT_.out (by kernel_rfl)) ?_
                    refine xpz 7 (some 27) (bz 24 219) (any_of HT_.out (by kernel_rfl)) ?_
                    refine xpz 9 (some 29) (bz 24 731) (any_of HT_.out (by kernel_rfl)) ?_
                    refine xpz 10 (some 30) (bz 24 1755) (any_of HT_.out (by kernel_rfl)) ?_
                    refine xpz 12 (some 32) (bz 24 5851) (any_of HT_.out (by kernel_rfl)) ?_
                    refine xpz 13 (some 33) (bz 24 14043) (any_of HT_.out (by kernel_rfl)) ?_
                    refine xpz 15 (some 35) (bz 24 46811) (any_of HT_.out (by kernel_rfl)) ?_
                    refine xpz 16 (some 36) (bz 24 112347) (any_of HT_.out (by kernel_rfl)) ?_
                    refine xtz6 2 (some 22) (bz 24 112351) (take_ofW HT_.out HW_.out (by kernel_rfl)) hHeld ?_
                    refine xpz 18 (some 9) (bz 24 374495) (any_of HT_.out (by kernel_rfl)) ?_
                    refine xtz6 5 (some 25) (bz 24 374527) (take_ofW HT_.out HW_.out (by kernel_rfl)) hHeld ?_
                    refine xpz 19 (some 10) (bz 24 898815) (any_of HT_.out (by kernel_rfl)) ?_
                    refine xtz6 8 (some 28) (bz 24 899071) (take_ofW HT_.out HW_.out (by kernel_rfl)) hHeld ?_
                    refine xpz 20 (some 11) (bz 24 1947647) (any_of HT_.out (by kernel_rfl)) ?_
                    refine xtz6 11 (some 31) (bz 24 1949695) (take_ofW HT_.out HW_.out (by kernel_rfl)) hHeld ?_
                    refine xpz 21 (some 12) (bz 24 4046847) (any_of HT_.out (by kernel_rfl)) ?_
                    refine xtz6 14 (some 34) (bz 24 4063231) (take_ofW HT_.out HW_.out (by kernel_rfl)) hHeld ?_
                    refine xpz 22 (some 13) (bz 24 8257535) (any_of HT_.out (by kernel_rfl)) ?_
                    refine xtz6 17 (some 37) (bz 24 8388607) (take_ofW HT_.out HW_.out (by kernel_rfl)) hHeld ?_
                    refine xpz 23 (some 14) (bz 24 16777215) (any_of HT_.out (by kernel_rfl)) ?_
                    refine done_ (done_of HT_.out (by kernel_rfl)) ?_
                    have hcz21_0 : w20.cell? ⟨gb163, 0, none⟩ = some (.int .u64 a0_0) := (blk_cell BK163.out 0).trans rfl
                    have hcz21_1 : w20.cell? ⟨gb163, 1, none⟩ = some (.int .u64 a0_1) := (blk_cell BK163.out 1).trans rfl
                    have hfz21_0 := blk_frozen BK163.out 0
                    have hfz21_1 := blk_frozen BK163.out 1
                    try go_wp2_with (first | ((with_reducible refine gate_callee (f := 85) rfl ?_); refine goesL_ (some 51) rfl rfl Tryd.func85 (by kernel_rfl) rfl #[.agg #[.int .u64 a0_0, .int .u64 a0_1], .int .u64 (rd l1 4), .int .u64 14, .int .u64 18, .int .u64 41] rfl (by (try simp only [List.map_toArray, List.map_cons, List.map_nil]); first | done | rfl | (simp only [List.length_drop, List.length_take]; rfl)) ?_; (with_reducible refine (imprimaturref02_Words_big.calls a0_0 a0_1 (rd l1 4) 14 18 41 t170 _ A12.out).mono ?_); rintro e w22 ⟨rfl, hb⟩; refine ⟨_, rfl, ?_⟩; have n0_ := Aside0.mk (blk_below (g := gb163) (o := .cells #[.int .u64 a0_0, .int .u64 a0_1] 103 (0, 0)) (by (with_reducible repeat (first | refine blk_drewN ?_ _ | refine blk_drew ?_ | refine blk_alloc ?_ _)); exact BK163.out) hb); have n1_ := Aside0.mk (below_step (by repeat (first | (with_reducible first | exact HB.out | apply below_alloc | apply pw_below_drewN | apply below_drew1 | refine below_set ?_ GE163.out) | exact HB.out)) hb); clear BK163; clear HB; have BK163 := n0_; have HB := n1_; clear n0_ n1_; (try clear hb); (try clear hb2); (try clear hk); (try clear hi); have hcz23_0 : w22.cell? ⟨gb163, 0, none⟩ = some (.int .u64 a0_0) := (blk_cell BK163.out 0).trans rfl; have hcz23_1 : w22.cell? ⟨gb163, 1, none⟩ = some (.int .u64 a0_1) := (blk_cell BK163.out 1).trans rfl; have hfz23_0 := blk_frozen BK163.out 0; have hfz23_1 := blk_frozen BK163.out 1) | ((with_reducible refine gate_callee (f := 85) rfl ?_); refine goesL_ (some 54) rfl rfl Tryd.func85 (by kernel_rfl) rfl #[.agg #[.int .u64 a0_0, .int .u64 a0_1], .int .u64 (rd l1 0), .int .u64 28, .int .u64 34, .int .u64 39] rfl (by (try simp only [List.map_toArray, List.map_cons, List.map_nil]); first | done | rfl | (simp only [List.length_drop, List.length_take]; rfl)) ?_; (with_reducible refine (imprimaturref02_Words_big.calls a0_0 a0_1 (rd l1 0) 28 34 39 t171 _ A13.out).mono ?_); rintro e w24 ⟨rfl, hb⟩; refine ⟨_, rfl, ?_⟩; have n0_ := Aside0.mk (blk_below (g := gb163) (o := .cells #[.int .u64 a0_0, .int .u64 a0_1] 103 (0, 0)) (by (with_reducible repeat (first | refine blk_drewN ?_ _ | refine blk_drew ?_ | refine blk_alloc ?_ _)); exact BK163.out) hb); have n1_ := Aside0.mk (below_step (by repeat (first | (with_reducible first | exact HB.out | apply below_alloc | apply pw_below_drewN | apply below_drew1 | refine below_set ?_ GE163.out) | exact HB.out)) hb); clear BK163; clear HB; have BK163 := n0_; have HB := n1_; clear n0_ n1_; (try clear hb); (try clear hb2); (try clear hk); (try clear hi); have hcz25_0 : w24.cell? ⟨gb163, 0, none⟩ = some (.int .u64 a0_0) := (blk_cell BK163.out 0).trans rfl; have hcz25_1 : w24.cell? ⟨gb163, 1, none⟩ = some (.int .u64 a0_1) := (blk_cell BK163.out 1).trans rfl; have hfz25_0 := blk_frozen BK163.out 0; have hfz25_1 := blk_frozen BK163.out 1) | ((with_reducible refine gate_callee (f := 69) rfl ?_); refine goesL_ (some 61) rfl rfl Tryd.func69 (by kernel_rfl) rfl #[.agg #[.int .u64 a0_0, .int .u64 a0_1], .int .u64 (Go.bits .xor .u64 (if IntKind.u64.signed = true then -1 else IntKind.u64.max) (rd l1 4))] rfl (by (try simp only [List.map_toArray, List.map_cons, List.map_nil]); first | done | rfl | (simp only [List.length_drop, List.length_take]; rfl)) ?_; (with_reducible refine (imprimaturref02_Words_cut.calls a0_0 a0_1 (Go.bits .xor .u64 (if IntKind.u64.signed = true then -1 else IntKind.u64.max) (rd l1 4)) t172 _ A14.out).mono ?_); rintro e w26 ⟨rfl, hb⟩; refine ⟨_, rfl, ?_⟩; have n0_ := Aside0.mk (blk_below (g := gb163) (o := .cells #[.int .u64 a0_0, .int .u64 a0_1] 103 (0, 0)) (by (with_reducible repeat (first | refine blk_drewN ?_ _ | refine blk_drew ?_ | refine blk_alloc ?_ _)); exact BK163.out) hb); have n1_ := Aside0.mk (below_step (by repeat (first | (with_reducible first | exact HB.out | apply below_alloc | apply pw_below_drewN | apply below_drew1 | refine below_set ?_ GE163.out) | exact HB.out)) hb); clear BK163; clear HB; have BK163 := n0_; have HB := n1_; clear n0_ n1_; (try clear hb); (try clear hb2); (try clear hk); (try clear hi); have p173 : 0 ≤ (7 : Int) := (by omega); have q173 : 7 < (l1.length : Int) := of_decide_eq_true (by first | (with_reducible assumption) | assumption); obtain ⟨ad173, e173, hx173_0⟩ := Kd.at_int HR1.out 7 p173 q173; obtain rfl : ad164 = ad173 := (by injection e173); (try simp only [show (7 : Int).toNat = 7 from rfl, Nat.reduceMul, Nat.reduceEqDiff, Go.Addr.add, ↓reduceIte] at hx173_0); have qi173 : (7 < l1.length) = True := eq_true (by omega); (try rw [show ((7 : Int)).toNat = 7 from rfl] at hx173_0); replace hx173_0 := (HB.out.cell (World.block_lt_of_cell? w _ hx173_0)).trans hx173_0; replace p173 := eq_true p173; replace q173 := eq_true q173))
                    have n0_ := Aside0.mk (blk_drew BK163.out)
                    have n1_ := Aside0.mk (below_drew1 HB.out)
                    clear BK163
                    clear HB
                    have BK163 := n0_
                    have HB := n1_
                    clear n0_ n1_
                    have p175 : 0 ≤ (3 : Int) := (by omega)
                    have q175 : 3 < (l1.length : Int) := of_decide_eq_true (by first | (with_reducible assumption) | assumption)
                    obtain ⟨ad175, e175, hx175_0⟩ := Kd.at_int HR1.out 3 p175 q175
                    have hw175_0 := hx175_0
                    (try rw [show ((3 : Int)).toNat = 3 from rfl] at hw175_0)
                    (try rw [show 3 * 1 = 3 from rfl] at hw175_0)
                    (try simp only [Nat.reduceMul, Nat.reduceEqDiff, Go.Addr.add, ↓reduceIte] at hw175_0)
                    obtain rfl : ad164 = ad175 := (by injection e175)
                    (try simp only [show (3 : Int).toNat = 3 from rfl, Nat.reduceMul, Nat.reduceEqDiff, Go.Addr.add, ↓reduceIte] at hx175_0)
                    have qi175 : (3 < l1.length) = True := eq_true (by omega)
                    (try rw [show ((3 : Int)).toNat = 3 from rfl] at hx175_0)
                    replace hx175_0 := (HB.out.cell (World.block_lt_of_cell? w _ hx175_0)).trans hx175_0
                    replace p175 := eq_true p175
                    replace q175 := eq_true q175
                    refine start_ (n := 22) (S := fun w' => w'.cell? ⟨gb163, 0, none⟩ = some (.int .u64 a0_0) ∧ w'.cell? ⟨gb163, 1, none⟩ = some (.int .u64 a0_1) ∧ w'.cell? ⟨ad164.block, ad164.off + 3, none⟩ = some (.int .u64 (rd l1 3))) (ds := []) (bz 22 0) (by kernel_rfl) rfl rfl ⟨(blk_cell BK163.out 0).trans rfl, (blk_cell BK163.out 1).trans rfl, ((HB.out.cell (World.block_lt_of_cell? w _ hw175_0)).trans hw175_0)⟩ (fun hHeld => ?_); refine with_tabW imprimaturref02_Words_round.tab12 imprimaturref02_Words_round.bits12 (fun HT_ HW_ => ?_)
                    generalize w26.drew = w27 at BK163 HB hx175_0 hHeld ⊢
                    refine xpz 1 (some 88) (bz 22 2) (any_of HT_.out (by kernel_rfl)) ?_
                    refine xpz 2 (some 89) (bz 22 6) (any_of HT_.out (by kernel_rfl)) ?_
                    refine xpz 3 (some 90) (bz 22 14) (any_of HT_.out (by kernel_rfl)) ?_
                    refine xpz 4 (some 91) (bz 22 30) (any_of HT_.out (by kernel_rfl)) ?_
                    refine xpz 5 (some 92) (bz 22 62) (any_of HT_.out (by kernel_rfl)) ?_
                    refine xpz 7 (some 94) (bz 22 190) (any_of HT_.out (by kernel_rfl)) ?_
                    refine xpz 8 (some 95) (bz 22 446) (any_of HT_.out (by kernel_rfl)) ?_
                    refine xpz 9 (some 96) (bz 22 958) (any_of HT_.out (by kernel_rfl)) ?_
                    refine xpz 11 (some 98) (bz 22 3006) (any_of HT_.out (by kernel_rfl)) ?_
                    refine xpz 12 (some 99) (bz 22 7102) (any_of HT_.out (by kernel_rfl)) ?_
                    refine xpz 14 (some 101) (bz 22 23486) (any_of HT_.out (by kernel_rfl)) ?_
                    refine xpz 17 (some 104) (bz 22 154558) (any_of HT_.out (by kernel_rfl)) ?_
                    refine xpz 18 (some 105) (bz 22 416702) (any_of HT_.out (by kernel_rfl)) ?_
                    refine xpz 19 (some 106) (bz 22 940990) (any_of HT_.out (by kernel_rfl)) ?_
                    refine xtz3 0 (some 87) (bz 22 940991) (take_ofW HT_.out HW_.out (by kernel_rfl)) hHeld ?_
                    refine xtz3 10 (some 97) (bz 22 942015) (take_ofW HT_.out HW_.out (by kernel_rfl)) hHeld ?_
                    refine xtz3 13 (some 100) (bz 22 950207) (take_ofW HT_.out HW_.out (by kernel_rfl)) hHeld ?_
                    refine xpz 15 (some 102) (bz 22 982975) (any_of HT_.out (by kernel_rfl)) ?_
                    refine one_ (i := 6) (N := some 93) (bz 22 983039) rfl rfl (one_of HT_.out (by kernel_rfl)) (by decide) (fun K hK => ?_)
                    refine goes_ Tryd.func69 (by kernel_rfl) rfl #[.agg #[.int .u64 a0_0, .int .u64 a0_1], .int .u64 (IntKind.u64.wrap ((IntKind.u64.wrap ((IntKind.u64.wrap ((IntKind.u64.wrap ((IntKind.u64.wrap ((IntKind.u64.wrap ((rd l1 7) + t170)) + (Go.bits .or .u64 (Go.bits .and .u64 (rd l1 4) (rd l1 5)) (Go.bits .and .u64 t172 (rd l1 6))))) + a2)) + a3)) + t171)) + (Go.bits .or .u64 (Go.bits .or .u64 (Go.bits .and .u64 (rd l1 0) (rd l1 1)) (Go.bits .and .u64 (rd l1 0) (rd l1 2))) (Go.bits .and .u64 (rd l1 1) (rd l1 2)))))] (by rfl) rfl rfl (by (try simp only [List.map_toArray, List.map_cons, List.map_nil]); first | done | rfl | (simp only [List.length_drop, List.length_take]; rfl)) ?_
                    with_reducible refine (imprimaturref02_Words_cut.calls a0_0 a0_1 (IntKind.u64.wrap ((IntKind.u64.wrap ((IntKind.u64.wrap ((IntKind.u64.wrap ((IntKind.u64.wrap ((IntKind.u64.wrap ((rd l1 7) + t170)) + (Go.bits .or .u64 (Go.bits .and .u64 (rd l1 4) (rd l1 5)) (Go.bits .and .u64 t172 (rd l1 6))))) + a2)) + a3)) + t171)) + (Go.bits .or .u64 (Go.bits .or .u64 (Go.bits .and .u64 (rd l1 0) (rd l1 1)) (Go.bits .and .u64 (rd l1 0) (rd l1 2))) (Go.bits .and .u64 (rd l1 1) (rd l1 2))))) t174 _ A16.out).mono ?_
                    rintro e w28 ⟨rfl, hb⟩
                    refine ⟨_, rfl, ?_⟩
                    have n0_ := Aside0.mk (blk_below (g := gb163) (o := .cells #[.int .u64 a0_0, .int .u64 a0_1] 103 (0, 0)) (by (with_reducible repeat (first | refine blk_drewN ?_ _ | refine blk_drew ?_ | refine blk_alloc ?_ _)); exact BK163.out) hb)
                    have n1_ := Aside0.mk (below_step (by repeat (first | (with_reducible first | exact HB.out | apply below_alloc | apply pw_below_drewN | apply below_drew1 | refine below_set ?_ GE163.out) | exact HB.out)) hb)
                    clear BK163
                    clear HB
                    have BK163 := n0_
                    have HB := n1_
                    clear n0_ n1_
                    (try clear hb)
                    (try clear hb2)
                    (try clear hk)
                    (try clear hi)
                    refine hK.out _ _ ⟨(blk_cell BK163.out 0).trans rfl, (blk_cell BK163.out 1).trans rfl, ((HB.out.cell (World.block_lt_of_cell? w _ hw175_0)).trans hw175_0)⟩ (fun hHeld => ?_)
                    clear hK K
                    refine norm_ (a' := ?_) ?_ ?_
                    rotate_left
                    · show Act.put _ (some 93) _ = _
                      simp only [Act.put, List.setIfInBounds_toArray, List.set_cons_zero, List.set_cons_succ, i64_w, i32_w]
                      rfl
                    refine one_ (i := 16) (N := some 103) (bz 22 1048575) rfl rfl (one_of HT_.out (by kernel_rfl)) (by decide) (fun K hK => ?_)
                    refine goes_ Tryd.func69 (by kernel_rfl) rfl #[.agg #[.int .u64 a0_0, .int .u64 a0_1], .int .u64 (IntKind.u64.wrap ((rd l1 3) + (IntKind.u64.wrap ((IntKind.u64.wrap ((IntKind.u64.wrap ((IntKind.u64.wrap ((rd l1 7) + t170)) + (Go.bits .or .u64 (Go.bits .and .u64 (rd l1 4) (rd l1 5)) (Go.bits .and .u64 t172 (rd l1 6))))) + a2)) + a3))))] (by rfl) rfl rfl (by (try simp only [List.map_toArray, List.map_cons, List.map_nil]); first | done | rfl | (simp only [List.length_drop, List.length_take]; rfl)) ?_
                    with_reducible refine (imprimaturref02_Words_cut.calls a0_0 a0_1 (IntKind.u64.wrap ((rd l1 3) + (IntKind.u64.wrap ((IntKind.u64.wrap ((IntKind.u64.wrap ((IntKind.u64.wrap ((rd l1 7) + t170)) + (Go.bits .or .u64 (Go.bits .and .u64 (rd l1 4) (rd l1 5)) (Go.bits .and .u64 t172 (rd l1 6))))) + a2)) + a3)))) t176 _ A18.out).mono ?_
                    rintro e w29 ⟨rfl, hb⟩
                    refine ⟨_, rfl, ?_⟩
                    have n0_ := Aside0.mk (blk_below (g := gb163) (o := .cells #[.int .u64 a0_0, .int .u64 a0_1] 103 (0, 0)) (by (with_reducible repeat (first | refine blk_drewN ?_ _ | refine blk_drew ?_ | refine blk_alloc ?_ _)); exact BK163.out) hb)
                    have n1_ := Aside0.mk (below_step (by repeat (first | (with_reducible first | exact HB.out | apply below_alloc | apply pw_below_drewN | apply below_drew1 | refine below_set ?_ GE163.out) | exact HB.out)) hb)
                    clear BK163
                    clear HB
                    have BK163 := n0_
                    have HB := n1_
                    clear n0_ n1_
                    (try clear hb)
                    (try clear hb2)
                    (try clear hk)
                    (try clear hi)
                    refine hK.out _ _ ⟨(blk_cell BK163.out 0).trans rfl, (blk_cell BK163.out 1).trans rfl, ((HB.out.cell (World.block_lt_of_cell? w _ hw175_0)).trans hw175_0)⟩ (fun hHeld => ?_)
                    clear hK K
                    refine norm_ (a' := ?_) ?_ ?_
                    rotate_left
                    · show Act.put _ (some 103) _ = _
                      simp only [Act.put, List.setIfInBounds_toArray, List.set_cons_zero, List.set_cons_succ, i64_w, i32_w]
                      rfl
                    refine one_ (i := 20) (N := some 107) (bz 22 2097151) rfl rfl (one_of HT_.out (by kernel_rfl)) (by decide) (fun K hK => ?_)
                    refine Kd.R_lit_step (Kd.int .u64) _ 27 ?hg (N := 107) ?hd (xs := ([t174, rd l1 0, rd l1 1, rd l1 2, t176, rd l1 4, rd l1 5, rd l1 6] : List Int)) (inner := [.int .u64 t174, .int .u64 (rd l1 0), .int .u64 (rd l1 1), .int .u64 (rd l1 2), .int .u64 t176, .int .u64 (rd l1 4), .int .u64 (rd l1 5), .int .u64 (rd l1 6)]) (ok := fun _ => True) (okp := fun _ => True) ?hr ?hp (fun _ hk => hk) trivial (Below.refl _ _) (Nat.le_refl _) (by simp) ?_; (case hd => rfl); (case hg => rfl); (case hr => first | (go_simp; done) | (go_simp; rfl)); (case hp => exact (Reps.one (show Kd.M (Kd.int .u64) _ _ _ t174 [.int .u64 t174] from rfl) (Reps.one (show Kd.M (Kd.int .u64) _ _ _ (rd l1 0) [.int .u64 (rd l1 0)] from rfl) (Reps.one (show Kd.M (Kd.int .u64) _ _ _ (rd l1 1) [.int .u64 (rd l1 1)] from rfl) (Reps.one (show Kd.M (Kd.int .u64) _ _ _ (rd l1 2) [.int .u64 (rd l1 2)] from rfl) (Reps.one (show Kd.M (Kd.int .u64) _ _ _ t176 [.int .u64 t176] from rfl) (Reps.one (show Kd.M (Kd.int .u64) _ _ _ (rd l1 4) [.int .u64 (rd l1 4)] from rfl) (Reps.one (show Kd.M (Kd.int .u64) _ _ _ (rd l1 5) [.int .u64 (rd l1 5)] from rfl) (Reps.one (show Kd.M (Kd.int .u64) _ _ _ (rd l1 6) [.int .u64 (rd l1 6)] from rfl) (Reps.none _ _))))))))))
                    intro v178 w30 ho31 hb hg_ hnew_
                    clear hg_ hnew_
                    (first | rw [← Ny177.out] at ho31 | (simp only [Int.reduceToNat] at ho31; rw [← Ny177.out] at ho31))
                    have n0_ := Aside0.mk (Kd.R_lower ho31 (below_size (by repeat (first | (with_reducible first | exact HB.out | apply below_alloc | apply pw_below_drewN | apply below_drew1 | refine below_set ?_ GE163.out) | exact HB.out))))
                    have n1_ := Aside0.mk (blk_below (g := gb163) (o := .cells #[.int .u64 a0_0, .int .u64 a0_1] 103 (0, 0)) (by (with_reducible repeat (first | refine blk_drewN ?_ _ | refine blk_drew ?_ | refine blk_alloc ?_ _)); exact BK163.out) hb)
                    have n2_ := Aside0.mk (below_step (by repeat (first | (with_reducible first | exact HB.out | apply below_alloc | apply pw_below_drewN | apply below_drew1 | refine below_set ?_ GE163.out) | exact HB.out)) hb)
                    clear BK163
                    clear HB
                    have HO179 := n0_
                    have BK163 := n1_
                    have HB := n2_
                    clear n0_ n1_ n2_
                    clear hb ho31
                    refine hK.out _ _ ⟨(blk_cell BK163.out 0).trans rfl, (blk_cell BK163.out 1).trans rfl, ((HB.out.cell (World.block_lt_of_cell? w _ hw175_0)).trans hw175_0)⟩ (fun hHeld => ?_)
                    clear hK K
                    refine norm_ (a' := ?_) ?_ ?_
                    rotate_left
                    · show Act.put _ (some 107) _ = _
                      simp only [Act.put, List.setIfInBounds_toArray, List.set_cons_zero, List.set_cons_succ, i64_w, i32_w]
                      rfl
                    refine xpz 21 (some 8) (bz 22 4194303) (any_of HT_.out (by kernel_rfl)) ?_
                    refine done_ (done_of HT_.out (by kernel_rfl)) ?_
                    try go_wp2
                    go_ret
                    exact ⟨_, by first | rfl | (simp [errW_none, errW_some] <;> rfl) | (simp [*, errW_none, errW_some] <;> rfl), by (with_reducible repeat (first | apply Kd.R_alloc | apply Kd.R_drewN | apply Kd.R_drew)); exact HO179.out, by repeat (first | (with_reducible first | exact HB.out | apply below_alloc | apply pw_below_drewN | apply below_drew1 | refine below_set ?_ GE163.out) | exact HB.out)⟩
                  · rw [if_neg c17] at H
                    exact absurd H (by simp)
                · rw [if_neg c15] at H
                  exact absurd H (by simp)
              · rw [if_neg c11] at H
                have c11b0 : (a0_0 == 0) = false := beq_eq_false_iff_ne.mpr c11
                have c11b1 : (a0_0 != 0) = true := bne_iff_ne.mpr c11
                replace H := Option.bind_eq_some_iff.mp H
                obtain ⟨t180, A320, H⟩ := H
                replace H : ((imprimaturref02_Words_big.f a0_0 a0_1 (rd l1 0) 2 13 22).bind fun t181 => ((imprimaturref02_Words_cut.f a0_0 a0_1 (Go.bits .xor .u64 (if IntKind.u64.signed = true then -1 else IntKind.u64.max) (rd l1 4))).bind fun t182 => (if 7 < (l1.length : Int) then ((imprimaturref02_Words_cut.f a0_0 a0_1 (IntKind.u64.wrap ((IntKind.u64.wrap ((IntKind.u64.wrap ((IntKind.u64.wrap ((IntKind.u64.wrap ((IntKind.u64.wrap ((rd l1 7) + t180)) + (Go.bits .or .u64 (Go.bits .and .u64 (rd l1 4) (rd l1 5)) (Go.bits .and .u64 t182 (rd l1 6))))) + (IntKind.u64.wrap (Int.tdiv a2 4294967296)))) + a3)) + t181)) + (Go.bits .or .u64 (Go.bits .or .u64 (Go.bits .and .u64 (rd l1 0) (rd l1 1)) (Go.bits .and .u64 (rd l1 0) (rd l1 2))) (Go.bits .and .u64 (rd l1 1) (rd l1 2)))))).bind fun t184 => (if 3 < (l1.length : Int) then ((imprimaturref02_Words_cut.f a0_0 a0_1 (IntKind.u64.wrap ((rd l1 3) + (IntKind.u64.wrap ((IntKind.u64.wrap ((IntKind.u64.wrap ((IntKind.u64.wrap ((rd l1 7) + t180)) + (Go.bits .or .u64 (Go.bits .and .u64 (rd l1 4) (rd l1 5)) (Go.bits .and .u64 t182 (rd l1 6))))) + (IntKind.u64.wrap (Int.tdiv a2 4294967296)))) + a3))))).bind fun t186 => (some (([t184, rd l1 0, rd l1 1, rd l1 2, t186, rd l1 4, rd l1 5, rd l1 6] : List Int)))) else (none))) else (none)))) = some r := H
                have A32 := Aside0.mk A320
                clear A320
                replace H := Option.bind_eq_some_iff.mp H
                obtain ⟨t181, A330, H⟩ := H
                replace H : ((imprimaturref02_Words_cut.f a0_0 a0_1 (Go.bits .xor .u64 (if IntKind.u64.signed = true then -1 else IntKind.u64.max) (rd l1 4))).bind fun t182 => (if 7 < (l1.length : Int) then ((imprimaturref02_Words_cut.f a0_0 a0_1 (IntKind.u64.wrap ((IntKind.u64.wrap ((IntKind.u64.wrap ((IntKind.u64.wrap ((IntKind.u64.wrap ((IntKind.u64.wrap ((rd l1 7) + t180)) + (Go.bits .or .u64 (Go.bits .and .u64 (rd l1 4) (rd l1 5)) (Go.bits .and .u64 t182 (rd l1 6))))) + (IntKind.u64.wrap (Int.tdiv a2 4294967296)))) + a3)) + t181)) + (Go.bits .or .u64 (Go.bits .or .u64 (Go.bits .and .u64 (rd l1 0) (rd l1 1)) (Go.bits .and .u64 (rd l1 0) (rd l1 2))) (Go.bits .and .u64 (rd l1 1) (rd l1 2)))))).bind fun t184 => (if 3 < (l1.length : Int) then ((imprimaturref02_Words_cut.f a0_0 a0_1 (IntKind.u64.wrap ((rd l1 3) + (IntKind.u64.wrap ((IntKind.u64.wrap ((IntKind.u64.wrap ((IntKind.u64.wrap ((rd l1 7) + t180)) + (Go.bits .or .u64 (Go.bits .and .u64 (rd l1 4) (rd l1 5)) (Go.bits .and .u64 t182 (rd l1 6))))) + (IntKind.u64.wrap (Int.tdiv a2 4294967296)))) + a3))))).bind fun t186 => (some (([t184, rd l1 0, rd l1 1, rd l1 2, t186, rd l1 4, rd l1 5, rd l1 6] : List Int)))) else (none))) else (none))) = some r := H
                have A33 := Aside0.mk A330
                clear A330
                replace H := Option.bind_eq_some_iff.mp H
                obtain ⟨t182, A340, H⟩ := H
                replace H : (if 7 < (l1.length : Int) then ((imprimaturref02_Words_cut.f a0_0 a0_1 (IntKind.u64.wrap ((IntKind.u64.wrap ((IntKind.u64.wrap ((IntKind.u64.wrap ((IntKind.u64.wrap ((IntKind.u64.wrap ((rd l1 7) + t180)) + (Go.bits .or .u64 (Go.bits .and .u64 (rd l1 4) (rd l1 5)) (Go.bits .and .u64 t182 (rd l1 6))))) + (IntKind.u64.wrap (Int.tdiv a2 4294967296)))) + a3)) + t181)) + (Go.bits .or .u64 (Go.bits .or .u64 (Go.bits .and .u64 (rd l1 0) (rd l1 1)) (Go.bits .and .u64 (rd l1 0) (rd l1 2))) (Go.bits .and .u64 (rd l1 1) (rd l1 2)))))).bind fun t184 => (if 3 < (l1.length : Int) then ((imprimaturref02_Words_cut.f a0_0 a0_1 (IntKind.u64.wrap ((rd l1 3) + (IntKind.u64.wrap ((IntKind.u64.wrap ((IntKind.u64.wrap ((IntKind.u64.wrap ((rd l1 7) + t180)) + (Go.bits .or .u64 (Go.bits .and .u64 (rd l1 4) (rd l1 5)) (Go.bits .and .u64 t182 (rd l1 6))))) + (IntKind.u64.wrap (Int.tdiv a2 4294967296)))) + a3))))).bind fun t186 => (some (([t184, rd l1 0, rd l1 1, rd l1 2, t186, rd l1 4, rd l1 5, rd l1 6] : List Int)))) else (none))) else (none)) = some r := H
                have A34 := Aside0.mk A340
                clear A340
                by_cases c35 : 7 < (l1.length : Int)
                · rw [if_pos c35] at H
                  have c35b0 : decide (7 < (l1.length : Int)) = true := decide_eq_true c35
                  have c35b1 : decide (7 < l1.length) = true := decide_eq_true (by omega)
                  clear c35
                  replace H := Option.bind_eq_some_iff.mp H
                  obtain ⟨t184, A360, H⟩ := H
                  replace H : (if 3 < (l1.length : Int) then ((imprimaturref02_Words_cut.f a0_0 a0_1 (IntKind.u64.wrap ((rd l1 3) + (IntKind.u64.wrap ((IntKind.u64.wrap ((IntKind.u64.wrap ((IntKind.u64.wrap ((rd l1 7) + t180)) + (Go.bits .or .u64 (Go.bits .and .u64 (rd l1 4) (rd l1 5)) (Go.bits .and .u64 t182 (rd l1 6))))) + (IntKind.u64.wrap (Int.tdiv a2 4294967296)))) + a3))))).bind fun t186 => (some (([t184, rd l1 0, rd l1 1, rd l1 2, t186, rd l1 4, rd l1 5, rd l1 6] : List Int)))) else (none)) = some r := H
                  have A36 := Aside0.mk A360
                  clear A360
                  by_cases c37 : 3 < (l1.length : Int)
                  · rw [if_pos c37] at H
                    have c37b0 : decide (3 < (l1.length : Int)) = true := decide_eq_true c37
                    have c37b1 : decide (3 < l1.length) = true := decide_eq_true (by omega)
                    clear c37
                    replace H := Option.bind_eq_some_iff.mp H
                    obtain ⟨t186, A380, H⟩ := H
                    replace H : (some (([t184, rd l1 0, rd l1 1, rd l1 2, t186, rd l1 4, rd l1 5, rd l1 6] : List Int))) = some r := H
                    have A38 := Aside0.mk A380
                    clear A380
                    obtain ⟨y187, hy187⟩ : ∃ y_ : List Int, y_ = (([t184, rd l1 0, rd l1 1, rd l1 2, t186, rd l1 4, rd l1 5, rd l1 6] : List Int)) := ⟨_, rfl⟩
                    replace H : (some y187) = some r := by first | (rw [hy187]; with_reducible exact H) | (have H2_ := (Option.bind_some _ _).symm.trans H; rw [hy187]; with_reducible exact H2_) | (have H2_ := (Option.bind_some _ _).symm.trans H; with_reducible exact H2_) | with_reducible exact H | (rw [hy187]; exact H) | exact H
                    have Ny187 := Aside0.mk hy187
                    clear hy187
                    obtain rfl := Option.some.inj H
                    go_enter Tryd.func68, Tryd.ntmps68
                    try go_wp2_with (first | ((with_reducible refine gate_dst (N := 4) rfl ?_); refine box_event ?hg (N := 4) ?hd (cs := #[.int .u64 a0_0, .int .u64 a0_1]) (t := 103) ?hr ?_; (case hd => rfl); (case hg => rfl); (case hr => first | (go_simp; done) | (go_simp; rfl)); intro gb163 hg w39 hbox hb; have n0_ := Aside0.mk (below_step (by repeat (first | (with_reducible first | exact HB.out | apply below_alloc | apply pw_below_drewN | apply below_drew1) | exact HB.out)) hb); have n1_ := Aside0.mk (hbox); have n2_ := Aside0.mk ((by rw [hg]; exact (below_size (by repeat (first | (with_reducible first | exact HB.out | apply below_alloc | apply pw_below_drewN | apply below_drew1) | exact HB.out))) : w.heap.size ≤ gb163)); have n3_ := Aside0.mk ((by rw [hg]; exact (below_size (by repeat (first | (with_reducible first | exact HB.out | apply below_alloc | apply pw_below_drewN | apply below_drew1) | exact HB.out))) : w.heap.size ≤ gb163)); clear HB; have HB := n0_; have BK163 := n1_; have GW163 := n2_; have GE163 := n3_; clear n0_ n1_ n2_ n3_; clear hb hbox hg))
                    have n0_ := Aside0.mk (blk_drew BK163.out)
                    have n1_ := Aside0.mk (below_drew1 HB.out)
                    clear BK163
                    clear HB
                    have BK163 := n0_
                    have HB := n1_
                    clear n0_ n1_
                    have p164 : 0 ≤ (0 : Int) := (by omega)
                    have q164 : 0 < (l1.length : Int) := of_decide_eq_true (by first | (with_reducible assumption) | assumption)
                    obtain ⟨ad164, e164, hx164_0⟩ := Kd.at_int HR1.out 0 p164 q164
                    have hw164_0 := hx164_0
                    (try rw [show ((0 : Int)).toNat = 0 from rfl] at hw164_0)
                    (try rw [show 0 * 1 = 0 from rfl] at hw164_0)
                    (try rw [Addr.add_zero'] at hw164_0)
                    cases e164
                    have qi164 : (0 < l1.length) = True := eq_true (by omega)
                    (try rw [show ((0 : Int)).toNat = 0 from rfl] at hx164_0)
                    (try rw [Addr.add_zero'] at hx164_0)
                    replace hx164_0 := (HB.out.cell (World.block_lt_of_cell? w _ hx164_0)).trans hx164_0
                    replace p164 := eq_true p164
                    replace q164 := eq_true q164
                    have p165 : 0 ≤ (1 : Int) := (by omega)
                    have q165 : 1 < (l1.length : Int) := of_decide_eq_true (by first | (with_reducible assumption) | assumption)
                    obtain ⟨ad165, e165, hx165_0⟩ := Kd.at_int HR1.out 1 p165 q165
                    have hw165_0 := hx165_0
                    (try rw [show ((1 : Int)).toNat = 1 from rfl] at hw165_0)
                    (try rw [show 1 * 1 = 1 from rfl] at hw165_0)
                    (try simp only [Nat.reduceMul, Nat.reduceEqDiff, Go.Addr.add, ↓reduceIte] at hw165_0)
                    obtain rfl : ad164 = ad165 := (by injection e165)
                    (try simp only [show (1 : Int).toNat = 1 from rfl, Nat.reduceMul, Nat.reduceEqDiff, Go.Addr.add, ↓reduceIte] at hx165_0)
                    have qi165 : (1 < l1.length) = True := eq_true (by omega)
                    (try rw [show ((1 : Int)).toNat = 1 from rfl] at hx165_0)
                    replace hx165_0 := (HB.out.cell (World.block_lt_of_cell? w _ hx165_0)).trans hx165_0
                    replace p165 := eq_true p165
                    replace q165 := eq_true q165
                    have p166 : 0 ≤ (2 : Int) := (by omega)
                    have q166 : 2 < (l1.length : Int) := of_decide_eq_true (by first | (with_reducible assumption) | assumption)
                    obtain ⟨ad166, e166, hx166_0⟩ := Kd.at_int HR1.out 2 p166 q166
                    have hw166_0 := hx166_0
                    (try rw [show ((2 : Int)).toNat = 2 from rfl] at hw166_0)
                    (try rw [show 2 * 1 = 2 from rfl] at hw166_0)
                    (try simp only [Nat.reduceMul, Nat.reduceEqDiff, Go.Addr.add, ↓reduceIte] at hw166_0)
                    obtain rfl : ad164 = ad166 := (by injection e166)
                    (try simp only [show (2 : Int).toNat = 2 from rfl, Nat.reduceMul, Nat.reduceEqDiff, Go.Addr.add, ↓reduceIte] at hx166_0)
                    have qi166 : (2 < l1.length) = True := eq_true (by omega)
                    (try rw [show ((2 : Int)).toNat = 2 from rfl] at hx166_0)
                    replace hx166_0 := (HB.out.cell (World.block_lt_of_cell? w _ hx166_0)).trans hx166_0
                    replace p166 := eq_true p166
                    replace q166 := eq_true q166
                    have p167 : 0 ≤ (4 : Int) := (by omega)
                    have q167 : 4 < (l1.length : Int) := of_decide_eq_true (by first | (with_reducible assumption) | assumption)
                    obtain ⟨ad167, e167, hx167_0⟩ := Kd.at_int HR1.out 4 p167 q167
                    have hw167_0 := hx167_0
                    (try rw [show ((4 : Int)).toNat = 4 from rfl] at hw167_0)
                    (try rw [show 4 * 1 = 4 from rfl] at hw167_0)
                    (try simp only [Nat.reduceMul, Nat.reduceEqDiff, Go.Addr.add, ↓reduceIte] at hw167_0)
                    obtain rfl : ad164 = ad167 := (by injection e167)
                    (try simp only [show (4 : Int).toNat = 4 from rfl, Nat.reduceMul, Nat.reduceEqDiff, Go.Addr.add, ↓reduceIte] at hx167_0)
                    have qi167 : (4 < l1.length) = True := eq_true (by omega)
                    (try rw [show ((4 : Int)).toNat = 4 from rfl] at hx167_0)
                    replace hx167_0 := (HB.out.cell (World.block_lt_of_cell? w _ hx167_0)).trans hx167_0
                    replace p167 := eq_true p167
                    replace q167 := eq_true q167
                    have p168 : 0 ≤ (5 : Int) := (by omega)
                    have q168 : 5 < (l1.length : Int) := of_decide_eq_true (by first | (with_reducible assumption) | assumption)
                    obtain ⟨ad168, e168, hx168_0⟩ := Kd.at_int HR1.out 5 p168 q168
                    have hw168_0 := hx168_0
                    (try rw [show ((5 : Int)).toNat = 5 from rfl] at hw168_0)
                    (try rw [show 5 * 1 = 5 from rfl] at hw168_0)
                    (try simp only [Nat.reduceMul, Nat.reduceEqDiff, Go.Addr.add, ↓reduceIte] at hw168_0)
                    obtain rfl : ad164 = ad168 := (by injection e168)
                    (try simp only [show (5 : Int).toNat = 5 from rfl, Nat.reduceMul, Nat.reduceEqDiff, Go.Addr.add, ↓reduceIte] at hx168_0)
                    have qi168 : (5 < l1.length) = True := eq_true (by omega)
                    (try rw [show ((5 : Int)).toNat = 5 from rfl] at hx168_0)
                    replace hx168_0 := (HB.out.cell (World.block_lt_of_cell? w _ hx168_0)).trans hx168_0
                    replace p168 := eq_true p168
                    replace q168 := eq_true q168
                    have p169 : 0 ≤ (6 : Int) := (by omega)
                    have q169 : 6 < (l1.length : Int) := of_decide_eq_true (by first | (with_reducible assumption) | assumption)
                    obtain ⟨ad169, e169, hx169_0⟩ := Kd.at_int HR1.out 6 p169 q169
                    have hw169_0 := hx169_0
                    (try rw [show ((6 : Int)).toNat = 6 from rfl] at hw169_0)
                    (try rw [show 6 * 1 = 6 from rfl] at hw169_0)
                    (try simp only [Nat.reduceMul, Nat.reduceEqDiff, Go.Addr.add, ↓reduceIte] at hw169_0)
                    obtain rfl : ad164 = ad169 := (by injection e169)
                    (try simp only [show (6 : Int).toNat = 6 from rfl, Nat.reduceMul, Nat.reduceEqDiff, Go.Addr.add, ↓reduceIte] at hx169_0)
                    have qi169 : (6 < l1.length) = True := eq_true (by omega)
                    (try rw [show ((6 : Int)).toNat = 6 from rfl] at hx169_0)
                    replace hx169_0 := (HB.out.cell (World.block_lt_of_cell? w _ hx169_0)).trans hx169_0
                    replace p169 := eq_true p169
                    replace q169 := eq_true q169
                    refine start_ (n := 24) (S := fun w' => w'.cell? ad164 = some (.int .u64 (rd l1 0)) ∧ w'.cell? ⟨ad164.block, ad164.off + 1, none⟩ = some (.int .u64 (rd l1 1)) ∧ w'.cell? ⟨ad164.block, ad164.off + 2, none⟩ = some (.int .u64 (rd l1 2)) ∧ w'.cell? ⟨ad164.block, ad164.off + 4, none⟩ = some (.int .u64 (rd l1 4)) ∧ w'.cell? ⟨ad164.block, ad164.off + 5, none⟩ = some (.int .u64 (rd l1 5)) ∧ w'.cell? ⟨ad164.block, ad164.off + 6, none⟩ = some (.int .u64 (rd l1 6))) (ds := []) (bz 24 0) (by kernel_rfl) rfl rfl ⟨((HB.out.cell (World.block_lt_of_cell? w _ hw164_0)).trans hw164_0), ((HB.out.cell (World.block_lt_of_cell? w _ hw165_0)).trans hw165_0), ((HB.out.cell (World.block_lt_of_cell? w _ hw166_0)).trans hw166_0), ((HB.out.cell (World.block_lt_of_cell? w _ hw167_0)).trans hw167_0), ((HB.out.cell (World.block_lt_of_cell? w _ hw168_0)).trans hw168_0), ((HB.out.cell (World.block_lt_of_cell? w _ hw169_0)).trans hw169_0)⟩ (fun hHeld => ?_); refine with_tabW imprimaturref02_Words_round.tab1 imprimaturref02_Words_round.bits1 (fun HT_ HW_ => ?_)
                    generalize w39.drew = w40 at BK163 HB hx164_0 hx165_0 hx166_0 hx167_0 hx168_0 hx169_0 hHeld ⊢
                    refine xpz 0 (some 20) (bz 24 1) (any_of HT_.out (by kernel_rfl)) ?_
                    refine xpz 1 (some 21) (bz 24 3) (any_of HT_.out (by kernel_rfl)) ?_
                    refine xpz 3 (some 23) (bz 24 11) (any_of HT_.out (by kernel_rfl)) ?_
                    refine xpz 4 (some 24) (bz 24 27) (any_of HT_.out (by kernel_rfl)) ?_
                    refine xpz 6 (some 26) (bz 24 91) (any_of HT_.out (by kernel_rfl)) ?_
                    refine xpz 7 (some 27) (bz 24 219) (any_of HT_.out (by kernel_rfl)) ?_
                    refine xpz 9 (some 29) (bz 24 731) (any_of HT_.out (by kernel_rfl)) ?_
                    refine xpz 10 (some 30) (bz 24 1755) (any_of HT_.out (by kernel_rfl)) ?_
                    refine xpz 12 (some 32) (bz 24 5851) (any_of HT_.out (by kernel_rfl)) ?_
                    refine xpz 13 (some 33) (bz 24 14043) (any_of HT_.out (by kernel_rfl)) ?_
                    refine xpz 15 (some 35) (bz 24 46811) (any_of HT_.out (by kernel_rfl)) ?_
                    refine xpz 16 (some 36) (bz 24 112347) (any_of HT_.out (by kernel_rfl)) ?_
                    refine xtz6 2 (some 22) (bz 24 112351) (take_ofW HT_.out HW_.out (by kernel_rfl)) hHeld ?_
                    refine xpz 18 (some 9) (bz 24 374495) (any_of HT_.out (by kernel_rfl)) ?_
                    refine xtz6 5 (some 25) (bz 24 374527) (take_ofW HT_.out HW_.out (by kernel_rfl)) hHeld ?_
                    refine xpz 19 (some 10) (bz 24 898815) (any_of HT_.out (by kernel_rfl)) ?_
                    refine xtz6 8 (some 28) (bz 24 899071) (take_ofW HT_.out HW_.out (by kernel_rfl)) hHeld ?_
                    refine xpz 20 (some 11) (bz 24 1947647) (any_of HT_.out (by kernel_rfl)) ?_
                    refine xtz6 11 (some 31) (bz 24 1949695) (take_ofW HT_.out HW_.out (by kernel_rfl)) hHeld ?_
                    refine xpz 21 (some 12) (bz 24 4046847) (any_of HT_.out (by kernel_rfl)) ?_
                    refine xtz6 14 (some 34) (bz 24 4063231) (take_ofW HT_.out HW_.out (by kernel_rfl)) hHeld ?_
                    refine xpz 22 (some 13) (bz 24 8257535) (any_of HT_.out (by kernel_rfl)) ?_
                    refine xtz6 17 (some 37) (bz 24 8388607) (take_ofW HT_.out HW_.out (by kernel_rfl)) hHeld ?_
                    refine xpz 23 (some 14) (bz 24 16777215) (any_of HT_.out (by kernel_rfl)) ?_
                    refine done_ (done_of HT_.out (by kernel_rfl)) ?_
                    have hcz41_0 : w40.cell? ⟨gb163, 0, none⟩ = some (.int .u64 a0_0) := (blk_cell BK163.out 0).trans rfl
                    have hcz41_1 : w40.cell? ⟨gb163, 1, none⟩ = some (.int .u64 a0_1) := (blk_cell BK163.out 1).trans rfl
                    have hfz41_0 := blk_frozen BK163.out 0
                    have hfz41_1 := blk_frozen BK163.out 1
                    try go_wp2_with (first | ((with_reducible refine gate_callee (f := 85) rfl ?_); refine goesL_ (some 43) rfl rfl Tryd.func85 (by kernel_rfl) rfl #[.agg #[.int .u64 a0_0, .int .u64 a0_1], .int .u64 (rd l1 4), .int .u64 6, .int .u64 11, .int .u64 25] rfl (by (try simp only [List.map_toArray, List.map_cons, List.map_nil]); first | done | rfl | (simp only [List.length_drop, List.length_take]; rfl)) ?_; (with_reducible refine (imprimaturref02_Words_big.calls a0_0 a0_1 (rd l1 4) 6 11 25 t180 _ A32.out).mono ?_); rintro e w42 ⟨rfl, hb⟩; refine ⟨_, rfl, ?_⟩; have n0_ := Aside0.mk (blk_below (g := gb163) (o := .cells #[.int .u64 a0_0, .int .u64 a0_1] 103 (0, 0)) (by (with_reducible repeat (first | refine blk_drewN ?_ _ | refine blk_drew ?_ | refine blk_alloc ?_ _)); exact BK163.out) hb); have n1_ := Aside0.mk (below_step (by repeat (first | (with_reducible first | exact HB.out | apply below_alloc | apply pw_below_drewN | apply below_drew1 | refine below_set ?_ GE163.out) | exact HB.out)) hb); clear BK163; clear HB; have BK163 := n0_; have HB := n1_; clear n0_ n1_; (try clear hb); (try clear hb2); (try clear hk); (try clear hi); have hcz43_0 : w42.cell? ⟨gb163, 0, none⟩ = some (.int .u64 a0_0) := (blk_cell BK163.out 0).trans rfl; have hcz43_1 : w42.cell? ⟨gb163, 1, none⟩ = some (.int .u64 a0_1) := (blk_cell BK163.out 1).trans rfl; have hfz43_0 := blk_frozen BK163.out 0; have hfz43_1 := blk_frozen BK163.out 1) | ((with_reducible refine gate_callee (f := 85) rfl ?_); refine goesL_ (some 46) rfl rfl Tryd.func85 (by kernel_rfl) rfl #[.agg #[.int .u64 a0_0, .int .u64 a0_1], .int .u64 (rd l1 0), .int .u64 2, .int .u64 13, .int .u64 22] rfl (by (try simp only [List.map_toArray, List.map_cons, List.map_nil]); first | done | rfl | (simp only [List.length_drop, List.length_take]; rfl)) ?_; (with_reducible refine (imprimaturref02_Words_big.calls a0_0 a0_1 (rd l1 0) 2 13 22 t181 _ A33.out).mono ?_); rintro e w44 ⟨rfl, hb⟩; refine ⟨_, rfl, ?_⟩; have n0_ := Aside0.mk (blk_below (g := gb163) (o := .cells #[.int .u64 a0_0, .int .u64 a0_1] 103 (0, 0)) (by (with_reducible repeat (first | refine blk_drewN ?_ _ | refine blk_drew ?_ | refine blk_alloc ?_ _)); exact BK163.out) hb); have n1_ := Aside0.mk (below_step (by repeat (first | (with_reducible first | exact HB.out | apply below_alloc | apply pw_below_drewN | apply below_drew1 | refine below_set ?_ GE163.out) | exact HB.out)) hb); clear BK163; clear HB; have BK163 := n0_; have HB := n1_; clear n0_ n1_; (try clear hb); (try clear hb2); (try clear hk); (try clear hi); have hcz45_0 : w44.cell? ⟨gb163, 0, none⟩ = some (.int .u64 a0_0) := (blk_cell BK163.out 0).trans rfl; have hcz45_1 : w44.cell? ⟨gb163, 1, none⟩ = some (.int .u64 a0_1) := (blk_cell BK163.out 1).trans rfl; have hfz45_0 := blk_frozen BK163.out 0; have hfz45_1 := blk_frozen BK163.out 1) | ((with_reducible refine gate_callee (f := 69) rfl ?_); refine goesL_ (some 61) rfl rfl Tryd.func69 (by kernel_rfl) rfl #[.agg #[.int .u64 a0_0, .int .u64 a0_1], .int .u64 (Go.bits .xor .u64 (if IntKind.u64.signed = true then -1 else IntKind.u64.max) (rd l1 4))] rfl (by (try simp only [List.map_toArray, List.map_cons, List.map_nil]); first | done | rfl | (simp only [List.length_drop, List.length_take]; rfl)) ?_; (with_reducible refine (imprimaturref02_Words_cut.calls a0_0 a0_1 (Go.bits .xor .u64 (if IntKind.u64.signed = true then -1 else IntKind.u64.max) (rd l1 4)) t182 _ A34.out).mono ?_); rintro e w46 ⟨rfl, hb⟩; refine ⟨_, rfl, ?_⟩; have n0_ := Aside0.mk (blk_below (g := gb163) (o := .cells #[.int .u64 a0_0, .int .u64 a0_1] 103 (0, 0)) (by (with_reducible repeat (first | refine blk_drewN ?_ _ | refine blk_drew ?_ | refine blk_alloc ?_ _)); exact BK163.out) hb); have n1_ := Aside0.mk (below_step (by repeat (first | (with_reducible first | exact HB.out | apply below_alloc | apply pw_below_drewN | apply below_drew1 | refine below_set ?_ GE163.out) | exact HB.out)) hb); clear BK163; clear HB; have BK163 := n0_; have HB := n1_; clear n0_ n1_; (try clear hb); (try clear hb2); (try clear hk); (try clear hi); have p183 : 0 ≤ (7 : Int) := (by omega); have q183 : 7 < (l1.length : Int) := of_decide_eq_true (by first | (with_reducible assumption) | assumption); obtain ⟨ad183, e183, hx183_0⟩ := Kd.at_int HR1.out 7 p183 q183; obtain rfl : ad164 = ad183 := (by injection e183); (try simp only [show (7 : Int).toNat = 7 from rfl, Nat.reduceMul, Nat.reduceEqDiff, Go.Addr.add, ↓reduceIte] at hx183_0); have qi183 : (7 < l1.length) = True := eq_true (by omega); (try rw [show ((7 : Int)).toNat = 7 from rfl] at hx183_0); replace hx183_0 := (HB.out.cell (World.block_lt_of_cell? w _ hx183_0)).trans hx183_0; replace p183 := eq_true p183; replace q183 := eq_true q183))
                    have n0_ := Aside0.mk (blk_drew BK163.out)
                    have n1_ := Aside0.mk (below_drew1 HB.out)
                    clear BK163
                    clear HB
                    have BK163 := n0_
                    have HB := n1_
                    clear n0_ n1_
                    have p185 : 0 ≤ (3 : Int) := (by omega)
                    have q185 : 3 < (l1.length : Int) := of_decide_eq_true (by first | (with_reducible assumption) | assumption)
                    obtain ⟨ad185, e185, hx185_0⟩ := Kd.at_int HR1.out 3 p185 q185
                    have hw185_0 := hx185_0
                    (try rw [show ((3 : Int)).toNat = 3 from rfl] at hw185_0)
                    (try rw [show 3 * 1 = 3 from rfl] at hw185_0)
                    (try simp only [Nat.reduceMul, Nat.reduceEqDiff, Go.Addr.add, ↓reduceIte] at hw185_0)
                    obtain rfl : ad164 = ad185 := (by injection e185)
                    (try simp only [show (3 : Int).toNat = 3 from rfl, Nat.reduceMul, Nat.reduceEqDiff, Go.Addr.add, ↓reduceIte] at hx185_0)
                    have qi185 : (3 < l1.length) = True := eq_true (by omega)
                    (try rw [show ((3 : Int)).toNat = 3 from rfl] at hx185_0)
                    replace hx185_0 := (HB.out.cell (World.block_lt_of_cell? w _ hx185_0)).trans hx185_0
                    replace p185 := eq_true p185
                    replace q185 := eq_true q185
                    refine start_ (n := 22) (S := fun w' => w'.cell? ⟨gb163, 0, none⟩ = some (.int .u64 a0_0) ∧ w'.cell? ⟨gb163, 1, none⟩ = some (.int .u64 a0_1) ∧ w'.cell? ⟨ad164.block, ad164.off + 3, none⟩ = some (.int .u64 (rd l1 3))) (ds := []) (bz 22 0) (by kernel_rfl) rfl rfl ⟨(blk_cell BK163.out 0).trans rfl, (blk_cell BK163.out 1).trans rfl, ((HB.out.cell (World.block_lt_of_cell? w _ hw185_0)).trans hw185_0)⟩ (fun hHeld => ?_); refine with_tabW imprimaturref02_Words_round.tab12 imprimaturref02_Words_round.bits12 (fun HT_ HW_ => ?_)
                    generalize w46.drew = w47 at BK163 HB hx185_0 hHeld ⊢
                    refine xpz 1 (some 88) (bz 22 2) (any_of HT_.out (by kernel_rfl)) ?_
                    refine xpz 2 (some 89) (bz 22 6) (any_of HT_.out (by kernel_rfl)) ?_
                    refine xpz 3 (some 90) (bz 22 14) (any_of HT_.out (by kernel_rfl)) ?_
                    refine xpz 4 (some 91) (bz 22 30) (any_of HT_.out (by kernel_rfl)) ?_
                    refine xpz 5 (some 92) (bz 22 62) (any_of HT_.out (by kernel_rfl)) ?_
                    refine xpz 7 (some 94) (bz 22 190) (any_of HT_.out (by kernel_rfl)) ?_
                    refine xpz 8 (some 95) (bz 22 446) (any_of HT_.out (by kernel_rfl)) ?_
                    refine xpz 9 (some 96) (bz 22 958) (any_of HT_.out (by kernel_rfl)) ?_
                    refine xpz 11 (some 98) (bz 22 3006) (any_of HT_.out (by kernel_rfl)) ?_
                    refine xpz 12 (some 99) (bz 22 7102) (any_of HT_.out (by kernel_rfl)) ?_
                    refine xpz 14 (some 101) (bz 22 23486) (any_of HT_.out (by kernel_rfl)) ?_
                    refine xpz 17 (some 104) (bz 22 154558) (any_of HT_.out (by kernel_rfl)) ?_
                    refine xpz 18 (some 105) (bz 22 416702) (any_of HT_.out (by kernel_rfl)) ?_
                    refine xpz 19 (some 106) (bz 22 940990) (any_of HT_.out (by kernel_rfl)) ?_
                    refine xtz3 0 (some 87) (bz 22 940991) (take_ofW HT_.out HW_.out (by kernel_rfl)) hHeld ?_
                    refine xtz3 10 (some 97) (bz 22 942015) (take_ofW HT_.out HW_.out (by kernel_rfl)) hHeld ?_
                    refine xtz3 13 (some 100) (bz 22 950207) (take_ofW HT_.out HW_.out (by kernel_rfl)) hHeld ?_
                    refine xpz 15 (some 102) (bz 22 982975) (any_of HT_.out (by kernel_rfl)) ?_
                    refine one_ (i := 6) (N := some 93) (bz 22 983039) rfl rfl (one_of HT_.out (by kernel_rfl)) (by decide) (fun K hK => ?_)
                    refine goes_ Tryd.func69 (by kernel_rfl) rfl #[.agg #[.int .u64 a0_0, .int .u64 a0_1], .int .u64 (IntKind.u64.wrap ((IntKind.u64.wrap ((IntKind.u64.wrap ((IntKind.u64.wrap ((IntKind.u64.wrap ((IntKind.u64.wrap ((rd l1 7) + t180)) + (Go.bits .or .u64 (Go.bits .and .u64 (rd l1 4) (rd l1 5)) (Go.bits .and .u64 t182 (rd l1 6))))) + (IntKind.u64.wrap (Int.tdiv a2 4294967296)))) + a3)) + t181)) + (Go.bits .or .u64 (Go.bits .or .u64 (Go.bits .and .u64 (rd l1 0) (rd l1 1)) (Go.bits .and .u64 (rd l1 0) (rd l1 2))) (Go.bits .and .u64 (rd l1 1) (rd l1 2)))))] (by rfl) rfl rfl (by (try simp only [List.map_toArray, List.map_cons, List.map_nil]); first | done | rfl | (simp only [List.length_drop, List.length_take]; rfl)) ?_
                    with_reducible refine (imprimaturref02_Words_cut.calls a0_0 a0_1 (IntKind.u64.wrap ((IntKind.u64.wrap ((IntKind.u64.wrap ((IntKind.u64.wrap ((IntKind.u64.wrap ((IntKind.u64.wrap ((rd l1 7) + t180)) + (Go.bits .or .u64 (Go.bits .and .u64 (rd l1 4) (rd l1 5)) (Go.bits .and .u64 t182 (rd l1 6))))) + (IntKind.u64.wrap (Int.tdiv a2 4294967296)))) + a3)) + t181)) + (Go.bits .or .u64 (Go.bits .or .u64 (Go.bits .and .u64 (rd l1 0) (rd l1 1)) (Go.bits .and .u64 (rd l1 0) (rd l1 2))) (Go.bits .and .u64 (rd l1 1) (rd l1 2))))) t184 _ A36.out).mono ?_
                    rintro e w48 ⟨rfl, hb⟩
                    refine ⟨_, rfl, ?_⟩
                    have n0_ := Aside0.mk (blk_below (g := gb163) (o := .cells #[.int .u64 a0_0, .int .u64 a0_1] 103 (0, 0)) (by (with_reducible repeat (first | refine blk_drewN ?_ _ | refine blk_drew ?_ | refine blk_alloc ?_ _)); exact BK163.out) hb)
                    have n1_ := Aside0.mk (below_step (by repeat (first | (with_reducible first | exact HB.out | apply below_alloc | apply pw_below_drewN | apply below_drew1 | refine below_set ?_ GE163.out) | exact HB.out)) hb)
                    clear BK163
                    clear HB
                    have BK163 := n0_
                    have HB := n1_
                    clear n0_ n1_
                    (try clear hb)
                    (try clear hb2)
                    (try clear hk)
                    (try clear hi)
                    refine hK.out _ _ ⟨(blk_cell BK163.out 0).trans rfl, (blk_cell BK163.out 1).trans rfl, ((HB.out.cell (World.block_lt_of_cell? w _ hw185_0)).trans hw185_0)⟩ (fun hHeld => ?_)
                    clear hK K
                    refine norm_ (a' := ?_) ?_ ?_
                    rotate_left
                    · show Act.put _ (some 93) _ = _
                      simp only [Act.put, List.setIfInBounds_toArray, List.set_cons_zero, List.set_cons_succ, i64_w, i32_w]
                      rfl
                    refine one_ (i := 16) (N := some 103) (bz 22 1048575) rfl rfl (one_of HT_.out (by kernel_rfl)) (by decide) (fun K hK => ?_)
                    refine goes_ Tryd.func69 (by kernel_rfl) rfl #[.agg #[.int .u64 a0_0, .int .u64 a0_1], .int .u64 (IntKind.u64.wrap ((rd l1 3) + (IntKind.u64.wrap ((IntKind.u64.wrap ((IntKind.u64.wrap ((IntKind.u64.wrap ((rd l1 7) + t180)) + (Go.bits .or .u64 (Go.bits .and .u64 (rd l1 4) (rd l1 5)) (Go.bits .and .u64 t182 (rd l1 6))))) + (IntKind.u64.wrap (Int.tdiv a2 4294967296)))) + a3))))] (by rfl) rfl rfl (by (try simp only [List.map_toArray, List.map_cons, List.map_nil]); first | done | rfl | (simp only [List.length_drop, List.length_take]; rfl)) ?_
                    with_reducible refine (imprimaturref02_Words_cut.calls a0_0 a0_1 (IntKind.u64.wrap ((rd l1 3) + (IntKind.u64.wrap ((IntKind.u64.wrap ((IntKind.u64.wrap ((IntKind.u64.wrap ((rd l1 7) + t180)) + (Go.bits .or .u64 (Go.bits .and .u64 (rd l1 4) (rd l1 5)) (Go.bits .and .u64 t182 (rd l1 6))))) + (IntKind.u64.wrap (Int.tdiv a2 4294967296)))) + a3)))) t186 _ A38.out).mono ?_
                    rintro e w49 ⟨rfl, hb⟩
                    refine ⟨_, rfl, ?_⟩
                    have n0_ := Aside0.mk (blk_below (g := gb163) (o := .cells #[.int .u64 a0_0, .int .u64 a0_1] 103 (0, 0)) (by (with_reducible repeat (first | refine blk_drewN ?_ _ | refine blk_drew ?_ | refine blk_alloc ?_ _)); exact BK163.out) hb)
                    have n1_ := Aside0.mk (below_step (by repeat (first | (with_reducible first | exact HB.out | apply below_alloc | apply pw_below_drewN | apply below_drew1 | refine below_set ?_ GE163.out) | exact HB.out)) hb)
                    clear BK163
                    clear HB
                    have BK163 := n0_
                    have HB := n1_
                    clear n0_ n1_
                    (try clear hb)
                    (try clear hb2)
                    (try clear hk)
                    (try clear hi)
                    refine hK.out _ _ ⟨(blk_cell BK163.out 0).trans rfl, (blk_cell BK163.out 1).trans rfl, ((HB.out.cell (World.block_lt_of_cell? w _ hw185_0)).trans hw185_0)⟩ (fun hHeld => ?_)
                    clear hK K
                    refine norm_ (a' := ?_) ?_ ?_
                    rotate_left
                    · show Act.put _ (some 103) _ = _
                      simp only [Act.put, List.setIfInBounds_toArray, List.set_cons_zero, List.set_cons_succ, i64_w, i32_w]
                      rfl
                    refine one_ (i := 20) (N := some 107) (bz 22 2097151) rfl rfl (one_of HT_.out (by kernel_rfl)) (by decide) (fun K hK => ?_)
                    refine Kd.R_lit_step (Kd.int .u64) _ 27 ?hg (N := 107) ?hd (xs := ([t184, rd l1 0, rd l1 1, rd l1 2, t186, rd l1 4, rd l1 5, rd l1 6] : List Int)) (inner := [.int .u64 t184, .int .u64 (rd l1 0), .int .u64 (rd l1 1), .int .u64 (rd l1 2), .int .u64 t186, .int .u64 (rd l1 4), .int .u64 (rd l1 5), .int .u64 (rd l1 6)]) (ok := fun _ => True) (okp := fun _ => True) ?hr ?hp (fun _ hk => hk) trivial (Below.refl _ _) (Nat.le_refl _) (by simp) ?_; (case hd => rfl); (case hg => rfl); (case hr => first | (go_simp; done) | (go_simp; rfl)); (case hp => exact (Reps.one (show Kd.M (Kd.int .u64) _ _ _ t184 [.int .u64 t184] from rfl) (Reps.one (show Kd.M (Kd.int .u64) _ _ _ (rd l1 0) [.int .u64 (rd l1 0)] from rfl) (Reps.one (show Kd.M (Kd.int .u64) _ _ _ (rd l1 1) [.int .u64 (rd l1 1)] from rfl) (Reps.one (show Kd.M (Kd.int .u64) _ _ _ (rd l1 2) [.int .u64 (rd l1 2)] from rfl) (Reps.one (show Kd.M (Kd.int .u64) _ _ _ t186 [.int .u64 t186] from rfl) (Reps.one (show Kd.M (Kd.int .u64) _ _ _ (rd l1 4) [.int .u64 (rd l1 4)] from rfl) (Reps.one (show Kd.M (Kd.int .u64) _ _ _ (rd l1 5) [.int .u64 (rd l1 5)] from rfl) (Reps.one (show Kd.M (Kd.int .u64) _ _ _ (rd l1 6) [.int .u64 (rd l1 6)] from rfl) (Reps.none _ _))))))))))
                    intro v188 w50 ho51 hb hg_ hnew_
                    clear hg_ hnew_
                    (first | rw [← Ny187.out] at ho51 | (simp only [Int.reduceToNat] at ho51; rw [← Ny187.out] at ho51))
                    have n0_ := Aside0.mk (Kd.R_lower ho51 (below_size (by repeat (first | (with_reducible first | exact HB.out | apply below_alloc | apply pw_below_drewN | apply below_drew1 | refine below_set ?_ GE163.out) | exact HB.out))))
                    have n1_ := Aside0.mk (blk_below (g := gb163) (o := .cells #[.int .u64 a0_0, .int .u64 a0_1] 103 (0, 0)) (by (with_reducible repeat (first | refine blk_drewN ?_ _ | refine blk_drew ?_ | refine blk_alloc ?_ _)); exact BK163.out) hb)
                    have n2_ := Aside0.mk (below_step (by repeat (first | (with_reducible first | exact HB.out | apply below_alloc | apply pw_below_drewN | apply below_drew1 | refine below_set ?_ GE163.out) | exact HB.out)) hb)
                    clear BK163
                    clear HB
                    have HO189 := n0_
                    have BK163 := n1_
                    have HB := n2_
                    clear n0_ n1_ n2_
                    clear hb ho51
                    refine hK.out _ _ ⟨(blk_cell BK163.out 0).trans rfl, (blk_cell BK163.out 1).trans rfl, ((HB.out.cell (World.block_lt_of_cell? w _ hw185_0)).trans hw185_0)⟩ (fun hHeld => ?_)
                    clear hK K
                    refine norm_ (a' := ?_) ?_ ?_
                    rotate_left
                    · show Act.put _ (some 107) _ = _
                      simp only [Act.put, List.setIfInBounds_toArray, List.set_cons_zero, List.set_cons_succ, i64_w, i32_w]
                      rfl
                    refine xpz 21 (some 8) (bz 22 4194303) (any_of HT_.out (by kernel_rfl)) ?_
                    refine done_ (done_of HT_.out (by kernel_rfl)) ?_
                    try go_wp2
                    go_ret
                    exact ⟨_, by first | rfl | (simp [errW_none, errW_some] <;> rfl) | (simp [*, errW_none, errW_some] <;> rfl), by (with_reducible repeat (first | apply Kd.R_alloc | apply Kd.R_drewN | apply Kd.R_drew)); exact HO189.out, by repeat (first | (with_reducible first | exact HB.out | apply below_alloc | apply pw_below_drewN | apply below_drew1 | refine below_set ?_ GE163.out) | exact HB.out)⟩
                  · rw [if_neg c37] at H
                    exact absurd H (by simp)
                · rw [if_neg c35] at H
                  exact absurd H (by simp)
            · rw [if_neg c10] at H
              exact absurd H (by simp)
          · rw [if_neg c9] at H
            exact absurd H (by simp)
        · rw [if_neg c8] at H
          exact absurd H (by simp)
      · rw [if_neg c7] at H
        exact absurd H (by simp)
    · rw [if_neg c6] at H
      exact absurd H (by simp)
  · rw [if_neg c5] at H
    exact absurd H (by simp)

end Go.Proofs.YtmblnflfklmmkaaDoor.P
/- Contracts of package sha2: words. -/
namespace Go.Proofs.YtmblnflfklmmkaaDoor.Sh
open Go.Proofs.YtmblnflfklmmkaaDoor.Dk
open Go.RowKit Go.Proofs.YtmblnflfklmmkaaDoorW.PrintWords Go.Proofs.YtmblnflfklmmkaaDoorW.PrintLast Go.Proofs.YtmblnflfklmmkaaDoorW.PrintMore
set_option linter.unusedVariables false
set_option linter.unusedSimpArgs false
set_option maxRecDepth 30000
variable {w w1 w2 wr : World}
def z80 : Array Value := (nums .u32 (List.replicate 80 0)).toArray
theorem run_alloc141 (w : World) : (Instr.alloc 141 true (.tuple #[])).run Tryd.prog w = .ok (.pointer (some ⟨w.heap.size, 0, none⟩)) (w.alloc (.cells z80 141)) := by kernel_rfl
theorem info141 (x : List Int) (h : x.length = 80) : (Tryd.prog.info? 141).map (·.size) = some (nums .u32 x).toArray.size := by rw [List.size_toArray, nums_length, h]; kernel_rfl
/-- Bytes in memory. -/
def Bys (w : World) (g o : Nat) (b : List Int) : Prop := ∀ j, j < b.length → w.cell? ⟨g, o + j, none⟩ = some (.int .u8 (b.getD j 0))
theorem Bys.below {g o : Nat} {b : List Int} (h : Bys w g o b) (hg : g < w.heap.size) (hb : Below w.heap.size w w1) : Bys w1 g o b := fun j hj => (cell_block (hb.block g hg) (o + j)).trans (h j hj)
/-- One byte goes into a word. -/
def in1 (x c : Int) : Int := Go.bits .or .u32 (x * 256 % 4294967296) (c % 4294967296)
def inR (b : List Int) (t : Nat) (xs : List Int) : Nat → List Int
  | 0 => xs
  | j + 1 => (inR b t xs j).set t (in1 ((inR b t xs j).getD t 0) (b.getD (t * 4 + j) 0))
def wordsA (b : List Int) : Nat → List Int
  | 0 => List.replicate 80 0
  | t + 1 => inR b t (wordsA b t) 4
theorem inR_length (b : List Int) (t : Nat) (xs : List Int) : ∀ j, (inR b t xs j).length = xs.length
  | 0 => rfl
  | j + 1 => by rw [inR, List.length_set]; exact inR_length b t xs j
theorem wordsA_length (b : List Int) : ∀ t, (wordsA b t).length = 80
  | 0 => by simp [wordsA]
  | t + 1 => by rw [wordsA, inR_length]; exact wordsA_length b t
def mixW (x16 x15 x7 x2 : Int) : Int := IntKind.u32.wrap (IntKind.u32.wrap (IntKind.u32.wrap (x16 + smallM x15 7 18 3) + x7) + smallM x2 17 19 10)
def wordsB (b : List Int) : Nat → List Int
  | 0 => wordsA b 16
  | k + 1 => (wordsB b k).set (k + 16) (mixW ((wordsB b k).getD k 0) ((wordsB b k).getD (k + 1) 0) ((wordsB b k).getD (k + 9) 0) ((wordsB b k).getD (k + 14) 0))
theorem wordsB_length (b : List Int) : ∀ k, (wordsB b k).length = 80
  | 0 => wordsA_length b 16
  | k + 1 => by rw [wordsB, List.length_set]; exact wordsB_length b k
def wordsM (b : List Int) : List Int := wordsB b 48
theorem wordsM_length (b : List Int) : (wordsM b).length = 80 := wordsB_length b 48
def In3 (w w' : World) (xs : List Int) : Prop := w'.heap[w.heap.size]? = some (.cells narrowA 120 (0, 0)) ∧ w'.heap[w.heap.size + 1]? = some (.cells z80 141 (0, 0)) ∧ w'.heap[w.heap.size + 1 + 1]? = some (.cells (nums .u32 xs).toArray 141 (0, 0)) ∧ Below w.heap.size w w'
theorem In3.drew {xs : List Int} (h : In3 w w1 xs) : In3 w w1.drew xs := ⟨h.1, h.2.1, h.2.2.1, below_drew h.2.2.2⟩
theorem In3.set {xs : List Int} (h : In3 w w1 xs) (i : Nat) (v : Int) : In3 w (w1.setCell ⟨w.heap.size + 1 + 1, i, none⟩ (.int .u32 v)) (xs.set i v) := by
  refine ⟨put_other i _ (by omega) h.1, put_other i _ (by omega) h.2.1, ?_, below_put h.2.2.2 (by omega) i _⟩
  have h3 := put_cell h.2.2.1 i (.int .u32 v)
  rw [nums_set] at h3
  exact h3
theorem In3.below {xs : List Int} (h : In3 w w1 xs) (hb : Below w1.heap.size w1 w2) : In3 w w2 xs := ⟨blk_below h.1 hb, blk_below h.2.1 hb, blk_below h.2.2.1 hb, h.2.2.2.trans (hb.mono h.2.2.2.size)⟩
theorem In3.cell {xs : List Int} (h : In3 w w1 xs) {i : Nat} (hi : i < xs.length) : w1.cell? ⟨w.heap.size + 1 + 1, i, none⟩ = some (.int .u32 (xs.getD i 0)) := cell_nums h.2.2.1 hi
theorem In3.free {xs : List Int} (h : In3 w w1 xs) (i : Nat) : w1.frozen? ⟨w.heap.size + 1 + 1, i, none⟩ = false := free_row h.2.2.1 i
theorem In3.shape {xs : List Int} (h : In3 w w1 xs) (j : Nat) (v : Value) (hj : narrowA[j]? = some v) : w1.cell? ⟨w.heap.size, j, none⟩ = some v := cellB3 h.1 j v hj
set_option maxHeartbeats 8000000 in
theorem words_calls (g o c : Nat) (b : List Int) (h64 : b.length = 64) (hc : 64 ≤ c) (hC : Bys w g o b) (hgl : g < w.heap.size) : Calls Tryd.prog 99 #[.agg narrowA, .slice (some ⟨g, o, none⟩) 64 c] w fun e w' => e = .returned (.agg (nums .u32 (wordsM b)).toArray) ∧ Below w.heap.size w w' := by
  have HC := Aside0.mk hC
  have H64 := Aside0.mk h64
  have HGL := Aside0.mk hgl
  have HI := Aside0.mk (show In3 w (((w.alloc (.cells narrowA 120)).alloc (.cells z80 141)).alloc (.cells z80 141)) (wordsA b 0) from ⟨nth3_0 w _ _ _, nth3_1 w _ _ _, nth3_2 w _ _ _, below3 w _ _ _⟩)
  clear hC h64 hgl
  go_enter Tryd.func99, Tryd.ntmps99
  go_wp2_with (first | (refine wpList_alloc rfl rfl _ rfl z80 (run_alloc141 _) ?_))
  go_loopw [6, 8, 10] (fun v6 v8 v10 w' => ∃ t : Nat, v10 = .int .i64 t ∧ t ≤ 16 ∧ Aside0 (In3 w w' (wordsA b t))) (fun v6 v8 v10 _ => 16 - (intOf v10).toNat)
  case atStart => exact ⟨0, rfl, Nat.zero_le _, HI⟩
  case round =>
    clear HI
    obtain ⟨t, rfl, ht, HI⟩ := hrel
    by_cases hlt : t < 16
    · have hs0 := HI.out.shape 0 (.int .i64 4) rfl
      obtain ⟨wA, hwA⟩ : ∃ wA, wA = wr := ⟨_, rfl⟩
      subst hwA
      go_wp2
      clear hs0
      go_loopw [8, 25] (fun v8 v25 w' => ∃ j : Nat, v25 = .int .i64 j ∧ j ≤ 4 ∧ Aside0 (In3 w w' (inR b t (wordsA b t) j))) (fun v8 v25 _ => 4 - (intOf v25).toNat)
      case atStart => exact ⟨0, rfl, Nat.zero_le _, HI⟩
      case round =>
        clear HI
        obtain ⟨j, rfl, hj, HI⟩ := hrel
        by_cases hl4 : j < 4
        · obtain ⟨x, hx⟩ : ∃ x, (inR b t (wordsA b t) j).getD t 0 = x := ⟨_, rfl⟩
          obtain ⟨y, hy⟩ : ∃ y, b.getD (t * 4 + j) 0 = y := ⟨_, rfl⟩
          have hb0 : wr.cell? ⟨g, o + t * 4 + j, none⟩ = some (.int .u8 y) := by
            rw [← hy, Nat.add_assoc]
            exact (HC.out.below HGL.out HI.out.2.2.2) (t * 4 + j) (by have := H64.out; omega)
          have hc0 : wr.cell? ⟨w.heap.size + 1 + 1, t, none⟩ = some (.int .u32 x) := by
            rw [← hx]
            exact HI.out.cell (by rw [inR_length, wordsA_length]; omega)
          have hf0 := HI.out.free t
          have HN := Aside0.mk (show inR b t (wordsA b t) (j + 1) = (inR b t (wordsA b t) j).set t (in1 x y) by rw [inR, hx, hy])
          clear hx hy
          go_wp2
          go_roundw
          case rel => exact ⟨j + 1, by go_num, by omega, ⟨by rw [HN.out]; exact HI.out.set t _⟩⟩
          case measure => simp [intOf]; omega
        · have hj4 : (decide (j < (t + 1) * 4 - t * 4)) = false := by simp; omega
          obtain rfl : j = 4 := by omega
          go_wp2
          go_roundw
          case rel => exact ⟨t + 1, by go_num, by omega, HI⟩
          case measure => simp [intOf]; omega
    · obtain rfl : t = 16 := by omega
      go_wp2
      go_loopw [9] (fun v9 w' => ∃ k : Nat, v9 = .int .i64 (k + 16 : Nat) ∧ k ≤ 48 ∧ Aside0 (In3 w w' (wordsB b k))) (fun v9 _ => 64 - (intOf v9).toNat)
      case atStart => exact ⟨0, rfl, Nat.zero_le _, HI⟩
      case round =>
        clear HI
        obtain ⟨k, rfl, hk, HI⟩ := hrel
        obtain ⟨t, htk⟩ : ∃ t : Nat, t = k + 16 := ⟨_, rfl⟩
        by_cases hlt2 : k < 48
        · have hs2 := HI.out.shape 2 (.int .i64 64) rfl
          rw [← htk]
          have ht64 : t < 64 := by omega
          have HKT := Aside0.mk htk
          have hlk : k < 48 := hlt2
          obtain ⟨x0, hx0⟩ : ∃ x, (wordsB b k).getD k 0 = x := ⟨_, rfl⟩
          obtain ⟨x1, hx1⟩ : ∃ x, (wordsB b k).getD (k + 1) 0 = x := ⟨_, rfl⟩
          obtain ⟨x7, hx7⟩ : ∃ x, (wordsB b k).getD (k + 9) 0 = x := ⟨_, rfl⟩
          obtain ⟨x2, hx2⟩ : ∃ x, (wordsB b k).getD (k + 14) 0 = x := ⟨_, rfl⟩
          have HN := Aside0.mk (show wordsB b (k + 1) = (wordsB b k).set t (mixW x0 x1 x7 x2) by rw [wordsB, hx0, hx1, hx7, hx2, htk])
          have hl : (wordsB b k).length = 80 := wordsB_length b k
          obtain ⟨a1, ha1⟩ : ∃ a, a = k + 1 := ⟨_, rfl⟩
          obtain ⟨a7, ha7⟩ : ∃ a, a = k + 9 := ⟨_, rfl⟩
          obtain ⟨a2, ha2⟩ : ∃ a, a = k + 14 := ⟨_, rfl⟩
          have e0 : wrap64 ((t : Int) - 16) = k := by unfold wrap64; omega
          have e1 : wrap64 ((t : Int) - 15) = a1 := by unfold wrap64; omega
          have e7 : wrap64 ((t : Int) - 7) = a7 := by unfold wrap64; omega
          have e2 : wrap64 ((t : Int) - 2) = a2 := by unfold wrap64; omega
          have HD := Aside0.mk HI.out.drew
          have S0 := fun {W : World} (h : In3 w W (wordsB b k)) => (hx0 ▸ h.cell (i := k) (by omega) : W.cell? ⟨w.heap.size + 1 + 1, k, none⟩ = some (.int .u32 x0))
          have S1 := fun {W : World} (h : In3 w W (wordsB b k)) => (hx1 ▸ ha1 ▸ h.cell (i := k + 1) (by omega) : W.cell? ⟨w.heap.size + 1 + 1, a1, none⟩ = some (.int .u32 x1))
          have S7 := fun {W : World} (h : In3 w W (wordsB b k)) => (hx7 ▸ ha7 ▸ h.cell (i := k + 9) (by omega) : W.cell? ⟨w.heap.size + 1 + 1, a7, none⟩ = some (.int .u32 x7))
          have S2 := fun {W : World} (h : In3 w W (wordsB b k)) => (hx2 ▸ ha2 ▸ h.cell (i := k + 14) (by omega) : W.cell? ⟨w.heap.size + 1 + 1, a2, none⟩ = some (.int .u32 x2))
          have bt : ((t : Int) < 80) = True := eq_true (by omega)
          have b1 : ((a1 : Int) < 80) = True := eq_true (by omega)
          have b7 : ((a7 : Int) < 80) = True := eq_true (by omega)
          have b2 : ((a2 : Int) < 80) = True := eq_true (by omega)
          have b0 : ((k : Int) < 80) = True := eq_true (by omega)
          clear hx0 hx1 hx7 hx2 ha1 ha7 ha2 htk hl
          go_wp2
          refine start_ (n := 32) (S := fun w' => w'.cell? ⟨w.heap.size + 1 + 1, k, none⟩ = some (.int .u32 x0) ∧ w'.cell? ⟨w.heap.size + 1 + 1, a1, none⟩ = some (.int .u32 x1) ∧ w'.cell? ⟨w.heap.size + 1 + 1, a7, none⟩ = some (.int .u32 x7) ∧ w'.cell? ⟨w.heap.size + 1 + 1, a2, none⟩ = some (.int .u32 x2) ∧ w'.cell? ⟨w.heap.size, 1, none⟩ = some (.int .i64 32) ∧ w'.cell? ⟨w.heap.size, 3, none⟩ = some (.int .i64 7) ∧ w'.cell? ⟨w.heap.size, 4, none⟩ = some (.int .i64 18) ∧ w'.cell? ⟨w.heap.size, 5, none⟩ = some (.int .i64 3) ∧ w'.cell? ⟨w.heap.size, 6, none⟩ = some (.int .i64 17) ∧ w'.cell? ⟨w.heap.size, 7, none⟩ = some (.int .i64 19) ∧ w'.cell? ⟨w.heap.size, 8, none⟩ = some (.int .i64 10)) (ds := [31]) (bz 32 0) (by kernel_rfl) rfl rfl ⟨(S0 HD.out), (S1 HD.out), (S7 HD.out), (S2 HD.out), (HD.out.shape 1 _ rfl), (HD.out.shape 3 _ rfl), (HD.out.shape 4 _ rfl), (HD.out.shape 5 _ rfl), (HD.out.shape 6 _ rfl), (HD.out.shape 7 _ rfl), (HD.out.shape 8 _ rfl)⟩ (fun hHeld => ?_)
          refine pz 0 (some 46) (bz 32 1) ?_
          refine pz 1 (some 47) (bz 32 3) ?_
          refine pz 2 (some 48) (bz 32 7) ?_
          refine pz 3 (some 49) (bz 32 15) ?_
          refine pz 5 (some 51) (bz 32 47) ?_
          refine pz 6 (some 52) (bz 32 111) ?_
          refine pz 7 (some 53) (bz 32 239) ?_
          refine pz 9 (some 55) (bz 32 751) ?_
          refine pz 11 (some 57) (bz 32 2799) ?_
          refine pz 15 (some 61) (bz 32 35567) ?_
          refine pz 16 (some 62) (bz 32 101103) ?_
          refine pz 17 (some 63) (bz 32 232175) ?_
          refine pz 20 (some 66) (bz 32 1280751) ?_
          refine pz 21 (some 67) (bz 32 3377903) ?_
          refine pz 22 (some 68) (bz 32 7572207) ?_
          refine pz 24 (some 70) (bz 32 24349423) ?_
          refine pz 26 (some 72) (bz 32 91458287) ?_
          refine tz11 4 (some 50) (bz 32 91458303) hHeld ?_
          refine tz11 8 (some 54) (bz 32 91458559) hHeld ?_
          refine tz11 10 (some 56) (bz 32 91459583) hHeld ?_
          refine tz11 12 (some 58) (bz 32 91463679) hHeld ?_
          refine tz11 18 (some 64) (bz 32 91725823) hHeld ?_
          refine tz11 23 (some 69) (bz 32 100114431) hHeld ?_
          refine tz11 25 (some 71) (bz 32 133668863) hHeld ?_
          refine tz11 27 (some 73) (bz 32 267886591) hHeld ?_
          refine one_ (i := 13) (N := some 59) (bz 32 267894783) rfl rfl (by kernel_rfl) (by decide) (fun K hK => ?_)
          refine goes_ Tryd.func103 (by kernel_rfl) rfl #[.int .u32 x1, .agg #[.int .i64 7, .int .i64 18, .int .i64 3], .int .i64 32] (by rfl) rfl rfl (by simp only [List.map_toArray, List.map_cons, List.map_nil]; rfl) ?_
          with_reducible refine (small_calls x1 7 18 3 (by decide) (by decide) (by decide) (by decide) (by decide) (by decide) _).mono ?_
          rintro e w2 ⟨rfl, hd⟩
          refine ⟨_, rfl, ?_⟩
          have HI2 := Aside0.mk (HD.out.below hd)
          clear hd
          refine hK.out _ _ ⟨(S0 HI2.out), (S1 HI2.out), (S7 HI2.out), (S2 HI2.out), (HI2.out.shape 1 _ rfl), (HI2.out.shape 3 _ rfl), (HI2.out.shape 4 _ rfl), (HI2.out.shape 5 _ rfl), (HI2.out.shape 6 _ rfl), (HI2.out.shape 7 _ rfl), (HI2.out.shape 8 _ rfl)⟩ (fun hHeld => ?_)
          clear hK K
          refine norm_ (a' := ?_) ?_ ?_
          rotate_left
          · show Act.put _ (some 59) _ = _
            simp only [Act.put, List.setIfInBounds_toArray, List.set_cons_zero, List.set_cons_succ, i64_w, i32_w]
            rfl
          refine pz 14 (some 60) (bz 32 267911167) ?_
          refine pz 19 (some 65) (bz 32 268435455) ?_
          refine one_ (i := 28) (N := some 74) (bz 32 536870911) rfl rfl (by kernel_rfl) (by decide) (fun K hK => ?_)
          refine goes_ Tryd.func103 (by kernel_rfl) rfl #[.int .u32 x2, .agg #[.int .i64 17, .int .i64 19, .int .i64 10], .int .i64 32] (by rfl) rfl rfl (by simp only [List.map_toArray, List.map_cons, List.map_nil]; rfl) ?_
          with_reducible refine (small_calls x2 17 19 10 (by decide) (by decide) (by decide) (by decide) (by decide) (by decide) _).mono ?_
          rintro e w3 ⟨rfl, hd⟩
          refine ⟨_, rfl, ?_⟩
          have HI3 := Aside0.mk (HI2.out.below hd)
          have hf3 := HI3.out.free t
          have hc3 := HI3.out.cell (i := t) (by rw [wordsB_length]; omega)
          clear hd
          refine hK.out _ _ ⟨(S0 HI3.out), (S1 HI3.out), (S7 HI3.out), (S2 HI3.out), (HI3.out.shape 1 _ rfl), (HI3.out.shape 3 _ rfl), (HI3.out.shape 4 _ rfl), (HI3.out.shape 5 _ rfl), (HI3.out.shape 6 _ rfl), (HI3.out.shape 7 _ rfl), (HI3.out.shape 8 _ rfl)⟩ (fun hHeld => ?_)
          clear hK K
          refine norm_ (a' := ?_) ?_ ?_
          rotate_left
          · show Act.put _ (some 74) _ = _
            simp only [Act.put, List.setIfInBounds_toArray, List.set_cons_zero, List.set_cons_succ, i64_w, i32_w]
            rfl
          refine pz 29 (some 75) (bz 32 1073741823) ?_
          refine pz 30 (some 76) (bz 32 2147483647) ?_
          refine last_ (i := 31) (N := none) (bz 32 4294967295) rfl rfl (by kernel_rfl) (by decide) (fun K hK => ?_)
          refine skip_ (w1 := ?_) (by rfl) rfl ?_ ?_
          rotate_left
          · go_simp
            rfl
          refine hK.out _ _ ?_
          clear hK K
          refine done_ (by kernel_rfl) ?_
          clear hHeld
          go_wp2
          go_roundw
          case rel => exact ⟨k + 1, by have := HKT.out; subst this; go_num, by omega, ⟨by rw [HN.out]; exact HI3.out.set t _⟩⟩
          case measure => simp [intOf]; omega
        · obtain rfl : k = 48 := by omega
          have hs2 := HI.out.shape 2 (.int .i64 64) rfl
          have HL := Aside0.mk (run_loadAt_cells (P := Tryd.prog) (w := wr) 141 Tryd.underlying141 rfl (w.heap.size + 1 + 1) 0 (nums .u32 (wordsB b 48)) (by rw [nums_length, wordsB_length]; kernel_rfl) (fun j u hu => by rw [Nat.zero_add, cell_of_row _ _ j _ _ _ HI.out.2.2.1]; simpa using hu))
          have HST := Aside0.mk (run_store_block (P := Tryd.prog) (w.heap.size + 1) 141 z80 (nums .u32 (wordsB b 48)).toArray 141 HI.out.2.1 (info141 _ (wordsB_length _ _)) (by simp [z80, nums_length, wordsB_length]) (by simp [nums, List.all_eq_true]; intros; rfl))
          clear htk
          go_wp2_with (first | (refine load_at (ty := 141) (.tmp 5) rfl rfl HL.out rfl ?_) | (refine store_at (ty := 141) (.tmp 4) (.tmp 77) rfl rfl rfl HST.out rfl rfl ?_))
          refine bodyPost_ret (results_cell_row rfl _ _ _ _ (nums .u32 (wordsB b 48)).toArray _ _ rfl (setRow_heap _ _ _ _ _ _ HI.out.2.1) Tryd.underlying141 rfl (info141 _ (wordsB_length _ _))) rfl ?_
          exact ⟨rfl, below_row HI.out.2.2.2 (by omega) _⟩

end Go.Proofs.YtmblnflfklmmkaaDoor.Sh
/- Steps of a walk by hand: each is tried under reducible transparency alone, so that it fails at once where it does not fit. -/
namespace Go.Proofs.YtmblnflfklmmkaaDoor.Dk
open Go.RowKit Go.Proofs.YtmblnflfklmmkaaDoorW.PrintWords Go.Proofs.YtmblnflfklmmkaaDoorW.PrintLast Go.Proofs.YtmblnflfklmmkaaDoorW.PrintMore
set_option linter.unusedVariables false
section
variable {P : Program} {ops : Array Oper} {o : Oper} {rest : List Oper} {a : Act} {w w1 : World} {Q : Exit → Act → World → Prop}
theorem alloc_at {e : TypeId} {cs : Array Value} (hg : o.guard = none) (ho : o.op = .alloc e) (hrun : (Instr.alloc e true (.tuple #[])).run P w = .ok (.pointer (some ⟨w.heap.size, 0, none⟩)) (w.alloc (.cells cs e)))
    (h : wpList P ops Q rest (a.put o.dst (.pointer (some ⟨w.heap.size, 0, none⟩))) (w.alloc (.cells cs e))) : wpList P ops Q (o :: rest) a w := wpList_alloc hg ho _ rfl cs hrun h
theorem build_at {t : TypeId} {parts : Array (Nat × Operand)} {args : Array (Nat × Value)} {v : Value} (hg : o.guard = none) (ho : o.op = .build t parts) (hrun : ∀ w, (Instr.build t args).run P w = .ok v w) (he : parts.map (fun x => (x.1, a.eval x.2)) = args)
    (h : wpList P ops Q rest (a.put o.dst v) w) : wpList P ops Q (o :: rest) a w := by
  refine wpList_plain hg fun K hK => ?_
  have he : (execOp a.eval o).run P w = .ok (.value v) w := by
    subst he
    unfold execOp
    simp [ho, hrun]
  unfold Oper.wp
  rw [he, Oper.upon_value]
  exact hK _ _ h
theorem copy_at {s x : Operand} {t t' : TypeId} {vs vx v : Value} (hg : o.guard = none) (ho : o.op = .call { callee := .builtin .copy, args := #[s, x], argTypes := #[t, t'] }) (hr : ∀ ty, (Builtin.copy_ #[t, t'] ty #[vs, vx]).run P w = .ok v w1) (hs : a.eval s = vs) (hx : a.eval x = vx)
    (h : wpList P ops Q rest (a.put o.dst v) w1) : wpList P ops Q (o :: rest) a w := by
  refine wpList_plain hg fun K hK => ?_
  unfold Oper.wp execOp
  simp only [ho, resolve, invoke, builtin, Sem.run_bind, Sem.run_pure, Result.andThen_ok, List.map_toArray, List.map_cons, List.map_nil, hs, hx, hr]
  exact hK _ _ h
theorem make_at {t : TypeId} {x y : Operand} {n c v : Value} (hg : o.guard = none) (ho : o.op = .makeSlice t x y) (hrun : (Instr.makeSlice t n c).run P w = .ok v w1) (hx : a.eval x = n) (hy : a.eval y = c)
    (h : wpList P ops Q rest (a.put o.dst v) w1) : wpList P ops Q (o :: rest) a w := by
  refine wpList_plain hg fun K hK => ?_
  have he : (execOp a.eval o).run P w = .ok (.value v) w1 := by
    subst hx
    subst hy
    unfold execOp
    simp [ho, hrun]
  unfold Oper.wp
  rw [he, Oper.upon_value]
  exact hK _ _ h
theorem index_at {t : TypeId} {x y : Operand} {p n v : Value} (hg : o.guard = none) (ho : o.op = .index t x y) (hrun : (Instr.index t p n).run P w = .ok v w) (hx : a.eval x = p) (hy : a.eval y = n)
    (h : wpList P ops Q rest (a.put o.dst v) w) : wpList P ops Q (o :: rest) a w := by
  refine wpList_plain hg fun K hK => ?_
  have he : (execOp a.eval o).run P w = .ok (.value v) w := by
    subst hx
    subst hy
    unfold execOp
    simp [ho, hrun]
  unfold Oper.wp
  rw [he, Oper.upon_value]
  exact hK _ _ h
end
theorem exec_make {P : Program} {ρ : Operand → Value} {o : Oper} {t : TypeId} {x y : Operand} {n c v : Value} {w w1 : World} (ho : o.op = .makeSlice t x y) (hx : ρ x = n) (hy : ρ y = c) (hrun : (Instr.makeSlice t n c).run P w = .ok v w1) : (execOp ρ o).run P w = .ok (.value v) w1 := by
  subst hx; subst hy
  unfold execOp
  simp [ho, hrun]
/-- An element of an array by value. -/
theorem run_index_row {P : Program} (w : World) (t e : TypeId) (k : IntKind) (n : Nat) (cs : Array Value) (i : Nat) (v : Value) (h : P.underlying t = some (.array n e)) (he : P.underlying e = some (.int k)) (hi : i < n) (hc : cs[i]? = some v) (hs : (P.info? e).map (·.size) = some 1) : (Instr.index t (.agg cs) (.int .i64 i)).run P w = .ok v w := by
  have hn : (0 ≤ (i : Int) ∧ (i : Int) < (n : Int)) := by omega
  obtain ⟨ie, hie, hs1⟩ := Option.map_eq_some_iff.1 hs
  have ha : (isAgg e).run P w = .ok false w := by
    unfold isAgg
    simp [run_underlying he]
  have hz : (sizeOf e).run P w = .ok 1 w := by simp [sizeOf, typeInfo, hie, hs1]
  simp [Instr.index, run_underlying h, asIntOf, hn, go_sem, ha, hz, hc, hi]
end Go.Proofs.YtmblnflfklmmkaaDoor.Dk
/- Contracts of package sha2: mix. -/
namespace Go.Proofs.YtmblnflfklmmkaaDoor.Sh
open Go.Proofs.YtmblnflfklmmkaaDoor.Dk
open Go.RowKit Go.Proofs.YtmblnflfklmmkaaDoorW.PrintWords Go.Proofs.YtmblnflfklmmkaaDoorW.PrintLast Go.Proofs.YtmblnflfklmmkaaDoorW.PrintMore
set_option linter.unusedVariables false
set_option linter.unusedSimpArgs false
set_option maxRecDepth 30000
variable {w w1 w2 wr : World}
structure Mx (w w' : World) (b : Nat) (hs ws vs : List Int) : Prop where
  bs : w'.heap[w.heap.size]? = some (.cells narrowA 120 (0, 0))
  bh : w'.heap[w.heap.size + 1]? = some (.cells (nums .u32 hs).toArray 124 (0, 0))
  br : w'.heap[w.heap.size + 1 + 1]? = some (.cells (z8 .u32) 124 (0, 0))
  bw : w'.heap[b]? = some (.cells (nums .u32 ws).toArray 141 (0, 0))
  bv : w'.heap[b + 1]? = some (.cells (nums .u32 vs).toArray 124 (0, 0))
  lt : w.heap.size + 1 + 1 < b
  bb : Below w.heap.size w w'
variable {b : Nat} {hs ws vs : List Int}
theorem Mx.drew (h : Mx w w1 b hs ws vs) : Mx w w1.drew b hs ws vs := ⟨h.bs, h.bh, h.br, h.bw, h.bv, h.lt, below_drew h.bb⟩
theorem Mx.below (h : Mx w w1 b hs ws vs) (hb : Below w1.heap.size w1 w2) : Mx w w2 b hs ws vs := ⟨blk_below h.bs hb, blk_below h.bh hb, blk_below h.br hb, blk_below h.bw hb, blk_below h.bv hb, h.lt, h.bb.trans (hb.mono h.bb.size)⟩
theorem Mx.cv (h : Mx w w1 b hs ws vs) {i : Nat} (hi : i < vs.length) : w1.cell? ⟨b + 1, i, none⟩ = some (.int .u32 (vs.getD i 0)) := cell_nums h.bv hi
theorem Mx.cw (h : Mx w w1 b hs ws vs) {i : Nat} (hi : i < ws.length) : w1.cell? ⟨b, i, none⟩ = some (.int .u32 (ws.getD i 0)) := cell_nums h.bw hi
theorem Mx.ch (h : Mx w w1 b hs ws vs) {i : Nat} (hi : i < hs.length) : w1.cell? ⟨w.heap.size + 1, i, none⟩ = some (.int .u32 (hs.getD i 0)) := cell_nums h.bh hi
theorem Mx.shape (h : Mx w w1 b hs ws vs) (j : Nat) (v : Value) (hj : narrowA[j]? = some v) : w1.cell? ⟨w.heap.size, j, none⟩ = some v := cellB3 h.bs j v hj
theorem Mx.setV (h : Mx w w1 b hs ws vs) (us : List Int) : Mx w (w1.setRow (b + 1) (nums .u32 us).toArray) b hs ws us := by
  have hl := h.lt
  have hn := blk_lt h.bv
  have o : ∀ k {o : Obj}, k ≠ b + 1 → w1.heap[k]? = some o → (w1.setRow (b + 1) (nums .u32 us).toArray).heap[k]? = some o := fun k o hk hh => (setRow_other _ _ _ _ hk).trans hh
  exact ⟨o _ (by omega) h.bs, o _ (by omega) h.bh, o _ (by omega) h.br, o _ (by omega) h.bw, setRow_heap _ _ _ _ _ _ h.bv, h.lt, below_row h.bb (by omega) _⟩
theorem Mx.setH (h : Mx w w1 b hs ws vs) (i : Nat) (u : Int) : Mx w (w1.setCell ⟨w.heap.size + 1, i, none⟩ (.int .u32 u)) b (hs.set i u) ws vs := by
  have hl := h.lt
  refine ⟨put_other i _ (by omega) h.bs, ?_, put_other i _ (by omega) h.br, put_other i _ (by omega) h.bw, put_other i _ (by omega) h.bv, h.lt, below_put h.bb (by omega) i _⟩
  have h3 := put_cell h.bh i (.int .u32 u)
  rw [nums_set] at h3
  exact h3
def rX (v7 e v5 v6 k x : Int) : Int := IntKind.u32.wrap (IntKind.u32.wrap (IntKind.u32.wrap (IntKind.u32.wrap (v7 + bigM e 6 11 25) + Go.bits .xor .u32 (Go.bits .and .u32 e v5) (Go.bits .and .u32 (Go.bits .xor .u32 4294967295 e) v6)) + k) + x)
def rY (a v1 v2 : Int) : Int := IntKind.u32.wrap (bigM a 2 13 22 + Go.bits .xor .u32 (Go.bits .xor .u32 (Go.bits .and .u32 a v1) (Go.bits .and .u32 a v2)) (Go.bits .and .u32 v1 v2))
def roundM (v : List Int) (k x : Int) : List Int :=
  [(rX (v.getD 7 0) (v.getD 4 0) (v.getD 5 0) (v.getD 6 0) k x + rY (v.getD 0 0) (v.getD 1 0) (v.getD 2 0)) % 4294967296, v.getD 0 0, v.getD 1 0, v.getD 2 0, (v.getD 3 0 + rX (v.getD 7 0) (v.getD 4 0) (v.getD 5 0) (v.getD 6 0) k x) % 4294967296, v.getD 4 0, v.getD 5 0, v.getD 6 0]
def kM (t : Nat) : Int := IntKind.u32.wrap (constsL.getD t 0 / 4294967296)
def roundsM (h ws : List Int) : Nat → List Int
  | 0 => h
  | t + 1 => roundM (roundsM h ws t) (kM t) (ws.getD t 0)
theorem roundsM_length {h ws : List Int} (hh : h.length = 8) : ∀ t, (roundsM h ws t).length = 8
  | 0 => hh
  | t + 1 => rfl
theorem mx_start {wa w1 : World} (h0 : wa.heap[w.heap.size]? = some (.cells narrowA 120 (0, 0))) (h1 : wa.heap[w.heap.size + 1]? = some (.cells (nums .u32 hs).toArray 124 (0, 0))) (h2 : wa.heap[w.heap.size + 1 + 1]? = some (.cells (z8 .u32) 124 (0, 0))) (hb : Below w.heap.size w wa) (hl : w.heap.size + 1 + 1 < wa.heap.size) (hb1 : Below wa.heap.size wa w1) :
    Mx w ((w1.alloc (.cells (nums .u32 ws).toArray 141)).alloc (.cells (nums .u32 hs).toArray 124)) w1.heap.size hs ws (roundsM hs ws 0) := by
  have b2 : Below w1.heap.size w1 ((w1.alloc (.cells (nums .u32 ws).toArray 141)).alloc (.cells (nums .u32 hs).toArray 124)) := below_alloc (below_alloc (Below.refl _ _) _) _
  have b3 := hb1.trans (b2.mono hb1.size)
  exact ⟨blk_below h0 b3, blk_below h1 b3, blk_below h2 b3, blk_below (heap_alloc_new w1 _) (below_alloc (Below.refl _ _) _), nth2_1 w1 _ _, Nat.lt_of_lt_of_le hl hb1.size, hb.trans (b3.mono hb.size)⟩
theorem u32_one (x : List Int) : ((nums .u32 x).toArray : Array Value).all (·.oneCell') = true := by
  simp [nums, List.all_eq_true]
  intro a _
  rfl
def addR (h v : List Int) : Nat → List Int
  | 0 => h
  | i + 1 => (addR h v i).set i (IntKind.u32.wrap ((addR h v i).getD i 0 + v.getD i 0))
theorem addR_length (h v : List Int) : ∀ i, (addR h v i).length = h.length
  | 0 => rfl
  | i + 1 => by rw [addR, List.length_set]; exact addR_length h v i
def mixM (h b : List Int) : List Int := addR h (roundsM h (wordsM b) 64) 8
theorem mixM_length {h b : List Int} (hh : h.length = 8) : (mixM h b).length = 8 := by rw [mixM, addR_length, hh]
attribute [local irreducible] bigM
attribute [irreducible] kM

set_option maxHeartbeats 16000000 in
theorem mix_calls (hg : Glob w) (g o c : Nat) (x hv : List Int) (h64 : x.length = 64) (h8 : hv.length = 8) (hc : 64 ≤ c) (hC : Bys w g o x) (hgl : g < w.heap.size) : Calls Tryd.prog 93 #[.agg narrowA, .agg (nums .u32 hv).toArray, .slice (some ⟨g, o, none⟩) 64 c] w fun e w' => e = .returned (.agg (nums .u32 (mixM hv x)).toArray) ∧ Below w.heap.size w w' := by
  have HG := Aside0.mk hg
  have H8 := Aside0.mk h8
  obtain ⟨wa, hwa⟩ : ∃ wa, wa = ((w.alloc (.cells narrowA 120)).alloc (.cells (nums .u32 hv).toArray 124)).alloc (.cells (z8 .u32) 124) := ⟨_, rfl⟩
  have HA0 := Aside0.mk (show wa.heap[w.heap.size]? = some (.cells narrowA 120 (0, 0)) from hwa ▸ nth3_0 w _ _ _)
  have HA1 := Aside0.mk (show wa.heap[w.heap.size + 1]? = some (.cells (nums .u32 hv).toArray 124 (0, 0)) from hwa ▸ nth3_1 w _ _ _)
  have HA2 := Aside0.mk (show wa.heap[w.heap.size + 1 + 1]? = some (.cells (z8 .u32) 124 (0, 0)) from hwa ▸ nth3_2 w _ _ _)
  have HAB := Aside0.mk (show Below w.heap.size w wa from hwa ▸ below3 w _ _ _)
  have HAS := Aside0.mk (show w.heap.size + 1 + 1 < wa.heap.size from blk_lt HA2.out)
  have HLA := Aside0.mk (show (Instr.loadAt 120 (.pointer (some ⟨w.heap.size, 0, none⟩))).run Tryd.prog wa = .ok (.agg narrowA) wa from run_loadAt_cells (P := Tryd.prog) (w := wa) 120 Tryd.underlying120 rfl w.heap.size 0 narrowA.toList info120 (fun j u hu => by rw [Nat.zero_add, cell_of_row _ _ j _ _ _ HA0.out]; simpa using hu))
  have HWC := Aside0.mk (words_calls (w := wa) g o c x h64 hc (hC.below hgl HAB.out) (Nat.lt_of_lt_of_le hgl HAB.out.size))
  have hl80 := wordsM_length x
  have HL80 := Aside0.mk hl80
  obtain ⟨ws, hws⟩ : ∃ ws, wordsM x = ws := ⟨_, rfl⟩
  have HWS := Lib.hid hws
  rw [hws] at HWC hl80 HL80
  have HS7 := Aside0.mk (fun w1 : World => run_storeAt_new (P := Tryd.prog) w1 141 z80 (nums .u32 ws).toArray (info141 _ hl80) (by simp [z80, nums_length, hl80]) (by simp [nums, List.all_eq_true]; intros; rfl))
  have HS8 := Aside0.mk (fun w1 : World => run_storeAt_new (P := Tryd.prog) w1 124 (z8 .u32) (nums .u32 hv).toArray (info124 _ h8) (by simp [z8, nums_length, h8]) (by simp [nums, List.all_eq_true]; intros; rfl))
  have HL8 := Aside0.mk (fun (w1 : World) (h : w1.heap[w.heap.size + 1]? = some (.cells (nums .u32 hv).toArray 124 (0, 0))) => run_loadAt_cells (P := Tryd.prog) (w := w1) 124 Tryd.underlying124 rfl (w.heap.size + 1) 0 (nums .u32 hv) (by rw [nums_length, h8]; kernel_rfl) (fun j u hu => by rw [Nat.zero_add, cell_of_row _ _ j _ _ _ h]; simpa using hu))
  subst hwa
  clear hg h8 h64 hc hC hgl hws hl80
  go_enter Tryd.func93, Tryd.ntmps93
  go_wp2_with (first | ((with_reducible refine alloc_at (e := 124) ?_ ?_ (run_alloc124 _) ?_); exact rfl; exact rfl) | ((with_reducible refine alloc_at (e := 141) ?_ ?_ (run_alloc141 _) ?_); exact rfl; exact rfl) | ((with_reducible refine load_at (ty := 120) (.tmp 3) ?_ ?_ HLA.out ?_ ?_); exact rfl; exact rfl; exact rfl) | (go_at_call 99; (with_reducible refine HWC.out.mono ?_); rintro e w1 ⟨rfl, hb1⟩; have HL8 := Aside0.mk (HL8.out (w1.alloc (.cells (nums .u32 ws).toArray 141)) (blk_below (blk_below HA1.out hb1) (below_alloc (Below.refl _ _) _))); have HM := Aside0.mk (mx_start (ws := ws) HA0.out HA1.out HA2.out HAB.out HAS.out hb1); clear hb1) | ((with_reducible refine store_at (ty := 141) (.tmp 7) (.tmp 17) ?_ ?_ ?_ (HS7.out _) ?_ ?_ ?_); exact rfl; exact rfl; exact rfl; exact rfl; exact rfl) | ((with_reducible refine load_at (ty := 124) (.tmp 4) ?_ ?_ HL8.out ?_ ?_); exact rfl; exact rfl; exact rfl) | ((with_reducible refine store_at (ty := 124) (.tmp 8) (.tmp 18) ?_ ?_ ?_ (HS8.out _) ?_ ?_ ?_); exact rfl; exact rfl; exact rfl; exact rfl; exact rfl; generalize ((w1.alloc (.cells (nums .u32 ws).toArray 141)).alloc (.cells (nums .u32 hv).toArray 124)) = wS at HM ⊢; have hs2 := HM.out.shape 2 (.int .i64 64) rfl))
  clear HA0 HA1 HA2 HAB HAS HWC HLA HL8 HS7 HS8 hs2
  obtain ⟨b, hb⟩ : ∃ b, b = w1.heap.size := ⟨_, rfl⟩
  rw [← hb] at HM ⊢
  clear hb
  go_loopw [9, 10, 11, 12, 13, 21] (fun v9 v10 v11 v12 v13 v21 w' => ∃ t : Nat, v21 = .int .i64 t ∧ t ≤ 64 ∧ Aside0 (Mx w w' b hv ws (roundsM hv ws t))) (fun v9 v10 v11 v12 v13 v21 _ => 64 - (intOf v21).toNat)
  case atStart => exact ⟨0, rfl, Nat.zero_le _, HM⟩
  case round =>
    clear HM
    obtain ⟨t, rfl, ht, HM⟩ := hrel
    by_cases hlt : t < 64
    · have hq : decide ((t : Int) < 64) = true := decide_eq_true (by omega)
      have HD6 := Aside0.mk HM.out.drew
      obtain ⟨vs, hvs⟩ : ∃ vs, roundsM hv ws t = vs := ⟨_, rfl⟩
      have HVL := Aside0.mk (show vs.length = 8 from hvs ▸ roundsM_length H8.out t)
      have HVS := Lib.hid hvs
      rw [hvs] at HM HD6
      obtain ⟨x, hx⟩ : ∃ x, ws.getD t 0 = x := ⟨_, rfl⟩
      obtain ⟨c, hc⟩ : ∃ c, constsL.getD t 0 = c := ⟨_, rfl⟩
      obtain ⟨v0, hv0⟩ : ∃ v, vs.getD 0 0 = v := ⟨_, rfl⟩
      obtain ⟨v1, hv1⟩ : ∃ v, vs.getD 1 0 = v := ⟨_, rfl⟩
      obtain ⟨v2, hv2⟩ : ∃ v, vs.getD 2 0 = v := ⟨_, rfl⟩
      obtain ⟨v3, hv3⟩ : ∃ v, vs.getD 3 0 = v := ⟨_, rfl⟩
      obtain ⟨v4, hv4⟩ : ∃ v, vs.getD 4 0 = v := ⟨_, rfl⟩
      obtain ⟨v5, hv5⟩ : ∃ v, vs.getD 5 0 = v := ⟨_, rfl⟩
      obtain ⟨v6, hv6⟩ : ∃ v, vs.getD 6 0 = v := ⟨_, rfl⟩
      obtain ⟨v7, hv7⟩ : ∃ v, vs.getD 7 0 = v := ⟨_, rfl⟩
      have HN := Aside0.mk (show roundsM hv ws (t + 1) = [(rX v7 v4 v5 v6 (IntKind.u32.wrap (c / 4294967296)) x + rY v0 v1 v2) % 4294967296, v0, v1, v2, (v3 + rX v7 v4 v5 v6 (IntKind.u32.wrap (c / 4294967296)) x) % 4294967296, v4, v5, v6] from by rw [roundsM, hvs, hx, kM, hc, roundM, hv0, hv1, hv2, hv3, hv4, hv5, hv6, hv7])
      have S0 := Aside0.mk (fun (W : World) (h : Mx w W b hv ws vs) => (hv0 ▸ h.cv (i := 0) (by rw [HVL.out]; decide) : W.cell? ⟨b + 1, 0, none⟩ = some (.int .u32 v0)))
      have S1 := Aside0.mk (fun (W : World) (h : Mx w W b hv ws vs) => (hv1 ▸ h.cv (i := 1) (by rw [HVL.out]; decide) : W.cell? ⟨b + 1, 1, none⟩ = some (.int .u32 v1)))
      have S2 := Aside0.mk (fun (W : World) (h : Mx w W b hv ws vs) => (hv2 ▸ h.cv (i := 2) (by rw [HVL.out]; decide) : W.cell? ⟨b + 1, 2, none⟩ = some (.int .u32 v2)))
      have S3 := Aside0.mk (fun (W : World) (h : Mx w W b hv ws vs) => (hv3 ▸ h.cv (i := 3) (by rw [HVL.out]; decide) : W.cell? ⟨b + 1, 3, none⟩ = some (.int .u32 v3)))
      have S4 := Aside0.mk (fun (W : World) (h : Mx w W b hv ws vs) => (hv4 ▸ h.cv (i := 4) (by rw [HVL.out]; decide) : W.cell? ⟨b + 1, 4, none⟩ = some (.int .u32 v4)))
      have S5 := Aside0.mk (fun (W : World) (h : Mx w W b hv ws vs) => (hv5 ▸ h.cv (i := 5) (by rw [HVL.out]; decide) : W.cell? ⟨b + 1, 5, none⟩ = some (.int .u32 v5)))
      have S6 := Aside0.mk (fun (W : World) (h : Mx w W b hv ws vs) => (hv6 ▸ h.cv (i := 6) (by rw [HVL.out]; decide) : W.cell? ⟨b + 1, 6, none⟩ = some (.int .u32 v6)))
      have S7 := Aside0.mk (fun (W : World) (h : Mx w W b hv ws vs) => (hv7 ▸ h.cv (i := 7) (by rw [HVL.out]; decide) : W.cell? ⟨b + 1, 7, none⟩ = some (.int .u32 v7)))
      have SW := Aside0.mk (fun (W : World) (h : Mx w W b hv ws vs) => (hx ▸ h.cw (i := t) (by rw [HL80.out]; omega) : W.cell? ⟨b, t, none⟩ = some (.int .u32 x)))
      have SC := Aside0.mk (fun (W : World) (h : Mx w W b hv ws vs) => (hc ▸ (HG.out.below h.bb).c t (by omega) : W.cell? ⟨1, t, none⟩ = some (.int .u64 c)))
      clear hvs hx hc hv0 hv1 hv2 hv3 hv4 hv5 hv6 hv7
      repeat (first | go_step | go_guarded | go_upon)
      refine start_ (n := 6) (S := fun w' => w'.cell? ⟨b + 1, 0, none⟩ = some (.int .u32 v0) ∧ w'.cell? ⟨b + 1, 4, none⟩ = some (.int .u32 v4)) (ds := []) (bz 6 0) (by kernel_rfl) rfl rfl ⟨(S0.out _ HD6.out), (S4.out _ HD6.out)⟩ (fun hHeld => ?_)
      refine pz 0 (some 24) (bz 6 1) ?_
      refine pz 2 (some 26) (bz 6 5) ?_
      refine tz2 1 (some 25) (bz 6 7) hHeld ?_
      refine pz 4 (some 10) (bz 6 23) ?_
      refine tz2 3 (some 27) (bz 6 31) hHeld ?_
      refine pz 5 (some 11) (bz 6 63) ?_
      refine done_ (by kernel_rfl) ?_
      clear hHeld
      have HD7 := Aside0.mk HD6.out.drew
      have bt : ((t : Int) < 80) = True := eq_true (by omega)
      have hw32 : wrap64 32 = 32 := by simp [wrap64]
      repeat (first | go_step | go_guarded | go_upon)
      refine start_ (n := 34) (S := fun w' => w'.cell? ⟨b + 1, 5, none⟩ = some (.int .u32 v5) ∧ w'.cell? ⟨b + 1, 6, none⟩ = some (.int .u32 v6) ∧ w'.cell? ⟨b + 1, 7, none⟩ = some (.int .u32 v7) ∧ w'.cell? ⟨b, t, none⟩ = some (.int .u32 x) ∧ w'.cell? ⟨1, t, none⟩ = some (.int .u64 c) ∧ w'.cell? ⟨w.heap.size, 1, none⟩ = some (.int .i64 32) ∧ w'.cell? ⟨w.heap.size, 12, none⟩ = some (.int .i64 6) ∧ w'.cell? ⟨w.heap.size, 13, none⟩ = some (.int .i64 11) ∧ w'.cell? ⟨w.heap.size, 14, none⟩ = some (.int .i64 25)) (ds := []) (bz 34 0) (by kernel_rfl) rfl rfl ⟨(S5.out _ HD7.out), (S6.out _ HD7.out), (S7.out _ HD7.out), (SW.out _ HD7.out), (SC.out _ HD7.out), (HD7.out.shape 1 _ rfl), (HD7.out.shape 12 _ rfl), (HD7.out.shape 13 _ rfl), (HD7.out.shape 14 _ rfl)⟩ (fun hHeld => ?_)
      refine pz 0 (some 28) (bz 34 1) ?_
      refine pz 2 (some 30) (bz 34 5) ?_
      refine pz 3 (some 31) (bz 34 13) ?_
      refine pz 5 (some 33) (bz 34 45) ?_
      refine pz 9 (some 37) (bz 34 557) ?_
      refine pz 10 (some 38) (bz 34 1581) ?_
      refine pz 13 (some 41) (bz 34 9773) ?_
      refine pz 14 (some 42) (bz 34 26157) ?_
      refine pz 15 (some 43) (bz 34 58925) ?_
      refine pz 20 (some 48) (bz 34 1107501) ?_
      refine pz 21 (some 49) (bz 34 3204653) ?_
      refine pz 23 (some 51) (bz 34 11593261) ?_
      refine pz 29 (some 57) (bz 34 548464173) ?_
      refine pz 30 (some 58) (bz 34 1622205997) ?_
      refine tz9 1 (some 29) (bz 34 1622205999) hHeld ?_
      refine tz9 4 (some 32) (bz 34 1622206015) hHeld ?_
      refine tz9 6 (some 34) (bz 34 1622206079) hHeld ?_
      refine tz9 11 (some 39) (bz 34 1622208127) hHeld ?_
      refine pz 12 (some 40) (bz 34 1622212223) ?_
      refine tz9 16 (some 44) (bz 34 1622277759) hHeld ?_
      refine pz 17 (some 45) (bz 34 1622408831) ?_
      refine pz 18 (some 46) (bz 34 1622670975) ?_
      refine tz9 22 (some 50) (bz 34 1626865279) hHeld ?_
      refine tz9 24 (some 52) (bz 34 1643642495) hHeld ?_
      refine pz 25 (some 53) (bz 34 1677196927) ?_
      refine pz 26 (some 54) (bz 34 1744305791) ?_
      refine pz 27 (some 55) (bz 34 1878523519) ?_
      refine tz9 31 (some 59) (bz 34 4026007167) hHeld ?_
      refine one_ (i := 7) (N := some 35) (bz 34 4026007295) rfl rfl (by kernel_rfl) (by decide) (fun K hK => ?_)
      refine goes_ Tryd.func100 (by kernel_rfl) rfl #[.int .u32 v4, .agg #[.int .i64 6, .int .i64 11, .int .i64 25], .int .i64 32] (by rfl) rfl rfl (by simp only [List.map_toArray, List.map_cons, List.map_nil]; rfl) ?_
      with_reducible refine (big_calls v4 6 11 25 (by decide) (by decide) (by decide) (by decide) (by decide) (by decide) _).mono ?_
      rintro e w7 ⟨rfl, hd⟩
      refine ⟨_, rfl, ?_⟩
      have HI7 := Aside0.mk (HD7.out.below hd)
      clear hd
      refine hK.out _ _ ⟨(S5.out _ HI7.out), (S6.out _ HI7.out), (S7.out _ HI7.out), (SW.out _ HI7.out), (SC.out _ HI7.out), (HI7.out.shape 1 _ rfl), (HI7.out.shape 12 _ rfl), (HI7.out.shape 13 _ rfl), (HI7.out.shape 14 _ rfl)⟩ (fun hHeld => ?_)
      clear hK K
      refine norm_ (a' := ?_) ?_ ?_
      rotate_left
      · show Act.put _ (some 35) _ = _
        simp only [Act.put, List.setIfInBounds_toArray, List.set_cons_zero, List.set_cons_succ, i64_w, i32_w]
        rfl
      refine pz 8 (some 36) (bz 34 4026007551) ?_
      refine pz 19 (some 47) (bz 34 4026531839) ?_
      refine pz 28 (some 56) (bz 34 4294967295) ?_
      refine pz 32 (some 60) (bz 34 8589934591) ?_
      refine pz 33 (some 12) (bz 34 17179869183) ?_
      refine done_ (by kernel_rfl) ?_
      clear hHeld
      generalize hX : IntKind.u32.wrap (IntKind.u32.wrap (IntKind.u32.wrap (IntKind.u32.wrap (v7 + bigM v4 6 11 25) + Go.bits .xor .u32 (Go.bits .and .u32 v4 v5) (Go.bits .and .u32 (Go.bits .xor .u32 (if IntKind.u32.signed = true then -1 else IntKind.u32.max) v4) v6)) + IntKind.u32.wrap (c / 4294967296)) + x) = X
      generalize (if IntKind.u32.signed = true then (-1 : Int) else IntKind.u32.max) = M
      have HX := Lib.hid hX
      clear hX
      have HD8 := Aside0.mk HI7.out.drew
      repeat (first | go_step | go_guarded | go_upon)
      refine start_ (n := 23) (S := fun w' => w'.cell? ⟨b + 1, 1, none⟩ = some (.int .u32 v1) ∧ w'.cell? ⟨b + 1, 2, none⟩ = some (.int .u32 v2) ∧ w'.cell? ⟨w.heap.size, 1, none⟩ = some (.int .i64 32) ∧ w'.cell? ⟨w.heap.size, 9, none⟩ = some (.int .i64 2) ∧ w'.cell? ⟨w.heap.size, 10, none⟩ = some (.int .i64 13) ∧ w'.cell? ⟨w.heap.size, 11, none⟩ = some (.int .i64 22)) (ds := []) (bz 23 0) (by kernel_rfl) rfl rfl ⟨(S1.out _ HD8.out), (S2.out _ HD8.out), (HD8.out.shape 1 _ rfl), (HD8.out.shape 9 _ rfl), (HD8.out.shape 10 _ rfl), (HD8.out.shape 11 _ rfl)⟩ (fun hHeld => ?_)
      refine pz 0 (some 61) (bz 23 1) ?_
      refine pz 1 (some 62) (bz 23 3) ?_
      refine pz 3 (some 64) (bz 23 11) ?_
      refine pz 6 (some 67) (bz 23 75) ?_
      refine pz 7 (some 68) (bz 23 203) ?_
      refine pz 10 (some 71) (bz 23 1227) ?_
      refine pz 11 (some 72) (bz 23 3275) ?_
      refine pz 15 (some 76) (bz 23 36043) ?_
      refine pz 17 (some 78) (bz 23 167115) ?_
      refine tz6 2 (some 63) (bz 23 167119) hHeld ?_
      refine tz6 4 (some 65) (bz 23 167135) hHeld ?_
      refine tz6 8 (some 69) (bz 23 167391) hHeld ?_
      refine pz 9 (some 70) (bz 23 167903) ?_
      refine tz6 12 (some 73) (bz 23 171999) hHeld ?_
      refine pz 13 (some 74) (bz 23 180191) ?_
      refine pz 14 (some 75) (bz 23 196575) ?_
      refine tz6 16 (some 77) (bz 23 262111) hHeld ?_
      refine tz6 18 (some 79) (bz 23 524255) hHeld ?_
      refine pz 19 (some 80) (bz 23 1048543) ?_
      refine pz 20 (some 81) (bz 23 2097119) ?_
      refine one_ (i := 5) (N := some 66) (bz 23 2097151) rfl rfl (by kernel_rfl) (by decide) (fun K hK => ?_)
      refine goes_ Tryd.func100 (by kernel_rfl) rfl #[.int .u32 v0, .agg #[.int .i64 2, .int .i64 13, .int .i64 22], .int .i64 32] (by rfl) rfl rfl (by simp only [List.map_toArray, List.map_cons, List.map_nil]; rfl) ?_
      with_reducible refine (big_calls v0 2 13 22 (by decide) (by decide) (by decide) (by decide) (by decide) (by decide) _).mono ?_
      rintro e w8 ⟨rfl, hd⟩
      refine ⟨_, rfl, ?_⟩
      have HI8 := Aside0.mk (HD8.out.below hd)
      clear hd
      refine hK.out _ _ ⟨(S1.out _ HI8.out), (S2.out _ HI8.out), (HI8.out.shape 1 _ rfl), (HI8.out.shape 9 _ rfl), (HI8.out.shape 10 _ rfl), (HI8.out.shape 11 _ rfl)⟩ (fun hHeld => ?_)
      clear hK K
      refine norm_ (a' := ?_) ?_ ?_
      rotate_left
      · show Act.put _ (some 66) _ = _
        simp only [Act.put, List.setIfInBounds_toArray, List.set_cons_zero, List.set_cons_succ, i64_w, i32_w]
        rfl
      refine pz 21 (some 82) (bz 23 4194303) ?_
      refine pz 22 (some 13) (bz 23 8388607) ?_
      refine done_ (by kernel_rfl) ?_
      clear hHeld
      generalize hY : IntKind.u32.wrap (bigM v0 2 13 22 + Go.bits .xor .u32 (Go.bits .xor .u32 (Go.bits .and .u32 v0 v1) (Go.bits .and .u32 v0 v2)) (Go.bits .and .u32 v1 v2)) = Y
      have HY := Lib.hid hY
      clear hY
      have h1 := S1.out _ HI8.out
      have h2 := S2.out _ HI8.out
      have h3 := S3.out _ HI8.out
      have h5 := S5.out _ HI8.out
      have h6 := S6.out _ HI8.out
      have HNX := Aside0.mk (show roundsM hv ws (t + 1) = [(X + Y) % 4294967296, v0, v1, v2, (v3 + X) % 4294967296, v4, v5, v6] from by rw [HN.out, ← HX.out, ← HY.out] <;> rfl)
      have HST := Aside0.mk (run_store_block (P := Tryd.prog) (w := w8) (b + 1) 124 (nums .u32 vs).toArray (nums .u32 [(X + Y) % 4294967296, v0, v1, v2, (v3 + X) % 4294967296, v4, v5, v6]).toArray 124 HI8.out.bv (info124 _ rfl) (by simp [nums_length, HVL.out]) (u32_one _))
      have HV := Aside0.mk (HI8.out.setV [(X + Y) % 4294967296, v0, v1, v2, (v3 + X) % 4294967296, v4, v5, v6])
      go_wp2_with (first | ((with_reducible refine store_at (ty := 124) (.tmp 8) (.tmp 100) ?_ ?_ ?_ HST.out ?_ ?_ ?_); exact rfl; exact rfl; exact rfl; exact rfl; exact rfl))
      go_roundw
      case rel => exact ⟨t + 1, by go_num, by omega, ⟨by rw [HNX.out]; exact HV.out⟩⟩
      case measure => simp [intOf]; omega
    · obtain rfl : t = 64 := by omega
      obtain ⟨vs, hvs⟩ : ∃ vs, roundsM hv ws 64 = vs := ⟨_, rfl⟩
      have HVL := Aside0.mk (show vs.length = 8 from hvs ▸ roundsM_length H8.out 64)
      have HVS := Lib.hid hvs
      rw [hvs] at HM
      have hq : decide ((64 : Int) < 64) = false := rfl
      clear hvs
      repeat (first | go_step | go_guarded | go_upon)
      go_loopw [14, 102] (fun v14 v102 w' => ∃ i : Nat, v102 = .int .i64 i ∧ i ≤ 8 ∧ Aside0 (Mx w w' b (addR hv vs i) ws vs)) (fun v14 v102 _ => 8 - (intOf v102).toNat)
      case atStart => exact ⟨0, rfl, Nat.zero_le _, HM⟩
      case round =>
        clear HM
        obtain ⟨i, rfl, hi, HM⟩ := hrel
        have HHL := Aside0.mk (show (addR hv vs i).length = 8 from (addR_length hv vs i).trans H8.out)
        by_cases hlt : i < 8
        · have hq : decide ((i : Int) < 8) = true := decide_eq_true (by omega)
          obtain ⟨x, hx⟩ : ∃ x, (addR hv vs i).getD i 0 = x := ⟨_, rfl⟩
          obtain ⟨y, hy⟩ : ∃ y, vs.getD i 0 = y := ⟨_, rfl⟩
          have HN := Aside0.mk (show addR hv vs (i + 1) = (addR hv vs i).set i (IntKind.u32.wrap (x + y)) by rw [addR, hx, hy])
          have HD := Aside0.mk HM.out.drew
          have S0 := Aside0.mk (fun (W : World) (h : Mx w W b (addR hv vs i) ws vs) => (hx ▸ h.ch (i := i) (by rw [HHL.out]; exact hlt) : W.cell? ⟨w.heap.size + 1, i, none⟩ = some (.int .u32 x)))
          have S1 := Aside0.mk (fun (W : World) (h : Mx w W b (addR hv vs i) ws vs) => (hy ▸ h.cv (i := i) (by rw [HVL.out]; exact hlt) : W.cell? ⟨b + 1, i, none⟩ = some (.int .u32 y)))
          have hc := HD.out.ch (i := i) (by rw [HHL.out]; exact hlt)
          have hf := free_row HD.out.bh i
          have bt : ((i : Int) < 8) = True := eq_true (by omega)
          have HST := Aside0.mk (HD.out.setH i (IntKind.u32.wrap (x + y)))
          clear hx hy
          repeat (first | go_step | go_guarded | go_upon)
          refine start_ (n := 9) (S := fun w' => w'.cell? ⟨w.heap.size + 1, i, none⟩ = some (.int .u32 x) ∧ w'.cell? ⟨b + 1, i, none⟩ = some (.int .u32 y)) (ds := [8]) (bz 9 0) (by kernel_rfl) rfl rfl ⟨(S0.out _ HD.out), (S1.out _ HD.out)⟩ (fun hHeld => ?_)
          refine pz 0 (some 105) (bz 9 1) ?_
          refine pz 1 (some 106) (bz 9 3) ?_
          refine pz 3 (some 108) (bz 9 11) ?_
          refine pz 4 (some 109) (bz 9 27) ?_
          refine tz2 2 (some 107) (bz 9 31) hHeld ?_
          refine tz2 5 (some 110) (bz 9 63) hHeld ?_
          refine pz 6 (some 111) (bz 9 127) ?_
          refine pz 7 (some 112) (bz 9 255) ?_
          refine last_ (i := 8) (N := none) (bz 9 511) rfl rfl (by kernel_rfl) (by decide) (fun K hK => ?_)
          refine skip_ (w1 := ?_) (by rfl) rfl ?_ ?_
          rotate_left
          · go_simp
            rfl
          refine hK.out _ _ ?_
          clear hK K
          refine done_ (by kernel_rfl) ?_
          clear hHeld hc hf
          go_wp2_with (fail)
          go_roundw
          case rel => exact ⟨i + 1, by go_num, by omega, ⟨by rw [HN.out]; exact HST.out⟩⟩
          case measure => simp [intOf]; omega
        · obtain rfl : i = 8 := by omega
          have hq : decide ((8 : Int) < 8) = false := rfl
          have HL := Aside0.mk (run_loadAt_cells (P := Tryd.prog) (w := wr) 124 Tryd.underlying124 rfl (w.heap.size + 1) 0 (nums .u32 (addR hv vs 8)) (by rw [nums_length, HHL.out]; kernel_rfl) (fun j u hu => by rw [Nat.zero_add, cell_of_row _ _ j _ _ _ HM.out.bh]; simpa using hu))
          have HST := Aside0.mk (run_store_block (P := Tryd.prog) (w := wr) (w.heap.size + 1 + 1) 124 (z8 .u32) (nums .u32 (addR hv vs 8)).toArray 124 HM.out.br (info124 _ HHL.out) (by simp [z8, nums_length, HHL.out]) (u32_one _))
          go_wp2_with (first | ((with_reducible refine load_at (ty := 124) (.tmp 4) ?_ ?_ HL.out ?_ ?_); exact rfl; exact rfl; exact rfl) | ((with_reducible refine store_at (ty := 124) (.tmp 6) (.tmp 114) ?_ ?_ ?_ HST.out ?_ ?_ ?_); exact rfl; exact rfl; exact rfl; exact rfl; exact rfl))
          refine bodyPost_ret (results_cell_row rfl _ _ _ _ (nums .u32 (addR hv vs 8)).toArray _ _ rfl (setRow_heap _ _ _ _ _ _ HM.out.br) Tryd.underlying124 rfl (info124 _ HHL.out)) rfl ?_
          exact ⟨by rw [mixM, HWS.out, HVS.out], below_row HM.out.bb (by omega) _⟩

end Go.Proofs.YtmblnflfklmmkaaDoor.Sh
/- Rows of bytes of one's own: what append, make, copy and a store leave. -/
namespace Go.Proofs.YtmblnflfklmmkaaDoor.Dk
open Go.RowKit Go.Proofs.YtmblnflfklmmkaaDoorW.PrintWords Go.Proofs.YtmblnflfklmmkaaDoorW.PrintLast Go.Proofs.YtmblnflfklmmkaaDoorW.PrintMore
set_option linter.unusedVariables false
/-- A row of bytes in a block from q on (or none). -/
def Row8 (w : World) (q : Nat) (v : Value) (xs : List Int) : Prop := Kd.R (Kd.int .u8) 5 w q (fun k => q ≤ k) v xs
abbrev C8 (w : World) (A : Option Addr) (xs : List Int) : Prop := Kd.C (Kd.int .u8) w A xs.length xs
section
variable {w w1 : World} {q g : Nat} {v : Value} {xs ys : List Int} {A : Option Addr} {n c : Nat}
theorem Row8.nil (w : World) (q : Nat) : Row8 w q (.slice none 0 0) [] := Kd.R_nil _ _ _ _ _
theorem Row8.below (h : Row8 w q v xs) (hb : Below w.heap.size w w1) : Row8 w1 q v xs := Kd.R_below h hb
theorem Row8.lower {p : Nat} (h : Row8 w q v xs) (hq : p ≤ q) : Row8 w p v xs := Kd.R_mono (Kd.R_lower h hq) (fun _ h => Nat.le_trans hq h)
theorem Row8.frame {G : Nat → Prop} (h : Row8 w q v xs) (hu : Upd w w1 G) (hd : ∀ k, q ≤ k → ¬ G k) : Row8 w1 q v xs := Kd.R_kept h hu.kept hd
theorem Row8.type {cs : Array Value} {t : Nat} (h : Row8 w q v xs) (hb : w.heap[g]? = some (.cells cs t (0, 0))) (ht : 5 ≠ t) (hu : Upd w w1 (· = g)) : Row8 w1 q v xs :=
  Kd.R_mono (Kd.R_kept (Kd.R_types h hb (by simpa [Kd.int, Kd.scalar] using ht)) hu.kept (fun k hk => hk.2)) (fun k hk => hk.1)
theorem Row8.reads (h : Row8 w q v xs) : ∃ A c, v = .slice A xs.length c ∧ xs.length ≤ c ∧ C8 w A xs := Kd.R_reads h
theorem Row8.slice (h : Row8 w q v xs) : ∃ A c, v = .slice A xs.length c := Kd.R_slice h
theorem Row8.C (h : Row8 w q (.slice A n c) xs) : n = xs.length ∧ n ≤ c ∧ C8 w A xs := Kd.R_reads' h
theorem Row8.take {m : Nat} (h : Row8 w q (.slice A n c) xs) (hm : m ≤ xs.length) : Row8 w q (.slice A m c) (xs.take m) := Kd.R_take h hm
theorem Row8.own (h : Row8 w q v xs) : ∀ k, v.ownBlock = some k → q ≤ k ∧ k < w.heap.size := fun k hk => ⟨h.1 k hk, Kd.R_lt h k hk⟩
theorem Row8.form (h : Row8 w q v xs) (hp : 0 < xs.length) : ∃ g c, v = .slice (some ⟨g, 0, none⟩) xs.length c ∧ q ≤ g ∧ g < w.heap.size ∧ xs.length ≤ c ∧ (∃ cells, w.heap[g]? = some (.cells cells 5 (0, 0))) ∧ ∀ j, j < xs.length → w.cell? ⟨g, j, none⟩ = some (.int .u8 (xs.getD j 0)) := by
  obtain ⟨g, c, rfl, h1, h2, h3⟩ := Kd.R_form h hp
  refine ⟨g, c, rfl, h1, h2, (Kd.R_reads' h).2.1, h3, fun j hj => ?_⟩
  obtain ⟨ad, c', e, hsz, hK, hx⟩ := Kd.C_get (Kd.R_reads' h).2.2 0 (j : Int) (by omega) (by show (j : Int) < (xs.length : Int); omega)
  injection e with e
  subst e
  have := hx 0 (.int .u8 (xs.getD j 0)) (by rw [hK, Int.toNat_natCast]; rfl)
  rw [add0] at this
  simpa [Kd.int, Kd.scalar] using this
theorem Row8.celln (h : Row8 w q (.slice (some ⟨g, 0, none⟩) n c) xs) {i : Nat} (hi : i < xs.length) : w.cell? ⟨g, i, none⟩ = some (.int .u8 (xs.getD i 0)) ∧ w.frozen? ⟨g, i, none⟩ = false := by
  obtain ⟨rfl, _⟩ := Kd.R_reads' h
  obtain ⟨g', c', e, _, _, _, ⟨cells, hb⟩, h1⟩ := Row8.form h (by omega)
  injection e with e
  injection e with e
  injection e with e
  subst e
  exact ⟨h1 i hi, blk_frozen hb i⟩
theorem Row8.put (h : Row8 w q (.slice (some ⟨g, 0, none⟩) n c) xs) (i : Nat) (x : Int) : Row8 (w.setCell ⟨g, i, none⟩ (.int .u8 x)) q (.slice (some ⟨g, 0, none⟩) n c) (xs.set i x) := by
  have := Kd.R_putn (enc := fun x : Int => Value.int .u8 x) (h1 := fun _ => rfl) h (i : Int) x
  simp only [Int.toNat_natCast] at this
  exact this
/-- A row of bytes whose block is younger than w0. -/
structure Fr8 (w0 w : World) (A : Option Addr) (xs : List Int) : Prop where
  C : C8 w A xs
  own : ∀ a, A = some a → w0.heap.size ≤ a.block ∧ a.block < w.heap.size
theorem Fr8.nil (w0 w : World) : Fr8 w0 w none [] := ⟨Kd.C_nil _ _, fun _ h => by cases h⟩
theorem Fr8.below {w0 : World} (h : Fr8 w0 w A xs) (hb : Below w.heap.size w w1) : Fr8 w0 w1 A xs := ⟨Kd.C_below h.C hb, fun a ha => ⟨(h.own a ha).1, Nat.lt_of_lt_of_le (h.own a ha).2 hb.size⟩⟩
theorem Fr8.elder {w0 w00 : World} (h : Fr8 w0 w A xs) (hb : w00.heap.size ≤ w0.heap.size) : Fr8 w00 w A xs := ⟨h.C, fun a ha => ⟨Nat.le_trans hb (h.own a ha).1, (h.own a ha).2⟩⟩
theorem C8.upd {G : Nat → Prop} (h : C8 w A xs) (hu : Upd w w1 G) (hd : ∀ a, A = some a → a.block < w.heap.size ∧ ¬ G a.block) : C8 w1 A xs := by
  obtain ⟨h1, h2, h3⟩ := h
  refine ⟨h1, h2, fun hp => ?_⟩
  obtain ⟨ad, hA, hc⟩ := h3 hp
  refine ⟨ad, hA, fun j p hj => ?_⟩
  obtain ⟨c, e1, e2, e3⟩ := hc j p hj
  refine ⟨c, e1, e2, fun i u hi => ?_⟩
  have := hu.block ad.block (hd ad hA).1 (hd ad hA).2
  rw [← e3 i u hi]
  unfold World.cell?
  rw [show (ad.add (j * (Kd.int .u8).sz + i)).block = ad.block by unfold Addr.add; split <;> rfl, this]
theorem C8.take (h : C8 w A xs) {m : Nat} (hm : m ≤ xs.length) : C8 w A (xs.take m) := Kd.C_take h hm
end
section
variable {P : Program} {ops : Array Oper} {o : Oper} {rest : List Oper} {a : Act} {W : World} {Q : Exit → Act → World → Prop} {q : Nat}
theorem app8 (hi5 : (P.info? 5).map (fun i => (i.zero, i.size, i.bytes)) = some (some (.int .u8 0), 1, 1)) (h22 : P.underlying 22 = some (.slice 5)) (hgd : o.guard = none) (s x : Operand) (ho : o.op = .call { callee := .builtin .append, args := #[s, x], argTypes := #[22, 22] }) (v : Value) (xs ys : List Int) (A : Option Addr) (m c : Nat)
    (hs : a.eval s = v) (hx : a.eval x = .slice A m c) (HO : Row8 W q v xs) (HC : Kd.C (Kd.int .u8) W A m ys) (hq : q ≤ W.heap.size) (hl : xs.length + m ≤ 1000000000)
    (h : ∀ A1 c1 w1, Row8 w1 q (.slice A1 (xs ++ ys).length c1) (xs ++ ys) → Below q W w1 → W.grownBy w1 v.ownBlock → wpList P ops Q rest (a.put o.dst (.slice A1 (xs ++ ys).length c1)) w1) : wpList P ops Q (o :: rest) a W := by
  refine Kd.R_append_rows (Kd.int .u8) (Rr := (Kd.int .u8).K W) (w0 := W) q hgd s x 22 5 (.int .u8 0) 1 ho h22 hi5 rfl (by decide) (by omega) v xs ys A m c (fun k => q ≤ k) (fun _ => False) hs hx HO HC (fun _ _ h => h) (fun _ h => h.elim) (fun _ h => Nat.le_trans hq h) (Below.refl _ _) hq (by omega) ?_
  intro v1 w1 hr hb hg _
  obtain ⟨A1, c1, rfl⟩ := Kd.R_slice hr
  exact h A1 c1 w1 hr hb hg
theorem run_make8 (hi5 : (P.info? 5).map (fun i => (i.zero, i.size, i.bytes)) = some (some (.int .u8 0), 1, 1)) (h22 : P.underlying 22 = some (.slice 5)) (W : World) (n c : Nat) (hnc : n ≤ c) (hc : c ≤ 1000000000) :
    ∃ A w1, (Instr.makeSlice 22 (.int .i64 n) (.int .i64 c)).run P W = .ok (.slice A n c) w1 ∧ Row8 w1 W.heap.size (.slice A n c) (List.replicate n 0) ∧ Below W.heap.size W w1 := by
  obtain ⟨i0, hi, hzz⟩ := Option.map_eq_some_iff.1 hi5
  simp only [Prod.mk.injEq] at hzz
  obtain ⟨hz0, hz1, hz2⟩ := hzz
  have hr := run_make (P := P) (w := W) 22 5 i0 _ h22 hi hz0 .i64 .i64 (n : Int) (c : Int) (by omega) (by omega) (by rw [hz2]; omega) (by omega)
  simp only [Int.toNat_natCast, hz1, Nat.mul_one] at hr
  refine ⟨_, _, hr, ?_, below_alloc (Below.refl _ _) _⟩
  have hm : madeCells (Value.int .u8 0).cells c = (nums .u8 (List.replicate c 0)).toArray := by
    apply Array.ext_getElem?
    intro k
    simp only [madeCells, nums, Value.cells]
    by_cases hk : k < c
    · simp [hk, Nat.mod_one]
    · simp [hk]
  rw [hm]
  have h0 : Row8 (W.alloc (.cells (nums .u8 (List.replicate c 0)).toArray 5)) W.heap.size (.slice (some ⟨W.heap.size, 0, none⟩) c c) (List.replicate c 0) := by
    have ho : (W.alloc (.cells (nums .u8 (List.replicate c 0)).toArray 5)).ownsRow W.heap.size 5 1 (.slice (some ⟨W.heap.size, 0, none⟩) c c) c (nums .u8 (List.replicate c 0)) := by
      refine ⟨by simp [nums_length], .inr ⟨W.heap.size, c, (nums .u8 (List.replicate c 0)).toArray, rfl, Nat.le_refl _, heap_alloc_new _ _, Nat.le_refl _, by unfold maxLen; omega, by simp [nums_length], by simp [nums]⟩⟩
    have hl : (List.replicate c (0 : Int)).length = c := by simp
    rw [← hl] at ho
    have := Kd.R_of_own (enc := fun x : Int => Value.int .u8 x) (h1 := fun _ => rfl) (ok := fun k => W.heap.size ≤ k) (xs := List.replicate c (0 : Int)) (v := .slice (some ⟨W.heap.size, 0, none⟩) c c) (by rw [hl] at ho ⊢; exact ho) (fun k hk => by simp only [Value.ownBlock, Option.some.injEq] at hk; omega)
    exact this
  have := h0.take (m := n) (by simpa using hnc)
  rwa [List.take_replicate, Nat.min_eq_left hnc] at this
end
end Go.Proofs.YtmblnflfklmmkaaDoor.Dk
/- A digest under way in memory; take. -/
namespace Go.Proofs.YtmblnflfklmmkaaDoor.Sh
open Go.Proofs.YtmblnflfklmmkaaDoor.Dk
open Go.RowKit Go.Proofs.YtmblnflfklmmkaaDoorW.PrintWords Go.Proofs.YtmblnflfklmmkaaDoorW.PrintLast Go.Proofs.YtmblnflfklmmkaaDoorW.PrintMore
set_option linter.unusedVariables false
set_option linter.unusedSimpArgs false
set_option maxRecDepth 30000

variable {w w0 w1 w2 wr : World} {g : Nat} {n : Int} {r : Option (List Int)} {hv xs ys : List Int}
/-- A digest's cells: its shape, how many bytes, those that wait, the eight words, the other eight. -/
def hC (n : Int) (vr : Value) (hv h6 : List Int) : List Value := narrowA.toList ++ (.int .i64 n :: vr :: (nums .u32 hv ++ nums .u64 h6))
/-- r: what waits, if it is told. -/
structure HAt (w0 w : World) (g : Nat) (n : Int) (r : Option (List Int)) (hv : List Int) : Prop where
  blk : ∃ vr h6, w.heap[g]? = some (.cells (hC n vr hv h6).toArray 127 (0, 0)) ∧ ((∃ A m c, vr = .slice A m c) ∧ ∀ x, r = some x → Row8 w w0.heap.size vr x) ∧ h6.length = 8
  hl : hv.length = 8
  lo : w0.heap.size ≤ g
  b : Below w0.heap.size w0 w
theorem HAt.below (h : HAt w0 w g n r hv) (hb : Below w.heap.size w w1) : HAt w0 w1 g n r hv := by
  obtain ⟨vr, h6, h1, h2, h3⟩ := h.blk
  exact ⟨⟨vr, h6, blk_below h1 hb, ⟨h2.1, fun x hx => (h2.2 x hx).below hb⟩, h3⟩, h.hl, h.lo, h.b.trans (hb.mono h.b.size)⟩
theorem HAt.drew (h : HAt w0 w g n r hv) : HAt w0 w.drew g n r hv := h.below (below_drew (Below.refl _ _))
theorem HAt.lt (h : HAt w0 w g n r hv) : g < w.heap.size := by
  obtain ⟨vr, h6, h1, _⟩ := h.blk
  exact blk_lt h1
theorem HAt.rs (h : HAt w0 w g n r hv) : w.rangeAt g 0 narrowA.toList := fun j v hj => by
  obtain ⟨vr, h6, h1, _⟩ := h.blk
  rw [Nat.zero_add, cell_of_row _ _ j _ _ _ h1]
  have := List.getElem?_eq_some_iff.1 hj
  simp only [hC, List.getElem?_toArray]
  rw [List.getElem?_append_left this.1, hj]
theorem hC_mid {vr : Value} {h6 : List Int} {j : Nat} (hl : hv.length = 8) (hj : j < 8) : (hC n vr hv h6)[17 + j]? = (nums .u32 hv)[j]? := by
  simp only [hC]
  rw [List.getElem?_append_right (by simp [narrowA]; omega)]
  have e : 17 + j - narrowA.toList.length = j + 2 := by simp [narrowA]; omega
  rw [e, List.getElem?_cons_succ, List.getElem?_cons_succ, List.getElem?_append_left (by rw [nums_length, hl]; exact hj)]
theorem HAt.rh (h : HAt w0 w g n r hv) : w.rangeAt g 17 (nums .u32 hv) := fun j v hj => by
  obtain ⟨vr, h6, h1, _⟩ := h.blk
  have hlt := (List.getElem?_eq_some_iff.1 hj).1
  rw [nums_length, h.hl] at hlt
  rw [cell_of_row _ _ _ _ _ _ h1, List.getElem?_toArray, hC_mid h.hl hlt, hj]
theorem HAt.cn (h : HAt w0 w g n r hv) : w.cell? ⟨g, 15, none⟩ = some (.int .i64 n) := by
  obtain ⟨vr, h6, h1, _⟩ := h.blk
  rw [cell_of_row _ _ _ _ _ _ h1]; rfl
theorem HAt.c0 (h : HAt w0 w g n r hv) : w.cell? ⟨g, 0, none⟩ = some (.int .i64 4) := by
  obtain ⟨vr, h6, h1, _⟩ := h.blk
  rw [cell_of_row _ _ _ _ _ _ h1]; rfl
theorem HAt.free (h : HAt w0 w g n r hv) (j : Nat) : w.frozen? ⟨g, j, none⟩ = false := by
  obtain ⟨vr, h6, h1, _⟩ := h.blk
  exact free_row h1 j
/-- Another digest's words are laid. -/
theorem hC_len {vr : Value} {h6 : List Int} (hl : hv.length = 8) (h : h6.length = 8) : (hC n vr hv h6).length = 33 := by simp [hC, narrowA, nums_length, hl, h]
theorem hC_set {vr : Value} {h6 us : List Int} (hl : hv.length = 8) (hu : us.length = 8) : (hC n vr hv h6).take 17 ++ nums .u32 us ++ (hC n vr hv h6).drop (17 + (nums .u32 us).length) = hC n vr us h6 := by
  have e : (nums IntKind.u32 us).length = 8 := by rw [nums_length, hu]
  have e2 : (nums IntKind.u32 hv).length = 8 := by rw [nums_length, hl]
  rw [e]
  simp [hC, narrowA, List.drop_append, List.drop_of_length_le, e2]
theorem HAt.setH (h : HAt w0 w g n r hv) {us : List Int} (hu : us.length = 8) : HAt w0 (w.setCells g 17 (nums .u32 us)) g n r us := by
  obtain ⟨vr, h6, h1, h2, h3⟩ := h.blk
  obtain ⟨cur', c1, c2, c3⟩ := setCells_row (nums .u32 us) 17 w _ h1 (by simp [hC_len h.hl h3, nums_length, hu])
  obtain ⟨s1, s2, s3, s4⟩ := setCells_same g (nums .u32 us) 17 w
  have hup : Upd w (w.setCells g 17 (nums .u32 us)) (· = g) := ⟨s1, s2, s3, by rw [s4]; exact Nat.le_refl _, fun k _ hk => setCells_far _ _ k hk⟩
  refine ⟨⟨vr, h6, ?_, ?_, h3⟩, hu, h.lo, ?_⟩
  · rw [c1]
    congr 2
    apply Array.toList_inj.1
    rw [c3]
    exact hC_set h.hl hu
  · exact ⟨h2.1, fun x hx => (h2.2 x hx).type h1 (by decide) hup⟩
  · exact ⟨s1.trans h.b.os, s2.trans h.b.tape, s3.trans h.b.output, by rw [s4]; exact h.b.size, fun k hk => (setCells_far _ _ k (by have := h.lo; omega)).trans (h.b.block k hk)⟩
theorem HAt.there (h : HAt w0 w g n r hv) : w.there g 17 8 := fun j hj => by
  refine ⟨?_, h.free _⟩
  rw [h.rh j _ (by rw [List.getElem?_eq_getElem (by rw [nums_length, h.hl]; exact hj)])]
  rfl
theorem exec_store {P : Program} {ρ : Operand → Value} {o : Oper} {ty : TypeId} {x y : Operand} {q v : Value} {w w1 : World} (ho : o.op = .store ty x y) (hx : ρ x = q) (hy : ρ y = v) (hrun : (Instr.storeAt ty q v).run P w = .ok () w1) : (execOp ρ o).run P w = .ok .skip w1 := by
  subst hx; subst hy
  unfold execOp
  simp [ho, hrun]
/-- A slice that is empty, or bytes of a block beside g. -/
def RowAt (w : World) (g : Nat) (v : Value) (xs : List Int) : Prop := ∃ A c, v = .slice A xs.length c ∧ xs.length ≤ c ∧ (xs = [] ∨ ∃ gs o, A = some ⟨gs, o, none⟩ ∧ gs ≠ g ∧ gs < w.heap.size ∧ Bys w gs o xs)
theorem RowAt.upd {v : Value} (h : RowAt w g v xs) (hu : Upd w w1 (· = g)) : RowAt w1 g v xs := by
  obtain ⟨A, c, e, hc, h⟩ := h
  refine ⟨A, c, e, hc, h.imp_right ?_⟩
  rintro ⟨gs, o, e, hne, hlt, hb⟩
  exact ⟨gs, o, e, hne, Nat.lt_of_lt_of_le hlt hu.size, fun j hj => (cell_block (hu.block gs hlt hne) _).trans (hb j hj)⟩
theorem RowAt.below {v : Value} (h : RowAt w g v xs) (hb : Below w.heap.size w w1) : RowAt w1 g v xs := h.upd (Upd.of_below hb)
theorem setCells_upd (g o : Nat) (vs : List Value) (w : World) : Upd w (w.setCells g o vs) (· = g) := by
  obtain ⟨s1, s2, s3, s4⟩ := setCells_same g vs o w
  exact ⟨s1, s2, s3, by rw [s4]; exact Nat.le_refl _, fun k _ hk => setCells_far _ _ k hk⟩
theorem Bys.upd {gs o : Nat} {b : List Int} (h : Bys w gs o b) (hg : gs < w.heap.size) (hn : gs ≠ g) (hu : Upd w w1 (· = g)) : Bys w1 gs o b := fun j hj => (cell_block (hu.block gs hg hn) _).trans (h j hj)
theorem Bys.take {g o : Nat} {b : List Int} (h : Bys w g o b) (m : Nat) : Bys w g o (b.take m) := fun j hj => by
  rw [List.length_take] at hj
  rw [h j (by omega)]
  simp [List.getD_eq_getElem?_getD, List.getElem?_take, show j < m by omega]
theorem Bys.drop {g o : Nat} {b : List Int} (h : Bys w g o b) (m : Nat) : Bys w g (o + m) (b.drop m) := fun j hj => by
  rw [List.length_drop] at hj
  rw [Nat.add_assoc, h (m + j) (by omega)]
  simp [List.getD_eq_getElem?_getD]
theorem rowat_drop {gs o c : Nat} {ys : List Int} (h : Bys w gs o ys) (hn : gs ≠ g) (hl : gs < w.heap.size) (hd : (ys.drop 64).length = ys.length - 64) (hc : ys.length ≤ c) : ys.drop 64 = [] ∨ ∃ gs' o', (if c = 64 then some (⟨gs, o, none⟩ : Addr) else some ⟨gs, o + 64, none⟩) = some ⟨gs', o', none⟩ ∧ gs' ≠ g ∧ gs' < w.heap.size ∧ Bys w gs' o' (ys.drop 64) := by
  by_cases h64 : c = 64
  · exact .inl (List.eq_nil_of_length_eq_zero (by omega))
  · exact .inr ⟨gs, o + 64, by rw [if_neg h64], hn, hl, h.drop 64⟩
/-- Whole blocks go into the words; the rest is left. -/
def takeF (hv xs : List Int) : List Int × List Int := if 64 ≤ xs.length then takeF (mixM hv (xs.take 64)) (xs.drop 64) else (hv, xs)
termination_by xs.length
decreasing_by simp; omega
theorem takeF_ge {hv xs : List Int} (h : 64 ≤ xs.length) : takeF hv xs = takeF (mixM hv (xs.take 64)) (xs.drop 64) := by
  rw [takeF, if_pos h]
theorem takeF_lt {hv xs : List Int} (h : xs.length < 64) : takeF hv xs = (hv, xs) := by
  rw [takeF, if_neg (by omega)]
theorem block_callsA (w : World) : Calls Tryd.prog 92 #[.agg narrowA] w fun e w' => e = .returned (.int .i64 64) ∧ Below w.heap.size w w' := block_calls w
def TakePost (w0 w w' : World) (g : Nat) (n : Int) (r : Option (List Int)) (hv xs : List Int) (e : Ending) : Prop := ∃ v, e = .returned v ∧ RowAt w' g v (takeF hv xs).2 ∧ HAt w0 w' g n r (takeF hv xs).1 ∧ Upd w w' (· = g)

set_option maxHeartbeats 16000000 in
theorem take_calls (hg0 : Glob w0) (v : Value) (h : HAt w0 w g n r hv) (hr : RowAt w g v xs) (hx : xs.length ≤ 1000000000) : Calls Tryd.prog 79 #[.pointer (some ⟨g, 0, none⟩), v] w fun e w' => TakePost w0 w w' g n r hv xs e := by
  have hg := Aside0.mk hg0
  have HH := Aside0.mk h
  have HRR := Aside0.mk hr
  have LS := Aside0.mk (fun (W : World) (hv : List Int) (h : HAt w0 W g n r hv) => show (Instr.loadAt 120 (.pointer (some ⟨g, 0, none⟩))).run Tryd.prog W = .ok (.agg narrowA) W from run_loadAt_mid W g 0 120 narrowA.toList _ h.rs Tryd.underlying120 rfl (by kernel_rfl))
  obtain ⟨A, c, rfl, _⟩ := hr
  clear hg0 h
  go_enter Tryd.func79, Tryd.ntmps79
  go_wp2
  go_loopw [1] (fun v1 w' => ∃ ys hv', Aside0 (RowAt w' g v1 ys) ∧ Aside0 (HAt w0 w' g n r hv') ∧ Aside0 (takeF hv' ys = takeF hv xs) ∧ ys.length ≤ xs.length ∧ Aside0 (Upd w w' (· = g)) ∧ ∃ A c, v1 = .slice A ys.length c) (fun v1 _ => (match v1 with | .slice _ m _ => m | _ => 0))
  case atStart => exact ⟨xs, hv, HRR, HH, ⟨rfl⟩, Nat.le_refl _, ⟨Upd.refl _ _⟩, A, c, rfl⟩
  case round =>
    clear HRR HH
    obtain ⟨ys, hv', HR, HA, HE, hyl, HU, A, c, rfl⟩ := hrel
    have HLS := Aside0.mk (LS.out _ _ HA.out)
    by_cases h64 : 64 ≤ ys.length
    · have hq : decide ((64 : Int) ≤ (ys.length : Int)) = true := decide_eq_true (by omega)
      obtain ⟨A', c', e, hyc, hor⟩ := HR.out
      injection e with e1 e2 e3
      subst e1; subst e3
      rcases hor with hz | ⟨gs, o, rfl, hne, hgl, hbs⟩
      · rw [hz] at h64; exact absurd h64 (by decide)
      have HN := Aside0.mk hne
      have HG := Aside0.mk hgl
      have HB := Aside0.mk hbs
      have HL := Aside0.mk HA.out.hl
      have HT := Aside0.mk (show (ys.take 64).length = 64 by rw [List.length_take]; omega)
      have HC := Aside0.mk (show 64 ≤ c by omega)
      have HYC := Aside0.mk hyc
      have hcb : ((64 : Int) ≤ (c : Int)) = True := eq_true (by omega)
      have HE := Aside0.mk ((takeF_ge h64).symm.trans HE.out)
      have HLD := Aside0.mk (show (ys.drop 64).length = ys.length - 64 from List.length_drop)
      clear e2 hne hgl hbs HR
      go_wp2_with (first | ((with_reducible refine load_at (ty := 120) (.tmp 9) ?_ ?_ HLS.out ?_ ?_); exact rfl; exact rfl; exact rfl) | (go_at_call 92; (with_reducible refine (block_callsA _).mono ?_); rintro e w1 ⟨rfl, hb⟩; have HA := Aside0.mk (HA.out.below hb); have HU := Aside0.mk (HU.out.trans (Upd.of_below (F := (· = g)) hb) (fun _ h => .inl h)); have HB := Aside0.mk (HB.out.below HG.out hb); have HG := Aside0.mk (Nat.lt_of_lt_of_le HG.out hb.size); have hc0 := HA.out.c0; clear hb))
      have HA1 := Aside0.mk HA.out.drew
      have HB := Aside0.mk (show Bys w1.drew gs o ys from HB.out)
      have HG := Aside0.mk (show gs < w1.drew.heap.size from HG.out)
      have HU := Aside0.mk (HU.out.drew)
      repeat (first | go_step | go_guarded | go_upon)
      refine start_ (n := 20) (S := fun w' => w'.rangeAt g 0 narrowA.toList ∧ w'.rangeAt g 17 (nums .u32 hv')) (ds := [19]) (bz 20 0) (by kernel_rfl) rfl rfl ⟨HA1.out.rs, HA1.out.rh⟩ (fun hHeld => ?_)
      refine pz 0 (some 19) (bz 20 1) ?_
      refine pz 1 (some 20) (bz 20 3) ?_
      refine pz 2 (some 21) (bz 20 7) ?_
      refine pz 3 (some 22) (bz 20 15) ?_
      refine pz 5 (some 24) (bz 20 47) ?_
      refine pz 6 (some 25) (bz 20 111) ?_
      refine pz 7 (some 26) (bz 20 239) ?_
      refine pz 9 (some 28) (bz 20 751) ?_
      refine pz 10 (some 29) (bz 20 1775) ?_
      refine pz 11 (some 30) (bz 20 3823) ?_
      refine pz 12 (some 31) (bz 20 7919) ?_
      refine take_ (i := 4) (N := some 23) (v := .agg narrowA) (a' := ?_) (bz 20 7935) rfl rfl (by kernel_rfl) (fun _ _ _ h => h) (yieldsIf_load_mid (by rfl) 120 (.tmp 22) rfl g 0 (by rfl) narrowA.toList _ (fun w' h => h.1) Tryd.underlying120 rfl (by kernel_rfl)) hHeld ?_ ?_
      rotate_left
      · simp only [Act.put, List.setIfInBounds_toArray, List.set_cons_zero, List.set_cons_succ, i64_w, i32_w]
        rfl
      refine take_ (i := 8) (N := some 27) (v := .agg (nums .u32 hv').toArray) (a' := ?_) (bz 20 8191) rfl rfl (by kernel_rfl) (fun _ _ _ h => h) (yieldsIf_load_mid (by rfl) 124 (.tmp 26) rfl g 17 (by rfl) (nums .u32 hv') _ (fun w' h => h.2) Tryd.underlying124 rfl (by rw [nums_length, HL.out]; kernel_rfl)) hHeld ?_ ?_
      rotate_left
      · simp only [Act.put, List.setIfInBounds_toArray, List.set_cons_zero, List.set_cons_succ, i64_w, i32_w]
        rfl
      refine take_ (i := 13) (N := some 32) (v := .agg narrowA) (a' := ?_) (bz 20 16383) rfl rfl (by kernel_rfl) (fun _ _ _ h => h) (yieldsIf_load_mid (by rfl) 120 (.tmp 31) rfl g 0 (by rfl) narrowA.toList _ (fun w' h => h.1) Tryd.underlying120 rfl (by kernel_rfl)) hHeld ?_ ?_
      rotate_left
      · simp only [Act.put, List.setIfInBounds_toArray, List.set_cons_zero, List.set_cons_succ, i64_w, i32_w]
        rfl
      refine one_ (i := 14) (N := some 33) (bz 20 32767) rfl rfl (by kernel_rfl) (by decide) (fun K hK => ?_)
      refine goes_ Tryd.func92 (by kernel_rfl) rfl #[.agg narrowA] (by rfl) rfl rfl (by simp only [List.map_toArray, List.map_cons, List.map_nil]; rfl) ?_
      with_reducible refine (block_callsA _).mono ?_
      rintro e w2 ⟨rfl, hb⟩
      refine ⟨_, rfl, ?_⟩
      have HA2 := Aside0.mk (HA1.out.below hb)
      have HB2 := Aside0.mk (HB.out.below HG.out hb)
      have HW2 := Aside0.mk hb.size
      have HU2 := Aside0.mk (HU.out.trans (Upd.of_below (F := (· = g)) hb) (fun _ h => .inl h))
      clear hb
      refine hK.out _ _ ⟨HA2.out.rs, HA2.out.rh⟩ (fun hHeld => ?_)
      clear hK K
      refine norm_ (a' := ?_) ?_ ?_
      rotate_left
      · show Act.put _ (some 33) _ = _
        simp only [Act.put, List.setIfInBounds_toArray, List.set_cons_zero, List.set_cons_succ, i64_w, i32_w]
        rfl
      refine pz 15 (some 34) (bz 20 65535) ?_
      refine one_ (i := 16) (N := some 35) (bz 20 131071) rfl rfl (by kernel_rfl) (by decide) (fun K hK => ?_)
      refine goes_ Tryd.func93 (by kernel_rfl) rfl #[.agg narrowA, .agg (nums .u32 hv').toArray, .slice (some ⟨gs, o, none⟩) 64 c] (by rfl) rfl rfl (by simp only [List.map_toArray, List.map_cons, List.map_nil]; rfl) ?_
      with_reducible refine (mix_calls (hg.out.below HA2.out.b) gs o c (ys.take 64) hv' HT.out HL.out HC.out (HB2.out.take 64) (Nat.lt_of_lt_of_le HG.out HW2.out)).mono ?_
      rintro e w3 ⟨rfl, hb⟩
      refine ⟨_, rfl, ?_⟩
      have HA3 := Aside0.mk (HA2.out.below hb)
      have HU3 := Aside0.mk (HU2.out.trans (Upd.of_below (F := (· = g)) hb) (fun _ h => .inl h))
      have HST := Aside0.mk (show (Instr.storeAt 124 (.pointer (some ⟨g, 17, none⟩)) (.agg (nums .u32 (mixM hv' (ys.take 64))).toArray)).run Tryd.prog w3 = .ok () (w3.setCells g 17 (nums .u32 (mixM hv' (ys.take 64)))) from run_storeAt_mid (P := Tryd.prog) w3 g 17 124 (nums .u32 (mixM hv' (ys.take 64))).toArray (by rw [List.size_toArray, nums_length, mixM_length HL.out]; exact HA3.out.there) (info124 _ (mixM_length HL.out)) (u32_one _))
      have HB3 := Aside0.mk (HB2.out.below (Nat.lt_of_lt_of_le HG.out HW2.out) hb)
      have HW3 := Aside0.mk (Nat.le_trans HW2.out hb.size)
      clear hb
      refine hK.out _ _ ⟨HA3.out.rs, HA3.out.rh⟩ (fun hHeld => ?_)
      clear hK K
      refine norm_ (a' := ?_) ?_ ?_
      rotate_left
      · show Act.put _ (some 35) _ = _
        simp only [Act.put, List.setIfInBounds_toArray, List.set_cons_zero, List.set_cons_succ, i64_w, i32_w]
        rfl
      refine pz 17 (some 36) (bz 20 262143) ?_
      refine pz 18 (some 37) (bz 20 524287) ?_
      refine last_ (i := 19) (N := none) (bz 20 1048575) rfl rfl (by kernel_rfl) (by decide) (fun K hK => ?_)
      refine skip_ (by rfl) rfl (exec_store (ty := 124) (x := .tmp 37) (y := .tmp 35) rfl (by rfl) (by rfl) HST.out) ?_
      refine hK.out _ _ ?_
      clear hK K
      refine done_ (by kernel_rfl) ?_
      clear hHeld
      have HA4 := Aside0.mk (HA3.out.setH (mixM_length HL.out (b := ys.take 64)))
      have HU4 := Aside0.mk (HU3.out.trans (setCells_upd g 17 (nums .u32 (mixM hv' (ys.take 64))) w3) (fun _ h => .inl h))
      have HB4 := Aside0.mk (show Bys (w3.setCells g 17 (nums .u32 (mixM hv' (ys.take 64)))) gs o ys from HB3.out.upd (Nat.lt_of_lt_of_le HG.out HW3.out) HN.out (setCells_upd g 17 _ w3))
      have HG4 := Aside0.mk (show gs < (w3.setCells g 17 (nums .u32 (mixM hv' (ys.take 64)))).heap.size from Nat.lt_of_lt_of_le (Nat.lt_of_lt_of_le HG.out HW3.out) (setCells_upd g 17 _ w3).size)
      generalize w3.setCells g 17 (nums .u32 (mixM hv' (ys.take 64))) = w4 at HA4 HU4 HB4 HG4 ⊢
      have HLS := Aside0.mk (LS.out _ _ HA4.out)
      clear hc0
      go_wp2_with (first | ((with_reducible refine load_at (ty := 120) (.tmp 60) ?_ ?_ HLS.out ?_ ?_); exact rfl; exact rfl; exact rfl) | (go_at_call 92; (with_reducible refine (block_callsA _).mono ?_); rintro e w5 ⟨rfl, hb⟩; have HA5 := Aside0.mk (HA4.out.below hb); have HU5 := Aside0.mk (HU4.out.trans (Upd.of_below (F := (· = g)) hb) (fun _ h => .inl h)); have HB5 := Aside0.mk (HB4.out.below HG4.out hb); have HG5 := Aside0.mk (Nat.lt_of_lt_of_le HG4.out hb.size); clear hb))
      go_roundw
      case rel => exact ⟨ys.drop 64, mixM hv' (ys.take 64), ⟨_, c - 64, by rw [HLD.out], by rw [HLD.out]; omega, rowat_drop HB5.out HN.out HG5.out HLD.out hyc⟩, HA5, HE, by rw [HLD.out]; omega, HU5, _, _, by rw [HLD.out]⟩
      case measure => simp; omega
    · have hq : decide ((64 : Int) ≤ (ys.length : Int)) = false := decide_eq_false (by omega)
      go_wp2_with (first | ((with_reducible refine load_at (ty := 120) (.tmp 9) ?_ ?_ HLS.out ?_ ?_); exact rfl; exact rfl; exact rfl) | (go_at_call 92; (with_reducible refine (block_callsA _).mono ?_); rintro e w1 ⟨rfl, hb⟩; have HA := Aside0.mk (HA.out.below hb); have HU := Aside0.mk (HU.out.trans (Upd.of_below (F := (· = g)) hb) (fun _ h => .inl h)); have HR := Aside0.mk (HR.out.below hb); clear hb))
      go_ret
      have HE2 := HE.out
      rw [takeF_lt (by omega)] at HE2
      exact ⟨_, rfl, by rw [← HE2]; exact HR.out, by rw [← HE2]; exact HA.out, HU.out⟩

end Go.Proofs.YtmblnflfklmmkaaDoor.Sh
/- Contracts of package sha2: tell. -/
namespace Go.Proofs.YtmblnflfklmmkaaDoor.Sh
open Go.Proofs.YtmblnflfklmmkaaDoor.Dk
open Go.RowKit Go.Proofs.YtmblnflfklmmkaaDoorW.PrintWords Go.Proofs.YtmblnflfklmmkaaDoorW.PrintLast Go.Proofs.YtmblnflfklmmkaaDoorW.PrintMore
set_option linter.unusedVariables false
set_option linter.unusedSimpArgs false
set_option maxRecDepth 30000

variable {w w0 w1 w2 wr : World} {g : Nat} {n : Int} {hv xs ys : List Int}
def tell1 (x : Int) : List Int := [x / 16777216 % 256, x / 65536 % 256, x / 256 % 256, x % 256]
def tellM (hv : List Int) : List Int := hv.flatMap tell1
structure Tl (w w' : World) (hv : List Int) (v : Value) (xs : List Int) : Prop where
  s : w'.heap[w.heap.size]? = some (.cells narrowA 120 (0, 0))
  r : Row8 w' (w.heap.size + 1 + 1) v xs
  b : Below w.heap.size w w'
  z : w.heap.size + 1 + 1 ≤ w'.heap.size
theorem tl_app {v v1 : Value} {ys : List Int} {o : Obj} (h : Tl w w1 hv v xs) (hr : Row8 w2 (w.heap.size + 1 + 1) v1 ys) (hb : Below (w.heap.size + 1 + 1) (w1.alloc o) w2) : Tl w w2 hv v1 ys := by
  have e : Below (w.heap.size + 1 + 1) w1 w2 := Below.trans ((below_alloc (Below.refl _ w1) o).mono h.z) hb
  exact ⟨(e.block _ (by omega)).trans h.s, hr, h.b.trans (e.mono (by omega)), Nat.le_trans h.z e.size⟩
set_option maxHeartbeats 16000000 in
theorem tell_calls (hv : List Int) (h8 : hv.length = 8) : Calls Tryd.prog 82 #[.agg narrowA, .agg (nums .u32 hv).toArray] w fun e w' => ∃ v, e = .returned v ∧ Row8 w' w.heap.size v (tellM hv) ∧ Below w.heap.size w w' := by
  have H8 := Aside0.mk h8
  have HB0 := Aside0.mk (show Below w.heap.size w ((w.alloc (.cells narrowA 120)).alloc (.cells (nums .u32 hv).toArray 124)) from below_alloc (below_alloc (Below.refl _ _) _) _)
  have HK0 := Aside0.mk (show ((w.alloc (.cells narrowA 120)).alloc (.cells (nums .u32 hv).toArray 124)).heap[w.heap.size]? = some (.cells narrowA 120 (0, 0)) from blk_below (heap_alloc_new w _) (below_alloc (Below.refl _ _) _))
  have HK1 := Aside0.mk (nth2_1 w (.cells narrowA 120) (.cells (nums .u32 hv).toArray 124))
  have hc0 := cellB3 HK0.out 0 (.int .i64 4) rfl
  clear h8
  obtain ⟨A2, w2, hmk, hr2, hb2⟩ := run_make8 (P := Tryd.prog) info5 Tryd.underlying22 ((w.alloc (.cells narrowA 120)).alloc (.cells (nums .u32 hv).toArray 124)) 0 32 (by decide) (by decide)
  have HMK := Aside0.mk (show (Instr.makeSlice 22 (.int .i64 0) (.int .i64 32)).run Tryd.prog _ = _ from hmk)
  have hsz : ((w.alloc (.cells narrowA 120)).alloc (.cells (nums .u32 hv).toArray 124)).heap.size = w.heap.size + 1 + 1 := by simp [World.size_alloc]
  have HK0 := Aside0.mk (blk_below HK0.out hb2)
  have HK1 := Aside0.mk (blk_below HK1.out hb2)
  have HT := Aside0.mk (show Tl w w2 hv (.slice A2 0 32) [] from ⟨HK0.out, by have := hr2; rw [hsz] at this; exact this, HB0.out.trans (hb2.mono HB0.out.size), by have := hb2.size; omega⟩)
  have HL := Aside0.mk (run_loadAt_cells (P := Tryd.prog) (w := w2) 124 Tryd.underlying124 rfl (w.heap.size + 1) 0 (nums .u32 hv) (by rw [nums_length, H8.out]; kernel_rfl) (fun j u hu => by rw [Nat.zero_add, cell_of_row _ _ j _ _ _ HK1.out]; simpa using hu))
  clear hmk hr2 hb2 hsz HK0 HK1 HB0
  go_enter Tryd.func82, Tryd.ntmps82
  go_wp2_with (first | ((with_reducible refine make_at (t := 22) (x := .const (.int .i64 0)) (y := .tmp 11) ?_ ?_ HMK.out ?_ ?_ ?_); exact rfl; exact rfl; exact rfl; exact rfl) | ((with_reducible refine load_at (ty := 124) (.tmp 3) ?_ ?_ HL.out ?_ ?_); exact rfl; exact rfl; exact rfl))
  go_loopw [5, 7, 8, 14] (fun v5 v7 v8 v14 w' => ∃ (i : Nat) (A : Option Addr) (c : Nat), v14 = .int .i64 i ∧ i ≤ 8 ∧ v5 = .slice A ((hv.take i).flatMap tell1).length c ∧ Aside0 (Tl w w' hv v5 ((hv.take i).flatMap tell1))) (fun v5 v7 v8 v14 _ => 8 - (intOf v14).toNat)
  case atStart => exact ⟨0, A2, 32, rfl, Nat.zero_le _, rfl, HT⟩
  case round =>
    clear HT hc0
    obtain ⟨i, A, c, rfl, hi, rfl, HT⟩ := hrel
    by_cases hlt : i < 8
    · have hq : decide ((i : Int) < 8) = true := decide_eq_true (by omega)
      have hc0 := cellB3 HT.out.s 0 (.int .i64 4) rfl
      obtain ⟨x, hx⟩ : ∃ x, hv.getD i 0 = x := ⟨_, rfl⟩
      have HIX := Aside0.mk (run_index_row (P := Tryd.prog) wr 124 123 .u32 8 (nums .u32 hv).toArray i (.int .u32 x) Tryd.underlying124 Tryd.underlying123 hlt (by rw [nums_getD (by rw [H8.out]; exact hlt), hx]) (by kernel_rfl))
      have HN := Aside0.mk (show (hv.take (i + 1)).flatMap tell1 = (hv.take i).flatMap tell1 ++ tell1 x by
        rw [← hx, List.take_succ_eq_append_getElem (by rw [H8.out]; exact hlt), List.flatMap_append]
        simp [List.getD_eq_getElem?_getD, List.getElem?_eq_getElem (show i < hv.length by rw [H8.out]; exact hlt)])
      have HPL := Aside0.mk (show ((hv.take i).flatMap tell1).length ≤ 28 from by
        have : ∀ l : List Int, (l.flatMap tell1).length = 4 * l.length := by intro l; induction l with | nil => rfl | cons a l ih => rw [List.flatMap_cons, List.length_append, ih]; simp [tell1]; omega
        rw [this, List.length_take]; omega)
      obtain ⟨pre, hpre⟩ : ∃ pre, (hv.take i).flatMap tell1 = pre := ⟨_, rfl⟩
      rw [hpre] at HT HN HPL ⊢
      clear hx hpre
      go_wp2_with (first | ((with_reducible refine index_at (t := 124) (x := .tmp 13) (y := .tmp 14) ?_ ?_ HIX.out ?_ ?_ ?_); exact rfl; exact rfl; exact rfl; exact rfl))
      clear hc0 hq
      go_loopw [5, 8] (fun v5 v8 w' => ∃ (j : Nat) (A : Option Addr) (c : Nat), v8 = .int .i64 (3 - (j : Int)) ∧ j ≤ 4 ∧ v5 = .slice A (pre ++ (tell1 x).take j).length c ∧ Aside0 (Tl w w' hv v5 (pre ++ (tell1 x).take j))) (fun v5 v8 _ => (4 + intOf v8).toNat)
      case atStart => exact ⟨0, A, c, rfl, Nat.zero_le _, by simp, by simpa using HT⟩
      case round =>
        clear HT
        obtain ⟨j, A, c, rfl, hj, rfl, HT⟩ := hrel
        obtain rfl | rfl | rfl | rfl | rfl : j = 0 ∨ j = 1 ∨ j = 2 ∨ j = 3 ∨ j = 4 := by omega
        · have HC := Aside0.mk (C_block (x := [x / 16777216 % 256]) (heap_alloc_new wr (.cells (nums .u8 [x / 16777216 % 256]).toArray 5)) (by simp))
          have HR := Aside0.mk (HT.out.r.below (below_alloc (Below.refl wr.heap.size wr) (.cells (nums .u8 [x / 16777216 % 256]).toArray 5)))
          have HZ := HT.out.z
          go_wp2_with (first | ((with_reducible refine gate_builtin (b := .append) (xs := #[.tmp 24, .tmp 30]) rfl ?_); at_builtin; refine app8 (q := (w.heap.size + 1 + 1)) info5 Tryd.underlying22 rfl (.tmp 24) (.tmp 30) rfl _ _ _ _ _ _ rfl rfl HR.out HC.out ?aQ ?aL ?_; (case aQ => simp [World.size_alloc]; omega); (case aL => simp [tell1]; have := HPL.out; omega); intro A1 c1 w1 hr1 hb1 hg1; have HT1 := Aside0.mk (tl_app HT.out hr1 hb1); clear hr1 hb1 hg1))
          go_roundw
          case rel => exact ⟨1, A1, c1, rfl, by decide, by simp [tell1], ⟨by simpa [tell1] using HT1.out⟩⟩
          case measure => simp [intOf]
        · have HC := Aside0.mk (C_block (x := [x / 65536 % 256]) (heap_alloc_new wr (.cells (nums .u8 [x / 65536 % 256]).toArray 5)) (by simp))
          have HR := Aside0.mk (HT.out.r.below (below_alloc (Below.refl wr.heap.size wr) (.cells (nums .u8 [x / 65536 % 256]).toArray 5)))
          have HZ := HT.out.z
          go_wp2_with (first | ((with_reducible refine gate_builtin (b := .append) (xs := #[.tmp 24, .tmp 30]) rfl ?_); at_builtin; refine app8 (q := (w.heap.size + 1 + 1)) info5 Tryd.underlying22 rfl (.tmp 24) (.tmp 30) rfl _ _ _ _ _ _ rfl rfl HR.out HC.out ?aQ ?aL ?_; (case aQ => simp [World.size_alloc]; omega); (case aL => simp [tell1]; have := HPL.out; omega); intro A1 c1 w1 hr1 hb1 hg1; have HT1 := Aside0.mk (tl_app HT.out hr1 hb1); clear hr1 hb1 hg1))
          go_roundw
          case rel => exact ⟨2, A1, c1, rfl, by decide, by simp [tell1], ⟨by simpa [tell1] using HT1.out⟩⟩
          case measure => simp [intOf]
        · have HC := Aside0.mk (C_block (x := [x / 256 % 256]) (heap_alloc_new wr (.cells (nums .u8 [x / 256 % 256]).toArray 5)) (by simp))
          have HR := Aside0.mk (HT.out.r.below (below_alloc (Below.refl wr.heap.size wr) (.cells (nums .u8 [x / 256 % 256]).toArray 5)))
          have HZ := HT.out.z
          go_wp2_with (first | ((with_reducible refine gate_builtin (b := .append) (xs := #[.tmp 24, .tmp 30]) rfl ?_); at_builtin; refine app8 (q := (w.heap.size + 1 + 1)) info5 Tryd.underlying22 rfl (.tmp 24) (.tmp 30) rfl _ _ _ _ _ _ rfl rfl HR.out HC.out ?aQ ?aL ?_; (case aQ => simp [World.size_alloc]; omega); (case aL => simp [tell1]; have := HPL.out; omega); intro A1 c1 w1 hr1 hb1 hg1; have HT1 := Aside0.mk (tl_app HT.out hr1 hb1); clear hr1 hb1 hg1))
          go_roundw
          case rel => exact ⟨3, A1, c1, rfl, by decide, by simp [tell1], ⟨by simpa [tell1] using HT1.out⟩⟩
          case measure => simp [intOf]
        · have HC := Aside0.mk (C_block (x := [x % 256]) (heap_alloc_new wr (.cells (nums .u8 [x % 256]).toArray 5)) (by simp))
          have HR := Aside0.mk (HT.out.r.below (below_alloc (Below.refl wr.heap.size wr) (.cells (nums .u8 [x % 256]).toArray 5)))
          have HZ := HT.out.z
          go_wp2_with (first | ((with_reducible refine gate_builtin (b := .append) (xs := #[.tmp 24, .tmp 30]) rfl ?_); at_builtin; refine app8 (q := (w.heap.size + 1 + 1)) info5 Tryd.underlying22 rfl (.tmp 24) (.tmp 30) rfl _ _ _ _ _ _ rfl rfl HR.out HC.out ?aQ ?aL ?_; (case aQ => simp [World.size_alloc]; omega); (case aL => simp [tell1]; have := HPL.out; omega); intro A1 c1 w1 hr1 hb1 hg1; have HT1 := Aside0.mk (tl_app HT.out hr1 hb1); clear hr1 hb1 hg1))
          go_roundw
          case rel => exact ⟨4, A1, c1, rfl, by decide, by simp [tell1], ⟨by simpa [tell1] using HT1.out⟩⟩
          case measure => simp [intOf]
        · go_wp2
          go_roundw
          case rel => exact ⟨i + 1, A, c, by go_num, by omega, by rw [HN.out]; rfl, by rw [HN.out]; exact HT⟩
          case measure => simp [intOf]; omega
    · obtain rfl : i = 8 := by omega
      have hq : decide ((8 : Int) < 8) = false := rfl
      have hp : (hv.take 8) = hv := List.take_of_length_le (by rw [H8.out]; decide)
      rw [hp] at HT ⊢
      go_wp2
      go_ret
      exact ⟨_, rfl, by have h := HT.out.r; rw [tellM]; exact h.lower (by omega), HT.out.b⟩

end Go.Proofs.YtmblnflfklmmkaaDoor.Sh
