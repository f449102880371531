/- StoreLast: the texts ShA ShB Glo DkG DkH DkI DkJ DkK DkL DkM DkN DkO ReA ReB ReD ReE ReF ReG ReH ReI ReJ ReK LwA LwB LwC LwD LwE LwF LwG L8A WTab WFour WFootNe WAt WEqStruct WRepsOne WInv WInvWords WGuard Px0 Px1 Px2. -/
import Derived.Test.YtmblnflfklmmkaaDoorPStoreLast1
import Derived.Test.YtmblnflfklmmkaaDoorRows
import Derived.ProofKit
import Derived.LaidMore
import Derived.OpenShut
import Derived.LaidHandle
import Derived.Stop.Joined
import Derived.Laws.CopyRow
import Derived.Great.BuildSlice
import Derived.Laws.StructEq
import Derived.Test.YtmblnflfklmmkaaDoorProg
import Derived.Below
import Derived.Deep.Draws
import Derived.Deep.AppendLies
import Derived.Maps.AppendAt
import Derived.OwnWalk
import Derived.Laws.BytesArg
import Derived.Laws.MakeOwn
import Derived.Laws.OwnMore
import Derived.Deep.OwnRows
import Derived.Tactics
import Derived.Lib.ConvBytes
import Derived.Laws.Slices
import Derived.WalkKit
import Derived.KernelRfl
import Derived.RowKit3
import Derived.Deep.LoopGhost
import Derived.Deep.QuietTactic
import Derived.BigQuiet
import Derived.WideLaws
import Derived.Deep.DeepCutAuto
import Derived.Deep.CutBlock
import Derived.Deep.RegionHeld3
import Derived.Laws.Rows
import Derived.Lib.AppendStr
import Derived.ArgAppend
import Derived.Laws.IdiomCopy
import Derived.OrdersHeld
import Derived.Laws.BitsLemmas
import Derived.RowKit
import Derived.WalkSpells
import Derived.BigRegion
import Derived.Lib.Hide
import Derived.OneCell
import Derived.RegionTactic
import Derived.ChangeAlike
import Derived.Lib.SlBytesConst
/- Contracts of package sha2: narrow, wide, of, block, turn, small, big. -/
namespace Go.Proofs.YtmblnflfklmmkaaDoor.Sh
open Go.Proofs.YtmblnflfklmmkaaDoor.Dk
open Go.RowKit Go.Proofs.YtmblnflfklmmkaaDoorW.PrintWords Go.Proofs.YtmblnflfklmmkaaDoorW.PrintLast Go.Proofs.YtmblnflfklmmkaaDoorW.PrintMore
set_option linter.unusedVariables false
set_option linter.unusedSimpArgs false
set_option maxRecDepth 30000
/-- The shapes' cells. -/
def narrowA : Array Value := #[.int .i64 4, .int .i64 32, .int .i64 64, .int .i64 7, .int .i64 18, .int .i64 3, .int .i64 17, .int .i64 19, .int .i64 10, .int .i64 2, .int .i64 13, .int .i64 22, .int .i64 6, .int .i64 11, .int .i64 25]
def narrowV : Value := .agg narrowA
def wideA : Array Value := #[.int .i64 8, .int .i64 64, .int .i64 80, .int .i64 1, .int .i64 8, .int .i64 7, .int .i64 19, .int .i64 61, .int .i64 6, .int .i64 28, .int .i64 34, .int .i64 39, .int .i64 14, .int .i64 18, .int .i64 41]
def wideV : Value := .agg wideA
theorem narrowA_one : narrowA.all (·.oneCell') = true := by kernel_rfl
theorem info120 : (Tryd.prog.info? 120).map (·.size) = some narrowA.size := by kernel_rfl
def zeros15 : Array Value := (List.replicate 15 (.int .i64 0)).toArray
theorem run_alloc120 (w : World) : (Instr.alloc 120 true (.tuple #[])).run Tryd.prog w = .ok (.pointer (some ⟨w.heap.size, 0, none⟩)) (w.alloc (.cells zeros15 120)) := by kernel_rfl
theorem narrow_calls (w : World) : Calls Tryd.prog 88 #[] w fun e w' => e = .returned narrowV ∧ Below w.heap.size w w' := by
  have hb := Below.refl w.heap.size w
  go_enter Tryd.func88, Tryd.ntmps88
  go_wp2
  refine bodyPost_ret (results_cell_row rfl _ _ _ _ _ _ _ rfl (heap_alloc_new _ _) Tryd.underlying120 rfl (by kernel_rfl)) rfl ?_
  exact ⟨rfl, below_alloc hb _⟩
theorem wide_calls (w : World) : Calls Tryd.prog 89 #[] w fun e w' => e = .returned wideV ∧ Below w.heap.size w w' := by
  have hb := Below.refl w.heap.size w
  go_enter Tryd.func89, Tryd.ntmps89
  go_wp2
  refine bodyPost_ret (results_cell_row rfl _ _ _ _ _ _ _ rfl (heap_alloc_new _ _) Tryd.underlying120 rfl (by kernel_rfl)) rfl ?_
  exact ⟨rfl, below_alloc hb _⟩
theorem block_calls (w : World) : Calls Tryd.prog 92 #[narrowV] w fun e w' => e = .returned (.int .i64 64) ∧ Below w.heap.size w w' := by
  have hb := Below.refl w.heap.size w
  unfold narrowV narrowA
  go_enter Tryd.func92, Tryd.ntmps92
  go_wp2
  go_ret
  exact ⟨rfl, below_alloc hb _⟩
theorem zeros15_size : zeros15.size = 15 := by simp [zeros15]
attribute [irreducible] zeros15
theorem of_calls (w : World) : Calls Tryd.prog 77 #[.int .i64 256] w fun e w' => e = .returned (.tuple #[narrowV, .bool true]) ∧ Below w.heap.size w w' := by
  have hb := Below.refl w.heap.size w
  go_enter Tryd.func77, Tryd.ntmps77
  go_wp2_with (first | (refine wpList_alloc rfl rfl _ rfl zeros15 (run_alloc120 _) ?_) | (go_at_call 88; (with_reducible refine (narrow_calls _).mono ?_); rintro e w1 ⟨rfl, hb1⟩; have HK := Aside0.mk ((hb1.block w.heap.size (blk_lt (heap_alloc_new w (.cells zeros15 120)))).trans (heap_alloc_new w (.cells zeros15 120))); have HB1 := Aside0.mk (Below.trans (below_alloc hb (.cells zeros15 120)) (hb1.mono (Nat.le_of_lt (blk_lt (heap_alloc_new w (.cells zeros15 120)))))); unfold narrowV; clear hb1; have HST := Aside0.mk (run_store_block (P := Tryd.prog) w.heap.size 120 zeros15 narrowA 120 HK.out info120 (by simp [zeros15_size, narrowA]) narrowA_one)) | (refine store_at (ty := 120) (.tmp 2) (.tmp 7) rfl rfl rfl HST.out rfl rfl ?_))
  refine bodyPost_ret (results_ct rfl _ _ _ _ _ _ _ rfl (setRow_heap _ _ _ narrowA _ _ HK.out) Tryd.underlying120 rfl (by kernel_rfl)) rfl ?_
  exact ⟨rfl, below_setR HB1.out _⟩
def turnM (x b : Int) : Int := Go.bits .or .u32 (shr .u32 x b) (shl .u32 x (32 - b))
set_option maxHeartbeats 8000000 in
theorem turn_calls (x b : Int) (h0 : 0 ≤ b) (h1 : b ≤ 32) (w : World) : Calls Tryd.prog 104 #[.int .u32 x, .int .i64 b, .int .i64 32] w fun e w' => e = .returned (.int .u32 (turnM x b)) ∧ Drawn0 w w' := by
  have hw : wrap64 (32 - b) = 32 - b := by unfold wrap64; omega
  obtain ⟨c, hc⟩ : ∃ c, c = 32 - b := ⟨_, rfl⟩
  have hc0 : 0 ≤ c := by omega
  have hc1 : c ≤ 32 := by omega
  obtain ⟨j1, hj1⟩ : ∃ j, shr .u32 x b = j := ⟨_, rfl⟩
  obtain ⟨j2, hj2⟩ : ∃ j, shl .u32 x c = j := ⟨_, rfl⟩
  have HT := Lib.hid (show turnM x b = Go.bits .or .u32 j1 j2 by rw [turnM, ← hj1, ← hj2, hc])
  have h1z : (x / 2 ^ min b.toNat 32) = j1 := hj1
  have h1y : (x / 2 ^ b.toNat) = j1 := shr_small hj1 h1
  have h2z : (IntKind.u32.wrap (x * 2 ^ min c.toNat 32)) = j2 := hj2
  have h2y : (IntKind.u32.wrap (x * 2 ^ c.toNat)) = j2 := shl_small hj2 hc1
  have hw2 : (IntKind.i64.wrap (32 - b)) = c := (i64_w _).trans (hw.trans hc.symm)
  have hw3 : wrap64 (32 - b) = c := hw.trans hc.symm
  clear hj1 hj2 hc hw
  go_enter Tryd.func104, Tryd.ntmps104
  go_wp2
  repeat (go_quiet (fail); try go_wp2)
  go_ret
  exact ⟨by rw [HT.out] <;> rfl, by repeat (first | exact Drawn0.refl _ | apply Drawn0.step)⟩

theorem cellB3 {w : World} {b t : Nat} {cs : Array Value} {m : Nat × Nat} (h : w.heap[b]? = some (.cells cs t m)) (j : Nat) (v : Value) (hj : cs[j]? = some v) : w.cell? ⟨b, j, none⟩ = some v := by simp [World.cell?, h, hj]
def bigM (x b0 b1 b2 : Int) : Int := Go.bits .xor .u32 (Go.bits .xor .u32 (turnM x b0) (turnM x b1)) (turnM x b2)
def smallM (x b0 b1 b2 : Int) : Int := Go.bits .xor .u32 (Go.bits .xor .u32 (turnM x b0) (turnM x b1)) (shr .u32 x b2)
set_option maxHeartbeats 8000000 in
theorem big_calls (x b0 b1 b2 : Int) (h0a : 0 ≤ b0) (h0b : b0 ≤ 32) (h1a : 0 ≤ b1) (h1b : b1 ≤ 32) (h2a : 0 ≤ b2) (h2b : b2 ≤ 32) (w : World) : Calls Tryd.prog 100 #[.int .u32 x, .agg #[.int .i64 b0, .int .i64 b1, .int .i64 b2], .int .i64 32] w fun e w' => e = .returned (.int .u32 (bigM x b0 b1 b2)) ∧ Below w.heap.size w w' := by
  have HK := Aside0.mk (show (w.alloc (.cells #[.int .i64 b0, .int .i64 b1, .int .i64 b2] 118)).drew.heap[w.heap.size]? = some (.cells #[.int .i64 b0, .int .i64 b1, .int .i64 b2] 118 (0, 0)) from heap_alloc_new w _)
  have HB := Aside0.mk (show Below w.heap.size w (w.alloc (.cells #[.int .i64 b0, .int .i64 b1, .int .i64 b2] 118)).drew from below_drew (below_alloc (Below.refl w.heap.size w) _))
  go_enter Tryd.func100, Tryd.ntmps100
  go_wp2
  refine start_ (n := 18) (S := fun w' => w'.cell? ⟨w.heap.size, 0, none⟩ = some (.int .i64 b0) ∧ w'.cell? ⟨w.heap.size, 1, none⟩ = some (.int .i64 b1) ∧ w'.cell? ⟨w.heap.size, 2, none⟩ = some (.int .i64 b2)) (ds := []) (bz 18 0) (by kernel_rfl) rfl rfl ⟨(cellB3 HK.out 0 _ rfl), (cellB3 HK.out 1 _ rfl), (cellB3 HK.out 2 _ rfl)⟩ (fun hHeld => ?_)
  refine pz 0 (some 7) (bz 18 1) ?_
  refine pz 1 (some 8) (bz 18 3) ?_
  refine pz 3 (some 10) (bz 18 11) ?_
  refine pz 5 (some 12) (bz 18 43) ?_
  refine pz 6 (some 13) (bz 18 107) ?_
  refine pz 8 (some 15) (bz 18 363) ?_
  refine pz 11 (some 18) (bz 18 2411) ?_
  refine pz 12 (some 19) (bz 18 6507) ?_
  refine pz 14 (some 21) (bz 18 22891) ?_
  refine tz3 2 (some 9) (bz 18 22895) hHeld ?_
  refine tz3 7 (some 14) (bz 18 23023) hHeld ?_
  refine tz3 13 (some 20) (bz 18 31215) hHeld ?_
  refine one_ (i := 4) (N := some 11) (bz 18 31231) rfl rfl (by kernel_rfl) (by decide) (fun K hK => ?_)
  refine goes_ Tryd.func104 (by kernel_rfl) rfl #[.int .u32 x, .int .i64 b0, .int .i64 32] (by rfl) rfl rfl (by simp only [List.map_toArray, List.map_cons, List.map_nil]; rfl) ?_
  with_reducible refine (turn_calls x b0 h0a h0b _).mono ?_
  rintro e w1 ⟨rfl, hd⟩
  refine ⟨_, rfl, ?_⟩
  have HK1 := Aside0.mk ((hd.below.block w.heap.size (blk_lt HK.out)).trans HK.out)
  have HB1 := Aside0.mk (Below.trans HB.out (hd.below.mono HB.out.size))
  clear hd
  refine hK.out _ _ ⟨(cellB3 HK1.out 0 _ rfl), (cellB3 HK1.out 1 _ rfl), (cellB3 HK1.out 2 _ rfl)⟩ (fun hHeld => ?_)
  clear hK K
  refine norm_ (a' := ?_) ?_ ?_
  rotate_left
  · show Act.put _ (some 11) _ = _
    simp only [Act.put, List.setIfInBounds_toArray, List.set_cons_zero, List.set_cons_succ, i64_w, i32_w]
    rfl
  refine one_ (i := 9) (N := some 16) (bz 18 31743) rfl rfl (by kernel_rfl) (by decide) (fun K hK => ?_)
  refine goes_ Tryd.func104 (by kernel_rfl) rfl #[.int .u32 x, .int .i64 b1, .int .i64 32] (by rfl) rfl rfl (by simp only [List.map_toArray, List.map_cons, List.map_nil]; rfl) ?_
  with_reducible refine (turn_calls x b1 h1a h1b _).mono ?_
  rintro e w2 ⟨rfl, hd⟩
  refine ⟨_, rfl, ?_⟩
  have HK2 := Aside0.mk ((hd.below.block w.heap.size (blk_lt HK1.out)).trans HK1.out)
  have HB2 := Aside0.mk (Below.trans HB1.out (hd.below.mono HB1.out.size))
  clear hd
  refine hK.out _ _ ⟨(cellB3 HK2.out 0 _ rfl), (cellB3 HK2.out 1 _ rfl), (cellB3 HK2.out 2 _ rfl)⟩ (fun hHeld => ?_)
  clear hK K
  refine norm_ (a' := ?_) ?_ ?_
  rotate_left
  · show Act.put _ (some 16) _ = _
    simp only [Act.put, List.setIfInBounds_toArray, List.set_cons_zero, List.set_cons_succ, i64_w, i32_w]
    rfl
  refine pz 10 (some 17) (bz 18 32767) ?_
  refine one_ (i := 15) (N := some 22) (bz 18 65535) rfl rfl (by kernel_rfl) (by decide) (fun K hK => ?_)
  refine goes_ Tryd.func104 (by kernel_rfl) rfl #[.int .u32 x, .int .i64 b2, .int .i64 32] (by rfl) rfl rfl (by simp only [List.map_toArray, List.map_cons, List.map_nil]; rfl) ?_
  with_reducible refine (turn_calls x b2 h2a h2b _).mono ?_
  rintro e w3 ⟨rfl, hd⟩
  refine ⟨_, rfl, ?_⟩
  have HK3 := Aside0.mk ((hd.below.block w.heap.size (blk_lt HK2.out)).trans HK2.out)
  have HB3 := Aside0.mk (Below.trans HB2.out (hd.below.mono HB2.out.size))
  clear hd
  refine hK.out _ _ ⟨(cellB3 HK3.out 0 _ rfl), (cellB3 HK3.out 1 _ rfl), (cellB3 HK3.out 2 _ rfl)⟩ (fun hHeld => ?_)
  clear hK K
  refine norm_ (a' := ?_) ?_ ?_
  rotate_left
  · show Act.put _ (some 22) _ = _
    simp only [Act.put, List.setIfInBounds_toArray, List.set_cons_zero, List.set_cons_succ, i64_w, i32_w]
    rfl
  refine pz 16 (some 23) (bz 18 131071) ?_
  refine pz 17 (some 6) (bz 18 262143) ?_
  refine done_ (by kernel_rfl) ?_
  clear hHeld
  go_wp2
  go_ret
  exact ⟨by first | rfl | (unfold bigM; rw [HJ.out] <;> rfl), HB3.out⟩
set_option maxHeartbeats 8000000 in
theorem small_calls (x b0 b1 b2 : Int) (h0a : 0 ≤ b0) (h0b : b0 ≤ 32) (h1a : 0 ≤ b1) (h1b : b1 ≤ 32) (h2a : 0 ≤ b2) (h2b : b2 ≤ 32) (w : World) : Calls Tryd.prog 103 #[.int .u32 x, .agg #[.int .i64 b0, .int .i64 b1, .int .i64 b2], .int .i64 32] w fun e w' => e = .returned (.int .u32 (smallM x b0 b1 b2)) ∧ Below w.heap.size w w' := by
  have HK := Aside0.mk (show (w.alloc (.cells #[.int .i64 b0, .int .i64 b1, .int .i64 b2] 118)).drew.heap[w.heap.size]? = some (.cells #[.int .i64 b0, .int .i64 b1, .int .i64 b2] 118 (0, 0)) from heap_alloc_new w _)
  have HB := Aside0.mk (show Below w.heap.size w (w.alloc (.cells #[.int .i64 b0, .int .i64 b1, .int .i64 b2] 118)).drew from below_drew (below_alloc (Below.refl w.heap.size w) _))
  obtain ⟨j3, hj3⟩ : ∃ j, shr .u32 x b2 = j := ⟨_, rfl⟩
  have h3z : (x / 2 ^ min b2.toNat 32) = j3 := hj3
  have h3y : (x / 2 ^ b2.toNat) = j3 := shr_small hj3 h2b
  have HJ := Lib.hid hj3
  clear hj3
  go_enter Tryd.func103, Tryd.ntmps103
  go_wp2
  refine start_ (n := 17) (S := fun w' => w'.cell? ⟨w.heap.size, 0, none⟩ = some (.int .i64 b0) ∧ w'.cell? ⟨w.heap.size, 1, none⟩ = some (.int .i64 b1) ∧ w'.cell? ⟨w.heap.size, 2, none⟩ = some (.int .i64 b2)) (ds := []) (bz 17 0) (by kernel_rfl) rfl rfl ⟨(cellB3 HK.out 0 _ rfl), (cellB3 HK.out 1 _ rfl), (cellB3 HK.out 2 _ rfl)⟩ (fun hHeld => ?_)
  refine pz 0 (some 7) (bz 17 1) ?_
  refine pz 1 (some 8) (bz 17 3) ?_
  refine pz 3 (some 10) (bz 17 11) ?_
  refine pz 5 (some 12) (bz 17 43) ?_
  refine pz 6 (some 13) (bz 17 107) ?_
  refine pz 8 (some 15) (bz 17 363) ?_
  refine pz 11 (some 18) (bz 17 2411) ?_
  refine pz 12 (some 19) (bz 17 6507) ?_
  refine tz3 2 (some 9) (bz 17 6511) hHeld ?_
  refine tz3 7 (some 14) (bz 17 6639) hHeld ?_
  refine tz3 13 (some 20) (bz 17 14831) hHeld ?_
  refine pz 14 (some 21) (bz 17 31215) ?_
  refine one_ (i := 4) (N := some 11) (bz 17 31231) rfl rfl (by kernel_rfl) (by decide) (fun K hK => ?_)
  refine goes_ Tryd.func104 (by kernel_rfl) rfl #[.int .u32 x, .int .i64 b0, .int .i64 32] (by rfl) rfl rfl (by simp only [List.map_toArray, List.map_cons, List.map_nil]; rfl) ?_
  with_reducible refine (turn_calls x b0 h0a h0b _).mono ?_
  rintro e w1 ⟨rfl, hd⟩
  refine ⟨_, rfl, ?_⟩
  have HK1 := Aside0.mk ((hd.below.block w.heap.size (blk_lt HK.out)).trans HK.out)
  have HB1 := Aside0.mk (Below.trans HB.out (hd.below.mono HB.out.size))
  clear hd
  refine hK.out _ _ ⟨(cellB3 HK1.out 0 _ rfl), (cellB3 HK1.out 1 _ rfl), (cellB3 HK1.out 2 _ rfl)⟩ (fun hHeld => ?_)
  clear hK K
  refine norm_ (a' := ?_) ?_ ?_
  rotate_left
  · show Act.put _ (some 11) _ = _
    simp only [Act.put, List.setIfInBounds_toArray, List.set_cons_zero, List.set_cons_succ, i64_w, i32_w]
    rfl
  refine one_ (i := 9) (N := some 16) (bz 17 31743) rfl rfl (by kernel_rfl) (by decide) (fun K hK => ?_)
  refine goes_ Tryd.func104 (by kernel_rfl) rfl #[.int .u32 x, .int .i64 b1, .int .i64 32] (by rfl) rfl rfl (by simp only [List.map_toArray, List.map_cons, List.map_nil]; rfl) ?_
  with_reducible refine (turn_calls x b1 h1a h1b _).mono ?_
  rintro e w2 ⟨rfl, hd⟩
  refine ⟨_, rfl, ?_⟩
  have HK2 := Aside0.mk ((hd.below.block w.heap.size (blk_lt HK1.out)).trans HK1.out)
  have HB2 := Aside0.mk (Below.trans HB1.out (hd.below.mono HB1.out.size))
  clear hd
  refine hK.out _ _ ⟨(cellB3 HK2.out 0 _ rfl), (cellB3 HK2.out 1 _ rfl), (cellB3 HK2.out 2 _ rfl)⟩ (fun hHeld => ?_)
  clear hK K
  refine norm_ (a' := ?_) ?_ ?_
  rotate_left
  · show Act.put _ (some 16) _ = _
    simp only [Act.put, List.setIfInBounds_toArray, List.set_cons_zero, List.set_cons_succ, i64_w, i32_w]
    rfl
  refine pz 10 (some 17) (bz 17 32767) ?_
  refine pz 15 (some 22) (bz 17 65535) ?_
  refine pz 16 (some 6) (bz 17 131071) ?_
  refine done_ (by kernel_rfl) ?_
  clear hHeld
  go_wp2
  go_ret
  exact ⟨by first | rfl | (unfold smallM; rw [HJ.out] <;> rfl), HB2.out⟩
end Go.Proofs.YtmblnflfklmmkaaDoor.Sh
/- Contracts of package sha2: the tables, begin. -/
namespace Go.Proofs.YtmblnflfklmmkaaDoor.Sh
open Go.Proofs.YtmblnflfklmmkaaDoor.Dk
open Go.RowKit Go.Proofs.YtmblnflfklmmkaaDoorW.PrintWords Go.Proofs.YtmblnflfklmmkaaDoorW.PrintLast Go.Proofs.YtmblnflfklmmkaaDoorW.PrintMore
set_option linter.unusedVariables false
set_option linter.unusedSimpArgs false
set_option maxRecDepth 30000
def startsL : List Int := [7640891576956012808, 13503953896175478587, 4354685564936845355, 11912009170470909681, 5840696475078001361, 11170449401992604703, 2270897969802886507, 6620516959819538809]
def constsL : List Int := [4794697086780616226, 8158064640168781261, 13096744586834688815, 16840607885511220156, 4131703408338449720, 6480981068601479193, 10538285296894168987, 12329834152419229976, 15566598209576043074, 1334009975649890238, 2608012711638119052, 6128411473006802146, 8268148722764581231, 9286055187155687089, 11230858885718282805, 13951009754708518548, 16472876342353939154, 17275323862435702243, 1135362057144423861, 2597628984639134821, 3308224258029322869, 5365058923640841347, 6679025012923562964, 8573033837759648693, 10970295158949994411, 12119686244451234320, 12683024718118986047, 13788192230050041572, 14330467153632333762, 15395433587784984357, 489312712824947311, 1452737877330783856, 2861767655752347644, 3322285676063803686, 5560940570517711597, 5996557281743188959, 7280758554555802590, 8532644243296465576, 9350256976987008742, 10552545826968843579, 11727347734174303076, 12113106623233404929, 14000437183269869457, 14369950271660146224, 15101387698204529176, 15463397548674623760, 17586052441742319658, 1182934255886127544, 1847814050463011016, 2177327727835720531, 2830643537854262169, 3796741975233480872, 4115178125766777443, 5681478168544905931, 6601373596472566643, 7507060721942968483, 8399075790359081724, 8693463985226723168, 9568029438360202098, 10144078919501101548, 10430055236837252648, 11840083180663258601, 13761210420658862357, 14299343276471374635, 14566680578165727644, 15097957966210449927, 16922976911328602910, 17689382322260857208, 500013540394364858, 748580250866718886, 1242879168328830382, 1977374033974150939, 2944078676154940804, 3659926193048069267, 4368137639120453308, 4836135668995329356, 5532061633213252278, 6448918945643986474, 6902733635092675308, 7801388544844847127]
/-- The two tables, as the program's text lays them. -/
structure Glob (w : World) : Prop where
  s : ∀ i, i < 8 → w.cell? ⟨0, i, none⟩ = some (.int .u64 (startsL.getD i 0))
  c : ∀ i, i < 80 → w.cell? ⟨1, i, none⟩ = some (.int .u64 (constsL.getD i 0))
  lt : 0 < w.heap.size ∧ 1 < w.heap.size
variable {w w1 w2 wr : World}
theorem cell_block {w w1 : World} {k : Nat} (h : w1.heap[k]? = w.heap[k]?) (j : Nat) : w1.cell? ⟨k, j, none⟩ = w.cell? ⟨k, j, none⟩ := by simp [World.cell?, h]
theorem Glob.upd {F : Nat → Prop} (h : Glob w) (hu : Upd w w1 F) (h0 : ¬ F 0) (h1 : ¬ F 1) : Glob w1 where
  s := fun i hi => (cell_block (hu.block 0 (by have := h.lt; omega) h0) i).trans (h.s i hi)
  c := fun i hi => (cell_block (hu.block 1 (by have := h.lt; omega) h1) i).trans (h.c i hi)
  lt := ⟨Nat.lt_of_lt_of_le h.lt.1 hu.size, Nat.lt_of_lt_of_le h.lt.2 hu.size⟩
theorem Glob.below (h : Glob w) (hb : Below w.heap.size w w1) : Glob w1 := h.upd (F := fun _ => False) (Upd.of_below hb) id id
theorem put_cell {g t : Nat} {cs : Array Value} (hb : w.heap[g]? = some (.cells cs t (0, 0))) (i : Nat) (u : Value) : (w.setCell ⟨g, i, none⟩ u).heap[g]? = some (.cells (cs.setIfInBounds i u) t (0, 0)) := by rw [heap_setCell_same w g i _ t u hb]
theorem put_other {g k : Nat} {o : Obj} (i : Nat) (u : Value) (hk : k ≠ g) (hb : w.heap[k]? = some o) : (w.setCell ⟨g, i, none⟩ u).heap[k]? = some o := (Below.heap_setCell w ⟨g, i, none⟩ u k hk).trans hb
theorem nums_set (k : IntKind) (xs : List Int) (i : Nat) (v : Int) : (nums k xs).toArray.setIfInBounds i (.int k v) = (nums k (xs.set i v)).toArray := by simp [nums, List.map_set]
theorem nums_getD {k : IntKind} {xs : List Int} {i : Nat} (h : i < xs.length) : (nums k xs).toArray[i]? = some (.int k (xs.getD i 0)) := by simp [nums, h]
theorem cell_nums {g t : Nat} {k : IntKind} {xs : List Int} (hb : w.heap[g]? = some (.cells (nums k xs).toArray t (0, 0))) {i : Nat} (h : i < xs.length) : w.cell? ⟨g, i, none⟩ = some (.int k (xs.getD i 0)) := by rw [cell_of_row w g i _ _ _ hb, nums_getD h]
theorem free_row {g t : Nat} {cs : Array Value} (hb : w.heap[g]? = some (.cells cs t (0, 0))) (i : Nat) : w.frozen? ⟨g, i, none⟩ = false := by simp [World.frozen?, hb]
def z8 (k : IntKind) : Array Value := (nums k (List.replicate 8 0)).toArray
theorem run_alloc124 (w : World) : (Instr.alloc 124 true (.tuple #[])).run Tryd.prog w = .ok (.pointer (some ⟨w.heap.size, 0, none⟩)) (w.alloc (.cells (z8 .u32) 124)) := by kernel_rfl
theorem run_alloc125 (w : World) : (Instr.alloc 125 true (.tuple #[])).run Tryd.prog w = .ok (.pointer (some ⟨w.heap.size, 0, none⟩)) (w.alloc (.cells (z8 .u64) 125)) := by kernel_rfl
theorem info124 (x : List Int) (h : x.length = 8) : (Tryd.prog.info? 124).map (·.size) = some (nums .u32 x).toArray.size := by rw [List.size_toArray, nums_length, h]; kernel_rfl
theorem info125 (x : List Int) (h : x.length = 8) : (Tryd.prog.info? 125).map (·.size) = some (nums .u64 x).toArray.size := by rw [List.size_toArray, nums_length, h]; kernel_rfl
def begR (f : Nat → Int) : Nat → List Int
  | 0 => List.replicate 8 0
  | i + 1 => (begR f i).set i (f i)
theorem begR_length (f : Nat → Int) : ∀ i, (begR f i).length = 8
  | 0 => rfl
  | i + 1 => by rw [begR, List.length_set]; exact begR_length f i
def beg32 (i : Nat) : Int := startsL.getD i 0 / 4294967296 % 4294967296
def beg64 (i : Nat) : Int := startsL.getD i 0
def begin32L : List Int := begR beg32 8
def begin64L : List Int := begR beg64 8
attribute [irreducible] beg32 beg64

theorem nth3_2 (w : World) (a b c : Obj) : (((w.alloc a).alloc b).alloc c).heap[w.heap.size + 1 + 1]? = some c := by
  have h := heap_alloc_new ((w.alloc a).alloc b) c
  have e : ((w.alloc a).alloc b).heap.size = w.heap.size + 1 + 1 := by simp [World.size_alloc]
  rwa [e] at h
theorem nth2_1 (w : World) (a b : Obj) : ((w.alloc a).alloc b).heap[w.heap.size + 1]? = some b := by
  have h := heap_alloc_new (w.alloc a) b
  have e : (w.alloc a).heap.size = w.heap.size + 1 := by simp [World.size_alloc]
  rwa [e] at h
theorem nth3_1 (w : World) (a b c : Obj) : (((w.alloc a).alloc b).alloc c).heap[w.heap.size + 1]? = some b := blk_below (nth2_1 w a b) (below_alloc (Below.refl _ _) c)
theorem nth3_0 (w : World) (a b c : Obj) : (((w.alloc a).alloc b).alloc c).heap[w.heap.size]? = some a := blk_below (blk_below (heap_alloc_new w a) (below_alloc (Below.refl _ _) b)) (below_alloc (Below.refl _ _) c)
theorem below3 (w : World) (a b c : Obj) : Below w.heap.size w (((w.alloc a).alloc b).alloc c) := below_alloc (below_alloc (below_alloc (Below.refl w.heap.size w) a) b) c
theorem below_row {B : Nat} (h : Below B w w1) {g : Nat} (hg : B ≤ g) (cs : Array Value) : Below B w (w1.setRow g cs) := ⟨h.os, h.tape, h.output, by rw [setRow_size]; exact h.size, fun i hi => (setRow_other _ _ _ _ (by omega)).trans (h.block i hi)⟩
theorem below_put {B : Nat} (h : Below B w w1) {g : Nat} (hg : B ≤ g) (j : Nat) (u : Value) : Below B w (w1.setCell ⟨g, j, none⟩ u) := ⟨h.os, h.tape, h.output, by simpa [World.setCell] using h.size, fun i hi => (Below.heap_setCell w1 ⟨g, j, none⟩ u i (by show i ≠ g; omega)).trans (h.block i hi)⟩

set_option maxHeartbeats 8000000 in
theorem begin64_calls (hg : Glob w) : Calls Tryd.prog 91 #[.agg wideA] w fun e w' => e = .returned (.agg (nums .u64 begin64L).toArray) ∧ Below w.heap.size w w' := by
  have HG := Aside0.mk hg
  have HB0 := Aside0.mk (below3 w (.cells wideA 120) (.cells (z8 .u64) 125) (.cells (z8 .u64) 125))
  have HK0 := Aside0.mk (nth3_0 w (.cells wideA 120) (.cells (z8 .u64) 125) (.cells (z8 .u64) 125))
  have HK1 := Aside0.mk (nth3_1 w (.cells wideA 120) (.cells (z8 .u64) 125) (.cells (z8 .u64) 125))
  have HK2 := Aside0.mk (nth3_2 w (.cells wideA 120) (.cells (z8 .u64) 125) (.cells (z8 .u64) 125))
  clear hg
  go_enter Tryd.func91, Tryd.ntmps91
  go_wp2_with (first | (refine wpList_alloc rfl rfl _ rfl (z8 .u64) (run_alloc125 _) ?_))
  go_loopw [4, 5] (fun v4 v5 w' => ∃ i : Nat, v5 = .int .i64 i ∧ i ≤ 8 ∧ Aside0 (w'.heap[w.heap.size]? = some (.cells wideA 120 (0, 0))) ∧ Aside0 (w'.heap[w.heap.size + 1]? = some (.cells (z8 .u64) 125 (0, 0))) ∧ Aside0 (w'.heap[w.heap.size + 1 + 1]? = some (.cells (nums .u64 (begR beg64 i)).toArray 125 (0, 0))) ∧ Aside0 (Below w.heap.size w w')) (fun v4 v5 _ => 8 - (intOf v5).toNat)
  case atStart => exact ⟨0, rfl, Nat.zero_le _, HK0, HK1, HK2, HB0⟩
  case round =>
    clear HK0 HK1 HK2 HB0
    obtain ⟨i, rfl, hi, HK0, HK1, HK2, HB0⟩ := hrel
    by_cases hlt : i < 8
    · obtain ⟨s, hs⟩ : ∃ s, startsL.getD i 0 = s := ⟨_, rfl⟩
      have HS := Aside0.mk (show wr.drew.cell? ⟨0, i, none⟩ = some (.int .u64 s) from by rw [← hs]; exact (HG.out.below HB0.out).s i hlt)
      have HF := Aside0.mk (show wr.drew.cell? ⟨w.heap.size, 1, none⟩ = some (.int .i64 64) from cellB3 HK0.out 1 _ rfl)
      have HN := Aside0.mk (show beg64 i = s by rw [← hs]; unfold beg64; rfl)
      have HC := Aside0.mk (show (wr.drew.setCell ⟨w.heap.size + 1 + 1, i, none⟩ (.int .u64 (s))).heap[w.heap.size + 1 + 1]? = some (.cells (nums .u64 (begR beg64 (i + 1))).toArray 125 (0, 0)) from by have h := put_cell (w := wr.drew) HK2.out i (.int .u64 (s)); rw [nums_set] at h; rw [begR, HN.out]; exact h)
      have hc : wr.drew.cell? ⟨w.heap.size + 1 + 1, i, none⟩ = some (.int .u64 ((begR beg64 i).getD i 0)) := cell_nums (w := wr.drew) HK2.out (by rw [begR_length]; exact hlt)
      have hf := free_row (w := wr.drew) HK2.out i
      have HC0 := Aside0.mk (put_other (w := wr.drew) (g := w.heap.size + 1 + 1) i (.int .u64 (s)) (by omega) HK0.out)
      have HC1 := Aside0.mk (put_other (w := wr.drew) (g := w.heap.size + 1 + 1) i (.int .u64 (s)) (by omega) HK1.out)
      have HCB := Aside0.mk (below_put (below_drew HB0.out) (g := w.heap.size + 1 + 1) (by omega) i (.int .u64 (s)))
      clear hs
      have hw32 : wrap64 32 = 32 := by simp [wrap64]
      have hw0 : wrap64 0 = 0 := by simp [wrap64]
      go_wp2
      refine start_ (n := 10) (S := fun w' => w'.cell? ⟨0, i, none⟩ = some (.int .u64 s) ∧ w'.cell? ⟨w.heap.size, 1, none⟩ = some (.int .i64 64)) (ds := [9]) (bz 10 0) (by kernel_rfl) rfl rfl ⟨HS.out, HF.out⟩ (fun hHeld => ?_)
      refine pz 0 (some 8) (bz 10 1) ?_
      refine pz 1 (some 9) (bz 10 3) ?_
      refine pz 2 (some 10) (bz 10 7) ?_
      refine pz 4 (some 12) (bz 10 23) ?_
      refine tz2 3 (some 11) (bz 10 31) hHeld ?_
      refine tz2 5 (some 13) (bz 10 63) hHeld ?_
      refine pz 6 (some 14) (bz 10 127) ?_
      refine pz 7 (some 15) (bz 10 255) ?_
      refine pz 8 (some 16) (bz 10 511) ?_
      refine last_ (i := 9) (N := none) (bz 10 1023) rfl rfl (by kernel_rfl) (by decide) (fun K hK => ?_)
      refine skip_ (w1 := ?_) (by rfl) rfl ?_ ?_
      rotate_left
      · go_simp
        rfl
      refine hK.out _ _ ?_
      clear hK K
      refine done_ (by kernel_rfl) ?_
      clear hHeld
      go_wp2
      go_roundw
      case rel => exact ⟨i + 1, by go_num, by omega, HC0, HC1, HC, HCB⟩
      case measure => simp [intOf]; omega
    · obtain rfl : i = 8 := by omega
      have HL := Aside0.mk (run_loadAt_cells (P := Tryd.prog) (w := wr) 125 Tryd.underlying125 rfl (w.heap.size + 1 + 1) 0 (nums .u64 (begR beg64 8)) (by rw [nums_length, begR_length]; kernel_rfl) (fun j u hu => by rw [Nat.zero_add, cell_of_row _ _ j _ _ _ HK2.out]; simpa using hu))
      have HST := Aside0.mk (run_store_block (P := Tryd.prog) (w.heap.size + 1) 125 (z8 .u64) (nums .u64 (begR beg64 8)).toArray 125 HK1.out (info125 _ (begR_length _ _)) (by simp [z8, nums_length, begR_length]) (by simp [nums, List.all_eq_true]; intros; rfl))
      go_wp2_with (first | (refine load_at (ty := 125) (.tmp 3) rfl rfl HL.out rfl ?_) | (refine store_at (ty := 125) (.tmp 2) (.tmp 18) rfl rfl rfl HST.out rfl rfl ?_))
      refine bodyPost_ret (results_cell_row rfl _ _ _ _ (nums .u64 (begR beg64 8)).toArray _ _ rfl (setRow_heap _ _ _ _ _ _ HK1.out) Tryd.underlying125 rfl (info125 _ (begR_length _ _))) rfl ?_
      exact ⟨rfl, below_row HB0.out (by omega) _⟩

set_option maxHeartbeats 8000000 in
theorem begin32_calls (hg : Glob w) : Calls Tryd.prog 90 #[.agg narrowA] w fun e w' => e = .returned (.agg (nums .u32 begin32L).toArray) ∧ Below w.heap.size w w' := by
  have HG := Aside0.mk hg
  have HB0 := Aside0.mk (below3 w (.cells narrowA 120) (.cells (z8 .u32) 124) (.cells (z8 .u32) 124))
  have HK0 := Aside0.mk (nth3_0 w (.cells narrowA 120) (.cells (z8 .u32) 124) (.cells (z8 .u32) 124))
  have HK1 := Aside0.mk (nth3_1 w (.cells narrowA 120) (.cells (z8 .u32) 124) (.cells (z8 .u32) 124))
  have HK2 := Aside0.mk (nth3_2 w (.cells narrowA 120) (.cells (z8 .u32) 124) (.cells (z8 .u32) 124))
  clear hg
  go_enter Tryd.func90, Tryd.ntmps90
  go_wp2_with (first | (refine wpList_alloc rfl rfl _ rfl (z8 .u32) (run_alloc124 _) ?_))
  go_loopw [4, 5] (fun v4 v5 w' => ∃ i : Nat, v5 = .int .i64 i ∧ i ≤ 8 ∧ Aside0 (w'.heap[w.heap.size]? = some (.cells narrowA 120 (0, 0))) ∧ Aside0 (w'.heap[w.heap.size + 1]? = some (.cells (z8 .u32) 124 (0, 0))) ∧ Aside0 (w'.heap[w.heap.size + 1 + 1]? = some (.cells (nums .u32 (begR beg32 i)).toArray 124 (0, 0))) ∧ Aside0 (Below w.heap.size w w')) (fun v4 v5 _ => 8 - (intOf v5).toNat)
  case atStart => exact ⟨0, rfl, Nat.zero_le _, HK0, HK1, HK2, HB0⟩
  case round =>
    clear HK0 HK1 HK2 HB0
    obtain ⟨i, rfl, hi, HK0, HK1, HK2, HB0⟩ := hrel
    by_cases hlt : i < 8
    · obtain ⟨s, hs⟩ : ∃ s, startsL.getD i 0 = s := ⟨_, rfl⟩
      have HS := Aside0.mk (show wr.drew.cell? ⟨0, i, none⟩ = some (.int .u64 s) from by rw [← hs]; exact (HG.out.below HB0.out).s i hlt)
      have HF := Aside0.mk (show wr.drew.cell? ⟨w.heap.size, 1, none⟩ = some (.int .i64 32) from cellB3 HK0.out 1 _ rfl)
      have HN := Aside0.mk (show beg32 i = s / 4294967296 % 4294967296 by rw [← hs]; unfold beg32; rfl)
      have HC := Aside0.mk (show (wr.drew.setCell ⟨w.heap.size + 1 + 1, i, none⟩ (.int .u32 (s / 4294967296 % 4294967296))).heap[w.heap.size + 1 + 1]? = some (.cells (nums .u32 (begR beg32 (i + 1))).toArray 124 (0, 0)) from by have h := put_cell (w := wr.drew) HK2.out i (.int .u32 (s / 4294967296 % 4294967296)); rw [nums_set] at h; rw [begR, HN.out]; exact h)
      have hc : wr.drew.cell? ⟨w.heap.size + 1 + 1, i, none⟩ = some (.int .u32 ((begR beg32 i).getD i 0)) := cell_nums (w := wr.drew) HK2.out (by rw [begR_length]; exact hlt)
      have hf := free_row (w := wr.drew) HK2.out i
      have HC0 := Aside0.mk (put_other (w := wr.drew) (g := w.heap.size + 1 + 1) i (.int .u32 (s / 4294967296 % 4294967296)) (by omega) HK0.out)
      have HC1 := Aside0.mk (put_other (w := wr.drew) (g := w.heap.size + 1 + 1) i (.int .u32 (s / 4294967296 % 4294967296)) (by omega) HK1.out)
      have HCB := Aside0.mk (below_put (below_drew HB0.out) (g := w.heap.size + 1 + 1) (by omega) i (.int .u32 (s / 4294967296 % 4294967296)))
      clear hs
      have hw32 : wrap64 32 = 32 := by simp [wrap64]
      have hw0 : wrap64 0 = 0 := by simp [wrap64]
      go_wp2
      refine start_ (n := 11) (S := fun w' => w'.cell? ⟨0, i, none⟩ = some (.int .u64 s) ∧ w'.cell? ⟨w.heap.size, 1, none⟩ = some (.int .i64 32)) (ds := [10]) (bz 11 0) (by kernel_rfl) rfl rfl ⟨HS.out, HF.out⟩ (fun hHeld => ?_)
      refine pz 0 (some 8) (bz 11 1) ?_
      refine pz 1 (some 9) (bz 11 3) ?_
      refine pz 2 (some 10) (bz 11 7) ?_
      refine pz 4 (some 12) (bz 11 23) ?_
      refine tz2 3 (some 11) (bz 11 31) hHeld ?_
      refine tz2 5 (some 13) (bz 11 63) hHeld ?_
      refine pz 6 (some 14) (bz 11 127) ?_
      refine pz 7 (some 15) (bz 11 255) ?_
      refine pz 8 (some 16) (bz 11 511) ?_
      refine pz 9 (some 17) (bz 11 1023) ?_
      refine last_ (i := 10) (N := none) (bz 11 2047) rfl rfl (by kernel_rfl) (by decide) (fun K hK => ?_)
      refine skip_ (w1 := ?_) (by rfl) rfl ?_ ?_
      rotate_left
      · go_simp
        rfl
      refine hK.out _ _ ?_
      clear hK K
      refine done_ (by kernel_rfl) ?_
      clear hHeld
      go_wp2
      go_roundw
      case rel => exact ⟨i + 1, by go_num, by omega, HC0, HC1, HC, HCB⟩
      case measure => simp [intOf]; omega
    · obtain rfl : i = 8 := by omega
      have HL := Aside0.mk (run_loadAt_cells (P := Tryd.prog) (w := wr) 124 Tryd.underlying124 rfl (w.heap.size + 1 + 1) 0 (nums .u32 (begR beg32 8)) (by rw [nums_length, begR_length]; kernel_rfl) (fun j u hu => by rw [Nat.zero_add, cell_of_row _ _ j _ _ _ HK2.out]; simpa using hu))
      have HST := Aside0.mk (run_store_block (P := Tryd.prog) (w.heap.size + 1) 124 (z8 .u32) (nums .u32 (begR beg32 8)).toArray 124 HK1.out (info124 _ (begR_length _ _)) (by simp [z8, nums_length, begR_length]) (by simp [nums, List.all_eq_true]; intros; rfl))
      go_wp2_with (first | (refine load_at (ty := 124) (.tmp 3) rfl rfl HL.out rfl ?_) | (refine store_at (ty := 124) (.tmp 2) (.tmp 19) rfl rfl rfl HST.out rfl rfl ?_))
      refine bodyPost_ret (results_cell_row rfl _ _ _ _ (nums .u32 (begR beg32 8)).toArray _ _ rfl (setRow_heap _ _ _ _ _ _ HK1.out) Tryd.underlying124 rfl (info124 _ (begR_length _ _))) rfl ?_
      exact ⟨rfl, below_row HB0.out (by omega) _⟩

end Go.Proofs.YtmblnflfklmmkaaDoor.Sh
/- The laid tables, out of a row's own condition. -/
namespace Go.Proofs.YtmblnflfklmmkaaDoor.Sh
open Go.ChangeShapes Go.WideShapes Go.ChangeAt Go.RowKit
set_option linter.unusedVariables false
set_option maxRecDepth 100000
abbrev laidTabs : List (String × DataW Unit) := [("imprimatur/sha2.constants", Rows.laid_imprimatur_sha2_constants), ("imprimatur/sha2.starts", Rows.laid_imprimatur_sha2_starts)]
theorem door_met (os : Os) (args : Array Value) : laidMetH Tryd.prog laidTabs ((World.doorLaid Tryd.prog 400 os).forCall (fun _ _ => 0) ⟨#[], args, []⟩).memory :=
  laidMetH_of_parts3 (fuel := 8) (laidMet_of_run' 8 (by kernel_rfl) (by kernel_rfl)) (by kernel_rfl) (by kernel_rfl)
theorem gC : Tryd.prog.globalNamed "imprimatur/sha2.constants" = some 1 := by kernel_rfl
theorem gS : Tryd.prog.globalNamed "imprimatur/sha2.starts" = some 0 := by kernel_rfl
theorem tC : (Tryd.prog.globals[1]?).map (·.type) = some 144 := by kernel_rfl
theorem tS : (Tryd.prog.globals[0]?).map (·.type) = some 125 := by kernel_rfl
theorem c64 : Tryd.prog.cellsOf 27 = 1 := by kernel_rfl
theorem table {H : Type} {enc : TypeId × Value → H} {W : World} {base : Nat} {sp : Nat → Bool} {held : Bool} {t m : Nat} {cs : List Value} {L : List Int} {q : List MemPlace} (ht : Tryd.prog.underlying t = some (.array L.length 27)) (hd : DataW.trod enc Tryd.prog W base sp held m t cs = some (.agg (L.map fun k => .lit (.int .u64 k)), q)) : ∀ i, i < L.length → cs[i]? = some (.int .u64 (L.getD i 0)) := by
  obtain ⟨xs, m1, rfl, hx1, hlen, hn, hel⟩ := DataW.trod_array ht hd
  intro i hi
  have h0 := hel i hi
  rw [c64, Nat.mul_one] at h0
  simp only [Prod.mk.injEq, DataW.agg.injEq] at hx1
  have hg : (xs.map (·.1))[i]? = some (.lit (.int .u64 (L.getD i 0))) := by
    rw [← hx1.1, List.getElem?_map, List.getElem?_eq_getElem hi, List.getD_eq_getElem?_getD, List.getElem?_eq_getElem hi]
    rfl
  rw [List.getElem?_map, List.getElem?_eq_getElem (by omega)] at hg
  rw [List.getElem?_eq_getElem (by omega)] at h0
  obtain ⟨k, e1, e2, _⟩ := DataW.trod_int Tryd.underlying27 h0
  rw [e2] at hg
  simp at hg
  rw [hg] at e1
  have := congrArg (fun l : List Value => l[0]?) e1
  simpa [List.getElem?_take, List.getElem?_drop] using this
theorem of_laid {W : World} (h : laidMetH Tryd.prog laidTabs W) : Glob W := by
  rw [MakeChecks.laidMetH_plain _ _ _ (by kernel_rfl)] at h
  obtain ⟨ps, ⟨g0, t0, cs0, f0, p0, q0, hg0, ht0, hv0, hd0, ⟨g1, t1, cs1, f1, p1, q1, hg1, ht1, hv1, hd1, _, _⟩, _⟩, _, _⟩ := h
  obtain rfl := Option.some.inj (gC.symm.trans hg0)
  obtain rfl := Option.some.inj (gS.symm.trans hg1)
  obtain rfl := Option.some.inj (tC.symm.trans ht0)
  obtain rfl := Option.some.inj (tS.symm.trans ht1)
  have h1 := table (L := constsL) Tryd.underlying144 hd0
  have h2 := table (L := startsL) Tryd.underlying125 hd1
  have k1 : ∀ i, i < 80 → W.cell? ⟨1, i, none⟩ = some (.int .u64 (constsL.getD i 0)) := fun i hi => by
    rw [World.var?_cell hg0 hv0 i, ← Array.getElem?_toList]
    exact h1 i hi
  have k2 : ∀ i, i < 8 → W.cell? ⟨0, i, none⟩ = some (.int .u64 (startsL.getD i 0)) := fun i hi => by
    rw [World.var?_cell hg1 hv1 i, ← Array.getElem?_toList]
    exact h2 i hi
  refine ⟨k2, k1, ?_, ?_⟩
  · have := k2 0 (by decide)
    unfold World.cell? at this
    by_cases hl : 0 < W.heap.size
    · exact hl
    · rw [Array.getElem?_eq_none (show W.heap.size ≤ 0 by omega)] at this; cases this
  · have := k1 0 (by decide)
    unfold World.cell? at this
    by_cases hl : 1 < W.heap.size
    · exact hl
    · rw [Array.getElem?_eq_none (show W.heap.size ≤ 1 by omega)] at this; cases this
end Go.Proofs.YtmblnflfklmmkaaDoor.Sh
/- Contracts of package disk: Bytes. -/
namespace Go.Proofs.YtmblnflfklmmkaaDoor.Dk
open Go.RowKit Go.Proofs.YtmblnflfklmmkaaDoorW.PrintWords Go.Proofs.YtmblnflfklmmkaaDoorW.PrintLast Go.Proofs.YtmblnflfklmmkaaDoorW.PrintMore
set_option linter.unusedVariables false
set_option linter.unusedSimpArgs false
set_option maxRecDepth 30000
variable {w : World} {B g : Nat} {F : Nat → Prop} {D : DM} {vs vh vc : Value}
/-- What Bytes tells, the first n sectors seen. -/
def bytesTo (sec : List (List Int)) : Nat → List Int
  | 0 => []
  | n + 1 => bytesTo sec n ++ sec.getD n []
def bytesM (D : DM) : List Int := bytesTo D.sec D.sec.length
theorem bytesTo_length {sec : List (List Int)} (hh : ∀ i, i < sec.length → (sec.getD i []).length = 64) : ∀ n, n ≤ sec.length → (bytesTo sec n).length = n * 64
  | 0, _ => rfl
  | n + 1, hn => by
    rw [bytesTo, List.length_append, bytesTo_length hh n (by omega), hh n (by omega)]
    omega
theorem make_empty (cap : Nat) (hc : cap ≤ 100000000000) (w : World) : (Instr.makeSlice 22 (.int .i64 0) (.int .i64 (cap : Int))).run Tryd.prog w = .ok (.slice (some ⟨w.heap.size, 0, none⟩) 0 cap) (w.alloc (.cells (madeCells #[.int .u8 0] cap) 5)) := by
  obtain ⟨i0, hi, hzz⟩ := Option.map_eq_some_iff.1 info5
  simp only [Prod.mk.injEq] at hzz
  obtain ⟨hz0, hz1, hz2⟩ := hzz
  have hr := run_make (P := Tryd.prog) w 22 5 i0 (.int .u8 0) Tryd.underlying22 hi hz0 .i64 .i64 0 (cap : Int) (by omega) (by omega) (by rw [hz2]; omega) (by omega)
  rw [hz1] at hr
  simpa [Value.cells] using hr
theorem R_empty (cap : Nat) (hc : cap ≤ 100000000000) (w : World) (base : Nat) (ok : Nat → Prop) (hb : base ≤ w.heap.size) (hok : ok w.heap.size) : Kd.R (Kd.int .u8) 5 (w.alloc (.cells (madeCells #[.int .u8 0] cap) 5)) base ok (.slice (some ⟨w.heap.size, 0, none⟩) 0 cap) [] := by
  refine ⟨fun k hk => ?_, [], ⟨by simp, .inr ⟨w.heap.size, cap, madeCells #[.int .u8 0] cap, rfl, hb, heap_alloc_new w _, Nat.zero_le _, by simp only [maxLen]; omega, by simp [size_madeCells, Kd.int, Kd.scalar], by simp⟩⟩, Reps.none _ _⟩
  simp [Value.ownBlock] at hk
  rw [← hk]
  exact hok
/-- A block of bytes, as what is read. -/
theorem C_block {w : World} {g : Nat} {x : List Int} {e : TypeId} {m : Nat × Nat} (h : w.heap[g]? = some (.cells (nums .u8 x).toArray e m)) (hx : x.length ≤ 1000000) : Kd.C (Kd.int .u8) w (some ⟨g, 0, none⟩) x.length x := by
  refine ⟨rfl, by omega, fun _ => ⟨_, rfl, fun j p hj => ⟨[.int .u8 p], rfl, rfl, fun i u hu => ?_⟩⟩⟩
  cases i with
  | succ i => simp at hu
  | zero =>
    simp only [List.getElem?_cons_zero, Option.some.injEq] at hu
    subst hu
    rw [add0, World.cell?, h]
    simp [nums, Kd.int, Kd.scalar, hj]
set_option maxHeartbeats 8000000 in
theorem Bytes_calls (h : DAt w B g F D vs vh vc) (hok : DOk D) :
    Calls Tryd.prog 17 #[.pointer (some ⟨g, 0, none⟩)] w fun e w' => ∃ v, e = .returned v ∧ Kd.R (Kd.int .u8) 5 w' w.heap.size (fun k => w.heap.size ≤ k) v (bytesM D) ∧ Below w.heap.size w w' := by
  have H := Aside0.mk h
  have HOK := Aside0.mk hok
  obtain ⟨As, cs, rfl, hsl, _⟩ := Kd.R_reads h.sec
  have h0 := h.c0
  have hn1 := hok.n1
  have hM : (Instr.makeSlice 22 (.int .i64 0) (.int .i64 ((D.sec.length : Int) * 64))).run Tryd.prog w = .ok (.slice (some ⟨w.heap.size, 0, none⟩) 0 (D.sec.length * 64)) (w.alloc (.cells (madeCells #[.int .u8 0] (D.sec.length * 64)) 5)) := by
    have := make_empty (D.sec.length * 64) (by omega) w
    rwa [Int.natCast_mul] at this
  have HRE := Aside0.mk (R_empty (D.sec.length * 64) (by omega) w w.heap.size (fun k => w.heap.size ≤ k) (Nat.le_refl _) (Nat.le_refl _))
  have HB0 := Aside0.mk (below_alloc (Below.refl w.heap.size w) (.cells (madeCells #[.int .u8 0] (D.sec.length * 64)) 5))
  have h01 : (w.alloc (.cells (madeCells #[.int .u8 0] (D.sec.length * 64)) 5)).cell? ⟨g, 0, none⟩ = some (.slice As D.sec.length cs) := (H.out.below HB0.out).c0
  clear h hok
  go_enter Tryd.func17, Tryd.ntmps17
  go_wp2
  go_loopw [3, 5, 20] (fun v3 v5 v20 w' => ∃ i : Nat, v20 = .int .i64 i ∧ i ≤ D.sec.length ∧ Aside0 (Kd.R (Kd.int .u8) 5 w' w.heap.size (fun k => w.heap.size ≤ k) v3 (bytesTo D.sec i)) ∧ Aside0 (Below w.heap.size w w')) (fun _ _ v20 _ => D.sec.length - (intOf v20).toNat)
  case atStart => exact ⟨0, rfl, Nat.zero_le _, HRE, HB0⟩
  case round =>
    obtain ⟨i, rfl, hi, HR, HV⟩ := hrel
    clear h0 h01 hM
    have hn1 := HOK.out.n1
    by_cases hlt : i < D.sec.length
    · have HD := Aside0.mk (H.out.below HV.out)
      obtain ⟨gs, hAs, h64, hls⟩ := sec_load HD.out.sec i hlt
      obtain ⟨s0, hs0⟩ : ∃ s0, s0 = D.sec.getD i [] := ⟨_, rfl⟩
      rw [← hs0] at hls h64
      subst hAs
      have HLS := Aside0.mk hls
      have HST := Aside0.mk (run_storeAt_new (P := Tryd.prog) wr 68 zs64 (nums .u8 s0).toArray (by simp only [List.size_toArray, nums_length, h64]; exact size64) (by simp [zs64_size, nums_length, h64]) (nums_one s0))
      have HW := Aside0.mk (heap_alloc_new wr (.cells (nums .u8 s0).toArray 68))
      have HC := C_block HW.out (by omega)
      rw [h64] at HC
      have HC' := Aside0.mk HC
      have HBW := Aside0.mk (below_alloc HV.out (.cells (nums .u8 s0).toArray 68))
      have HRW := Aside0.mk (Kd.R_below HR.out (below_alloc (Below.refl wr.heap.size wr) (.cells (nums .u8 s0).toArray 68)))
      have HL := Aside0.mk (bytesTo_length (sec := D.sec) (fun j hj => (sec_load HD.out.sec j hj).elim fun _ h => h.2.1) i hi)
      have HP := Aside0.mk (show bytesTo D.sec (i + 1) = bytesTo D.sec i ++ s0 by rw [bytesTo, hs0])
      have hvs := HV.out.size
      clear hls h64 hs0 HC
      go_wp2_with (first | (refine load_at (ty := 68) (.tmp 22) rfl rfl HLS.out rfl ?_) | (refine wpList_alloc rfl rfl _ rfl zs64 (run_alloc64 _) ?_) | (refine store_at (ty := 68) (.tmp 5) (.tmp 23) rfl rfl rfl HST.out rfl rfl ?_) | ((with_reducible refine gate_builtin (b := .append) (xs := #[.tmp 24, .tmp 25]) rfl ?_); at_builtin; refine Kd.R_append_rows (Kd.int .u8) (Rr := (Kd.int .u8).K wr) (w0 := w) w.heap.size rfl (.tmp 24) (.tmp 25) 22 5 (.int .u8 0) 1 rfl Tryd.underlying22 info5 rfl (by decide) (by omega) _ (bytesTo D.sec i) s0 (some ⟨wr.heap.size, 0, none⟩) 64 64 (fun k => w.heap.size ≤ k) (fun _ => False) rfl rfl HRW.out HC'.out (fun _ _ h => h) (fun _ h => h.elim) (fun _ h => Nat.le_trans HBW.out.size h) HBW.out HBW.out.size ?aL ?_; (case aL => rw [HL.out]; omega); intro v1 w1 hr1 hb1 hg1 _; have HR1 := Aside0.mk hr1; have HB1 := Aside0.mk hb1; clear hr1 hb1 hg1))
      go_roundw
      case rel => exact ⟨i + 1, by go_num, by omega, ⟨by rw [HP.out]; exact HR1.out⟩, HB1⟩
      case measure => simp [intOf]; omega
    · obtain rfl : i = D.sec.length := by omega
      go_wp2
      go_ret
      exact ⟨_, rfl, HR.out, HV.out⟩
end Go.Proofs.YtmblnflfklmmkaaDoor.Dk
/- Contracts of package disk: Copy. -/
namespace Go.Proofs.YtmblnflfklmmkaaDoor.Dk
open Go.RowKit Go.Proofs.YtmblnflfklmmkaaDoorW.PrintWords Go.Proofs.YtmblnflfklmmkaaDoorW.PrintLast Go.Proofs.YtmblnflfklmmkaaDoorW.PrintMore
set_option linter.unusedVariables false
set_option linter.unusedSimpArgs false
set_option maxRecDepth 30000
def zs60 : Array Value := #[.slice none 0 0, .slice none 0 0, .bool false, .int .i64 0, .int .i64 0, .bool false, .slice none 0 0]
attribute [irreducible] zs60
variable {w W W1 : World} {B g N : Nat} {F : Nat → Prop} {D : DM} {vs vh vc : Value}
theorem blk_grown {cs : Array Value} (hb : W.heap[g]? = some (.cells cs 67 (0, 0))) (hg : W.grownBy W1 none) : W1.heap[g]? = some (.cells cs 67 (0, 0)) := (hg.block g (blk_lt hb) (by simp)).trans hb
end Go.Proofs.YtmblnflfklmmkaaDoor.Dk
/- Contracts of package disk: need, span. -/
namespace Go.Proofs.YtmblnflfklmmkaaDoor.Dk
open Go.RowKit Go.Proofs.YtmblnflfklmmkaaDoorW.PrintWords Go.Proofs.YtmblnflfklmmkaaDoorW.PrintLast Go.Proofs.YtmblnflfklmmkaaDoorW.PrintMore
set_option linter.unusedVariables false
set_option linter.unusedSimpArgs false
set_option maxRecDepth 30000
variable {w W W1 : World} {B g N : Nat} {F : Nat → Prop} {D : DM} {vs vh vc : Value}
def needM (n : Int) : Int := if 0 < n.tmod 64 then n.tdiv 64 + 1 else n.tdiv 64
theorem tdiv_le (n : Int) (h1 : -9223372036854775808 ≤ n) (h2 : n ≤ 9223372036854775807) : -144115188075855872 ≤ n.tdiv 64 ∧ n.tdiv 64 ≤ 144115188075855871 := by
  rcases Int.lt_or_le n 0 with h | h
  · have : n.tdiv 64 = -((-n).tdiv 64) := by rw [Int.neg_tdiv, Int.neg_neg]
    rw [this, Int.tdiv_eq_ediv_of_nonneg (by omega)]
    omega
  · rw [Int.tdiv_eq_ediv_of_nonneg h]
    omega
set_option maxHeartbeats 2000000 in
theorem need_calls (n : Int) (h1 : -9223372036854775808 ≤ n) (h2 : n ≤ 9223372036854775807) : Calls Tryd.prog 60 #[.int .i64 n] w fun e w' => e = .returned (.int .i64 (needM n)) ∧ w = w' := by
  obtain ⟨t1, t2⟩ := tdiv_le n h1 h2
  by_cases hr : 0 < n.tmod 64
  · have hq := Lib.hid (show needM n = n.tdiv 64 + 1 by simp [needM, hr])
    go_enter Tryd.func60, Tryd.ntmps60
    go_wp2
    go_ret
    exact ⟨by rw [hq.out] <;> rfl, rfl⟩
  · have hq := Lib.hid (show needM n = n.tdiv 64 by simp [needM, hr])
    go_enter Tryd.func60, Tryd.ntmps60
    go_wp2
    go_ret
    exact ⟨by rw [hq.out] <;> rfl, rfl⟩
def spanM (D : DM) (k n : Int) : Int := if D.down = true then 60 else if k < 0 ∨ (D.sec.length : Int) < k ∨ (D.sec.length : Int) - k < needM n then 61 else 0
set_option maxHeartbeats 8000000 in
theorem span_calls (h : DAt w B g F D vs vh vc) (hok : DOk D) (k n : Int) (h1 : -9223372036854775808 ≤ n) (h2 : n ≤ 9223372036854775807) :
    Calls Tryd.prog 59 #[.pointer (some ⟨g, 0, none⟩), .int .i64 k, .int .i64 n] w fun e w' => e = .returned (.int .i64 (spanM D k n)) ∧ ∃ m, w' = w.drewN m := by
  have H := Aside0.mk h
  have N1 := Aside0.mk h1
  have N2 := Aside0.mk h2
  obtain ⟨As, cs, rfl, hsl, _⟩ := Kd.R_reads h.sec
  have h0 := h.c0
  have hn1 := hok.n1
  clear h hok h1 h2 hsl
  cases hd : D.down with
  | true =>
    have hq := Lib.hid (show spanM D k n = 60 by simp [spanM, hd])
    have hr := Lib.hid (show readyM D = 60 by simp [readyM, hd])
    clear hd
    go_enter Tryd.func59, Tryd.ntmps59
    go_wp2_with (first | (go_at_call 36; refine (ready_calls H.out).mono ?_; rintro e w' ⟨rfl, rfl⟩; rw [hr.out]))
    go_ret
    exact ⟨by rw [hq.out] <;> rfl, 0, rfl⟩
  | false =>
    have hr := Lib.hid (show readyM D = 0 by simp [readyM, hd])
    by_cases hk : k < 0
    · have hq := Lib.hid (show spanM D k n = 61 by simp [spanM, hd, hk])
      have tk : decide (k < 0) = true := decide_eq_true hk
      clear hd hk
      go_enter Tryd.func59, Tryd.ntmps59
      go_wp2_with (first | (go_at_call 36; refine (ready_calls H.out).mono ?_; rintro e w' ⟨rfl, rfl⟩; rw [hr.out]))
      refine start_ (n := 23) (S := fun w' => w'.cell? ⟨g, 0, none⟩ = some (.slice As D.sec.length cs)) (ds := []) (bz 23 0) (by kernel_rfl) rfl rfl (h0) (fun hHeld => ?_)
      refine pz 0 (some 13) (bz 23 1) ?_
      refine pz 1 (some 14) (bz 23 3) ?_
      refine pz 2 (some 15) (bz 23 7) ?_
      refine pu 3 (some 16) (bz 23 15) ?_
      refine pu 4 (some 17) (bz 23 31) ?_
      refine pu 5 (some 18) (bz 23 63) ?_
      refine pu 6 (some 19) (bz 23 127) ?_
      refine pu 7 (some 20) (bz 23 255) ?_
      refine pu 8 (some 21) (bz 23 511) ?_
      refine pu 9 (some 22) (bz 23 1023) ?_
      refine pz 10 (some 23) (bz 23 2047) ?_
      refine pz 11 (some 24) (bz 23 4095) ?_
      refine pu 12 (some 25) (bz 23 8191) ?_
      refine pu 13 (some 26) (bz 23 16383) ?_
      refine pu 14 (some 27) (bz 23 32767) ?_
      refine pu 15 (some 28) (bz 23 65535) ?_
      refine pu 16 (some 29) (bz 23 131071) ?_
      refine pu 17 (some 30) (bz 23 262143) ?_
      refine pu 18 (some 31) (bz 23 524287) ?_
      refine pu 19 (some 32) (bz 23 1048575) ?_
      refine pu 20 (some 33) (bz 23 2097151) ?_
      refine pu 21 (some 34) (bz 23 4194303) ?_
      refine pz 22 (some 35) (bz 23 8388607) ?_
      refine done_ (by kernel_rfl) ?_

      go_wp2
      go_ret
      exact ⟨by rw [hq.out] <;> rfl, 1, rfl⟩
    by_cases hk2 : (D.sec.length : Int) < k
    · have hq := Lib.hid (show spanM D k n = 61 by simp [spanM, hd, hk2])
      have tk : decide (k < 0) = false := decide_eq_false hk
      have tk2 : decide ((D.sec.length : Int) < k) = true := decide_eq_true hk2
      clear hd
      go_enter Tryd.func59, Tryd.ntmps59
      go_wp2_with (first | (go_at_call 36; refine (ready_calls H.out).mono ?_; rintro e w' ⟨rfl, rfl⟩; rw [hr.out]))
      refine start_ (n := 23) (S := fun w' => w'.cell? ⟨g, 0, none⟩ = some (.slice As D.sec.length cs)) (ds := []) (bz 23 0) (by kernel_rfl) rfl rfl (h0) (fun hHeld => ?_)
      refine pz 0 (some 13) (bz 23 1) ?_
      refine pz 1 (some 14) (bz 23 3) ?_
      refine pz 2 (some 15) (bz 23 7) ?_
      refine pz 3 (some 16) (bz 23 15) ?_
      refine pz 4 (some 17) (bz 23 31) ?_
      refine pz 5 (some 18) (bz 23 63) ?_
      refine pz 6 (some 19) (bz 23 127) ?_
      refine tz1 7 (some 20) (bz 23 255) hHeld ?_
      refine pz 8 (some 21) (bz 23 511) ?_
      refine pz 9 (some 22) (bz 23 1023) ?_
      refine pz 10 (some 23) (bz 23 2047) ?_
      refine pz 11 (some 24) (bz 23 4095) ?_
      refine pu 12 (some 25) (bz 23 8191) ?_
      refine pu 13 (some 26) (bz 23 16383) ?_
      refine pu 14 (some 27) (bz 23 32767) ?_
      refine pu 15 (some 28) (bz 23 65535) ?_
      refine pu 16 (some 29) (bz 23 131071) ?_
      refine pu 17 (some 30) (bz 23 262143) ?_
      refine pu 18 (some 31) (bz 23 524287) ?_
      refine pu 19 (some 32) (bz 23 1048575) ?_
      refine pu 20 (some 33) (bz 23 2097151) ?_
      refine pu 21 (some 34) (bz 23 4194303) ?_
      refine pz 22 (some 35) (bz 23 8388607) ?_
      refine done_ (by kernel_rfl) ?_

      go_wp2
      go_ret
      exact ⟨by rw [hq.out] <;> rfl, 1, rfl⟩
    by_cases hk3 : (D.sec.length : Int) - k < needM n
    · have hq := Lib.hid (show spanM D k n = 61 by simp [spanM, hd, hk3])
      have tk : decide (k < 0) = false := decide_eq_false hk
      have tk2 : decide ((D.sec.length : Int) < k) = false := decide_eq_false hk2
      have tk3 : decide (wrap64 ((D.sec.length : Int) - k) < needM n) = true := by rw [show wrap64 ((D.sec.length : Int) - k) = D.sec.length - k by simp only [wrap64]; omega]; exact decide_eq_true hk3
      clear hd hk3
      go_enter Tryd.func59, Tryd.ntmps59
      go_wp2_with (first | (go_at_call 36; refine (ready_calls H.out).mono ?_; rintro e w' ⟨rfl, rfl⟩; rw [hr.out]))
      refine start_ (n := 23) (S := fun w' => w'.cell? ⟨g, 0, none⟩ = some (.slice As D.sec.length cs)) (ds := []) (bz 23 0) (by kernel_rfl) rfl rfl (h0) (fun hHeld => ?_)
      refine pz 0 (some 13) (bz 23 1) ?_
      refine pz 1 (some 14) (bz 23 3) ?_
      refine pz 2 (some 15) (bz 23 7) ?_
      refine pz 3 (some 16) (bz 23 15) ?_
      refine pz 4 (some 17) (bz 23 31) ?_
      refine pz 5 (some 18) (bz 23 63) ?_
      refine pz 6 (some 19) (bz 23 127) ?_
      refine tz1 7 (some 20) (bz 23 255) hHeld ?_
      refine pz 8 (some 21) (bz 23 511) ?_
      refine pz 9 (some 22) (bz 23 1023) ?_
      refine pz 10 (some 23) (bz 23 2047) ?_
      refine pz 11 (some 24) (bz 23 4095) ?_
      refine pz 12 (some 25) (bz 23 8191) ?_
      refine pz 14 (some 27) (bz 23 24575) ?_
      refine pz 15 (some 28) (bz 23 57343) ?_
      refine pz 16 (some 29) (bz 23 122879) ?_
      refine pz 19 (some 32) (bz 23 647167) ?_
      refine tz1 17 (some 30) (bz 23 778239) hHeld ?_
      refine pz 18 (some 31) (bz 23 1040383) ?_
      refine pz 20 (some 33) (bz 23 2088959) ?_
      refine one_ (i := 13) (N := some 26) (bz 23 2097151) rfl rfl (by kernel_rfl) (by decide) (fun K hK => ?_)
      refine goes_ Tryd.func60 (by kernel_rfl) rfl #[.int .i64 n] (by rfl) rfl rfl (by simp only [List.map_toArray, List.map_cons, List.map_nil]; rfl) ?_
      with_reducible refine (need_calls (w := w.drew) n N1.out N2.out).mono ?_
      rintro e w3 ⟨rfl, rfl⟩
      refine ⟨_, rfl, ?_⟩
      refine hK.out _ _ (h0) (fun hHeld => ?_)
      clear hK K
      refine norm_ (a' := ?_) ?_ ?_
      rotate_left
      · show Act.put _ (some 26) _ = _
        simp only [Act.put, List.setIfInBounds_toArray, List.set_cons_zero, List.set_cons_succ, i64_w, i32_w]
        rfl
      refine pz 21 (some 34) (bz 23 4194303) ?_
      refine pz 22 (some 35) (bz 23 8388607) ?_
      refine done_ (by kernel_rfl) ?_

      go_wp2
      go_ret
      exact ⟨by rw [hq.out] <;> rfl, 1, rfl⟩
    · have hq := Lib.hid (show spanM D k n = 0 by simp [spanM, hd, hk, hk2, hk3])
      have tk : decide (k < 0) = false := decide_eq_false hk
      have tk2 : decide ((D.sec.length : Int) < k) = false := decide_eq_false hk2
      have tk3 : decide (wrap64 ((D.sec.length : Int) - k) < needM n) = false := by rw [show wrap64 ((D.sec.length : Int) - k) = D.sec.length - k by simp only [wrap64]; omega]; exact decide_eq_false hk3
      clear hd hk3
      go_enter Tryd.func59, Tryd.ntmps59
      go_wp2_with (first | (go_at_call 36; refine (ready_calls H.out).mono ?_; rintro e w' ⟨rfl, rfl⟩; rw [hr.out]))
      refine start_ (n := 23) (S := fun w' => w'.cell? ⟨g, 0, none⟩ = some (.slice As D.sec.length cs)) (ds := []) (bz 23 0) (by kernel_rfl) rfl rfl (h0) (fun hHeld => ?_)
      refine pz 0 (some 13) (bz 23 1) ?_
      refine pz 1 (some 14) (bz 23 3) ?_
      refine pz 2 (some 15) (bz 23 7) ?_
      refine pz 3 (some 16) (bz 23 15) ?_
      refine pz 4 (some 17) (bz 23 31) ?_
      refine pz 5 (some 18) (bz 23 63) ?_
      refine pz 6 (some 19) (bz 23 127) ?_
      refine tz1 7 (some 20) (bz 23 255) hHeld ?_
      refine pz 8 (some 21) (bz 23 511) ?_
      refine pz 9 (some 22) (bz 23 1023) ?_
      refine pz 10 (some 23) (bz 23 2047) ?_
      refine pz 11 (some 24) (bz 23 4095) ?_
      refine pz 12 (some 25) (bz 23 8191) ?_
      refine pz 14 (some 27) (bz 23 24575) ?_
      refine pz 15 (some 28) (bz 23 57343) ?_
      refine pz 16 (some 29) (bz 23 122879) ?_
      refine pz 19 (some 32) (bz 23 647167) ?_
      refine tz1 17 (some 30) (bz 23 778239) hHeld ?_
      refine pz 18 (some 31) (bz 23 1040383) ?_
      refine pz 20 (some 33) (bz 23 2088959) ?_
      refine one_ (i := 13) (N := some 26) (bz 23 2097151) rfl rfl (by kernel_rfl) (by decide) (fun K hK => ?_)
      refine goes_ Tryd.func60 (by kernel_rfl) rfl #[.int .i64 n] (by rfl) rfl rfl (by simp only [List.map_toArray, List.map_cons, List.map_nil]; rfl) ?_
      with_reducible refine (need_calls (w := w.drew) n N1.out N2.out).mono ?_
      rintro e w3 ⟨rfl, rfl⟩
      refine ⟨_, rfl, ?_⟩
      refine hK.out _ _ (h0) (fun hHeld => ?_)
      clear hK K
      refine norm_ (a' := ?_) ?_ ?_
      rotate_left
      · show Act.put _ (some 26) _ = _
        simp only [Act.put, List.setIfInBounds_toArray, List.set_cons_zero, List.set_cons_succ, i64_w, i32_w]
        rfl
      refine pz 21 (some 34) (bz 23 4194303) ?_
      refine pz 22 (some 35) (bz 23 8388607) ?_
      refine done_ (by kernel_rfl) ?_

      go_wp2
      go_ret
      exact ⟨by rw [hq.out] <;> rfl, 1, rfl⟩
end Go.Proofs.YtmblnflfklmmkaaDoor.Dk
/- Contracts of package disk: Load. -/
namespace Go.Proofs.YtmblnflfklmmkaaDoor.Dk
open Go.RowKit Go.Proofs.YtmblnflfklmmkaaDoorW.PrintWords Go.Proofs.YtmblnflfklmmkaaDoorW.PrintLast Go.Proofs.YtmblnflfklmmkaaDoorW.PrintMore
set_option linter.unusedVariables false
set_option linter.unusedSimpArgs false
set_option maxRecDepth 30000
variable {w W W1 : World} {B g N : Nat} {F : Nat → Prop} {D : DM} {vs vh vc : Value}
def readsTo (D : DM) (k : Int) : Nat → List Int
  | 0 => []
  | i + 1 => readsTo D k i ++ readM D (k + i)
/-- Load's errno. -/
def loadE (D : DM) (k n : Int) : Int := if D.down = true then 60 else if n < 0 then 1 else spanM D k n
theorem need_nat (n0 : Nat) : needM n0 = ((n0 + 63) / 64 : Nat) := by
  unfold needM
  rw [Int.tmod_eq_emod_of_nonneg (by omega), Int.tdiv_eq_ediv_of_nonneg (by omega)]
  split <;> omega
theorem spanM_zero {k n : Int} (h : spanM D k n = 0) : D.down = false ∧ 0 ≤ k ∧ k ≤ (D.sec.length : Int) ∧ needM n ≤ (D.sec.length : Int) - k := by
  unfold spanM at h
  split at h
  · omega
  · rename_i hd
    split at h
    · omega
    · refine ⟨by simpa using hd, by omega, by omega, by omega⟩
theorem read_length (h : DAt w B g F D vs vh vc) (k : Int) (hk : atM D k = 0) : (readM D k).length = 64 := by
  obtain ⟨As, cs, rfl, hsl, _⟩ := Kd.R_reads h.sec
  obtain ⟨Ah, ch, rfl, hhl, _⟩ := Kd.R_reads h.held
  have hkb : 0 ≤ k ∧ k < (D.sec.length : Int) := by
    unfold atM at hk
    split at hk
    · omega
    · split at hk
      · omega
      · omega
  exact readTo_length ((sec_load h.sec k.toNat (by omega)).elim fun _ h => h.2.1) (fun j hj => (held_load h.held j hj).elim fun _ h => h.2.1) _ (Nat.le_refl _)
theorem readsTo_length (h : DAt w B g F D vs vh vc) (k : Int) (N : Nat) (hk : ∀ i : Nat, i < N → atM D (k + i) = 0) : ∀ i, i ≤ N → (readsTo D k i).length = i * 64
  | 0, _ => rfl
  | i + 1, hi => by
    rw [readsTo, List.length_append, readsTo_length h k N hk i (by omega), read_length h _ (hk i (by omega))]
    omega
set_option maxHeartbeats 8000000 in
theorem Load_fails (h : DAt w B g F D vs vh vc) (hok : DOk D) (k n : Int) (h1 : -9223372036854775808 ≤ n) (h2 : n ≤ 9223372036854775807) (he : loadE D k n ≠ 0) :
    Calls Tryd.prog 58 #[.pointer (some ⟨g, 0, none⟩), .int .i64 k, .int .i64 n] w fun e w' => e = .returned (.tuple #[.slice none 0 0, .int .i64 (loadE D k n)]) ∧ ∃ m, w' = w.drewN m := by
  have H := Aside0.mk h
  have HOK := Aside0.mk hok
  have N1 := Aside0.mk h1
  have N2 := Aside0.mk h2
  clear h hok h1 h2
  cases hd : D.down with
  | true =>
    have hq := Lib.hid (show loadE D k n = 60 by simp [loadE, hd])
    have hr := Lib.hid (show readyM D = 60 by simp [readyM, hd])
    clear hd he
    go_enter Tryd.func58, Tryd.ntmps58
    go_wp2_with (first | (go_at_call 36; refine (ready_calls H.out).mono ?_; rintro e w' ⟨rfl, rfl⟩; rw [hr.out]))
    refine bodyPost_ret (results_tmp2 rfl _ _ _) rfl ?_
    exact ⟨by rw [hq.out] <;> rfl, 0, rfl⟩
  | false =>
    have hr := Lib.hid (show readyM D = 0 by simp [readyM, hd])
    by_cases hn : n < 0
    · have hq := Lib.hid (show loadE D k n = 1 by simp [loadE, hd, hn])
      clear hd he
      go_enter Tryd.func58, Tryd.ntmps58
      go_wp2_with (first | (go_at_call 36; refine (ready_calls H.out).mono ?_; rintro e w' ⟨rfl, rfl⟩; rw [hr.out]))
      refine bodyPost_ret (results_tmp2 rfl _ _ _) rfl ?_
      exact ⟨by rw [hq.out] <;> rfl, 0, rfl⟩
    · have hq := Lib.hid (show loadE D k n = spanM D k n by simp [loadE, hd, hn])
      rw [hq.out] at he
      obtain ⟨q, hq0⟩ : ∃ q, spanM D k n = q := ⟨_, rfl⟩
      have HQ := Lib.hid hq0
      rw [hq0] at he
      clear hd hq0
      go_enter Tryd.func58, Tryd.ntmps58
      go_wp2_with (first | (go_at_call 36; refine (ready_calls H.out).mono ?_; rintro e w' ⟨rfl, rfl⟩; rw [hr.out]) | (go_at_call 59; refine (span_calls H.out HOK.out k n N1.out N2.out).mono ?_; rintro e w' ⟨rfl, m, rfl⟩; rw [HQ.out]))
      refine bodyPost_ret (results_tmp2 rfl _ _ _) rfl ?_
      exact ⟨by rw [hq.out, HQ.out] <;> rfl, _, rfl⟩
set_option maxHeartbeats 8000000 in
theorem Load_own (h : DAt w B g F D vs vh vc) (hok : DOk D) (k : Int) (n0 : Nat) (h2 : (n0 : Int) ≤ 9223372036854775807) (he : loadE D k n0 = 0) :
    Calls Tryd.prog 58 #[.pointer (some ⟨g, 0, none⟩), .int .i64 k, .int .i64 n0] w fun e w' => ∃ A, e = .returned (.tuple #[.slice A n0 n0, .int .i64 0]) ∧ Kd.C (Kd.int .u8) w' A n0 ((readsTo D k ((n0 + 63) / 64)).take n0) ∧ Below w.heap.size w w' ∧ ∀ a, A = some a → w.heap.size ≤ a.block ∧ a.block < w'.heap.size := by
  have H := Aside0.mk h
  have HOK := Aside0.mk hok
  have N2 := Aside0.mk h2
  have hd : D.down = false := by
    cases hd : D.down
    · rfl
    · simp [loadE, hd] at he
  have hsp : spanM D k n0 = 0 := by
    simp only [loadE, hd] at he
    rw [if_neg (by simp), if_neg (by omega)] at he
    exact he
  obtain ⟨_, hk0, hk1, hk2⟩ := spanM_zero hsp
  obtain ⟨k0, rfl⟩ : ∃ n : Nat, k = n := ⟨k.toNat, by omega⟩
  rw [need_nat] at hk2
  obtain ⟨M, hM⟩ : ∃ M, M = (n0 + 63) / 64 := ⟨_, rfl⟩
  rw [← hM] at hk2 ⊢
  have hn1 := hok.n1
  have hkM : k0 + M ≤ D.sec.length := by omega
  have hat : ∀ i : Nat, i < M → atM D ((k0 : Int) + i) = 0 := fun i hi => by
    unfold atM
    rw [if_neg (by simp [hd]), if_neg (by omega)]
  have HAT := Aside0.mk hat
  have hr := Lib.hid (show readyM D = 0 by simp [readyM, hd])
  have HSP := Lib.hid hsp
  have HND := Lib.hid (show needM n0 = (M : Int) by rw [need_nat, hM])
  have hM1 : n0 ≤ M * 64 := by omega
  have hM2 : M ≤ 16384 := by omega
  have hn0 : n0 ≤ 1048576 := by omega
  clear h hok h2 he hsp hat hk0 hk1 hk2 hd hM
  go_enter Tryd.func58, Tryd.ntmps58
  go_wp2_with (first | (go_at_call 36; refine (ready_calls H.out).mono ?_; rintro e w' ⟨rfl, rfl⟩; rw [hr.out]) | (go_at_call 59; refine (span_calls H.out HOK.out k0 n0 (by omega) N2.out).mono ?_; rintro e w' ⟨rfl, m, rfl⟩; rw [HSP.out]) | (go_at_call 60; refine (need_calls n0 (by omega) N2.out).mono ?_; rintro e w' ⟨rfl, rfl⟩; rw [HND.out]))
  go_loopw [10, 11, 12, 13, 30, 33] (fun v10 v11 v12 v13 v30 v33 w' => ∃ i : Nat, v30 = .int .i64 i ∧ i ≤ M ∧ Aside0 (Kd.R (Kd.int .u8) 5 w' w.heap.size (fun k => w.heap.size ≤ k) v10 (readsTo D k0 i)) ∧ Aside0 (Below w.heap.size w w')) (fun _ _ _ _ v30 _ _ => M - (intOf v30).toNat)
  case atStart => exact ⟨0, rfl, Nat.zero_le _, ⟨Kd.R_nil _ _ _ _ _⟩, ⟨pw_below_drewN (Below.refl _ _) _⟩⟩
  case round =>
    obtain ⟨i, rfl, hi, HR, HV⟩ := hrel
    by_cases hlt : i < M
    · have HD := Aside0.mk (H.out.below HV.out)
      have HATi := Aside0.mk (HAT.out i hlt)
      have HP := Aside0.mk (show readsTo D k0 (i + 1) = readsTo D k0 i ++ readM D ((k0 : Int) + i) by rw [readsTo])
      have HLR := Aside0.mk (readsTo_length HD.out k0 M HAT.out i hi)
      go_wp2_with (first | (go_at_call 56; refine (Read_calls HD.out HOK.out ((k0 : Int) + i) HATi.out).mono ?_; rintro e w3 ⟨rfl, h64, hb3, hB3⟩; have HB3 := Aside0.mk hB3; have HV3 := Aside0.mk (Below.trans HV.out (Below.mono HB3.out HV.out.size)); have HRW := Aside0.mk (Kd.R_below HR.out HB3.out); have HC := C_block hb3 (by omega); rw [h64] at HC; have HC' := Aside0.mk HC; clear h64 hb3 hB3 HC) | ((with_reducible refine gate_builtin (b := .append) (xs := #[.tmp 41, .tmp 42]) rfl ?_); at_builtin; refine Kd.R_append_rows (Kd.int .u8) (Rr := (Kd.int .u8).K wr) (w0 := w) w.heap.size rfl (.tmp 41) (.tmp 42) 22 5 (.int .u8 0) 1 rfl Tryd.underlying22 info5 rfl (by decide) (by omega) _ (readsTo D k0 i) (readM D ((k0 : Int) + i)) (some ⟨wr.heap.size, 0, none⟩) 64 64 (fun k => w.heap.size ≤ k) (fun _ => False) rfl rfl HRW.out HC'.out (fun _ _ h => h) (fun _ h => h.elim) (fun _ h => Nat.le_trans HV3.out.size h) HV3.out HV3.out.size ?aL ?_; (case aL => rw [HLR.out]; omega); intro v1 w1 hr1 hb1 hg1 _; have HR1 := Aside0.mk hr1; have HB1 := Aside0.mk hb1; clear hr1 hb1 hg1))
      go_roundw
      case rel => exact ⟨i + 1, by go_num, by omega, ⟨by rw [HP.out]; exact HR1.out⟩, HB1⟩
      case measure => simp [intOf]; omega
    · obtain rfl : i = M := by omega
      have HLR := readsTo_length (H.out.below HV.out) k0 i HAT.out i hi
      obtain ⟨A1, c1, rfl, hc1, hC1⟩ := Kd.R_reads HR.out
      rw [HLR] at hc1
      have HC1 := Aside0.mk hC1
      have HOW := Aside0.mk (show ∀ a, A1 = some a → w.heap.size ≤ a.block ∧ a.block < wr.heap.size from fun a ha => by
        subst ha
        exact ⟨HR.out.1 a.block rfl, Kd.R_lt HR.out a.block rfl⟩)
      have HL := Aside0.mk HLR
      clear hC1
      simp only [HLR]
      clear HLR
      go_wp2
      refine bodyPost_ret (results_tmp2 rfl _ _ _) rfl ?_
      have hC := C_take HC1.out n0
      rw [show ((readsTo D (k0 : Int) i).take n0).length = n0 by rw [List.length_take, HL.out]; omega] at hC
      exact ⟨A1, rfl, hC, HV.out, HOW.out⟩
end Go.Proofs.YtmblnflfklmmkaaDoor.Dk
/- Contracts of package disk: Save. -/
namespace Go.Proofs.YtmblnflfklmmkaaDoor.Dk
open Go.RowKit Go.Proofs.YtmblnflfklmmkaaDoorW.PrintWords Go.Proofs.YtmblnflfklmmkaaDoorW.PrintLast Go.Proofs.YtmblnflfklmmkaaDoorW.PrintMore
set_option linter.unusedVariables false
set_option linter.unusedSimpArgs false
set_option maxRecDepth 30000
section
variable {P : Program} {ops : Array Oper} {Q : Exit → Act → World → Prop}
theorem copy_step {o : Oper} {N : Option Tmp} {a : Act} {w w1 : World} {v vs vx : Value} {K : Act → World → Prop} (hw : Region.wanted o (yielded ops a.tmps) = true) (hN : o.dst = N) (s x : Operand) (t t' : TypeId)
    (ho : o.op = .call { callee := .builtin .copy, args := #[s, x], argTypes := #[t, t'] }) (hs : a.eval s = vs) (hx : a.eval x = vx) (hr : ∀ ty, (Builtin.copy_ #[t, t'] ty #[vs, vx]).run P w = .ok v w1)
    (h : K (a.put N v) w1) : if Region.wanted o (yielded ops a.tmps) = true then Oper.wp P o a w K Q else K (a.put N undef) w := by
  rw [if_pos hw]
  unfold Oper.wp execOp
  simp only [ho, resolve, invoke, builtin, Sem.run_bind, Sem.run_pure, Result.andThen_ok, List.map_toArray, List.map_cons, List.map_nil, hs, hx, hr]
  show K (a.put o.dst v) w1
  rw [hN]
  exact h
end
variable {w W W1 : World} {B g N : Nat} {F : Nat → Prop} {D : DM} {vs vh vc : Value}
theorem Write_calls64 (h : DiskAt w B g F D) (hok : DOk D) (hn : D.held.length < 10000000) (k : Int) (A : Option Addr) (c : Nat) (x : List Int) (hx : x.length = 64) (hC : Kd.C (Kd.int .u8) w A 64 x) :
    Calls Tryd.prog 53 #[.pointer (some ⟨g, 0, none⟩), .int .i64 k, .slice A 64 c] w fun e w' => e = .returned (.int .i64 (writeM D k x).2) ∧ DiskAt w' B g (Grow F w w') (writeM D k x).1 ∧ Upd w w' F := by
  obtain ⟨vs, vh, vc, h⟩ := h
  have := Write_calls h hok hn k A c x (by rw [hx]; exact hC)
  rwa [hx] at this
theorem loseM_held (l : List Bool) : (loseM l D).held.length ≤ D.held.length := by
  unfold loseM
  split
  · exact Nat.le_refl _
  · exact Nat.zero_le _
theorem goesM_held : (goesM D).1.held = D.held := by
  unfold goesM
  split
  · rfl
  · split <;> rfl
theorem writeM_held (k : Int) (x : List Int) : (writeM D k x).1.held.length ≤ D.held.length + 1 := by
  unfold writeM
  split
  · exact Nat.le_succ _
  · split
    · exact Nat.le_succ _
    · have h1 : (goesM (holdM D k x)).1.held.length = D.held.length + 1 := by rw [goesM_held]; simp [holdM]
      split
      · exact Nat.le_trans (loseM_held _) (Nat.le_of_eq h1)
      · exact Nat.le_of_eq h1
/-- The i-th piece of 64 bytes, the last one filled up. -/
def secAt (x : List Int) (i : Nat) : List Int := (x.drop (i * 64)).take 64 ++ List.replicate (64 - min (x.length - i * 64) 64) 0
theorem secAt_length (x : List Int) (i : Nat) : (secAt x i).length = 64 := by simp [secAt]; omega
def saveFrom (x : List Int) (k : Int) : Nat → Nat → DM → DM × Int
  | 0, _, D => (D, 0)
  | m + 1, i, D => if (writeM D (k + i) (secAt x i)).2 ≠ 0 then writeM D (k + i) (secAt x i) else saveFrom x k m (i + 1) (writeM D (k + i) (secAt x i)).1
def saveM (D : DM) (k : Int) (x : List Int) : DM × Int := if spanM D k x.length ≠ 0 then (D, spanM D k x.length) else saveFrom x k ((x.length + 63) / 64) 0 D
theorem run_copy_sector {w : World} {g9 : Nat} {ad : Addr} {x : List Int} (i c : Nat) (hi : i * 64 < x.length) (hg : w.heap[g9]? = some (.cells zs64 68 (0, 0))) (hC : ∀ j v, x[j]? = some v → w.cell? (ad.add j) = some (.int .u8 v)) (hadd : ∀ a b, (ad.add a).add b = ad.add (a + b)) (ty : TypeId) :
    (Builtin.copy_ #[22, 22] ty #[.slice (some ⟨g9, 0, none⟩) 64 64, .slice (some (ad.add (i * 64))) (x.length - i * 64) c]).run Tryd.prog w = .ok (goInt ((x.drop (i * 64)).take 64).length) (w.setRow g9 (nums .u8 (secAt x i)).toArray) := by
  have hz : zs64.toList = List.replicate 64 (.int .u8 0) := by
    unfold zs64
    simp
  have := run_copy_row (P := Tryd.prog) w 22 22 ty 5 g9 0 64 64 (ad.add (i * 64)) (x.length - i * 64) c zs64 68 (nums .u8 ((x.drop (i * 64)).take 64)) Tryd.underlying22 (by kernel_rfl) hg (by rw [nums_length, List.length_take, List.length_drop]; exact Nat.min_comm _ _) (fun j v hj => by
    simp only [nums, List.getElem?_map, Option.map_eq_some_iff] at hj
    obtain ⟨q, hq, rfl⟩ := hj
    rw [List.getElem?_take] at hq
    split at hq
    · rw [List.getElem?_drop] at hq
      rw [hadd]
      exact hC _ _ hq
    · cases hq) (by rw [nums_length, List.length_take, zs64_size]; omega) (fun v hv => by
    simp only [nums, List.mem_map] at hv
    obtain ⟨_, _, rfl⟩ := hv
    rfl)
  rw [nums_length] at this
  rw [this]
  congr 3
  rw [hz, List.drop_replicate]
  simp only [secAt, nums, List.map_append, List.map_replicate, List.take_zero, List.nil_append, List.length_take, List.length_drop, Nat.zero_add, Nat.min_comm]
theorem cell_kept {p : Addr} {v : Value} (h : w.cell? p = some v) (hb : Below w.heap.size w W) : W.cell? p = some v := by
  have hp : p.block < w.heap.size := by
    unfold World.cell? at h
    split at h
    · rename_i hq; exact blk_lt hq
    · cases h
  rw [hb.cell hp]
  exact h
theorem DiskAt.regrow2 {w0 w1 w2 w3 : World} (h : DiskAt w3 B g (Grow (Grow F w0 w1) w2 w3) D) (h1 : w1.heap.size ≤ w3.heap.size) (h2 : w0.heap.size ≤ w2.heap.size) (hB : B ≤ w0.heap.size) (hl : ∀ k, F k → B ≤ k ∧ k < w0.heap.size) (h03 : w0.heap.size ≤ w3.heap.size) : DiskAt w3 B g (Grow F w0 w3) D := by
  obtain ⟨a, b, c, h⟩ := h
  refine ⟨a, b, c, h.mono (fun k hk => ?_) (fun k hk => ?_)⟩
  · rcases hk with (hk | hk) | hk
    · exact .inl hk
    · exact .inr ⟨hk.1, by omega⟩
    · exact .inr ⟨by omega, hk.2⟩
  · rcases hk with hk | hk
    · exact ⟨(hl k hk).1, by have := (hl k hk).2; omega⟩
    · exact ⟨by omega, hk.2⟩
theorem upd_block (W : World) (cs cs' : Array Value) (e : TypeId) : Upd W ((W.alloc (.cells cs e)).drew.setRow W.heap.size cs') (· = W.heap.size) :=
  ((((Upd.refl W (· = W.heap.size)).alloc (.cells cs e)).drew).trans (upd_setRow _ W.heap.size cs') (fun k hk => .inl hk))
theorem DiskAt.frame {w1 : World} {G : Nat → Prop} (h : DiskAt w B g F D) (hu : Upd w w1 G) (hd : ∀ k, k < w.heap.size → F k → ¬ G k) : DiskAt w1 B g F D := by
  obtain ⟨a, b, c, h⟩ := h
  exact ⟨a, b, c, DAt.frame h hu (fun k hk => hd k (h.lt k hk).2 hk)⟩
set_option maxHeartbeats 8000000 in
theorem Save_calls (h : DAt w B g F D vs vh vc) (hok : DOk D) (hn : D.held.length + 20000 ≤ 10000000) (k : Int) (A : Option Addr) (c : Nat) (x : List Int) (hx : x.length ≤ 1000000000) (hxc : x.length ≤ c) (hC : ∀ W, Upd w W F → Kd.C (Kd.int .u8) W A x.length x) :
    Calls Tryd.prog 43 #[.pointer (some ⟨g, 0, none⟩), .int .i64 k, .slice A x.length c] w fun e w' => e = .returned (.int .i64 (saveM D k x).2) ∧ DiskAt w' B g (Grow F w w') (saveM D k x).1 ∧ Upd w w' F := by
  have H := Aside0.mk h
  have HOK := Aside0.mk hok
  have HC := Aside0.mk hC
  have HN := Aside0.mk hn
  have HB := Aside0.mk h.hB
  clear h hok hC hn
  by_cases hs : spanM D k x.length = 0
  · obtain ⟨hd, hk0, hk1, hk2⟩ := spanM_zero hs
    obtain ⟨k0, rfl⟩ : ∃ n : Nat, k = n := ⟨k.toNat, by omega⟩
    rw [need_nat] at hk2
    obtain ⟨M, hM⟩ : ∃ M, M = (x.length + 63) / 64 := ⟨_, rfl⟩
    rw [← hM] at hk2
    have hn1 := HOK.out.n1
    have hkM : k0 + M ≤ D.sec.length := by omega
    have hM2 : M ≤ 16384 := by omega
    have HND := Lib.hid (show needM x.length = (M : Int) by rw [need_nat, hM])
    have HS := Lib.hid hs
    have hq := Lib.hid (show saveM D k0 x = saveFrom x k0 M 0 D by simp [saveM, hs, hM])
    have HM := Aside0.mk hM
    clear hs hk0 hk1 hk2 hd hM
    go_enter Tryd.func43, Tryd.ntmps43
    go_wp2_with (first | (go_at_call 59; refine (span_calls H.out HOK.out k0 x.length (by omega) (by omega)).mono ?_; rintro e w' ⟨rfl, m, rfl⟩; rw [HS.out]) | (go_at_call 60; refine (need_calls x.length (by omega) (by omega)).mono ?_; rintro e w' ⟨rfl, rfl⟩; rw [HND.out]))
    go_loopw [8, 9, 10, 22] (fun v8 v9 v10 v22 w' => ∃ (i : Nat) (D' : DM), v22 = .int .i64 i ∧ i ≤ M ∧ Aside0 (saveFrom x k0 M 0 D = saveFrom x k0 (M - i) i D') ∧ Aside0 (DiskAt w' B g (Grow F w w') D') ∧ Aside0 (DOk D') ∧ Aside0 (D'.held.length ≤ D.held.length + i) ∧ Aside0 (Upd w w' F)) (fun _ _ _ v22 _ => M - (intOf v22).toNat)
    case atStart => exact ⟨0, D, rfl, Nat.zero_le _, ⟨rfl⟩, ⟨_, _, _, (H.out.drewN _).grow HB.out⟩, HOK, ⟨Nat.le_refl _⟩, ⟨(Upd.refl _ _).drewN _⟩⟩
    case round =>
      obtain ⟨i, D', rfl, hi, HE, HD, HO, HL, HU⟩ := hrel
      by_cases hlt : i < M
      · have hi64 : i * 64 < x.length := by have := HM.out; omega
        obtain ⟨c1, c2, c3⟩ := HC.out wr HU.out
        obtain ⟨ad, hA, hcc⟩ := c3 (by omega)
        subst hA
        have hw4 : wrap64 ((i : Int) * 64) = (i : Int) * 64 := by simp only [wrap64]; omega
        have htn : ((i : Int) * 64).toNat = i * 64 := by omega
        have HG9 := Aside0.mk (blk_drew (heap_alloc_new wr (.cells zs64 68)))
        have hcell : ∀ j v, x[j]? = some v → (wr.alloc (.cells zs64 68)).drew.cell? (ad.add j) = some (.int .u8 v) := fun j v hj => by
          obtain ⟨cs, _, hK, hx1⟩ := hcc j v hj
          have := hx1 0 (.int .u8 v) (by rw [hK]; rfl)
          have := cell_kept this (below_drew (below_alloc (Below.refl wr.heap.size wr) (.cells zs64 68)))
          simpa [Kd.int, Kd.scalar] using this
        have hif : (if c = i * 64 then some ad else some (ad.add (i * 64))) = some (ad.add (i * 64)) := if_neg (by omega)
        have HCP := Aside0.mk (run_copy_sector i (c - i * 64) hi64 HG9.out hcell (Addr.add_add ad))
        rw [← hif] at HCP
        clear hif
        have HU9 := Aside0.mk (upd_block wr zs64 (nums .u8 (secAt x i)).toArray 68)
        have HC9 := Aside0.mk (show Kd.C (Kd.int .u8) ((wr.alloc (.cells zs64 68)).drew.setRow wr.heap.size (nums .u8 (secAt x i)).toArray) (some ⟨wr.heap.size, 0, none⟩) 64 (secAt x i) by
          have := C_block (setRow_heap _ _ _ (nums .u8 (secAt x i)).toArray _ _ HG9.out) (by rw [secAt_length]; omega)
          rwa [secAt_length] at this)
        have HD9 := Aside0.mk (HD.out.frame HU9.out (fun k hk _ => by omega))
        have hL9 : D'.held.length < 10000000 := by have := HL.out; have := HN.out; omega
        have HL9 := Aside0.mk hL9
        obtain ⟨q, hq0⟩ : ∃ q, (writeM D' ((k0 : Int) + i) (secAt x i)).2 = q := ⟨_, rfl⟩
        have HQ := Lib.hid hq0
        have HU9' := Aside0.mk (HU.out.trans HU9.out (fun k hk => .inr (by rw [hk]; exact HU.out.size)))
        clear hcc c1 c2 c3 hcell hL9
        by_cases hqz : q = 0
        · subst hqz
          clear hq0
          have HE2 := Aside0.mk (show saveFrom x k0 M 0 D = saveFrom x k0 (M - (i + 1)) (i + 1) (writeM D' ((k0 : Int) + i) (secAt x i)).1 by rw [HE.out, show M - i = (M - (i + 1)) + 1 by omega, saveFrom, if_neg (by rw [HQ.out]; simp)])
          go_wp2_with (first | (refine wpList_alloc rfl rfl _ rfl zs64 (run_alloc64 _) ?_))
          refine start_ (n := 6) (S := fun w' => True) (ds := []) (bz 6 0) (by kernel_rfl) rfl rfl trivial (fun hHeld => ?_)
          refine pz 0 (some 25) (bz 6 1) ?_
          refine pz 1 (some 26) (bz 6 3) ?_
          refine pz 2 (some 27) (bz 6 7) ?_
          refine pure_ (i := 3) (N := some 28) (v := ?_) (a' := ?_) (bz 6 15) rfl rfl (by kernel_rfl) (fun _ _ _ h => h) (Or.inl ⟨by rfl, ?_⟩) ?_ ?_
          rotate_left
          · intro w'
            go_simp
            (try rw [hw4])
            (try with_reducible rfl)
          rotate_left
          · simp only [Act.put, List.setIfInBounds_toArray, List.set_cons_zero, List.set_cons_succ, i64_w, i32_w]
            rfl
          refine pure_ (i := 4) (N := some 29) (v := ?_) (a' := ?_) (bz 6 31) rfl rfl (by kernel_rfl) (fun _ _ _ h => h) (Or.inl ⟨by rfl, ?_⟩) ?_ ?_
          rotate_left
          · intro w'
            go_simp
            (try simp only [htn])
            (try rw [if_pos ⟨by omega, by omega⟩])
            (try rw [if_neg (by omega)])
            (try with_reducible rfl)
          rotate_left
          · simp only [Act.put, List.setIfInBounds_toArray, List.set_cons_zero, List.set_cons_succ, i64_w, i32_w]
            rfl
          refine one_ (i := 5) (N := some 30) (bz 6 63) rfl rfl (by kernel_rfl) (by decide) (fun K hK => ?_)
          refine copy_step (by rfl) rfl (.tmp 25) (.tmp 29) 22 22 rfl rfl rfl HCP.out ?_
          refine hK.out _ _ trivial (fun hHeld => ?_)
          clear hK K
          refine norm_ (a' := ?_) ?_ ?_
          rotate_left
          · show Act.put _ (some 30) _ = _
            simp only [Act.put, List.setIfInBounds_toArray, List.set_cons_zero, List.set_cons_succ, i64_w, i32_w]
            rfl
          refine done_ (by kernel_rfl) ?_

          go_wp2_with (first | (go_at_call 53; refine (Write_calls64 HD9.out HO.out HL9.out ((k0 : Int) + i) _ 64 (secAt x i) (secAt_length x i) HC9.out).mono ?_; rintro e w5 ⟨rfl, h5, hu5⟩; rw [HQ.out]; have H5 := Aside0.mk h5; have HU5 := Aside0.mk hu5; clear h5 hu5))
          go_roundw
          case rel => exact ⟨i + 1, _, by go_num, by omega, HE2, ⟨H5.out.regrow2 (Nat.le_trans HU9.out.size HU5.out.size) HU9'.out.size HB.out H.out.lt (Nat.le_trans HU9'.out.size HU5.out.size)⟩, ⟨writeM_ok HO.out HL9.out⟩, ⟨by have := writeM_held (D := D') ((k0 : Int) + i) (secAt x i); have := HL.out; omega⟩, ⟨HU9'.out.trans HU5.out (fun k hk => hk.elim .inl (fun h => .inr h.1))⟩⟩
          case measure => simp [intOf]; omega
        · clear hq0
          have HE2 := Lib.hid (show saveM D k0 x = writeM D' ((k0 : Int) + i) (secAt x i) by rw [hq.out, HE.out, show M - i = (M - (i + 1)) + 1 by omega, saveFrom, if_pos (by rw [HQ.out]; exact hqz)])
          go_wp2_with (first | (refine wpList_alloc rfl rfl _ rfl zs64 (run_alloc64 _) ?_))
          refine start_ (n := 6) (S := fun w' => True) (ds := []) (bz 6 0) (by kernel_rfl) rfl rfl trivial (fun hHeld => ?_)
          refine pz 0 (some 25) (bz 6 1) ?_
          refine pz 1 (some 26) (bz 6 3) ?_
          refine pz 2 (some 27) (bz 6 7) ?_
          refine pure_ (i := 3) (N := some 28) (v := ?_) (a' := ?_) (bz 6 15) rfl rfl (by kernel_rfl) (fun _ _ _ h => h) (Or.inl ⟨by rfl, ?_⟩) ?_ ?_
          rotate_left
          · intro w'
            go_simp
            (try rw [hw4])
            (try with_reducible rfl)
          rotate_left
          · simp only [Act.put, List.setIfInBounds_toArray, List.set_cons_zero, List.set_cons_succ, i64_w, i32_w]
            rfl
          refine pure_ (i := 4) (N := some 29) (v := ?_) (a' := ?_) (bz 6 31) rfl rfl (by kernel_rfl) (fun _ _ _ h => h) (Or.inl ⟨by rfl, ?_⟩) ?_ ?_
          rotate_left
          · intro w'
            go_simp
            (try simp only [htn])
            (try rw [if_pos ⟨by omega, by omega⟩])
            (try rw [if_neg (by omega)])
            (try with_reducible rfl)
          rotate_left
          · simp only [Act.put, List.setIfInBounds_toArray, List.set_cons_zero, List.set_cons_succ, i64_w, i32_w]
            rfl
          refine one_ (i := 5) (N := some 30) (bz 6 63) rfl rfl (by kernel_rfl) (by decide) (fun K hK => ?_)
          refine copy_step (by rfl) rfl (.tmp 25) (.tmp 29) 22 22 rfl rfl rfl HCP.out ?_
          refine hK.out _ _ trivial (fun hHeld => ?_)
          clear hK K
          refine norm_ (a' := ?_) ?_ ?_
          rotate_left
          · show Act.put _ (some 30) _ = _
            simp only [Act.put, List.setIfInBounds_toArray, List.set_cons_zero, List.set_cons_succ, i64_w, i32_w]
            rfl
          refine done_ (by kernel_rfl) ?_

          go_wp2_with (first | (go_at_call 53; refine (Write_calls64 HD9.out HO.out HL9.out ((k0 : Int) + i) _ 64 (secAt x i) (secAt_length x i) HC9.out).mono ?_; rintro e w5 ⟨rfl, h5, hu5⟩; rw [HQ.out]; have H5 := Aside0.mk h5; have HU5 := Aside0.mk hu5; clear h5 hu5))
          go_ret
          exact ⟨by rw [HE2.out, HQ.out] <;> rfl, by rw [HE2.out]; exact H5.out.regrow2 (Nat.le_trans HU9.out.size HU5.out.size) HU9'.out.size HB.out H.out.lt (Nat.le_trans HU9'.out.size HU5.out.size), HU9'.out.trans HU5.out (fun k hk => hk.elim .inl (fun h => .inr h.1))⟩
      · obtain rfl : i = M := by omega
        have HE' := Lib.hid (show saveM D k0 x = (D', 0) by rw [hq.out, HE.out, Nat.sub_self]; rfl)
        clear hq
        go_wp2
        go_ret
        exact ⟨by rw [HE'.out] <;> rfl, by rw [HE'.out]; exact HD.out, HU.out⟩
  · have hq := Lib.hid (show saveM D k x = (D, spanM D k x.length) by simp [saveM, hs])
    obtain ⟨q, hq0⟩ : ∃ q, spanM D k x.length = q := ⟨_, rfl⟩
    have HQ := Lib.hid hq0
    rw [hq0] at hs
    clear hq0
    go_enter Tryd.func43, Tryd.ntmps43
    go_wp2_with (first | (go_at_call 59; refine (span_calls H.out HOK.out k x.length (by omega) (by omega)).mono ?_; rintro e w' ⟨rfl, m, rfl⟩; rw [HQ.out]))
    go_ret
    refine ⟨by rw [hq.out, HQ.out] <;> rfl, ?_, (Upd.refl _ _).drewN _⟩
    rw [hq.out]
    exact ⟨_, _, _, (H.out.drewN _).grow HB.out⟩
end Go.Proofs.YtmblnflfklmmkaaDoor.Dk
/- Contracts of package disk: New. -/
namespace Go.Proofs.YtmblnflfklmmkaaDoor.Dk
open Go.RowKit Go.Proofs.YtmblnflfklmmkaaDoorW.PrintWords Go.Proofs.YtmblnflfklmmkaaDoorW.PrintLast Go.Proofs.YtmblnflfklmmkaaDoorW.PrintMore
set_option linter.unusedVariables false
set_option linter.unusedSimpArgs false
set_option maxRecDepth 30000
variable {w W W1 : World} {B g N : Nat} {F : Nat → Prop} {D : DM} {vs vh vc : Value}
def newBad (x : List Int) (n : Int) : Prop := n < 1 ∨ 16384 < n ∨ n * 64 < (x.length : Int)
/-- The disk of n sectors, the first i of them filled. -/
def secTo (x : List Int) (n i : Nat) : List (List Int) := (List.range i).map (secAt x) ++ List.replicate (n - i) (List.replicate 64 0)
theorem secTo_length (x : List Int) (n i : Nat) (h : i ≤ n) : (secTo x n i).length = n := by simp only [secTo, List.length_append, List.length_map, List.length_range, List.length_replicate]; omega
theorem secTo_split (x : List Int) (n i : Nat) (h : i < n) : secTo x n i = (List.range i).map (secAt x) ++ List.replicate 64 0 :: List.replicate (n - (i + 1)) (List.replicate 64 0) := by
  unfold secTo
  rw [show n - i = (n - (i + 1)) + 1 by omega, List.replicate_succ]
theorem secTo_next (x : List Int) (n i : Nat) : secTo x n (i + 1) = (List.range i).map (secAt x) ++ secAt x i :: List.replicate (n - (i + 1)) (List.replicate 64 0) := by
  unfold secTo
  rw [List.range_succ, List.map_append, List.append_assoc]
  rfl
theorem secTo_get (x : List Int) (n i : Nat) (h : i < n) : (secTo x n i).getD i [] = List.replicate 64 0 := by
  rw [secTo_split x n i h, List.getD_eq_getElem?_getD, List.getElem?_append_right (by simp)]
  rw [List.length_map, List.length_range, Nat.sub_self]
  rfl
theorem secTo_set (x : List Int) (n i : Nat) (h : i < n) : (secTo x n i).set i (secAt x i) = secTo x n (i + 1) := by
  rw [secTo_split x n i h, secTo_next, List.set_append_right _ _ (by simp), List.length_map, List.length_range, Nat.sub_self]
  rfl
theorem secTo_skip (x : List Int) (n i : Nat) (h : i < n) (hx : x.length ≤ i * 64) : secTo x n (i + 1) = secTo x n i := by
  have e : secAt x i = List.replicate 64 0 := by
    unfold secAt
    rw [List.drop_of_length_le hx, List.take_nil, List.nil_append, show x.length - i * 64 = 0 by omega, Nat.zero_min, Nat.sub_zero]
  rw [secTo_next, e, secTo_split x n i h]
def newM (x : List Int) (n i : Nat) : DM := { sec := secTo x n i, held := [], down := false, strokes := 0, left := 0, set := false, choice := [] }
set_option maxHeartbeats 8000000 in
theorem New_calls (A : Option Addr) (c : Nat) (x : List Int) (n : Nat) (hx : x.length ≤ 1000000000) (hxc : x.length ≤ c) (hC : Kd.C (Kd.int .u8) w A x.length x) (hok : ¬ newBad x n) :
    Calls Tryd.prog 15 #[.slice A x.length c, .int .i64 n] w fun e w' => ∃ g, e = .returned (.tuple #[.pointer (some ⟨g, 0, none⟩), .int .i64 0]) ∧ DiskAt w' w.heap.size g (fun k => w.heap.size ≤ k ∧ k < w'.heap.size) (newM x n n) ∧ Below w.heap.size w w' := by
  have HC := Aside0.mk hC
  have hn1 : 1 ≤ n := by unfold newBad at hok; omega
  have hn2 : n ≤ 16384 := by unfold newBad at hok; omega
  have hn3 : x.length ≤ n * 64 := by unfold newBad at hok; omega
  clear hok hC
  go_enter Tryd.func15, Tryd.ntmps15
  go_wp2_with (first | (refine Kd.R_make kSec (w0 := w) w.heap.size 68 rfl (N := 23) rfl 64 (.tmp 22) (.tmp 22) rfl (n : Int) rfl rfl Tryd.underlying64 (.agg (List.replicate 64 (.int .u8 0)).toArray) 64 info64' rfl (by decide) (by decide) (List.replicate 64 0) (ok := fun k => w.heap.size ≤ k) (okp := fun _ => False) ⟨rfl, rfl⟩ (fun _ h => h.elim) (Nat.le_refl _) (by omega) (by simp; omega) (Below.refl _ _) (Nat.le_refl _) ?_; intro v1 w1 hr1 hb1 hg1 _; rw [Int.toNat_natCast] at hr1; obtain ⟨A1, c1, rfl⟩ := Kd.R_slice hr1; have HR1 := Aside0.mk hr1; have HB1 := Aside0.mk hb1; clear hr1 hb1 hg1))
  have HC0 := Aside0.mk (show DAt (w1.alloc (.cells #[.slice A1 n c1, .slice none 0 0, .bool false, .int .i64 0, .int .i64 0, .bool false, .slice none 0 0] 67)) w.heap.size w1.heap.size (fun k => w.heap.size ≤ k ∧ k < (w1.alloc (.cells #[.slice A1 n c1, .slice none 0 0, .bool false, .int .i64 0, .int .i64 0, .bool false, .slice none 0 0] 67)).heap.size) (newM x n 0) (.slice A1 n c1) (.slice none 0 0) (.slice none 0 0) from by
    have h1 := Kd.R_below HR1.out (below_alloc (Below.refl w1.heap.size w1) (.cells #[.slice A1 n c1, .slice none 0 0, .bool false, .int .i64 0, .int .i64 0, .bool false, .slice none 0 0] 67))
    have hb := heap_alloc_new w1 (.cells #[.slice A1 n c1, .slice none 0 0, .bool false, .int .i64 0, .int .i64 0, .bool false, .slice none 0 0] 67)
    refine ⟨hb, ?_, Kd.R_nil _ _ _ _ _, Kd.R_nil _ _ _ _ _, ⟨HB1.out.size, blk_lt hb⟩, fun k hk => hk⟩
    rw [List.length_replicate] at h1
    have e : (newM x n 0).sec = List.replicate n (List.replicate 64 0) := by simp only [newM, secTo, List.range_zero, List.map_nil, List.nil_append, Nat.sub_zero]
    rw [e]
    exact Kd.R_mono (Kd.R_bound h1) (fun k hk => ⟨hk.1, hk.2.2.1⟩))
  have HB2 := Aside0.mk (below_alloc HB1.out (.cells #[.slice A1 n c1, .slice none 0 0, .bool false, .int .i64 0, .int .i64 0, .bool false, .slice none 0 0] 67))
  go_loopw [7, 8, 27] (fun v7 v8 v27 w' => ∃ i : Nat, v27 = .int .i64 i ∧ i ≤ n ∧ Aside0 (DAt w' w.heap.size w1.heap.size (fun k => w.heap.size ≤ k ∧ k < w'.heap.size) (newM x n i) (.slice A1 n c1) (.slice none 0 0) (.slice none 0 0)) ∧ Aside0 (Below w.heap.size w w')) (fun _ _ v27 _ => n - (intOf v27).toNat)
  case atStart => exact ⟨0, rfl, Nat.zero_le _, HC0, HB2⟩
  case round =>
    obtain ⟨i, rfl, hi, HD, HV⟩ := hrel
    by_cases hlt : i < n
    · by_cases h64 : i * 64 < x.length
      · have HX := Aside0.mk (Kd.C_below HC.out HV.out)
        obtain ⟨_, _, c3⟩ := HX.out
        obtain ⟨ad, hA, hcc⟩ := c3 (by omega)
        have hl := secTo_length x n i hi
        rcases R_cases HD.out.sec with ⟨_, hz⟩ | ⟨gs, cap, es, hgs⟩
        · have h0 : (secTo x n i).length = 0 := congrArg List.length hz
          omega
        injection es with e1 e2 e3
        subst e1
        clear e2 e3
        have hA' := hA
        subst hA
        have hcell : ∀ j v, x[j]? = some v → wr.drew.cell? (ad.add j) = some (.int .u8 v) := fun j v hj => by
          obtain ⟨cs, _, hK, hx1⟩ := hcc j v hj
          have := hx1 0 (.int .u8 v) (by rw [hK]; rfl)
          simpa [Kd.int, Kd.scalar] using this
        obtain ⟨ad2, cz, ez, hszz, hKz, hxz⟩ := Kd.C_get (Kd.R_reads' HD.out.sec).2.2 [] (i : Int) (by omega) (by show (i : Int) < ((secTo x n i).length : Int); omega)
        injection ez with ez
        subst ez
        rw [Int.toNat_natCast] at hKz hxz
        have hKz' : cz = nums .u8 (List.replicate 64 0) := by
          have := hKz.1
          rwa [show ((newM x n i).sec.getD i []) = List.replicate 64 0 from secTo_get x n i hlt] at this
        have hcc2 : ∀ j u, cz[j]? = some u → wr.drew.cell? ⟨gs, i * 64 + j, none⟩ = some u := fun j u hj => by
          have := hxz j u hj
          rw [add0] at this
          exact this
        obtain ⟨m, hm⟩ : ∃ m, m = min (x.length - i * 64) 64 := ⟨_, rfl⟩
        have hpl : ((x.drop (i * 64)).take 64).length = m := by rw [List.length_take, List.length_drop, hm, Nat.min_comm]
        have hczl : cz.length = 64 := hszz
        have hseg := Kd.R_seg (W := wr.drew) (g := gs) (cap := c1) (n := n) HD.out.sec (i : Int) (by omega) (by omega) hszz (j := 0) (seg := nums .u8 ((x.drop (i * 64)).take 64)) (x' := secAt x i) (okp := fun _ => False) (by intro j u hj; rw [Int.toNat_natCast]; exact hcc2 j u hj) (by rw [nums_length, hpl]; show 0 + m ≤ 64; omega) ⟨by
            rw [hKz', nums_length, hpl, Nat.zero_add, List.take_zero, List.nil_append]
            simp only [secAt, nums, List.map_append, List.map_replicate, List.drop_replicate, ← hm], secAt_length x i⟩ (fun _ h => h.elim)
        rw [Int.toNat_natCast, Nat.add_zero] at hseg
        obtain ⟨hrow, hgr⟩ := hseg
        have hif : (if c = i * 64 then some ad else some (ad.add (i * 64))) = some (ad.add (i * 64)) := if_neg (by omega)
        have HCP := Aside0.mk (fun ty => run_copy_cells (P := Tryd.prog) wr.drew 22 22 ty 5 gs (i * 64) 64 64 (ad.add (i * 64)) (x.length - i * 64) (c - i * 64) (nums .u8 ((x.drop (i * 64)).take 64)) Tryd.underlying22 (by kernel_rfl) (by rw [nums_length, hpl, hm]) (fun j v hj => by
          simp only [nums, List.getElem?_map, Option.map_eq_some_iff] at hj
          obtain ⟨q, hq, rfl⟩ := hj
          rw [List.getElem?_take] at hq
          split at hq
          · rw [List.getElem?_drop] at hq
            rw [Addr.add_add]
            exact hcell _ _ hq
          · cases hq) (fun j hj => by
          rw [nums_length, hpl] at hj
          obtain ⟨u, hu⟩ : ∃ u, cz[j]? = some u := ⟨cz[j]'(by omega), List.getElem?_eq_getElem _⟩
          rw [hcc2 j u hu]
          rfl) (fun j hj => by
          obtain ⟨inner, ho⟩ := Kd.R_own HD.out.sec
          obtain ⟨cells2, hc2⟩ := own_typed ho gs rfl
          exact blk_frozen (w := wr.drew) hc2 _) (fun v hv => by
          simp only [nums, List.mem_map] at hv
          obtain ⟨_, _, rfl⟩ := hv
          rfl))
        rw [← hif] at HCP
        have hw4 : wrap64 ((i : Int) * 64) = (i : Int) * 64 := by simp only [wrap64]; omega
        have htn : ((i : Int) * 64).toNat = i * 64 := by omega
        have c0 : wr.drew.cell? ⟨w1.heap.size, 0, none⟩ = some (.slice (some ⟨gs, 0, none⟩) n c1) := HD.out.c0
        have hgr' : wr.grownBy (wr.drew.setCells gs (i * 64) (nums .u8 ((x.drop (i * 64)).take 64))) (Value.slice (some ⟨gs, 0, none⟩) n c1).ownBlock := ⟨hgr.os, hgr.tape, hgr.output, hgr.size, hgr.block⟩
        have HD2 := Aside0.mk (show DAt (wr.drew.setCells gs (i * 64) (nums .u8 ((x.drop (i * 64)).take 64))) w.heap.size w1.heap.size (fun k => w.heap.size ≤ k ∧ k < (wr.drew.setCells gs (i * 64) (nums .u8 ((x.drop (i * 64)).take 64))).heap.size) (newM x n (i + 1)) (.slice (some ⟨gs, 0, none⟩) n c1) (.slice none 0 0) (.slice none 0 0) from by
          have hs := secTo_set x n i hlt
          refine ⟨blk_other HD.out.blk HD.out.sec (by decide) hgr', ?_, Kd.R_nil _ _ _ _ _, Kd.R_nil _ _ _ _ _, ⟨HD.out.own.1, Nat.lt_of_lt_of_le HD.out.own.2 hgr'.size⟩, fun k hk => hk⟩
          show Kd.R kSec 68 _ _ _ _ (secTo x n (i + 1))
          rw [← hs]
          exact Kd.R_mono hrow (fun k hk => ⟨hk.1, Nat.lt_of_lt_of_le hk.2 hgr'.size⟩))
        have HB3 := Aside0.mk (HV.out.trans (show Below w.heap.size wr (wr.drew.setCells gs (i * 64) (nums .u8 ((x.drop (i * 64)).take 64))) from ⟨hgr'.os, hgr'.tape, hgr'.output, hgr'.size, fun k hk => hgr'.block k (Nat.lt_of_lt_of_le hk HV.out.size) (fun he => by simp [Value.ownBlock] at he; omega)⟩))
        clear hcc hcell hxz hKz hKz' hcc2 hrow hgr hgr' hif c3 hpl hczl hszz
        go_wp2
        refine start_ (n := 11) (S := fun w' => w'.cell? ⟨w1.heap.size, 0, none⟩ = some (.slice (some ⟨gs, 0, none⟩) n c1)) (ds := [10]) (bz 11 0) (by kernel_rfl) rfl rfl (c0) (fun hHeld => ?_)
        refine pz 0 (some 36) (bz 11 1) ?_
        refine pz 1 (some 37) (bz 11 3) ?_
        refine pz 2 (some 38) (bz 11 7) ?_
        refine pz 4 (some 40) (bz 11 23) ?_
        refine pz 7 (some 43) (bz 11 151) ?_
        refine pz 8 (some 44) (bz 11 407) ?_
        refine pure_ (i := 9) (N := some 45) (v := ?_) (a' := ?_) (bz 11 919) rfl rfl (by kernel_rfl) (fun _ _ _ h => h) (Or.inl ⟨by rfl, ?_⟩) ?_ ?_
        rotate_left
        · intro w'
          go_simp
          (try simp only [htn])
          (try rw [if_pos ⟨by omega, by omega⟩])
          (try rw [if_neg (by omega)])
          (try with_reducible rfl)
        rotate_left
        · simp only [Act.put, List.setIfInBounds_toArray, List.set_cons_zero, List.set_cons_succ, i64_w, i32_w]
          rfl
        refine tz1 3 (some 39) (bz 11 927) hHeld ?_
        refine pz 5 (some 41) (bz 11 959) ?_
        refine pz 6 (some 42) (bz 11 1023) ?_
        refine last_ (i := 10) (N := some 46) (bz 11 2047) rfl rfl (by kernel_rfl) (by decide) (fun K hK => ?_)
        refine copy_step (by rfl) rfl (.tmp 42) (.tmp 45) 22 22 rfl rfl rfl HCP.out ?_
        refine hK.out _ _ ?_
        clear hK K
        refine norm_ (a' := ?_) ?_ ?_
        rotate_left
        · show Act.put _ (some 46) _ = _
          simp only [Act.put, List.setIfInBounds_toArray, List.set_cons_zero, List.set_cons_succ, i64_w, i32_w]
          rfl
        refine done_ (by kernel_rfl) ?_

        go_wp2
        go_roundw
        case rel => exact ⟨i + 1, by go_num, by omega, HD2, HB3⟩
        case measure => simp [intOf]; omega
      · have HD2 := Aside0.mk (show DAt wr w.heap.size w1.heap.size (fun k => w.heap.size ≤ k ∧ k < wr.heap.size) (newM x n (i + 1)) (.slice A1 n c1) (.slice none 0 0) (.slice none 0 0) by
          have := HD.out
          unfold newM at this ⊢
          rw [secTo_skip x n i hlt (by omega)]
          exact this)
        go_wp2
        go_roundw
        case rel => exact ⟨i + 1, by go_num, by omega, HD2, HV⟩
        case measure => simp [intOf]; omega
    · obtain rfl : i = n := by omega
      go_wp2
      refine bodyPost_ret (results_tmp2 rfl _ _ _) rfl ?_
      exact ⟨_, rfl, ⟨_, _, _, HD.out⟩, HV.out⟩
end Go.Proofs.YtmblnflfklmmkaaDoor.Dk
/- Contracts of package disk: New where it refuses; what is kept by all calls. -/
namespace Go.Proofs.YtmblnflfklmmkaaDoor.Dk
open Go.RowKit Go.Proofs.YtmblnflfklmmkaaDoorW.PrintWords Go.Proofs.YtmblnflfklmmkaaDoorW.PrintLast Go.Proofs.YtmblnflfklmmkaaDoorW.PrintMore
set_option linter.unusedVariables false
set_option linter.unusedSimpArgs false
set_option maxRecDepth 30000
variable {w W W1 : World} {B g N : Nat} {F : Nat → Prop} {D : DM} {vs vh vc : Value}
theorem newM_ok (x : List Int) (n : Nat) (h : n ≤ 16384) : DOk (newM x n n) := by
  refine ⟨fun y hy => by simp [newM] at hy, ?_, by simp [newM], by simp [newM], by simp [newM]⟩
  show (secTo x n n).length ≤ 16384
  rw [secTo_length x n n (Nat.le_refl _)]
  exact h
end Go.Proofs.YtmblnflfklmmkaaDoor.Dk
/- Contracts of package disk: Read where it refuses; rows beside a disk. -/
namespace Go.Proofs.YtmblnflfklmmkaaDoor.Dk
open Go.RowKit Go.Proofs.YtmblnflfklmmkaaDoorW.PrintWords Go.Proofs.YtmblnflfklmmkaaDoorW.PrintLast Go.Proofs.YtmblnflfklmmkaaDoorW.PrintMore
set_option linter.unusedVariables false
set_option linter.unusedSimpArgs false
set_option maxRecDepth 30000
variable {w W W' : World} {B g N : Nat} {F G : Nat → Prop} {D : DM} {vs vh vc : Value}
/-- A row of bytes beside a disk: what the disk's calls leave as it was. -/
structure Row (W : World) (F : Nat → Prop) (v : Value) (xs : List Int) : Prop where
  row : ∃ G, Kd.R (Kd.int .u8) 5 W 0 G v xs ∧ ∀ k, G k → k < W.heap.size ∧ ¬ F k
theorem Row.step {v : Value} {xs : List Int} (h : Row W F v xs) (hu : Upd W W' F) : Row W' (Grow F W W') v xs := by
  obtain ⟨G, h1, h2⟩ := h.row
  exact ⟨G, Kd.R_kept h1 hu.kept (fun k hk => (h2 k hk).2), fun k hk => ⟨Nat.lt_of_lt_of_le (h2 k hk).1 hu.size, fun hg => hg.elim (h2 k hk).2 (fun h => by have := (h2 k hk).1; omega)⟩⟩
theorem Row.same {v : Value} {xs : List Int} (h : Row W F v xs) (hu : Upd W W' F) : Row W' F v xs := by
  obtain ⟨G, h1, h2⟩ := h.row
  exact ⟨G, Kd.R_kept h1 hu.kept (fun k hk => (h2 k hk).2), fun k hk => ⟨Nat.lt_of_lt_of_le (h2 k hk).1 hu.size, (h2 k hk).2⟩⟩
/-- A row that is made beside a disk. -/
theorem Row.new {v : Value} {xs : List Int} {base : Nat} (h : Kd.R (Kd.int .u8) 5 W' base (fun k => base ≤ k) v xs) (hF : ∀ k, F k → k < base) : Row W' F v xs := by
  refine ⟨⟨fun k => base ≤ k ∧ k < W'.heap.size, ?_, fun k hk => ⟨hk.2, fun hf => by have := hF k hf; omega⟩⟩⟩
  have := Kd.R_mono (Kd.R_bound h) (ok' := fun k => base ≤ k ∧ k < W'.heap.size) (fun k hk => ⟨hk.1, hk.2.2.1⟩)
  exact Kd.R_lower this (Nat.zero_le _)
theorem DiskAt.lt (h : DiskAt w B g F D) : ∀ k, F k → k < w.heap.size := by
  obtain ⟨_, _, _, h⟩ := h
  exact fun k hk => (h.lt k hk).2
end Go.Proofs.YtmblnflfklmmkaaDoor.Dk
/- The law's known. -/
namespace Go.Proofs.YtmblnflfklmmkaaDoor.Dk
open Go.RowKit Go.Proofs.YtmblnflfklmmkaaDoorW.PrintWords Go.Proofs.YtmblnflfklmmkaaDoorW.PrintLast Go.Proofs.YtmblnflfklmmkaaDoorW.PrintMore
set_option linter.unusedVariables false
set_option linter.unusedSimpArgs false
set_option maxRecDepth 30000
variable {w W W' : World} {B g N : Nat} {F G : Nat → Prop} {D : DM} {vs vh vc : Value}
def kS : List Int := (List.replicate 64 0).set 0 7
def kD0 : DM := newM [] 2 2
def kD1 : DM := (writeM kD0 0 kS).1
def kD2 : DM := (flushM kD1).1
theorem k1 : (writeM kD0 0 kS).2 = 0 := by decide
theorem k2 : (flushM kD1).2 = 0 := by decide
theorem k3 : (setM kD2 0 [true]).2 = 0 := by decide
theorem UpD (h : DiskAt w B g F D) : Calls Tryd.prog 40 #[.pointer (some ⟨g, 0, none⟩)] w fun e w' => e = .returned (.bool (!D.down)) ∧ w = w' := by
  obtain ⟨_, _, _, h⟩ := h
  exact Up_calls h
theorem DiskAt.lo (h : DiskAt w B g F D) : ∀ k, F k → B ≤ k := by
  obtain ⟨_, _, _, h⟩ := h
  exact fun k hk => (h.lt k hk).1
theorem ok0 : DOk kD0 := newM_ok [] 2 (by decide)
theorem ok1 : DOk kD1 := writeM_ok ok0 (by decide)
end Go.Proofs.YtmblnflfklmmkaaDoor.Dk
/- What a disk of the reference is in memory (its answers are of no account: only that its calls end and touch nothing else); there, stroke, Start. -/
namespace Go.Proofs.YtmblnflfklmmkaaDoor.Dk
open Go.RowKit Go.Proofs.YtmblnflfklmmkaaDoorW.PrintWords Go.Proofs.YtmblnflfklmmkaaDoorW.PrintLast Go.Proofs.YtmblnflfklmmkaaDoorW.PrintMore
set_option linter.unusedVariables false
set_option linter.unusedSimpArgs false
set_option maxRecDepth 30000
def kBy : Kd (List Int) := Kd.slice 5 (Kd.int .u8)
def kWa : Kd (Int × List Int) := Kd.pair (Kd.int .i64) kBy
structure RM where
  sec : List (List Int)
  wait : List (Int × List Int)
  down : Bool
  strokes : Int
  left : Int
  choice : List Bool
structure RAt (w : World) (B g : Nat) (F : Nat → Prop) (R : RM) (vs vh vc : Value) : Prop where
  blk : w.heap[g]? = some (.cells #[vs, vh, .bool R.down, .int .i64 R.strokes, .int .i64 R.left, vc] 113 (0, 0))
  sec : Kd.R kBy 22 w B F vs R.sec
  wait : Kd.R kWa 116 w B F vh R.wait
  choice : ∃ A c, vc = .slice A R.choice.length c ∧ R.choice.length ≤ c ∧ ∀ W, Upd w W (fun k => B ≤ k) → Kd.C Kd.bool W A R.choice.length R.choice
  own : F g
  lt : ∀ k, F k → B ≤ k ∧ k < w.heap.size
variable {w w1 : World} {B g : Nat} {F G : Nat → Prop} {R : RM} {vs vh vc : Value}
theorem RAt.cell (h : RAt w B g F R vs vh vc) (j : Nat) : w.cell? ⟨g, j, none⟩ = #[vs, vh, .bool R.down, .int .i64 R.strokes, .int .i64 R.left, vc][j]? := by simp [World.cell?, h.blk]
/-- Another object was written, or new ones were made. -/
theorem RAt.frame (h : RAt w B g F R vs vh vc) (hu : Upd w w1 G) (hd : ∀ k, F k → ¬ G k) (hG : ∀ k, G k → B ≤ k) : RAt w1 B g F R vs vh vc where
  blk := (hu.block g (h.lt g h.own).2 (hd g h.own)).trans h.blk
  sec := Kd.R_kept h.sec hu.kept hd
  wait := Kd.R_kept h.wait hu.kept hd
  choice := by
    obtain ⟨A, c, h1, h2, h3⟩ := h.choice
    exact ⟨A, c, h1, h2, fun W hW => h3 W ((hu.mono hG).trans hW (fun _ h => .inl h))⟩
  own := h.own
  lt := fun k hk => ⟨(h.lt k hk).1, Nat.lt_of_lt_of_le (h.lt k hk).2 hu.size⟩
theorem RAt.below (h : RAt w B g F R vs vh vc) (hb : Below w.heap.size w w1) : RAt w1 B g F R vs vh vc where
  blk := (hb.block g (h.lt g h.own).2).trans h.blk
  sec := Kd.R_below h.sec hb
  wait := Kd.R_below h.wait hb
  choice := by
    obtain ⟨A, c, h1, h2, h3⟩ := h.choice
    exact ⟨A, c, h1, h2, fun W hW => h3 W ((Upd.of_below hb).trans hW (fun _ h => .inl h))⟩
  own := h.own
  lt := fun k hk => ⟨(h.lt k hk).1, Nat.lt_of_lt_of_le (h.lt k hk).2 hb.size⟩
/-- A store into one of the struct's fields. -/
theorem RAt.put (h : RAt w B g F R vs vh vc) (j : Nat) (u : Value) (R' : RM) (vs' vh' : Value) (hc : (#[vs, vh, .bool R.down, .int .i64 R.strokes, .int .i64 R.left, vc] : Array Value).setIfInBounds j u = #[vs', vh', .bool R'.down, .int .i64 R'.strokes, .int .i64 R'.left, vc])
    (hs : Kd.R kBy 22 w B F vs' R'.sec) (hh : Kd.R kWa 116 w B F vh' R'.wait) (hch : R'.choice = R.choice) : RAt (w.setCell ⟨g, j, none⟩ u) B g F R' vs' vh' vc where
  blk := by rw [heap_setCell_same w g j _ 113 u h.blk, hc]
  sec := Kd.R_set hs h.blk (by simp [kBy, Kd.slice, Kd.int, Kd.scalar]) j u
  wait := Kd.R_set hh h.blk (by simp [kWa, kBy, Kd.pair, Kd.slice, Kd.int, Kd.scalar]) j u
  choice := by
    obtain ⟨A, c, h1, h2, h3⟩ := h.choice
    rw [hch]
    exact ⟨A, c, h1, h2, fun W hW => h3 W (((Upd.refl w (fun k => B ≤ k)).setCell (p := ⟨g, j, none⟩) (.inl (h.lt g h.own).1) u).trans hW (fun _ h => .inl h))⟩
  own := h.own
  lt := fun k hk => ⟨(h.lt k hk).1, by simpa [World.setCell] using (h.lt k hk).2⟩
theorem RAt.upd (h : RAt w B g F R vs vh vc) (j : Nat) (u : Value) : Upd w (w.setCell ⟨g, j, none⟩ u) F := (Upd.refl w F).setCell (.inl h.own) u
end Go.Proofs.YtmblnflfklmmkaaDoor.Dk
/- The reference's stroke and Set. -/
namespace Go.Proofs.YtmblnflfklmmkaaDoor.Dk
open Go.RowKit Go.Proofs.YtmblnflfklmmkaaDoorW.PrintWords Go.Proofs.YtmblnflfklmmkaaDoorW.PrintLast Go.Proofs.YtmblnflfklmmkaaDoorW.PrintMore
set_option linter.unusedVariables false
set_option linter.unusedSimpArgs false
set_option maxRecDepth 30000
variable {w w1 : World} {B g : Nat} {F G : Nat → Prop} {R : RM} {vs vh vc : Value}
end Go.Proofs.YtmblnflfklmmkaaDoor.Dk
/- The reference's Lose. -/
namespace Go.Proofs.YtmblnflfklmmkaaDoor.Dk
open Go.RowKit Go.Proofs.YtmblnflfklmmkaaDoorW.PrintWords Go.Proofs.YtmblnflfklmmkaaDoorW.PrintLast Go.Proofs.YtmblnflfklmmkaaDoorW.PrintMore
set_option linter.unusedVariables false
set_option linter.unusedSimpArgs false
set_option maxRecDepth 30000
variable {w w1 : World} {B g : Nat} {F G : Nat → Prop} {R : RM} {vs vh vc : Value}
structure ROk (R : RM) : Prop where
  at_ : ∀ h ∈ R.wait, 0 ≤ h.1 ∧ h.1 < (R.sec.length : Int)
  s64 : ∀ s ∈ R.sec, s.length = 64
  w64 : ∀ h ∈ R.wait, h.2.length = 64
  n1 : R.sec.length ≤ 16384
  n2 : R.wait.length ≤ 10000000
  l0 : -1 ≤ R.left
  l1 : R.left ≤ 9223372036854775807
end Go.Proofs.YtmblnflfklmmkaaDoor.Dk
/- The reference's full. -/
namespace Go.Proofs.YtmblnflfklmmkaaDoor.Dk
open Go.RowKit Go.Proofs.YtmblnflfklmmkaaDoorW.PrintWords Go.Proofs.YtmblnflfklmmkaaDoorW.PrintLast Go.Proofs.YtmblnflfklmmkaaDoorW.PrintMore
set_option linter.unusedVariables false
set_option linter.unusedSimpArgs false
set_option maxRecDepth 30000
variable {w w1 : World} {B g : Nat} {F G : Nat → Prop} {R : RM} {vs vh vc : Value}
end Go.Proofs.YtmblnflfklmmkaaDoor.Dk
/- The reference's Write. -/
namespace Go.Proofs.YtmblnflfklmmkaaDoor.Dk
open Go.RowKit Go.Proofs.YtmblnflfklmmkaaDoorW.PrintWords Go.Proofs.YtmblnflfklmmkaaDoorW.PrintLast Go.Proofs.YtmblnflfklmmkaaDoorW.PrintMore
set_option linter.unusedVariables false
set_option linter.unusedSimpArgs false
set_option maxRecDepth 30000
variable {w w1 : World} {B g : Nat} {F G : Nat → Prop} {R : RM} {vs vh vc : Value}
def RefAt (w : World) (B g : Nat) (F : Nat → Prop) (R : RM) : Prop := ∃ vs vh vc, RAt w B g F R vs vh vc
end Go.Proofs.YtmblnflfklmmkaaDoor.Dk
/- The reference's Flush. -/
namespace Go.Proofs.YtmblnflfklmmkaaDoor.Dk
open Go.RowKit Go.Proofs.YtmblnflfklmmkaaDoorW.PrintWords Go.Proofs.YtmblnflfklmmkaaDoorW.PrintLast Go.Proofs.YtmblnflfklmmkaaDoorW.PrintMore
set_option linter.unusedVariables false
set_option linter.unusedSimpArgs false
set_option maxRecDepth 30000
variable {w w1 : World} {B g : Nat} {F G : Nat → Prop} {R : RM} {vs vh vc : Value}
end Go.Proofs.YtmblnflfklmmkaaDoor.Dk
/- The reference's Read. -/
namespace Go.Proofs.YtmblnflfklmmkaaDoor.Dk
open Go.RowKit Go.Proofs.YtmblnflfklmmkaaDoorW.PrintWords Go.Proofs.YtmblnflfklmmkaaDoorW.PrintLast Go.Proofs.YtmblnflfklmmkaaDoorW.PrintMore
set_option linter.unusedVariables false
set_option linter.unusedSimpArgs false
set_option maxRecDepth 30000
variable {w w1 : World} {B g : Nat} {F G : Nat → Prop} {R : RM} {vs vh vc : Value}
/-- Bytes that can be read. -/
def Reads (w : World) (v : Value) (b : List Int) : Prop := ∃ A c, v = .slice A b.length c ∧ b.length ≤ c ∧ Kd.C (Kd.int .u8) w A b.length b
end Go.Proofs.YtmblnflfklmmkaaDoor.Dk
/- The reference's span and Load. -/
namespace Go.Proofs.YtmblnflfklmmkaaDoor.Dk
open Go.RowKit Go.Proofs.YtmblnflfklmmkaaDoorW.PrintWords Go.Proofs.YtmblnflfklmmkaaDoorW.PrintLast Go.Proofs.YtmblnflfklmmkaaDoorW.PrintMore
set_option linter.unusedVariables false
set_option linter.unusedSimpArgs false
set_option maxRecDepth 30000
variable {w w1 : World} {B g : Nat} {F G : Nat → Prop} {R : RM} {vs vh vc : Value}
end Go.Proofs.YtmblnflfklmmkaaDoor.Dk
/- The reference's Save. -/
namespace Go.Proofs.YtmblnflfklmmkaaDoor.Dk
open Go.RowKit Go.Proofs.YtmblnflfklmmkaaDoorW.PrintWords Go.Proofs.YtmblnflfklmmkaaDoorW.PrintLast Go.Proofs.YtmblnflfklmmkaaDoorW.PrintMore
set_option linter.unusedVariables false
set_option linter.unusedSimpArgs false
set_option maxRecDepth 30000
variable {w w1 : World} {B g : Nat} {F G : Nat → Prop} {R : RM} {vs vh vc : Value}
/-- What a call leaves of the reference's disk: at most m writes more wait; its blocks are those it had, or new ones. -/
def RefPost (w w' : World) (B g : Nat) (F : Nat → Prop) (R : RM) (m : Nat) : Prop :=
  ∃ R' F', (∀ k, F' k → F k ∨ w.heap.size ≤ k) ∧ RefAt w' B g F' R' ∧ ROk R' ∧ R'.wait.length ≤ R.wait.length + m ∧ R'.sec.length = R.sec.length ∧ Upd w w' F
end Go.Proofs.YtmblnflfklmmkaaDoor.Dk
/- The reference's New. -/
namespace Go.Proofs.YtmblnflfklmmkaaDoor.Dk
open Go.RowKit Go.Proofs.YtmblnflfklmmkaaDoorW.PrintWords Go.Proofs.YtmblnflfklmmkaaDoorW.PrintLast Go.Proofs.YtmblnflfklmmkaaDoorW.PrintMore
set_option linter.unusedVariables false
set_option linter.unusedSimpArgs false
set_option maxRecDepth 30000
variable {w w1 : World} {B g : Nat} {F G : Nat → Prop} {R : RM} {vs vh vc : Value}
end Go.Proofs.YtmblnflfklmmkaaDoor.Dk
/- The laws' small functions: SameBytes, Among, long. Operations in memory. -/
namespace Go.Proofs.YtmblnflfklmmkaaDoor.Dk
open Go.RowKit Go.Proofs.YtmblnflfklmmkaaDoorW.PrintWords Go.Proofs.YtmblnflfklmmkaaDoorW.PrintLast Go.Proofs.YtmblnflfklmmkaaDoorW.PrintMore
set_option linter.unusedVariables false
set_option linter.unusedSimpArgs false
set_option maxRecDepth 30000
variable {w W W' : World}
def sameM (x y : List Int) : Bool := (strOfNums x).toList == (strOfNums y).toList
theorem sameM_refl (x : List Int) : sameM x x = true := by simp [sameM]
theorem Same_calls (A : Option Addr) (c : Nat) (x : List Int) (A2 : Option Addr) (c2 : Nat) (y : List Int) (hx : Kd.C (Kd.int .u8) w A x.length x) (hy : Kd.C (Kd.int .u8) w A2 y.length y) :
    Calls Tryd.prog 16 #[.slice A x.length c, .slice A2 y.length c2] w fun e w' => e = .returned (.bool (sameM x y)) ∧ w = w' := by
  have h1 := Kd.C_string (P := Tryd.prog) (A := A) (c := c) Tryd.underlying22 Tryd.underlying5 Tryd.underlying9 hx
  have h2 := Kd.C_string (P := Tryd.prog) (A := A2) (c := c2) Tryd.underlying22 Tryd.underlying5 Tryd.underlying9 hy
  clear hx hy
  go_enter Tryd.func16, Tryd.ntmps16
  go_wp2
  go_ret
  exact ⟨by first | rfl | simp [sameM], rfl⟩
/-- An operation. -/
structure OpM where
  kind : Int
  at_ : Int
  n : Int
  b : List Int
  ch : List Bool
/-- An operation's five cells; its bytes and its choice can be read. -/
def OpIs (w : World) (o : OpM) (cs : List Value) : Prop :=
  ∃ ab cb ac cc, cs = [.int .i64 o.kind, .int .i64 o.at_, .int .i64 o.n, .slice ab o.b.length cb, .slice ac o.ch.length cc] ∧ o.b.length ≤ cb ∧ o.ch.length ≤ cc ∧ Kd.C (Kd.int .u8) w ab o.b.length o.b ∧ Kd.C Kd.bool w ac o.ch.length o.ch ∧ o.b.length ≤ 140737488351232 ∧ o.ch.length ≤ 140737488351232 ∧ -9223372036854775808 ≤ o.at_ ∧ o.at_ ≤ 9223372036854775807 ∧ -9223372036854775808 ≤ o.n ∧ o.n ≤ 9223372036854775807
theorem OpIs.below {o : OpM} {cs : List Value} (h : OpIs w o cs) (hb : Below w.heap.size w W) : OpIs W o cs := by
  obtain ⟨ab, cb, ac, cc, h1, h2, h3, h4, h5, h6⟩ := h
  exact ⟨ab, cb, ac, cc, h1, h2, h3, Kd.C_below h4 hb, Kd.C_below h5 hb, h6⟩
/-- A row of operations. -/
def Ops (w : World) (A : Option Addr) (l : List OpM) : Prop := ReadsRow (OpIs w) 5 w A l.length l
theorem Ops.below {A : Option Addr} {l : List OpM} (h : Ops w A l) (hb : Below w.heap.size w W) : Ops W A l := ReadsRow.imp_ h hb (fun _ _ hp => OpIs.below hp hb)
end Go.Proofs.YtmblnflfklmmkaaDoor.Dk
/- The law's long. -/
namespace Go.Proofs.YtmblnflfklmmkaaDoor.Dk
open Go.RowKit Go.Proofs.YtmblnflfklmmkaaDoorW.PrintWords Go.Proofs.YtmblnflfklmmkaaDoorW.PrintLast Go.Proofs.YtmblnflfklmmkaaDoorW.PrintMore
set_option linter.unusedVariables false
set_option linter.unusedSimpArgs false
set_option maxRecDepth 30000
variable {w W W' : World}
end Go.Proofs.YtmblnflfklmmkaaDoor.Dk
/- The law's plays: an operation on both disks. -/
namespace Go.Proofs.YtmblnflfklmmkaaDoor.Dk
open Go.RowKit Go.Proofs.YtmblnflfklmmkaaDoorW.PrintWords Go.Proofs.YtmblnflfklmmkaaDoorW.PrintLast Go.Proofs.YtmblnflfklmmkaaDoorW.PrintMore
set_option linter.unusedVariables false
set_option linter.unusedSimpArgs false
set_option maxRecDepth 30000
variable {w W W' : World} {B g g2 : Nat} {F F2 : Nat → Prop} {D : DM} {R : RM}
/-- Two disks beside each other. -/
structure Two (w : World) (B g : Nat) (F : Nat → Prop) (D : DM) (g2 : Nat) (F2 : Nat → Prop) (R : RM) : Prop where
  d : DiskAt w B g F D
  r : RefAt w B g2 F2 R
  ap : ∀ k, F k → ¬ F2 k
def PlayPost (w w' : World) (B g : Nat) (F : Nat → Prop) (D' : DM) (g2 : Nat) (F2 : Nat → Prop) (R : RM) (n : Nat) : Prop :=
  ∃ F' F2' R', (∀ k, F' k → F k ∨ w.heap.size ≤ k) ∧ (∀ k, F2' k → F2 k ∨ w.heap.size ≤ k) ∧ Two w' B g F' D' g2 F2' R' ∧ ROk R' ∧ R'.wait.length ≤ R.wait.length + n ∧ Upd w w' (fun k => F k ∨ F2 k)
theorem RefAt.lo (h : RefAt w B g F R) : ∀ k, F k → B ≤ k ∧ k < w.heap.size := by
  obtain ⟨_, _, _, h⟩ := h
  exact h.lt
theorem RefAt.frame {G : Nat → Prop} (h : RefAt w B g F R) (hu : Upd w W G) (hd : ∀ k, F k → ¬ G k) (hG : ∀ k, G k → B ≤ k) : RefAt W B g F R := by
  obtain ⟨_, _, _, h⟩ := h
  exact ⟨_, _, _, h.frame hu hd hG⟩
theorem Two.below (h : Two w B g F D g2 F2 R) (hb : Below w.heap.size w W) : Two W B g F D g2 F2 R :=
  ⟨h.d.frame (Upd.of_below (F := fun _ => False) hb) (fun _ _ _ h => h), h.r.frame (Upd.of_below (F := fun _ => False) hb) (fun _ _ h => h) (fun _ h => h.elim), h.ap⟩
end Go.Proofs.YtmblnflfklmmkaaDoor.Dk
/- What an operation leaves of a disk; the calls of package disk, on a disk of any form. -/
namespace Go.Proofs.YtmblnflfklmmkaaDoor.Dk
open Go.RowKit Go.Proofs.YtmblnflfklmmkaaDoorW.PrintWords Go.Proofs.YtmblnflfklmmkaaDoorW.PrintLast Go.Proofs.YtmblnflfklmmkaaDoorW.PrintMore
set_option linter.unusedVariables false
set_option linter.unusedSimpArgs false
set_option maxRecDepth 30000
variable {w W W' : World} {B g g2 : Nat} {F F2 : Nat → Prop} {D : DM} {R : RM}
theorem goesM_hs : (goesM D).1.held = D.held ∧ (goesM D).1.sec = D.sec := by
  unfold goesM
  split
  · exact ⟨rfl, rfl⟩
  · split <;> exact ⟨rfl, rfl⟩
theorem loseM_hs (l : List Bool) : (loseM l D).held.length ≤ D.held.length ∧ (loseM l D).sec.length = D.sec.length := by
  unfold loseM
  split
  · exact ⟨Nat.le_refl _, rfl⟩
  · exact ⟨Nat.zero_le _, putsTo_length _ _ _ _⟩
theorem flushM_hs : (flushM D).1.held.length ≤ D.held.length ∧ (flushM D).1.sec.length = D.sec.length := by
  unfold flushM
  split
  · exact ⟨Nat.le_refl _, rfl⟩
  · split
    · have := loseM_hs (D := (goesM D).1) (goesM D).1.choice
      rw [goesM_hs.1, goesM_hs.2] at this
      exact this
    · exact ⟨Nat.zero_le _, by show (putsTo _ _ _ _).length = _; rw [putsTo_length, goesM_hs.2]⟩
theorem writeM_hs (k : Int) (x : List Int) : (writeM D k x).1.held.length ≤ D.held.length + 1 ∧ (writeM D k x).1.sec.length = D.sec.length := by
  have h1 : (holdM D k x).held.length = D.held.length + 1 := by simp [holdM]
  unfold writeM
  split
  · exact ⟨Nat.le_succ _, rfl⟩
  · split
    · exact ⟨Nat.le_succ _, rfl⟩
    · split
      · have := loseM_hs (D := (goesM (holdM D k x)).1) (goesM (holdM D k x)).1.choice
        rw [goesM_hs.1, goesM_hs.2, h1] at this
        exact this
      · show (goesM (holdM D k x)).1.held.length ≤ _ ∧ _
        rw [goesM_hs.1, goesM_hs.2, h1]
        exact ⟨Nat.le_refl _, rfl⟩
theorem saveFrom_hs (x : List Int) (k : Int) : ∀ m i (D : DM), (saveFrom x k m i D).1.held.length ≤ D.held.length + m ∧ (saveFrom x k m i D).1.sec.length = D.sec.length
  | 0, _, _ => ⟨Nat.le_refl _, rfl⟩
  | m + 1, i, D => by
    unfold saveFrom
    have hw := writeM_hs (D := D) (k + i) (secAt x i)
    split
    · exact ⟨by omega, hw.2⟩
    · have := saveFrom_hs x k m (i + 1) (writeM D (k + i) (secAt x i)).1
      exact ⟨by omega, this.2.trans hw.2⟩
theorem saveFrom_ok (x : List Int) (k : Int) : ∀ m i (D : DM), DOk D → D.held.length + m ≤ 10000000 → DOk (saveFrom x k m i D).1
  | 0, _, _, h, _ => h
  | m + 1, i, D, h, hn => by
    unfold saveFrom
    have hw := writeM_hs (D := D) (k + i) (secAt x i)
    have ho := writeM_ok (k := k + i) (x := secAt x i) h (by omega)
    split
    · exact ho
    · exact saveFrom_ok x k m (i + 1) _ ho (by omega)
theorem saveM_hs (k : Int) (x : List Int) : (saveM D k x).1.held.length ≤ D.held.length + x.length ∧ (saveM D k x).1.sec.length = D.sec.length := by
  unfold saveM
  split
  · exact ⟨Nat.le_add_right _ _, rfl⟩
  · have := saveFrom_hs x k ((x.length + 63) / 64) 0 D
    exact ⟨by omega, this.2⟩
theorem saveM_ok {k : Int} {x : List Int} (h : DOk D) (hn : D.held.length + x.length ≤ 10000000) : DOk (saveM D k x).1 := by
  unfold saveM
  split
  · exact h
  · exact saveFrom_ok x k _ 0 D h (by omega)
def DPost (w w' : World) (B g : Nat) (F : Nat → Prop) (D' : DM) : Prop := ∃ F', (∀ k, F' k → F k ∨ w.heap.size ≤ k) ∧ DiskAt w' B g F' D' ∧ Upd w w' F
theorem DPost.of_grow {D' : DM} (h : DiskAt W B g (Grow F w W) D') (hu : Upd w W F) : DPost w W B g F D' := ⟨_, fun _ => Grow.out, h, hu⟩
theorem DPost.of_same {D' : DM} (h : DiskAt W B g F D') (hu : Upd w W F) : DPost w W B g F D' := ⟨F, fun _ h => .inl h, h, hu⟩
theorem dFlush (h : DiskAt w B g F D) (hok : DOk D) :
    Calls Tryd.prog 19 #[.pointer (some ⟨g, 0, none⟩)] w fun e w' => e = .returned (.int .i64 (flushM D).2) ∧ DPost w w' B g F (flushM D).1 := by
  obtain ⟨_, _, _, h⟩ := h
  exact (Flush_calls h hok).mono fun e w' ⟨he, hd, hu⟩ => ⟨he, .of_same hd hu⟩
theorem dSave (h : DiskAt w B g F D) (hok : DOk D) (hn : D.held.length + 20000 ≤ 10000000) (k : Int) (A : Option Addr) (c : Nat) (x : List Int) (hx : x.length ≤ 1000000000) (hxc : x.length ≤ c) (hC : ∀ W, Upd w W F → Kd.C (Kd.int .u8) W A x.length x) :
    Calls Tryd.prog 43 #[.pointer (some ⟨g, 0, none⟩), .int .i64 k, .slice A x.length c] w fun e w' => e = .returned (.int .i64 (saveM D k x).2) ∧ DPost w w' B g F (saveM D k x).1 := by
  obtain ⟨_, _, _, h⟩ := h
  exact (Save_calls h hok hn k A c x hx hxc hC).mono fun e w' ⟨he, hd, hu⟩ => ⟨he, .of_grow hd hu⟩
theorem Reads.block {b : Nat} {x : List Int} {e : TypeId} {m : Nat × Nat} {c : Nat} (h : w.heap[b]? = some (.cells (nums .u8 x).toArray e m)) (hx : x.length ≤ 1000000) (hc : x.length ≤ c) : Reads w (.slice (some ⟨b, 0, none⟩) x.length c) x := ⟨_, _, rfl, hc, C_block h hx⟩
end Go.Proofs.YtmblnflfklmmkaaDoor.Dk
/- The law's plays. -/
namespace Go.Proofs.YtmblnflfklmmkaaDoor.Dk
open Go.RowKit Go.Proofs.YtmblnflfklmmkaaDoorW.PrintWords Go.Proofs.YtmblnflfklmmkaaDoorW.PrintLast Go.Proofs.YtmblnflfklmmkaaDoorW.PrintMore
set_option linter.unusedVariables false
set_option linter.unusedSimpArgs false
set_option maxRecDepth 30000
variable {w W W' wa w2 w3 : World} {B g g2 : Nat} {F F2 : Nat → Prop} {D D' : DM} {R : RM}
theorem DPost.upd (h : DPost w W B g F D') : Upd w W F := by
  obtain ⟨_, _, _, h⟩ := h
  exact h
theorem DPost.cell {b : Nat} {o : Obj} (h : DPost w W B g F D') (hb : ¬ F b) (ho : w.heap[b]? = some o) : W.heap[b]? = some o := (h.upd.block b (by
  rcases Nat.lt_or_ge b w.heap.size with h | h
  · exact h
  · rw [Array.getElem?_eq_none h] at ho; cases ho) hb).trans ho
theorem RefPost.cell {b n : Nat} {o : Obj} (h : RefPost w W B g2 F2 R n) (hb : ¬ F2 b) (ho : w.heap[b]? = some o) : W.heap[b]? = some o := by
  obtain ⟨_, _, _, _, _, _, _, hu⟩ := h
  refine (hu.block b ?_ hb).trans ho
  rcases Nat.lt_or_ge b w.heap.size with h | h
  · exact h
  · rw [Array.getElem?_eq_none h] at ho; cases ho
theorem PlayPost.below {n : Nat} (h : PlayPost w w2 B g F D' g2 F2 R n) (hb : Below w2.heap.size w2 W) : PlayPost w W B g F D' g2 F2 R n := by
  obtain ⟨F', F2', R', h1, h2, h3, h4, h5, h6⟩ := h
  exact ⟨F', F2', R', h1, h2, h3.below hb, h4, h5, h6.trans (Upd.of_below (F := fun _ => False) hb) (fun _ h => h.elim)⟩
theorem PlayPost.same (h : Two w B g F D g2 F2 R) (hok : ROk R) (hb : Below w.heap.size w W) (n : Nat) : PlayPost w W B g F D g2 F2 R n :=
  ⟨F, F2, R, fun _ h => .inl h, fun _ h => .inl h, h.below hb, hok, Nat.le_add_right _ _, Upd.of_below hb⟩
theorem OpIs.C {o : OpM} {ab ac : Option Addr} {cb cc : Nat} (h : OpIs w o [.int .i64 o.kind, .int .i64 o.at_, .int .i64 o.n, .slice ab o.b.length cb, .slice ac o.ch.length cc]) :
    o.b.length ≤ cb ∧ o.ch.length ≤ cc ∧ Kd.C (Kd.int .u8) w ab o.b.length o.b ∧ Kd.C Kd.bool w ac o.ch.length o.ch ∧ -9223372036854775808 ≤ o.n ∧ o.n ≤ 9223372036854775807 := by
  obtain ⟨ab', cb', ac', cc', e, h1, h2, h3, h4, h5, h6, h7⟩ := h
  injection e with _ e
  injection e with _ e
  injection e with _ e
  injection e with e1 e
  injection e with e2 _
  injection e1 with e1 _ e3
  injection e2 with e2 _ e4
  subst e1; subst e2; subst e3; subst e4
  exact ⟨h1, h2, h3, h4, h7.2.2⟩
end Go.Proofs.YtmblnflfklmmkaaDoor.Dk
/- The law's made. -/
namespace Go.Proofs.YtmblnflfklmmkaaDoor.Dk
open Go.RowKit Go.Proofs.YtmblnflfklmmkaaDoorW.PrintWords Go.Proofs.YtmblnflfklmmkaaDoorW.PrintLast Go.Proofs.YtmblnflfklmmkaaDoorW.PrintMore
set_option linter.unusedVariables false
set_option linter.unusedSimpArgs false
set_option maxRecDepth 30000
variable {w W W' : World} {B g g2 : Nat} {F F2 : Nat → Prop} {D : DM} {R : RM}
end Go.Proofs.YtmblnflfklmmkaaDoor.Dk
/- Words for the laws about disks: what a call leaves beside it. -/
namespace Go.Proofs.YtmblnflfklmmkaaDoor.Dk
open Go.RowKit Go.Proofs.YtmblnflfklmmkaaDoorW.PrintWords Go.Proofs.YtmblnflfklmmkaaDoorW.PrintLast Go.Proofs.YtmblnflfklmmkaaDoorW.PrintMore
set_option linter.unusedVariables false
set_option linter.unusedSimpArgs false
set_option maxRecDepth 30000
variable {w0 w w' W W' w1 w2 : World} {B g g2 : Nat} {F F' F2 : Nat → Prop} {D D' : DM} {v : Value} {xs : List Int}
theorem below_trans (h : Below w0.heap.size w0 w1) (h2 : Below w1.heap.size w1 w2) : Below w0.heap.size w0 w2 := Upd.below (F := fun _ => False) ((Upd.of_below (F := fun _ => False) h).trans (Upd.of_below (F := fun _ => False) h2) (fun _ h => h.elim)) (fun _ h => h.elim)
theorem below_upd (h : Below w0.heap.size w0 w1) (h2 : Upd w1 w2 F) (hlo : ∀ k, F k → w0.heap.size ≤ k) : Below w0.heap.size w0 w2 := Upd.below (F := fun k => w0.heap.size ≤ k) ((Upd.of_below (F := fun k => w0.heap.size ≤ k) h).trans h2 (fun k hk => .inl (hlo k hk))) (fun k hk => hk)
theorem Row.post (h : Row w F v xs) (hF : ∀ k, F' k → F k ∨ w.heap.size ≤ k) (hu : Upd w w' F) : Row w' F' v xs := by
  obtain ⟨G, h1, h2⟩ := h.row
  exact ⟨G, Kd.R_kept h1 hu.kept (fun k hk => (h2 k hk).2), fun k hk => ⟨Nat.lt_of_lt_of_le (h2 k hk).1 hu.size, fun hf => by
    rcases hF k hf with hf | hf
    · exact (h2 k hk).2 hf
    · have := (h2 k hk).1
      omega⟩⟩
/-- A disk of the law's own (its blocks are younger than w0), and that all older blocks are as they were. -/
structure St (w0 w : World) (g : Nat) (F : Nat → Prop) (D : DM) : Prop where
  d : DiskAt w w0.heap.size g F D
  b : Below w0.heap.size w0 w
theorem St.below (h : St w0 w g F D) (hb : Below w.heap.size w w') : St w0 w' g F D := ⟨h.d.frame (Upd.of_below (F := fun _ => False) hb) (fun _ _ _ h => h), below_trans h.b hb⟩
theorem Row.below (h : Row w F v xs) (hb : Below w.heap.size w w') : Row w' F v xs := h.same (Upd.of_below hb)
theorem sBytes (h : St w0 w g F D) (hok : DOk D) : Calls Tryd.prog 17 #[.pointer (some ⟨g, 0, none⟩)] w fun e w' => ∃ A c, e = .returned (.slice A (bytesM D).length c) ∧ Row w' F (.slice A (bytesM D).length c) (bytesM D) ∧ Below w.heap.size w w' := by
  have hl := h.d.lt
  obtain ⟨⟨_, _, _, h⟩, _⟩ := h
  refine (Bytes_calls h hok).mono ?_
  rintro e w' ⟨v, rfl, hr, hb⟩
  obtain ⟨A, c, rfl⟩ := Kd.R_slice hr
  exact ⟨A, c, rfl, Row.new hr hl, hb⟩
theorem Row.C {A : Option Addr} {c : Nat} (h : Row w F (.slice A xs.length c) xs) : Kd.C (Kd.int .u8) w A xs.length xs := by
  obtain ⟨G, h1, _⟩ := h.row
  exact (Kd.R_reads' h1).2.2
end Go.Proofs.YtmblnflfklmmkaaDoor.Dk
/- The law's wide and long. -/
namespace Go.Proofs.YtmblnflfklmmkaaDoor.Sh
open Go.Proofs.YtmblnflfklmmkaaDoor.Dk
open Go.RowKit Go.Proofs.YtmblnflfklmmkaaDoorW.PrintWords Go.Proofs.YtmblnflfklmmkaaDoorW.PrintLast Go.Proofs.YtmblnflfklmmkaaDoorW.PrintMore
set_option linter.unusedVariables false
set_option linter.unusedSimpArgs false
set_option maxRecDepth 30000
variable {w w1 w2 w' wr : World}
end Go.Proofs.YtmblnflfklmmkaaDoor.Sh
/-! ### 50. A region's order in a table, made once a region: each step asks the table (numbers alone), not the operations -/
namespace Go.Proofs.YtmblnflfklmmkaaDoorW.PrintLast
open Go.Proofs.YtmblnflfklmmkaaDoorW.PrintWords (Aside0)
def needsOf (md : Region.Mode) (o : Oper) : List Nat := (o.after.toList.filter (fun e => Region.binds md e)).map (fun e => e.on)
def clashOf (md : Region.Mode) (ops : Array Oper) (i : Nat) (oi : Oper) : List Nat := (List.range ops.size).filter fun j => !(j == i) && match ops[j]? with
  | some oj => !(oj.after.any (fun e => Region.binds md e && e.on == i) || oi.apart ops oj)
  | none => false
/-- No select in it; for each operation: what must have come up before it, and what may not come up behind it if it is taken first. -/
def rtab (md : Region.Mode) (ops : Array Oper) : Bool × List (List Nat × List Nat) := (Region.noSelect ops, (List.range ops.size).map fun i => match ops[i]? with
  | some o => (needsOf md o, clashOf md ops i o)
  | none => ([], []))
def readyAt (T : List (List Nat × List Nat)) (l : List Bool) (i : Nat) : Bool := !l.getD i true && match T[i]? with
  | some r => r.1.all (fun j => l.getD j false)
  | none => false
def readyT (T : List (List Nat × List Nat)) (l : List Bool) : List Nat := (List.range T.length).filter (readyAt T l)
def freeT (T : List (List Nat × List Nat)) (l : List Bool) (i : Nat) : Bool := match T[i]? with
  | some r => r.2.all (fun j => l.getD j true)
  | none => false
def closedT (T : List (List Nat × List Nat)) (l : List Bool) : Bool := (List.range T.length).all fun j => !l.getD j false || match T[j]? with
  | some r => r.1.all (fun k => l.getD k false)
  | none => true
def reachT (T : List (List Nat × List Nat)) (i : Nat) : Nat → Nat → Bool
  | 0, _ => false
  | fuel + 1, d => match T[d]? with
    | some r => r.1.any fun j => j == i || reachT T i fuel j
    | none => false
def lastT (T : List (List Nat × List Nat)) (l : List Bool) (ds : List Nat) (i : Nat) : Bool := ds.all fun d => l.getD d true || reachT T i T.length d
section
variable {md : Region.Mode} {ops : Array Oper} {T : Bool × List (List Nat × List Nat)} {l l' li lj lk : Array Bool} {ds : List Nat} {i j k : Nat}
theorem gd (l : Array Bool) (j : Nat) (b : Bool) : l.getD j b = l.toList.getD j b := by simp [Array.getD_eq_getD_getElem?, List.getD_eq_getElem?_getD]
theorem needs_all (o : Oper) (p : Nat → Bool) : o.after.all (fun e => !Region.binds md e || p e.on) = (needsOf md o).all p := by
  unfold needsOf
  rw [← Array.all_toList]
  induction o.after.toList with
  | nil => rfl
  | cons e r ih =>
    rw [List.all_cons, ih, List.filter_cons]
    cases h : Region.binds md e <;> simp
theorem needs_any (o : Oper) (p : Nat → Bool) : o.after.any (fun e => Region.binds md e && p e.on) = (needsOf md o).any p := by
  unfold needsOf
  rw [← Array.any_toList]
  induction o.after.toList with
  | nil => rfl
  | cons e r ih =>
    rw [List.any_cons, ih, List.filter_cons]
    cases h : Region.binds md e <;> simp
theorem rtab_length : (rtab md ops).2.length = ops.size := by simp [rtab]
theorem rtab_some {o : Oper} (h : ops[i]? = some o) : (rtab md ops).2[i]? = some (needsOf md o, clashOf md ops i o) := by
  have hi := (Array.getElem?_eq_some_iff.1 h).1
  unfold rtab
  rw [List.getElem?_map, List.getElem?_range hi, Option.map_some, h]
theorem rtab_none (h : ops[i]? = none) : (rtab md ops).2[i]? = none := by
  have hi : ops.size ≤ i := Array.getElem?_eq_none_iff.1 h
  exact List.getElem?_eq_none (by rw [rtab_length]; exact hi)
theorem readyAt_eq : readyAt (rtab md ops).2 l.toList i = (!l.getD i true && ((ops[i]?).map (·.after.all fun e => !Region.binds md e || l.getD e.on false)).getD false) := by
  unfold readyAt
  rw [gd]
  cases h : ops[i]? with
  | none => rw [rtab_none h]; rfl
  | some o =>
    rw [rtab_some h]
    simp only [Option.map_some, Option.getD_some]
    rw [← needs_all]
    simp only [gd]
theorem ready_eq : Region.ready md ops l = readyT (rtab md ops).2 l.toList := by
  unfold Region.ready readyT
  rw [rtab_length]
  refine List.filter_congr (fun i _ => ?_)
  rw [readyAt_eq]
theorem free_eq : Region.free md ops l i = freeT (rtab md ops).2 l.toList i := by
  unfold Region.free freeT
  cases h : ops[i]? with
  | none => rw [rtab_none h]
  | some oi =>
    rw [rtab_some h]
    simp only [clashOf]
    rw [List.all_filter]
    congr 1
    funext j
    rw [gd]
    cases hj : ops[j]? with
    | none => cases (j == i) <;> cases (l.toList.getD j true) <;> simp
    | some oj =>
      cases (j == i) <;> cases (l.toList.getD j true) <;> cases (oj.after.any (fun e => Region.binds md e && e.on == i) || oi.apart ops oj) <;> simp_all
theorem closed_eq : Region.closedB md ops l = closedT (rtab md ops).2 l.toList := by
  unfold Region.closedB closedT
  rw [rtab_length]
  congr 1
  funext j
  rw [gd]
  cases h : ops[j]? with
  | none => rw [rtab_none h]
  | some o =>
    rw [rtab_some h]
    simp only
    rw [← needs_all]
    simp only [gd]
theorem reach_eq : ∀ (fuel d : Nat), Region.reachB md ops i fuel d = reachT (rtab md ops).2 i fuel d
  | 0, _ => rfl
  | fuel + 1, d => by
    unfold Region.reachB reachT
    cases h : ops[d]? with
    | none => rw [rtab_none h]
    | some o =>
      rw [rtab_some h]
      simp only
      rw [← needs_any]
      congr 1
      funext e
      rw [reach_eq fuel]
theorem last_eq : Region.lastB md ops l ds i = lastT (rtab md ops).2 l.toList ds i := by
  unfold Region.lastB lastT
  rw [rtab_length]
  congr 1
  funext d
  rw [gd, reach_eq]
theorem readyAt_mem (h : readyAt T.2 l.toList i = true) (hT : rtab md ops = T) : (Region.ready md ops l).contains i = true := by
  subst hT
  rw [ready_eq]
  unfold readyT
  rw [List.contains_iff_mem, List.mem_filter, List.mem_range]
  refine ⟨?_, h⟩
  unfold readyAt at h
  rw [Bool.and_eq_true] at h
  cases hq : (rtab md ops).2[i]? with
  | none => rw [hq] at h; simp at h
  | some r => exact (List.getElem?_eq_some_iff.1 hq).1
theorem set_of (h : (l.toList.set i true == l'.toList) = true) : (l.setIfInBounds i true == l') = true := by
  rw [beq_iff_eq] at h ⊢
  apply Array.ext'
  rw [Array.toList_setIfInBounds]
  exact h
def anyT (T : Bool × List (List Nat × List Nat)) (l l' : List Bool) (i : Nat) : Bool := T.1 && freeT T.2 l i && readyAt T.2 l i && (l.set i true == l')
/-- pure_'s condition out of the table. -/
theorem any_of (hT : rtab md ops = T) (h : anyT T l.toList l'.toList i = true) : anyB md ops l l' i = true := by
  simp only [anyT, Bool.and_eq_true] at h
  obtain ⟨⟨⟨h1, h2⟩, h3⟩, h4⟩ := h
  have h5 := readyAt_mem h3 hT
  have h6 := set_of h4
  subst hT
  simp only [anyB, Bool.and_eq_true]
  exact ⟨⟨⟨h1, by rw [free_eq]; exact h2⟩, h5⟩, h6⟩
def takeT (T : Bool × List (List Nat × List Nat)) (ds : List Nat) (l l' : List Bool) (i : Nat) : Bool := T.1 && freeT T.2 l i && readyAt T.2 l i && closedT T.2 l && lastT T.2 l ds i && (l.set i true == l')
/-- take_'s. -/
theorem take_of (hT : rtab md ops = T) (h : takeT T ds l.toList l'.toList i = true) : takeB md ops ds l l' i = true := by
  simp only [takeT, Bool.and_eq_true] at h
  obtain ⟨⟨⟨⟨⟨h1, h2⟩, h3⟩, h4⟩, h5⟩, h6⟩ := h
  have h7 := readyAt_mem h3 hT
  have h8 := set_of h6
  subst hT
  simp only [takeB, Bool.and_eq_true]
  exact ⟨⟨⟨⟨⟨h1, by rw [free_eq]; exact h2⟩, h7⟩, by rw [closed_eq]; exact h4⟩, by rw [last_eq]; exact h5⟩, h8⟩
/-- one_'s and last_'s. -/
theorem one_of (hT : rtab md ops = T) (h : (readyT T.2 l.toList == [i] && l.toList.set i true == l'.toList) = true) : readyB md ops l l' i = true := by
  simp only [Bool.and_eq_true] at h
  obtain ⟨h1, h2⟩ := h
  subst hT
  simp only [readyB, Bool.and_eq_true]
  exact ⟨by rw [ready_eq]; exact h1, set_of h2⟩
/-- done_'s. -/
theorem done_of (hT : rtab md ops = T) (h : (readyT T.2 l.toList == []) = true) : (Region.ready md ops l == []) = true := by
  subst hT
  rw [ready_eq]
  exact h
/-- What d waits for, as_ bits: told in the table (B), checked in one pass: each bit is a need of d, or a bit of an earlier need's. -/
def upM (B : List Nat) (d : Nat) : List Nat → Nat
  | [] => 0
  | n :: r => (2 ^ n ||| (if n < d then B.getD n 0 else 0)) ||| upM B d r
def waitsOk (T : List (List Nat × List Nat)) (B : List Nat) : Bool := (List.range T.length).all fun d => match T[d]? with
  | some r => (B.getD d 0 ||| upM B d r.1) == upM B d r.1
  | none => false
theorem upM_bit {B : List Nat} {d i : Nat} : ∀ {ns : List Nat}, (upM B d ns).testBit i = true → ∃ n ∈ ns, n = i ∨ (n < d ∧ (B.getD n 0).testBit i = true)
  | [], h => by simp [upM] at h
  | n :: r, h => by
    unfold upM at h
    rw [Nat.testBit_or, Nat.testBit_or, Bool.or_eq_true, Bool.or_eq_true] at h
    rcases h with (h | h) | h
    · rw [Nat.testBit_two_pow] at h
      exact ⟨n, List.mem_cons_self, .inl (by simpa using h)⟩
    · by_cases hn : n < d
      · rw [if_pos hn] at h
        exact ⟨n, List.mem_cons_self, .inr ⟨hn, h⟩⟩
      · rw [if_neg hn] at h
        simp at h
    · obtain ⟨m, hm, h2⟩ := upM_bit h
      exact ⟨m, List.mem_cons_of_mem _ hm, h2⟩
theorem reach_bit {T : List (List Nat × List Nat)} {B : List Nat} (hB : waitsOk T B = true) : ∀ (fuel d : Nat), d < fuel → d < T.length → (B.getD d 0).testBit i = true → reachT T i fuel d = true
  | 0, d, h, _, _ => by omega
  | fuel + 1, d, h, hd, hb => by
    have h1 := List.all_eq_true.1 hB d (List.mem_range.2 hd)
    cases hr : T[d]? with
    | none => rw [hr] at h1; simp at h1
    | some r =>
      rw [hr] at h1
      simp only [beq_iff_eq] at h1
      have h2 : (upM B d r.1).testBit i = true := by rw [← h1, Nat.testBit_or, hb, Bool.true_or]
      obtain ⟨n, hn, h3⟩ := upM_bit h2
      unfold reachT
      rw [hr]
      simp only
      rw [List.any_eq_true]
      refine ⟨n, hn, ?_⟩
      rcases h3 with rfl | ⟨h4, h5⟩
      · simp
      · rw [reach_bit hB fuel n (by omega) (by omega) h5, Bool.or_true]
def lastW (T : List (List Nat × List Nat)) (B : List Nat) (l : List Bool) (ds : List Nat) (i : Nat) : Bool := ds.all fun d => l.getD d true || (decide (d < T.length) && (B.getD d 0).testBit i)
def takeW (T : Bool × List (List Nat × List Nat)) (B : List Nat) (ds : List Nat) (l l' : List Bool) (i : Nat) : Bool := T.1 && freeT T.2 l i && readyAt T.2 l i && closedT T.2 l && lastW T.2 B l ds i && (l.set i true == l')
/-- take_'s, by the bits. -/
theorem take_ofW {B : List Nat} (hT : rtab md ops = T) (hB : waitsOk T.2 B = true) (h : takeW T B ds l.toList l'.toList i = true) : takeB md ops ds l l' i = true := by
  refine take_of hT ?_
  simp only [takeW, takeT, Bool.and_eq_true] at h ⊢
  obtain ⟨⟨⟨⟨⟨h1, h2⟩, h3⟩, h4⟩, h5⟩, h6⟩ := h
  refine ⟨⟨⟨⟨⟨h1, h2⟩, h3⟩, h4⟩, ?_⟩, h6⟩
  unfold lastW at h5
  unfold lastT
  rw [List.all_eq_true] at h5 ⊢
  intro d hd
  have h7 := h5 d hd
  rw [Bool.or_eq_true, Bool.and_eq_true, decide_eq_true_eq] at h7
  rcases h7 with h7 | ⟨h8, h9⟩
  · rw [h7, Bool.true_or]
  · rw [reach_bit hB _ d h8 h8 h9, Bool.or_true]
theorem with_tabW {P : Program} {Q : Exit → Act → World → Prop} {S : World → Prop} {n : Nat} {a : Act} {w : World} {B : List Nat} (hT : rtab md ops = T) (hB : waitsOk T.2 B = true) (h : Aside0 (rtab md ops = T) → Aside0 (waitsOk T.2 B = true) → wpAnyLast P md ops Q S ds n l a w) : wpAnyLast P md ops Q S ds n l a w := h ⟨hT⟩ ⟨hB⟩
end
/-- The operations of a region, by its number. -/
def opsIn : Code → Nat → Option (Array Oper)
  | .region id ops _, k => if id == k then some ops else none
  | .seq a b, k => match opsIn a k with
    | some o => some o
    | none => opsIn b k
  | .cond _ a b, k => match opsIn a k with
    | some o => some o
    | none => opsIn b k
  | .block _ c, k => opsIn c k
  | .loop c, k => opsIn c k
  | .scope c, k => opsIn c k
  | .rangeFunc _ _ a b, k => match opsIn a k with
    | some o => some o
    | none => opsIn b k
  | _, _ => none
def opsOf (f : Func) (k : Nat) : Array Oper := ((f.body.bind fun c => opsIn c k)).getD #[]
end Go.Proofs.YtmblnflfklmmkaaDoorW.PrintLast
/-! ### 56. Four, five, six operations that may come up next, in any order -/
namespace Go.Proofs.YtmblnflfklmmkaaDoorW.PrintLast
section
variable {P : Program} {ops : Array Oper} {Q : Exit → Act → World → Prop} {md : Region.Mode} {S : World → Prop} {ds : List Nat} {T : Bool × List (List Nat × List Nat)}
end
end Go.Proofs.YtmblnflfklmmkaaDoorW.PrintLast
/-! ### 52. A row that stays read whatever happens to a block (a set of blocks) doesn't lie there -/
namespace Go.Proofs.YtmblnflfklmmkaaDoorW.PrintWords
open Go.RowKit
namespace Kd
section
variable {α : Type} {d : Kd α} {W : World} {g n : Nat} {S ok : Nat → Prop} {A : Option Addr} {ad : Addr} {xs : List α}
end
end Kd
end Go.Proofs.YtmblnflfklmmkaaDoorW.PrintWords
/-! ### 54. Behind orders that were drawn quietly: the same facts at the world's new name; a flat row's foot -/
namespace Go.Proofs.YtmblnflfklmmkaaDoorW.PrintWords
open Go.RowKit
section
variable {w w' u : World} {m B g : Nat} {o : Obj} {row : Option Nat} {S : Nat → Prop} {a : Addr} {v : Value}
end
namespace Kd
section
variable {α : Type} {d : Kd α} {e base n m : Nat} {ok : Nat → Prop} {w w' : World} {v : Value} {A : Option Addr} {xs : List α}
end
end Kd
end Go.Proofs.YtmblnflfklmmkaaDoorW.PrintWords
/-! ### 53. '==' of structs as_ one Bool -/
namespace Go.Proofs.YtmblnflfklmmkaaDoorW.PrintWords
open Go.RowKit
section
variable {P : Program} {d : Nat} {xs ys : Array Value} {f : Field} {fs : List Field} {a b : Value} {r s : Bool} {w : World}
end
end Go.Proofs.YtmblnflfklmmkaaDoorW.PrintWords
/-! ### 55. Reps told from the front, no append: for rows of one-cell elements and of wider ones -/
namespace Go.Proofs.YtmblnflfklmmkaaDoorW.PrintWords
/-- One cell an element. -/
theorem Reps.one {α : Type} {R : α → List Value → Prop} {ps : List α} {cs : List Value} {p : α} {v : Value} (hp : R p [v]) (h : Reps R 1 ps cs) : Reps R 1 (p :: ps) (v :: cs) := by
  refine ⟨by simp [h.1], fun j q hq => ?_⟩
  cases j with
  | zero =>
    simp only [List.getElem?_cons_zero, Option.some.injEq] at hq
    subst hq
    simpa using hp
  | succ j =>
    simp only [List.getElem?_cons_succ] at hq
    have h1 := h.2 j q hq
    simpa [Nat.mul_one] using h1
end Go.Proofs.YtmblnflfklmmkaaDoorW.PrintWords
/-! ### 57. A region of open order by ONE relation over what is listed so far: each operation is shown once, whatever came up before it -/
namespace Go.Proofs.YtmblnflfklmmkaaDoorW.PrintLast
/-- Number i is listed too. -/
def up (b : Nat → Bool) (i : Nat) : Nat → Bool := fun j => if j = i then true else b j
section
variable {P : Program} {ops : Array Oper} {Q : Exit → Act → World → Prop} {md : Region.Mode} {T : Bool × List (List Nat × List Nat)} {B : List Nat} {O : List Nat} {b : Nat → Bool} {i j n : Nat}
/-! The frame: what is listed has its destination filled. -/
end
end Go.Proofs.YtmblnflfklmmkaaDoorW.PrintLast
namespace Go.Proofs.YtmblnflfklmmkaaDoorW.PrintWords
open Go.RowKit
end Go.Proofs.YtmblnflfklmmkaaDoorW.PrintWords
namespace Go.Proofs.YtmblnflfklmmkaaDoorW.PrintLast
section
variable {ops : Array Oper} {a : Act} {o og : Oper} {g : Nat} {t : Tmp} {u : Bool}
end
end Go.Proofs.YtmblnflfklmmkaaDoorW.PrintLast
/-! ### 58. A guarded operation whose guard is known to want it: the same goal without the guard -/
namespace Go.Proofs.YtmblnflfklmmkaaDoorW.PrintWords
open Go.RowKit
section
variable {P : Program} {ops : Array Oper} {rest : List Oper} {o : Oper} {a : Act} {Q : Exit → Act → World → Prop} {W : World}
end
end Go.Proofs.YtmblnflfklmmkaaDoorW.PrintWords
/- Functions of the program and of its laws, each with a Lean function and the proof that a call comes to what that function tells, under the conditions that its contract names. (Laid by a program of this session, out of the translation; Lean checks it.) -/
namespace Go.Proofs.YtmblnflfklmmkaaDoor.P
open Go.RowKit Go.Proofs.YtmblnflfklmmkaaDoorW.PrintWords Go.Proofs.YtmblnflfklmmkaaDoorW.PrintLast Go.Proofs.YtmblnflfklmmkaaDoorW.PrintMore
attribute [local go_sem] max2_int min2_int max_two min_two max_three min_three max_four min_four   -- for this text's walks alone
set_option linter.unusedVariables false
set_option linter.unusedSimpArgs false



def errW : Option Int → Value
  | none => .nilIface
  | some c => .iface 0 (.int .i64 c)
theorem errW_none : errW none = .nilIface := rfl
theorem errW_some (c : Int) : errW (some c) = .iface 0 (.int .i64 c) := rfl

theorem info5 : (Tryd.prog.info? 5).map (fun i => (i.zero, i.size, i.bytes)) = some (some (.int .u8 0), 1, 1) := by kernel_rfl
theorem info27 : (Tryd.prog.info? 27).map (fun i => (i.zero, i.size, i.bytes)) = some (some (.int .u64 0), 1, 8) := by kernel_rfl
-- the values' own types

end Go.Proofs.YtmblnflfklmmkaaDoor.P
/- Functions of the program and of its laws, each with a Lean function and the proof that a call comes to what that function tells, under the conditions that its contract names. (Laid by a program of this session, out of the translation; Lean checks it.) -/
namespace Go.Proofs.YtmblnflfklmmkaaDoor.P
open Go.RowKit Go.Proofs.YtmblnflfklmmkaaDoorW.PrintWords Go.Proofs.YtmblnflfklmmkaaDoorW.PrintLast Go.Proofs.YtmblnflfklmmkaaDoorW.PrintMore
attribute [local go_sem] max2_int min2_int max_two min_two max_three min_three max_four min_four   -- for this text's walks alone
set_option linter.unusedVariables false
set_option linter.unusedSimpArgs false

-- NOT PRINTED: function 24 (store_Store_ready)

-- NOT PRINTED: function 11 (store_Store_Room)

-- NOT PRINTED: function 27 (store_Store_place)

/-! ### store_put: function 44 -/
def store_put.l0 : Nat → List Int → Int → Int → Option (List Int)
  | 0, _, _, _ => none
  | k + 1, x0, x1, x4 => if x4 ≥ 0 then (if 0 ≤ x4 then (if x4 < (x0.length : Int) then (store_put.l0 k (x0.set (x4 : Int).toNat ((x1) % 256)) (x1 / 256) (wrap64 (x4 - 1))) else (none)) else (none)) else (some x0)
def store_put.f (k : Nat) (l0 : List Int) (a1 : Int) : Option (List Int) := store_put.l0 k l0 a1 (wrap64 ((l0.length : Int) - 1))
theorem store_put.mono_l : ∀ k, (∀ y0 y1 y2, LeO (store_put.l0 k y0 y1 y2) (store_put.l0 (k + 1) y0 y1 y2))
  | 0 => fun _ _ _ r h => by simp [store_put.l0] at h
  | k + 1 => by
    have ih0 := store_put.mono_l k
    · intro y0 y1 y2
      unfold store_put.l0
      repeat' first
      | (with_reducible exact ih0 _ _ _)
      | (with_reducible exact LeO.refl _)
      | (with_reducible exact LeO.none _)
      | (with_reducible refine LeO.ite ?_ ?_)
      | (with_reducible refine LeO.bind ?_ (fun _ => ?_))
      | exact ih0 _ _ _
      | exact LeO.none _
      | refine LeO.ite ?_ ?_
      | refine LeO.bind ?_ (fun _ => ?_)
theorem store_put.mono : ∀ a0 a1 k, LeO (store_put.f k a0 a1) (store_put.f (k + 1) a0 a1) := by
  intro a0 a1 k
  have ih0 := store_put.mono_l k
  unfold store_put.f
  repeat' first
      | (with_reducible exact ih0 _ _ _)
      | (with_reducible exact LeO.refl _)
      | (with_reducible exact LeO.none _)
      | (with_reducible refine LeO.ite ?_ ?_)
      | (with_reducible refine LeO.bind ?_ (fun _ => ?_))
      | exact ih0 _ _ _
      | exact LeO.none _
      | refine LeO.ite ?_ ?_
      | refine LeO.bind ?_ (fun _ => ?_)
set_option maxHeartbeats 8000000 in
set_option maxRecDepth 100000 in
theorem store_put.calls (k : Nat) (P0_ : Nat → Prop) (u9000_ : Value) (l0 : List Int) (a1 : Int) (r : List Int) (w0 w : World) (hB : Below w0.heap.size w0 w) (ho0 : Kd.R (Kd.int .u8) 5 w w0.heap.size P0_ u9000_ l0) (h : store_put.f k l0 a1 = some r) :
    Calls Tryd.prog 44 #[u9000_, .int .u64 a1] w fun e w' => e = .returned (.tuple #[]) ∧ Kd.R (Kd.int .u8) 5 w' w0.heap.size (fun k_ => (P0_ k_ ∨ w.heap.size ≤ k_)) u9000_ r ∧ Below w0.heap.size w0 w' ∧ Kept w w' (fun k_ => P0_ k_) := by
  have HO0 := Aside0.mk (show Kd.R (Kd.int .u8) 5 w w0.heap.size (fun k_ => (P0_ k_ ∨ w.heap.size ≤ k_)) u9000_ l0 from Kd.R_mono ho0 (fun k_ hk => (.inl hk)))
  have HK := Aside0.mk (Kept.refl w (fun k_ => P0_ k_))
  have HW0 := Aside0.mk hB.size
  have HB := Aside0.mk hB
  clear hB
  have H : (store_put.l0 k l0 a1 (wrap64 ((l0.length : Int) - 1))) = some r := h
  clear h
  have H' := Aside0.mk H
  clear H
  obtain ⟨Ao3, co3, eo3⟩ := Kd.R_slice HO0.out
  subst eo3
  go_enter Tryd.func44, Tryd.ntmps44
  go_wp2
  go_loopg [1, 4] k (fun kq v1 v4 w' => ∃ (x0_1 : List Int) (x1_1 : Int) (x4_1 : Int), v1 = .int .u64 x1_1 ∧ v4 = .int .i64 x4_1 ∧ Aside0 (store_put.l0 kq x0_1 x1_1 x4_1 = some r) ∧ Aside0 (kq ≤ k) ∧ Aside0 (Kd.R (Kd.int .u8) 5 w' w0.heap.size (fun k_ => (P0_ k_ ∨ w.heap.size ≤ k_)) (.slice Ao3 l0.length co3) x0_1) ∧ Aside0 (Kept w w' (fun k_ => P0_ k_)) ∧ Aside0 (Below w0.heap.size w0 w'))
  case atStart => exact ⟨(l0), (a1), (wrap64 ((l0.length : Int) - 1)), (by first | rfl | (simp; done) | (simp [*]; done)), (by first | rfl | (simp; done) | (simp [*]; done)), H', ⟨Nat.le_refl _⟩, ⟨by (with_reducible repeat (first | apply Kd.R_alloc | apply Kd.R_drewN | apply Kd.R_drew)); exact HO0.out⟩, ⟨by repeat (first | (with_reducible first | exact HK.out | apply Kept.alloc | apply Kept.drewN | apply Kept.drew) | exact HK.out)⟩, ⟨by repeat (first | (with_reducible first | exact HB.out | apply below_alloc | apply pw_below_drewN | apply below_drew1) | exact HB.out)⟩⟩
  case round =>
    clear H'
    try clear p2
    obtain ⟨x0_1, x1_1, x4_1, rfl, rfl, HA, HK1, HO_0, HK, HB⟩ := hrel
    have hl0_1 := (Kd.R_reads' HO_0.out).1
    rw [hl0_1] at HO_0
    (try simp only [hl0_1])
    cases gk with
    | zero => exact absurd HA.out (by simp [store_put.l0])
    | succ k1 =>
      have H := HA.out
      clear HA
      simp only [store_put.l0] at H
      by_cases c4 : x4_1 ≥ 0
      · rw [if_pos c4] at H
        have c4b0 : decide (0 ≤ x4_1) = true := decide_eq_true c4
        clear c4
        by_cases c5 : 0 ≤ x4_1
        · rw [if_pos c5] at H
          have c5b0 : decide (0 ≤ x4_1) = true := decide_eq_true c5
          clear c5
          by_cases c6 : x4_1 < (x0_1.length : Int)
          · rw [if_pos c6] at H
            have c6b0 : decide (x4_1 < (x0_1.length : Int)) = true := decide_eq_true c6
            clear c6
            obtain ⟨y101, hy101⟩ : ∃ y_ : List Int, y_ = (x0_1.set (x4_1 : Int).toNat ((x1_1) % 256)) := ⟨_, rfl⟩
            replace H : (store_put.l0 k1 y101 (x1_1 / 256) (wrap64 (x4_1 - 1))) = some r := by first | (rw [hy101]; with_reducible exact H) | (have H2_ := (Option.bind_some _ _).symm.trans H; rw [hy101]; with_reducible exact H2_) | (have H2_ := (Option.bind_some _ _).symm.trans H; with_reducible exact H2_) | with_reducible exact H | (rw [hy101]; exact H) | exact H
            have Ny101 := Aside0.mk hy101
            clear hy101
            have H' := Aside0.mk H
            clear H
            have p7 : 0 ≤ (x4_1 : Int) := of_decide_eq_true (by first | (with_reducible assumption) | assumption)
            have q7 : (x4_1 : Int) < ((x0_1.length : Int) : Int) := of_decide_eq_true (by first | (with_reducible assumption) | assumption)
            obtain ⟨go7, co7, eo7, gb7, gl7, cl7, HG7⟩ := Kd.R_form HO_0.out (by omega)
            (first | cases eo7 | (injection eo7 with ea_ en_ ec_; (first | subst ea_ | (injection ea_ with ea_; subst ea_)); subst ec_; clear en_))
            have GB7 := Aside0.mk gb7
            have GG7 := Aside0.mk HG7
            clear gb7 gl7 HG7
            have HMgo7 := Aside0.mk (show (P0_ go7 ∨ w.heap.size ≤ go7) from (HO_0.out.1 _ rfl))
            obtain ⟨hx7_0, hf7_0⟩ := Kd.R_celln 0 HO_0.out (x4_1 : Int) p7 q7
            replace p7 := eq_true p7
            replace q7 := eq_true q7
            have HP8 := Kd.R_putg HO_0.out (x4_1 : Int) ((x1_1) % 256)
            go_wp2_with (first | ((with_reducible refine gate_store (t := 5) (p := 16) rfl ?_); refine store_event (t := 5) (p := 16) (v := ?vo_w9) (w1 := (wr.setCell ⟨go7, (x4_1 : Int).toNat, none⟩ (.int .u8 ((x1_1) % 256)))) ?hg ?ho ?hn ?hr ?_; (case ho => rfl); (case hg => rfl); (case hn => rfl); (case hr => first | (go_simp; done) | (go_simp; rfl)); intro w9 hw; have hg : wr.grownBy w9 (some go7) := (by rw [hw]; exact HP8.2); have hp_ : Kd.R (Kd.int .u8) 5 w9 w0.heap.size (fun k_ => (P0_ k_ ∨ w.heap.size ≤ k_)) (.slice (some ⟨go7, 0, none⟩) x0_1.length co3) y101 := (by rw [hw, Ny101.out]; exact HP8.1); clear HP8; have n0_ := Aside0.mk (hp_); have n1_ := Aside0.mk ((by rw [hw]; exact below_set (HB.out) GB7.out : Below w0.heap.size w0 w9)); have n2_ := Aside0.mk (Kept.of_grown (S := (fun k_ => P0_ k_)) hg (by repeat (first | (with_reducible first | exact HK.out | apply Kept.alloc | apply Kept.drewN | apply Kept.drew) | exact HK.out)) (fun k_ e_ => (HO_0.out.1 k_ e_))); clear HO_0; clear HB; clear HK; have HO_0 := n0_; have HB := n1_; have HK := n2_; clear n0_ n1_ n2_; clear hg hw hp_))
            (try simp only [← hl0_1])
            go_roundg k1
            case measure => have := HK1.out; omega
            case rel => exact ⟨(y101), (x1_1 / 256), (wrap64 (x4_1 - 1)), (by first | rfl | (simp; done) | (simp [*]; done)), (by first | rfl | (simp; done) | (simp [*]; done)), H', ⟨by have := HK1.out; omega⟩, ⟨by (try simp only [hl0_1]); (with_reducible repeat (first | apply Kd.R_alloc | apply Kd.R_drewN | apply Kd.R_drew)); exact HO_0.out⟩, ⟨by repeat (first | (with_reducible first | exact HK.out | apply Kept.alloc | apply Kept.drewN | apply Kept.drew) | exact HK.out)⟩, ⟨by repeat (first | (with_reducible first | exact HB.out | apply below_alloc | apply pw_below_drewN | apply below_drew1) | exact HB.out)⟩⟩
          · rw [if_neg c6] at H
            exact absurd H (by simp)
        · rw [if_neg c5] at H
          exact absurd H (by simp)
      · rw [if_neg c4] at H
        have c4b0 : decide (0 ≤ x4_1) = false := decide_eq_false c4
        clear c4
        obtain rfl := Option.some.inj H
        go_wp2
        first | go_end0 | ((try simp only [Exit.inBlock, Exit.then]); refine bodyPost_ret (results_none rfl _ _ _) rfl ?_)
        exact ⟨by first | rfl | (simp [errW_none, errW_some] <;> rfl) | (simp [*, errW_none, errW_some] <;> rfl), (by first | exact (by (with_reducible repeat (first | apply Kd.R_alloc | apply Kd.R_drewN | apply Kd.R_drew)); exact HO_0.out) | (simp only [hl0_1]; exact (by (with_reducible repeat (first | apply Kd.R_alloc | apply Kd.R_drewN | apply Kd.R_drew)); exact HO_0.out))), by repeat (first | (with_reducible first | exact HB.out | apply below_alloc | apply pw_below_drewN | apply below_drew1) | exact HB.out), by repeat (first | (with_reducible first | exact HK.out | apply Kept.alloc | apply Kept.drewN | apply Kept.drew) | exact HK.out)⟩

-- NOT PRINTED: function 88 (sha2_narrow)

-- NOT PRINTED: function 89 (sha2_wide)

-- NOT PRINTED: function 77 (sha2_of)

-- NOT PRINTED: function 90 (sha2_begin_uint32)

-- NOT PRINTED: function 91 (sha2_begin_uint64)

-- NOT PRINTED: function 78 (sha2_Hash_Reset)

-- NOT PRINTED: function 61 (sha2_New)

-- NOT PRINTED: function 92 (sha2_shape_block)

/-! ### sha2_turn_uint32: function 104 -/
def sha2_turn_uint32.f (a0 : Int) (a1 : Int) (a2 : Int) : Option (Int) := if 0 ≤ a1 then (if 0 ≤ (wrap64 (a2 - a1)) then (some (Go.bits .or .u32 (shr .u32 a0 a1) (shl .u32 a0 (wrap64 (a2 - a1))))) else (none)) else (none)
set_option maxHeartbeats 8000000 in
set_option maxRecDepth 100000 in
theorem sha2_turn_uint32.calls (a0 : Int) (a1 : Int) (a2 : Int) (r : Int) (w : World) (h : sha2_turn_uint32.f a0 a1 a2 = some r) :
    Calls Tryd.prog 104 #[.int .u32 a0, .int .i64 a1, .int .i64 a2] w fun e w' => e = .returned (.int .u32 r) ∧ Drawn0 w w' := by
  have H : (if 0 ≤ a1 then (if 0 ≤ (wrap64 (a2 - a1)) then (some (Go.bits .or .u32 (shr .u32 a0 a1) (shl .u32 a0 (wrap64 (a2 - a1))))) else (none)) else (none)) = some r := h
  clear h
  by_cases c4 : 0 ≤ a1
  · rw [if_pos c4] at H
    have c4b0 := eq_true c4
    have c4b1 : decide (0 ≤ a1) = true := decide_eq_true c4
    clear c4
    obtain ⟨ji5, hji5⟩ : ∃ j_ : Int, (shr .u32 a0 a1) = j_ := ⟨_, rfl⟩
    replace H : (if 0 ≤ (wrap64 (a2 - a1)) then (some (Go.bits .or .u32 (ji5) (shl .u32 a0 (wrap64 (a2 - a1))))) else (none)) = some r := by first | (rw [hji5] at H; exact H) | (simp only [hji5] at H ⊢; exact H)
    have hji5_ : (a0 / 2 ^ min a1.toNat 32) = ji5 := hji5
    have hji5z : a1 ≤ 32 → (a0 / 2 ^ a1.toNat) = ji5 := shr_small hji5
    obtain ⟨ji6, hji6⟩ : ∃ j_ : Int, (wrap64 (a2 - a1)) = j_ := ⟨_, rfl⟩
    replace H : (if 0 ≤ (ji6) then (some (Go.bits .or .u32 (ji5) (shl .u32 a0 (ji6)))) else (none)) = some r := by first | (rw [hji6] at H; exact H) | (simp only [hji6] at H ⊢; exact H)
    have hji6w : (IntKind.i64.wrap (a2 - a1)) = ji6 := (i64_w _).trans hji6
    by_cases c7 : 0 ≤ (ji6)
    · rw [if_pos c7] at H
      have c7b0 := eq_true c7
      have c7b1 : decide (0 ≤ (ji6)) = true := decide_eq_true c7
      clear c7
      obtain ⟨ji8, hji8⟩ : ∃ j_ : Int, (shl .u32 a0 (ji6)) = j_ := ⟨_, rfl⟩
      replace H : (some (Go.bits .or .u32 (ji5) (ji8))) = some r := by first | (rw [hji8] at H; exact H) | (simp only [hji8] at H ⊢; exact H)
      have hji8_ : (IntKind.u32.wrap (a0 * 2 ^ min (ji6).toNat 32)) = ji8 := hji8
      have hji8z : (ji6) ≤ 32 → (IntKind.u32.wrap (a0 * 2 ^ (ji6).toNat)) = ji8 := shl_small hji8
      obtain rfl := Option.some.inj H
      go_enter Tryd.func104, Tryd.ntmps104
      go_wp2
      repeat (go_quiet (fail); try go_wp2)
      go_ret
      exact ⟨by first | rfl | (simp; done) | (simp only [← hji5, ← hji6, ← hji8] <;> (first | rfl | simp)) | (simp [*]; done), by repeat (first | exact Drawn0.refl _ | apply Drawn0.step)⟩
    · rw [if_neg c7] at H
      exact absurd H (by simp)
  · rw [if_neg c4] at H
    exact absurd H (by simp)

-- NOT PRINTED: function 103 (sha2_small_uint32)

-- NOT PRINTED: function 99 (sha2_words_uint32)

-- NOT PRINTED: function 100 (sha2_big_uint32)

-- NOT PRINTED: function 93 (sha2_mix_uint32)

/-! ### sha2_turn_uint64: function 106 -/
def sha2_turn_uint64.f (a0 : Int) (a1 : Int) (a2 : Int) : Option (Int) := if 0 ≤ a1 then (if 0 ≤ (wrap64 (a2 - a1)) then (some (Go.bits .or .u64 (shr .u64 a0 a1) (shl .u64 a0 (wrap64 (a2 - a1))))) else (none)) else (none)
set_option maxHeartbeats 8000000 in
set_option maxRecDepth 100000 in
theorem sha2_turn_uint64.calls (a0 : Int) (a1 : Int) (a2 : Int) (r : Int) (w : World) (h : sha2_turn_uint64.f a0 a1 a2 = some r) :
    Calls Tryd.prog 106 #[.int .u64 a0, .int .i64 a1, .int .i64 a2] w fun e w' => e = .returned (.int .u64 r) ∧ Drawn0 w w' := by
  have H : (if 0 ≤ a1 then (if 0 ≤ (wrap64 (a2 - a1)) then (some (Go.bits .or .u64 (shr .u64 a0 a1) (shl .u64 a0 (wrap64 (a2 - a1))))) else (none)) else (none)) = some r := h
  clear h
  by_cases c4 : 0 ≤ a1
  · rw [if_pos c4] at H
    have c4b0 := eq_true c4
    have c4b1 : decide (0 ≤ a1) = true := decide_eq_true c4
    clear c4
    obtain ⟨ji5, hji5⟩ : ∃ j_ : Int, (shr .u64 a0 a1) = j_ := ⟨_, rfl⟩
    replace H : (if 0 ≤ (wrap64 (a2 - a1)) then (some (Go.bits .or .u64 (ji5) (shl .u64 a0 (wrap64 (a2 - a1))))) else (none)) = some r := by first | (rw [hji5] at H; exact H) | (simp only [hji5] at H ⊢; exact H)
    have hji5_ : (a0 / 2 ^ min a1.toNat 64) = ji5 := hji5
    have hji5z : a1 ≤ 64 → (a0 / 2 ^ a1.toNat) = ji5 := shr_small hji5
    obtain ⟨ji6, hji6⟩ : ∃ j_ : Int, (wrap64 (a2 - a1)) = j_ := ⟨_, rfl⟩
    replace H : (if 0 ≤ (ji6) then (some (Go.bits .or .u64 (ji5) (shl .u64 a0 (ji6)))) else (none)) = some r := by first | (rw [hji6] at H; exact H) | (simp only [hji6] at H ⊢; exact H)
    have hji6w : (IntKind.i64.wrap (a2 - a1)) = ji6 := (i64_w _).trans hji6
    by_cases c7 : 0 ≤ (ji6)
    · rw [if_pos c7] at H
      have c7b0 := eq_true c7
      have c7b1 : decide (0 ≤ (ji6)) = true := decide_eq_true c7
      clear c7
      obtain ⟨ji8, hji8⟩ : ∃ j_ : Int, (shl .u64 a0 (ji6)) = j_ := ⟨_, rfl⟩
      replace H : (some (Go.bits .or .u64 (ji5) (ji8))) = some r := by first | (rw [hji8] at H; exact H) | (simp only [hji8] at H ⊢; exact H)
      have hji8_ : (IntKind.u64.wrap (a0 * 2 ^ min (ji6).toNat 64)) = ji8 := hji8
      have hji8z : (ji6) ≤ 64 → (IntKind.u64.wrap (a0 * 2 ^ (ji6).toNat)) = ji8 := shl_small hji8
      obtain rfl := Option.some.inj H
      go_enter Tryd.func106, Tryd.ntmps106
      go_wp2
      repeat (go_quiet (fail); try go_wp2)
      go_ret
      exact ⟨by first | rfl | (simp; done) | (simp only [← hji5, ← hji6, ← hji8] <;> (first | rfl | simp)) | (simp [*]; done), by repeat (first | exact Drawn0.refl _ | apply Drawn0.step)⟩
    · rw [if_neg c7] at H
      exact absurd H (by simp)
  · rw [if_neg c4] at H
    exact absurd H (by simp)

-- NOT PRINTED: function 105 (sha2_small_uint64)

-- NOT PRINTED: function 101 (sha2_words_uint64)

-- NOT PRINTED: function 102 (sha2_big_uint64)

-- NOT PRINTED: function 94 (sha2_mix_uint64)

-- NOT PRINTED: function 79 (sha2_Hash_take)

-- NOT PRINTED: function 62 (sha2_Hash_Write)

-- NOT PRINTED: function 80 (sha2_Hash_Copy)

-- NOT PRINTED: function 81 (sha2_Pad)

-- NOT PRINTED: function 82 (sha2_tell_uint32)

-- NOT PRINTED: function 83 (sha2_tell_uint64)

-- NOT PRINTED: function 63 (sha2_Hash_Sum)

-- NOT PRINTED: function 45 (store_digest)

-- NOT PRINTED: function 29 (store_headOf)

/-! ### store_number: function 57 -/
def store_number.l0 : Nat → Int → List Int → Int → Int → Option (Int)
  | 0, _, _, _, _ => none
  | k + 1, x3, x6, x7, x8 => if x8 < x7 then (if 0 ≤ x8 then (if x8 < (x6.length : Int) then (store_number.l0 k (Go.bits .or .u64 (IntKind.u64.wrap (x3 * 256)) (IntKind.u64.wrap (rd x6 x8))) x6 x7 (wrap64 (x8 + 1))) else (none)) else (none)) else (some x3)
def store_number.f (k : Nat) (l0 : List Int) : Option (Int) := store_number.l0 k 0 l0 (l0.length : Int) 0
theorem store_number.mono_l : ∀ k, (∀ y0 y1 y2 y3, LeO (store_number.l0 k y0 y1 y2 y3) (store_number.l0 (k + 1) y0 y1 y2 y3))
  | 0 => fun _ _ _ _ r h => by simp [store_number.l0] at h
  | k + 1 => by
    have ih0 := store_number.mono_l k
    · intro y0 y1 y2 y3
      unfold store_number.l0
      repeat' first
      | (with_reducible exact ih0 _ _ _ _)
      | (with_reducible exact LeO.refl _)
      | (with_reducible exact LeO.none _)
      | (with_reducible refine LeO.ite ?_ ?_)
      | (with_reducible refine LeO.bind ?_ (fun _ => ?_))
      | exact ih0 _ _ _ _
      | exact LeO.none _
      | refine LeO.ite ?_ ?_
      | refine LeO.bind ?_ (fun _ => ?_)
theorem store_number.mono : ∀ a0 k, LeO (store_number.f k a0) (store_number.f (k + 1) a0) := by
  intro a0 k
  have ih0 := store_number.mono_l k
  unfold store_number.f
  repeat' first
      | (with_reducible exact ih0 _ _ _ _)
      | (with_reducible exact LeO.refl _)
      | (with_reducible exact LeO.none _)
      | (with_reducible refine LeO.ite ?_ ?_)
      | (with_reducible refine LeO.bind ?_ (fun _ => ?_))
      | exact ih0 _ _ _ _
      | exact LeO.none _
      | refine LeO.ite ?_ ?_
      | refine LeO.bind ?_ (fun _ => ?_)
set_option maxHeartbeats 8000000 in
set_option maxRecDepth 100000 in
theorem store_number.calls (k : Nat) (A0 : Option Addr) (c0 : Nat) (l0 : List Int) (r : Int) (w : World) (hr0 : Kd.C (Kd.int .u8) w A0 l0.length l0) (hc0 : l0.length ≤ c0) (h : store_number.f k l0 = some r) :
    Calls Tryd.prog 57 #[.slice A0 l0.length c0] w fun e w' => e = .returned (.int .u64 r) ∧ Drawn0 w w' := by
  have HR0 := Aside0.mk hr0
  have HC0 := Aside0.mk hc0
  clear hr0 hc0
  have H : (store_number.l0 k 0 l0 (l0.length : Int) 0) = some r := h
  clear h
  have H' := Aside0.mk H
  clear H
  go_enter Tryd.func57, Tryd.ntmps57
  go_wp2
  go_loopg [3, 8] k (fun kq v3 v8 w' => ∃ (x3_1 : Int) (x8_1 : Int), v3 = .int .u64 x3_1 ∧ v8 = .int .i64 x8_1 ∧ Aside0 (store_number.l0 kq x3_1 l0 (l0.length : Int) x8_1 = some r) ∧ Aside0 (kq ≤ k) ∧ Drawn0 w w')
  case atStart => exact ⟨(0), (0), (by first | rfl | (simp; done) | (simp [*]; done)), (by first | rfl | (simp; done) | (simp [*]; done)), H', ⟨Nat.le_refl _⟩, by repeat (first | exact Drawn0.refl _ | apply Drawn0.step)⟩
  case round =>
    clear H'
    obtain ⟨x3_1, x8_1, rfl, rfl, HA, HK1, ⟨m1, rfl⟩⟩ := hrel
    cases gk with
    | zero => exact absurd HA.out (by simp [store_number.l0])
    | succ k1 =>
      have H := HA.out
      clear HA
      simp only [store_number.l0] at H
      by_cases c2 : x8_1 < (l0.length : Int)
      · rw [if_pos c2] at H
        have c2b0 : decide (x8_1 < (l0.length : Int)) = true := decide_eq_true c2
        clear c2
        by_cases c3 : 0 ≤ x8_1
        · rw [if_pos c3] at H
          have c3b0 : decide (0 ≤ x8_1) = true := decide_eq_true c3
          clear c3
          by_cases c4 : x8_1 < (l0.length : Int)
          · rw [if_pos c4] at H
            have c4b0 : decide (x8_1 < (l0.length : Int)) = true := decide_eq_true c4
            clear c4
            have H' := Aside0.mk H
            clear H
            have p102 : 0 ≤ (x8_1 : Int) := of_decide_eq_true (by first | (with_reducible assumption) | assumption)
            have q102 : x8_1 < (l0.length : Int) := of_decide_eq_true (by first | (with_reducible assumption) | assumption)
            obtain ⟨ad102, e102, hx102_0⟩ := Kd.at_int HR0.out x8_1 p102 q102
            cases e102
            replace p102 := eq_true p102
            replace q102 := eq_true q102
            go_wp2
            go_roundg k1
            case measure => have := HK1.out; omega
            case rel => exact ⟨(Go.bits .or .u64 (IntKind.u64.wrap (x3_1 * 256)) (IntKind.u64.wrap (rd l0 x8_1))), (wrap64 (x8_1 + 1)), (by first | rfl | (simp; done) | (simp [*]; done)), (by first | rfl | (simp; done) | (simp [*]; done)), H', ⟨by have := HK1.out; omega⟩, by repeat (first | exact Drawn0.refl _ | apply Drawn0.step)⟩
          · rw [if_neg c4] at H
            exact absurd H (by simp)
        · rw [if_neg c3] at H
          exact absurd H (by simp)
      · rw [if_neg c2] at H
        have c2b0 : decide (x8_1 < (l0.length : Int)) = false := decide_eq_false c2
        clear c2
        obtain rfl := Option.some.inj H
        go_wp2
        go_ret
        exact ⟨by first | rfl | (simp; done) | (simp [*]; done), by repeat (first | exact Drawn0.refl _ | apply Drawn0.step)⟩

-- NOT PRINTED: function 36 (disk_Disk_ready)

-- NOT PRINTED: function 74 (disk_Disk_at)

-- NOT PRINTED: function 56 (disk_Disk_Read)

/-! ### disk_need: function 60 -/
def disk_need.f (a0 : Int) : Option (Int) := if (Int.tmod a0 64) > 0 then (some (wrap64 ((wrap64 (Int.tdiv a0 64)) + 1))) else (some (wrap64 (Int.tdiv a0 64)))
set_option maxHeartbeats 8000000 in
set_option maxRecDepth 100000 in
theorem disk_need.calls (a0 : Int) (r : Int) (w : World) (h : disk_need.f a0 = some r) :
    Calls Tryd.prog 60 #[.int .i64 a0] w fun e w' => e = .returned (.int .i64 r) ∧ Drawn0 w w' := by
  have H : (if (Int.tmod a0 64) > 0 then (some (wrap64 ((wrap64 (Int.tdiv a0 64)) + 1))) else (some (wrap64 (Int.tdiv a0 64)))) = some r := h
  clear h
  by_cases c2 : (Int.tmod a0 64) > 0
  · rw [if_pos c2] at H
    have c2b0 : decide (0 < (Int.tmod a0 64)) = true := decide_eq_true c2
    clear c2
    obtain rfl := Option.some.inj H
    go_enter Tryd.func60, Tryd.ntmps60
    go_wp2
    go_ret
    exact ⟨by first | rfl | (simp; done) | (simp [*]; done), by repeat (first | exact Drawn0.refl _ | apply Drawn0.step)⟩
  · rw [if_neg c2] at H
    have c2b0 : decide (0 < (Int.tmod a0 64)) = false := decide_eq_false c2
    clear c2
    obtain rfl := Option.some.inj H
    go_enter Tryd.func60, Tryd.ntmps60
    go_wp2
    go_ret
    exact ⟨by first | rfl | (simp; done) | (simp [*]; done), by repeat (first | exact Drawn0.refl _ | apply Drawn0.step)⟩

-- NOT PRINTED: function 59 (disk_span)

-- NOT PRINTED: function 58 (disk_Load)

-- NOT PRINTED: function 42 (store_Store_area)

-- NOT PRINTED: function 25 (store_Store_newest)

-- NOT PRINTED: function 8 (store_Store_Get)

-- NOT PRINTED: function 9 (store_Store_Newest)

-- NOT PRINTED: function 26 (disk_Disk_Size)

-- NOT PRINTED: function 10 (store_Open)

-- NOT PRINTED: function 38 (disk_Disk_puts)

-- NOT PRINTED: function 40 (disk_Disk_Up)

-- NOT PRINTED: function 22 (disk_Disk_Lose)

-- NOT PRINTED: function 37 (disk_Disk_goes)

-- NOT PRINTED: function 53 (disk_Disk_Write)

-- NOT PRINTED: function 43 (disk_Save)

-- NOT PRINTED: function 28 (store_Store_step)

-- NOT PRINTED: function 12 (store_Store_Put)

-- NOT PRINTED: function 15 (disk_New)

-- NOT PRINTED: function 13 (imprimaturlaw08_known)

/-! ### imprimaturref08_big: function 30 -/
def imprimaturref08_big.l0 : Nat → Int → Int → List Int → Int → Option (List Int)
  | 0, _, _, _, _ => none
  | k + 1, x0, x1, x5, x6 => if x6 < x1 then ((some (([(Int.tmod x0 256) % 256] : List Int) : List Int)).bind fun y103 => (if y103.length + x5.length < 140737488355328 then (imprimaturref08_big.l0 k (IntKind.u64.wrap (Int.tdiv x0 256)) x1 (y103 ++ x5) (wrap64 (x6 + 1))) else (none))) else (some x5)
def imprimaturref08_big.f (k : Nat) (a0 : Int) (a1 : Int) : Option (List Int) := imprimaturref08_big.l0 k a0 a1 ([] : List Int) 0
theorem imprimaturref08_big.mono_l : ∀ k, (∀ y0 y1 y2 y3, LeO (imprimaturref08_big.l0 k y0 y1 y2 y3) (imprimaturref08_big.l0 (k + 1) y0 y1 y2 y3))
  | 0 => fun _ _ _ _ r h => by simp [imprimaturref08_big.l0] at h
  | k + 1 => by
    have ih0 := imprimaturref08_big.mono_l k
    · intro y0 y1 y2 y3
      unfold imprimaturref08_big.l0
      repeat' first
      | (with_reducible exact ih0 _ _ _ _)
      | (with_reducible exact LeO.refl _)
      | (with_reducible exact LeO.none _)
      | (with_reducible refine LeO.ite ?_ ?_)
      | (with_reducible refine LeO.bind ?_ (fun _ => ?_))
      | exact ih0 _ _ _ _
      | exact LeO.none _
      | refine LeO.ite ?_ ?_
      | refine LeO.bind ?_ (fun _ => ?_)
theorem imprimaturref08_big.mono : ∀ a0 a1 k, LeO (imprimaturref08_big.f k a0 a1) (imprimaturref08_big.f (k + 1) a0 a1) := by
  intro a0 a1 k
  have ih0 := imprimaturref08_big.mono_l k
  unfold imprimaturref08_big.f
  repeat' first
      | (with_reducible exact ih0 _ _ _ _)
      | (with_reducible exact LeO.refl _)
      | (with_reducible exact LeO.none _)
      | (with_reducible refine LeO.ite ?_ ?_)
      | (with_reducible refine LeO.bind ?_ (fun _ => ?_))
      | exact ih0 _ _ _ _
      | exact LeO.none _
      | refine LeO.ite ?_ ?_
      | refine LeO.bind ?_ (fun _ => ?_)
set_option maxHeartbeats 8000000 in
set_option maxRecDepth 100000 in
theorem imprimaturref08_big.calls (k : Nat) (a0 : Int) (a1 : Int) (r : List Int) (w : World) (h : imprimaturref08_big.f k a0 a1 = some r) :
    Calls Tryd.prog 30 #[.int .u64 a0, .int .i64 a1] w fun e w' => ∃ v0_ : Value, e = .returned (v0_) ∧ Kd.R (Kd.int .u8) 5 w' w.heap.size (fun _ => True) v0_ r ∧ Below w.heap.size w w' := by
  have HB := Aside0.mk (Below.refl w.heap.size w)
  have H : (imprimaturref08_big.l0 k a0 a1 ([] : List Int) 0) = some r := h
  clear h
  have H' := Aside0.mk H
  clear H
  go_enter Tryd.func30, Tryd.ntmps30
  go_wp2
  go_loopg [0, 5, 6] k (fun kq v0 v5 v6 w' => ∃ (x0_1 : Int) (x5_1 : List Int) (x6_1 : Int), v0 = .int .u64 x0_1 ∧ v6 = .int .i64 x6_1 ∧ Aside0 (imprimaturref08_big.l0 kq x0_1 a1 x5_1 x6_1 = some r) ∧ Aside0 (kq ≤ k) ∧ Aside0 (Kd.R (Kd.int .u8) 5 w' w.heap.size (fun _ => True) v5 x5_1) ∧ Aside0 (Below w.heap.size w w'))
  case atStart => exact ⟨(a0), (([] : List Int)), (0), (by first | rfl | (simp; done) | (simp [*]; done)), (by first | rfl | (simp; done) | (simp [*]; done)), H', ⟨Nat.le_refl _⟩, ⟨by first | exact Kd.R_nil _ _ _ _ _ | exact Kd.N_nil _ _ _ _ _ | exact Kd.V_nil _ _ _ _ _ | exact Kd.Q_nil _ _ _ _ _ | exact Kd.S_nil _ _ _ _ _⟩, ⟨by repeat (first | (with_reducible first | exact HB.out | apply below_alloc | apply pw_below_drewN | apply below_drew1) | exact HB.out)⟩⟩
  case round =>
    clear H'
    try clear p2
    obtain ⟨x0_1, x5_1, x6_1, rfl, rfl, HA, HK1, HO_5, HB⟩ := hrel
    cases gk with
    | zero => exact absurd HA.out (by simp [imprimaturref08_big.l0])
    | succ k1 =>
      have H := HA.out
      clear HA
      simp only [imprimaturref08_big.l0] at H
      by_cases c3 : x6_1 < a1
      · rw [if_pos c3] at H
        have c3b0 : decide (x6_1 < a1) = true := decide_eq_true c3
        clear c3
        obtain ⟨y103, hy103⟩ : ∃ y_ : List Int, y_ = (([(Int.tmod x0_1 256) % 256] : List Int)) := ⟨_, rfl⟩
        replace H : (if y103.length + x5_1.length < 140737488355328 then (imprimaturref08_big.l0 k1 (IntKind.u64.wrap (Int.tdiv x0_1 256)) a1 (y103 ++ x5_1) (wrap64 (x6_1 + 1))) else (none)) = some r := by first | (rw [hy103]; with_reducible exact H) | (have H2_ := (Option.bind_some _ _).symm.trans H; rw [hy103]; with_reducible exact H2_) | (have H2_ := (Option.bind_some _ _).symm.trans H; with_reducible exact H2_) | with_reducible exact H | (rw [hy103]; exact H) | exact H
        have Ny103 := Aside0.mk hy103
        clear hy103
        by_cases c4 : y103.length + x5_1.length < 140737488355328
        · rw [if_pos c4] at H
          have LMc4 := Aside0.mk c4
          clear c4
          obtain ⟨y106, hy106⟩ : ∃ y_ : List Int, y_ = (y103 ++ x5_1) := ⟨_, rfl⟩
          replace H : (imprimaturref08_big.l0 k1 (IntKind.u64.wrap (Int.tdiv x0_1 256)) a1 y106 (wrap64 (x6_1 + 1))) = some r := by first | (rw [hy106]; with_reducible exact H) | (have H2_ := (Option.bind_some _ _).symm.trans H; rw [hy106]; with_reducible exact H2_) | (have H2_ := (Option.bind_some _ _).symm.trans H; with_reducible exact H2_) | with_reducible exact H | (rw [hy106]; exact H) | exact H
          have Ny106 := Aside0.mk hy106
          clear hy106
          have H' := Aside0.mk H
          clear H
          go_wp2_with (first | ((with_reducible refine gate_dst (N := 15) rfl ?_); refine Kd.R_lit (Kd.int .u8) _ 5 ?hg (N := 15) ?hd (xs := ([(Int.tmod x0_1 256) % 256] : List Int)) (inner := [.int .u8 ((Int.tmod x0_1 256) % 256)]) (ok := fun _ => True) (okp := fun _ => True) ?hr ?hp (fun _ hk => hk) trivial (Below.refl _ _) (Nat.le_refl _) (by simp) ?_; (case hd => rfl); (case hg => rfl); (case hr => first | (go_simp; done) | (go_simp; rfl)); (case hp => exact (Reps.one (show Kd.M (Kd.int .u8) _ _ _ ((Int.tmod x0_1 256) % 256) [.int .u8 ((Int.tmod x0_1 256) % 256)] from rfl) (Reps.none _ _))); intro v104 w5 ho6 hb hg_ hnew_; clear hg_ hnew_; (first | rw [← Ny103.out] at ho6 | (simp only [Int.reduceToNat] at ho6; rw [← Ny103.out] at ho6)); have n0_ := Aside0.mk (Kd.R_elder' (by (with_reducible repeat (first | apply Kd.R_alloc | apply Kd.R_drewN | apply Kd.R_drew)); exact HO_5.out) (Kd.R_base ho6) hb); have n1_ := Aside0.mk (Kd.R_lower (Kd.R_new' ho6 (Kd.R_lt (by (with_reducible repeat (first | apply Kd.R_alloc | apply Kd.R_drewN | apply Kd.R_drew)); exact HO_5.out))) (below_size (by repeat (first | (with_reducible first | exact HB.out | apply below_alloc | apply pw_below_drewN | apply below_drew1) | exact HB.out)))); have n2_ := Aside0.mk (below_step (by repeat (first | (with_reducible first | exact HB.out | apply below_alloc | apply pw_below_drewN | apply below_drew1) | exact HB.out)) hb); clear HO_5; clear HB; have HO_5 := n0_; have HO105 := n1_; have HB := n2_; clear n0_ n1_ n2_; clear hb ho6; obtain ⟨Ao8, co8, eo8⟩ := Kd.R_slice HO_5.out; subst eo8) | ((with_reducible refine gate_builtin (b := .append) (xs := #[.tmp 15, .tmp 16]) rfl ?_); at_builtin; refine Kd.R_append_rows (Kd.int .u8) (w0 := w) w.heap.size rfl (.tmp 15) (.tmp 16) 22 5 (.int .u8 0) 1 rfl Tryd.underlying22 info5 rfl (by decide) (by omega) v104 y103 x5_1 _ _ _ (fun k_ => some k_ ≠ (.slice Ao8 x5_1.length co8 : Value).ownBlock) (fun _ => False) rfl rfl ?aO ?aR (fun _ _ h => h) (fun _ h => h.elim) ?aF ?aB ?aS ?aL ?_; (case aR => repeat (first | exact (Kd.R_reads' HO_5.out).2.2 | (with_reducible refine Kd.C_alloc ?_ _) | (with_reducible refine Kd.C_drewN ?_ _) | (with_reducible refine Kd.C_drew ?_))); (case aB => exact (by repeat (first | (with_reducible first | exact HB.out | apply below_alloc | apply pw_below_drewN | apply below_drew1) | exact HB.out))); (case aF => exact (fun k_ hk => Kd.fresh' (Kd.R_lt (by (with_reducible repeat (first | apply Kd.R_alloc | apply Kd.R_drewN | apply Kd.R_drew)); exact HO_5.out)) k_ hk)); (case aO => exact (by (with_reducible repeat (first | apply Kd.R_alloc | apply Kd.R_drewN | apply Kd.R_drew)); exact Kd.R_mono HO105.out (fun _ hk => hk.2))); (case aS => exact (below_size (by repeat (first | (with_reducible first | exact HB.out | apply below_alloc | apply pw_below_drewN | apply below_drew1) | exact HB.out)))); (case aL => have := LMc4.out; omega); intro v107 w7 ho hb hg hat; rw [← Ny106.out] at ho; have n0_ := Aside0.mk (Kd.R_after (ok := (fun _ => True)) (by (with_reducible repeat (first | apply Kd.R_alloc | apply Kd.R_drewN | apply Kd.R_drew)); exact HO_5.out) hg hat); have n1_ := Aside0.mk (hb); have n2_ := Aside0.mk (ho); clear HO_5; clear HB; clear HO105; have HO_5 := n0_; have HB := n1_; have HO108 := n2_; clear n0_ n1_ n2_; clear ho hb hg hat))
          go_roundg k1
          case measure => have := HK1.out; omega
          case rel => exact ⟨(IntKind.u64.wrap (Int.tdiv x0_1 256)), (y106), (wrap64 (x6_1 + 1)), (by first | rfl | (simp; done) | (simp [*]; done)), (by first | rfl | (simp; done) | (simp [*]; done)), H', ⟨by have := HK1.out; omega⟩, ⟨by (with_reducible repeat (first | apply Kd.R_alloc | apply Kd.R_drewN | apply Kd.R_drew)); exact Kd.R_mono HO108.out (fun _ hk => trivial)⟩, ⟨by repeat (first | (with_reducible first | exact HB.out | apply below_alloc | apply pw_below_drewN | apply below_drew1) | exact HB.out)⟩⟩
        · rw [if_neg c4] at H
          exact absurd H (by simp)
      · rw [if_neg c3] at H
        have c3b0 : decide (x6_1 < a1) = false := decide_eq_false c3
        clear c3
        obtain rfl := Option.some.inj H
        go_wp2
        go_ret
        exact ⟨_, by first | rfl | (simp [errW_none, errW_some] <;> rfl) | (simp [*, errW_none, errW_some] <;> rfl), by (with_reducible repeat (first | apply Kd.R_alloc | apply Kd.R_drewN | apply Kd.R_drew)); exact HO_5.out, by repeat (first | (with_reducible first | exact HB.out | apply below_alloc | apply pw_below_drewN | apply below_drew1) | exact HB.out)⟩

/-! ### imprimaturref02_Pad: function 64 -/
mutual
def imprimaturref02_Pad.j0 : Nat → Int → Int → Bool → Option (List Int × Int)
  | 0, _, _, _ => none
  | k + 1, x0, x1, x21 => if x21 = true then (some (([] : List Int), 1)) else (if x0 > 1048576 then (some (([] : List Int), 2)) else (imprimaturref02_Pad.l0 k x0 (wrap64 (Int.tdiv x1 4)) (wrap64 (Int.tdiv x1 32)) (([128] : List Int))))
def imprimaturref02_Pad.l0 : Nat → Int → Int → Int → List Int → Option (List Int × Int)
  | 0, _, _, _, _ => none
  | k + 1, x0, x6, x7, x8 => if x6 = 0 then (none) else (if (Int.tmod (wrap64 ((wrap64 (x0 + (x8.length : Int))) + x7)) x6) = 0 then (imprimaturref02_Pad.l1 k x7 x8 ([] : List Int) (IntKind.u64.wrap ((IntKind.u64.wrap (x0)) * 8)) 0) else (if x8.length < 140737488355328 then (imprimaturref02_Pad.l0 k x0 x6 x7 (x8 ++ [0])) else (none)))
def imprimaturref02_Pad.l1 : Nat → Int → List Int → List Int → Int → Int → Option (List Int × Int)
  | 0, _, _, _, _, _ => none
  | k + 1, x7, x8, x9, x10, x11 => if x11 < x7 then ((some (([(Int.tmod x10 256) % 256] : List Int) : List Int)).bind fun y115 => (if y115.length + x9.length < 140737488355328 then (imprimaturref02_Pad.l1 k x7 x8 (y115 ++ x9) (IntKind.u64.wrap (Int.tdiv x10 256)) (wrap64 (x11 + 1))) else (none))) else (if x8.length + x9.length < 140737488355328 then (some ((x8 ++ x9), 0)) else (none))
end
def imprimaturref02_Pad.f (k : Nat) (a0 : Int) (a1 : Int) : Option (List Int × Int) := if a1 = 256 then (imprimaturref02_Pad.j0 k a0 a1 (decide (a0 < 0))) else (if a1 = 512 then (imprimaturref02_Pad.j0 k a0 a1 (decide (a0 < 0))) else (imprimaturref02_Pad.j0 k a0 a1 true))
theorem imprimaturref02_Pad.mono_l : ∀ k, (∀ y0 y1 y2, LeO (imprimaturref02_Pad.j0 k y0 y1 y2) (imprimaturref02_Pad.j0 (k + 1) y0 y1 y2)) ∧ (∀ y0 y1 y2 y3, LeO (imprimaturref02_Pad.l0 k y0 y1 y2 y3) (imprimaturref02_Pad.l0 (k + 1) y0 y1 y2 y3)) ∧ (∀ y0 y1 y2 y3 y4, LeO (imprimaturref02_Pad.l1 k y0 y1 y2 y3 y4) (imprimaturref02_Pad.l1 (k + 1) y0 y1 y2 y3 y4))
  | 0 => ⟨fun _ _ _ r h => by simp [imprimaturref02_Pad.j0] at h, fun _ _ _ _ r h => by simp [imprimaturref02_Pad.l0] at h, fun _ _ _ _ _ r h => by simp [imprimaturref02_Pad.l1] at h⟩
  | k + 1 => by
    obtain ⟨ih0, ih1, ih2⟩ := imprimaturref02_Pad.mono_l k
    refine ⟨?_, ?_, ?_⟩
    · intro y0 y1 y2
      unfold imprimaturref02_Pad.j0
      repeat' first
      | (with_reducible exact ih0 _ _ _)
      | (with_reducible exact ih1 _ _ _ _)
      | (with_reducible exact ih2 _ _ _ _ _)
      | (with_reducible exact LeO.refl _)
      | (with_reducible exact LeO.none _)
      | (with_reducible refine LeO.ite ?_ ?_)
      | (with_reducible refine LeO.bind ?_ (fun _ => ?_))
      | exact ih0 _ _ _
      | exact ih1 _ _ _ _
      | exact ih2 _ _ _ _ _
      | exact LeO.none _
      | refine LeO.ite ?_ ?_
      | refine LeO.bind ?_ (fun _ => ?_)
    · intro y0 y1 y2 y3
      unfold imprimaturref02_Pad.l0
      repeat' first
      | (with_reducible exact ih0 _ _ _)
      | (with_reducible exact ih1 _ _ _ _)
      | (with_reducible exact ih2 _ _ _ _ _)
      | (with_reducible exact LeO.refl _)
      | (with_reducible exact LeO.none _)
      | (with_reducible refine LeO.ite ?_ ?_)
      | (with_reducible refine LeO.bind ?_ (fun _ => ?_))
      | exact ih0 _ _ _
      | exact ih1 _ _ _ _
      | exact ih2 _ _ _ _ _
      | exact LeO.none _
      | refine LeO.ite ?_ ?_
      | refine LeO.bind ?_ (fun _ => ?_)
    · intro y0 y1 y2 y3 y4
      unfold imprimaturref02_Pad.l1
      repeat' first
      | (with_reducible exact ih0 _ _ _)
      | (with_reducible exact ih1 _ _ _ _)
      | (with_reducible exact ih2 _ _ _ _ _)
      | (with_reducible exact LeO.refl _)
      | (with_reducible exact LeO.none _)
      | (with_reducible refine LeO.ite ?_ ?_)
      | (with_reducible refine LeO.bind ?_ (fun _ => ?_))
      | exact ih0 _ _ _
      | exact ih1 _ _ _ _
      | exact ih2 _ _ _ _ _
      | exact LeO.none _
      | refine LeO.ite ?_ ?_
      | refine LeO.bind ?_ (fun _ => ?_)
theorem imprimaturref02_Pad.mono : ∀ a0 a1 k, LeO (imprimaturref02_Pad.f k a0 a1) (imprimaturref02_Pad.f (k + 1) a0 a1) := by
  intro a0 a1 k
  obtain ⟨ih0, ih1, ih2⟩ := imprimaturref02_Pad.mono_l k
  unfold imprimaturref02_Pad.f
  repeat' first
      | (with_reducible exact ih0 _ _ _)
      | (with_reducible exact ih1 _ _ _ _)
      | (with_reducible exact ih2 _ _ _ _ _)
      | (with_reducible exact LeO.refl _)
      | (with_reducible exact LeO.none _)
      | (with_reducible refine LeO.ite ?_ ?_)
      | (with_reducible refine LeO.bind ?_ (fun _ => ?_))
      | exact ih0 _ _ _
      | exact ih1 _ _ _ _
      | exact ih2 _ _ _ _ _
      | exact LeO.none _
      | refine LeO.ite ?_ ?_
      | refine LeO.bind ?_ (fun _ => ?_)
set_option maxHeartbeats 8000000 in
set_option maxRecDepth 100000 in
theorem imprimaturref02_Pad.calls (k : Nat) (a0 : Int) (a1 : Int) (r1 : List Int) (r2 : Int) (w : World) (h : imprimaturref02_Pad.f k a0 a1 = some (r1, r2)) :
    Calls Tryd.prog 64 #[.int .i64 a0, .int .i64 a1] w fun e w' => ∃ v0_ : Value, e = .returned (.tuple #[v0_, .int .i64 r2]) ∧ Kd.R (Kd.int .u8) 5 w' w.heap.size (fun _ => True) v0_ r1 ∧ Below w.heap.size w w' := by
  have HB := Aside0.mk (Below.refl w.heap.size w)
  have H : (if a1 = 256 then (imprimaturref02_Pad.j0 k a0 a1 (decide (a0 < 0))) else (if a1 = 512 then (imprimaturref02_Pad.j0 k a0 a1 (decide (a0 < 0))) else (imprimaturref02_Pad.j0 k a0 a1 true))) = some (r1, r2) := h
  clear h
  have HC3 := Aside0.mk H
  clear H
  go_enter Tryd.func64, Tryd.ntmps64
  go_upto_region 1 with (fail)
  go_cut [21] (fun v21 wc => ∃ (kq : Nat) (x21_2 : Bool), v21 = .bool x21_2 ∧ Aside0 (imprimaturref02_Pad.j0 kq a0 a1 x21_2 = some (r1, r2)) ∧ Aside0 (kq ≤ k) ∧ Aside0 (Below w.heap.size w wc))
  case first =>
    have H := HC3.out
    clear HC3
    by_cases c4 : a1 = 256
    · rw [if_pos c4] at H
      have c4b0 : (a1 == 256) = true := beq_iff_eq.mpr c4
      have c4b1 : (a1 != 256) = false := bne_eq_false_iff_eq.mpr c4
      clear c4
      (first | rw [c4b0] | (simp only [i64_w, i32_w]; rw [c4b0]) | skip)
      have H' := Aside0.mk H
      clear H
      go_wp2
      go_meet
      case rel => exact ⟨_, (decide (a0 < 0)), (by first | rfl | (simp; done) | (simp [*]; done)), H', ⟨by first | omega | exact Nat.le_refl _⟩, ⟨by repeat (first | (with_reducible first | exact HB.out | apply below_alloc | apply pw_below_drewN | apply below_drew1) | exact HB.out)⟩⟩
    · rw [if_neg c4] at H
      have c4b0 : (a1 == 256) = false := beq_eq_false_iff_ne.mpr c4
      have c4b1 : (a1 != 256) = true := bne_iff_ne.mpr c4
      (first | rw [c4b0] | (simp only [i64_w, i32_w]; rw [c4b0]) | skip)
      by_cases c5 : a1 = 512
      · rw [if_pos c5] at H
        have c5b0 : (a1 == 512) = true := beq_iff_eq.mpr c5
        have c5b1 : (a1 != 512) = false := bne_eq_false_iff_eq.mpr c5
        clear c5
        have H' := Aside0.mk H
        clear H
        go_wp2
        go_meet
        case rel => exact ⟨_, (decide (a0 < 0)), (by first | rfl | (simp; done) | (simp [*]; done)), H', ⟨by first | omega | exact Nat.le_refl _⟩, ⟨by repeat (first | (with_reducible first | exact HB.out | apply below_alloc | apply pw_below_drewN | apply below_drew1) | exact HB.out)⟩⟩
      · rw [if_neg c5] at H
        have c5b0 : (a1 == 512) = false := beq_eq_false_iff_ne.mpr c5
        have c5b1 : (a1 != 512) = true := bne_iff_ne.mpr c5
        have H' := Aside0.mk H
        clear H
        go_wp2
        go_meet
        case rel => exact ⟨_, (true), (by first | rfl | (simp; done) | (simp [*]; done)), H', ⟨by first | omega | exact Nat.le_refl _⟩, ⟨by repeat (first | (with_reducible first | exact HB.out | apply below_alloc | apply pw_below_drewN | apply below_drew1) | exact HB.out)⟩⟩
  case rest =>
    clear HC3
    try clear p2
    try clear c4
    try clear c4b0
    try clear c4b1
    try clear c5
    try clear c5b0
    try clear c5b1
    obtain ⟨kq, x21_2, rfl, HA, HJ2, HB⟩ := hcut
    cases kq with
    | zero => exact absurd HA.out (by simp [imprimaturref02_Pad.j0])
    | succ kj2 =>
      have H := HA.out
      clear HA
      simp only [imprimaturref02_Pad.j0] at H
      by_cases c6 : x21_2 = true
      · subst c6
        have H1 : (some (([] : List Int), 1)) = some (r1, r2) := by rw [if_pos rfl] at H; exact H
        clear H
        have H := H1
        clear H1
        simp only [Option.some.injEq, Prod.mk.injEq] at H
        obtain ⟨rfl, rfl⟩ := H
        go_wp2
        go_ret2
        exact ⟨_, by first | rfl | (simp [errW_none, errW_some] <;> rfl) | (simp [*, errW_none, errW_some] <;> rfl), by first | exact Kd.R_nil _ _ _ _ _ | exact Kd.N_nil _ _ _ _ _ | exact Kd.V_nil _ _ _ _ _ | exact Kd.Q_nil _ _ _ _ _ | exact Kd.S_nil _ _ _ _ _, by repeat (first | (with_reducible first | exact HB.out | apply below_alloc | apply pw_below_drewN | apply below_drew1) | exact HB.out)⟩
      · replace c6 := Bool.eq_false_iff.mpr c6
        subst c6
        have H1 : (if a0 > 1048576 then (some (([] : List Int), 2)) else (imprimaturref02_Pad.l0 kj2 a0 (wrap64 (Int.tdiv a1 4)) (wrap64 (Int.tdiv a1 32)) (([128] : List Int)))) = some (r1, r2) := by rw [if_neg (show ¬ (false = true) by decide)] at H; exact H
        clear H
        have H := H1
        clear H1
        by_cases c7 : a0 > 1048576
        · rw [if_pos c7] at H
          have c7b0 : decide (1048576 < a0) = true := decide_eq_true c7
          clear c7
          simp only [Option.some.injEq, Prod.mk.injEq] at H
          obtain ⟨rfl, rfl⟩ := H
          go_wp2
          go_ret2
          exact ⟨_, by first | rfl | (simp [errW_none, errW_some] <;> rfl) | (simp [*, errW_none, errW_some] <;> rfl), by first | exact Kd.R_nil _ _ _ _ _ | exact Kd.N_nil _ _ _ _ _ | exact Kd.V_nil _ _ _ _ _ | exact Kd.Q_nil _ _ _ _ _ | exact Kd.S_nil _ _ _ _ _, by repeat (first | (with_reducible first | exact HB.out | apply below_alloc | apply pw_below_drewN | apply below_drew1) | exact HB.out)⟩
        · rw [if_neg c7] at H
          have c7b0 : decide (1048576 < a0) = false := decide_eq_false c7
          clear c7
          obtain ⟨y109, hy109⟩ : ∃ y_ : List Int, y_ = (([128] : List Int)) := ⟨_, rfl⟩
          replace H : (imprimaturref02_Pad.l0 kj2 a0 (wrap64 (Int.tdiv a1 4)) (wrap64 (Int.tdiv a1 32)) y109) = some (r1, r2) := by first | (rw [hy109]; with_reducible exact H) | (have H2_ := (Option.bind_some _ _).symm.trans H; rw [hy109]; with_reducible exact H2_) | (have H2_ := (Option.bind_some _ _).symm.trans H; with_reducible exact H2_) | with_reducible exact H | (rw [hy109]; exact H) | exact H
          have Ny109 := Aside0.mk hy109
          clear hy109
          have H' := Aside0.mk H
          clear H
          go_wp2_with (first | ((with_reducible refine gate_dst (N := 28) rfl ?_); refine Kd.R_lit (Kd.int .u8) _ 5 ?hg (N := 28) ?hd (xs := ([128] : List Int)) (inner := [.int .u8 128]) (ok := fun _ => True) (okp := fun _ => True) ?hr ?hp (fun _ hk => hk) trivial (Below.refl _ _) (Nat.le_refl _) (by simp) ?_; (case hd => rfl); (case hg => rfl); (case hr => first | (go_simp; done) | (go_simp; rfl)); (case hp => exact (Reps.one (show Kd.M (Kd.int .u8) _ _ _ 128 [.int .u8 128] from rfl) (Reps.none _ _))); intro v110 w8 ho9 hb hg_ hnew_; clear hg_ hnew_; (first | rw [← Ny109.out] at ho9 | (simp only [Int.reduceToNat] at ho9; rw [← Ny109.out] at ho9)); have n0_ := Aside0.mk (Kd.R_lower ho9 (below_size (by repeat (first | (with_reducible first | exact HB.out | apply below_alloc | apply pw_below_drewN | apply below_drew1) | exact HB.out)))); have n1_ := Aside0.mk (below_step (by repeat (first | (with_reducible first | exact HB.out | apply below_alloc | apply pw_below_drewN | apply below_drew1) | exact HB.out)) hb); clear HB; have HO111 := n0_; have HB := n1_; clear n0_ n1_; clear hb ho9))
          go_loopg [8] kj2 (fun kq v8 w' => ∃ (x8_2 : List Int), Aside0 (imprimaturref02_Pad.l0 kq a0 (wrap64 (Int.tdiv a1 4)) (wrap64 (Int.tdiv a1 32)) x8_2 = some (r1, r2)) ∧ Aside0 (kq ≤ kj2) ∧ Aside0 (Kd.R (Kd.int .u8) 5 w' w.heap.size (fun _ => True) v8 x8_2) ∧ Aside0 (Below w.heap.size w w'))
          case atStart => exact ⟨(y109), H', ⟨Nat.le_refl _⟩, ⟨by (with_reducible repeat (first | apply Kd.R_alloc | apply Kd.R_drewN | apply Kd.R_drew)); exact HO111.out⟩, ⟨by repeat (first | (with_reducible first | exact HB.out | apply below_alloc | apply pw_below_drewN | apply below_drew1) | exact HB.out)⟩⟩
          case round =>
            clear H'
            try clear p2
            try clear c4
            try clear c4b0
            try clear c4b1
            try clear c5
            try clear c5b0
            try clear c5b1
            try clear c6
            try clear p6
            try clear c7
            try clear c7b0
            try clear p2
            obtain ⟨x8_2, HA, HK2, HO_8, HB⟩ := hrel
            cases gk with
            | zero => exact absurd HA.out (by simp [imprimaturref02_Pad.l0])
            | succ k2 =>
              have H := HA.out
              clear HA
              simp only [imprimaturref02_Pad.l0] at H
              by_cases c10 : (wrap64 (Int.tdiv a1 4)) = 0
              · rw [if_pos c10] at H
                exact absurd H (by simp)
              · rw [if_neg c10] at H
                have c10b0 : ((wrap64 (Int.tdiv a1 4)) == 0) = false := beq_eq_false_iff_ne.mpr c10
                have c10b1 : ((wrap64 (Int.tdiv a1 4)) != 0) = true := bne_iff_ne.mpr c10
                by_cases c11 : (Int.tmod (wrap64 ((wrap64 (a0 + (x8_2.length : Int))) + (wrap64 (Int.tdiv a1 32)))) (wrap64 (Int.tdiv a1 4))) = 0
                · rw [if_pos c11] at H
                  have c11b0 : ((Int.tmod (wrap64 ((wrap64 (a0 + (x8_2.length : Int))) + (wrap64 (Int.tdiv a1 32)))) (wrap64 (Int.tdiv a1 4))) == 0) = true := beq_iff_eq.mpr c11
                  have c11b1 : ((Int.tmod (wrap64 ((wrap64 (a0 + (x8_2.length : Int))) + (wrap64 (Int.tdiv a1 32)))) (wrap64 (Int.tdiv a1 4))) != 0) = false := bne_eq_false_iff_eq.mpr c11
                  clear c11
                  have H' := Aside0.mk H
                  clear H
                  obtain ⟨Ao12, co12, eo12⟩ := Kd.R_slice HO_8.out
                  subst eo12
                  go_wp2
                  go_loopg [9, 10, 11] k2 (fun kq v9 v10 v11 w' => ∃ (x9_3 : List Int) (x10_3 : Int) (x11_3 : Int), v10 = .int .u64 x10_3 ∧ v11 = .int .i64 x11_3 ∧ Aside0 (imprimaturref02_Pad.l1 kq (wrap64 (Int.tdiv a1 32)) x8_2 x9_3 x10_3 x11_3 = some (r1, r2)) ∧ Aside0 (kq ≤ k2) ∧ Aside0 (Kd.R (Kd.int .u8) 5 w' w.heap.size (fun k_ => some k_ ≠ (v9 : Value).ownBlock) (.slice Ao12 x8_2.length co12) x8_2) ∧ Aside0 (Kd.R (Kd.int .u8) 5 w' w.heap.size (fun k_ => some k_ ≠ ((.slice Ao12 x8_2.length co12) : Value).ownBlock) v9 x9_3) ∧ Aside0 (Below w.heap.size w w'))
                  case atStart => exact ⟨(([] : List Int)), (IntKind.u64.wrap ((IntKind.u64.wrap (a0)) * 8)), (0), (by first | rfl | (simp; done) | (simp [*]; done)), (by first | rfl | (simp; done) | (simp [*]; done)), H', ⟨Nat.le_refl _⟩, ⟨by (with_reducible repeat (first | apply Kd.R_alloc | apply Kd.R_drewN | apply Kd.R_drew)); exact Kd.R_mono HO_8.out (fun _ hk => (by simp [Value.ownBlock]))⟩, ⟨by first | exact Kd.R_nil _ _ _ _ _ | exact Kd.N_nil _ _ _ _ _ | exact Kd.V_nil _ _ _ _ _ | exact Kd.Q_nil _ _ _ _ _ | exact Kd.S_nil _ _ _ _ _⟩, ⟨by repeat (first | (with_reducible first | exact HB.out | apply below_alloc | apply pw_below_drewN | apply below_drew1) | exact HB.out)⟩⟩
                  case round =>
                    clear H'
                    try clear c1
                    try clear p2
                    try clear c4
                    try clear c4b0
                    try clear c4b1
                    try clear c5
                    try clear c5b0
                    try clear c5b1
                    try clear c6
                    try clear p6
                    try clear c7
                    try clear c7b0
                    try clear c10
                    try clear c10b0
                    try clear c10b1
                    try clear c11
                    try clear c11b0
                    try clear c11b1
                    try clear p2
                    try clear p6
                    obtain ⟨x9_3, x10_3, x11_3, rfl, rfl, HA, HK3, HO_8, HO_9, HB⟩ := hrel
                    cases gk with
                    | zero => exact absurd HA.out (by simp [imprimaturref02_Pad.l1])
                    | succ k3 =>
                      have H := HA.out
                      clear HA
                      simp only [imprimaturref02_Pad.l1] at H
                      by_cases c13 : x11_3 < (wrap64 (Int.tdiv a1 32))
                      · rw [if_pos c13] at H
                        have c13b0 : decide (x11_3 < (wrap64 (Int.tdiv a1 32))) = true := decide_eq_true c13
                        clear c13
                        obtain ⟨y115, hy115⟩ : ∃ y_ : List Int, y_ = (([(Int.tmod x10_3 256) % 256] : List Int)) := ⟨_, rfl⟩
                        replace H : (if y115.length + x9_3.length < 140737488355328 then (imprimaturref02_Pad.l1 k3 (wrap64 (Int.tdiv a1 32)) x8_2 (y115 ++ x9_3) (IntKind.u64.wrap (Int.tdiv x10_3 256)) (wrap64 (x11_3 + 1))) else (none)) = some (r1, r2) := by first | (rw [hy115]; with_reducible exact H) | (have H2_ := (Option.bind_some _ _).symm.trans H; rw [hy115]; with_reducible exact H2_) | (have H2_ := (Option.bind_some _ _).symm.trans H; with_reducible exact H2_) | with_reducible exact H | (rw [hy115]; exact H) | exact H
                        have Ny115 := Aside0.mk hy115
                        clear hy115
                        by_cases c14 : y115.length + x9_3.length < 140737488355328
                        · rw [if_pos c14] at H
                          have LMc14 := Aside0.mk c14
                          clear c14
                          obtain ⟨y118, hy118⟩ : ∃ y_ : List Int, y_ = (y115 ++ x9_3) := ⟨_, rfl⟩
                          replace H : (imprimaturref02_Pad.l1 k3 (wrap64 (Int.tdiv a1 32)) x8_2 y118 (IntKind.u64.wrap (Int.tdiv x10_3 256)) (wrap64 (x11_3 + 1))) = some (r1, r2) := by first | (rw [hy118]; with_reducible exact H) | (have H2_ := (Option.bind_some _ _).symm.trans H; rw [hy118]; with_reducible exact H2_) | (have H2_ := (Option.bind_some _ _).symm.trans H; with_reducible exact H2_) | with_reducible exact H | (rw [hy118]; exact H) | exact H
                          have Ny118 := Aside0.mk hy118
                          clear hy118
                          have H' := Aside0.mk H
                          clear H
                          go_wp2_with (first | ((with_reducible refine gate_dst (N := 52) rfl ?_); refine Kd.R_lit (Kd.int .u8) _ 5 ?hg (N := 52) ?hd (xs := ([(Int.tmod x10_3 256) % 256] : List Int)) (inner := [.int .u8 ((Int.tmod x10_3 256) % 256)]) (ok := fun _ => True) (okp := fun _ => True) ?hr ?hp (fun _ hk => hk) trivial (Below.refl _ _) (Nat.le_refl _) (by simp) ?_; (case hd => rfl); (case hg => rfl); (case hr => first | (go_simp; done) | (go_simp; rfl)); (case hp => exact (Reps.one (show Kd.M (Kd.int .u8) _ _ _ ((Int.tmod x10_3 256) % 256) [.int .u8 ((Int.tmod x10_3 256) % 256)] from rfl) (Reps.none _ _))); intro v116 w15 ho16 hb hg_ hnew_; clear hg_ hnew_; (first | rw [← Ny115.out] at ho16 | (simp only [Int.reduceToNat] at ho16; rw [← Ny115.out] at ho16)); have n0_ := Aside0.mk (Kd.R_elder' (by (with_reducible repeat (first | apply Kd.R_alloc | apply Kd.R_drewN | apply Kd.R_drew)); exact HO_8.out) (Kd.R_base ho16) hb); have n1_ := Aside0.mk (Kd.R_elder' (by (with_reducible repeat (first | apply Kd.R_alloc | apply Kd.R_drewN | apply Kd.R_drew)); exact HO_9.out) (Kd.R_base ho16) hb); have n2_ := Aside0.mk (Kd.R_lower (Kd.R_new' (Kd.R_new' ho16 (Kd.R_lt (by (with_reducible repeat (first | apply Kd.R_alloc | apply Kd.R_drewN | apply Kd.R_drew)); exact HO_8.out))) (Kd.R_lt (by (with_reducible repeat (first | apply Kd.R_alloc | apply Kd.R_drewN | apply Kd.R_drew)); exact HO_9.out))) (below_size (by repeat (first | (with_reducible first | exact HB.out | apply below_alloc | apply pw_below_drewN | apply below_drew1) | exact HB.out)))); have n3_ := Aside0.mk (below_step (by repeat (first | (with_reducible first | exact HB.out | apply below_alloc | apply pw_below_drewN | apply below_drew1) | exact HB.out)) hb); clear HO_8; clear HO_9; clear HB; have HO_8 := n0_; have HO_9 := n1_; have HO117 := n2_; have HB := n3_; clear n0_ n1_ n2_ n3_; clear hb ho16; obtain ⟨Ao18, co18, eo18⟩ := Kd.R_slice HO_9.out; subst eo18) | ((with_reducible refine gate_builtin (b := .append) (xs := #[.tmp 52, .tmp 53]) rfl ?_); at_builtin; refine Kd.R_append_rows (Kd.int .u8) (w0 := w) w.heap.size rfl (.tmp 52) (.tmp 53) 22 5 (.int .u8 0) 1 rfl Tryd.underlying22 info5 rfl (by decide) (by omega) v116 y115 x9_3 _ _ _ (fun k_ => some k_ ≠ (.slice Ao12 x8_2.length co12 : Value).ownBlock ∧ some k_ ≠ (.slice Ao18 x9_3.length co18 : Value).ownBlock) (fun _ => False) rfl rfl ?aO ?aR (fun _ _ h => h) (fun _ h => h.elim) ?aF ?aB ?aS ?aL ?_; (case aR => repeat (first | exact (Kd.R_reads' HO_9.out).2.2 | (with_reducible refine Kd.C_alloc ?_ _) | (with_reducible refine Kd.C_drewN ?_ _) | (with_reducible refine Kd.C_drew ?_))); (case aB => exact (by repeat (first | (with_reducible first | exact HB.out | apply below_alloc | apply pw_below_drewN | apply below_drew1) | exact HB.out))); (case aF => exact (fun k_ hk => ⟨Kd.fresh' (Kd.R_lt (by (with_reducible repeat (first | apply Kd.R_alloc | apply Kd.R_drewN | apply Kd.R_drew)); exact HO_8.out)) k_ hk, Kd.fresh' (Kd.R_lt (by (with_reducible repeat (first | apply Kd.R_alloc | apply Kd.R_drewN | apply Kd.R_drew)); exact HO_9.out)) k_ hk⟩)); (case aO => exact (by (with_reducible repeat (first | apply Kd.R_alloc | apply Kd.R_drewN | apply Kd.R_drew)); exact Kd.R_mono HO117.out (fun _ hk => ⟨hk.1.2, hk.2⟩))); (case aS => exact (below_size (by repeat (first | (with_reducible first | exact HB.out | apply below_alloc | apply pw_below_drewN | apply below_drew1) | exact HB.out)))); (case aL => have := LMc14.out; omega); intro v119 w17 ho hb hg hat; rw [← Ny118.out] at ho; have n0_ := Aside0.mk (Kd.R_after (ok := (fun k_ => some k_ ≠ (.slice Ao18 x9_3.length co18 : Value).ownBlock)) (by (with_reducible repeat (first | apply Kd.R_alloc | apply Kd.R_drewN | apply Kd.R_drew)); exact HO_8.out) hg hat); have n1_ := Aside0.mk (Kd.R_after (ok := (fun k_ => some k_ ≠ (.slice Ao12 x8_2.length co12 : Value).ownBlock)) (by (with_reducible repeat (first | apply Kd.R_alloc | apply Kd.R_drewN | apply Kd.R_drew)); exact HO_9.out) hg hat); have n2_ := Aside0.mk (hb); have n3_ := Aside0.mk (ho); clear HO_8; clear HO_9; clear HB; clear HO117; have HO_8 := n0_; have HO_9 := n1_; have HB := n2_; have HO120 := n3_; clear n0_ n1_ n2_ n3_; clear ho hb hg hat))
                          go_roundg k3
                          case measure => have := HJ2.out; have := HK2.out; have := HK3.out; omega
                          case rel => exact ⟨(y118), (IntKind.u64.wrap (Int.tdiv x10_3 256)), (wrap64 (x11_3 + 1)), (by first | rfl | (simp; done) | (simp [*]; done)), (by first | rfl | (simp; done) | (simp [*]; done)), H', ⟨by have := HJ2.out; have := HK2.out; have := HK3.out; omega⟩, ⟨by (with_reducible repeat (first | apply Kd.R_alloc | apply Kd.R_drewN | apply Kd.R_drew)); exact Kd.R_mono HO_8.out (fun _ hk => hk.2)⟩, ⟨by (with_reducible repeat (first | apply Kd.R_alloc | apply Kd.R_drewN | apply Kd.R_drew)); exact Kd.R_mono HO120.out (fun _ hk => hk.1)⟩, ⟨by repeat (first | (with_reducible first | exact HB.out | apply below_alloc | apply pw_below_drewN | apply below_drew1) | exact HB.out)⟩⟩
                        · rw [if_neg c14] at H
                          exact absurd H (by simp)
                      · rw [if_neg c13] at H
                        have c13b0 : decide (x11_3 < (wrap64 (Int.tdiv a1 32))) = false := decide_eq_false c13
                        clear c13
                        by_cases c19 : x8_2.length + x9_3.length < 140737488355328
                        · rw [if_pos c19] at H
                          have LMc19 := Aside0.mk c19
                          clear c19
                          obtain ⟨y121, hy121⟩ : ∃ y_ : List Int, y_ = (x8_2 ++ x9_3) := ⟨_, rfl⟩
                          replace H : (some (y121, 0)) = some (r1, r2) := by first | (rw [hy121]; with_reducible exact H) | (have H2_ := (Option.bind_some _ _).symm.trans H; rw [hy121]; with_reducible exact H2_) | (have H2_ := (Option.bind_some _ _).symm.trans H; with_reducible exact H2_) | with_reducible exact H | (rw [hy121]; exact H) | exact H
                          have Ny121 := Aside0.mk hy121
                          clear hy121
                          simp only [Option.some.injEq, Prod.mk.injEq] at H
                          obtain ⟨rfl, rfl⟩ := H
                          obtain ⟨Ao21, co21, eo21⟩ := Kd.R_slice HO_9.out
                          subst eo21
                          go_wp2_with (first | ((with_reducible refine gate_builtin (b := .append) (xs := #[.tmp 57, .tmp 58]) rfl ?_); at_builtin; refine Kd.R_append_rows (Kd.int .u8) (w0 := w) w.heap.size rfl (.tmp 57) (.tmp 58) 22 5 (.int .u8 0) 1 rfl Tryd.underlying22 info5 rfl (by decide) (by omega) (.slice Ao12 x8_2.length co12) x8_2 x9_3 _ _ _ (fun k_ => some k_ ≠ (.slice Ao21 x9_3.length co21 : Value).ownBlock) (fun _ => False) rfl rfl ?aO ?aR (fun _ _ h => h) (fun _ h => h.elim) ?aF ?aB ?aS ?aL ?_; (case aR => repeat (first | exact (Kd.R_reads' HO_9.out).2.2 | (with_reducible refine Kd.C_alloc ?_ _) | (with_reducible refine Kd.C_drewN ?_ _) | (with_reducible refine Kd.C_drew ?_))); (case aB => exact (by repeat (first | (with_reducible first | exact HB.out | apply below_alloc | apply pw_below_drewN | apply below_drew1) | exact HB.out))); (case aF => exact (fun k_ hk => Kd.fresh' (Kd.R_lt (by (with_reducible repeat (first | apply Kd.R_alloc | apply Kd.R_drewN | apply Kd.R_drew)); exact HO_9.out)) k_ hk)); (case aO => exact (by (with_reducible repeat (first | apply Kd.R_alloc | apply Kd.R_drewN | apply Kd.R_drew)); exact HO_8.out)); (case aS => exact (below_size (by repeat (first | (with_reducible first | exact HB.out | apply below_alloc | apply pw_below_drewN | apply below_drew1) | exact HB.out)))); (case aL => have := LMc19.out; omega); intro v122 w20 ho hb hg hat; rw [← Ny121.out] at ho; have n0_ := Aside0.mk (Kd.R_after (ok := (fun _ => True)) (by (with_reducible repeat (first | apply Kd.R_alloc | apply Kd.R_drewN | apply Kd.R_drew)); exact Kd.R_mono HO_9.out (fun _ hk => ⟨trivial, hk⟩)) hg hat); have n1_ := Aside0.mk (hb); have n2_ := Aside0.mk (ho); clear HO_9; clear HB; clear HO_8; have HO_9 := n0_; have HB := n1_; have HO123 := n2_; clear n0_ n1_ n2_; clear ho hb hg hat))
                          go_ret2
                          exact ⟨_, by first | rfl | (simp [errW_none, errW_some] <;> rfl) | (simp [*, errW_none, errW_some] <;> rfl), by (with_reducible repeat (first | apply Kd.R_alloc | apply Kd.R_drewN | apply Kd.R_drew)); exact Kd.R_mono HO123.out (fun _ hk => trivial), by repeat (first | (with_reducible first | exact HB.out | apply below_alloc | apply pw_below_drewN | apply below_drew1) | exact HB.out)⟩
                        · rw [if_neg c19] at H
                          exact absurd H (by simp)
                · rw [if_neg c11] at H
                  have c11b0 : ((Int.tmod (wrap64 ((wrap64 (a0 + (x8_2.length : Int))) + (wrap64 (Int.tdiv a1 32)))) (wrap64 (Int.tdiv a1 4))) == 0) = false := beq_eq_false_iff_ne.mpr c11
                  have c11b1 : ((Int.tmod (wrap64 ((wrap64 (a0 + (x8_2.length : Int))) + (wrap64 (Int.tdiv a1 32)))) (wrap64 (Int.tdiv a1 4))) != 0) = true := bne_iff_ne.mpr c11
                  by_cases c22 : x8_2.length < 140737488355328
                  · rw [if_pos c22] at H
                    have LMc22 := Aside0.mk c22
                    clear c22
                    obtain ⟨y112, hy112⟩ : ∃ y_ : List Int, y_ = (x8_2 ++ [0]) := ⟨_, rfl⟩
                    replace H : (imprimaturref02_Pad.l0 k2 a0 (wrap64 (Int.tdiv a1 4)) (wrap64 (Int.tdiv a1 32)) y112) = some (r1, r2) := by first | (rw [hy112]; with_reducible exact H) | (have H2_ := (Option.bind_some _ _).symm.trans H; rw [hy112]; with_reducible exact H2_) | (have H2_ := (Option.bind_some _ _).symm.trans H; with_reducible exact H2_) | with_reducible exact H | (rw [hy112]; exact H) | exact H
                    have Ny112 := Aside0.mk hy112
                    clear hy112
                    have H' := Aside0.mk H
                    clear H
                    obtain ⟨Ao23, co23, eo23⟩ := Kd.R_slice HO_8.out
                    subst eo23
                    go_wp2_with (first | ((with_reducible refine gate_builtin (b := .append) (xs := #[.tmp 38, .tmp 39]) rfl ?_); at_builtin; refine Kd.R_append (Kd.int .u8) (w0 := w) w.heap.size rfl (.tmp 38) (.tmp 39) 22 5 (.int .u8 0) 1 rfl Tryd.underlying22 info5 rfl (by decide) (by omega) (.slice Ao23 x8_2.length co23) x8_2 0 [.int .u8 0] (fun _ => True) (fun _ => False) rfl rfl ?aP (fun _ hk => hk.elim) ?aF ?aO ?aB ?aS ?aL ?_; (case aP => exact rfl); (case aB => exact (by repeat (first | (with_reducible first | exact HB.out | apply below_alloc | apply pw_below_drewN | apply below_drew1) | exact HB.out))); (case aF => exact (fun _ _ => trivial)); (case aO => exact (by (with_reducible repeat (first | apply Kd.R_alloc | apply Kd.R_drewN | apply Kd.R_drew)); exact HO_8.out)); (case aS => exact (below_size (by repeat (first | (with_reducible first | exact HB.out | apply below_alloc | apply pw_below_drewN | apply below_drew1) | exact HB.out)))); (case aL => have := LMc22.out; omega); intro v113 w24 ho hb hg hat; rw [← Ny112.out] at ho; have n0_ := Aside0.mk (hb); have n1_ := Aside0.mk (ho); clear HB; clear HO_8; have HB := n0_; have HO114 := n1_; clear n0_ n1_; clear ho hb hg hat))
                    go_roundg k2
                    case measure => have := HJ2.out; have := HK2.out; omega
                    case rel => exact ⟨(y112), H', ⟨by have := HJ2.out; have := HK2.out; omega⟩, ⟨by (with_reducible repeat (first | apply Kd.R_alloc | apply Kd.R_drewN | apply Kd.R_drew)); exact HO114.out⟩, ⟨by repeat (first | (with_reducible first | exact HB.out | apply below_alloc | apply pw_below_drewN | apply below_drew1) | exact HB.out)⟩⟩
                  · rw [if_neg c22] at H
                    exact absurd H (by simp)

/-! ### imprimaturref02_constants: function 65 -/
def imprimaturref02_constants.f  : Option (List Int) := some (([4794697086780616226, 8158064640168781261, 13096744586834688815, 16840607885511220156, 4131703408338449720, 6480981068601479193, 10538285296894168987, 12329834152419229976, 15566598209576043074, 1334009975649890238, 2608012711638119052, 6128411473006802146, 8268148722764581231, 9286055187155687089, 11230858885718282805, 13951009754708518548, 16472876342353939154, 17275323862435702243, 1135362057144423861, 2597628984639134821, 3308224258029322869, 5365058923640841347, 6679025012923562964, 8573033837759648693, 10970295158949994411, 12119686244451234320, 12683024718118986047, 13788192230050041572, 14330467153632333762, 15395433587784984357, 489312712824947311, 1452737877330783856, 2861767655752347644, 3322285676063803686, 5560940570517711597, 5996557281743188959, 7280758554555802590, 8532644243296465576, 9350256976987008742, 10552545826968843579, 11727347734174303076, 12113106623233404929, 14000437183269869457, 14369950271660146224, 15101387698204529176, 15463397548674623760, 17586052441742319658, 1182934255886127544, 1847814050463011016, 2177327727835720531, 2830643537854262169, 3796741975233480872, 4115178125766777443, 5681478168544905931, 6601373596472566643, 7507060721942968483, 8399075790359081724, 8693463985226723168, 9568029438360202098, 10144078919501101548, 10430055236837252648, 11840083180663258601, 13761210420658862357, 14299343276471374635, 14566680578165727644, 15097957966210449927, 16922976911328602910, 17689382322260857208, 500013540394364858, 748580250866718886, 1242879168328830382, 1977374033974150939, 2944078676154940804, 3659926193048069267, 4368137639120453308, 4836135668995329356, 5532061633213252278, 6448918945643986474, 6902733635092675308, 7801388544844847127] : List Int))
set_option maxHeartbeats 8000000 in
set_option maxRecDepth 100000 in
theorem imprimaturref02_constants.calls  (r : List Int) (w : World) (h : imprimaturref02_constants.f  = some r) :
    Calls Tryd.prog 65 #[] w fun e w' => ∃ v0_ : Value, e = .returned (v0_) ∧ Kd.R (Kd.int .u64) 27 w' w.heap.size (fun _ => True) v0_ r ∧ Below w.heap.size w w' := by
  have HB := Aside0.mk (Below.refl w.heap.size w)
  have H : (some (([4794697086780616226, 8158064640168781261, 13096744586834688815, 16840607885511220156, 4131703408338449720, 6480981068601479193, 10538285296894168987, 12329834152419229976, 15566598209576043074, 1334009975649890238, 2608012711638119052, 6128411473006802146, 8268148722764581231, 9286055187155687089, 11230858885718282805, 13951009754708518548, 16472876342353939154, 17275323862435702243, 1135362057144423861, 2597628984639134821, 3308224258029322869, 5365058923640841347, 6679025012923562964, 8573033837759648693, 10970295158949994411, 12119686244451234320, 12683024718118986047, 13788192230050041572, 14330467153632333762, 15395433587784984357, 489312712824947311, 1452737877330783856, 2861767655752347644, 3322285676063803686, 5560940570517711597, 5996557281743188959, 7280758554555802590, 8532644243296465576, 9350256976987008742, 10552545826968843579, 11727347734174303076, 12113106623233404929, 14000437183269869457, 14369950271660146224, 15101387698204529176, 15463397548674623760, 17586052441742319658, 1182934255886127544, 1847814050463011016, 2177327727835720531, 2830643537854262169, 3796741975233480872, 4115178125766777443, 5681478168544905931, 6601373596472566643, 7507060721942968483, 8399075790359081724, 8693463985226723168, 9568029438360202098, 10144078919501101548, 10430055236837252648, 11840083180663258601, 13761210420658862357, 14299343276471374635, 14566680578165727644, 15097957966210449927, 16922976911328602910, 17689382322260857208, 500013540394364858, 748580250866718886, 1242879168328830382, 1977374033974150939, 2944078676154940804, 3659926193048069267, 4368137639120453308, 4836135668995329356, 5532061633213252278, 6448918945643986474, 6902733635092675308, 7801388544844847127] : List Int))) = some r := h
  clear h
  obtain ⟨y124, hy124⟩ : ∃ y_ : List Int, y_ = (([4794697086780616226, 8158064640168781261, 13096744586834688815, 16840607885511220156, 4131703408338449720, 6480981068601479193, 10538285296894168987, 12329834152419229976, 15566598209576043074, 1334009975649890238, 2608012711638119052, 6128411473006802146, 8268148722764581231, 9286055187155687089, 11230858885718282805, 13951009754708518548, 16472876342353939154, 17275323862435702243, 1135362057144423861, 2597628984639134821, 3308224258029322869, 5365058923640841347, 6679025012923562964, 8573033837759648693, 10970295158949994411, 12119686244451234320, 12683024718118986047, 13788192230050041572, 14330467153632333762, 15395433587784984357, 489312712824947311, 1452737877330783856, 2861767655752347644, 3322285676063803686, 5560940570517711597, 5996557281743188959, 7280758554555802590, 8532644243296465576, 9350256976987008742, 10552545826968843579, 11727347734174303076, 12113106623233404929, 14000437183269869457, 14369950271660146224, 15101387698204529176, 15463397548674623760, 17586052441742319658, 1182934255886127544, 1847814050463011016, 2177327727835720531, 2830643537854262169, 3796741975233480872, 4115178125766777443, 5681478168544905931, 6601373596472566643, 7507060721942968483, 8399075790359081724, 8693463985226723168, 9568029438360202098, 10144078919501101548, 10430055236837252648, 11840083180663258601, 13761210420658862357, 14299343276471374635, 14566680578165727644, 15097957966210449927, 16922976911328602910, 17689382322260857208, 500013540394364858, 748580250866718886, 1242879168328830382, 1977374033974150939, 2944078676154940804, 3659926193048069267, 4368137639120453308, 4836135668995329356, 5532061633213252278, 6448918945643986474, 6902733635092675308, 7801388544844847127] : List Int)) := ⟨_, rfl⟩
  replace H : (some y124) = some r := by first | (rw [hy124]; with_reducible exact H) | (have H2_ := (Option.bind_some _ _).symm.trans H; rw [hy124]; with_reducible exact H2_) | (have H2_ := (Option.bind_some _ _).symm.trans H; with_reducible exact H2_) | with_reducible exact H | (rw [hy124]; exact H) | exact H
  have Ny124 := Aside0.mk hy124
  clear hy124
  obtain rfl := Option.some.inj H
  go_enter Tryd.func65, Tryd.ntmps65
  go_wp2_with (first | ((with_reducible refine gate_dst (N := 1) rfl ?_); refine Kd.R_lit (Kd.int .u64) _ 27 ?hg (N := 1) ?hd (xs := ([4794697086780616226, 8158064640168781261, 13096744586834688815, 16840607885511220156, 4131703408338449720, 6480981068601479193, 10538285296894168987, 12329834152419229976, 15566598209576043074, 1334009975649890238, 2608012711638119052, 6128411473006802146, 8268148722764581231, 9286055187155687089, 11230858885718282805, 13951009754708518548, 16472876342353939154, 17275323862435702243, 1135362057144423861, 2597628984639134821, 3308224258029322869, 5365058923640841347, 6679025012923562964, 8573033837759648693, 10970295158949994411, 12119686244451234320, 12683024718118986047, 13788192230050041572, 14330467153632333762, 15395433587784984357, 489312712824947311, 1452737877330783856, 2861767655752347644, 3322285676063803686, 5560940570517711597, 5996557281743188959, 7280758554555802590, 8532644243296465576, 9350256976987008742, 10552545826968843579, 11727347734174303076, 12113106623233404929, 14000437183269869457, 14369950271660146224, 15101387698204529176, 15463397548674623760, 17586052441742319658, 1182934255886127544, 1847814050463011016, 2177327727835720531, 2830643537854262169, 3796741975233480872, 4115178125766777443, 5681478168544905931, 6601373596472566643, 7507060721942968483, 8399075790359081724, 8693463985226723168, 9568029438360202098, 10144078919501101548, 10430055236837252648, 11840083180663258601, 13761210420658862357, 14299343276471374635, 14566680578165727644, 15097957966210449927, 16922976911328602910, 17689382322260857208, 500013540394364858, 748580250866718886, 1242879168328830382, 1977374033974150939, 2944078676154940804, 3659926193048069267, 4368137639120453308, 4836135668995329356, 5532061633213252278, 6448918945643986474, 6902733635092675308, 7801388544844847127] : List Int)) (inner := [.int .u64 4794697086780616226, .int .u64 8158064640168781261, .int .u64 13096744586834688815, .int .u64 16840607885511220156, .int .u64 4131703408338449720, .int .u64 6480981068601479193, .int .u64 10538285296894168987, .int .u64 12329834152419229976, .int .u64 15566598209576043074, .int .u64 1334009975649890238, .int .u64 2608012711638119052, .int .u64 6128411473006802146, .int .u64 8268148722764581231, .int .u64 9286055187155687089, .int .u64 11230858885718282805, .int .u64 13951009754708518548, .int .u64 16472876342353939154, .int .u64 17275323862435702243, .int .u64 1135362057144423861, .int .u64 2597628984639134821, .int .u64 3308224258029322869, .int .u64 5365058923640841347, .int .u64 6679025012923562964, .int .u64 8573033837759648693, .int .u64 10970295158949994411, .int .u64 12119686244451234320, .int .u64 12683024718118986047, .int .u64 13788192230050041572, .int .u64 14330467153632333762, .int .u64 15395433587784984357, .int .u64 489312712824947311, .int .u64 1452737877330783856, .int .u64 2861767655752347644, .int .u64 3322285676063803686, .int .u64 5560940570517711597, .int .u64 5996557281743188959, .int .u64 7280758554555802590, .int .u64 8532644243296465576, .int .u64 9350256976987008742, .int .u64 10552545826968843579, .int .u64 11727347734174303076, .int .u64 12113106623233404929, .int .u64 14000437183269869457, .int .u64 14369950271660146224, .int .u64 15101387698204529176, .int .u64 15463397548674623760, .int .u64 17586052441742319658, .int .u64 1182934255886127544, .int .u64 1847814050463011016, .int .u64 2177327727835720531, .int .u64 2830643537854262169, .int .u64 3796741975233480872, .int .u64 4115178125766777443, .int .u64 5681478168544905931, .int .u64 6601373596472566643, .int .u64 7507060721942968483, .int .u64 8399075790359081724, .int .u64 8693463985226723168, .int .u64 9568029438360202098, .int .u64 10144078919501101548, .int .u64 10430055236837252648, .int .u64 11840083180663258601, .int .u64 13761210420658862357, .int .u64 14299343276471374635, .int .u64 14566680578165727644, .int .u64 15097957966210449927, .int .u64 16922976911328602910, .int .u64 17689382322260857208, .int .u64 500013540394364858, .int .u64 748580250866718886, .int .u64 1242879168328830382, .int .u64 1977374033974150939, .int .u64 2944078676154940804, .int .u64 3659926193048069267, .int .u64 4368137639120453308, .int .u64 4836135668995329356, .int .u64 5532061633213252278, .int .u64 6448918945643986474, .int .u64 6902733635092675308, .int .u64 7801388544844847127]) (ok := fun _ => True) (okp := fun _ => True) ?hr ?hp (fun _ hk => hk) trivial (Below.refl _ _) (Nat.le_refl _) (by simp) ?_; (case hd => rfl); (case hg => rfl); (case hr => first | (go_simp; done) | (go_simp; rfl)); (case hp => exact (Reps.one (show Kd.M (Kd.int .u64) _ _ _ 4794697086780616226 [.int .u64 4794697086780616226] from rfl) (Reps.one (show Kd.M (Kd.int .u64) _ _ _ 8158064640168781261 [.int .u64 8158064640168781261] from rfl) (Reps.one (show Kd.M (Kd.int .u64) _ _ _ 13096744586834688815 [.int .u64 13096744586834688815] from rfl) (Reps.one (show Kd.M (Kd.int .u64) _ _ _ 16840607885511220156 [.int .u64 16840607885511220156] from rfl) (Reps.one (show Kd.M (Kd.int .u64) _ _ _ 4131703408338449720 [.int .u64 4131703408338449720] from rfl) (Reps.one (show Kd.M (Kd.int .u64) _ _ _ 6480981068601479193 [.int .u64 6480981068601479193] from rfl) (Reps.one (show Kd.M (Kd.int .u64) _ _ _ 10538285296894168987 [.int .u64 10538285296894168987] from rfl) (Reps.one (show Kd.M (Kd.int .u64) _ _ _ 12329834152419229976 [.int .u64 12329834152419229976] from rfl) (Reps.one (show Kd.M (Kd.int .u64) _ _ _ 15566598209576043074 [.int .u64 15566598209576043074] from rfl) (Reps.one (show Kd.M (Kd.int .u64) _ _ _ 1334009975649890238 [.int .u64 1334009975649890238] from rfl) (Reps.one (show Kd.M (Kd.int .u64) _ _ _ 2608012711638119052 [.int .u64 2608012711638119052] from rfl) (Reps.one (show Kd.M (Kd.int .u64) _ _ _ 6128411473006802146 [.int .u64 6128411473006802146] from rfl) (Reps.one (show Kd.M (Kd.int .u64) _ _ _ 8268148722764581231 [.int .u64 8268148722764581231] from rfl) (Reps.one (show Kd.M (Kd.int .u64) _ _ _ 9286055187155687089 [.int .u64 9286055187155687089] from rfl) (Reps.one (show Kd.M (Kd.int .u64) _ _ _ 11230858885718282805 [.int .u64 11230858885718282805] from rfl) (Reps.one (show Kd.M (Kd.int .u64) _ _ _ 13951009754708518548 [.int .u64 13951009754708518548] from rfl) (Reps.one (show Kd.M (Kd.int .u64) _ _ _ 16472876342353939154 [.int .u64 16472876342353939154] from rfl) (Reps.one (show Kd.M (Kd.int .u64) _ _ _ 17275323862435702243 [.int .u64 17275323862435702243] from rfl) (Reps.one (show Kd.M (Kd.int .u64) _ _ _ 1135362057144423861 [.int .u64 1135362057144423861] from rfl) (Reps.one (show Kd.M (Kd.int .u64) _ _ _ 2597628984639134821 [.int .u64 2597628984639134821] from rfl) (Reps.one (show Kd.M (Kd.int .u64) _ _ _ 3308224258029322869 [.int .u64 3308224258029322869] from rfl) (Reps.one (show Kd.M (Kd.int .u64) _ _ _ 5365058923640841347 [.int .u64 5365058923640841347] from rfl) (Reps.one (show Kd.M (Kd.int .u64) _ _ _ 6679025012923562964 [.int .u64 6679025012923562964] from rfl) (Reps.one (show Kd.M (Kd.int .u64) _ _ _ 8573033837759648693 [.int .u64 8573033837759648693] from rfl) (Reps.one (show Kd.M (Kd.int .u64) _ _ _ 10970295158949994411 [.int .u64 10970295158949994411] from rfl) (Reps.one (show Kd.M (Kd.int .u64) _ _ _ 12119686244451234320 [.int .u64 12119686244451234320] from rfl) (Reps.one (show Kd.M (Kd.int .u64) _ _ _ 12683024718118986047 [.int .u64 12683024718118986047] from rfl) (Reps.one (show Kd.M (Kd.int .u64) _ _ _ 13788192230050041572 [.int .u64 13788192230050041572] from rfl) (Reps.one (show Kd.M (Kd.int .u64) _ _ _ 14330467153632333762 [.int .u64 14330467153632333762] from rfl) (Reps.one (show Kd.M (Kd.int .u64) _ _ _ 15395433587784984357 [.int .u64 15395433587784984357] from rfl) (Reps.one (show Kd.M (Kd.int .u64) _ _ _ 489312712824947311 [.int .u64 489312712824947311] from rfl) (Reps.one (show Kd.M (Kd.int .u64) _ _ _ 1452737877330783856 [.int .u64 1452737877330783856] from rfl) (Reps.one (show Kd.M (Kd.int .u64) _ _ _ 2861767655752347644 [.int .u64 2861767655752347644] from rfl) (Reps.one (show Kd.M (Kd.int .u64) _ _ _ 3322285676063803686 [.int .u64 3322285676063803686] from rfl) (Reps.one (show Kd.M (Kd.int .u64) _ _ _ 5560940570517711597 [.int .u64 5560940570517711597] from rfl) (Reps.one (show Kd.M (Kd.int .u64) _ _ _ 5996557281743188959 [.int .u64 5996557281743188959] from rfl) (Reps.one (show Kd.M (Kd.int .u64) _ _ _ 7280758554555802590 [.int .u64 7280758554555802590] from rfl) (Reps.one (show Kd.M (Kd.int .u64) _ _ _ 8532644243296465576 [.int .u64 8532644243296465576] from rfl) (Reps.one (show Kd.M (Kd.int .u64) _ _ _ 9350256976987008742 [.int .u64 9350256976987008742] from rfl) (Reps.one (show Kd.M (Kd.int .u64) _ _ _ 10552545826968843579 [.int .u64 10552545826968843579] from rfl) (Reps.one (show Kd.M (Kd.int .u64) _ _ _ 11727347734174303076 [.int .u64 11727347734174303076] from rfl) (Reps.one (show Kd.M (Kd.int .u64) _ _ _ 12113106623233404929 [.int .u64 12113106623233404929] from rfl) (Reps.one (show Kd.M (Kd.int .u64) _ _ _ 14000437183269869457 [.int .u64 14000437183269869457] from rfl) (Reps.one (show Kd.M (Kd.int .u64) _ _ _ 14369950271660146224 [.int .u64 14369950271660146224] from rfl) (Reps.one (show Kd.M (Kd.int .u64) _ _ _ 15101387698204529176 [.int .u64 15101387698204529176] from rfl) (Reps.one (show Kd.M (Kd.int .u64) _ _ _ 15463397548674623760 [.int .u64 15463397548674623760] from rfl) (Reps.one (show Kd.M (Kd.int .u64) _ _ _ 17586052441742319658 [.int .u64 17586052441742319658] from rfl) (Reps.one (show Kd.M (Kd.int .u64) _ _ _ 1182934255886127544 [.int .u64 1182934255886127544] from rfl) (Reps.one (show Kd.M (Kd.int .u64) _ _ _ 1847814050463011016 [.int .u64 1847814050463011016] from rfl) (Reps.one (show Kd.M (Kd.int .u64) _ _ _ 2177327727835720531 [.int .u64 2177327727835720531] from rfl) (Reps.one (show Kd.M (Kd.int .u64) _ _ _ 2830643537854262169 [.int .u64 2830643537854262169] from rfl) (Reps.one (show Kd.M (Kd.int .u64) _ _ _ 3796741975233480872 [.int .u64 3796741975233480872] from rfl) (Reps.one (show Kd.M (Kd.int .u64) _ _ _ 4115178125766777443 [.int .u64 4115178125766777443] from rfl) (Reps.one (show Kd.M (Kd.int .u64) _ _ _ 5681478168544905931 [.int .u64 5681478168544905931] from rfl) (Reps.one (show Kd.M (Kd.int .u64) _ _ _ 6601373596472566643 [.int .u64 6601373596472566643] from rfl) (Reps.one (show Kd.M (Kd.int .u64) _ _ _ 7507060721942968483 [.int .u64 7507060721942968483] from rfl) (Reps.one (show Kd.M (Kd.int .u64) _ _ _ 8399075790359081724 [.int .u64 8399075790359081724] from rfl) (Reps.one (show Kd.M (Kd.int .u64) _ _ _ 8693463985226723168 [.int .u64 8693463985226723168] from rfl) (Reps.one (show Kd.M (Kd.int .u64) _ _ _ 9568029438360202098 [.int .u64 9568029438360202098] from rfl) (Reps.one (show Kd.M (Kd.int .u64) _ _ _ 10144078919501101548 [.int .u64 10144078919501101548] from rfl) (Reps.one (show Kd.M (Kd.int .u64) _ _ _ 10430055236837252648 [.int .u64 10430055236837252648] from rfl) (Reps.one (show Kd.M (Kd.int .u64) _ _ _ 11840083180663258601 [.int .u64 11840083180663258601] from rfl) (Reps.one (show Kd.M (Kd.int .u64) _ _ _ 13761210420658862357 [.int .u64 13761210420658862357] from rfl) (Reps.one (show Kd.M (Kd.int .u64) _ _ _ 14299343276471374635 [.int .u64 14299343276471374635] from rfl) (Reps.one (show Kd.M (Kd.int .u64) _ _ _ 14566680578165727644 [.int .u64 14566680578165727644] from rfl) (Reps.one (show Kd.M (Kd.int .u64) _ _ _ 15097957966210449927 [.int .u64 15097957966210449927] from rfl) (Reps.one (show Kd.M (Kd.int .u64) _ _ _ 16922976911328602910 [.int .u64 16922976911328602910] from rfl) (Reps.one (show Kd.M (Kd.int .u64) _ _ _ 17689382322260857208 [.int .u64 17689382322260857208] from rfl) (Reps.one (show Kd.M (Kd.int .u64) _ _ _ 500013540394364858 [.int .u64 500013540394364858] from rfl) (Reps.one (show Kd.M (Kd.int .u64) _ _ _ 748580250866718886 [.int .u64 748580250866718886] from rfl) (Reps.one (show Kd.M (Kd.int .u64) _ _ _ 1242879168328830382 [.int .u64 1242879168328830382] from rfl) (Reps.one (show Kd.M (Kd.int .u64) _ _ _ 1977374033974150939 [.int .u64 1977374033974150939] from rfl) (Reps.one (show Kd.M (Kd.int .u64) _ _ _ 2944078676154940804 [.int .u64 2944078676154940804] from rfl) (Reps.one (show Kd.M (Kd.int .u64) _ _ _ 3659926193048069267 [.int .u64 3659926193048069267] from rfl) (Reps.one (show Kd.M (Kd.int .u64) _ _ _ 4368137639120453308 [.int .u64 4368137639120453308] from rfl) (Reps.one (show Kd.M (Kd.int .u64) _ _ _ 4836135668995329356 [.int .u64 4836135668995329356] from rfl) (Reps.one (show Kd.M (Kd.int .u64) _ _ _ 5532061633213252278 [.int .u64 5532061633213252278] from rfl) (Reps.one (show Kd.M (Kd.int .u64) _ _ _ 6448918945643986474 [.int .u64 6448918945643986474] from rfl) (Reps.one (show Kd.M (Kd.int .u64) _ _ _ 6902733635092675308 [.int .u64 6902733635092675308] from rfl) (Reps.one (show Kd.M (Kd.int .u64) _ _ _ 7801388544844847127 [.int .u64 7801388544844847127] from rfl) (Reps.none _ _)))))))))))))))))))))))))))))))))))))))))))))))))))))))))))))))))))))))))))))))))); intro v125 w1 ho2 hb hg_ hnew_; clear hg_ hnew_; (first | rw [← Ny124.out] at ho2 | (simp only [Int.reduceToNat] at ho2; rw [← Ny124.out] at ho2)); have n0_ := Aside0.mk (Kd.R_lower ho2 (below_size (by repeat (first | (with_reducible first | exact HB.out | apply below_alloc | apply pw_below_drewN | apply below_drew1) | exact HB.out)))); have n1_ := Aside0.mk (below_step (by repeat (first | (with_reducible first | exact HB.out | apply below_alloc | apply pw_below_drewN | apply below_drew1) | exact HB.out)) hb); clear HB; have HO126 := n0_; have HB := n1_; clear n0_ n1_; clear hb ho2))
  go_ret
  exact ⟨_, by first | rfl | (simp [errW_none, errW_some] <;> rfl) | (simp [*, errW_none, errW_some] <;> rfl), by (with_reducible repeat (first | apply Kd.R_alloc | apply Kd.R_drewN | apply Kd.R_drew)); exact HO126.out, by repeat (first | (with_reducible first | exact HB.out | apply below_alloc | apply pw_below_drewN | apply below_drew1) | exact HB.out)⟩

/-! ### imprimaturref02_starts: function 66 -/
def imprimaturref02_starts.f  : Option (List Int) := some (([7640891576956012808, 13503953896175478587, 4354685564936845355, 11912009170470909681, 5840696475078001361, 11170449401992604703, 2270897969802886507, 6620516959819538809] : List Int))
set_option maxHeartbeats 8000000 in
set_option maxRecDepth 100000 in
theorem imprimaturref02_starts.calls  (r : List Int) (w : World) (h : imprimaturref02_starts.f  = some r) :
    Calls Tryd.prog 66 #[] w fun e w' => ∃ v0_ : Value, e = .returned (v0_) ∧ Kd.R (Kd.int .u64) 27 w' w.heap.size (fun _ => True) v0_ r ∧ Below w.heap.size w w' := by
  have HB := Aside0.mk (Below.refl w.heap.size w)
  have H : (some (([7640891576956012808, 13503953896175478587, 4354685564936845355, 11912009170470909681, 5840696475078001361, 11170449401992604703, 2270897969802886507, 6620516959819538809] : List Int))) = some r := h
  clear h
  obtain ⟨y127, hy127⟩ : ∃ y_ : List Int, y_ = (([7640891576956012808, 13503953896175478587, 4354685564936845355, 11912009170470909681, 5840696475078001361, 11170449401992604703, 2270897969802886507, 6620516959819538809] : List Int)) := ⟨_, rfl⟩
  replace H : (some y127) = some r := by first | (rw [hy127]; with_reducible exact H) | (have H2_ := (Option.bind_some _ _).symm.trans H; rw [hy127]; with_reducible exact H2_) | (have H2_ := (Option.bind_some _ _).symm.trans H; with_reducible exact H2_) | with_reducible exact H | (rw [hy127]; exact H) | exact H
  have Ny127 := Aside0.mk hy127
  clear hy127
  obtain rfl := Option.some.inj H
  go_enter Tryd.func66, Tryd.ntmps66
  go_wp2_with (first | ((with_reducible refine gate_dst (N := 1) rfl ?_); refine Kd.R_lit (Kd.int .u64) _ 27 ?hg (N := 1) ?hd (xs := ([7640891576956012808, 13503953896175478587, 4354685564936845355, 11912009170470909681, 5840696475078001361, 11170449401992604703, 2270897969802886507, 6620516959819538809] : List Int)) (inner := [.int .u64 7640891576956012808, .int .u64 13503953896175478587, .int .u64 4354685564936845355, .int .u64 11912009170470909681, .int .u64 5840696475078001361, .int .u64 11170449401992604703, .int .u64 2270897969802886507, .int .u64 6620516959819538809]) (ok := fun _ => True) (okp := fun _ => True) ?hr ?hp (fun _ hk => hk) trivial (Below.refl _ _) (Nat.le_refl _) (by simp) ?_; (case hd => rfl); (case hg => rfl); (case hr => first | (go_simp; done) | (go_simp; rfl)); (case hp => exact (Reps.one (show Kd.M (Kd.int .u64) _ _ _ 7640891576956012808 [.int .u64 7640891576956012808] from rfl) (Reps.one (show Kd.M (Kd.int .u64) _ _ _ 13503953896175478587 [.int .u64 13503953896175478587] from rfl) (Reps.one (show Kd.M (Kd.int .u64) _ _ _ 4354685564936845355 [.int .u64 4354685564936845355] from rfl) (Reps.one (show Kd.M (Kd.int .u64) _ _ _ 11912009170470909681 [.int .u64 11912009170470909681] from rfl) (Reps.one (show Kd.M (Kd.int .u64) _ _ _ 5840696475078001361 [.int .u64 5840696475078001361] from rfl) (Reps.one (show Kd.M (Kd.int .u64) _ _ _ 11170449401992604703 [.int .u64 11170449401992604703] from rfl) (Reps.one (show Kd.M (Kd.int .u64) _ _ _ 2270897969802886507 [.int .u64 2270897969802886507] from rfl) (Reps.one (show Kd.M (Kd.int .u64) _ _ _ 6620516959819538809 [.int .u64 6620516959819538809] from rfl) (Reps.none _ _)))))))))); intro v128 w1 ho2 hb hg_ hnew_; clear hg_ hnew_; (first | rw [← Ny127.out] at ho2 | (simp only [Int.reduceToNat] at ho2; rw [← Ny127.out] at ho2)); have n0_ := Aside0.mk (Kd.R_lower ho2 (below_size (by repeat (first | (with_reducible first | exact HB.out | apply below_alloc | apply pw_below_drewN | apply below_drew1) | exact HB.out)))); have n1_ := Aside0.mk (below_step (by repeat (first | (with_reducible first | exact HB.out | apply below_alloc | apply pw_below_drewN | apply below_drew1) | exact HB.out)) hb); clear HB; have HO129 := n0_; have HB := n1_; clear n0_ n1_; clear hb ho2))
  go_ret
  exact ⟨_, by first | rfl | (simp [errW_none, errW_some] <;> rfl) | (simp [*, errW_none, errW_some] <;> rfl), by (with_reducible repeat (first | apply Kd.R_alloc | apply Kd.R_drewN | apply Kd.R_drew)); exact HO129.out, by repeat (first | (with_reducible first | exact HB.out | apply below_alloc | apply pw_below_drewN | apply below_drew1) | exact HB.out)⟩

/-! ### imprimaturref02_Words_cut: function 69 -/
def imprimaturref02_Words_cut.f (a0_0 : Int) (a0_1 : Int) (a1 : Int) : Option (Int) := if a0_0 = 0 then (some a1) else (some (Int.tmod a1 a0_0))
set_option maxHeartbeats 8000000 in
set_option maxRecDepth 100000 in
theorem imprimaturref02_Words_cut.calls (a0_0 : Int) (a0_1 : Int) (a1 : Int) (r : Int) (w : World) (h : imprimaturref02_Words_cut.f a0_0 a0_1 a1 = some r) :
    Calls Tryd.prog 69 #[.agg #[.int .u64 a0_0, .int .u64 a0_1], .int .u64 a1] w fun e w' => e = .returned (.int .u64 r) ∧ Below w.heap.size w w' := by
  have hu103 := Tryd.underlying103
  have HB := Aside0.mk (Below.refl w.heap.size w)
  have H : (if a0_0 = 0 then (some a1) else (some (Int.tmod a1 a0_0))) = some r := h
  clear h
  by_cases c3 : a0_0 = 0
  · rw [if_pos c3] at H
    have c3b0 : (a0_0 == 0) = true := beq_iff_eq.mpr c3
    have c3b1 : (a0_0 != 0) = false := bne_eq_false_iff_eq.mpr c3
    clear c3
    obtain rfl := Option.some.inj H
    go_enter Tryd.func69, Tryd.ntmps69
    go_wp2_with (first | ((with_reducible refine gate_dst (N := 2) rfl ?_); refine box_event ?hg (N := 2) ?hd (cs := #[.int .u64 a0_0, .int .u64 a0_1]) (t := 103) ?hr ?_; (case hd => rfl); (case hg => rfl); (case hr => first | (go_simp; done) | (go_simp; rfl)); intro gb130 hg w4 hbox hb; have n0_ := Aside0.mk (below_step (by repeat (first | (with_reducible first | exact HB.out | apply below_alloc | apply pw_below_drewN | apply below_drew1) | exact HB.out)) hb); have n1_ := Aside0.mk (hbox); have n2_ := Aside0.mk ((by rw [hg]; exact (below_size (by repeat (first | (with_reducible first | exact HB.out | apply below_alloc | apply pw_below_drewN | apply below_drew1) | exact HB.out))) : w.heap.size ≤ gb130)); have n3_ := Aside0.mk ((by rw [hg]; exact (below_size (by repeat (first | (with_reducible first | exact HB.out | apply below_alloc | apply pw_below_drewN | apply below_drew1) | exact HB.out))) : w.heap.size ≤ gb130)); clear HB; have HB := n0_; have BK130 := n1_; have GW130 := n2_; have GE130 := n3_; clear n0_ n1_ n2_ n3_; clear hb hbox hg; have hcz5_0 : w4.cell? ⟨gb130, 0, none⟩ = some (.int .u64 a0_0) := (blk_cell BK130.out 0).trans rfl; have hcz5_1 : w4.cell? ⟨gb130, 1, none⟩ = some (.int .u64 a0_1) := (blk_cell BK130.out 1).trans rfl; have hfz5_0 := blk_frozen BK130.out 0; have hfz5_1 := blk_frozen BK130.out 1))
    go_ret
    exact ⟨by first | rfl | (simp [errW_none, errW_some] <;> rfl) | (simp [*, errW_none, errW_some] <;> rfl), by repeat (first | (with_reducible first | exact HB.out | apply below_alloc | apply pw_below_drewN | apply below_drew1 | refine below_set ?_ GE130.out) | exact HB.out)⟩
  · rw [if_neg c3] at H
    have c3b0 : (a0_0 == 0) = false := beq_eq_false_iff_ne.mpr c3
    have c3b1 : (a0_0 != 0) = true := bne_iff_ne.mpr c3
    obtain rfl := Option.some.inj H
    go_enter Tryd.func69, Tryd.ntmps69
    go_wp2_with (first | ((with_reducible refine gate_dst (N := 2) rfl ?_); refine box_event ?hg (N := 2) ?hd (cs := #[.int .u64 a0_0, .int .u64 a0_1]) (t := 103) ?hr ?_; (case hd => rfl); (case hg => rfl); (case hr => first | (go_simp; done) | (go_simp; rfl)); intro gb130 hg w6 hbox hb; have n0_ := Aside0.mk (below_step (by repeat (first | (with_reducible first | exact HB.out | apply below_alloc | apply pw_below_drewN | apply below_drew1) | exact HB.out)) hb); have n1_ := Aside0.mk (hbox); have n2_ := Aside0.mk ((by rw [hg]; exact (below_size (by repeat (first | (with_reducible first | exact HB.out | apply below_alloc | apply pw_below_drewN | apply below_drew1) | exact HB.out))) : w.heap.size ≤ gb130)); have n3_ := Aside0.mk ((by rw [hg]; exact (below_size (by repeat (first | (with_reducible first | exact HB.out | apply below_alloc | apply pw_below_drewN | apply below_drew1) | exact HB.out))) : w.heap.size ≤ gb130)); clear HB; have HB := n0_; have BK130 := n1_; have GW130 := n2_; have GE130 := n3_; clear n0_ n1_ n2_ n3_; clear hb hbox hg; have hcz7_0 : w6.cell? ⟨gb130, 0, none⟩ = some (.int .u64 a0_0) := (blk_cell BK130.out 0).trans rfl; have hcz7_1 : w6.cell? ⟨gb130, 1, none⟩ = some (.int .u64 a0_1) := (blk_cell BK130.out 1).trans rfl; have hfz7_0 := blk_frozen BK130.out 0; have hfz7_1 := blk_frozen BK130.out 1))
    go_ret
    exact ⟨by first | rfl | (simp [errW_none, errW_some] <;> rfl) | (simp [*, errW_none, errW_some] <;> rfl), by repeat (first | (with_reducible first | exact HB.out | apply below_alloc | apply pw_below_drewN | apply below_drew1 | refine below_set ?_ GE130.out) | exact HB.out)⟩

/-! ### imprimaturref02_Words_turn: function 95 -/
def imprimaturref02_Words_turn.f (a0_0 : Int) (a0_1 : Int) (a1 : Int) (a2 : Int) : Option (Int) := if 0 ≤ a2 then (if 0 ≤ (IntKind.u64.wrap (a0_1 - a2)) then ((imprimaturref02_Words_cut.f a0_0 a0_1 (Go.bits .or .u64 (shr .u64 a1 a2) (shl .u64 a1 (IntKind.u64.wrap (a0_1 - a2))))).bind fun t132 => (some t132)) else (none)) else (none)
set_option maxHeartbeats 8000000 in
set_option maxRecDepth 100000 in
theorem imprimaturref02_Words_turn.calls (a0_0 : Int) (a0_1 : Int) (a1 : Int) (a2 : Int) (r : Int) (w : World) (h : imprimaturref02_Words_turn.f a0_0 a0_1 a1 a2 = some r) :
    Calls Tryd.prog 95 #[.agg #[.int .u64 a0_0, .int .u64 a0_1], .int .u64 a1, .int .u64 a2] w fun e w' => e = .returned (.int .u64 r) ∧ Below w.heap.size w w' := by
  have hu103 := Tryd.underlying103
  have HB := Aside0.mk (Below.refl w.heap.size w)
  have H : (if 0 ≤ a2 then (if 0 ≤ (IntKind.u64.wrap (a0_1 - a2)) then ((imprimaturref02_Words_cut.f a0_0 a0_1 (Go.bits .or .u64 (shr .u64 a1 a2) (shl .u64 a1 (IntKind.u64.wrap (a0_1 - a2))))).bind fun t132 => (some t132)) else (none)) else (none)) = some r := h
  clear h
  by_cases c4 : 0 ≤ a2
  · rw [if_pos c4] at H
    have c4b0 := eq_true c4
    have c4b1 : decide (0 ≤ a2) = true := decide_eq_true c4
    clear c4
    obtain ⟨ji5, hji5⟩ : ∃ j_ : Int, (shr .u64 a1 a2) = j_ := ⟨_, rfl⟩
    replace H : (if 0 ≤ (IntKind.u64.wrap (a0_1 - a2)) then ((imprimaturref02_Words_cut.f a0_0 a0_1 (Go.bits .or .u64 (ji5) (shl .u64 a1 (IntKind.u64.wrap (a0_1 - a2))))).bind fun t132 => (some t132)) else (none)) = some r := by first | (rw [hji5] at H; exact H) | (simp only [hji5] at H ⊢; exact H)
    have hji5_ : (a1 / 2 ^ min a2.toNat 64) = ji5 := hji5
    have hji5z : a2 ≤ 64 → (a1 / 2 ^ a2.toNat) = ji5 := shr_small hji5
    obtain ⟨ji6, hji6⟩ : ∃ j_ : Int, (IntKind.u64.wrap (a0_1 - a2)) = j_ := ⟨_, rfl⟩
    replace H : (if 0 ≤ (ji6) then ((imprimaturref02_Words_cut.f a0_0 a0_1 (Go.bits .or .u64 (ji5) (shl .u64 a1 (ji6)))).bind fun t132 => (some t132)) else (none)) = some r := by first | (rw [hji6] at H; exact H) | (simp only [hji6] at H ⊢; exact H)
    by_cases c7 : 0 ≤ (ji6)
    · rw [if_pos c7] at H
      have c7b0 := eq_true c7
      have c7b1 : decide (0 ≤ (ji6)) = true := decide_eq_true c7
      clear c7
      obtain ⟨ji8, hji8⟩ : ∃ j_ : Int, (shl .u64 a1 (ji6)) = j_ := ⟨_, rfl⟩
      replace H : ((imprimaturref02_Words_cut.f a0_0 a0_1 (Go.bits .or .u64 (ji5) (ji8))).bind fun t132 => (some t132)) = some r := by first | (rw [hji8] at H; exact H) | (simp only [hji8] at H ⊢; exact H)
      have hji8_ : (IntKind.u64.wrap (a1 * 2 ^ min (ji6).toNat 64)) = ji8 := hji8
      have hji8z : (ji6) ≤ 64 → (IntKind.u64.wrap (a1 * 2 ^ (ji6).toNat)) = ji8 := shl_small hji8
      replace H := Option.bind_eq_some_iff.mp H
      obtain ⟨t132, A90, H⟩ := H
      replace H : (some t132) = some r := H
      have A9 := Aside0.mk A90
      clear A90
      obtain rfl := Option.some.inj H
      go_enter Tryd.func95, Tryd.ntmps95
      go_wp2_with (first | ((with_reducible refine gate_dst (N := 3) rfl ?_); refine box_event ?hg (N := 3) ?hd (cs := #[.int .u64 a0_0, .int .u64 a0_1]) (t := 103) ?hr ?_; (case hd => rfl); (case hg => rfl); (case hr => first | (go_simp; done) | (go_simp; rfl)); intro gb131 hg w10 hbox hb; have n0_ := Aside0.mk (below_step (by repeat (first | (with_reducible first | exact HB.out | apply below_alloc | apply pw_below_drewN | apply below_drew1) | exact HB.out)) hb); have n1_ := Aside0.mk (hbox); have n2_ := Aside0.mk ((by rw [hg]; exact (below_size (by repeat (first | (with_reducible first | exact HB.out | apply below_alloc | apply pw_below_drewN | apply below_drew1) | exact HB.out))) : w.heap.size ≤ gb131)); have n3_ := Aside0.mk ((by rw [hg]; exact (below_size (by repeat (first | (with_reducible first | exact HB.out | apply below_alloc | apply pw_below_drewN | apply below_drew1) | exact HB.out))) : w.heap.size ≤ gb131)); clear HB; have HB := n0_; have BK131 := n1_; have GW131 := n2_; have GE131 := n3_; clear n0_ n1_ n2_ n3_; clear hb hbox hg; have hcz11_0 : w10.cell? ⟨gb131, 0, none⟩ = some (.int .u64 a0_0) := (blk_cell BK131.out 0).trans rfl; have hcz11_1 : w10.cell? ⟨gb131, 1, none⟩ = some (.int .u64 a0_1) := (blk_cell BK131.out 1).trans rfl; have hfz11_0 := blk_frozen BK131.out 0; have hfz11_1 := blk_frozen BK131.out 1) | ((with_reducible refine gate_callee (f := 69) rfl ?_); refine goesL_ (some 18) rfl rfl Tryd.func69 (by kernel_rfl) rfl #[.agg #[.int .u64 a0_0, .int .u64 a0_1], .int .u64 (Go.bits .or .u64 (ji5) (ji8))] rfl (by (try simp only [List.map_toArray, List.map_cons, List.map_nil]); first | done | (simp only [hji5, hji8]; rfl) | rfl | (simp only [List.length_drop, List.length_take]; rfl)) ?_; (with_reducible refine (imprimaturref02_Words_cut.calls a0_0 a0_1 (Go.bits .or .u64 (ji5) (ji8)) t132 _ A9.out).mono ?_); rintro e w12 ⟨rfl, hb⟩; refine ⟨_, rfl, ?_⟩; have n0_ := Aside0.mk (blk_below (g := gb131) (o := .cells #[.int .u64 a0_0, .int .u64 a0_1] 103 (0, 0)) (by (with_reducible repeat (first | refine blk_drewN ?_ _ | refine blk_drew ?_ | refine blk_alloc ?_ _)); exact BK131.out) hb); have n1_ := Aside0.mk (below_step (by repeat (first | (with_reducible first | exact HB.out | apply below_alloc | apply pw_below_drewN | apply below_drew1 | refine below_set ?_ GE131.out) | exact HB.out)) hb); clear BK131; clear HB; have BK131 := n0_; have HB := n1_; clear n0_ n1_; (try clear hb); (try clear hb2); (try clear hk); (try clear hi)))
      go_ret
      exact ⟨by first | rfl | (simp [errW_none, errW_some] <;> rfl) | (simp only [← hji5, ← hji6, ← hji8]; first | rfl | (simp [errW_none, errW_some] <;> rfl)) | (simp [*, errW_none, errW_some] <;> rfl), by repeat (first | (with_reducible first | exact HB.out | apply below_alloc | apply pw_below_drewN | apply below_drew1 | refine below_set ?_ GE131.out) | exact HB.out)⟩
    · rw [if_neg c7] at H
      exact absurd H (by simp)
  · rw [if_neg c4] at H
    exact absurd H (by simp)

end Go.Proofs.YtmblnflfklmmkaaDoor.P
/- Functions of the program and of its laws, each with a Lean function and the proof that a call comes to what that function tells, under the conditions that its contract names. (Laid by a program of this session, out of the translation; Lean checks it.) -/
namespace Go.Proofs.YtmblnflfklmmkaaDoor.P
open Go.RowKit Go.Proofs.YtmblnflfklmmkaaDoorW.PrintWords Go.Proofs.YtmblnflfklmmkaaDoorW.PrintLast Go.Proofs.YtmblnflfklmmkaaDoorW.PrintMore
attribute [local go_sem] max2_int min2_int max_two min_two max_three min_three max_four min_four   -- for this text's walks alone
set_option linter.unusedVariables false
set_option linter.unusedSimpArgs false

/-! ### imprimaturref02_Words_small: function 84 -/
def imprimaturref02_Words_small.f (a0_0 : Int) (a0_1 : Int) (a1 : Int) (a2 : Int) (a3 : Int) (a4 : Int) : Option (Int) := (imprimaturref02_Words_turn.f a0_0 a0_1 a1 a2).bind fun t134 => ((imprimaturref02_Words_turn.f a0_0 a0_1 a1 a3).bind fun t135 => (if 0 ≤ a4 then (some (Go.bits .xor .u64 (Go.bits .xor .u64 t134 t135) (shr .u64 a1 a4))) else (none)))
def imprimaturref02_Words_small.T1 : Bool × List (List Nat × List Nat) := (true, [([], []), ([], []), ([], []), ([0, 1, 2], [0, 1, 2]), ([], []), ([], []), ([], []), ([4, 5, 6, 3], [4, 5, 6]), ([3, 7], [3, 7]), ([], []), ([], []), ([9, 10], [9, 10]), ([8, 11], [8, 11]), ([12, 7, 0, 1, 2, 3, 4, 5, 6, 7, 8, 9, 10, 11, 12], [12])])
def imprimaturref02_Words_small.B1 : List Nat := [0, 0, 0, 7, 0, 0, 0, 127, 255, 0, 0, 1536, 4095, 8191]
theorem imprimaturref02_Words_small.tab1 : rtab .any (opsOf Tryd.f84 1) = imprimaturref02_Words_small.T1 := by kernel_rfl
theorem imprimaturref02_Words_small.bits1 : waitsOk imprimaturref02_Words_small.T1.2 imprimaturref02_Words_small.B1 = true := by kernel_rfl
set_option maxHeartbeats 8000000 in
set_option maxRecDepth 100000 in
theorem imprimaturref02_Words_small.calls (a0_0 : Int) (a0_1 : Int) (a1 : Int) (a2 : Int) (a3 : Int) (a4 : Int) (r : Int) (w : World) (h : imprimaturref02_Words_small.f a0_0 a0_1 a1 a2 a3 a4 = some r) :
    Calls Tryd.prog 84 #[.agg #[.int .u64 a0_0, .int .u64 a0_1], .int .u64 a1, .int .u64 a2, .int .u64 a3, .int .u64 a4] w fun e w' => e = .returned (.int .u64 r) ∧ Below w.heap.size w w' := by
  have hu103 := Tryd.underlying103
  have HB := Aside0.mk (Below.refl w.heap.size w)
  have H : ((imprimaturref02_Words_turn.f a0_0 a0_1 a1 a2).bind fun t134 => ((imprimaturref02_Words_turn.f a0_0 a0_1 a1 a3).bind fun t135 => (if 0 ≤ a4 then (some (Go.bits .xor .u64 (Go.bits .xor .u64 t134 t135) (shr .u64 a1 a4))) else (none)))) = some r := h
  clear h
  replace H := Option.bind_eq_some_iff.mp H
  obtain ⟨t134, A60, H⟩ := H
  replace H : ((imprimaturref02_Words_turn.f a0_0 a0_1 a1 a3).bind fun t135 => (if 0 ≤ a4 then (some (Go.bits .xor .u64 (Go.bits .xor .u64 t134 t135) (shr .u64 a1 a4))) else (none))) = some r := H
  have A6 := Aside0.mk A60
  clear A60
  replace H := Option.bind_eq_some_iff.mp H
  obtain ⟨t135, A70, H⟩ := H
  replace H : (if 0 ≤ a4 then (some (Go.bits .xor .u64 (Go.bits .xor .u64 t134 t135) (shr .u64 a1 a4))) else (none)) = some r := H
  have A7 := Aside0.mk A70
  clear A70
  by_cases c8 : 0 ≤ a4
  · rw [if_pos c8] at H
    have c8b0 := eq_true c8
    have c8b1 : decide (0 ≤ a4) = true := decide_eq_true c8
    clear c8
    obtain ⟨ji9, hji9⟩ : ∃ j_ : Int, (shr .u64 a1 a4) = j_ := ⟨_, rfl⟩
    replace H : (some (Go.bits .xor .u64 (Go.bits .xor .u64 t134 t135) (ji9))) = some r := by first | (rw [hji9] at H; exact H) | (simp only [hji9] at H ⊢; exact H)
    (try rw [hji9] at A6)
    (try rw [hji9] at A7)
    have hji9_ : (a1 / 2 ^ min a4.toNat 64) = ji9 := hji9
    have hji9z : a4 ≤ 64 → (a1 / 2 ^ a4.toNat) = ji9 := shr_small hji9
    obtain rfl := Option.some.inj H
    go_enter Tryd.func84, Tryd.ntmps84
    try go_wp2_with (first | ((with_reducible refine gate_dst (N := 5) rfl ?_); refine box_event ?hg (N := 5) ?hd (cs := #[.int .u64 a0_0, .int .u64 a0_1]) (t := 103) ?hr ?_; (case hd => rfl); (case hg => rfl); (case hr => first | (go_simp; done) | (go_simp; rfl)); intro gb133 hg w10 hbox hb; have n0_ := Aside0.mk (below_step (by repeat (first | (with_reducible first | exact HB.out | apply below_alloc | apply pw_below_drewN | apply below_drew1) | exact HB.out)) hb); have n1_ := Aside0.mk (hbox); have n2_ := Aside0.mk ((by rw [hg]; exact (below_size (by repeat (first | (with_reducible first | exact HB.out | apply below_alloc | apply pw_below_drewN | apply below_drew1) | exact HB.out))) : w.heap.size ≤ gb133)); have n3_ := Aside0.mk ((by rw [hg]; exact (below_size (by repeat (first | (with_reducible first | exact HB.out | apply below_alloc | apply pw_below_drewN | apply below_drew1) | exact HB.out))) : w.heap.size ≤ gb133)); clear HB; have HB := n0_; have BK133 := n1_; have GW133 := n2_; have GE133 := n3_; clear n0_ n1_ n2_ n3_; clear hb hbox hg))
    have n0_ := Aside0.mk (blk_drew BK133.out)
    have n1_ := Aside0.mk (below_drew1 HB.out)
    clear BK133
    clear HB
    have BK133 := n0_
    have HB := n1_
    clear n0_ n1_
    refine start_ (n := 14) (S := fun w' => w'.cell? ⟨gb133, 0, none⟩ = some (.int .u64 a0_0) ∧ w'.cell? ⟨gb133, 1, none⟩ = some (.int .u64 a0_1)) (ds := []) (bz 14 0) (by kernel_rfl) rfl rfl ⟨(blk_cell BK133.out 0).trans rfl, (blk_cell BK133.out 1).trans rfl⟩ (fun hHeld => ?_); refine with_tabW imprimaturref02_Words_small.tab1 imprimaturref02_Words_small.bits1 (fun HT_ HW_ => ?_)
    generalize w10.drew = w11 at BK133 HB hHeld ⊢
    refine xpz 1 (some 12) (bz 14 2) (any_of HT_.out (by kernel_rfl)) ?_
    refine xpz 2 (some 13) (bz 14 6) (any_of HT_.out (by kernel_rfl)) ?_
    refine xpz 5 (some 16) (bz 14 38) (any_of HT_.out (by kernel_rfl)) ?_
    refine xpz 6 (some 17) (bz 14 102) (any_of HT_.out (by kernel_rfl)) ?_
    refine xpz 9 (some 20) (bz 14 614) (any_of HT_.out (by kernel_rfl)) ?_
    refine xpz 10 (some 21) (bz 14 1638) (any_of HT_.out (by kernel_rfl)) ?_
    refine xpz 11 (some 22) (bz 14 3686) (any_of HT_.out (by kernel_rfl)) ?_
    refine xtz2 0 (some 11) (bz 14 3687) (take_ofW HT_.out HW_.out (by kernel_rfl)) hHeld ?_
    refine xtz2 4 (some 15) (bz 14 3703) (take_ofW HT_.out HW_.out (by kernel_rfl)) hHeld ?_
    refine one_ (i := 3) (N := some 14) (bz 14 3711) rfl rfl (one_of HT_.out (by kernel_rfl)) (by decide) (fun K hK => ?_)
    refine goes_ Tryd.func95 (by kernel_rfl) rfl #[.agg #[.int .u64 a0_0, .int .u64 a0_1], .int .u64 a1, .int .u64 a2] (by rfl) rfl rfl (by (try simp only [List.map_toArray, List.map_cons, List.map_nil]); first | done | rfl | (simp only [List.length_drop, List.length_take]; rfl)) ?_
    with_reducible refine (imprimaturref02_Words_turn.calls a0_0 a0_1 a1 a2 t134 _ A6.out).mono ?_
    rintro e w12 ⟨rfl, hb⟩
    refine ⟨_, rfl, ?_⟩
    have n0_ := Aside0.mk (blk_below (g := gb133) (o := .cells #[.int .u64 a0_0, .int .u64 a0_1] 103 (0, 0)) (by (with_reducible repeat (first | refine blk_drewN ?_ _ | refine blk_drew ?_ | refine blk_alloc ?_ _)); exact BK133.out) hb)
    have n1_ := Aside0.mk (below_step (by repeat (first | (with_reducible first | exact HB.out | apply below_alloc | apply pw_below_drewN | apply below_drew1 | refine below_set ?_ GE133.out) | exact HB.out)) hb)
    clear BK133
    clear HB
    have BK133 := n0_
    have HB := n1_
    clear n0_ n1_
    (try clear hb)
    (try clear hb2)
    (try clear hk)
    (try clear hi)
    refine hK.out _ _ ⟨(blk_cell BK133.out 0).trans rfl, (blk_cell BK133.out 1).trans rfl⟩ (fun hHeld => ?_)
    clear hK K
    refine norm_ (a' := ?_) ?_ ?_
    rotate_left
    · show Act.put _ (some 14) _ = _
      simp only [Act.put, List.setIfInBounds_toArray, List.set_cons_zero, List.set_cons_succ, i64_w, i32_w]
      rfl
    refine one_ (i := 7) (N := some 18) (bz 14 3839) rfl rfl (one_of HT_.out (by kernel_rfl)) (by decide) (fun K hK => ?_)
    refine goes_ Tryd.func95 (by kernel_rfl) rfl #[.agg #[.int .u64 a0_0, .int .u64 a0_1], .int .u64 a1, .int .u64 a3] (by rfl) rfl rfl (by (try simp only [List.map_toArray, List.map_cons, List.map_nil]); first | done | rfl | (simp only [List.length_drop, List.length_take]; rfl)) ?_
    with_reducible refine (imprimaturref02_Words_turn.calls a0_0 a0_1 a1 a3 t135 _ A7.out).mono ?_
    rintro e w13 ⟨rfl, hb⟩
    refine ⟨_, rfl, ?_⟩
    have n0_ := Aside0.mk (blk_below (g := gb133) (o := .cells #[.int .u64 a0_0, .int .u64 a0_1] 103 (0, 0)) (by (with_reducible repeat (first | refine blk_drewN ?_ _ | refine blk_drew ?_ | refine blk_alloc ?_ _)); exact BK133.out) hb)
    have n1_ := Aside0.mk (below_step (by repeat (first | (with_reducible first | exact HB.out | apply below_alloc | apply pw_below_drewN | apply below_drew1 | refine below_set ?_ GE133.out) | exact HB.out)) hb)
    clear BK133
    clear HB
    have BK133 := n0_
    have HB := n1_
    clear n0_ n1_
    (try clear hb)
    (try clear hb2)
    (try clear hk)
    (try clear hi)
    refine hK.out _ _ ⟨(blk_cell BK133.out 0).trans rfl, (blk_cell BK133.out 1).trans rfl⟩ (fun hHeld => ?_)
    clear hK K
    refine norm_ (a' := ?_) ?_ ?_
    rotate_left
    · show Act.put _ (some 18) _ = _
      simp only [Act.put, List.setIfInBounds_toArray, List.set_cons_zero, List.set_cons_succ, i64_w, i32_w]
      rfl
    refine xpz 8 (some 19) (bz 14 4095) (any_of HT_.out (by kernel_rfl)) ?_
    refine xpz 12 (some 23) (bz 14 8191) (any_of HT_.out (by kernel_rfl)) ?_
    refine xpz 13 (some 10) (bz 14 16383) (any_of HT_.out (by kernel_rfl)) ?_
    refine done_ (done_of HT_.out (by kernel_rfl)) ?_
    try go_wp2
    go_ret
    exact ⟨by first | rfl | (simp [errW_none, errW_some] <;> rfl) | (simp only [← hji9]; first | rfl | (simp [errW_none, errW_some] <;> rfl)) | (simp [*, errW_none, errW_some] <;> rfl), by repeat (first | (with_reducible first | exact HB.out | apply below_alloc | apply pw_below_drewN | apply below_drew1 | refine below_set ?_ GE133.out) | exact HB.out)⟩
  · rw [if_neg c8] at H
    exact absurd H (by simp)

end Go.Proofs.YtmblnflfklmmkaaDoor.P
