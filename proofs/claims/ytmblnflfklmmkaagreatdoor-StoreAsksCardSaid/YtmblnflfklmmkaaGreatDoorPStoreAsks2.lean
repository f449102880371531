/- StoreAsks: the texts ShA ShB Glo DkG DkH DkI DkJ DkK DkL DkM DkN DkO ReA ReB ReD ReE ReF ReG ReH ReI ReJ ReK LwA LwB LwC LwD LwE LwF LwG L8A WTab WFour WFootNe WAt WEqStruct WRepsOne WInv WInvWords WGuard Px0. -/
import Derived.Test.YtmblnflfklmmkaaGreatDoorPStoreAsks1
import Derived.Test.YtmblnflfklmmkaaGreatDoorRows
import Derived.ProofKit
import Derived.LaidMore
import Derived.OpenShut
import Derived.LaidHandle
import Derived.Stop.Joined
import Derived.Laws.CopyRow
import Derived.Great.BuildSlice
import Derived.Laws.StructEq
import Derived.Test.YtmblnflfklmmkaaGreatDoorProg
import Derived.Below
import Derived.Deep.Draws
import Derived.Deep.AppendLies
import Derived.Maps.AppendAt
import Derived.OwnWalk
import Derived.Laws.BytesArg
import Derived.Laws.MakeOwn
import Derived.Laws.OwnMore
import Derived.Deep.OwnRows
import Derived.Tactics
import Derived.Lib.ConvBytes
import Derived.Laws.Slices
import Derived.WalkKit
import Derived.KernelRfl
import Derived.RowKit3
import Derived.Deep.LoopGhost
import Derived.Deep.QuietTactic
import Derived.BigQuiet
import Derived.WideLaws
import Derived.Deep.DeepCutAuto
import Derived.Deep.CutBlock
import Derived.Deep.RegionHeld3
import Derived.Laws.Rows
import Derived.Lib.AppendStr
import Derived.ArgAppend
import Derived.Laws.IdiomCopy
import Derived.OrdersHeld
import Derived.Laws.BitsLemmas
import Derived.RowKit
import Derived.WalkSpells
import Derived.BigRegion
import Derived.Lib.Hide
import Derived.OneCell
import Derived.RegionTactic
import Derived.ChangeAlike
import Derived.Lib.SlBytesConst
/- Contracts of package sha2: narrow, wide, of, block, turn, small, big. -/
namespace Go.Proofs.YtmblnflfklmmkaaGreatDoor.Sh
open Go.Proofs.YtmblnflfklmmkaaGreatDoor.Dk
open Go.RowKit Go.Proofs.YtmblnflfklmmkaaGreatDoorW.PrintWords Go.Proofs.YtmblnflfklmmkaaGreatDoorW.PrintLast Go.Proofs.YtmblnflfklmmkaaGreatDoorW.PrintMore
set_option linter.unusedVariables false
set_option linter.unusedSimpArgs false
set_option maxRecDepth 30000
/-- The shapes' cells. -/
def narrowA : Array Value := #[.int .i64 4, .int .i64 32, .int .i64 64, .int .i64 7, .int .i64 18, .int .i64 3, .int .i64 17, .int .i64 19, .int .i64 10, .int .i64 2, .int .i64 13, .int .i64 22, .int .i64 6, .int .i64 11, .int .i64 25]
def narrowV : Value := .agg narrowA
def wideA : Array Value := #[.int .i64 8, .int .i64 64, .int .i64 80, .int .i64 1, .int .i64 8, .int .i64 7, .int .i64 19, .int .i64 61, .int .i64 6, .int .i64 28, .int .i64 34, .int .i64 39, .int .i64 14, .int .i64 18, .int .i64 41]
def wideV : Value := .agg wideA
theorem narrowA_one : narrowA.all (·.oneCell') = true := by kernel_rfl
theorem info120 : (Tryz.prog.info? 113).map (·.size) = some narrowA.size := by kernel_rfl
def zeros15 : Array Value := (List.replicate 15 (.int .i64 0)).toArray
theorem run_alloc120 (w : World) : (Instr.alloc 113 true (.tuple #[])).run Tryz.prog w = .ok (.pointer (some ⟨w.heap.size, 0, none⟩)) (w.alloc (.cells zeros15 113)) := by kernel_rfl
theorem narrow_calls (w : World) : Calls Tryz.prog 90 #[] w fun e w' => e = .returned narrowV ∧ Below w.heap.size w w' := by
  have hb := Below.refl w.heap.size w
  go_enter Tryz.func90, Tryz.ntmps90
  go_wp2
  refine bodyPost_ret (results_cell_row rfl _ _ _ _ _ _ _ rfl (heap_alloc_new _ _) Tryz.underlying113 rfl (by kernel_rfl)) rfl ?_
  exact ⟨rfl, below_alloc hb _⟩
theorem wide_calls (w : World) : Calls Tryz.prog 91 #[] w fun e w' => e = .returned wideV ∧ Below w.heap.size w w' := by
  have hb := Below.refl w.heap.size w
  go_enter Tryz.func91, Tryz.ntmps91
  go_wp2
  refine bodyPost_ret (results_cell_row rfl _ _ _ _ _ _ _ rfl (heap_alloc_new _ _) Tryz.underlying113 rfl (by kernel_rfl)) rfl ?_
  exact ⟨rfl, below_alloc hb _⟩
theorem block_calls (w : World) : Calls Tryz.prog 94 #[narrowV] w fun e w' => e = .returned (.int .i64 64) ∧ Below w.heap.size w w' := by
  have hb := Below.refl w.heap.size w
  unfold narrowV narrowA
  go_enter Tryz.func94, Tryz.ntmps94
  go_wp2
  go_ret
  exact ⟨rfl, below_alloc hb _⟩
theorem zeros15_size : zeros15.size = 15 := by simp [zeros15]
attribute [irreducible] zeros15
theorem of_calls (w : World) : Calls Tryz.prog 77 #[.int .i64 256] w fun e w' => e = .returned (.tuple #[narrowV, .bool true]) ∧ Below w.heap.size w w' := by
  have hb := Below.refl w.heap.size w
  go_enter Tryz.func77, Tryz.ntmps77
  go_wp2_with (first | (refine wpList_alloc rfl rfl _ rfl zeros15 (run_alloc120 _) ?_) | (go_at_call 90; (with_reducible refine (narrow_calls _).mono ?_); rintro e w1 ⟨rfl, hb1⟩; have HK := Aside0.mk ((hb1.block w.heap.size (blk_lt (heap_alloc_new w (.cells zeros15 113)))).trans (heap_alloc_new w (.cells zeros15 113))); have HB1 := Aside0.mk (Below.trans (below_alloc hb (.cells zeros15 113)) (hb1.mono (Nat.le_of_lt (blk_lt (heap_alloc_new w (.cells zeros15 113)))))); unfold narrowV; clear hb1; have HST := Aside0.mk (run_store_block (P := Tryz.prog) w.heap.size 113 zeros15 narrowA 113 HK.out info120 (by simp [zeros15_size, narrowA]) narrowA_one)) | (refine store_at (ty := 113) (.tmp 2) (.tmp 7) rfl rfl rfl HST.out rfl rfl ?_))
  refine bodyPost_ret (results_ct rfl _ _ _ _ _ _ _ rfl (setRow_heap _ _ _ narrowA _ _ HK.out) Tryz.underlying113 rfl (by kernel_rfl)) rfl ?_
  exact ⟨rfl, below_setR HB1.out _⟩
def turnM (x b : Int) : Int := Go.bits .or .u32 (shr .u32 x b) (shl .u32 x (32 - b))
set_option maxHeartbeats 8000000 in
theorem turn_calls (x b : Int) (h0 : 0 ≤ b) (h1 : b ≤ 32) (w : World) : Calls Tryz.prog 105 #[.int .u32 x, .int .i64 b, .int .i64 32] w fun e w' => e = .returned (.int .u32 (turnM x b)) ∧ Drawn0 w w' := by
  have hw : wrap64 (32 - b) = 32 - b := by unfold wrap64; omega
  obtain ⟨c, hc⟩ : ∃ c, c = 32 - b := ⟨_, rfl⟩
  have hc0 : 0 ≤ c := by omega
  have hc1 : c ≤ 32 := by omega
  obtain ⟨j1, hj1⟩ : ∃ j, shr .u32 x b = j := ⟨_, rfl⟩
  obtain ⟨j2, hj2⟩ : ∃ j, shl .u32 x c = j := ⟨_, rfl⟩
  have HT := Lib.hid (show turnM x b = Go.bits .or .u32 j1 j2 by rw [turnM, ← hj1, ← hj2, hc])
  have h1z : (x / 2 ^ min b.toNat 32) = j1 := hj1
  have h1y : (x / 2 ^ b.toNat) = j1 := shr_small hj1 h1
  have h2z : (IntKind.u32.wrap (x * 2 ^ min c.toNat 32)) = j2 := hj2
  have h2y : (IntKind.u32.wrap (x * 2 ^ c.toNat)) = j2 := shl_small hj2 hc1
  have hw2 : (IntKind.i64.wrap (32 - b)) = c := (i64_w _).trans (hw.trans hc.symm)
  have hw3 : wrap64 (32 - b) = c := hw.trans hc.symm
  clear hj1 hj2 hc hw
  go_enter Tryz.func105, Tryz.ntmps105
  go_wp2
  repeat (go_quiet (fail); try go_wp2)
  go_ret
  exact ⟨by rw [HT.out] <;> rfl, by repeat (first | exact Drawn0.refl _ | apply Drawn0.step)⟩

theorem cellB3 {w : World} {b t : Nat} {cs : Array Value} {m : Nat × Nat} (h : w.heap[b]? = some (.cells cs t m)) (j : Nat) (v : Value) (hj : cs[j]? = some v) : w.cell? ⟨b, j, none⟩ = some v := by simp [World.cell?, h, hj]
def bigM (x b0 b1 b2 : Int) : Int := Go.bits .xor .u32 (Go.bits .xor .u32 (turnM x b0) (turnM x b1)) (turnM x b2)
def smallM (x b0 b1 b2 : Int) : Int := Go.bits .xor .u32 (Go.bits .xor .u32 (turnM x b0) (turnM x b1)) (shr .u32 x b2)
set_option maxHeartbeats 8000000 in
theorem big_calls (x b0 b1 b2 : Int) (h0a : 0 ≤ b0) (h0b : b0 ≤ 32) (h1a : 0 ≤ b1) (h1b : b1 ≤ 32) (h2a : 0 ≤ b2) (h2b : b2 ≤ 32) (w : World) : Calls Tryz.prog 100 #[.int .u32 x, .agg #[.int .i64 b0, .int .i64 b1, .int .i64 b2], .int .i64 32] w fun e w' => e = .returned (.int .u32 (bigM x b0 b1 b2)) ∧ Below w.heap.size w w' := by
  have HK := Aside0.mk (show (w.alloc (.cells #[.int .i64 b0, .int .i64 b1, .int .i64 b2] 111)).drew.heap[w.heap.size]? = some (.cells #[.int .i64 b0, .int .i64 b1, .int .i64 b2] 111 (0, 0)) from heap_alloc_new w _)
  have HB := Aside0.mk (show Below w.heap.size w (w.alloc (.cells #[.int .i64 b0, .int .i64 b1, .int .i64 b2] 111)).drew from below_drew (below_alloc (Below.refl w.heap.size w) _))
  go_enter Tryz.func100, Tryz.ntmps100
  go_wp2
  refine start_ (n := 18) (S := fun w' => w'.cell? ⟨w.heap.size, 0, none⟩ = some (.int .i64 b0) ∧ w'.cell? ⟨w.heap.size, 1, none⟩ = some (.int .i64 b1) ∧ w'.cell? ⟨w.heap.size, 2, none⟩ = some (.int .i64 b2)) (ds := []) (bz 18 0) (by kernel_rfl) rfl rfl ⟨(cellB3 HK.out 0 _ rfl), (cellB3 HK.out 1 _ rfl), (cellB3 HK.out 2 _ rfl)⟩ (fun hHeld => ?_)
  refine pz 0 (some 7) (bz 18 1) ?_
  refine pz 1 (some 8) (bz 18 3) ?_
  refine pz 3 (some 10) (bz 18 11) ?_
  refine pz 5 (some 12) (bz 18 43) ?_
  refine pz 6 (some 13) (bz 18 107) ?_
  refine pz 8 (some 15) (bz 18 363) ?_
  refine pz 11 (some 18) (bz 18 2411) ?_
  refine pz 12 (some 19) (bz 18 6507) ?_
  refine pz 14 (some 21) (bz 18 22891) ?_
  refine tz3 2 (some 9) (bz 18 22895) hHeld ?_
  refine tz3 7 (some 14) (bz 18 23023) hHeld ?_
  refine tz3 13 (some 20) (bz 18 31215) hHeld ?_
  refine one_ (i := 4) (N := some 11) (bz 18 31231) rfl rfl (by kernel_rfl) (by decide) (fun K hK => ?_)
  refine goes_ Tryz.func105 (by kernel_rfl) rfl #[.int .u32 x, .int .i64 b0, .int .i64 32] (by rfl) rfl rfl (by simp only [List.map_toArray, List.map_cons, List.map_nil]; rfl) ?_
  with_reducible refine (turn_calls x b0 h0a h0b _).mono ?_
  rintro e w1 ⟨rfl, hd⟩
  refine ⟨_, rfl, ?_⟩
  have HK1 := Aside0.mk ((hd.below.block w.heap.size (blk_lt HK.out)).trans HK.out)
  have HB1 := Aside0.mk (Below.trans HB.out (hd.below.mono HB.out.size))
  clear hd
  refine hK.out _ _ ⟨(cellB3 HK1.out 0 _ rfl), (cellB3 HK1.out 1 _ rfl), (cellB3 HK1.out 2 _ rfl)⟩ (fun hHeld => ?_)
  clear hK K
  refine norm_ (a' := ?_) ?_ ?_
  rotate_left
  · show Act.put _ (some 11) _ = _
    simp only [Act.put, List.setIfInBounds_toArray, List.set_cons_zero, List.set_cons_succ, i64_w, i32_w]
    rfl
  refine one_ (i := 9) (N := some 16) (bz 18 31743) rfl rfl (by kernel_rfl) (by decide) (fun K hK => ?_)
  refine goes_ Tryz.func105 (by kernel_rfl) rfl #[.int .u32 x, .int .i64 b1, .int .i64 32] (by rfl) rfl rfl (by simp only [List.map_toArray, List.map_cons, List.map_nil]; rfl) ?_
  with_reducible refine (turn_calls x b1 h1a h1b _).mono ?_
  rintro e w2 ⟨rfl, hd⟩
  refine ⟨_, rfl, ?_⟩
  have HK2 := Aside0.mk ((hd.below.block w.heap.size (blk_lt HK1.out)).trans HK1.out)
  have HB2 := Aside0.mk (Below.trans HB1.out (hd.below.mono HB1.out.size))
  clear hd
  refine hK.out _ _ ⟨(cellB3 HK2.out 0 _ rfl), (cellB3 HK2.out 1 _ rfl), (cellB3 HK2.out 2 _ rfl)⟩ (fun hHeld => ?_)
  clear hK K
  refine norm_ (a' := ?_) ?_ ?_
  rotate_left
  · show Act.put _ (some 16) _ = _
    simp only [Act.put, List.setIfInBounds_toArray, List.set_cons_zero, List.set_cons_succ, i64_w, i32_w]
    rfl
  refine pz 10 (some 17) (bz 18 32767) ?_
  refine one_ (i := 15) (N := some 22) (bz 18 65535) rfl rfl (by kernel_rfl) (by decide) (fun K hK => ?_)
  refine goes_ Tryz.func105 (by kernel_rfl) rfl #[.int .u32 x, .int .i64 b2, .int .i64 32] (by rfl) rfl rfl (by simp only [List.map_toArray, List.map_cons, List.map_nil]; rfl) ?_
  with_reducible refine (turn_calls x b2 h2a h2b _).mono ?_
  rintro e w3 ⟨rfl, hd⟩
  refine ⟨_, rfl, ?_⟩
  have HK3 := Aside0.mk ((hd.below.block w.heap.size (blk_lt HK2.out)).trans HK2.out)
  have HB3 := Aside0.mk (Below.trans HB2.out (hd.below.mono HB2.out.size))
  clear hd
  refine hK.out _ _ ⟨(cellB3 HK3.out 0 _ rfl), (cellB3 HK3.out 1 _ rfl), (cellB3 HK3.out 2 _ rfl)⟩ (fun hHeld => ?_)
  clear hK K
  refine norm_ (a' := ?_) ?_ ?_
  rotate_left
  · show Act.put _ (some 22) _ = _
    simp only [Act.put, List.setIfInBounds_toArray, List.set_cons_zero, List.set_cons_succ, i64_w, i32_w]
    rfl
  refine pz 16 (some 23) (bz 18 131071) ?_
  refine pz 17 (some 6) (bz 18 262143) ?_
  refine done_ (by kernel_rfl) ?_
  clear hHeld
  go_wp2
  go_ret
  exact ⟨by first | rfl | (unfold bigM; rw [HJ.out] <;> rfl), HB3.out⟩
set_option maxHeartbeats 8000000 in
theorem small_calls (x b0 b1 b2 : Int) (h0a : 0 ≤ b0) (h0b : b0 ≤ 32) (h1a : 0 ≤ b1) (h1b : b1 ≤ 32) (h2a : 0 ≤ b2) (h2b : b2 ≤ 32) (w : World) : Calls Tryz.prog 104 #[.int .u32 x, .agg #[.int .i64 b0, .int .i64 b1, .int .i64 b2], .int .i64 32] w fun e w' => e = .returned (.int .u32 (smallM x b0 b1 b2)) ∧ Below w.heap.size w w' := by
  have HK := Aside0.mk (show (w.alloc (.cells #[.int .i64 b0, .int .i64 b1, .int .i64 b2] 111)).drew.heap[w.heap.size]? = some (.cells #[.int .i64 b0, .int .i64 b1, .int .i64 b2] 111 (0, 0)) from heap_alloc_new w _)
  have HB := Aside0.mk (show Below w.heap.size w (w.alloc (.cells #[.int .i64 b0, .int .i64 b1, .int .i64 b2] 111)).drew from below_drew (below_alloc (Below.refl w.heap.size w) _))
  obtain ⟨j3, hj3⟩ : ∃ j, shr .u32 x b2 = j := ⟨_, rfl⟩
  have h3z : (x / 2 ^ min b2.toNat 32) = j3 := hj3
  have h3y : (x / 2 ^ b2.toNat) = j3 := shr_small hj3 h2b
  have HJ := Lib.hid hj3
  clear hj3
  go_enter Tryz.func104, Tryz.ntmps104
  go_wp2
  refine start_ (n := 17) (S := fun w' => w'.cell? ⟨w.heap.size, 0, none⟩ = some (.int .i64 b0) ∧ w'.cell? ⟨w.heap.size, 1, none⟩ = some (.int .i64 b1) ∧ w'.cell? ⟨w.heap.size, 2, none⟩ = some (.int .i64 b2)) (ds := []) (bz 17 0) (by kernel_rfl) rfl rfl ⟨(cellB3 HK.out 0 _ rfl), (cellB3 HK.out 1 _ rfl), (cellB3 HK.out 2 _ rfl)⟩ (fun hHeld => ?_)
  refine pz 0 (some 7) (bz 17 1) ?_
  refine pz 1 (some 8) (bz 17 3) ?_
  refine pz 3 (some 10) (bz 17 11) ?_
  refine pz 5 (some 12) (bz 17 43) ?_
  refine pz 6 (some 13) (bz 17 107) ?_
  refine pz 8 (some 15) (bz 17 363) ?_
  refine pz 11 (some 18) (bz 17 2411) ?_
  refine pz 12 (some 19) (bz 17 6507) ?_
  refine tz3 2 (some 9) (bz 17 6511) hHeld ?_
  refine tz3 7 (some 14) (bz 17 6639) hHeld ?_
  refine tz3 13 (some 20) (bz 17 14831) hHeld ?_
  refine pz 14 (some 21) (bz 17 31215) ?_
  refine one_ (i := 4) (N := some 11) (bz 17 31231) rfl rfl (by kernel_rfl) (by decide) (fun K hK => ?_)
  refine goes_ Tryz.func105 (by kernel_rfl) rfl #[.int .u32 x, .int .i64 b0, .int .i64 32] (by rfl) rfl rfl (by simp only [List.map_toArray, List.map_cons, List.map_nil]; rfl) ?_
  with_reducible refine (turn_calls x b0 h0a h0b _).mono ?_
  rintro e w1 ⟨rfl, hd⟩
  refine ⟨_, rfl, ?_⟩
  have HK1 := Aside0.mk ((hd.below.block w.heap.size (blk_lt HK.out)).trans HK.out)
  have HB1 := Aside0.mk (Below.trans HB.out (hd.below.mono HB.out.size))
  clear hd
  refine hK.out _ _ ⟨(cellB3 HK1.out 0 _ rfl), (cellB3 HK1.out 1 _ rfl), (cellB3 HK1.out 2 _ rfl)⟩ (fun hHeld => ?_)
  clear hK K
  refine norm_ (a' := ?_) ?_ ?_
  rotate_left
  · show Act.put _ (some 11) _ = _
    simp only [Act.put, List.setIfInBounds_toArray, List.set_cons_zero, List.set_cons_succ, i64_w, i32_w]
    rfl
  refine one_ (i := 9) (N := some 16) (bz 17 31743) rfl rfl (by kernel_rfl) (by decide) (fun K hK => ?_)
  refine goes_ Tryz.func105 (by kernel_rfl) rfl #[.int .u32 x, .int .i64 b1, .int .i64 32] (by rfl) rfl rfl (by simp only [List.map_toArray, List.map_cons, List.map_nil]; rfl) ?_
  with_reducible refine (turn_calls x b1 h1a h1b _).mono ?_
  rintro e w2 ⟨rfl, hd⟩
  refine ⟨_, rfl, ?_⟩
  have HK2 := Aside0.mk ((hd.below.block w.heap.size (blk_lt HK1.out)).trans HK1.out)
  have HB2 := Aside0.mk (Below.trans HB1.out (hd.below.mono HB1.out.size))
  clear hd
  refine hK.out _ _ ⟨(cellB3 HK2.out 0 _ rfl), (cellB3 HK2.out 1 _ rfl), (cellB3 HK2.out 2 _ rfl)⟩ (fun hHeld => ?_)
  clear hK K
  refine norm_ (a' := ?_) ?_ ?_
  rotate_left
  · show Act.put _ (some 16) _ = _
    simp only [Act.put, List.setIfInBounds_toArray, List.set_cons_zero, List.set_cons_succ, i64_w, i32_w]
    rfl
  refine pz 10 (some 17) (bz 17 32767) ?_
  refine pz 15 (some 22) (bz 17 65535) ?_
  refine pz 16 (some 6) (bz 17 131071) ?_
  refine done_ (by kernel_rfl) ?_
  clear hHeld
  go_wp2
  go_ret
  exact ⟨by first | rfl | (unfold smallM; rw [HJ.out] <;> rfl), HB2.out⟩
end Go.Proofs.YtmblnflfklmmkaaGreatDoor.Sh
/- Contracts of package sha2: the tables, begin. -/
namespace Go.Proofs.YtmblnflfklmmkaaGreatDoor.Sh
open Go.Proofs.YtmblnflfklmmkaaGreatDoor.Dk
open Go.RowKit Go.Proofs.YtmblnflfklmmkaaGreatDoorW.PrintWords Go.Proofs.YtmblnflfklmmkaaGreatDoorW.PrintLast Go.Proofs.YtmblnflfklmmkaaGreatDoorW.PrintMore
set_option linter.unusedVariables false
set_option linter.unusedSimpArgs false
set_option maxRecDepth 30000
def startsL : List Int := [7640891576956012808, 13503953896175478587, 4354685564936845355, 11912009170470909681, 5840696475078001361, 11170449401992604703, 2270897969802886507, 6620516959819538809]
def constsL : List Int := [4794697086780616226, 8158064640168781261, 13096744586834688815, 16840607885511220156, 4131703408338449720, 6480981068601479193, 10538285296894168987, 12329834152419229976, 15566598209576043074, 1334009975649890238, 2608012711638119052, 6128411473006802146, 8268148722764581231, 9286055187155687089, 11230858885718282805, 13951009754708518548, 16472876342353939154, 17275323862435702243, 1135362057144423861, 2597628984639134821, 3308224258029322869, 5365058923640841347, 6679025012923562964, 8573033837759648693, 10970295158949994411, 12119686244451234320, 12683024718118986047, 13788192230050041572, 14330467153632333762, 15395433587784984357, 489312712824947311, 1452737877330783856, 2861767655752347644, 3322285676063803686, 5560940570517711597, 5996557281743188959, 7280758554555802590, 8532644243296465576, 9350256976987008742, 10552545826968843579, 11727347734174303076, 12113106623233404929, 14000437183269869457, 14369950271660146224, 15101387698204529176, 15463397548674623760, 17586052441742319658, 1182934255886127544, 1847814050463011016, 2177327727835720531, 2830643537854262169, 3796741975233480872, 4115178125766777443, 5681478168544905931, 6601373596472566643, 7507060721942968483, 8399075790359081724, 8693463985226723168, 9568029438360202098, 10144078919501101548, 10430055236837252648, 11840083180663258601, 13761210420658862357, 14299343276471374635, 14566680578165727644, 15097957966210449927, 16922976911328602910, 17689382322260857208, 500013540394364858, 748580250866718886, 1242879168328830382, 1977374033974150939, 2944078676154940804, 3659926193048069267, 4368137639120453308, 4836135668995329356, 5532061633213252278, 6448918945643986474, 6902733635092675308, 7801388544844847127]
/-- The two tables, as the program's text lays them. -/
structure Glob (w : World) : Prop where
  s : ∀ i, i < 8 → w.cell? ⟨0, i, none⟩ = some (.int .u64 (startsL.getD i 0))
  c : ∀ i, i < 80 → w.cell? ⟨1, i, none⟩ = some (.int .u64 (constsL.getD i 0))
  lt : 0 < w.heap.size ∧ 1 < w.heap.size
variable {w w1 w2 wr : World}
theorem cell_block {w w1 : World} {k : Nat} (h : w1.heap[k]? = w.heap[k]?) (j : Nat) : w1.cell? ⟨k, j, none⟩ = w.cell? ⟨k, j, none⟩ := by simp [World.cell?, h]
theorem Glob.upd {F : Nat → Prop} (h : Glob w) (hu : Upd w w1 F) (h0 : ¬ F 0) (h1 : ¬ F 1) : Glob w1 where
  s := fun i hi => (cell_block (hu.block 0 (by have := h.lt; omega) h0) i).trans (h.s i hi)
  c := fun i hi => (cell_block (hu.block 1 (by have := h.lt; omega) h1) i).trans (h.c i hi)
  lt := ⟨Nat.lt_of_lt_of_le h.lt.1 hu.size, Nat.lt_of_lt_of_le h.lt.2 hu.size⟩
theorem Glob.below (h : Glob w) (hb : Below w.heap.size w w1) : Glob w1 := h.upd (F := fun _ => False) (Upd.of_below hb) id id
theorem put_cell {g t : Nat} {cs : Array Value} (hb : w.heap[g]? = some (.cells cs t (0, 0))) (i : Nat) (u : Value) : (w.setCell ⟨g, i, none⟩ u).heap[g]? = some (.cells (cs.setIfInBounds i u) t (0, 0)) := by rw [heap_setCell_same w g i _ t u hb]
theorem put_other {g k : Nat} {o : Obj} (i : Nat) (u : Value) (hk : k ≠ g) (hb : w.heap[k]? = some o) : (w.setCell ⟨g, i, none⟩ u).heap[k]? = some o := (Below.heap_setCell w ⟨g, i, none⟩ u k hk).trans hb
theorem nums_set (k : IntKind) (xs : List Int) (i : Nat) (v : Int) : (nums k xs).toArray.setIfInBounds i (.int k v) = (nums k (xs.set i v)).toArray := by simp [nums, List.map_set]
theorem nums_getD {k : IntKind} {xs : List Int} {i : Nat} (h : i < xs.length) : (nums k xs).toArray[i]? = some (.int k (xs.getD i 0)) := by simp [nums, h]
theorem cell_nums {g t : Nat} {k : IntKind} {xs : List Int} (hb : w.heap[g]? = some (.cells (nums k xs).toArray t (0, 0))) {i : Nat} (h : i < xs.length) : w.cell? ⟨g, i, none⟩ = some (.int k (xs.getD i 0)) := by rw [cell_of_row w g i _ _ _ hb, nums_getD h]
theorem free_row {g t : Nat} {cs : Array Value} (hb : w.heap[g]? = some (.cells cs t (0, 0))) (i : Nat) : w.frozen? ⟨g, i, none⟩ = false := by simp [World.frozen?, hb]
def z8 (k : IntKind) : Array Value := (nums k (List.replicate 8 0)).toArray
theorem run_alloc124 (w : World) : (Instr.alloc 117 true (.tuple #[])).run Tryz.prog w = .ok (.pointer (some ⟨w.heap.size, 0, none⟩)) (w.alloc (.cells (z8 .u32) 117)) := by kernel_rfl
theorem run_alloc125 (w : World) : (Instr.alloc 118 true (.tuple #[])).run Tryz.prog w = .ok (.pointer (some ⟨w.heap.size, 0, none⟩)) (w.alloc (.cells (z8 .u64) 118)) := by kernel_rfl
theorem info124 (x : List Int) (h : x.length = 8) : (Tryz.prog.info? 117).map (·.size) = some (nums .u32 x).toArray.size := by rw [List.size_toArray, nums_length, h]; kernel_rfl
theorem info125 (x : List Int) (h : x.length = 8) : (Tryz.prog.info? 118).map (·.size) = some (nums .u64 x).toArray.size := by rw [List.size_toArray, nums_length, h]; kernel_rfl
def begR (f : Nat → Int) : Nat → List Int
  | 0 => List.replicate 8 0
  | i + 1 => (begR f i).set i (f i)
theorem begR_length (f : Nat → Int) : ∀ i, (begR f i).length = 8
  | 0 => rfl
  | i + 1 => by rw [begR, List.length_set]; exact begR_length f i
def beg32 (i : Nat) : Int := startsL.getD i 0 / 4294967296 % 4294967296
def beg64 (i : Nat) : Int := startsL.getD i 0
def begin32L : List Int := begR beg32 8
def begin64L : List Int := begR beg64 8
attribute [irreducible] beg32 beg64

theorem nth3_2 (w : World) (a b c : Obj) : (((w.alloc a).alloc b).alloc c).heap[w.heap.size + 1 + 1]? = some c := by
  have h := heap_alloc_new ((w.alloc a).alloc b) c
  have e : ((w.alloc a).alloc b).heap.size = w.heap.size + 1 + 1 := by simp [World.size_alloc]
  rwa [e] at h
theorem nth2_1 (w : World) (a b : Obj) : ((w.alloc a).alloc b).heap[w.heap.size + 1]? = some b := by
  have h := heap_alloc_new (w.alloc a) b
  have e : (w.alloc a).heap.size = w.heap.size + 1 := by simp [World.size_alloc]
  rwa [e] at h
theorem nth3_1 (w : World) (a b c : Obj) : (((w.alloc a).alloc b).alloc c).heap[w.heap.size + 1]? = some b := blk_below (nth2_1 w a b) (below_alloc (Below.refl _ _) c)
theorem nth3_0 (w : World) (a b c : Obj) : (((w.alloc a).alloc b).alloc c).heap[w.heap.size]? = some a := blk_below (blk_below (heap_alloc_new w a) (below_alloc (Below.refl _ _) b)) (below_alloc (Below.refl _ _) c)
theorem below3 (w : World) (a b c : Obj) : Below w.heap.size w (((w.alloc a).alloc b).alloc c) := below_alloc (below_alloc (below_alloc (Below.refl w.heap.size w) a) b) c
theorem below_row {B : Nat} (h : Below B w w1) {g : Nat} (hg : B ≤ g) (cs : Array Value) : Below B w (w1.setRow g cs) := ⟨h.os, h.tape, h.output, by rw [setRow_size]; exact h.size, fun i hi => (setRow_other _ _ _ _ (by omega)).trans (h.block i hi)⟩
theorem below_put {B : Nat} (h : Below B w w1) {g : Nat} (hg : B ≤ g) (j : Nat) (u : Value) : Below B w (w1.setCell ⟨g, j, none⟩ u) := ⟨h.os, h.tape, h.output, by simpa [World.setCell] using h.size, fun i hi => (Below.heap_setCell w1 ⟨g, j, none⟩ u i (by show i ≠ g; omega)).trans (h.block i hi)⟩

set_option maxHeartbeats 8000000 in
theorem begin64_calls (hg : Glob w) : Calls Tryz.prog 93 #[.agg wideA] w fun e w' => e = .returned (.agg (nums .u64 begin64L).toArray) ∧ Below w.heap.size w w' := by
  have HG := Aside0.mk hg
  have HB0 := Aside0.mk (below3 w (.cells wideA 113) (.cells (z8 .u64) 118) (.cells (z8 .u64) 118))
  have HK0 := Aside0.mk (nth3_0 w (.cells wideA 113) (.cells (z8 .u64) 118) (.cells (z8 .u64) 118))
  have HK1 := Aside0.mk (nth3_1 w (.cells wideA 113) (.cells (z8 .u64) 118) (.cells (z8 .u64) 118))
  have HK2 := Aside0.mk (nth3_2 w (.cells wideA 113) (.cells (z8 .u64) 118) (.cells (z8 .u64) 118))
  clear hg
  go_enter Tryz.func93, Tryz.ntmps93
  go_wp2_with (first | (refine wpList_alloc rfl rfl _ rfl (z8 .u64) (run_alloc125 _) ?_))
  go_loopw [4, 5] (fun v4 v5 w' => ∃ i : Nat, v5 = .int .i64 i ∧ i ≤ 8 ∧ Aside0 (w'.heap[w.heap.size]? = some (.cells wideA 113 (0, 0))) ∧ Aside0 (w'.heap[w.heap.size + 1]? = some (.cells (z8 .u64) 118 (0, 0))) ∧ Aside0 (w'.heap[w.heap.size + 1 + 1]? = some (.cells (nums .u64 (begR beg64 i)).toArray 118 (0, 0))) ∧ Aside0 (Below w.heap.size w w')) (fun v4 v5 _ => 8 - (intOf v5).toNat)
  case atStart => exact ⟨0, rfl, Nat.zero_le _, HK0, HK1, HK2, HB0⟩
  case round =>
    clear HK0 HK1 HK2 HB0
    obtain ⟨i, rfl, hi, HK0, HK1, HK2, HB0⟩ := hrel
    by_cases hlt : i < 8
    · obtain ⟨s, hs⟩ : ∃ s, startsL.getD i 0 = s := ⟨_, rfl⟩
      have HS := Aside0.mk (show wr.drew.cell? ⟨0, i, none⟩ = some (.int .u64 s) from by rw [← hs]; exact (HG.out.below HB0.out).s i hlt)
      have HF := Aside0.mk (show wr.drew.cell? ⟨w.heap.size, 1, none⟩ = some (.int .i64 64) from cellB3 HK0.out 1 _ rfl)
      have HN := Aside0.mk (show beg64 i = s by rw [← hs]; unfold beg64; rfl)
      have HC := Aside0.mk (show (wr.drew.setCell ⟨w.heap.size + 1 + 1, i, none⟩ (.int .u64 (s))).heap[w.heap.size + 1 + 1]? = some (.cells (nums .u64 (begR beg64 (i + 1))).toArray 118 (0, 0)) from by have h := put_cell (w := wr.drew) HK2.out i (.int .u64 (s)); rw [nums_set] at h; rw [begR, HN.out]; exact h)
      have hc : wr.drew.cell? ⟨w.heap.size + 1 + 1, i, none⟩ = some (.int .u64 ((begR beg64 i).getD i 0)) := cell_nums (w := wr.drew) HK2.out (by rw [begR_length]; exact hlt)
      have hf := free_row (w := wr.drew) HK2.out i
      have HC0 := Aside0.mk (put_other (w := wr.drew) (g := w.heap.size + 1 + 1) i (.int .u64 (s)) (by omega) HK0.out)
      have HC1 := Aside0.mk (put_other (w := wr.drew) (g := w.heap.size + 1 + 1) i (.int .u64 (s)) (by omega) HK1.out)
      have HCB := Aside0.mk (below_put (below_drew HB0.out) (g := w.heap.size + 1 + 1) (by omega) i (.int .u64 (s)))
      clear hs
      have hw32 : wrap64 32 = 32 := by simp [wrap64]
      have hw0 : wrap64 0 = 0 := by simp [wrap64]
      go_wp2
      refine start_ (n := 10) (S := fun w' => w'.cell? ⟨0, i, none⟩ = some (.int .u64 s) ∧ w'.cell? ⟨w.heap.size, 1, none⟩ = some (.int .i64 64)) (ds := [9]) (bz 10 0) (by kernel_rfl) rfl rfl ⟨HS.out, HF.out⟩ (fun hHeld => ?_)
      refine pz 0 (some 8) (bz 10 1) ?_
      refine pz 1 (some 9) (bz 10 3) ?_
      refine pz 2 (some 10) (bz 10 7) ?_
      refine pz 4 (some 12) (bz 10 23) ?_
      refine tz2 3 (some 11) (bz 10 31) hHeld ?_
      refine tz2 5 (some 13) (bz 10 63) hHeld ?_
      refine pz 6 (some 14) (bz 10 127) ?_
      refine pz 7 (some 15) (bz 10 255) ?_
      refine pz 8 (some 16) (bz 10 511) ?_
      refine last_ (i := 9) (N := none) (bz 10 1023) rfl rfl (by kernel_rfl) (by decide) (fun K hK => ?_)
      refine skip_ (w1 := ?_) (by rfl) rfl ?_ ?_
      rotate_left
      · go_simp
        rfl
      refine hK.out _ _ ?_
      clear hK K
      refine done_ (by kernel_rfl) ?_
      clear hHeld
      go_wp2
      go_roundw
      case rel => exact ⟨i + 1, by go_num, by omega, HC0, HC1, HC, HCB⟩
      case measure => simp [intOf]; omega
    · obtain rfl : i = 8 := by omega
      have HL := Aside0.mk (run_loadAt_cells (P := Tryz.prog) (w := wr) 118 Tryz.underlying118 rfl (w.heap.size + 1 + 1) 0 (nums .u64 (begR beg64 8)) (by rw [nums_length, begR_length]; kernel_rfl) (fun j u hu => by rw [Nat.zero_add, cell_of_row _ _ j _ _ _ HK2.out]; simpa using hu))
      have HST := Aside0.mk (run_store_block (P := Tryz.prog) (w.heap.size + 1) 118 (z8 .u64) (nums .u64 (begR beg64 8)).toArray 118 HK1.out (info125 _ (begR_length _ _)) (by simp [z8, nums_length, begR_length]) (by simp [nums, List.all_eq_true]; intros; rfl))
      go_wp2_with (first | (refine load_at (ty := 118) (.tmp 3) rfl rfl HL.out rfl ?_) | (refine store_at (ty := 118) (.tmp 2) (.tmp 18) rfl rfl rfl HST.out rfl rfl ?_))
      refine bodyPost_ret (results_cell_row rfl _ _ _ _ (nums .u64 (begR beg64 8)).toArray _ _ rfl (setRow_heap _ _ _ _ _ _ HK1.out) Tryz.underlying118 rfl (info125 _ (begR_length _ _))) rfl ?_
      exact ⟨rfl, below_row HB0.out (by omega) _⟩

set_option maxHeartbeats 8000000 in
theorem begin32_calls (hg : Glob w) : Calls Tryz.prog 92 #[.agg narrowA] w fun e w' => e = .returned (.agg (nums .u32 begin32L).toArray) ∧ Below w.heap.size w w' := by
  have HG := Aside0.mk hg
  have HB0 := Aside0.mk (below3 w (.cells narrowA 113) (.cells (z8 .u32) 117) (.cells (z8 .u32) 117))
  have HK0 := Aside0.mk (nth3_0 w (.cells narrowA 113) (.cells (z8 .u32) 117) (.cells (z8 .u32) 117))
  have HK1 := Aside0.mk (nth3_1 w (.cells narrowA 113) (.cells (z8 .u32) 117) (.cells (z8 .u32) 117))
  have HK2 := Aside0.mk (nth3_2 w (.cells narrowA 113) (.cells (z8 .u32) 117) (.cells (z8 .u32) 117))
  clear hg
  go_enter Tryz.func92, Tryz.ntmps92
  go_wp2_with (first | (refine wpList_alloc rfl rfl _ rfl (z8 .u32) (run_alloc124 _) ?_))
  go_loopw [4, 5] (fun v4 v5 w' => ∃ i : Nat, v5 = .int .i64 i ∧ i ≤ 8 ∧ Aside0 (w'.heap[w.heap.size]? = some (.cells narrowA 113 (0, 0))) ∧ Aside0 (w'.heap[w.heap.size + 1]? = some (.cells (z8 .u32) 117 (0, 0))) ∧ Aside0 (w'.heap[w.heap.size + 1 + 1]? = some (.cells (nums .u32 (begR beg32 i)).toArray 117 (0, 0))) ∧ Aside0 (Below w.heap.size w w')) (fun v4 v5 _ => 8 - (intOf v5).toNat)
  case atStart => exact ⟨0, rfl, Nat.zero_le _, HK0, HK1, HK2, HB0⟩
  case round =>
    clear HK0 HK1 HK2 HB0
    obtain ⟨i, rfl, hi, HK0, HK1, HK2, HB0⟩ := hrel
    by_cases hlt : i < 8
    · obtain ⟨s, hs⟩ : ∃ s, startsL.getD i 0 = s := ⟨_, rfl⟩
      have HS := Aside0.mk (show wr.drew.cell? ⟨0, i, none⟩ = some (.int .u64 s) from by rw [← hs]; exact (HG.out.below HB0.out).s i hlt)
      have HF := Aside0.mk (show wr.drew.cell? ⟨w.heap.size, 1, none⟩ = some (.int .i64 32) from cellB3 HK0.out 1 _ rfl)
      have HN := Aside0.mk (show beg32 i = s / 4294967296 % 4294967296 by rw [← hs]; unfold beg32; rfl)
      have HC := Aside0.mk (show (wr.drew.setCell ⟨w.heap.size + 1 + 1, i, none⟩ (.int .u32 (s / 4294967296 % 4294967296))).heap[w.heap.size + 1 + 1]? = some (.cells (nums .u32 (begR beg32 (i + 1))).toArray 117 (0, 0)) from by have h := put_cell (w := wr.drew) HK2.out i (.int .u32 (s / 4294967296 % 4294967296)); rw [nums_set] at h; rw [begR, HN.out]; exact h)
      have hc : wr.drew.cell? ⟨w.heap.size + 1 + 1, i, none⟩ = some (.int .u32 ((begR beg32 i).getD i 0)) := cell_nums (w := wr.drew) HK2.out (by rw [begR_length]; exact hlt)
      have hf := free_row (w := wr.drew) HK2.out i
      have HC0 := Aside0.mk (put_other (w := wr.drew) (g := w.heap.size + 1 + 1) i (.int .u32 (s / 4294967296 % 4294967296)) (by omega) HK0.out)
      have HC1 := Aside0.mk (put_other (w := wr.drew) (g := w.heap.size + 1 + 1) i (.int .u32 (s / 4294967296 % 4294967296)) (by omega) HK1.out)
      have HCB := Aside0.mk (below_put (below_drew HB0.out) (g := w.heap.size + 1 + 1) (by omega) i (.int .u32 (s / 4294967296 % 4294967296)))
      clear hs
      have hw32 : wrap64 32 = 32 := by simp [wrap64]
      have hw0 : wrap64 0 = 0 := by simp [wrap64]
      go_wp2
      refine start_ (n := 11) (S := fun w' => w'.cell? ⟨0, i, none⟩ = some (.int .u64 s) ∧ w'.cell? ⟨w.heap.size, 1, none⟩ = some (.int .i64 32)) (ds := [10]) (bz 11 0) (by kernel_rfl) rfl rfl ⟨HS.out, HF.out⟩ (fun hHeld => ?_)
      refine pz 0 (some 8) (bz 11 1) ?_
      refine pz 1 (some 9) (bz 11 3) ?_
      refine pz 2 (some 10) (bz 11 7) ?_
      refine pz 4 (some 12) (bz 11 23) ?_
      refine tz2 3 (some 11) (bz 11 31) hHeld ?_
      refine tz2 5 (some 13) (bz 11 63) hHeld ?_
      refine pz 6 (some 14) (bz 11 127) ?_
      refine pz 7 (some 15) (bz 11 255) ?_
      refine pz 8 (some 16) (bz 11 511) ?_
      refine pz 9 (some 17) (bz 11 1023) ?_
      refine last_ (i := 10) (N := none) (bz 11 2047) rfl rfl (by kernel_rfl) (by decide) (fun K hK => ?_)
      refine skip_ (w1 := ?_) (by rfl) rfl ?_ ?_
      rotate_left
      · go_simp
        rfl
      refine hK.out _ _ ?_
      clear hK K
      refine done_ (by kernel_rfl) ?_
      clear hHeld
      go_wp2
      go_roundw
      case rel => exact ⟨i + 1, by go_num, by omega, HC0, HC1, HC, HCB⟩
      case measure => simp [intOf]; omega
    · obtain rfl : i = 8 := by omega
      have HL := Aside0.mk (run_loadAt_cells (P := Tryz.prog) (w := wr) 117 Tryz.underlying117 rfl (w.heap.size + 1 + 1) 0 (nums .u32 (begR beg32 8)) (by rw [nums_length, begR_length]; kernel_rfl) (fun j u hu => by rw [Nat.zero_add, cell_of_row _ _ j _ _ _ HK2.out]; simpa using hu))
      have HST := Aside0.mk (run_store_block (P := Tryz.prog) (w.heap.size + 1) 117 (z8 .u32) (nums .u32 (begR beg32 8)).toArray 117 HK1.out (info124 _ (begR_length _ _)) (by simp [z8, nums_length, begR_length]) (by simp [nums, List.all_eq_true]; intros; rfl))
      go_wp2_with (first | (refine load_at (ty := 117) (.tmp 3) rfl rfl HL.out rfl ?_) | (refine store_at (ty := 117) (.tmp 2) (.tmp 19) rfl rfl rfl HST.out rfl rfl ?_))
      refine bodyPost_ret (results_cell_row rfl _ _ _ _ (nums .u32 (begR beg32 8)).toArray _ _ rfl (setRow_heap _ _ _ _ _ _ HK1.out) Tryz.underlying117 rfl (info124 _ (begR_length _ _))) rfl ?_
      exact ⟨rfl, below_row HB0.out (by omega) _⟩

end Go.Proofs.YtmblnflfklmmkaaGreatDoor.Sh
/- The laid tables, out of a row's own condition. -/
namespace Go.Proofs.YtmblnflfklmmkaaGreatDoor.Sh
open Go.ChangeShapes Go.WideShapes Go.ChangeAt Go.RowKit
set_option linter.unusedVariables false
set_option maxRecDepth 100000
abbrev laidTabs : List (String × DataW Unit) := [("imprimatur/sha2.constants", Rows.laid_imprimatur_sha2_constants), ("imprimatur/sha2.starts", Rows.laid_imprimatur_sha2_starts)]
theorem door_met (os : Os) (args : Array Value) : laidMetH Tryz.prog laidTabs ((World.doorLaid Tryz.prog 400 os).forCall (fun _ _ => 0) ⟨#[], args, []⟩).memory :=
  laidMetH_of_parts3 (fuel := 8) (laidMet_of_run' 8 (by kernel_rfl) (by kernel_rfl)) (by kernel_rfl) (by kernel_rfl)
theorem gC : Tryz.prog.globalNamed "imprimatur/sha2.constants" = some 1 := by kernel_rfl
theorem gS : Tryz.prog.globalNamed "imprimatur/sha2.starts" = some 0 := by kernel_rfl
theorem tC : (Tryz.prog.globals[1]?).map (·.type) = some 140 := by kernel_rfl
theorem tS : (Tryz.prog.globals[0]?).map (·.type) = some 118 := by kernel_rfl
theorem c64 : Tryz.prog.cellsOf 45 = 1 := by kernel_rfl
theorem table {H : Type} {enc : TypeId × Value → H} {W : World} {base : Nat} {sp : Nat → Bool} {held : Bool} {t m : Nat} {cs : List Value} {L : List Int} {q : List MemPlace} (ht : Tryz.prog.underlying t = some (.array L.length 45)) (hd : DataW.trod enc Tryz.prog W base sp held m t cs = some (.agg (L.map fun k => .lit (.int .u64 k)), q)) : ∀ i, i < L.length → cs[i]? = some (.int .u64 (L.getD i 0)) := by
  obtain ⟨xs, m1, rfl, hx1, hlen, hn, hel⟩ := DataW.trod_array ht hd
  intro i hi
  have h0 := hel i hi
  rw [c64, Nat.mul_one] at h0
  simp only [Prod.mk.injEq, DataW.agg.injEq] at hx1
  have hg : (xs.map (·.1))[i]? = some (.lit (.int .u64 (L.getD i 0))) := by
    rw [← hx1.1, List.getElem?_map, List.getElem?_eq_getElem hi, List.getD_eq_getElem?_getD, List.getElem?_eq_getElem hi]
    rfl
  rw [List.getElem?_map, List.getElem?_eq_getElem (by omega)] at hg
  rw [List.getElem?_eq_getElem (by omega)] at h0
  obtain ⟨k, e1, e2, _⟩ := DataW.trod_int Tryz.underlying45 h0
  rw [e2] at hg
  simp at hg
  rw [hg] at e1
  have := congrArg (fun l : List Value => l[0]?) e1
  simpa [List.getElem?_take, List.getElem?_drop] using this
theorem of_laid {W : World} (h : laidMetH Tryz.prog laidTabs W) : Glob W := by
  rw [MakeChecks.laidMetH_plain _ _ _ (by kernel_rfl)] at h
  obtain ⟨ps, ⟨g0, t0, cs0, f0, p0, q0, hg0, ht0, hv0, hd0, ⟨g1, t1, cs1, f1, p1, q1, hg1, ht1, hv1, hd1, _, _⟩, _⟩, _, _⟩ := h
  obtain rfl := Option.some.inj (gC.symm.trans hg0)
  obtain rfl := Option.some.inj (gS.symm.trans hg1)
  obtain rfl := Option.some.inj (tC.symm.trans ht0)
  obtain rfl := Option.some.inj (tS.symm.trans ht1)
  have h1 := table (L := constsL) Tryz.underlying140 hd0
  have h2 := table (L := startsL) Tryz.underlying118 hd1
  have k1 : ∀ i, i < 80 → W.cell? ⟨1, i, none⟩ = some (.int .u64 (constsL.getD i 0)) := fun i hi => by
    rw [World.var?_cell hg0 hv0 i, ← Array.getElem?_toList]
    exact h1 i hi
  have k2 : ∀ i, i < 8 → W.cell? ⟨0, i, none⟩ = some (.int .u64 (startsL.getD i 0)) := fun i hi => by
    rw [World.var?_cell hg1 hv1 i, ← Array.getElem?_toList]
    exact h2 i hi
  refine ⟨k2, k1, ?_, ?_⟩
  · have := k2 0 (by decide)
    unfold World.cell? at this
    by_cases hl : 0 < W.heap.size
    · exact hl
    · rw [Array.getElem?_eq_none (show W.heap.size ≤ 0 by omega)] at this; cases this
  · have := k1 0 (by decide)
    unfold World.cell? at this
    by_cases hl : 1 < W.heap.size
    · exact hl
    · rw [Array.getElem?_eq_none (show W.heap.size ≤ 1 by omega)] at this; cases this
end Go.Proofs.YtmblnflfklmmkaaGreatDoor.Sh
/- Contracts of package disk: Bytes. -/
namespace Go.Proofs.YtmblnflfklmmkaaGreatDoor.Dk
open Go.RowKit Go.Proofs.YtmblnflfklmmkaaGreatDoorW.PrintWords Go.Proofs.YtmblnflfklmmkaaGreatDoorW.PrintLast Go.Proofs.YtmblnflfklmmkaaGreatDoorW.PrintMore
set_option linter.unusedVariables false
set_option linter.unusedSimpArgs false
set_option maxRecDepth 30000
variable {w : World} {B g : Nat} {F : Nat → Prop} {D : DM} {vs vh vc : Value}
/-- What Bytes tells, the first n sectors seen. -/
def bytesTo (sec : List (List Int)) : Nat → List Int
  | 0 => []
  | n + 1 => bytesTo sec n ++ sec.getD n []
def bytesM (D : DM) : List Int := bytesTo D.sec D.sec.length
theorem bytesTo_length {sec : List (List Int)} (hh : ∀ i, i < sec.length → (sec.getD i []).length = 64) : ∀ n, n ≤ sec.length → (bytesTo sec n).length = n * 64
  | 0, _ => rfl
  | n + 1, hn => by
    rw [bytesTo, List.length_append, bytesTo_length hh n (by omega), hh n (by omega)]
    omega
theorem make_empty (cap : Nat) (hc : cap ≤ 100000000000) (w : World) : (Instr.makeSlice 22 (.int .i64 0) (.int .i64 (cap : Int))).run Tryz.prog w = .ok (.slice (some ⟨w.heap.size, 0, none⟩) 0 cap) (w.alloc (.cells (madeCells #[.int .u8 0] cap) 5)) := by
  obtain ⟨i0, hi, hzz⟩ := Option.map_eq_some_iff.1 info5
  simp only [Prod.mk.injEq] at hzz
  obtain ⟨hz0, hz1, hz2⟩ := hzz
  have hr := run_make (P := Tryz.prog) w 22 5 i0 (.int .u8 0) Tryz.underlying22 hi hz0 .i64 .i64 0 (cap : Int) (by omega) (by omega) (by rw [hz2]; omega) (by omega)
  rw [hz1] at hr
  simpa [Value.cells] using hr
theorem R_empty (cap : Nat) (hc : cap ≤ 100000000000) (w : World) (base : Nat) (ok : Nat → Prop) (hb : base ≤ w.heap.size) (hok : ok w.heap.size) : Kd.R (Kd.int .u8) 5 (w.alloc (.cells (madeCells #[.int .u8 0] cap) 5)) base ok (.slice (some ⟨w.heap.size, 0, none⟩) 0 cap) [] := by
  refine ⟨fun k hk => ?_, [], ⟨by simp, .inr ⟨w.heap.size, cap, madeCells #[.int .u8 0] cap, rfl, hb, heap_alloc_new w _, Nat.zero_le _, by simp only [maxLen]; omega, by simp [size_madeCells, Kd.int, Kd.scalar], by simp⟩⟩, Reps.none _ _⟩
  simp [Value.ownBlock] at hk
  rw [← hk]
  exact hok
/-- A block of bytes, as what is read. -/
theorem C_block {w : World} {g : Nat} {x : List Int} {e : TypeId} {m : Nat × Nat} (h : w.heap[g]? = some (.cells (nums .u8 x).toArray e m)) (hx : x.length ≤ 1000000) : Kd.C (Kd.int .u8) w (some ⟨g, 0, none⟩) x.length x := by
  refine ⟨rfl, by omega, fun _ => ⟨_, rfl, fun j p hj => ⟨[.int .u8 p], rfl, rfl, fun i u hu => ?_⟩⟩⟩
  cases i with
  | succ i => simp at hu
  | zero =>
    simp only [List.getElem?_cons_zero, Option.some.injEq] at hu
    subst hu
    rw [add0, World.cell?, h]
    simp [nums, Kd.int, Kd.scalar, hj]
set_option maxHeartbeats 8000000 in
theorem Bytes_calls (h : DAt w B g F D vs vh vc) (hok : DOk D) :
    Calls Tryz.prog 14 #[.pointer (some ⟨g, 0, none⟩)] w fun e w' => ∃ v, e = .returned v ∧ Kd.R (Kd.int .u8) 5 w' w.heap.size (fun k => w.heap.size ≤ k) v (bytesM D) ∧ Below w.heap.size w w' := by
  have H := Aside0.mk h
  have HOK := Aside0.mk hok
  obtain ⟨As, cs, rfl, hsl, _⟩ := Kd.R_reads h.sec
  have h0 := h.c0
  have hn1 := hok.n1
  have hM : (Instr.makeSlice 22 (.int .i64 0) (.int .i64 ((D.sec.length : Int) * 64))).run Tryz.prog w = .ok (.slice (some ⟨w.heap.size, 0, none⟩) 0 (D.sec.length * 64)) (w.alloc (.cells (madeCells #[.int .u8 0] (D.sec.length * 64)) 5)) := by
    have := make_empty (D.sec.length * 64) (by omega) w
    rwa [Int.natCast_mul] at this
  have HRE := Aside0.mk (R_empty (D.sec.length * 64) (by omega) w w.heap.size (fun k => w.heap.size ≤ k) (Nat.le_refl _) (Nat.le_refl _))
  have HB0 := Aside0.mk (below_alloc (Below.refl w.heap.size w) (.cells (madeCells #[.int .u8 0] (D.sec.length * 64)) 5))
  have h01 : (w.alloc (.cells (madeCells #[.int .u8 0] (D.sec.length * 64)) 5)).cell? ⟨g, 0, none⟩ = some (.slice As D.sec.length cs) := (H.out.below HB0.out).c0
  clear h hok
  go_enter Tryz.func14, Tryz.ntmps14
  go_wp2
  go_loopw [3, 5, 20] (fun v3 v5 v20 w' => ∃ i : Nat, v20 = .int .i64 i ∧ i ≤ D.sec.length ∧ Aside0 (Kd.R (Kd.int .u8) 5 w' w.heap.size (fun k => w.heap.size ≤ k) v3 (bytesTo D.sec i)) ∧ Aside0 (Below w.heap.size w w')) (fun _ _ v20 _ => D.sec.length - (intOf v20).toNat)
  case atStart => exact ⟨0, rfl, Nat.zero_le _, HRE, HB0⟩
  case round =>
    obtain ⟨i, rfl, hi, HR, HV⟩ := hrel
    clear h0 h01 hM
    have hn1 := HOK.out.n1
    by_cases hlt : i < D.sec.length
    · have HD := Aside0.mk (H.out.below HV.out)
      obtain ⟨gs, hAs, h64, hls⟩ := sec_load HD.out.sec i hlt
      obtain ⟨s0, hs0⟩ : ∃ s0, s0 = D.sec.getD i [] := ⟨_, rfl⟩
      rw [← hs0] at hls h64
      subst hAs
      have HLS := Aside0.mk hls
      have HST := Aside0.mk (run_storeAt_new (P := Tryz.prog) wr 78 zs64 (nums .u8 s0).toArray (by simp only [List.size_toArray, nums_length, h64]; exact size64) (by simp [zs64_size, nums_length, h64]) (nums_one s0))
      have HW := Aside0.mk (heap_alloc_new wr (.cells (nums .u8 s0).toArray 78))
      have HC := C_block HW.out (by omega)
      rw [h64] at HC
      have HC' := Aside0.mk HC
      have HBW := Aside0.mk (below_alloc HV.out (.cells (nums .u8 s0).toArray 78))
      have HRW := Aside0.mk (Kd.R_below HR.out (below_alloc (Below.refl wr.heap.size wr) (.cells (nums .u8 s0).toArray 78)))
      have HL := Aside0.mk (bytesTo_length (sec := D.sec) (fun j hj => (sec_load HD.out.sec j hj).elim fun _ h => h.2.1) i hi)
      have HP := Aside0.mk (show bytesTo D.sec (i + 1) = bytesTo D.sec i ++ s0 by rw [bytesTo, hs0])
      have hvs := HV.out.size
      clear hls h64 hs0 HC
      go_wp2_with (first | (refine load_at (ty := 78) (.tmp 22) rfl rfl HLS.out rfl ?_) | (refine wpList_alloc rfl rfl _ rfl zs64 (run_alloc64 _) ?_) | (refine store_at (ty := 78) (.tmp 5) (.tmp 23) rfl rfl rfl HST.out rfl rfl ?_) | ((with_reducible refine gate_builtin (b := .append) (xs := #[.tmp 24, .tmp 25]) rfl ?_); at_builtin; refine Kd.R_append_rows (Kd.int .u8) (Rr := (Kd.int .u8).K wr) (w0 := w) w.heap.size rfl (.tmp 24) (.tmp 25) 22 5 (.int .u8 0) 1 rfl Tryz.underlying22 info5 rfl (by decide) (by omega) _ (bytesTo D.sec i) s0 (some ⟨wr.heap.size, 0, none⟩) 64 64 (fun k => w.heap.size ≤ k) (fun _ => False) rfl rfl HRW.out HC'.out (fun _ _ h => h) (fun _ h => h.elim) (fun _ h => Nat.le_trans HBW.out.size h) HBW.out HBW.out.size ?aL ?_; (case aL => rw [HL.out]; omega); intro v1 w1 hr1 hb1 hg1 _; have HR1 := Aside0.mk hr1; have HB1 := Aside0.mk hb1; clear hr1 hb1 hg1))
      go_roundw
      case rel => exact ⟨i + 1, by go_num, by omega, ⟨by rw [HP.out]; exact HR1.out⟩, HB1⟩
      case measure => simp [intOf]; omega
    · obtain rfl : i = D.sec.length := by omega
      go_wp2
      go_ret
      exact ⟨_, rfl, HR.out, HV.out⟩
end Go.Proofs.YtmblnflfklmmkaaGreatDoor.Dk
/- Contracts of package disk: Copy. -/
namespace Go.Proofs.YtmblnflfklmmkaaGreatDoor.Dk
open Go.RowKit Go.Proofs.YtmblnflfklmmkaaGreatDoorW.PrintWords Go.Proofs.YtmblnflfklmmkaaGreatDoorW.PrintLast Go.Proofs.YtmblnflfklmmkaaGreatDoorW.PrintMore
set_option linter.unusedVariables false
set_option linter.unusedSimpArgs false
set_option maxRecDepth 30000
def zs60 : Array Value := #[.slice none 0 0, .slice none 0 0, .bool false, .int .i64 0, .int .i64 0, .bool false, .slice none 0 0]
attribute [irreducible] zs60
variable {w W W1 : World} {B g N : Nat} {F : Nat → Prop} {D : DM} {vs vh vc : Value}
theorem blk_grown {cs : Array Value} (hb : W.heap[g]? = some (.cells cs 76 (0, 0))) (hg : W.grownBy W1 none) : W1.heap[g]? = some (.cells cs 76 (0, 0)) := (hg.block g (blk_lt hb) (by simp)).trans hb
end Go.Proofs.YtmblnflfklmmkaaGreatDoor.Dk
/- Contracts of package disk: need, span. -/
namespace Go.Proofs.YtmblnflfklmmkaaGreatDoor.Dk
open Go.RowKit Go.Proofs.YtmblnflfklmmkaaGreatDoorW.PrintWords Go.Proofs.YtmblnflfklmmkaaGreatDoorW.PrintLast Go.Proofs.YtmblnflfklmmkaaGreatDoorW.PrintMore
set_option linter.unusedVariables false
set_option linter.unusedSimpArgs false
set_option maxRecDepth 30000
variable {w W W1 : World} {B g N : Nat} {F : Nat → Prop} {D : DM} {vs vh vc : Value}
def needM (n : Int) : Int := if 0 < n.tmod 64 then n.tdiv 64 + 1 else n.tdiv 64
theorem tdiv_le (n : Int) (h1 : -9223372036854775808 ≤ n) (h2 : n ≤ 9223372036854775807) : -144115188075855872 ≤ n.tdiv 64 ∧ n.tdiv 64 ≤ 144115188075855871 := by
  rcases Int.lt_or_le n 0 with h | h
  · have : n.tdiv 64 = -((-n).tdiv 64) := by rw [Int.neg_tdiv, Int.neg_neg]
    rw [this, Int.tdiv_eq_ediv_of_nonneg (by omega)]
    omega
  · rw [Int.tdiv_eq_ediv_of_nonneg h]
    omega
set_option maxHeartbeats 2000000 in
theorem need_calls (n : Int) (h1 : -9223372036854775808 ≤ n) (h2 : n ≤ 9223372036854775807) : Calls Tryz.prog 72 #[.int .i64 n] w fun e w' => e = .returned (.int .i64 (needM n)) ∧ w = w' := by
  obtain ⟨t1, t2⟩ := tdiv_le n h1 h2
  by_cases hr : 0 < n.tmod 64
  · have hq := Lib.hid (show needM n = n.tdiv 64 + 1 by simp [needM, hr])
    go_enter Tryz.func72, Tryz.ntmps72
    go_wp2
    go_ret
    exact ⟨by rw [hq.out] <;> rfl, rfl⟩
  · have hq := Lib.hid (show needM n = n.tdiv 64 by simp [needM, hr])
    go_enter Tryz.func72, Tryz.ntmps72
    go_wp2
    go_ret
    exact ⟨by rw [hq.out] <;> rfl, rfl⟩
def spanM (D : DM) (k n : Int) : Int := if D.down = true then 60 else if k < 0 ∨ (D.sec.length : Int) < k ∨ (D.sec.length : Int) - k < needM n then 61 else 0
set_option maxHeartbeats 8000000 in
theorem span_calls (h : DAt w B g F D vs vh vc) (hok : DOk D) (k n : Int) (h1 : -9223372036854775808 ≤ n) (h2 : n ≤ 9223372036854775807) :
    Calls Tryz.prog 71 #[.pointer (some ⟨g, 0, none⟩), .int .i64 k, .int .i64 n] w fun e w' => e = .returned (.int .i64 (spanM D k n)) ∧ ∃ m, w' = w.drewN m := by
  have H := Aside0.mk h
  have N1 := Aside0.mk h1
  have N2 := Aside0.mk h2
  obtain ⟨As, cs, rfl, hsl, _⟩ := Kd.R_reads h.sec
  have h0 := h.c0
  have hn1 := hok.n1
  clear h hok h1 h2 hsl
  cases hd : D.down with
  | true =>
    have hq := Lib.hid (show spanM D k n = 60 by simp [spanM, hd])
    have hr := Lib.hid (show readyM D = 60 by simp [readyM, hd])
    clear hd
    go_enter Tryz.func71, Tryz.ntmps71
    go_wp2_with (first | (go_at_call 56; refine (ready_calls H.out).mono ?_; rintro e w' ⟨rfl, rfl⟩; rw [hr.out]))
    go_ret
    exact ⟨by rw [hq.out] <;> rfl, 0, rfl⟩
  | false =>
    have hr := Lib.hid (show readyM D = 0 by simp [readyM, hd])
    by_cases hk : k < 0
    · have hq := Lib.hid (show spanM D k n = 61 by simp [spanM, hd, hk])
      have tk : decide (k < 0) = true := decide_eq_true hk
      clear hd hk
      go_enter Tryz.func71, Tryz.ntmps71
      go_wp2_with (first | (go_at_call 56; refine (ready_calls H.out).mono ?_; rintro e w' ⟨rfl, rfl⟩; rw [hr.out]))
      refine start_ (n := 23) (S := fun w' => w'.cell? ⟨g, 0, none⟩ = some (.slice As D.sec.length cs)) (ds := []) (bz 23 0) (by kernel_rfl) rfl rfl (h0) (fun hHeld => ?_)
      refine pz 0 (some 13) (bz 23 1) ?_
      refine pz 1 (some 14) (bz 23 3) ?_
      refine pz 2 (some 15) (bz 23 7) ?_
      refine pu 3 (some 16) (bz 23 15) ?_
      refine pu 4 (some 17) (bz 23 31) ?_
      refine pu 5 (some 18) (bz 23 63) ?_
      refine pu 6 (some 19) (bz 23 127) ?_
      refine pu 7 (some 20) (bz 23 255) ?_
      refine pu 8 (some 21) (bz 23 511) ?_
      refine pu 9 (some 22) (bz 23 1023) ?_
      refine pz 10 (some 23) (bz 23 2047) ?_
      refine pz 11 (some 24) (bz 23 4095) ?_
      refine pu 12 (some 25) (bz 23 8191) ?_
      refine pu 13 (some 26) (bz 23 16383) ?_
      refine pu 14 (some 27) (bz 23 32767) ?_
      refine pu 15 (some 28) (bz 23 65535) ?_
      refine pu 16 (some 29) (bz 23 131071) ?_
      refine pu 17 (some 30) (bz 23 262143) ?_
      refine pu 18 (some 31) (bz 23 524287) ?_
      refine pu 19 (some 32) (bz 23 1048575) ?_
      refine pu 20 (some 33) (bz 23 2097151) ?_
      refine pu 21 (some 34) (bz 23 4194303) ?_
      refine pz 22 (some 35) (bz 23 8388607) ?_
      refine done_ (by kernel_rfl) ?_

      go_wp2
      go_ret
      exact ⟨by rw [hq.out] <;> rfl, 1, rfl⟩
    by_cases hk2 : (D.sec.length : Int) < k
    · have hq := Lib.hid (show spanM D k n = 61 by simp [spanM, hd, hk2])
      have tk : decide (k < 0) = false := decide_eq_false hk
      have tk2 : decide ((D.sec.length : Int) < k) = true := decide_eq_true hk2
      clear hd
      go_enter Tryz.func71, Tryz.ntmps71
      go_wp2_with (first | (go_at_call 56; refine (ready_calls H.out).mono ?_; rintro e w' ⟨rfl, rfl⟩; rw [hr.out]))
      refine start_ (n := 23) (S := fun w' => w'.cell? ⟨g, 0, none⟩ = some (.slice As D.sec.length cs)) (ds := []) (bz 23 0) (by kernel_rfl) rfl rfl (h0) (fun hHeld => ?_)
      refine pz 0 (some 13) (bz 23 1) ?_
      refine pz 1 (some 14) (bz 23 3) ?_
      refine pz 2 (some 15) (bz 23 7) ?_
      refine pz 3 (some 16) (bz 23 15) ?_
      refine pz 4 (some 17) (bz 23 31) ?_
      refine pz 5 (some 18) (bz 23 63) ?_
      refine pz 6 (some 19) (bz 23 127) ?_
      refine tz1 7 (some 20) (bz 23 255) hHeld ?_
      refine pz 8 (some 21) (bz 23 511) ?_
      refine pz 9 (some 22) (bz 23 1023) ?_
      refine pz 10 (some 23) (bz 23 2047) ?_
      refine pz 11 (some 24) (bz 23 4095) ?_
      refine pu 12 (some 25) (bz 23 8191) ?_
      refine pu 13 (some 26) (bz 23 16383) ?_
      refine pu 14 (some 27) (bz 23 32767) ?_
      refine pu 15 (some 28) (bz 23 65535) ?_
      refine pu 16 (some 29) (bz 23 131071) ?_
      refine pu 17 (some 30) (bz 23 262143) ?_
      refine pu 18 (some 31) (bz 23 524287) ?_
      refine pu 19 (some 32) (bz 23 1048575) ?_
      refine pu 20 (some 33) (bz 23 2097151) ?_
      refine pu 21 (some 34) (bz 23 4194303) ?_
      refine pz 22 (some 35) (bz 23 8388607) ?_
      refine done_ (by kernel_rfl) ?_

      go_wp2
      go_ret
      exact ⟨by rw [hq.out] <;> rfl, 1, rfl⟩
    by_cases hk3 : (D.sec.length : Int) - k < needM n
    · have hq := Lib.hid (show spanM D k n = 61 by simp [spanM, hd, hk3])
      have tk : decide (k < 0) = false := decide_eq_false hk
      have tk2 : decide ((D.sec.length : Int) < k) = false := decide_eq_false hk2
      have tk3 : decide (wrap64 ((D.sec.length : Int) - k) < needM n) = true := by rw [show wrap64 ((D.sec.length : Int) - k) = D.sec.length - k by simp only [wrap64]; omega]; exact decide_eq_true hk3
      clear hd hk3
      go_enter Tryz.func71, Tryz.ntmps71
      go_wp2_with (first | (go_at_call 56; refine (ready_calls H.out).mono ?_; rintro e w' ⟨rfl, rfl⟩; rw [hr.out]))
      refine start_ (n := 23) (S := fun w' => w'.cell? ⟨g, 0, none⟩ = some (.slice As D.sec.length cs)) (ds := []) (bz 23 0) (by kernel_rfl) rfl rfl (h0) (fun hHeld => ?_)
      refine pz 0 (some 13) (bz 23 1) ?_
      refine pz 1 (some 14) (bz 23 3) ?_
      refine pz 2 (some 15) (bz 23 7) ?_
      refine pz 3 (some 16) (bz 23 15) ?_
      refine pz 4 (some 17) (bz 23 31) ?_
      refine pz 5 (some 18) (bz 23 63) ?_
      refine pz 6 (some 19) (bz 23 127) ?_
      refine tz1 7 (some 20) (bz 23 255) hHeld ?_
      refine pz 8 (some 21) (bz 23 511) ?_
      refine pz 9 (some 22) (bz 23 1023) ?_
      refine pz 10 (some 23) (bz 23 2047) ?_
      refine pz 11 (some 24) (bz 23 4095) ?_
      refine pz 12 (some 25) (bz 23 8191) ?_
      refine pz 14 (some 27) (bz 23 24575) ?_
      refine pz 15 (some 28) (bz 23 57343) ?_
      refine pz 16 (some 29) (bz 23 122879) ?_
      refine pz 19 (some 32) (bz 23 647167) ?_
      refine tz1 17 (some 30) (bz 23 778239) hHeld ?_
      refine pz 18 (some 31) (bz 23 1040383) ?_
      refine pz 20 (some 33) (bz 23 2088959) ?_
      refine one_ (i := 13) (N := some 26) (bz 23 2097151) rfl rfl (by kernel_rfl) (by decide) (fun K hK => ?_)
      refine goes_ Tryz.func72 (by kernel_rfl) rfl #[.int .i64 n] (by rfl) rfl rfl (by simp only [List.map_toArray, List.map_cons, List.map_nil]; rfl) ?_
      with_reducible refine (need_calls (w := w.drew) n N1.out N2.out).mono ?_
      rintro e w3 ⟨rfl, rfl⟩
      refine ⟨_, rfl, ?_⟩
      refine hK.out _ _ (h0) (fun hHeld => ?_)
      clear hK K
      refine norm_ (a' := ?_) ?_ ?_
      rotate_left
      · show Act.put _ (some 26) _ = _
        simp only [Act.put, List.setIfInBounds_toArray, List.set_cons_zero, List.set_cons_succ, i64_w, i32_w]
        rfl
      refine pz 21 (some 34) (bz 23 4194303) ?_
      refine pz 22 (some 35) (bz 23 8388607) ?_
      refine done_ (by kernel_rfl) ?_

      go_wp2
      go_ret
      exact ⟨by rw [hq.out] <;> rfl, 1, rfl⟩
    · have hq := Lib.hid (show spanM D k n = 0 by simp [spanM, hd, hk, hk2, hk3])
      have tk : decide (k < 0) = false := decide_eq_false hk
      have tk2 : decide ((D.sec.length : Int) < k) = false := decide_eq_false hk2
      have tk3 : decide (wrap64 ((D.sec.length : Int) - k) < needM n) = false := by rw [show wrap64 ((D.sec.length : Int) - k) = D.sec.length - k by simp only [wrap64]; omega]; exact decide_eq_false hk3
      clear hd hk3
      go_enter Tryz.func71, Tryz.ntmps71
      go_wp2_with (first | (go_at_call 56; refine (ready_calls H.out).mono ?_; rintro e w' ⟨rfl, rfl⟩; rw [hr.out]))
      refine start_ (n := 23) (S := fun w' => w'.cell? ⟨g, 0, none⟩ = some (.slice As D.sec.length cs)) (ds := []) (bz 23 0) (by kernel_rfl) rfl rfl (h0) (fun hHeld => ?_)
      refine pz 0 (some 13) (bz 23 1) ?_
      refine pz 1 (some 14) (bz 23 3) ?_
      refine pz 2 (some 15) (bz 23 7) ?_
      refine pz 3 (some 16) (bz 23 15) ?_
      refine pz 4 (some 17) (bz 23 31) ?_
      refine pz 5 (some 18) (bz 23 63) ?_
      refine pz 6 (some 19) (bz 23 127) ?_
      refine tz1 7 (some 20) (bz 23 255) hHeld ?_
      refine pz 8 (some 21) (bz 23 511) ?_
      refine pz 9 (some 22) (bz 23 1023) ?_
      refine pz 10 (some 23) (bz 23 2047) ?_
      refine pz 11 (some 24) (bz 23 4095) ?_
      refine pz 12 (some 25) (bz 23 8191) ?_
      refine pz 14 (some 27) (bz 23 24575) ?_
      refine pz 15 (some 28) (bz 23 57343) ?_
      refine pz 16 (some 29) (bz 23 122879) ?_
      refine pz 19 (some 32) (bz 23 647167) ?_
      refine tz1 17 (some 30) (bz 23 778239) hHeld ?_
      refine pz 18 (some 31) (bz 23 1040383) ?_
      refine pz 20 (some 33) (bz 23 2088959) ?_
      refine one_ (i := 13) (N := some 26) (bz 23 2097151) rfl rfl (by kernel_rfl) (by decide) (fun K hK => ?_)
      refine goes_ Tryz.func72 (by kernel_rfl) rfl #[.int .i64 n] (by rfl) rfl rfl (by simp only [List.map_toArray, List.map_cons, List.map_nil]; rfl) ?_
      with_reducible refine (need_calls (w := w.drew) n N1.out N2.out).mono ?_
      rintro e w3 ⟨rfl, rfl⟩
      refine ⟨_, rfl, ?_⟩
      refine hK.out _ _ (h0) (fun hHeld => ?_)
      clear hK K
      refine norm_ (a' := ?_) ?_ ?_
      rotate_left
      · show Act.put _ (some 26) _ = _
        simp only [Act.put, List.setIfInBounds_toArray, List.set_cons_zero, List.set_cons_succ, i64_w, i32_w]
        rfl
      refine pz 21 (some 34) (bz 23 4194303) ?_
      refine pz 22 (some 35) (bz 23 8388607) ?_
      refine done_ (by kernel_rfl) ?_

      go_wp2
      go_ret
      exact ⟨by rw [hq.out] <;> rfl, 1, rfl⟩
end Go.Proofs.YtmblnflfklmmkaaGreatDoor.Dk
/- Contracts of package disk: Load. -/
namespace Go.Proofs.YtmblnflfklmmkaaGreatDoor.Dk
open Go.RowKit Go.Proofs.YtmblnflfklmmkaaGreatDoorW.PrintWords Go.Proofs.YtmblnflfklmmkaaGreatDoorW.PrintLast Go.Proofs.YtmblnflfklmmkaaGreatDoorW.PrintMore
set_option linter.unusedVariables false
set_option linter.unusedSimpArgs false
set_option maxRecDepth 30000
variable {w W W1 : World} {B g N : Nat} {F : Nat → Prop} {D : DM} {vs vh vc : Value}
def readsTo (D : DM) (k : Int) : Nat → List Int
  | 0 => []
  | i + 1 => readsTo D k i ++ readM D (k + i)
/-- Load's errno. -/
def loadE (D : DM) (k n : Int) : Int := if D.down = true then 60 else if n < 0 then 1 else spanM D k n
theorem need_nat (n0 : Nat) : needM n0 = ((n0 + 63) / 64 : Nat) := by
  unfold needM
  rw [Int.tmod_eq_emod_of_nonneg (by omega), Int.tdiv_eq_ediv_of_nonneg (by omega)]
  split <;> omega
theorem spanM_zero {k n : Int} (h : spanM D k n = 0) : D.down = false ∧ 0 ≤ k ∧ k ≤ (D.sec.length : Int) ∧ needM n ≤ (D.sec.length : Int) - k := by
  unfold spanM at h
  split at h
  · omega
  · rename_i hd
    split at h
    · omega
    · refine ⟨by simpa using hd, by omega, by omega, by omega⟩
theorem read_length (h : DAt w B g F D vs vh vc) (k : Int) (hk : atM D k = 0) : (readM D k).length = 64 := by
  obtain ⟨As, cs, rfl, hsl, _⟩ := Kd.R_reads h.sec
  obtain ⟨Ah, ch, rfl, hhl, _⟩ := Kd.R_reads h.held
  have hkb : 0 ≤ k ∧ k < (D.sec.length : Int) := by
    unfold atM at hk
    split at hk
    · omega
    · split at hk
      · omega
      · omega
  exact readTo_length ((sec_load h.sec k.toNat (by omega)).elim fun _ h => h.2.1) (fun j hj => (held_load h.held j hj).elim fun _ h => h.2.1) _ (Nat.le_refl _)
theorem readsTo_length (h : DAt w B g F D vs vh vc) (k : Int) (N : Nat) (hk : ∀ i : Nat, i < N → atM D (k + i) = 0) : ∀ i, i ≤ N → (readsTo D k i).length = i * 64
  | 0, _ => rfl
  | i + 1, hi => by
    rw [readsTo, List.length_append, readsTo_length h k N hk i (by omega), read_length h _ (hk i (by omega))]
    omega
set_option maxHeartbeats 8000000 in
theorem Load_fails (h : DAt w B g F D vs vh vc) (hok : DOk D) (k n : Int) (h1 : -9223372036854775808 ≤ n) (h2 : n ≤ 9223372036854775807) (he : loadE D k n ≠ 0) :
    Calls Tryz.prog 70 #[.pointer (some ⟨g, 0, none⟩), .int .i64 k, .int .i64 n] w fun e w' => e = .returned (.tuple #[.slice none 0 0, .int .i64 (loadE D k n)]) ∧ ∃ m, w' = w.drewN m := by
  have H := Aside0.mk h
  have HOK := Aside0.mk hok
  have N1 := Aside0.mk h1
  have N2 := Aside0.mk h2
  clear h hok h1 h2
  cases hd : D.down with
  | true =>
    have hq := Lib.hid (show loadE D k n = 60 by simp [loadE, hd])
    have hr := Lib.hid (show readyM D = 60 by simp [readyM, hd])
    clear hd he
    go_enter Tryz.func70, Tryz.ntmps70
    go_wp2_with (first | (go_at_call 56; refine (ready_calls H.out).mono ?_; rintro e w' ⟨rfl, rfl⟩; rw [hr.out]))
    refine bodyPost_ret (results_tmp2 rfl _ _ _) rfl ?_
    exact ⟨by rw [hq.out] <;> rfl, 0, rfl⟩
  | false =>
    have hr := Lib.hid (show readyM D = 0 by simp [readyM, hd])
    by_cases hn : n < 0
    · have hq := Lib.hid (show loadE D k n = 1 by simp [loadE, hd, hn])
      clear hd he
      go_enter Tryz.func70, Tryz.ntmps70
      go_wp2_with (first | (go_at_call 56; refine (ready_calls H.out).mono ?_; rintro e w' ⟨rfl, rfl⟩; rw [hr.out]))
      refine bodyPost_ret (results_tmp2 rfl _ _ _) rfl ?_
      exact ⟨by rw [hq.out] <;> rfl, 0, rfl⟩
    · have hq := Lib.hid (show loadE D k n = spanM D k n by simp [loadE, hd, hn])
      rw [hq.out] at he
      obtain ⟨q, hq0⟩ : ∃ q, spanM D k n = q := ⟨_, rfl⟩
      have HQ := Lib.hid hq0
      rw [hq0] at he
      clear hd hq0
      go_enter Tryz.func70, Tryz.ntmps70
      go_wp2_with (first | (go_at_call 56; refine (ready_calls H.out).mono ?_; rintro e w' ⟨rfl, rfl⟩; rw [hr.out]) | (go_at_call 71; refine (span_calls H.out HOK.out k n N1.out N2.out).mono ?_; rintro e w' ⟨rfl, m, rfl⟩; rw [HQ.out]))
      refine bodyPost_ret (results_tmp2 rfl _ _ _) rfl ?_
      exact ⟨by rw [hq.out, HQ.out] <;> rfl, _, rfl⟩
set_option maxHeartbeats 8000000 in
theorem Load_own (h : DAt w B g F D vs vh vc) (hok : DOk D) (k : Int) (n0 : Nat) (h2 : (n0 : Int) ≤ 9223372036854775807) (he : loadE D k n0 = 0) :
    Calls Tryz.prog 70 #[.pointer (some ⟨g, 0, none⟩), .int .i64 k, .int .i64 n0] w fun e w' => ∃ A, e = .returned (.tuple #[.slice A n0 n0, .int .i64 0]) ∧ Kd.C (Kd.int .u8) w' A n0 ((readsTo D k ((n0 + 63) / 64)).take n0) ∧ Below w.heap.size w w' ∧ (∀ a, A = some a → w.heap.size ≤ a.block ∧ a.block < w'.heap.size) ∧ ∃ c, Kd.R (Kd.int .u8) 5 w' w.heap.size (fun k => w.heap.size ≤ k) (.slice A n0 c) ((readsTo D k ((n0 + 63) / 64)).take n0) := by
  have H := Aside0.mk h
  have HOK := Aside0.mk hok
  have N2 := Aside0.mk h2
  have hd : D.down = false := by
    cases hd : D.down
    · rfl
    · simp [loadE, hd] at he
  have hsp : spanM D k n0 = 0 := by
    simp only [loadE, hd] at he
    rw [if_neg (by simp), if_neg (by omega)] at he
    exact he
  obtain ⟨_, hk0, hk1, hk2⟩ := spanM_zero hsp
  obtain ⟨k0, rfl⟩ : ∃ n : Nat, k = n := ⟨k.toNat, by omega⟩
  rw [need_nat] at hk2
  obtain ⟨M, hM⟩ : ∃ M, M = (n0 + 63) / 64 := ⟨_, rfl⟩
  rw [← hM] at hk2 ⊢
  have hn1 := hok.n1
  have hkM : k0 + M ≤ D.sec.length := by omega
  have hat : ∀ i : Nat, i < M → atM D ((k0 : Int) + i) = 0 := fun i hi => by
    unfold atM
    rw [if_neg (by simp [hd]), if_neg (by omega)]
  have HAT := Aside0.mk hat
  have hr := Lib.hid (show readyM D = 0 by simp [readyM, hd])
  have HSP := Lib.hid hsp
  have HND := Lib.hid (show needM n0 = (M : Int) by rw [need_nat, hM])
  have hM1 : n0 ≤ M * 64 := by omega
  have hM2 : M ≤ 16384 := by omega
  have hn0 : n0 ≤ 1048576 := by omega
  clear h hok h2 he hsp hat hk0 hk1 hk2 hd hM
  go_enter Tryz.func70, Tryz.ntmps70
  go_wp2_with (first | (go_at_call 56; refine (ready_calls H.out).mono ?_; rintro e w' ⟨rfl, rfl⟩; rw [hr.out]) | (go_at_call 71; refine (span_calls H.out HOK.out k0 n0 (by omega) N2.out).mono ?_; rintro e w' ⟨rfl, m, rfl⟩; rw [HSP.out]) | (go_at_call 72; refine (need_calls n0 (by omega) N2.out).mono ?_; rintro e w' ⟨rfl, rfl⟩; rw [HND.out]))
  go_loopw [10, 11, 12, 13, 30, 33] (fun v10 v11 v12 v13 v30 v33 w' => ∃ i : Nat, v30 = .int .i64 i ∧ i ≤ M ∧ Aside0 (Kd.R (Kd.int .u8) 5 w' w.heap.size (fun k => w.heap.size ≤ k) v10 (readsTo D k0 i)) ∧ Aside0 (Below w.heap.size w w')) (fun _ _ _ _ v30 _ _ => M - (intOf v30).toNat)
  case atStart => exact ⟨0, rfl, Nat.zero_le _, ⟨Kd.R_nil _ _ _ _ _⟩, ⟨pw_below_drewN (Below.refl _ _) _⟩⟩
  case round =>
    obtain ⟨i, rfl, hi, HR, HV⟩ := hrel
    by_cases hlt : i < M
    · have HD := Aside0.mk (H.out.below HV.out)
      have HATi := Aside0.mk (HAT.out i hlt)
      have HP := Aside0.mk (show readsTo D k0 (i + 1) = readsTo D k0 i ++ readM D ((k0 : Int) + i) by rw [readsTo])
      have HLR := Aside0.mk (readsTo_length HD.out k0 M HAT.out i hi)
      go_wp2_with (first | (go_at_call 68; refine (Read_calls HD.out HOK.out ((k0 : Int) + i) HATi.out).mono ?_; rintro e w3 ⟨rfl, h64, hb3, hB3⟩; have HB3 := Aside0.mk hB3; have HV3 := Aside0.mk (Below.trans HV.out (Below.mono HB3.out HV.out.size)); have HRW := Aside0.mk (Kd.R_below HR.out HB3.out); have HC := C_block hb3 (by omega); rw [h64] at HC; have HC' := Aside0.mk HC; clear h64 hb3 hB3 HC) | ((with_reducible refine gate_builtin (b := .append) (xs := #[.tmp 41, .tmp 42]) rfl ?_); at_builtin; refine Kd.R_append_rows (Kd.int .u8) (Rr := (Kd.int .u8).K wr) (w0 := w) w.heap.size rfl (.tmp 41) (.tmp 42) 22 5 (.int .u8 0) 1 rfl Tryz.underlying22 info5 rfl (by decide) (by omega) _ (readsTo D k0 i) (readM D ((k0 : Int) + i)) (some ⟨wr.heap.size, 0, none⟩) 64 64 (fun k => w.heap.size ≤ k) (fun _ => False) rfl rfl HRW.out HC'.out (fun _ _ h => h) (fun _ h => h.elim) (fun _ h => Nat.le_trans HV3.out.size h) HV3.out HV3.out.size ?aL ?_; (case aL => rw [HLR.out]; omega); intro v1 w1 hr1 hb1 hg1 _; have HR1 := Aside0.mk hr1; have HB1 := Aside0.mk hb1; clear hr1 hb1 hg1))
      go_roundw
      case rel => exact ⟨i + 1, by go_num, by omega, ⟨by rw [HP.out]; exact HR1.out⟩, HB1⟩
      case measure => simp [intOf]; omega
    · obtain rfl : i = M := by omega
      have HLR := readsTo_length (H.out.below HV.out) k0 i HAT.out i hi
      obtain ⟨A1, c1, rfl, hc1, hC1⟩ := Kd.R_reads HR.out
      rw [HLR] at hc1
      have HC1 := Aside0.mk hC1
      have HOW := Aside0.mk (show ∀ a, A1 = some a → w.heap.size ≤ a.block ∧ a.block < wr.heap.size from fun a ha => by
        subst ha
        exact ⟨HR.out.1 a.block rfl, Kd.R_lt HR.out a.block rfl⟩)
      have HL := Aside0.mk HLR
      have HRO := Aside0.mk HR.out
      clear hC1
      simp only [HLR]
      clear HLR
      go_wp2
      refine bodyPost_ret (results_tmp2 rfl _ _ _) rfl ?_
      have hC := C_take HC1.out n0
      rw [show ((readsTo D (k0 : Int) i).take n0).length = n0 by rw [List.length_take, HL.out]; omega] at hC
      exact ⟨A1, rfl, hC, HV.out, HOW.out, c1, Kd.R_take HRO.out (m := n0) (by rw [HL.out]; omega)⟩
end Go.Proofs.YtmblnflfklmmkaaGreatDoor.Dk
/- Contracts of package disk: Save. -/
namespace Go.Proofs.YtmblnflfklmmkaaGreatDoor.Dk
open Go.RowKit Go.Proofs.YtmblnflfklmmkaaGreatDoorW.PrintWords Go.Proofs.YtmblnflfklmmkaaGreatDoorW.PrintLast Go.Proofs.YtmblnflfklmmkaaGreatDoorW.PrintMore
set_option linter.unusedVariables false
set_option linter.unusedSimpArgs false
set_option maxRecDepth 30000
section
variable {P : Program} {ops : Array Oper} {Q : Exit → Act → World → Prop}
theorem copy_step {o : Oper} {N : Option Tmp} {a : Act} {w w1 : World} {v vs vx : Value} {K : Act → World → Prop} (hw : Region.wanted o (yielded ops a.tmps) = true) (hN : o.dst = N) (s x : Operand) (t t' : TypeId)
    (ho : o.op = .call { callee := .builtin .copy, args := #[s, x], argTypes := #[t, t'] }) (hs : a.eval s = vs) (hx : a.eval x = vx) (hr : ∀ ty, (Builtin.copy_ #[t, t'] ty #[vs, vx]).run P w = .ok v w1)
    (h : K (a.put N v) w1) : if Region.wanted o (yielded ops a.tmps) = true then Oper.wp P o a w K Q else K (a.put N undef) w := by
  rw [if_pos hw]
  unfold Oper.wp execOp
  simp only [ho, resolve, invoke, builtin, Sem.run_bind, Sem.run_pure, Result.andThen_ok, List.map_toArray, List.map_cons, List.map_nil, hs, hx, hr]
  show K (a.put o.dst v) w1
  rw [hN]
  exact h
end
variable {w W W1 : World} {B g N : Nat} {F : Nat → Prop} {D : DM} {vs vh vc : Value}
theorem Write_calls64 (h : DiskAt w B g F D) (hok : DOk D) (hn : D.held.length < 10000000) (k : Int) (A : Option Addr) (c : Nat) (x : List Int) (hx : x.length = 64) (hC : Kd.C (Kd.int .u8) w A 64 x) :
    Calls Tryz.prog 35 #[.pointer (some ⟨g, 0, none⟩), .int .i64 k, .slice A 64 c] w fun e w' => e = .returned (.int .i64 (writeM D k x).2) ∧ DiskAt w' B g (Grow F w w') (writeM D k x).1 ∧ Upd w w' F := by
  obtain ⟨vs, vh, vc, h⟩ := h
  have := Write_calls h hok hn k A c x (by rw [hx]; exact hC)
  rwa [hx] at this
theorem loseM_held (l : List Bool) : (loseM l D).held.length ≤ D.held.length := by
  unfold loseM
  split
  · exact Nat.le_refl _
  · exact Nat.zero_le _
theorem goesM_held : (goesM D).1.held = D.held := by
  unfold goesM
  split
  · rfl
  · split <;> rfl
theorem writeM_held (k : Int) (x : List Int) : (writeM D k x).1.held.length ≤ D.held.length + 1 := by
  unfold writeM
  split
  · exact Nat.le_succ _
  · split
    · exact Nat.le_succ _
    · have h1 : (goesM (holdM D k x)).1.held.length = D.held.length + 1 := by rw [goesM_held]; simp [holdM]
      split
      · exact Nat.le_trans (loseM_held _) (Nat.le_of_eq h1)
      · exact Nat.le_of_eq h1
/-- The i-th piece of 64 bytes, the last one filled up. -/
def secAt (x : List Int) (i : Nat) : List Int := (x.drop (i * 64)).take 64 ++ List.replicate (64 - min (x.length - i * 64) 64) 0
theorem secAt_length (x : List Int) (i : Nat) : (secAt x i).length = 64 := by simp [secAt]; omega
def saveFrom (x : List Int) (k : Int) : Nat → Nat → DM → DM × Int
  | 0, _, D => (D, 0)
  | m + 1, i, D => if (writeM D (k + i) (secAt x i)).2 ≠ 0 then writeM D (k + i) (secAt x i) else saveFrom x k m (i + 1) (writeM D (k + i) (secAt x i)).1
def saveM (D : DM) (k : Int) (x : List Int) : DM × Int := if spanM D k x.length ≠ 0 then (D, spanM D k x.length) else saveFrom x k ((x.length + 63) / 64) 0 D
theorem run_copy_sector {w : World} {g9 : Nat} {ad : Addr} {x : List Int} (i c : Nat) (hi : i * 64 < x.length) (hg : w.heap[g9]? = some (.cells zs64 78 (0, 0))) (hC : ∀ j v, x[j]? = some v → w.cell? (ad.add j) = some (.int .u8 v)) (hadd : ∀ a b, (ad.add a).add b = ad.add (a + b)) (ty : TypeId) :
    (Builtin.copy_ #[22, 22] ty #[.slice (some ⟨g9, 0, none⟩) 64 64, .slice (some (ad.add (i * 64))) (x.length - i * 64) c]).run Tryz.prog w = .ok (goInt ((x.drop (i * 64)).take 64).length) (w.setRow g9 (nums .u8 (secAt x i)).toArray) := by
  have hz : zs64.toList = List.replicate 64 (.int .u8 0) := by
    unfold zs64
    simp
  have := run_copy_row (P := Tryz.prog) w 22 22 ty 5 g9 0 64 64 (ad.add (i * 64)) (x.length - i * 64) c zs64 78 (nums .u8 ((x.drop (i * 64)).take 64)) Tryz.underlying22 (by kernel_rfl) hg (by rw [nums_length, List.length_take, List.length_drop]; exact Nat.min_comm _ _) (fun j v hj => by
    simp only [nums, List.getElem?_map, Option.map_eq_some_iff] at hj
    obtain ⟨q, hq, rfl⟩ := hj
    rw [List.getElem?_take] at hq
    split at hq
    · rw [List.getElem?_drop] at hq
      rw [hadd]
      exact hC _ _ hq
    · cases hq) (by rw [nums_length, List.length_take, zs64_size]; omega) (fun v hv => by
    simp only [nums, List.mem_map] at hv
    obtain ⟨_, _, rfl⟩ := hv
    rfl)
  rw [nums_length] at this
  rw [this]
  congr 3
  rw [hz, List.drop_replicate]
  simp only [secAt, nums, List.map_append, List.map_replicate, List.take_zero, List.nil_append, List.length_take, List.length_drop, Nat.zero_add, Nat.min_comm]
theorem cell_kept {p : Addr} {v : Value} (h : w.cell? p = some v) (hb : Below w.heap.size w W) : W.cell? p = some v := by
  have hp : p.block < w.heap.size := by
    unfold World.cell? at h
    split at h
    · rename_i hq; exact blk_lt hq
    · cases h
  rw [hb.cell hp]
  exact h
theorem DiskAt.regrow2 {w0 w1 w2 w3 : World} (h : DiskAt w3 B g (Grow (Grow F w0 w1) w2 w3) D) (h1 : w1.heap.size ≤ w3.heap.size) (h2 : w0.heap.size ≤ w2.heap.size) (hB : B ≤ w0.heap.size) (hl : ∀ k, F k → B ≤ k ∧ k < w0.heap.size) (h03 : w0.heap.size ≤ w3.heap.size) : DiskAt w3 B g (Grow F w0 w3) D := by
  obtain ⟨a, b, c, h⟩ := h
  refine ⟨a, b, c, h.mono (fun k hk => ?_) (fun k hk => ?_)⟩
  · rcases hk with (hk | hk) | hk
    · exact .inl hk
    · exact .inr ⟨hk.1, by omega⟩
    · exact .inr ⟨by omega, hk.2⟩
  · rcases hk with hk | hk
    · exact ⟨(hl k hk).1, by have := (hl k hk).2; omega⟩
    · exact ⟨by omega, hk.2⟩
theorem upd_block (W : World) (cs cs' : Array Value) (e : TypeId) : Upd W ((W.alloc (.cells cs e)).drew.setRow W.heap.size cs') (· = W.heap.size) :=
  ((((Upd.refl W (· = W.heap.size)).alloc (.cells cs e)).drew).trans (upd_setRow _ W.heap.size cs') (fun k hk => .inl hk))
theorem DiskAt.frame {w1 : World} {G : Nat → Prop} (h : DiskAt w B g F D) (hu : Upd w w1 G) (hd : ∀ k, k < w.heap.size → F k → ¬ G k) : DiskAt w1 B g F D := by
  obtain ⟨a, b, c, h⟩ := h
  exact ⟨a, b, c, DAt.frame h hu (fun k hk => hd k (h.lt k hk).2 hk)⟩
set_option maxHeartbeats 8000000 in
theorem Save_calls (h : DAt w B g F D vs vh vc) (hok : DOk D) (hn : D.held.length + 20000 ≤ 10000000) (k : Int) (A : Option Addr) (c : Nat) (x : List Int) (hx : x.length ≤ 1000000000) (hxc : x.length ≤ c) (hC : ∀ W, Upd w W F → Kd.C (Kd.int .u8) W A x.length x) :
    Calls Tryz.prog 59 #[.pointer (some ⟨g, 0, none⟩), .int .i64 k, .slice A x.length c] w fun e w' => e = .returned (.int .i64 (saveM D k x).2) ∧ DiskAt w' B g (Grow F w w') (saveM D k x).1 ∧ Upd w w' F := by
  have H := Aside0.mk h
  have HOK := Aside0.mk hok
  have HC := Aside0.mk hC
  have HN := Aside0.mk hn
  have HB := Aside0.mk h.hB
  clear h hok hC hn
  by_cases hs : spanM D k x.length = 0
  · obtain ⟨hd, hk0, hk1, hk2⟩ := spanM_zero hs
    obtain ⟨k0, rfl⟩ : ∃ n : Nat, k = n := ⟨k.toNat, by omega⟩
    rw [need_nat] at hk2
    obtain ⟨M, hM⟩ : ∃ M, M = (x.length + 63) / 64 := ⟨_, rfl⟩
    rw [← hM] at hk2
    have hn1 := HOK.out.n1
    have hkM : k0 + M ≤ D.sec.length := by omega
    have hM2 : M ≤ 16384 := by omega
    have HND := Lib.hid (show needM x.length = (M : Int) by rw [need_nat, hM])
    have HS := Lib.hid hs
    have hq := Lib.hid (show saveM D k0 x = saveFrom x k0 M 0 D by simp [saveM, hs, hM])
    have HM := Aside0.mk hM
    clear hs hk0 hk1 hk2 hd hM
    go_enter Tryz.func59, Tryz.ntmps59
    go_wp2_with (first | (go_at_call 71; refine (span_calls H.out HOK.out k0 x.length (by omega) (by omega)).mono ?_; rintro e w' ⟨rfl, m, rfl⟩; rw [HS.out]) | (go_at_call 72; refine (need_calls x.length (by omega) (by omega)).mono ?_; rintro e w' ⟨rfl, rfl⟩; rw [HND.out]))
    go_loopw [8, 9, 10, 22] (fun v8 v9 v10 v22 w' => ∃ (i : Nat) (D' : DM), v22 = .int .i64 i ∧ i ≤ M ∧ Aside0 (saveFrom x k0 M 0 D = saveFrom x k0 (M - i) i D') ∧ Aside0 (DiskAt w' B g (Grow F w w') D') ∧ Aside0 (DOk D') ∧ Aside0 (D'.held.length ≤ D.held.length + i) ∧ Aside0 (Upd w w' F)) (fun _ _ _ v22 _ => M - (intOf v22).toNat)
    case atStart => exact ⟨0, D, rfl, Nat.zero_le _, ⟨rfl⟩, ⟨_, _, _, (H.out.drewN _).grow HB.out⟩, HOK, ⟨Nat.le_refl _⟩, ⟨(Upd.refl _ _).drewN _⟩⟩
    case round =>
      obtain ⟨i, D', rfl, hi, HE, HD, HO, HL, HU⟩ := hrel
      by_cases hlt : i < M
      · have hi64 : i * 64 < x.length := by have := HM.out; omega
        obtain ⟨c1, c2, c3⟩ := HC.out wr HU.out
        obtain ⟨ad, hA, hcc⟩ := c3 (by omega)
        subst hA
        have hw4 : wrap64 ((i : Int) * 64) = (i : Int) * 64 := by simp only [wrap64]; omega
        have htn : ((i : Int) * 64).toNat = i * 64 := by omega
        have HG9 := Aside0.mk (blk_drew (heap_alloc_new wr (.cells zs64 78)))
        have hcell : ∀ j v, x[j]? = some v → (wr.alloc (.cells zs64 78)).drew.cell? (ad.add j) = some (.int .u8 v) := fun j v hj => by
          obtain ⟨cs, _, hK, hx1⟩ := hcc j v hj
          have := hx1 0 (.int .u8 v) (by rw [hK]; rfl)
          have := cell_kept this (below_drew (below_alloc (Below.refl wr.heap.size wr) (.cells zs64 78)))
          simpa [Kd.int, Kd.scalar] using this
        have hif : (if c = i * 64 then some ad else some (ad.add (i * 64))) = some (ad.add (i * 64)) := if_neg (by omega)
        have HCP := Aside0.mk (run_copy_sector i (c - i * 64) hi64 HG9.out hcell (Addr.add_add ad))
        rw [← hif] at HCP
        clear hif
        have HU9 := Aside0.mk (upd_block wr zs64 (nums .u8 (secAt x i)).toArray 78)
        have HC9 := Aside0.mk (show Kd.C (Kd.int .u8) ((wr.alloc (.cells zs64 78)).drew.setRow wr.heap.size (nums .u8 (secAt x i)).toArray) (some ⟨wr.heap.size, 0, none⟩) 64 (secAt x i) by
          have := C_block (setRow_heap _ _ _ (nums .u8 (secAt x i)).toArray _ _ HG9.out) (by rw [secAt_length]; omega)
          rwa [secAt_length] at this)
        have HD9 := Aside0.mk (HD.out.frame HU9.out (fun k hk _ => by omega))
        have hL9 : D'.held.length < 10000000 := by have := HL.out; have := HN.out; omega
        have HL9 := Aside0.mk hL9
        obtain ⟨q, hq0⟩ : ∃ q, (writeM D' ((k0 : Int) + i) (secAt x i)).2 = q := ⟨_, rfl⟩
        have HQ := Lib.hid hq0
        have HU9' := Aside0.mk (HU.out.trans HU9.out (fun k hk => .inr (by rw [hk]; exact HU.out.size)))
        clear hcc c1 c2 c3 hcell hL9
        by_cases hqz : q = 0
        · subst hqz
          clear hq0
          have HE2 := Aside0.mk (show saveFrom x k0 M 0 D = saveFrom x k0 (M - (i + 1)) (i + 1) (writeM D' ((k0 : Int) + i) (secAt x i)).1 by rw [HE.out, show M - i = (M - (i + 1)) + 1 by omega, saveFrom, if_neg (by rw [HQ.out]; simp)])
          go_wp2_with (first | (refine wpList_alloc rfl rfl _ rfl zs64 (run_alloc64 _) ?_))
          refine start_ (n := 6) (S := fun w' => True) (ds := []) (bz 6 0) (by kernel_rfl) rfl rfl trivial (fun hHeld => ?_)
          refine pz 0 (some 25) (bz 6 1) ?_
          refine pz 1 (some 26) (bz 6 3) ?_
          refine pz 2 (some 27) (bz 6 7) ?_
          refine pure_ (i := 3) (N := some 28) (v := ?_) (a' := ?_) (bz 6 15) rfl rfl (by kernel_rfl) (fun _ _ _ h => h) (Or.inl ⟨by rfl, ?_⟩) ?_ ?_
          rotate_left
          · intro w'
            go_simp
            (try rw [hw4])
            (try with_reducible rfl)
          rotate_left
          · simp only [Act.put, List.setIfInBounds_toArray, List.set_cons_zero, List.set_cons_succ, i64_w, i32_w]
            rfl
          refine pure_ (i := 4) (N := some 29) (v := ?_) (a' := ?_) (bz 6 31) rfl rfl (by kernel_rfl) (fun _ _ _ h => h) (Or.inl ⟨by rfl, ?_⟩) ?_ ?_
          rotate_left
          · intro w'
            go_simp
            (try simp only [htn])
            (try rw [if_pos ⟨by omega, by omega⟩])
            (try rw [if_neg (by omega)])
            (try with_reducible rfl)
          rotate_left
          · simp only [Act.put, List.setIfInBounds_toArray, List.set_cons_zero, List.set_cons_succ, i64_w, i32_w]
            rfl
          refine one_ (i := 5) (N := some 30) (bz 6 63) rfl rfl (by kernel_rfl) (by decide) (fun K hK => ?_)
          refine copy_step (by rfl) rfl (.tmp 25) (.tmp 29) 22 22 rfl rfl rfl HCP.out ?_
          refine hK.out _ _ trivial (fun hHeld => ?_)
          clear hK K
          refine norm_ (a' := ?_) ?_ ?_
          rotate_left
          · show Act.put _ (some 30) _ = _
            simp only [Act.put, List.setIfInBounds_toArray, List.set_cons_zero, List.set_cons_succ, i64_w, i32_w]
            rfl
          refine done_ (by kernel_rfl) ?_

          go_wp2_with (first | (go_at_call 35; refine (Write_calls64 HD9.out HO.out HL9.out ((k0 : Int) + i) _ 64 (secAt x i) (secAt_length x i) HC9.out).mono ?_; rintro e w5 ⟨rfl, h5, hu5⟩; rw [HQ.out]; have H5 := Aside0.mk h5; have HU5 := Aside0.mk hu5; clear h5 hu5))
          go_roundw
          case rel => exact ⟨i + 1, _, by go_num, by omega, HE2, ⟨H5.out.regrow2 (Nat.le_trans HU9.out.size HU5.out.size) HU9'.out.size HB.out H.out.lt (Nat.le_trans HU9'.out.size HU5.out.size)⟩, ⟨writeM_ok HO.out HL9.out⟩, ⟨by have := writeM_held (D := D') ((k0 : Int) + i) (secAt x i); have := HL.out; omega⟩, ⟨HU9'.out.trans HU5.out (fun k hk => hk.elim .inl (fun h => .inr h.1))⟩⟩
          case measure => simp [intOf]; omega
        · clear hq0
          have HE2 := Lib.hid (show saveM D k0 x = writeM D' ((k0 : Int) + i) (secAt x i) by rw [hq.out, HE.out, show M - i = (M - (i + 1)) + 1 by omega, saveFrom, if_pos (by rw [HQ.out]; exact hqz)])
          go_wp2_with (first | (refine wpList_alloc rfl rfl _ rfl zs64 (run_alloc64 _) ?_))
          refine start_ (n := 6) (S := fun w' => True) (ds := []) (bz 6 0) (by kernel_rfl) rfl rfl trivial (fun hHeld => ?_)
          refine pz 0 (some 25) (bz 6 1) ?_
          refine pz 1 (some 26) (bz 6 3) ?_
          refine pz 2 (some 27) (bz 6 7) ?_
          refine pure_ (i := 3) (N := some 28) (v := ?_) (a' := ?_) (bz 6 15) rfl rfl (by kernel_rfl) (fun _ _ _ h => h) (Or.inl ⟨by rfl, ?_⟩) ?_ ?_
          rotate_left
          · intro w'
            go_simp
            (try rw [hw4])
            (try with_reducible rfl)
          rotate_left
          · simp only [Act.put, List.setIfInBounds_toArray, List.set_cons_zero, List.set_cons_succ, i64_w, i32_w]
            rfl
          refine pure_ (i := 4) (N := some 29) (v := ?_) (a' := ?_) (bz 6 31) rfl rfl (by kernel_rfl) (fun _ _ _ h => h) (Or.inl ⟨by rfl, ?_⟩) ?_ ?_
          rotate_left
          · intro w'
            go_simp
            (try simp only [htn])
            (try rw [if_pos ⟨by omega, by omega⟩])
            (try rw [if_neg (by omega)])
            (try with_reducible rfl)
          rotate_left
          · simp only [Act.put, List.setIfInBounds_toArray, List.set_cons_zero, List.set_cons_succ, i64_w, i32_w]
            rfl
          refine one_ (i := 5) (N := some 30) (bz 6 63) rfl rfl (by kernel_rfl) (by decide) (fun K hK => ?_)
          refine copy_step (by rfl) rfl (.tmp 25) (.tmp 29) 22 22 rfl rfl rfl HCP.out ?_
          refine hK.out _ _ trivial (fun hHeld => ?_)
          clear hK K
          refine norm_ (a' := ?_) ?_ ?_
          rotate_left
          · show Act.put _ (some 30) _ = _
            simp only [Act.put, List.setIfInBounds_toArray, List.set_cons_zero, List.set_cons_succ, i64_w, i32_w]
            rfl
          refine done_ (by kernel_rfl) ?_

          go_wp2_with (first | (go_at_call 35; refine (Write_calls64 HD9.out HO.out HL9.out ((k0 : Int) + i) _ 64 (secAt x i) (secAt_length x i) HC9.out).mono ?_; rintro e w5 ⟨rfl, h5, hu5⟩; rw [HQ.out]; have H5 := Aside0.mk h5; have HU5 := Aside0.mk hu5; clear h5 hu5))
          go_ret
          exact ⟨by rw [HE2.out, HQ.out] <;> rfl, by rw [HE2.out]; exact H5.out.regrow2 (Nat.le_trans HU9.out.size HU5.out.size) HU9'.out.size HB.out H.out.lt (Nat.le_trans HU9'.out.size HU5.out.size), HU9'.out.trans HU5.out (fun k hk => hk.elim .inl (fun h => .inr h.1))⟩
      · obtain rfl : i = M := by omega
        have HE' := Lib.hid (show saveM D k0 x = (D', 0) by rw [hq.out, HE.out, Nat.sub_self]; rfl)
        clear hq
        go_wp2
        go_ret
        exact ⟨by rw [HE'.out] <;> rfl, by rw [HE'.out]; exact HD.out, HU.out⟩
  · have hq := Lib.hid (show saveM D k x = (D, spanM D k x.length) by simp [saveM, hs])
    obtain ⟨q, hq0⟩ : ∃ q, spanM D k x.length = q := ⟨_, rfl⟩
    have HQ := Lib.hid hq0
    rw [hq0] at hs
    clear hq0
    go_enter Tryz.func59, Tryz.ntmps59
    go_wp2_with (first | (go_at_call 71; refine (span_calls H.out HOK.out k x.length (by omega) (by omega)).mono ?_; rintro e w' ⟨rfl, m, rfl⟩; rw [HQ.out]))
    go_ret
    refine ⟨by rw [hq.out, HQ.out] <;> rfl, ?_, (Upd.refl _ _).drewN _⟩
    rw [hq.out]
    exact ⟨_, _, _, (H.out.drewN _).grow HB.out⟩
end Go.Proofs.YtmblnflfklmmkaaGreatDoor.Dk
/- Contracts of package disk: New. -/
namespace Go.Proofs.YtmblnflfklmmkaaGreatDoor.Dk
open Go.RowKit Go.Proofs.YtmblnflfklmmkaaGreatDoorW.PrintWords Go.Proofs.YtmblnflfklmmkaaGreatDoorW.PrintLast Go.Proofs.YtmblnflfklmmkaaGreatDoorW.PrintMore
set_option linter.unusedVariables false
set_option linter.unusedSimpArgs false
set_option maxRecDepth 30000
variable {w W W1 : World} {B g N : Nat} {F : Nat → Prop} {D : DM} {vs vh vc : Value}
def newBad (x : List Int) (n : Int) : Prop := n < 1 ∨ 16384 < n ∨ n * 64 < (x.length : Int)
/-- The disk of n sectors, the first i of them filled. -/
def secTo (x : List Int) (n i : Nat) : List (List Int) := (List.range i).map (secAt x) ++ List.replicate (n - i) (List.replicate 64 0)
theorem secTo_length (x : List Int) (n i : Nat) (h : i ≤ n) : (secTo x n i).length = n := by simp only [secTo, List.length_append, List.length_map, List.length_range, List.length_replicate]; omega
theorem secTo_split (x : List Int) (n i : Nat) (h : i < n) : secTo x n i = (List.range i).map (secAt x) ++ List.replicate 64 0 :: List.replicate (n - (i + 1)) (List.replicate 64 0) := by
  unfold secTo
  rw [show n - i = (n - (i + 1)) + 1 by omega, List.replicate_succ]
theorem secTo_next (x : List Int) (n i : Nat) : secTo x n (i + 1) = (List.range i).map (secAt x) ++ secAt x i :: List.replicate (n - (i + 1)) (List.replicate 64 0) := by
  unfold secTo
  rw [List.range_succ, List.map_append, List.append_assoc]
  rfl
theorem secTo_get (x : List Int) (n i : Nat) (h : i < n) : (secTo x n i).getD i [] = List.replicate 64 0 := by
  rw [secTo_split x n i h, List.getD_eq_getElem?_getD, List.getElem?_append_right (by simp)]
  rw [List.length_map, List.length_range, Nat.sub_self]
  rfl
theorem secTo_set (x : List Int) (n i : Nat) (h : i < n) : (secTo x n i).set i (secAt x i) = secTo x n (i + 1) := by
  rw [secTo_split x n i h, secTo_next, List.set_append_right _ _ (by simp), List.length_map, List.length_range, Nat.sub_self]
  rfl
theorem secTo_skip (x : List Int) (n i : Nat) (h : i < n) (hx : x.length ≤ i * 64) : secTo x n (i + 1) = secTo x n i := by
  have e : secAt x i = List.replicate 64 0 := by
    unfold secAt
    rw [List.drop_of_length_le hx, List.take_nil, List.nil_append, show x.length - i * 64 = 0 by omega, Nat.zero_min, Nat.sub_zero]
  rw [secTo_next, e, secTo_split x n i h]
def newM (x : List Int) (n i : Nat) : DM := { sec := secTo x n i, held := [], down := false, strokes := 0, left := 0, set := false, choice := [] }
set_option maxHeartbeats 8000000 in
theorem New_calls (A : Option Addr) (c : Nat) (x : List Int) (n : Nat) (hx : x.length ≤ 1000000000) (hxc : x.length ≤ c) (hC : Kd.C (Kd.int .u8) w A x.length x) (hok : ¬ newBad x n) :
    Calls Tryz.prog 20 #[.slice A x.length c, .int .i64 n] w fun e w' => ∃ g, e = .returned (.tuple #[.pointer (some ⟨g, 0, none⟩), .int .i64 0]) ∧ DiskAt w' w.heap.size g (fun k => w.heap.size ≤ k ∧ k < w'.heap.size) (newM x n n) ∧ Below w.heap.size w w' := by
  have HC := Aside0.mk hC
  have hn1 : 1 ≤ n := by unfold newBad at hok; omega
  have hn2 : n ≤ 16384 := by unfold newBad at hok; omega
  have hn3 : x.length ≤ n * 64 := by unfold newBad at hok; omega
  clear hok hC
  go_enter Tryz.func20, Tryz.ntmps20
  go_wp2_with (first | (refine Kd.R_make kSec (w0 := w) w.heap.size 78 rfl (N := 23) rfl 73 (.tmp 22) (.tmp 22) rfl (n : Int) rfl rfl Tryz.underlying73 (.agg (List.replicate 64 (.int .u8 0)).toArray) 64 info64' rfl (by decide) (by decide) (List.replicate 64 0) (ok := fun k => w.heap.size ≤ k) (okp := fun _ => False) ⟨rfl, rfl⟩ (fun _ h => h.elim) (Nat.le_refl _) (by omega) (by simp; omega) (Below.refl _ _) (Nat.le_refl _) ?_; intro v1 w1 hr1 hb1 hg1 _; rw [Int.toNat_natCast] at hr1; obtain ⟨A1, c1, rfl⟩ := Kd.R_slice hr1; have HR1 := Aside0.mk hr1; have HB1 := Aside0.mk hb1; clear hr1 hb1 hg1))
  have HC0 := Aside0.mk (show DAt (w1.alloc (.cells #[.slice A1 n c1, .slice none 0 0, .bool false, .int .i64 0, .int .i64 0, .bool false, .slice none 0 0] 76)) w.heap.size w1.heap.size (fun k => w.heap.size ≤ k ∧ k < (w1.alloc (.cells #[.slice A1 n c1, .slice none 0 0, .bool false, .int .i64 0, .int .i64 0, .bool false, .slice none 0 0] 76)).heap.size) (newM x n 0) (.slice A1 n c1) (.slice none 0 0) (.slice none 0 0) from by
    have h1 := Kd.R_below HR1.out (below_alloc (Below.refl w1.heap.size w1) (.cells #[.slice A1 n c1, .slice none 0 0, .bool false, .int .i64 0, .int .i64 0, .bool false, .slice none 0 0] 76))
    have hb := heap_alloc_new w1 (.cells #[.slice A1 n c1, .slice none 0 0, .bool false, .int .i64 0, .int .i64 0, .bool false, .slice none 0 0] 76)
    refine ⟨hb, ?_, Kd.R_nil _ _ _ _ _, Kd.R_nil _ _ _ _ _, ⟨HB1.out.size, blk_lt hb⟩, fun k hk => hk⟩
    rw [List.length_replicate] at h1
    have e : (newM x n 0).sec = List.replicate n (List.replicate 64 0) := by simp only [newM, secTo, List.range_zero, List.map_nil, List.nil_append, Nat.sub_zero]
    rw [e]
    exact Kd.R_mono (Kd.R_bound h1) (fun k hk => ⟨hk.1, hk.2.2.1⟩))
  have HB2 := Aside0.mk (below_alloc HB1.out (.cells #[.slice A1 n c1, .slice none 0 0, .bool false, .int .i64 0, .int .i64 0, .bool false, .slice none 0 0] 76))
  go_loopw [7, 8, 27] (fun v7 v8 v27 w' => ∃ i : Nat, v27 = .int .i64 i ∧ i ≤ n ∧ Aside0 (DAt w' w.heap.size w1.heap.size (fun k => w.heap.size ≤ k ∧ k < w'.heap.size) (newM x n i) (.slice A1 n c1) (.slice none 0 0) (.slice none 0 0)) ∧ Aside0 (Below w.heap.size w w')) (fun _ _ v27 _ => n - (intOf v27).toNat)
  case atStart => exact ⟨0, rfl, Nat.zero_le _, HC0, HB2⟩
  case round =>
    obtain ⟨i, rfl, hi, HD, HV⟩ := hrel
    by_cases hlt : i < n
    · by_cases h64 : i * 64 < x.length
      · have HX := Aside0.mk (Kd.C_below HC.out HV.out)
        obtain ⟨_, _, c3⟩ := HX.out
        obtain ⟨ad, hA, hcc⟩ := c3 (by omega)
        have hl := secTo_length x n i hi
        rcases R_cases HD.out.sec with ⟨_, hz⟩ | ⟨gs, cap, es, hgs⟩
        · have h0 : (secTo x n i).length = 0 := congrArg List.length hz
          omega
        injection es with e1 e2 e3
        subst e1
        clear e2 e3
        have hA' := hA
        subst hA
        have hcell : ∀ j v, x[j]? = some v → wr.drew.cell? (ad.add j) = some (.int .u8 v) := fun j v hj => by
          obtain ⟨cs, _, hK, hx1⟩ := hcc j v hj
          have := hx1 0 (.int .u8 v) (by rw [hK]; rfl)
          simpa [Kd.int, Kd.scalar] using this
        obtain ⟨ad2, cz, ez, hszz, hKz, hxz⟩ := Kd.C_get (Kd.R_reads' HD.out.sec).2.2 [] (i : Int) (by omega) (by show (i : Int) < ((secTo x n i).length : Int); omega)
        injection ez with ez
        subst ez
        rw [Int.toNat_natCast] at hKz hxz
        have hKz' : cz = nums .u8 (List.replicate 64 0) := by
          have := hKz.1
          rwa [show ((newM x n i).sec.getD i []) = List.replicate 64 0 from secTo_get x n i hlt] at this
        have hcc2 : ∀ j u, cz[j]? = some u → wr.drew.cell? ⟨gs, i * 64 + j, none⟩ = some u := fun j u hj => by
          have := hxz j u hj
          rw [add0] at this
          exact this
        obtain ⟨m, hm⟩ : ∃ m, m = min (x.length - i * 64) 64 := ⟨_, rfl⟩
        have hpl : ((x.drop (i * 64)).take 64).length = m := by rw [List.length_take, List.length_drop, hm, Nat.min_comm]
        have hczl : cz.length = 64 := hszz
        have hseg := Kd.R_seg (W := wr.drew) (g := gs) (cap := c1) (n := n) HD.out.sec (i : Int) (by omega) (by omega) hszz (j := 0) (seg := nums .u8 ((x.drop (i * 64)).take 64)) (x' := secAt x i) (okp := fun _ => False) (by intro j u hj; rw [Int.toNat_natCast]; exact hcc2 j u hj) (by rw [nums_length, hpl]; show 0 + m ≤ 64; omega) ⟨by
            rw [hKz', nums_length, hpl, Nat.zero_add, List.take_zero, List.nil_append]
            simp only [secAt, nums, List.map_append, List.map_replicate, List.drop_replicate, ← hm], secAt_length x i⟩ (fun _ h => h.elim)
        rw [Int.toNat_natCast, Nat.add_zero] at hseg
        obtain ⟨hrow, hgr⟩ := hseg
        have hif : (if c = i * 64 then some ad else some (ad.add (i * 64))) = some (ad.add (i * 64)) := if_neg (by omega)
        have HCP := Aside0.mk (fun ty => run_copy_cells (P := Tryz.prog) wr.drew 22 22 ty 5 gs (i * 64) 64 64 (ad.add (i * 64)) (x.length - i * 64) (c - i * 64) (nums .u8 ((x.drop (i * 64)).take 64)) Tryz.underlying22 (by kernel_rfl) (by rw [nums_length, hpl, hm]) (fun j v hj => by
          simp only [nums, List.getElem?_map, Option.map_eq_some_iff] at hj
          obtain ⟨q, hq, rfl⟩ := hj
          rw [List.getElem?_take] at hq
          split at hq
          · rw [List.getElem?_drop] at hq
            rw [Addr.add_add]
            exact hcell _ _ hq
          · cases hq) (fun j hj => by
          rw [nums_length, hpl] at hj
          obtain ⟨u, hu⟩ : ∃ u, cz[j]? = some u := ⟨cz[j]'(by omega), List.getElem?_eq_getElem _⟩
          rw [hcc2 j u hu]
          rfl) (fun j hj => by
          obtain ⟨inner, ho⟩ := Kd.R_own HD.out.sec
          obtain ⟨cells2, hc2⟩ := own_typed ho gs rfl
          exact blk_frozen (w := wr.drew) hc2 _) (fun v hv => by
          simp only [nums, List.mem_map] at hv
          obtain ⟨_, _, rfl⟩ := hv
          rfl))
        rw [← hif] at HCP
        have hw4 : wrap64 ((i : Int) * 64) = (i : Int) * 64 := by simp only [wrap64]; omega
        have htn : ((i : Int) * 64).toNat = i * 64 := by omega
        have c0 : wr.drew.cell? ⟨w1.heap.size, 0, none⟩ = some (.slice (some ⟨gs, 0, none⟩) n c1) := HD.out.c0
        have hgr' : wr.grownBy (wr.drew.setCells gs (i * 64) (nums .u8 ((x.drop (i * 64)).take 64))) (Value.slice (some ⟨gs, 0, none⟩) n c1).ownBlock := ⟨hgr.os, hgr.tape, hgr.output, hgr.size, hgr.block⟩
        have HD2 := Aside0.mk (show DAt (wr.drew.setCells gs (i * 64) (nums .u8 ((x.drop (i * 64)).take 64))) w.heap.size w1.heap.size (fun k => w.heap.size ≤ k ∧ k < (wr.drew.setCells gs (i * 64) (nums .u8 ((x.drop (i * 64)).take 64))).heap.size) (newM x n (i + 1)) (.slice (some ⟨gs, 0, none⟩) n c1) (.slice none 0 0) (.slice none 0 0) from by
          have hs := secTo_set x n i hlt
          refine ⟨blk_other HD.out.blk HD.out.sec (by decide) hgr', ?_, Kd.R_nil _ _ _ _ _, Kd.R_nil _ _ _ _ _, ⟨HD.out.own.1, Nat.lt_of_lt_of_le HD.out.own.2 hgr'.size⟩, fun k hk => hk⟩
          show Kd.R kSec 78 _ _ _ _ (secTo x n (i + 1))
          rw [← hs]
          exact Kd.R_mono hrow (fun k hk => ⟨hk.1, Nat.lt_of_lt_of_le hk.2 hgr'.size⟩))
        have HB3 := Aside0.mk (HV.out.trans (show Below w.heap.size wr (wr.drew.setCells gs (i * 64) (nums .u8 ((x.drop (i * 64)).take 64))) from ⟨hgr'.os, hgr'.tape, hgr'.output, hgr'.size, fun k hk => hgr'.block k (Nat.lt_of_lt_of_le hk HV.out.size) (fun he => by simp [Value.ownBlock] at he; omega)⟩))
        clear hcc hcell hxz hKz hKz' hcc2 hrow hgr hgr' hif c3 hpl hczl hszz
        go_wp2
        refine start_ (n := 11) (S := fun w' => w'.cell? ⟨w1.heap.size, 0, none⟩ = some (.slice (some ⟨gs, 0, none⟩) n c1)) (ds := [10]) (bz 11 0) (by kernel_rfl) rfl rfl (c0) (fun hHeld => ?_)
        refine pz 0 (some 36) (bz 11 1) ?_
        refine pz 1 (some 37) (bz 11 3) ?_
        refine pz 2 (some 38) (bz 11 7) ?_
        refine pz 4 (some 40) (bz 11 23) ?_
        refine pz 7 (some 43) (bz 11 151) ?_
        refine pz 8 (some 44) (bz 11 407) ?_
        refine pure_ (i := 9) (N := some 45) (v := ?_) (a' := ?_) (bz 11 919) rfl rfl (by kernel_rfl) (fun _ _ _ h => h) (Or.inl ⟨by rfl, ?_⟩) ?_ ?_
        rotate_left
        · intro w'
          go_simp
          (try simp only [htn])
          (try rw [if_pos ⟨by omega, by omega⟩])
          (try rw [if_neg (by omega)])
          (try with_reducible rfl)
        rotate_left
        · simp only [Act.put, List.setIfInBounds_toArray, List.set_cons_zero, List.set_cons_succ, i64_w, i32_w]
          rfl
        refine tz1 3 (some 39) (bz 11 927) hHeld ?_
        refine pz 5 (some 41) (bz 11 959) ?_
        refine pz 6 (some 42) (bz 11 1023) ?_
        refine last_ (i := 10) (N := some 46) (bz 11 2047) rfl rfl (by kernel_rfl) (by decide) (fun K hK => ?_)
        refine copy_step (by rfl) rfl (.tmp 42) (.tmp 45) 22 22 rfl rfl rfl HCP.out ?_
        refine hK.out _ _ ?_
        clear hK K
        refine norm_ (a' := ?_) ?_ ?_
        rotate_left
        · show Act.put _ (some 46) _ = _
          simp only [Act.put, List.setIfInBounds_toArray, List.set_cons_zero, List.set_cons_succ, i64_w, i32_w]
          rfl
        refine done_ (by kernel_rfl) ?_

        go_wp2
        go_roundw
        case rel => exact ⟨i + 1, by go_num, by omega, HD2, HB3⟩
        case measure => simp [intOf]; omega
      · have HD2 := Aside0.mk (show DAt wr w.heap.size w1.heap.size (fun k => w.heap.size ≤ k ∧ k < wr.heap.size) (newM x n (i + 1)) (.slice A1 n c1) (.slice none 0 0) (.slice none 0 0) by
          have := HD.out
          unfold newM at this ⊢
          rw [secTo_skip x n i hlt (by omega)]
          exact this)
        go_wp2
        go_roundw
        case rel => exact ⟨i + 1, by go_num, by omega, HD2, HV⟩
        case measure => simp [intOf]; omega
    · obtain rfl : i = n := by omega
      go_wp2
      refine bodyPost_ret (results_tmp2 rfl _ _ _) rfl ?_
      exact ⟨_, rfl, ⟨_, _, _, HD.out⟩, HV.out⟩
end Go.Proofs.YtmblnflfklmmkaaGreatDoor.Dk
/- Contracts of package disk: New where it refuses; what is kept by all calls. -/
namespace Go.Proofs.YtmblnflfklmmkaaGreatDoor.Dk
open Go.RowKit Go.Proofs.YtmblnflfklmmkaaGreatDoorW.PrintWords Go.Proofs.YtmblnflfklmmkaaGreatDoorW.PrintLast Go.Proofs.YtmblnflfklmmkaaGreatDoorW.PrintMore
set_option linter.unusedVariables false
set_option linter.unusedSimpArgs false
set_option maxRecDepth 30000
variable {w W W1 : World} {B g N : Nat} {F : Nat → Prop} {D : DM} {vs vh vc : Value}
set_option maxHeartbeats 4000000 in
theorem New_fails (A : Option Addr) (c : Nat) (x : List Int) (n : Int) (hx : x.length ≤ 1000000000) (hbad : newBad x n) :
    Calls Tryz.prog 20 #[.slice A x.length c, .int .i64 n] w fun e w' => e = .returned (.tuple #[.pointer none, .int .i64 1]) ∧ w = w' := by
  by_cases h1 : n < 1
  · clear hbad
    go_enter Tryz.func20, Tryz.ntmps20
    go_wp2
    refine bodyPost_ret (results_tmp2 rfl _ _ _) rfl ?_
    exact ⟨rfl, rfl⟩
  · by_cases h2 : 16384 < n
    · clear hbad
      go_enter Tryz.func20, Tryz.ntmps20
      go_wp2
      refine bodyPost_ret (results_tmp2 rfl _ _ _) rfl ?_
      exact ⟨rfl, rfl⟩
    · have h3 : n * 64 < (x.length : Int) := by
        rcases hbad with h | h | h
        · exact absurd h h1
        · exact absurd h h2
        · exact h
      clear hbad
      go_enter Tryz.func20, Tryz.ntmps20
      go_wp2
      refine bodyPost_ret (results_tmp2 rfl _ _ _) rfl ?_
      exact ⟨rfl, rfl⟩
theorem newM_ok (x : List Int) (n : Nat) (h : n ≤ 16384) : DOk (newM x n n) := by
  refine ⟨fun y hy => by simp [newM] at hy, ?_, by simp [newM], by simp [newM], by simp [newM]⟩
  show (secTo x n n).length ≤ 16384
  rw [secTo_length x n n (Nat.le_refl _)]
  exact h
end Go.Proofs.YtmblnflfklmmkaaGreatDoor.Dk
/- Contracts of package disk: Read where it refuses; rows beside a disk. -/
namespace Go.Proofs.YtmblnflfklmmkaaGreatDoor.Dk
open Go.RowKit Go.Proofs.YtmblnflfklmmkaaGreatDoorW.PrintWords Go.Proofs.YtmblnflfklmmkaaGreatDoorW.PrintLast Go.Proofs.YtmblnflfklmmkaaGreatDoorW.PrintMore
set_option linter.unusedVariables false
set_option linter.unusedSimpArgs false
set_option maxRecDepth 30000
variable {w W W' : World} {B g N : Nat} {F G : Nat → Prop} {D : DM} {vs vh vc : Value}
/-- A row of bytes beside a disk: what the disk's calls leave as it was. -/
structure Row (W : World) (F : Nat → Prop) (v : Value) (xs : List Int) : Prop where
  row : ∃ G, Kd.R (Kd.int .u8) 5 W 0 G v xs ∧ ∀ k, G k → k < W.heap.size ∧ ¬ F k
theorem Row.step {v : Value} {xs : List Int} (h : Row W F v xs) (hu : Upd W W' F) : Row W' (Grow F W W') v xs := by
  obtain ⟨G, h1, h2⟩ := h.row
  exact ⟨G, Kd.R_kept h1 hu.kept (fun k hk => (h2 k hk).2), fun k hk => ⟨Nat.lt_of_lt_of_le (h2 k hk).1 hu.size, fun hg => hg.elim (h2 k hk).2 (fun h => by have := (h2 k hk).1; omega)⟩⟩
theorem Row.same {v : Value} {xs : List Int} (h : Row W F v xs) (hu : Upd W W' F) : Row W' F v xs := by
  obtain ⟨G, h1, h2⟩ := h.row
  exact ⟨G, Kd.R_kept h1 hu.kept (fun k hk => (h2 k hk).2), fun k hk => ⟨Nat.lt_of_lt_of_le (h2 k hk).1 hu.size, (h2 k hk).2⟩⟩
theorem DiskAt.lt (h : DiskAt w B g F D) : ∀ k, F k → k < w.heap.size := by
  obtain ⟨_, _, _, h⟩ := h
  exact fun k hk => (h.lt k hk).2
end Go.Proofs.YtmblnflfklmmkaaGreatDoor.Dk
/- The law's known. -/
namespace Go.Proofs.YtmblnflfklmmkaaGreatDoor.Dk
open Go.RowKit Go.Proofs.YtmblnflfklmmkaaGreatDoorW.PrintWords Go.Proofs.YtmblnflfklmmkaaGreatDoorW.PrintLast Go.Proofs.YtmblnflfklmmkaaGreatDoorW.PrintMore
set_option linter.unusedVariables false
set_option linter.unusedSimpArgs false
set_option maxRecDepth 30000
variable {w W W' : World} {B g N : Nat} {F G : Nat → Prop} {D : DM} {vs vh vc : Value}
def kS : List Int := (List.replicate 64 0).set 0 7
def kD0 : DM := newM [] 2 2
def kD1 : DM := (writeM kD0 0 kS).1
def kD2 : DM := (flushM kD1).1
def kD3 : DM := (setM kD2 0 [true]).1
theorem k1 : (writeM kD0 0 kS).2 = 0 := by decide
theorem k2 : (flushM kD1).2 = 0 := by decide
theorem k3 : (setM kD2 0 [true]).2 = 0 := by decide
theorem k4 : (writeM kD3 1 kS).2 = 60 := by decide
theorem UpD (h : DiskAt w B g F D) : Calls Tryz.prog 49 #[.pointer (some ⟨g, 0, none⟩)] w fun e w' => e = .returned (.bool (!D.down)) ∧ w = w' := by
  obtain ⟨_, _, _, h⟩ := h
  exact Up_calls h
theorem StrokesD (h : DiskAt w B g F D) : Calls Tryz.prog 15 #[.pointer (some ⟨g, 0, none⟩)] w fun e w' => e = .returned (.int .i64 D.strokes) ∧ w = w' := by
  obtain ⟨_, _, _, h⟩ := h
  exact Strokes_calls h
theorem DiskAt.lo (h : DiskAt w B g F D) : ∀ k, F k → B ≤ k := by
  obtain ⟨_, _, _, h⟩ := h
  exact fun k hk => (h.lt k hk).1
theorem ok0 : DOk kD0 := newM_ok [] 2 (by decide)
theorem ok1 : DOk kD1 := writeM_ok ok0 (by decide)
end Go.Proofs.YtmblnflfklmmkaaGreatDoor.Dk
/- What a disk of the reference is in memory (its answers are of no account: only that its calls end and touch nothing else); there, stroke, Start. -/
namespace Go.Proofs.YtmblnflfklmmkaaGreatDoor.Dk
open Go.RowKit Go.Proofs.YtmblnflfklmmkaaGreatDoorW.PrintWords Go.Proofs.YtmblnflfklmmkaaGreatDoorW.PrintLast Go.Proofs.YtmblnflfklmmkaaGreatDoorW.PrintMore
set_option linter.unusedVariables false
set_option linter.unusedSimpArgs false
set_option maxRecDepth 30000
def kBy : Kd (List Int) := Kd.slice 5 (Kd.int .u8)
def kWa : Kd (Int × List Int) := Kd.pair (Kd.int .i64) kBy
structure RM where
  sec : List (List Int)
  wait : List (Int × List Int)
  down : Bool
  strokes : Int
  left : Int
  choice : List Bool
structure RAt (w : World) (B g : Nat) (F : Nat → Prop) (R : RM) (vs vh vc : Value) : Prop where
  blk : w.heap[g]? = some (.cells #[vs, vh, .bool R.down, .int .i64 R.strokes, .int .i64 R.left, vc] 68 (0, 0))
  sec : Kd.R kBy 22 w B F vs R.sec
  wait : Kd.R kWa 90 w B F vh R.wait
  choice : ∃ A c, vc = .slice A R.choice.length c ∧ R.choice.length ≤ c ∧ ∀ W, Upd w W (fun k => B ≤ k) → Kd.C Kd.bool W A R.choice.length R.choice
  own : F g
  lt : ∀ k, F k → B ≤ k ∧ k < w.heap.size
variable {w w1 : World} {B g : Nat} {F G : Nat → Prop} {R : RM} {vs vh vc : Value}
theorem RAt.cell (h : RAt w B g F R vs vh vc) (j : Nat) : w.cell? ⟨g, j, none⟩ = #[vs, vh, .bool R.down, .int .i64 R.strokes, .int .i64 R.left, vc][j]? := by simp [World.cell?, h.blk]
theorem RAt.free (h : RAt w B g F R vs vh vc) (j : Nat) : w.frozen? ⟨g, j, none⟩ = false := by simp [World.frozen?, h.blk]
theorem RAt.c0 (h : RAt w B g F R vs vh vc) : w.cell? ⟨g, 0, none⟩ = some vs := h.cell 0
theorem RAt.c1 (h : RAt w B g F R vs vh vc) : w.cell? ⟨g, 1, none⟩ = some vh := h.cell 1
theorem RAt.c2 (h : RAt w B g F R vs vh vc) : w.cell? ⟨g, 2, none⟩ = some (.bool R.down) := h.cell 2
theorem RAt.c3 (h : RAt w B g F R vs vh vc) : w.cell? ⟨g, 3, none⟩ = some (.int .i64 R.strokes) := h.cell 3
theorem RAt.c4 (h : RAt w B g F R vs vh vc) : w.cell? ⟨g, 4, none⟩ = some (.int .i64 R.left) := h.cell 4
theorem RAt.c5 (h : RAt w B g F R vs vh vc) : w.cell? ⟨g, 5, none⟩ = some vc := h.cell 5
/-- Another object was written, or new ones were made. -/
theorem RAt.frame (h : RAt w B g F R vs vh vc) (hu : Upd w w1 G) (hd : ∀ k, F k → ¬ G k) (hG : ∀ k, G k → B ≤ k) : RAt w1 B g F R vs vh vc where
  blk := (hu.block g (h.lt g h.own).2 (hd g h.own)).trans h.blk
  sec := Kd.R_kept h.sec hu.kept hd
  wait := Kd.R_kept h.wait hu.kept hd
  choice := by
    obtain ⟨A, c, h1, h2, h3⟩ := h.choice
    exact ⟨A, c, h1, h2, fun W hW => h3 W ((hu.mono hG).trans hW (fun _ h => .inl h))⟩
  own := h.own
  lt := fun k hk => ⟨(h.lt k hk).1, Nat.lt_of_lt_of_le (h.lt k hk).2 hu.size⟩
theorem RAt.below (h : RAt w B g F R vs vh vc) (hb : Below w.heap.size w w1) : RAt w1 B g F R vs vh vc where
  blk := (hb.block g (h.lt g h.own).2).trans h.blk
  sec := Kd.R_below h.sec hb
  wait := Kd.R_below h.wait hb
  choice := by
    obtain ⟨A, c, h1, h2, h3⟩ := h.choice
    exact ⟨A, c, h1, h2, fun W hW => h3 W ((Upd.of_below hb).trans hW (fun _ h => .inl h))⟩
  own := h.own
  lt := fun k hk => ⟨(h.lt k hk).1, Nat.lt_of_lt_of_le (h.lt k hk).2 hb.size⟩
/-- A store into one of the struct's fields. -/
theorem RAt.put (h : RAt w B g F R vs vh vc) (j : Nat) (u : Value) (R' : RM) (vs' vh' : Value) (hc : (#[vs, vh, .bool R.down, .int .i64 R.strokes, .int .i64 R.left, vc] : Array Value).setIfInBounds j u = #[vs', vh', .bool R'.down, .int .i64 R'.strokes, .int .i64 R'.left, vc])
    (hs : Kd.R kBy 22 w B F vs' R'.sec) (hh : Kd.R kWa 90 w B F vh' R'.wait) (hch : R'.choice = R.choice) : RAt (w.setCell ⟨g, j, none⟩ u) B g F R' vs' vh' vc where
  blk := by rw [heap_setCell_same w g j _ 68 u h.blk, hc]
  sec := Kd.R_set hs h.blk (by simp [kBy, Kd.slice, Kd.int, Kd.scalar]) j u
  wait := Kd.R_set hh h.blk (by simp [kWa, kBy, Kd.pair, Kd.slice, Kd.int, Kd.scalar]) j u
  choice := by
    obtain ⟨A, c, h1, h2, h3⟩ := h.choice
    rw [hch]
    exact ⟨A, c, h1, h2, fun W hW => h3 W (((Upd.refl w (fun k => B ≤ k)).setCell (p := ⟨g, j, none⟩) (.inl (h.lt g h.own).1) u).trans hW (fun _ h => .inl h))⟩
  own := h.own
  lt := fun k hk => ⟨(h.lt k hk).1, by simpa [World.setCell] using (h.lt k hk).2⟩
theorem RAt.upd (h : RAt w B g F R vs vh vc) (j : Nat) (u : Value) : Upd w (w.setCell ⟨g, j, none⟩ u) F := (Upd.refl w F).setCell (.inl h.own) u
def rstartM (R : RM) : RM := { R with down := false, left := -1 }
theorem rStart_calls (h : RAt w B g F R vs vh vc) : Calls Tryz.prog 34 #[.pointer (some ⟨g, 0, none⟩)] w fun e w' => e = .returned (.tuple #[]) ∧ RAt w' B g F (rstartM R) vs vh vc ∧ Upd w w' F := by
  have H := Aside0.mk h
  have hf := h.free
  have h2 := h.c2
  have h4 := h.c4
  clear h
  go_enter Tryz.func34, Tryz.ntmps34
  go_wp2
  have H1 := H.out.put 2 (.bool false) { R with down := false } vs vh rfl H.out.sec H.out.wait rfl
  have H2 := H1.put 4 (.int .i64 (-1)) (rstartM R) vs vh rfl H1.sec H1.wait rfl
  have HU := (H.out.upd 2 (.bool false)).trans (H1.upd 4 (.int .i64 (-1))) (fun _ h => .inl h)
  go_end0
  exact ⟨rfl, H2, HU⟩
def thereM (R : RM) (k : Int) : Int := if R.down = true then 60 else if k < 0 ∨ (R.sec.length : Int) ≤ k then 61 else 0
theorem there_calls (h : RAt w B g F R vs vh vc) (k : Int) : Calls Tryz.prog 54 #[.pointer (some ⟨g, 0, none⟩), .int .i64 k] w fun e w' => e = .returned (.int .i64 (thereM R k)) ∧ w = w' := by
  obtain ⟨A, c, rfl, _⟩ := Kd.R_reads h.sec
  have h0 := h.c0
  have h2 := h.c2
  clear h
  cases hd : R.down with
  | true =>
    rw [hd] at h2
    have hr := Lib.hid (show thereM R k = 60 by simp [thereM, hd])
    clear hd
    go_enter Tryz.func54, Tryz.ntmps54
    go_wp2
    go_ret
    exact ⟨by rw [hr.out] <;> rfl, rfl⟩
  | false =>
    rw [hd] at h2
    by_cases hk : k < 0
    · have hr := Lib.hid (show thereM R k = 61 by simp [thereM, hd, hk])
      clear hd
      go_enter Tryz.func54, Tryz.ntmps54
      go_wp2
      go_ret
      exact ⟨by rw [hr.out] <;> rfl, rfl⟩
    · by_cases hk2 : (R.sec.length : Int) ≤ k
      · have hr := Lib.hid (show thereM R k = 61 by simp [thereM, hd, hk2])
        clear hd
        go_enter Tryz.func54, Tryz.ntmps54
        go_wp2
        go_ret
        exact ⟨by rw [hr.out] <;> rfl, rfl⟩
      · have hr := Lib.hid (show thereM R k = 0 by simp [thereM, hd, hk, hk2])
        clear hd
        go_enter Tryz.func54, Tryz.ntmps54
        go_wp2
        go_ret
        exact ⟨by rw [hr.out] <;> rfl, rfl⟩
end Go.Proofs.YtmblnflfklmmkaaGreatDoor.Dk
/- The reference's stroke and Set. -/
namespace Go.Proofs.YtmblnflfklmmkaaGreatDoor.Dk
open Go.RowKit Go.Proofs.YtmblnflfklmmkaaGreatDoorW.PrintWords Go.Proofs.YtmblnflfklmmkaaGreatDoorW.PrintLast Go.Proofs.YtmblnflfklmmkaaGreatDoorW.PrintMore
set_option linter.unusedVariables false
set_option linter.unusedSimpArgs false
set_option maxRecDepth 30000
variable {w w1 : World} {B g : Nat} {F G : Nat → Prop} {R : RM} {vs vh vc : Value}
def strokeM (R : RM) : RM × Bool :=
  if R.left - 1 = -1 then ({ R with strokes := wrap64 (R.strokes + 1), left := R.left - 1 }, true)
  else if R.left - 1 < -1 then ({ R with strokes := wrap64 (R.strokes + 1), left := -1 }, false) else ({ R with strokes := wrap64 (R.strokes + 1), left := R.left - 1 }, false)
set_option maxHeartbeats 2000000 in
theorem stroke_calls (h : RAt w B g F R vs vh vc) (hl : -1 ≤ R.left) (hl2 : R.left ≤ 9223372036854775807) : Calls Tryz.prog 55 #[.pointer (some ⟨g, 0, none⟩)] w fun e w' => e = .returned (.bool (strokeM R).2) ∧ RAt w' B g F (strokeM R).1 vs vh vc ∧ Upd w w' F := by
  have H := Aside0.mk h
  have hf := h.free
  have h3 := h.c3
  have h4 := h.c4
  have H1 := h.put 3 (.int .i64 (wrap64 (R.strokes + 1))) { R with strokes := wrap64 (R.strokes + 1) } vs vh rfl h.sec h.wait rfl
  have H2 := Aside0.mk (H1.put 4 (.int .i64 (R.left - 1)) { R with strokes := wrap64 (R.strokes + 1), left := R.left - 1 } vs vh rfl H1.sec H1.wait rfl)
  have HU2 := Aside0.mk ((h.upd 3 (.int .i64 (wrap64 (R.strokes + 1)))).trans (H1.upd 4 (.int .i64 (R.left - 1))) (fun _ h => .inl h))
  clear h H1
  by_cases ha : R.left - 1 = -1
  · have hq := Lib.hid (show strokeM R = ({ R with strokes := wrap64 (R.strokes + 1), left := R.left - 1 }, true) by simp [strokeM, ha])
    have ta : (R.left - 1 == -1) = true := by simpa using ha
    clear ha
    go_enter Tryz.func55, Tryz.ntmps55
    go_wp2
    go_ret
    exact ⟨by rw [hq.out] <;> rfl, by rw [hq.out]; exact H2.out, HU2.out⟩
  · by_cases hb : R.left - 1 < -1
    · have hq := Lib.hid (show strokeM R = ({ R with strokes := wrap64 (R.strokes + 1), left := -1 }, false) by simp [strokeM, ha, hb])
      have H3 := Aside0.mk (H2.out.put 4 (.int .i64 (-1)) { R with strokes := wrap64 (R.strokes + 1), left := -1 } vs vh rfl H2.out.sec H2.out.wait rfl)
      have HU3 := Aside0.mk (HU2.out.trans (H2.out.upd 4 (.int .i64 (-1))) (fun _ h => .inl h))
      go_enter Tryz.func55, Tryz.ntmps55
      go_wp2
      go_ret
      exact ⟨by rw [hq.out] <;> rfl, by rw [hq.out]; exact H3.out, HU3.out⟩
    · have hq := Lib.hid (show strokeM R = ({ R with strokes := wrap64 (R.strokes + 1), left := R.left - 1 }, false) by simp [strokeM, ha, hb])
      go_enter Tryz.func55, Tryz.ntmps55
      go_wp2
      go_ret
      exact ⟨by rw [hq.out] <;> rfl, by rw [hq.out]; exact H2.out, HU2.out⟩
def rsetM (R : RM) (n : Int) (l : List Bool) : RM := if n < 0 then R else if (l.length : Int) > 4096 then R else { R with left := n, choice := l }
def rsetE (n : Int) (l : List Bool) : Int := if n < 0 then 1 else if (l.length : Int) > 4096 then 2 else 0
theorem RAt.putChoice (h : RAt w B g F R vs vh vc) (A : Option Addr) (c : Nat) (l : List Bool) (hc : l.length ≤ c) (hC : ∀ W, Upd w W (fun k => B ≤ k) → Kd.C Kd.bool W A l.length l) : RAt (w.setCell ⟨g, 5, none⟩ (.slice A l.length c)) B g F { R with choice := l } vs vh (.slice A l.length c) where
  blk := by rw [heap_setCell_same w g 5 _ 68 _ h.blk]; rfl
  sec := Kd.R_set h.sec h.blk (by simp [kBy, Kd.slice, Kd.int, Kd.scalar]) 5 _
  wait := Kd.R_set h.wait h.blk (by simp [kWa, kBy, Kd.pair, Kd.slice, Kd.int, Kd.scalar]) 5 _
  choice := ⟨A, c, rfl, hc, fun W hW => hC W (((h.upd 5 _).mono (fun k hk => (h.lt k hk).1)).trans hW (fun _ h => .inl h))⟩
  own := h.own
  lt := fun k hk => ⟨(h.lt k hk).1, by simpa [World.setCell] using (h.lt k hk).2⟩
set_option maxHeartbeats 2000000 in
theorem rSet_calls (h : RAt w B g F R vs vh vc) (n : Int) (A : Option Addr) (c : Nat) (l : List Bool) (hc : l.length ≤ c) (hC : ∀ W, Upd w W (fun k => B ≤ k) → Kd.C Kd.bool W A l.length l) :
    Calls Tryz.prog 30 #[.pointer (some ⟨g, 0, none⟩), .int .i64 n, .slice A l.length c] w fun e w' => e = .returned (.int .i64 (rsetE n l)) ∧ (∃ vc', RAt w' B g F (rsetM R n l) vs vh vc') ∧ Upd w w' F := by
  have H := Aside0.mk h
  have hf := h.free
  have h4 := h.c4
  have h5 := h.c5
  have H1 := h.put 4 (.int .i64 n) { R with left := n } vs vh rfl h.sec h.wait rfl
  have H2 := Aside0.mk (H1.putChoice A c l hc (fun W hW => hC W (((h.upd 4 (.int .i64 n)).mono (fun k hk => (h.lt k hk).1)).trans hW (fun _ h => .inl h))))
  have HU2 := Aside0.mk ((h.upd 4 (.int .i64 n)).trans (H1.upd 5 (.slice A l.length c)) (fun _ h => .inl h))
  clear h H1 hC
  by_cases hn : n < 0
  · have hq := Lib.hid (show rsetM R n l = R by simp [rsetM, hn])
    have he := Lib.hid (show rsetE n l = 1 by simp [rsetE, hn])
    go_enter Tryz.func30, Tryz.ntmps30
    go_wp2
    go_ret
    exact ⟨by rw [he.out] <;> rfl, by rw [hq.out]; exact ⟨_, H.out⟩, Upd.refl _ _⟩
  · by_cases hl : (l.length : Int) > 4096
    · have hq := Lib.hid (show rsetM R n l = R by simp [rsetM, hn, hl])
      have he := Lib.hid (show rsetE n l = 2 by simp [rsetE, hn, hl])
      go_enter Tryz.func30, Tryz.ntmps30
      go_wp2
      go_ret
      exact ⟨by rw [he.out] <;> rfl, by rw [hq.out]; exact ⟨_, H.out⟩, Upd.refl _ _⟩
    · have hq := Lib.hid (show rsetM R n l = { R with left := n, choice := l } by simp [rsetM, hn, hl])
      have he := Lib.hid (show rsetE n l = 0 by simp [rsetE, hn, hl])
      go_enter Tryz.func30, Tryz.ntmps30
      go_wp2
      go_ret
      exact ⟨by rw [he.out] <;> rfl, by rw [hq.out]; exact ⟨_, H2.out⟩, HU2.out⟩
end Go.Proofs.YtmblnflfklmmkaaGreatDoor.Dk
/- The reference's Lose. -/
namespace Go.Proofs.YtmblnflfklmmkaaGreatDoor.Dk
open Go.RowKit Go.Proofs.YtmblnflfklmmkaaGreatDoorW.PrintWords Go.Proofs.YtmblnflfklmmkaaGreatDoorW.PrintLast Go.Proofs.YtmblnflfklmmkaaGreatDoorW.PrintMore
set_option linter.unusedVariables false
set_option linter.unusedSimpArgs false
set_option maxRecDepth 30000
variable {w w1 : World} {B g : Nat} {F G : Nat → Prop} {R : RM} {vs vh vc : Value}
structure ROk (R : RM) : Prop where
  at_ : ∀ h ∈ R.wait, 0 ≤ h.1 ∧ h.1 < (R.sec.length : Int)
  s64 : ∀ s ∈ R.sec, s.length = 64
  w64 : ∀ h ∈ R.wait, h.2.length = 64
  n1 : R.sec.length ≤ 16384
  n2 : R.wait.length ≤ 10000000
  l0 : -1 ≤ R.left
  l1 : R.left ≤ 9223372036854775807
/-- The i-th waiting write: its two cells, and where its sector goes. -/
theorem wait_elem {gs gh : Nat} {ns cs nh ch : Nat} {L : List (List Int)} {K : List (Int × List Int)} (hs : Kd.R kBy 22 w B F (.slice (some ⟨gs, 0, none⟩) ns cs) L) (h : Kd.R kWa 90 w B F (.slice (some ⟨gh, 0, none⟩) nh ch) K) (i : Nat) (hi : i < nh) :
    ∃ u, w.cell? ⟨gh, i * 2, none⟩ = some (.int .i64 (K.getD i (0, [])).1) ∧ w.cell? ⟨gh, i * 2 + 1, none⟩ = some u ∧ Kd.R (Kd.int .u8) 5 w B (fun k => F k ∧ k ≠ gs) u (K.getD i (0, [])).2 := by
  obtain ⟨c, hl, hM, hx, _⟩ := Kd.R_elem h (0, []) (i : Int) (by omega) (by omega)
  rw [Int.toNat_natCast] at hM hx
  obtain ⟨c0, c1, rfl, h0, u, rfl, hr⟩ := hM
  have h0' : c0 = [.int .i64 (K.getD i (0, [])).1] := h0
  subst h0'
  refine ⟨u, hx 0 _ rfl, hx 1 _ rfl, ?_⟩
  refine Kd.R_mono (Kd.R_bound hr) (fun k hk => ⟨hk.1.1, fun he => ?_⟩)
  obtain ⟨_, _, hlt, q, hq, cells, hc⟩ := hk
  obtain ⟨inner, ho⟩ := Kd.R_own hs
  obtain ⟨cells2, hc2⟩ := own_typed ho gs rfl
  rw [he, hc2] at hc
  injection hc with hc
  injection hc with _ hc _
  simp only [Kd.int, Kd.scalar, List.mem_cons, List.not_mem_nil, or_false] at hq
  rw [hq] at hc
  exact absurd hc (by decide)
def rkeep (l : List Bool) (i : Nat) : Bool := decide (i < 4096) && chB l i
def rloseM (l : List Bool) (R : RM) : RM := if R.down = true then R else { R with sec := putsTo (rkeep l) R.wait R.sec R.wait.length, wait := [], down := true }
/-- The waiting writes' rows are of other types than the sectors' row. -/
theorem wait_kept {gs ns cs : Nat} {v : Value} {L : List (List Int)} {K : List (Int × List Int)} (hs : Kd.R kBy 22 w B F (.slice (some ⟨gs, 0, none⟩) ns cs) L) (h : Kd.R kWa 90 w B F v K) (hg : w.grownBy w1 (Value.slice (some ⟨gs, 0, none⟩) ns cs).ownBlock) : Kd.R kWa 90 w1 B F v K := by
  refine Kd.R_mono (Kd.R_move (Kd.R_bound h) (fun k hk => ?_)) (fun k hk => hk.1)
  obtain ⟨_, _, hlt, q, hq, cells, hc⟩ := hk
  refine hg.block k hlt (fun he => ?_)
  obtain ⟨inner, ho⟩ := Kd.R_own hs
  obtain ⟨cells2, hc2⟩ := own_typed ho k he.symm
  rw [hc] at hc2
  injection hc2 with hc2
  injection hc2 with _ hc2 _
  simp only [kWa, kBy, Kd.pair, Kd.slice, Kd.int, Kd.scalar, List.mem_cons, List.nil_append, List.not_mem_nil, or_false] at hq
  rcases hq with rfl | rfl
  · exact absurd hc2 (by decide)
  · exact absurd hc2 (by decide)
set_option maxHeartbeats 8000000 in
theorem rLose_calls (h : RAt w B g F R vs vh vc) (hok : ROk R) (A : Option Addr) (c : Nat) (l : List Bool) (hC : ∀ W, Upd w W F → Kd.C Kd.bool W A l.length l) :
    Calls Tryz.prog 32 #[.pointer (some ⟨g, 0, none⟩), .slice A l.length c] w fun e w' => e = .returned (.tuple #[]) ∧ (∃ vh', RAt w' B g F (rloseM l R) vs vh' vc) ∧ Upd w w' F := by
  have H := Aside0.mk h
  have HOK := Aside0.mk hok
  have HC := Aside0.mk hC
  obtain ⟨As, cs, rfl, hsl, _⟩ := Kd.R_reads h.sec
  obtain ⟨Ah, ch, rfl, hhl, _⟩ := Kd.R_reads h.wait
  have h2 := h.c2
  have h1 := h.c1
  clear h hok hC
  cases hd : R.down with
  | true =>
    rw [hd] at h2
    have hq := Lib.hid (show rloseM l R = R by simp [rloseM, hd])
    clear hd
    go_enter Tryz.func32, Tryz.ntmps32
    go_wp2
    refine bodyPost_ret (results_none rfl _ _ _) rfl ?_
    exact ⟨rfl, by rw [hq.out]; exact ⟨_, H.out⟩, Upd.refl _ _⟩
  | false =>
    rw [hd] at h2
    have hq := Lib.hid (show rloseM l R = { R with sec := putsTo (rkeep l) R.wait R.sec R.wait.length, wait := [], down := true } by simp [rloseM, hd])
    clear hd
    go_enter Tryz.func32, Tryz.ntmps32
    go_wp2
    go_loopw [4] (fun v4 w' => ∃ i : Nat, v4 = .int .i64 i ∧ i ≤ R.wait.length ∧ Aside0 (RAt w' B g F { R with sec := putsTo (rkeep l) R.wait R.sec i } (.slice As R.sec.length cs) (.slice Ah R.wait.length ch) vc) ∧ Aside0 (Upd w w' F)) (fun v4 _ => R.wait.length - (intOf v4).toNat)
    case atStart => exact ⟨0, rfl, Nat.zero_le _, H, ⟨Upd.refl _ _⟩⟩
    case round =>
      obtain ⟨i, rfl, hi, HD, HU⟩ := hrel
      clear h1 h2
      have hn2 := HOK.out.n2
      have h1 := HD.out.c1
      by_cases hlt : i < R.wait.length
      · by_cases hil : i < l.length
        · by_cases hi4 : i < 4096
          · obtain ⟨_, _, c3⟩ := HC.out wr HU.out
            obtain ⟨ad, hA, hcc⟩ := c3 (by omega)
            subst hA
            have hcb : wr.cell? (ad.add i) = some (.bool (l[i])) := by
              obtain ⟨cs0, _, hK, hx1⟩ := hcc i (l[i]) (List.getElem?_eq_getElem hil)
              have := hx1 0 (.bool (l[i])) (by rw [hK]; rfl)
              simpa [Kd.bool, Kd.scalar] using this
            have hch : chB l i = l[i] := by simp [chB, hil]
            clear hcc c3
            cases hb : l[i] with
            | false =>
              rw [hb] at hcb hch
              have HP := Aside0.mk (show putsTo (rkeep l) R.wait R.sec (i + 1) = putsTo (rkeep l) R.wait R.sec i by simp [putsTo, rkeep, hch])
              have t4 : decide ((i : Int) < 4096) = true := decide_eq_true (by omega)
              clear hb hch hi4
              go_wp2
              go_roundw
              case rel => exact ⟨i + 1, by go_num, by omega, ⟨by rw [HP.out]; exact HD.out⟩, HU⟩
              case measure => simp [intOf]; omega
            | true =>
              rw [hb] at hcb hch
              have hk : rkeep l i = true := by simp [rkeep, hch, hi4]
              have t4 : decide ((i : Int) < 4096) = true := decide_eq_true (by omega)
              have HP := Aside0.mk (show putsTo (rkeep l) R.wait R.sec (i + 1) = (putsTo (rkeep l) R.wait R.sec i).set (R.wait.getD i (0, [])).1.toNat (R.wait.getD i (0, [])).2 by simp [putsTo, hk])
              clear hb hch hi4 hk
              obtain ⟨ha0, ha1⟩ := HOK.out.at_ (R.wait.getD i (0, [])) (by rw [List.getD_eq_getElem?_getD, List.getElem?_eq_getElem hlt]; exact List.getElem_mem hlt)
              rcases R_cases HD.out.wait with ⟨_, hz⟩ | ⟨gh, caph, eh, hgh⟩
              · have : R.wait.length = 0 := by rw [hz]; rfl
                omega
              rcases R_cases HD.out.sec with ⟨_, hz⟩ | ⟨gs, caps', es, hgs⟩
              · have : (putsTo (rkeep l) R.wait R.sec i).length = 0 := congrArg List.length hz
                rw [putsTo_length] at this
                omega
              injection eh with eh1 eh2 eh3
              injection es with es1 es2 es3
              subst eh1; subst es1
              clear eh2 eh3 es2 es3
              obtain ⟨u, hu1, hu2, hu3⟩ := wait_elem HD.out.sec HD.out.wait i hlt
              obtain ⟨a, b, hab⟩ : ∃ a b, R.wait.getD i (0, []) = (a, b) := ⟨_, _, rfl⟩
              have hu1' : wr.cell? ⟨gh, i * 2, none⟩ = some (.int .i64 (R.wait.getD i (0, [])).1) := hu1
              have hu3' : Kd.R (Kd.int .u8) 5 wr B (fun k => F k ∧ k ≠ gs) u (R.wait.getD i (0, [])).2 := hu3
              clear hu1 hu3
              rw [hab] at HP ha0 ha1 hu1' hu3'
              dsimp only at HP ha0 ha1 hu1' hu3'
              have HU3 := Aside0.mk hu3'
              obtain ⟨Au, cu, rfl⟩ := Kd.R_slice hu3'
              have h0 := HD.out.c0
              have hf := HD.out.free
              clear hab hu3'
              go_wp2
              refine wp_region_still_tail 21 (by kernel_rfl) (by kernel_rfl) ?_
              simp only [List.take_succ_cons, List.take_zero, List.drop_succ_cons, List.drop_zero]
              change wpStill _ _ wr.drew _ _ _
              repeat still_step
              refine wpStill_nil ?_
              change wpList _ _ _ _ _ wr.drew
              obtain ⟨c2, hsz2, hM2, hx2, _⟩ := Kd.R_elem HD.out.sec [] a ha0 ha1
              refine Kd.R_store kBy (w0 := wr.drew) B rfl rfl 22 (.tmp 52) (.tmp 51) rfl 22 (g := gs) (n := R.sec.length) (cap := cs) (o' := a.toNat) a 0 (putsTo (rkeep l) R.wait R.sec i) b (.slice Au b.length cu) [.slice Au b.length cu] c2 F (fun k => F k ∧ k ≠ gs) rfl (by show a.toNat = a.toNat * 1 + 0; omega) rfl rfl (by kernel_rfl) (by intro q hq; simp only [List.mem_singleton] at hq; rw [hq]; rfl) HD.out.sec ha0 ha1 hsz2 hx2 (Nat.le_refl 1) ⟨_, by rw [List.take_zero, List.nil_append, List.drop_of_length_le (show c2.length ≤ 0 + [Value.slice Au b.length cu].length from Nat.le_of_eq hsz2), List.append_nil], HU3.out⟩ (fun _ h => h) (Below.refl _ _) ?_
              intro w5 hr5 hb5 hg5d
              have hg5 : wr.grownBy w5 (Value.slice (some ⟨gs, 0, none⟩) R.sec.length cs).ownBlock := ⟨hg5d.os, hg5d.tape, hg5d.output, hg5d.size, hg5d.block⟩
              have hU5 : Upd wr w5 F := Upd.of_row HD.out.sec hg5
              have HD5 := Aside0.mk (show RAt w5 B g F { R with sec := putsTo (rkeep l) R.wait R.sec (i + 1) } (.slice (some ⟨gs, 0, none⟩) R.sec.length cs) (.slice (some ⟨gh, 0, none⟩) R.wait.length ch) vc from by
                rw [HP.out]
                refine ⟨blk_other HD.out.blk HD.out.sec (by decide) hg5, hr5, ?_, ?_, HD.out.own, fun k hk => ⟨(HD.out.lt k hk).1, Nat.lt_of_lt_of_le (HD.out.lt k hk).2 hg5.size⟩⟩
                · have hne : ∀ k, F k → True := fun _ _ => trivial
                  exact wait_kept HD.out.sec HD.out.wait hg5
                · obtain ⟨A', c', h1, h2, h3⟩ := HD.out.choice
                  exact ⟨A', c', h1, h2, fun W hW => h3 W ((hU5.mono (fun k hk => (HD.out.lt k hk).1)).trans hW (fun _ h => .inl h))⟩)
              have HU5 := Aside0.mk (HU.out.trans hU5 (fun _ h => .inl h))
              clear hg5d hg5 hU5 hr5 hb5
              go_wp2
              go_roundw
              case rel => exact ⟨i + 1, by go_num, by omega, HD5, HU5⟩
              case measure => simp [intOf]; omega
          · have HP := Aside0.mk (show putsTo (rkeep l) R.wait R.sec (i + 1) = putsTo (rkeep l) R.wait R.sec i by simp [putsTo, rkeep, hi4])
            have t4 : decide ((i : Int) < 4096) = false := decide_eq_false (by omega)
            clear hi4
            go_wp2
            go_roundw
            case rel => exact ⟨i + 1, by go_num, by omega, ⟨by rw [HP.out]; exact HD.out⟩, HU⟩
            case measure => simp [intOf]; omega
        · have HP := Aside0.mk (show putsTo (rkeep l) R.wait R.sec (i + 1) = putsTo (rkeep l) R.wait R.sec i by simp [putsTo, rkeep, chB, hil])
          go_wp2
          go_roundw
          case rel => exact ⟨i + 1, by go_num, by omega, ⟨by rw [HP.out]; exact HD.out⟩, HU⟩
          case measure => simp [intOf]; omega
      · obtain rfl : i = R.wait.length := by omega
        have h2 := HD.out.c2
        have hf := HD.out.free
        have H1 := HD.out.put 1 (.slice none 0 0) { R with sec := putsTo (rkeep l) R.wait R.sec R.wait.length, wait := [] } (.slice As R.sec.length cs) (.slice none 0 0) rfl HD.out.sec (Kd.R_nil _ _ _ _ _) rfl
        have H2 := Aside0.mk (H1.put 2 (.bool true) { R with sec := putsTo (rkeep l) R.wait R.sec R.wait.length, wait := [], down := true } (.slice As R.sec.length cs) (.slice none 0 0) rfl H1.sec H1.wait rfl)
        have HU2 := Aside0.mk ((HU.out.trans (HD.out.upd 1 (.slice none 0 0)) (fun _ h => .inl h)).trans (H1.upd 2 (.bool true)) (fun _ h => .inl h))
        clear H1
        go_wp2
        go_end0
        exact ⟨rfl, by rw [hq.out]; exact ⟨_, H2.out⟩, HU2.out⟩
end Go.Proofs.YtmblnflfklmmkaaGreatDoor.Dk
/- The reference's full. -/
namespace Go.Proofs.YtmblnflfklmmkaaGreatDoor.Dk
open Go.RowKit Go.Proofs.YtmblnflfklmmkaaGreatDoorW.PrintWords Go.Proofs.YtmblnflfklmmkaaGreatDoorW.PrintLast Go.Proofs.YtmblnflfklmmkaaGreatDoorW.PrintMore
set_option linter.unusedVariables false
set_option linter.unusedSimpArgs false
set_option maxRecDepth 30000
variable {w w1 : World} {B g : Nat} {F G : Nat → Prop} {R : RM} {vs vh vc : Value}
/-- Bytes, and zeros behind, 64 in all. -/
def fullM (x : List Int) : List Int := (x ++ List.replicate (64 - x.length) 0).take 64
theorem fullM_length (x : List Int) : (fullM x).length = 64 := by simp [fullM]; omega
theorem fullM_snoc {xs : List Int} (h : xs.length < 64) : fullM (xs ++ [0]) = fullM xs := by
  obtain ⟨m, hm⟩ : ∃ m, 64 - xs.length = m + 1 := ⟨63 - xs.length, by omega⟩
  have h2 : 64 - (xs ++ [(0 : Int)]).length = m := by rw [List.length_append]; show 64 - (xs.length + 1) = m; omega
  unfold fullM
  rw [h2, hm, List.replicate_succ, List.append_assoc]
  rfl
theorem fullM_take {xs : List Int} (h : 64 ≤ xs.length) : fullM xs = xs.take 64 := by
  unfold fullM
  rw [show 64 - xs.length = 0 by omega]
  simp
theorem fullM_self {xs : List Int} (h : xs.length = 64) : fullM xs = xs := by
  rw [fullM_take (by omega), List.take_of_length_le (by omega)]
theorem fullM_sec (x : List Int) (i : Nat) : fullM ((x.drop (i * 64)).take 64) = secAt x i := by
  unfold fullM secAt
  rw [List.length_take, List.length_drop, show 64 - min 64 (x.length - i * 64) = 64 - min (x.length - i * 64) 64 by omega]
  rw [List.take_of_length_le]
  simp only [List.length_append, List.length_take, List.length_drop, List.length_replicate]
  omega
set_option maxHeartbeats 8000000 in
theorem full_calls (A : Option Addr) (c : Nat) (x : List Int) (hx : x.length ≤ 1000000000) (hC : Kd.C (Kd.int .u8) w A x.length x) :
    Calls Tryz.prog 45 #[.slice A x.length c] w fun e w' => ∃ v xs, e = .returned v ∧ xs = fullM x ∧ Kd.R (Kd.int .u8) 5 w' w.heap.size (fun k => w.heap.size ≤ k) v xs ∧ Below w.heap.size w w' := by
  have HC := Aside0.mk hC
  clear hC
  go_enter Tryz.func45, Tryz.ntmps45
  go_wp2_with (first | ((with_reducible refine gate_builtin (b := .append) (xs := #[.tmp 4, .tmp 5]) rfl ?_); at_builtin; refine Kd.R_append_rows (Kd.int .u8) (Rr := (Kd.int .u8).K w) (w0 := w) w.heap.size rfl (.tmp 4) (.tmp 5) 22 5 (.int .u8 0) 1 rfl Tryz.underlying22 info5 rfl (by decide) (by omega) (.slice none 0 0) [] x A x.length c (fun k => w.heap.size ≤ k) (fun _ => False) rfl rfl (Kd.R_nil _ _ _ _ _) HC.out (fun _ _ h => h) (fun _ h => h.elim) (fun _ h => h) (Below.refl _ _) (Nat.le_refl _) ?aL ?_; (case aL => simp; omega); intro v1 w1 hr1 hb1 hg1 _; simp only [List.nil_append] at hr1; have HR1 := Aside0.mk hr1; have HB1 := Aside0.mk hb1; clear hr1 hb1 hg1))
  go_loopw [3] (fun v3 w' => ∃ xs : List Int, xs.length ≤ 1000000064 ∧ Aside0 (fullM xs = fullM x) ∧ Aside0 (Kd.R (Kd.int .u8) 5 w' w.heap.size (fun k => w.heap.size ≤ k) v3 xs) ∧ Aside0 (Below w.heap.size w w') ∧ ∃ A c, v3 = .slice A xs.length c) (fun v3 _ => 64 - (match v3 with | .slice _ n _ => n | _ => 0))
  case atStart => exact ⟨x, by omega, ⟨rfl⟩, HR1, HB1, Kd.R_slice HR1.out⟩
  case round =>
    obtain ⟨xs, hl, HFX, HR, HB, A3, c3, rfl⟩ := hrel
    by_cases hlt : xs.length < 64
    · have HA := heap_alloc_new wr (.cells #[.int .u8 0] 5)
      have HC0 := Aside0.mk (show Kd.C (Kd.int .u8) (wr.alloc (.cells #[.int .u8 0] 5)) (some ⟨wr.heap.size, 0, none⟩) 1 [0] from C_block (x := [0]) HA (by decide))
      have HBA := Aside0.mk (below_alloc HB.out (.cells #[.int .u8 0] 5))
      have HRA := Aside0.mk (Kd.R_below HR.out (below_alloc (Below.refl wr.heap.size wr) (.cells #[.int .u8 0] 5)))
      clear HA
      go_wp2_with (first | ((with_reducible refine gate_builtin (b := .append) (xs := #[.tmp 10, .tmp 11]) rfl ?_); at_builtin; refine Kd.R_append_rows (Kd.int .u8) (Rr := (Kd.int .u8).K w) (w0 := w) w.heap.size rfl (.tmp 10) (.tmp 11) 22 5 (.int .u8 0) 1 rfl Tryz.underlying22 info5 rfl (by decide) (by omega) _ xs [0] (some ⟨wr.heap.size, 0, none⟩) 1 1 (fun k => w.heap.size ≤ k) (fun _ => False) rfl rfl HRA.out HC0.out (fun _ _ h => h) (fun _ h => h.elim) (fun _ h => Nat.le_trans HBA.out.size h) HBA.out HBA.out.size ?aL ?_; (case aL => omega); intro v1 w1 hr1 hb1 hg1 _; obtain ⟨A1, c1, rfl⟩ := Kd.R_slice hr1; have HR1 := Aside0.mk hr1; have HB1 := Aside0.mk hb1; clear hr1 hb1 hg1))
      go_roundw
      case rel => exact ⟨xs ++ [0], by rw [List.length_append]; show xs.length + 1 ≤ _; omega, ⟨(fullM_snoc hlt).trans HFX.out⟩, ⟨by have := HR1.out; rw [List.length_append] at this; exact this⟩, HB1, _, _, by rw [List.length_append]; rfl⟩
      case measure => simp; omega
    · obtain ⟨_, _, e, hc, hC3⟩ := Kd.R_reads HR.out
      injection e with e1 e2 e3
      subst e1; subst e3
      clear e2 hC3
      have HT := Aside0.mk (Kd.R_take HR.out (m := 64) (by omega))
      go_wp2
      go_ret
      exact ⟨_, xs.take 64, rfl, (fullM_take (by omega)).symm.trans HFX.out, HT.out, HB.out⟩
end Go.Proofs.YtmblnflfklmmkaaGreatDoor.Dk
/- The reference's Write. -/
namespace Go.Proofs.YtmblnflfklmmkaaGreatDoor.Dk
open Go.RowKit Go.Proofs.YtmblnflfklmmkaaGreatDoorW.PrintWords Go.Proofs.YtmblnflfklmmkaaGreatDoorW.PrintLast Go.Proofs.YtmblnflfklmmkaaGreatDoorW.PrintMore
set_option linter.unusedVariables false
set_option linter.unusedSimpArgs false
set_option maxRecDepth 30000
variable {w w1 : World} {B g : Nat} {F G : Nat → Prop} {R : RM} {vs vh vc : Value}
theorem info77 : (Tryz.prog.info? 90).map (fun i => (i.zero, i.size, i.bytes)) = some (some (.agg #[.int .i64 0, .slice none 0 0]), 2, 32) := by kernel_rfl
theorem full64 (A : Option Addr) (c : Nat) (x : List Int) (hx : x.length = 64) (hC : Kd.C (Kd.int .u8) w A x.length x) :
    Calls Tryz.prog 45 #[.slice A 64 c] w fun e w' => ∃ v xs, e = .returned v ∧ xs = x ∧ Kd.R (Kd.int .u8) 5 w' w.heap.size (fun k => w.heap.size ≤ k) v xs ∧ Below w.heap.size w w' := by
  have h := full_calls A c x (by omega) hC
  rwa [hx, fullM_self hx] at h
/-- The block of a row of one type is not that of a row of another. -/
theorem row_ne {β : Type} {d2 : Kd β} {e e2 : Nat} {v2 : Value} {ys : List β} {k : Nat} (h2 : d2.R e2 w B F v2 ys) (hb : ∃ cells, w.heap[k]? = some (.cells cells e (0, 0))) (hne : e ≠ e2) : some k ≠ v2.ownBlock := by
  intro he
  obtain ⟨inner, ho⟩ := Kd.R_own h2
  obtain ⟨cells2, hc2⟩ := own_typed ho k he.symm
  obtain ⟨cells, hb⟩ := hb
  rw [hb] at hc2
  injection hc2 with hc2
  injection hc2 with _ hc2 _
  exact hne hc2
theorem buildSlice71 (k : Int) (v : Value) (w : World) (hv : ∃ A n c, v = .slice A n c) : (Instr.buildSlice 66 1 #[(0, .agg #[.int .i64 k, v])]).run Tryz.prog w = .ok (.slice (some ⟨w.heap.size, 0, none⟩) 1 1) (w.alloc (.cells #[.int .i64 k, v] 90)) := by
  obtain ⟨A, n, c, rfl⟩ := hv
  obtain ⟨ie, hie, hz⟩ := Option.map_eq_some_iff.1 info77
  injection hz with hz1 hz2
  injection hz2 with hz2 hz3
  refine run_buildSlice w 66 90 1 _ _ ie _ Tryz.underlying66 hie hz1 (by rw [hz2]; decide) (by rw [hz2]; decide) ?_
  rw [hz2]
  have := Great.fill_whole (s := 2) (by decide) [.agg #[.int .i64 k, .slice A n c]] ((Array.range (1 * 2)).map (fun i => (Value.agg #[.int .i64 0, .slice none 0 0]).cells[i % (Value.agg #[.int .i64 0, .slice none 0 0]).cells.size]!)) (by simp [Value.cells]) (by simp)
  simpa [Value.cells] using this
def RefAt (w : World) (B g : Nat) (F : Nat → Prop) (R : RM) : Prop := ∃ vs vh vc, RAt w B g F R vs vh vc
def rholdM (R : RM) (k : Int) (x : List Int) : RM := { R with wait := R.wait ++ [(k, x)] }
theorem RAt.grow_to {w1 w2 : World} (h : RAt w2 B g (Grow F w w1) R vs vh vc) (hB : B ≤ w.heap.size) (hs : w1.heap.size ≤ w2.heap.size) (hl : ∀ k, F k → B ≤ k ∧ k < w.heap.size) (hu : Upd w w2 F)
    (hc : ∃ A c, vc = .slice A R.choice.length c ∧ R.choice.length ≤ c ∧ ∀ W, Upd w W (fun k => B ≤ k) → Kd.C Kd.bool W A R.choice.length R.choice) : RAt w2 B g (Grow F w w2) R vs vh vc where
  blk := h.blk
  sec := Kd.R_mono h.sec (fun k hk => hk.imp id (fun hk => ⟨hk.1, by omega⟩))
  wait := Kd.R_mono h.wait (fun k hk => hk.imp id (fun hk => ⟨hk.1, by omega⟩))
  choice := by
    obtain ⟨A, c, h1, h2, h3⟩ := hc
    exact ⟨A, c, h1, h2, fun W hW => h3 W ((hu.mono (fun k hk => (hl k hk).1)).trans hW (fun _ h => .inl h))⟩
  own := h.own.imp id (fun hk => ⟨hk.1, by omega⟩)
  lt := fun k hk => by
    rcases hk with hk | hk
    · exact ⟨(hl k hk).1, Nat.lt_of_lt_of_le (hl k hk).2 hu.size⟩
    · exact ⟨by omega, hk.2⟩
theorem RAt.grow (h : RAt w B g F R vs vh vc) (hB : B ≤ w.heap.size) : RAt w B g (Grow F w w) R vs vh vc where
  blk := h.blk
  sec := Kd.R_mono h.sec (fun k hk => .inl hk)
  wait := Kd.R_mono h.wait (fun k hk => .inl hk)
  choice := by
    obtain ⟨A, c, h1, h2, h3⟩ := h.choice
    exact ⟨A, c, h1, h2, h3⟩
  own := .inl h.own
  lt := fun k hk => by
    rcases hk with hk | hk
    · exact h.lt k hk
    · exact ⟨by omega, hk.2⟩
theorem putsTo_mem (keep : Nat → Bool) (K : List (Int × List Int)) (L : List (List Int)) (hw : ∀ h ∈ K, h.2.length = 64) (hs : ∀ s ∈ L, s.length = 64) : ∀ n, n ≤ K.length → ∀ s ∈ putsTo keep K L n, s.length = 64
  | 0, _, s, h => hs s h
  | n + 1, hn, s, h => by
    unfold putsTo at h
    split at h
    · rcases List.mem_or_eq_of_mem_set h with h | rfl
      · exact putsTo_mem keep K L hw hs n (by omega) s h
      · refine hw _ ?_
        rw [List.getD_eq_getElem?_getD, List.getElem?_eq_getElem (by omega : n < K.length)]
        exact List.getElem_mem (by omega)
    · exact putsTo_mem keep K L hw hs n (by omega) s h
theorem rholdM_ok {k : Int} {x : List Int} (h : ROk R) (hk : thereM R k = 0) (hx : x.length = 64) (hn : R.wait.length < 9000000) : ROk (rholdM R k x) := by
  refine ⟨fun y hy => ?_, h.s64, fun y hy => ?_, h.n1, by simp [rholdM]; omega, h.l0, h.l1⟩
  · simp only [rholdM, List.mem_append, List.mem_singleton] at hy
    rcases hy with hy | rfl
    · exact h.at_ y hy
    · unfold thereM at hk
      split at hk
      · omega
      · split at hk
        · omega
        · constructor <;> simp only [rholdM] <;> omega
  · simp only [rholdM, List.mem_append, List.mem_singleton] at hy
    rcases hy with hy | rfl
    · exact h.w64 y hy
    · exact hx
theorem strokeM_same : (strokeM R).1.wait = R.wait ∧ (strokeM R).1.sec = R.sec ∧ (strokeM R).1.choice = R.choice := by
  unfold strokeM
  split
  · exact ⟨rfl, rfl, rfl⟩
  · split <;> exact ⟨rfl, rfl, rfl⟩
theorem strokeM_ok (h : ROk R) : ROk (strokeM R).1 := by
  unfold strokeM
  split
  · exact ⟨h.at_, h.s64, h.w64, h.n1, h.n2, by have := h.l0; simp only; omega, by have := h.l1; simp only; omega⟩
  · split
    · exact ⟨h.at_, h.s64, h.w64, h.n1, h.n2, by simp only; omega, by simp only; omega⟩
    · exact ⟨h.at_, h.s64, h.w64, h.n1, h.n2, by have := h.l0; simp only; omega, by have := h.l1; simp only; omega⟩
theorem rloseM_ok (l : List Bool) (h : ROk R) : ROk (rloseM l R) := by
  unfold rloseM
  split
  · exact h
  · exact ⟨fun y hy => by simp at hy, fun s hs => putsTo_mem _ _ _ h.w64 h.s64 _ (Nat.le_refl _) s hs, fun y hy => by simp at hy, by simp only [putsTo_length]; exact h.n1, Nat.zero_le _, h.l0, h.l1⟩
theorem rloseM_same (l : List Bool) : (rloseM l R).sec.length = R.sec.length ∧ (rloseM l R).wait.length ≤ R.wait.length ∧ (rloseM l R).choice = R.choice := by
  unfold rloseM
  split
  · exact ⟨rfl, Nat.le_refl _, rfl⟩
  · exact ⟨putsTo_length _ _ _ _, Nat.zero_le _, rfl⟩
def rwriteM (R : RM) (k : Int) (x : List Int) : RM × Int :=
  if thereM R k ≠ 0 then (R, thereM R k) else if x.length ≠ 64 then (R, 1) else
  if (strokeM (rholdM R k x)).2 = true then (rloseM (strokeM (rholdM R k x)).1.choice (strokeM (rholdM R k x)).1, 60) else ((strokeM (rholdM R k x)).1, 0)
set_option maxHeartbeats 8000000 in
theorem rWrite_calls (h : RAt w B g F R vs vh vc) (hok : ROk R) (hB : B ≤ w.heap.size) (hn : R.wait.length < 9000000) (k : Int) (A : Option Addr) (c : Nat) (x : List Int) (hC : Kd.C (Kd.int .u8) w A x.length x) :
    Calls Tryz.prog 36 #[.pointer (some ⟨g, 0, none⟩), .int .i64 k, .slice A x.length c] w fun e w' => ∃ n R', e = .returned (.int .i64 n) ∧ RefAt w' B g (Grow F w w') R' ∧ ROk R' ∧ R'.wait.length ≤ R.wait.length + 1 ∧ R'.sec.length = R.sec.length ∧ Upd w w' F ∧ Aside0 (rwriteM R k x = (R', n)) := by
  have H := Aside0.mk h
  have HC := Aside0.mk hC
  have HOK := Aside0.mk hok
  have HN := Aside0.mk hn
  have HB := Aside0.mk hB
  obtain ⟨Ah, ch, rfl, hhl, _⟩ := Kd.R_reads h.wait
  have h1 := h.c1
  clear h hC hok hn hhl hB
  by_cases ha : thereM R k = 0
  · have HA := Aside0.mk ha
    clear ha
    by_cases h64 : x.length = 64
    · have H64 := Aside0.mk h64
      go_enter Tryz.func36, Tryz.ntmps36
      go_wp2_with (first | (go_at_call 54; refine (there_calls H.out k).mono ?_; rintro e w' ⟨rfl, rfl⟩; rw [HA.out]))
      refine start_ (n := 14) (S := fun w' => w'.cell? ⟨g, 1, none⟩ = some (.slice Ah R.wait.length ch)) (ds := [13]) (bz 14 0) (by kernel_rfl) rfl rfl (h1) (fun hHeld => ?_)
      refine pz 0 (some 17) (bz 14 1) ?_
      refine pz 1 (some 18) (bz 14 3) ?_
      refine pz 2 (some 19) (bz 14 7) ?_
      refine pz 3 (some 20) (bz 14 15) ?_
      refine pz 5 (some 22) (bz 14 47) ?_
      refine pz 6 (some 23) (bz 14 111) ?_
      refine tz1 4 (some 21) (bz 14 127) hHeld ?_
      refine one_ (i := 7) (N := some 24) (bz 14 255) rfl rfl (by kernel_rfl) (by decide) (fun K hK => ?_)
      refine goes_ Tryz.func45 (by kernel_rfl) rfl #[.slice A 64 c] (by rfl) rfl rfl (by simp only [List.map_toArray, List.map_cons, List.map_nil]; rfl) ?_
      with_reducible refine (full64 (w := w.drew) A c x H64.out (Kd.C_below HC.out (below_drew (Below.refl _ _)))).mono ?_
      rintro e w3 ⟨v3, xs, rfl, hxl, hr3, hb3⟩
      refine ⟨_, rfl, ?_⟩
      obtain ⟨A3, c3, rfl⟩ := Kd.R_slice hr3
      have hbw3 : Below w.heap.size w w3 := ⟨hb3.os, hb3.tape, hb3.output, hb3.size, hb3.block⟩
      have HBW3 := Aside0.mk hbw3
      have H3A := Aside0.mk (H.out.below hbw3)
      have HXX := Aside0.mk hxl
      have HXL := Aside0.mk (show xs.length = 64 by rw [hxl]; exact H64.out)
      have HXS := Aside0.mk (Kd.R_mono (Kd.R_lower (Kd.R_bound hr3) (show B ≤ w.drew.heap.size from HB.out)) (ok' := fun k => w.heap.size ≤ k ∧ k < w3.heap.size ∧ ∃ cells, w3.heap[k]? = some (.cells cells 5 (0, 0))) (fun k hk => ⟨hk.1, hk.2.2.1, by obtain ⟨q, hq, hc⟩ := hk.2.2.2; simp only [Kd.int, Kd.scalar, List.mem_cons, List.not_mem_nil, or_false] at hq; rw [hq] at hc; exact hc⟩))
      clear hr3 hb3 hxl hbw3
      refine hK.out _ _ ((H3A.out.c1)) (fun hHeld => ?_)
      clear hK K
      refine norm_ (a' := ?_) ?_ ?_
      rotate_left
      · show Act.put _ (some 24) _ = _
        simp only [Act.put, List.setIfInBounds_toArray, List.set_cons_zero, List.set_cons_succ, i64_w, i32_w]
        rfl
      refine pz 8 (some 25) (bz 14 511) ?_
      refine one_ (i := 9) (N := some 26) (bz 14 1023) rfl rfl (by kernel_rfl) (by decide) (fun K hK => ?_)
      refine value_ (w1 := w3.alloc (.cells #[.int .i64 k, (.slice A3 xs.length c3)] 90)) (v := .slice (some ⟨w3.heap.size, 0, none⟩) 1 1) (by rfl) rfl ?hbs ?_
      case hbs =>
        refine exec_buildSlice (t := 66) (n := 1) (parts := #[(0, .tmp 25)]) (args := #[(0, .agg #[.int .i64 k, (.slice A3 xs.length c3)])]) ?ho ?he ?hr
        case ho => rfl
        case he => kernel_rfl
        case hr => exact buildSlice71 k (.slice A3 xs.length c3) w3 ⟨_, _, _, rfl⟩
      refine hK.out _ _ (((H3A.out.below (below_alloc (Below.refl _ _) _)).c1)) (fun hHeld => ?_)
      clear hK K
      refine norm_ (a' := ?_) ?_ ?_
      rotate_left
      · show Act.put _ (some 26) _ = _
        simp only [Act.put, List.setIfInBounds_toArray, List.set_cons_zero, List.set_cons_succ, i64_w, i32_w]
        rfl
      refine one_ (i := 10) (N := some 27) (bz 14 2047) rfl rfl (by kernel_rfl) (by decide) (fun K hK => ?_)
      refine Kd.R_append_step kWa (w0 := w) (W := w3) B (by rfl) (.tmp 21) (.tmp 26) 66 90 (.agg #[.int .i64 0, .slice none 0 0]) 32 rfl Tryz.underlying66 info77 rfl (by decide) (by decide) (.slice Ah R.wait.length ch) R.wait (k, xs) [.int .i64 k, (.slice A3 xs.length c3)] (fun k => F k ∨ w.heap.size ≤ k) (fun k => w.heap.size ≤ k ∧ k < w3.heap.size ∧ ∃ cells, w3.heap[k]? = some (.cells cells 5 (0, 0))) rfl rfl ⟨[.int .i64 k], [(.slice A3 xs.length c3)], rfl, rfl, _, rfl, HXS.out⟩ (fun k hk => ⟨.inr hk.1, row_ne H3A.out.wait hk.2.2 (by decide)⟩) (fun k hk => .inr (Nat.le_trans HBW3.out.size hk)) (Kd.R_mono H3A.out.wait (fun _ h => .inl h)) (Below.mono HBW3.out HB.out) (Nat.le_trans HB.out HBW3.out.size) (by have := HN.out; omega) ?_
      intro v1 w1 hr1 hb1 hg1 _
      obtain ⟨A1, c1, rfl⟩ := Kd.R_slice hr1
      have HR1 := Aside0.mk (R_grow hr1)
      have HG1 := Aside0.mk hg1
      have hb1k := blk_other H3A.out.blk H3A.out.wait (by decide) hg1
      have h1b : w1.cell? ⟨g, 1, none⟩ = some (.slice Ah R.wait.length ch) := by simp [World.cell?, hb1k]
      have hf1 : ∀ j, w1.frozen? ⟨g, j, none⟩ = false := fun j => by simp [World.frozen?, hb1k]
      have HBK := Aside0.mk hb1k
      clear hr1 hb1 hg1 hb1k
      refine hK.out _ _ ((h1b)) (fun hHeld => ?_)
      clear hK K
      refine norm_ (a' := ?_) ?_ ?_
      rotate_left
      · show Act.put _ (some 27) _ = _
        simp only [Act.put, List.setIfInBounds_toArray, List.set_cons_zero, List.set_cons_succ, i64_w, i32_w]
        rfl
      refine pz 11 (some 28) (bz 14 4095) ?_
      refine pz 12 (some 29) (bz 14 8191) ?_
      refine last_ (i := 13) (N := none) (bz 14 16383) rfl rfl (by kernel_rfl) (by decide) (fun K hK => ?_)
      refine skip_ (w1 := ?_) (by rfl) rfl ?_ ?_
      rotate_left
      · go_simp
        rfl
      refine hK.out _ _ ?_
      clear hK K
      refine done_ (by kernel_rfl) ?_
      have H2 := Aside0.mk (show RAt (w1.setCell ⟨g, 1, none⟩ (.slice A1 (R.wait ++ [(k, xs)]).length c1)) B g (Grow F w w1) (rholdM R k xs) vs (.slice A1 (R.wait ++ [(k, xs)]).length c1) vc from
        { blk := by rw [heap_setCell_same w1 g 1 _ 68 _ HBK.out]; rfl
          sec := Kd.R_set (Kd.R_mono (Kd.R_over H3A.out.sec H3A.out.wait (by simp [kBy, Kd.slice, Kd.int, Kd.scalar]) HG1.out) (fun _ h => .inl h)) HBK.out (by simp [kBy, Kd.slice, Kd.int, Kd.scalar]) 1 _
          wait := Kd.R_set HR1.out HBK.out (by simp [kWa, kBy, Kd.pair, Kd.slice, Kd.int, Kd.scalar]) 1 _
          choice := by
            obtain ⟨A, c, h1, h2, h3⟩ := H.out.choice
            exact ⟨A, c, h1, h2, fun W hW => h3 W (((((Upd.of_below (F := F) HBW3.out).trans (Upd.of_row H3A.out.wait HG1.out) (fun _ h => .inl h)).setCell (p := ⟨g, 1, none⟩) (.inl H.out.own) _).mono (fun k hk => (H.out.lt k hk).1)).trans hW (fun _ h => .inl h))⟩
          own := .inl H.out.own
          lt := fun k hk => by
            have s1 := HBW3.out.size
            have s2 := HG1.out.size
            have s3 := HB.out
            rw [show (w1.setCell ⟨g, 1, none⟩ _).heap.size = w1.heap.size by simp [World.setCell]]
            rcases hk with hk | hk
            · have := H.out.lt k hk
              exact ⟨this.1, by omega⟩
            · exact ⟨by omega, hk.2⟩ })
      have HU2 := Aside0.mk ((((Upd.of_below (F := F) HBW3.out).trans (Upd.of_row H3A.out.wait HG1.out) (fun _ h => .inl h)).setCell (p := ⟨g, 1, none⟩) (.inl H.out.own) (.slice A1 (R.wait ++ [(k, xs)]).length c1)))
      have HOK2 := Aside0.mk (rholdM_ok HOK.out HA.out HXL.out HN.out)
      have HS2 := Aside0.mk (show (rholdM R k xs).wait.length = R.wait.length + 1 by simp [rholdM])
      rw [show (R.wait ++ [(k, xs)]).length = R.wait.length + 1 by simp] at H2 HU2
      clear hf1 h1b HBK HR1 HXS
      have HQ0 := Aside0.mk (show rwriteM R k x = if (strokeM (rholdM R k xs)).2 = true then (rloseM (strokeM (rholdM R k xs)).1.choice (strokeM (rholdM R k xs)).1, 60) else ((strokeM (rholdM R k xs)).1, 0) by rw [HXX.out, rwriteM, if_neg (by rw [HA.out]; simp), if_neg (by rw [H64.out]; simp)])
      cases hg : (strokeM (rholdM R k xs)).2 with
      | true =>
        have hg' := Lib.hid hg
        clear hg
        go_wp2_with (first | (go_at_call 55; refine (stroke_calls H2.out HOK2.out.l0 HOK2.out.l1).mono ?_; rintro e w4 ⟨rfl, h4, hu4⟩; rw [hg'.out]; obtain ⟨Ac, cc, rfl, hlc, hCc⟩ := h4.choice; have H4 := Aside0.mk h4; have HU4 := Aside0.mk hu4; have HCC := Aside0.mk hCc; have hc5 := h4.c5; clear h4 hu4 hCc hlc) | (go_at_call 32; refine (rLose_calls H4.out (strokeM_ok HOK2.out) Ac cc _ (fun W hW => HCC.out W (hW.mono (fun k hk => (H4.out.lt k hk).1)))).mono ?_; rintro e w5 ⟨rfl, ⟨vh5, h5⟩, hu5⟩; have H5 := Aside0.mk h5; have HU5 := Aside0.mk hu5; clear h5 hu5))
        go_ret
        have hu := (HU2.out.trans HU4.out (fun _ => Grow.out)).trans HU5.out (fun _ => Grow.out)
        refine ⟨_, rloseM _ (strokeM (rholdM R k xs)).1, rfl, ⟨_, _, _, RAt.grow_to H5.out HB.out (Nat.le_trans (Nat.le_of_eq (by simp [World.setCell])) (Nat.le_trans HU4.out.size HU5.out.size)) H.out.lt hu ?_⟩, rloseM_ok _ (strokeM_ok HOK2.out), ?_, ?_, hu, ⟨HQ0.out.trans (if_pos hg'.out)⟩⟩
        · have hch := H.out.choice
          have ech : (strokeM (rholdM R k xs)).1.choice = R.choice := strokeM_same.2.2
          rw [(rloseM_same _).2.2]
          rw [ech] at hch ⊢
          exact hch
        · have := (rloseM_same (R := (strokeM (rholdM R k xs)).1) (strokeM (rholdM R k xs)).1.choice).2.1
          rw [strokeM_same.1, HS2.out] at this
          exact this
        · rw [(rloseM_same _).1, strokeM_same.2.1]
          rfl
      | false =>
        have hg' := Lib.hid hg
        clear hg
        go_wp2_with (first | (go_at_call 55; refine (stroke_calls H2.out HOK2.out.l0 HOK2.out.l1).mono ?_; rintro e w4 ⟨rfl, h4, hu4⟩; rw [hg'.out]; have H4 := Aside0.mk h4; have HU4 := Aside0.mk hu4; clear h4 hu4))
        go_ret
        have hu := HU2.out.trans HU4.out (fun _ => Grow.out)
        refine ⟨_, (strokeM (rholdM R k xs)).1, rfl, ⟨_, _, _, RAt.grow_to H4.out HB.out (Nat.le_trans (Nat.le_of_eq (by simp [World.setCell])) HU4.out.size) H.out.lt hu ?_⟩, strokeM_ok HOK2.out, ?_, ?_, hu, ⟨HQ0.out.trans (if_neg (by rw [hg'.out]; simp))⟩⟩
        · rw [strokeM_same.2.2]
          exact H.out.choice
        · rw [strokeM_same.1, HS2.out]
          exact Nat.le_refl _
        · rw [strokeM_same.2.1]
          rfl
    · have t64 : decide ((x.length : Int) = 64) = false := by simp; omega
      go_enter Tryz.func36, Tryz.ntmps36
      go_wp2_with (first | (go_at_call 54; refine (there_calls H.out k).mono ?_; rintro e w' ⟨rfl, rfl⟩; rw [HA.out]))
      go_ret
      exact ⟨1, R, rfl, ⟨_, _, _, H.out.grow HB.out⟩, HOK.out, by omega, rfl, Upd.refl _ _, ⟨by rw [rwriteM, if_neg (by rw [HA.out]; simp), if_pos h64]⟩⟩
  · obtain ⟨q, hq0⟩ : ∃ q, thereM R k = q := ⟨_, rfl⟩
    have HA := Lib.hid hq0
    rw [hq0] at ha
    clear hq0
    go_enter Tryz.func36, Tryz.ntmps36
    go_wp2_with (first | (go_at_call 54; refine (there_calls H.out k).mono ?_; rintro e w' ⟨rfl, rfl⟩; rw [HA.out]))
    go_ret
    exact ⟨q, R, rfl, ⟨_, _, _, H.out.grow HB.out⟩, HOK.out, by omega, rfl, Upd.refl _ _, ⟨by rw [rwriteM, HA.out, if_pos (by simpa using ha)]⟩⟩
end Go.Proofs.YtmblnflfklmmkaaGreatDoor.Dk
/- The reference's Flush. -/
namespace Go.Proofs.YtmblnflfklmmkaaGreatDoor.Dk
open Go.RowKit Go.Proofs.YtmblnflfklmmkaaGreatDoorW.PrintWords Go.Proofs.YtmblnflfklmmkaaGreatDoorW.PrintLast Go.Proofs.YtmblnflfklmmkaaGreatDoorW.PrintMore
set_option linter.unusedVariables false
set_option linter.unusedSimpArgs false
set_option maxRecDepth 30000
variable {w w1 : World} {B g : Nat} {F G : Nat → Prop} {R : RM} {vs vh vc : Value}
def allT : Nat → Bool := fun _ => true
def rflushM (R : RM) : RM × Int :=
  if R.down = true then (R, 60) else if (strokeM R).2 = true then (rloseM (strokeM R).1.choice (strokeM R).1, 60) else
  ({ (strokeM R).1 with sec := putsTo allT (strokeM R).1.wait (strokeM R).1.sec (strokeM R).1.wait.length, wait := [] }, 0)
set_option maxHeartbeats 8000000 in
theorem rFlush_calls (h : RAt w B g F R vs vh vc) (hok : ROk R) :
    Calls Tryz.prog 38 #[.pointer (some ⟨g, 0, none⟩)] w fun e w' => ∃ n R', e = .returned (.int .i64 n) ∧ RefAt w' B g F R' ∧ ROk R' ∧ R'.wait.length ≤ R.wait.length ∧ R'.sec.length = R.sec.length ∧ Upd w w' F ∧ Aside0 (rflushM R = (R', n)) := by
  have H := Aside0.mk h
  have HOK := Aside0.mk hok
  have h2 := h.c2
  clear h hok
  cases hd : R.down with
  | true =>
    rw [hd] at h2
    have HQ := Aside0.mk (show rflushM R = (R, 60) by rw [rflushM, if_pos hd])
    clear hd
    go_enter Tryz.func38, Tryz.ntmps38
    go_wp2
    go_ret
    exact ⟨60, R, rfl, ⟨_, _, _, H.out⟩, HOK.out, Nat.le_refl _, rfl, Upd.refl _ _, HQ⟩
  | false =>
    rw [hd] at h2
    have HQ0 := Aside0.mk (show rflushM R = if (strokeM R).2 = true then (rloseM (strokeM R).1.choice (strokeM R).1, 60) else ({ (strokeM R).1 with sec := putsTo allT (strokeM R).1.wait (strokeM R).1.sec (strokeM R).1.wait.length, wait := [] }, 0) by rw [rflushM, if_neg (by rw [hd]; simp)])
    clear hd
    cases hg : (strokeM R).2 with
    | true =>
      have hg' := Lib.hid hg
      clear hg
      go_enter Tryz.func38, Tryz.ntmps38
      go_wp2_with (first | (go_at_call 55; refine (stroke_calls H.out HOK.out.l0 HOK.out.l1).mono ?_; rintro e w4 ⟨rfl, h4, hu4⟩; rw [hg'.out]; obtain ⟨Ac, cc, rfl, hlc, hCc⟩ := h4.choice; have H4 := Aside0.mk h4; have HU4 := Aside0.mk hu4; have HCC := Aside0.mk hCc; have hc5 := h4.c5; clear h4 hu4 hCc hlc) | (go_at_call 32; refine (rLose_calls H4.out (strokeM_ok HOK.out) Ac cc _ (fun W hW => HCC.out W (hW.mono (fun k hk => (H4.out.lt k hk).1)))).mono ?_; rintro e w5 ⟨rfl, ⟨vh5, h5⟩, hu5⟩; have H5 := Aside0.mk h5; have HU5 := Aside0.mk hu5; clear h5 hu5))
      go_ret
      refine ⟨60, rloseM _ (strokeM R).1, rfl, ⟨_, _, _, H5.out⟩, rloseM_ok _ (strokeM_ok HOK.out), ?_, ?_, HU4.out.trans HU5.out (fun _ h => .inl h), ⟨HQ0.out.trans (if_pos hg'.out)⟩⟩
      · have := (rloseM_same (R := (strokeM R).1) (strokeM R).1.choice).2.1
        rw [strokeM_same.1] at this
        exact this
      · rw [(rloseM_same _).1, strokeM_same.2.1]
    | false =>
      have hg' := Lib.hid hg
      clear hg
      obtain ⟨R1, hR1⟩ : ∃ R1, R1 = (strokeM R).1 := ⟨_, rfl⟩
      have HOK1 := Aside0.mk (show ROk R1 by rw [hR1]; exact strokeM_ok HOK.out)
      have HE1 := Aside0.mk (show R1.wait = R.wait ∧ R1.sec = R.sec by rw [hR1]; exact ⟨strokeM_same.1, strokeM_same.2.1⟩)
      have HR1 := Lib.hid hR1
      clear hR1
      go_enter Tryz.func38, Tryz.ntmps38
      go_wp2_with (first | (go_at_call 55; refine (stroke_calls H.out HOK.out.l0 HOK.out.l1).mono ?_; rintro e w4 ⟨rfl, h4, hu4⟩; rw [hg'.out]; rw [← HR1.out] at h4; obtain ⟨As, cs, rfl, hsl, _⟩ := Kd.R_reads h4.sec; obtain ⟨Ah, ch, rfl, hhl, _⟩ := Kd.R_reads h4.wait; have H4 := Aside0.mk h4; have HU4 := Aside0.mk hu4; clear h4 hu4))
      go_loopw [3] (fun v3 w' => ∃ i : Nat, v3 = .int .i64 i ∧ i ≤ R1.wait.length ∧ Aside0 (RAt w' B g F { R1 with sec := putsTo allT R1.wait R1.sec i } (.slice As R1.sec.length cs) (.slice Ah R1.wait.length ch) vc) ∧ Aside0 (Upd w w' F)) (fun v3 _ => R1.wait.length - (intOf v3).toNat)
      case atStart => exact ⟨0, rfl, Nat.zero_le _, H4, HU4⟩
      case round =>
        obtain ⟨i, rfl, hi, HD, HU⟩ := hrel
        clear h2
        have hn2 := HOK1.out.n2
        have h1 := HD.out.c1
        by_cases hlt : i < R1.wait.length
        · have HP := Aside0.mk (show putsTo allT R1.wait R1.sec (i + 1) = (putsTo allT R1.wait R1.sec i).set (R1.wait.getD i (0, [])).1.toNat (R1.wait.getD i (0, [])).2 by simp [putsTo, allT])
          obtain ⟨ha0, ha1⟩ := HOK1.out.at_ (R1.wait.getD i (0, [])) (by rw [List.getD_eq_getElem?_getD, List.getElem?_eq_getElem hlt]; exact List.getElem_mem hlt)
          rcases R_cases HD.out.wait with ⟨_, hz⟩ | ⟨gh, caph, eh, hgh⟩
          · have : R1.wait.length = 0 := by rw [hz]; rfl
            omega
          rcases R_cases HD.out.sec with ⟨_, hz⟩ | ⟨gs, caps', es, hgs⟩
          · have : (putsTo allT R1.wait R1.sec i).length = 0 := congrArg List.length hz
            rw [putsTo_length] at this
            omega
          injection eh with eh1 eh2 eh3
          injection es with es1 es2 es3
          subst eh1; subst es1
          clear eh2 eh3 es2 es3
          obtain ⟨u, hu1, hu2, hu3⟩ := wait_elem HD.out.sec HD.out.wait i hlt
          obtain ⟨a, b, hab⟩ : ∃ a b, R1.wait.getD i (0, []) = (a, b) := ⟨_, _, rfl⟩
          have hu1' : wr.cell? ⟨gh, i * 2, none⟩ = some (.int .i64 (R1.wait.getD i (0, [])).1) := hu1
          have hu3' : Kd.R (Kd.int .u8) 5 wr B (fun k => F k ∧ k ≠ gs) u (R1.wait.getD i (0, [])).2 := hu3
          clear hu1 hu3
          rw [hab] at HP ha0 ha1 hu1' hu3'
          dsimp only at HP ha0 ha1 hu1' hu3'
          have HU3 := Aside0.mk hu3'
          obtain ⟨Au, cu, rfl⟩ := Kd.R_slice hu3'
          have h0 := HD.out.c0
          have hf := HD.out.free
          clear hab hu3'
          go_wp2
          refine wp_region_still_tail 21 (by kernel_rfl) (by kernel_rfl) ?_
          simp only [List.take_succ_cons, List.take_zero, List.drop_succ_cons, List.drop_zero]
          change wpStill _ _ wr.drew _ _ _
          repeat still_step
          refine wpStill_nil ?_
          change wpList _ _ _ _ _ wr.drew
          obtain ⟨c2, hsz2, hM2, hx2, _⟩ := Kd.R_elem HD.out.sec [] a ha0 ha1
          refine Kd.R_store kBy (w0 := wr.drew) B rfl rfl 22 (.tmp 45) (.tmp 44) rfl 22 (g := gs) (n := R1.sec.length) (cap := cs) (o' := a.toNat) a 0 (putsTo allT R1.wait R1.sec i) b (.slice Au b.length cu) [.slice Au b.length cu] c2 F (fun k => F k ∧ k ≠ gs) rfl (by show a.toNat = a.toNat * 1 + 0; omega) rfl rfl (by kernel_rfl) (by intro q hq; simp only [List.mem_singleton] at hq; rw [hq]; rfl) HD.out.sec ha0 ha1 hsz2 hx2 (Nat.le_refl 1) ⟨_, by rw [List.take_zero, List.nil_append, List.drop_of_length_le (show c2.length ≤ 0 + [Value.slice Au b.length cu].length from Nat.le_of_eq hsz2), List.append_nil], HU3.out⟩ (fun _ h => h) (Below.refl _ _) ?_
          intro w5 hr5 hb5 hg5d
          have hg5 : wr.grownBy w5 (Value.slice (some ⟨gs, 0, none⟩) R1.sec.length cs).ownBlock := ⟨hg5d.os, hg5d.tape, hg5d.output, hg5d.size, hg5d.block⟩
          have hU5 : Upd wr w5 F := Upd.of_row HD.out.sec hg5
          have HD5 := Aside0.mk (show RAt w5 B g F { R1 with sec := putsTo allT R1.wait R1.sec (i + 1) } (.slice (some ⟨gs, 0, none⟩) R1.sec.length cs) (.slice (some ⟨gh, 0, none⟩) R1.wait.length ch) vc from by
            rw [HP.out]
            refine ⟨blk_other HD.out.blk HD.out.sec (by decide) hg5, hr5, ?_, ?_, HD.out.own, fun k hk => ⟨(HD.out.lt k hk).1, Nat.lt_of_lt_of_le (HD.out.lt k hk).2 hg5.size⟩⟩
            · exact wait_kept HD.out.sec HD.out.wait hg5
            · obtain ⟨A', c', h1, h2, h3⟩ := HD.out.choice
              exact ⟨A', c', h1, h2, fun W hW => h3 W ((hU5.mono (fun k hk => (HD.out.lt k hk).1)).trans hW (fun _ h => .inl h))⟩)
          have HU5 := Aside0.mk (HU.out.trans hU5 (fun _ h => .inl h))
          clear hg5d hg5 hU5 hr5 hb5
          go_wp2
          go_roundw
          case rel => exact ⟨i + 1, by go_num, by omega, HD5, HU5⟩
          case measure => simp [intOf]; omega
        · obtain rfl : i = R1.wait.length := by omega
          have hf := HD.out.free
          have H1 := Aside0.mk (HD.out.put 1 (.slice none 0 0) { R1 with sec := putsTo allT R1.wait R1.sec R1.wait.length, wait := [] } (.slice As R1.sec.length cs) (.slice none 0 0) rfl HD.out.sec (Kd.R_nil _ _ _ _ _) rfl)
          have HU2 := Aside0.mk (HU.out.trans (HD.out.upd 1 (.slice none 0 0)) (fun _ h => .inl h))
          go_wp2
          go_ret
          have o := HOK1.out
          refine ⟨0, _, rfl, ⟨_, _, _, H1.out⟩, ⟨fun y hy => by simp at hy, fun s hs => putsTo_mem _ _ _ o.w64 o.s64 _ (Nat.le_refl _) s hs, fun y hy => by simp at hy, by simp only [putsTo_length]; exact o.n1, Nat.zero_le _, o.l0, o.l1⟩, Nat.zero_le _, ?_, HU2.out, ⟨by rw [HQ0.out, if_neg (by rw [hg'.out]; simp), ← HR1.out]⟩⟩
          show (putsTo _ _ _ _).length = _
          rw [putsTo_length, HE1.out.2]
end Go.Proofs.YtmblnflfklmmkaaGreatDoor.Dk
/- The reference's Read. -/
namespace Go.Proofs.YtmblnflfklmmkaaGreatDoor.Dk
open Go.RowKit Go.Proofs.YtmblnflfklmmkaaGreatDoorW.PrintWords Go.Proofs.YtmblnflfklmmkaaGreatDoorW.PrintLast Go.Proofs.YtmblnflfklmmkaaGreatDoorW.PrintMore
set_option linter.unusedVariables false
set_option linter.unusedSimpArgs false
set_option maxRecDepth 30000
variable {w w1 : World} {B g : Nat} {F G : Nat → Prop} {R : RM} {vs vh vc : Value}
/-- Bytes that can be read. -/
def Reads (w : World) (v : Value) (b : List Int) : Prop := ∃ A c, v = .slice A b.length c ∧ b.length ≤ c ∧ Kd.C (Kd.int .u8) w A b.length b
theorem Reads.nil (w : World) : Reads w (.slice none 0 0) [] := ⟨none, 0, rfl, Nat.le_refl _, rfl, by decide, fun h => absurd h (by decide)⟩
theorem Reads.of_R {ok : Nat → Prop} {v : Value} {b : List Int} (h : Kd.R (Kd.int .u8) 5 w B ok v b) : Reads w v b := Kd.R_reads h
/-- A sector of the reference. -/
theorem sec_elem {gs ns cs : Nat} {L : List (List Int)} (h : Kd.R kBy 22 w B F (.slice (some ⟨gs, 0, none⟩) ns cs) L) (k : Int) (h0 : 0 ≤ k) (h1 : k < ns) :
    ∃ u, w.cell? ⟨gs, k.toNat, none⟩ = some u ∧ Kd.R (Kd.int .u8) 5 w B F u (L.getD k.toNat []) := by
  obtain ⟨c, hl, hM, hx, _⟩ := Kd.R_elem h [] k h0 h1
  obtain ⟨u, rfl, hr⟩ := hM
  have := hx 0 u rfl
  refine ⟨u, ?_, Kd.R_mono hr (fun _ h => h.1)⟩
  rw [show k.toNat * kBy.sz + 0 = k.toNat from by show k.toNat * 1 + 0 = _; omega] at this
  exact this
/-- What is read of a sector. -/
def rreadM (R : RM) (k : Int) : List Int := if thereM R k = 0 then readTo k R.wait (R.sec.getD k.toNat []) R.wait.length else []
set_option maxHeartbeats 8000000 in
theorem rRead_calls (h : RAt w B g F R vs vh vc) (hok : ROk R) (k : Int) :
    Calls Tryz.prog 62 #[.pointer (some ⟨g, 0, none⟩), .int .i64 k] w fun e w' => ∃ v b n, e = .returned (.tuple #[v, .int .i64 n]) ∧ Reads w' v b ∧ w = w' ∧ (thereM R k = 0 → b.length = 64) ∧ Aside0 (b = rreadM R k ∧ n = thereM R k) := by
  have H := Aside0.mk h
  have HOK := Aside0.mk hok
  obtain ⟨As, cs, rfl, hsl, _⟩ := Kd.R_reads h.sec
  obtain ⟨Ah, ch, rfl, hhl, _⟩ := Kd.R_reads h.wait
  have h1 := h.c1
  have h0 := h.c0
  have hn2 := hok.n2
  clear h hok hsl hhl
  by_cases ha : thereM R k = 0
  · have hk0 : 0 ≤ k ∧ k < (R.sec.length : Int) := by
      unfold thereM at ha
      split at ha
      · omega
      · split at ha
        · omega
        · omega
    have HA := Aside0.mk ha
    clear ha
    obtain ⟨hk0, hk1⟩ := hk0
    rcases R_cases H.out.sec with ⟨_, hz⟩ | ⟨gs, caps', es, hgs⟩
    · have : R.sec.length = 0 := congrArg List.length hz
      omega
    injection es with es1 es2 es3
    subst es1
    clear es2 es3
    obtain ⟨us, hus, hRu⟩ := sec_elem H.out.sec k hk0 hk1
    have hlb : (R.sec.getD k.toNat []).length = 64 := by
      rw [List.getD_eq_getElem?_getD, List.getElem?_eq_getElem (by omega)]
      exact HOK.out.s64 _ (List.getElem_mem (by omega))
    obtain ⟨bs, hbs⟩ : ∃ b, R.sec.getD k.toNat [] = b := ⟨_, rfl⟩
    rw [hbs] at hRu hlb
    have HLB := Aside0.mk hlb
    have HRM := Aside0.mk (show rreadM R k = readTo k R.wait bs R.wait.length by rw [rreadM, if_pos HA.out, hbs])
    have HPW := Aside0.mk (show ∀ j, j < R.wait.length → readTo k R.wait bs (j + 1) = if (R.wait.getD j (0, [])).1 = k then (R.wait.getD j (0, [])).2 else readTo k R.wait bs j from fun _ _ => rfl)
    have HUS := Aside0.mk hRu
    obtain ⟨Au, cu, rfl⟩ := Kd.R_slice hRu
    clear hbs hlb
    clear hRu
    go_enter Tryz.func62, Tryz.ntmps62
    go_wp2_with (first | (go_at_call 54; refine (there_calls H.out k).mono ?_; rintro e w' ⟨rfl, rfl⟩; rw [HA.out]))
    go_loopw [7] (fun v7 w' => w' = w ∧ ((v7 = .int .i64 (-1) ∧ Aside0 (rreadM R k = bs)) ∨ ∃ j : Nat, v7 = .int .i64 j ∧ j < R.wait.length ∧ Aside0 (rreadM R k = readTo k R.wait bs (j + 1)))) (fun v7 _ => (intOf v7 + 1).toNat)
    case atStart =>
      refine ⟨rfl, ?_⟩
      rcases Nat.eq_zero_or_pos R.wait.length with h | h
      · exact .inl ⟨by rw [h]; rfl, ⟨by rw [HRM.out, h]; rfl⟩⟩
      · exact .inr ⟨R.wait.length - 1, by congr 1; omega, by omega, ⟨by rw [HRM.out, show R.wait.length - 1 + 1 = R.wait.length by omega]⟩⟩
    case round =>
      obtain ⟨rfl, hv⟩ := hrel
      rcases hv with ⟨rfl, HJ⟩ | ⟨j, rfl, hj, HJ⟩
      · go_wp2
        refine bodyPost_ret (results_tmp2 rfl _ _ _) rfl ?_
        exact ⟨_, bs, _, rfl, Reads.of_R HUS.out, rfl, fun _ => HLB.out, ⟨HJ.out.symm, HA.out.symm⟩⟩
      · rcases R_cases H.out.wait with ⟨_, hz⟩ | ⟨gh, caph, eh, hgh⟩
        · have : R.wait.length = 0 := by rw [hz]; rfl
          omega
        injection eh with eh1 eh2 eh3
        subst eh1
        clear eh2 eh3
        obtain ⟨u, hu1, hu2, hu3⟩ := wait_elem H.out.sec H.out.wait j hj
        have hl64 : (R.wait.getD j (0, [])).2.length = 64 := by
          rw [List.getD_eq_getElem?_getD, List.getElem?_eq_getElem hj]
          exact HOK.out.w64 _ (List.getElem_mem hj)
        obtain ⟨a, b, hab⟩ : ∃ a b, R.wait.getD j (0, []) = (a, b) := ⟨_, _, rfl⟩
        rw [hab] at hl64 hu3
        have hu1' : wr.cell? ⟨gh, j * 2, none⟩ = some (.int .i64 (R.wait.getD j (0, [])).1) := hu1
        rw [hab] at hu1'
        dsimp only at hl64 hu3 hu1'
        have HL := Aside0.mk hl64
        have HU := Aside0.mk hu3
        have HJ2 := Aside0.mk (show rreadM R k = if a = k then b else readTo k R.wait bs j by rw [HJ.out, HPW.out j hj, hab])
        clear hab hl64 hu3 hu1
        by_cases hak : a = k
        · subst hak
          go_wp2
          refine bodyPost_ret (results_tmp2 rfl _ _ _) rfl ?_
          exact ⟨_, b, _, rfl, Reads.of_R HU.out, rfl, fun _ => HL.out, ⟨(HJ2.out.trans (if_pos trivial)).symm, HA.out.symm⟩⟩
        · have tak : (a == k) = false := by simpa using hak
          have HJ3 := Aside0.mk (HJ2.out.trans (if_neg hak))
          clear hak
          go_wp2
          go_roundw
          case rel =>
            refine ⟨trivial, ?_⟩
            rcases Nat.eq_zero_or_pos j with h | h
            · exact .inl ⟨by rw [h]; rfl, ⟨by rw [HJ3.out, h]; rfl⟩⟩
            · exact .inr ⟨j - 1, by congr 1; omega, by omega, ⟨by rw [HJ3.out, show j - 1 + 1 = j by omega]⟩⟩
          case measure => simp [intOf]
  · obtain ⟨q, hq0⟩ : ∃ q, thereM R k = q := ⟨_, rfl⟩
    have HA := Lib.hid hq0
    rw [hq0] at ha
    clear hq0
    go_enter Tryz.func62, Tryz.ntmps62
    go_wp2_with (first | (go_at_call 54; refine (there_calls H.out k).mono ?_; rintro e w' ⟨rfl, rfl⟩; rw [HA.out]))
    refine bodyPost_ret (results_tmp2 rfl _ _ _) rfl ?_
    exact ⟨_, [], q, rfl, Reads.nil _, rfl, fun h => absurd (HA.out.symm.trans h) (by simpa using ha), ⟨by rw [rreadM, if_neg (by rw [HA.out]; simpa using ha)], HA.out.symm⟩⟩
end Go.Proofs.YtmblnflfklmmkaaGreatDoor.Dk
/- The reference's span and Load. -/
namespace Go.Proofs.YtmblnflfklmmkaaGreatDoor.Dk
open Go.RowKit Go.Proofs.YtmblnflfklmmkaaGreatDoorW.PrintWords Go.Proofs.YtmblnflfklmmkaaGreatDoorW.PrintLast Go.Proofs.YtmblnflfklmmkaaGreatDoorW.PrintMore
set_option linter.unusedVariables false
set_option linter.unusedSimpArgs false
set_option maxRecDepth 30000
variable {w w1 : World} {B g : Nat} {F G : Nat → Prop} {R : RM} {vs vh vc : Value}
def rspanM (R : RM) (k n : Int) : Int := if R.down = true then 60 else if k < 0 ∨ (R.sec.length : Int) < k ∨ 64 * ((R.sec.length : Int) - k) < n then 61 else 0
set_option maxHeartbeats 8000000 in
theorem rspan_calls (h : RAt w B g F R vs vh vc) (hok : ROk R) (k n : Int) :
    Calls Tryz.prog 67 #[.pointer (some ⟨g, 0, none⟩), .int .i64 k, .int .i64 n] w fun e w' => e = .returned (.int .i64 (rspanM R k n)) ∧ w = w' := by
  obtain ⟨As, cs, rfl, hsl, _⟩ := Kd.R_reads h.sec
  have h0 := h.c0
  have h2 := h.c2
  have hn1 := hok.n1
  clear h hok hsl
  cases hd : R.down with
  | true =>
    rw [hd] at h2
    have hq := Lib.hid (show rspanM R k n = 60 by simp [rspanM, hd])
    clear hd
    go_enter Tryz.func67, Tryz.ntmps67
    go_wp2
    go_ret
    exact ⟨by rw [hq.out] <;> rfl, rfl⟩
  | false =>
    rw [hd] at h2
    by_cases hk : k < 0
    · have hq := Lib.hid (show rspanM R k n = 61 by simp [rspanM, hd, hk])
      clear hd
      go_enter Tryz.func67, Tryz.ntmps67
      go_wp2
      go_ret
      exact ⟨by rw [hq.out] <;> rfl, rfl⟩
    by_cases hk2 : (R.sec.length : Int) < k
    · have hq := Lib.hid (show rspanM R k n = 61 by simp [rspanM, hd, hk2])
      clear hd
      go_enter Tryz.func67, Tryz.ntmps67
      go_wp2
      go_ret
      exact ⟨by rw [hq.out] <;> rfl, rfl⟩
    by_cases hk3 : 64 * ((R.sec.length : Int) - k) < n
    · have hq := Lib.hid (show rspanM R k n = 61 by simp [rspanM, hd, hk3])
      clear hd
      go_enter Tryz.func67, Tryz.ntmps67
      go_wp2
      go_ret
      exact ⟨by rw [hq.out] <;> rfl, rfl⟩
    · have hq := Lib.hid (show rspanM R k n = 0 by simp [rspanM, hd, hk, hk2, hk3])
      clear hd
      go_enter Tryz.func67, Tryz.ntmps67
      go_wp2
      go_ret
      exact ⟨by rw [hq.out] <;> rfl, rfl⟩
theorem rspan0 {k n : Int} (h : rspanM R k n = 0) : R.down = false ∧ 0 ≤ k ∧ k ≤ R.sec.length ∧ n ≤ 64 * ((R.sec.length : Int) - k) := by
  unfold rspanM at h
  cases hd : R.down with
  | true => rw [hd] at h; simp at h
  | false =>
    rw [hd] at h
    by_cases hc : k < 0 ∨ (R.sec.length : Int) < k ∨ 64 * ((R.sec.length : Int) - k) < n
    · simp [hc] at h
    · refine ⟨rfl, ?_, ?_, ?_⟩ <;> omega
theorem there0 {k : Int} (hd : R.down = false) (h0 : 0 ≤ k) (h1 : k < R.sec.length) : thereM R k = 0 := by
  unfold thereM
  rw [hd, if_neg (by decide), if_neg (by omega)]
def rreadsTo (R : RM) (k : Int) : Nat → List Int
  | 0 => []
  | i + 1 => rreadsTo R k i ++ rreadM R (k + i)
def rloadE (R : RM) (k n : Int) : Int := if R.down = true then 60 else if n < 0 then 1 else rspanM R k n
def rloadM (R : RM) (k n : Int) : List Int := if rloadE R k n = 0 then (rreadsTo R k ((n.toNat + 63) / 64)).take n.toNat else []
/-- What Load answers: the bytes, and the error. -/
def LoadPo (w w' : World) (R : RM) (k n : Int) (e : Ending) : Prop := ∃ v, e = .returned (.tuple #[v, .int .i64 (rloadE R k n)]) ∧ Reads w' v (rloadM R k n) ∧ Below w.heap.size w w' ∧ (rloadM R k n).length ≤ n.toNat
theorem rloadM_nil {k n : Int} (h : rloadE R k n ≠ 0) : rloadM R k n = [] := if_neg h
theorem LoadPo.nil {k n q : Int} (h : rloadE R k n = q) (hq : q ≠ 0) : LoadPo w w R k n (.returned (.tuple #[.slice none 0 0, .int .i64 q])) := by
  refine ⟨_, by rw [h], ?_, Below.refl _ _, ?_⟩
  · rw [rloadM_nil (by rw [h]; exact hq)]; exact Reads.nil _
  · rw [rloadM_nil (by rw [h]; exact hq)]; exact Nat.zero_le _
set_option maxHeartbeats 8000000 in
theorem rLoad_calls (h : RAt w B g F R vs vh vc) (hok : ROk R) (k n : Int) :
    Calls Tryz.prog 64 #[.pointer (some ⟨g, 0, none⟩), .int .i64 k, .int .i64 n] w fun e w' => LoadPo w w' R k n e := by
  have H := Aside0.mk h
  have HOK := Aside0.mk hok
  have h2 := h.c2
  have hn1 := hok.n1
  clear h hok
  cases hd : R.down with
  | true =>
    rw [hd] at h2
    have HQ := Aside0.mk (show rloadE R k n = 60 by rw [rloadE, if_pos hd])
    clear hd
    go_enter Tryz.func64, Tryz.ntmps64
    go_wp2
    refine bodyPost_ret (results_tmp2 rfl _ _ _) rfl ?_
    exact .nil HQ.out (by decide)
  | false =>
    rw [hd] at h2
    have HQ := Aside0.mk (show rloadE R k n = if n < 0 then 1 else rspanM R k n by rw [rloadE, if_neg (by rw [hd]; simp)])
    clear hd
    by_cases hn : n < 0
    · have HQ1 := Aside0.mk (HQ.out.trans (if_pos hn))
      go_enter Tryz.func64, Tryz.ntmps64
      go_wp2
      refine bodyPost_ret (results_tmp2 rfl _ _ _) rfl ?_
      exact .nil HQ1.out (by decide)
    · have HQ2 := Aside0.mk (HQ.out.trans (if_neg hn))
      by_cases ha : rspanM R k n = 0
      · have HA := Aside0.mk ha
        obtain ⟨hd, hk0, hk1, hk2⟩ := rspan0 ha
        have HD := Aside0.mk hd
        clear ha hd
        go_enter Tryz.func64, Tryz.ntmps64
        go_wp2_with (first | (go_at_call 67; refine (rspan_calls H.out HOK.out k n).mono ?_; rintro e w' ⟨rfl, rfl⟩; rw [HA.out]))
        go_loopw [1, 9] (fun v1 v9 w' => ∃ (i : Nat) (xs : List Int), v1 = .int .i64 (k + i) ∧ xs.length = 64 * i ∧ (i : Int) ≤ (n + 63) / 64 ∧ Aside0 (xs = rreadsTo R k i) ∧ (i : Int) ≤ R.sec.length - k ∧ Aside0 (Kd.R (Kd.int .u8) 5 w' w.heap.size (fun k => w.heap.size ≤ k) v9 xs) ∧ Aside0 (Below w.heap.size w w') ∧ ∃ A c, v9 = .slice A xs.length c) (fun _ v9 _ => (n - (match v9 with | .slice _ m _ => (m : Int) | _ => 0)).toNat)
        case atStart => exact ⟨0, [], by simp, rfl, by omega, ⟨rfl⟩, by omega, ⟨Kd.R_nil _ _ _ _ _⟩, ⟨Below.refl _ _⟩, none, 0, rfl⟩
        case round =>
          obtain ⟨i, xs, rfl, hl, hin, HXE, hi, HR, HB, A9, c9, rfl⟩ := hrel
          by_cases hlt : (xs.length : Int) < n
          · have HT := Aside0.mk (there0 (R := R) (k := k + i) HD.out (by omega) (by omega))
            have HLX := Aside0.mk hl
            have HIN := Aside0.mk (show ((i + 1 : Nat) : Int) ≤ (n + 63) / 64 by omega)
            clear hin
            have hxb : xs.length ≤ 1048576 := by omega
            clear hl
            have HW := Aside0.mk (H.out.below HB.out)
            clear h2
            go_wp2_with (first | (go_at_call 62; refine (rRead_calls HW.out HOK.out (k + i)).mono ?_; rintro e w3 ⟨v3, b3, n3, rfl, ⟨A3, c3, rfl, hc3, hC3⟩, rfl, hb3, HE3⟩; have HC3 := Aside0.mk hC3; have HB3 := Aside0.mk (hb3 HT.out); clear hC3 hb3 hc3) | ((with_reducible refine gate_builtin (b := .append) (xs := #[.tmp 35, .tmp 36]) rfl ?_); at_builtin; refine Kd.R_append_rows (Kd.int .u8) (Rr := (Kd.int .u8).K w) (w0 := w) w.heap.size rfl (.tmp 35) (.tmp 36) 22 5 (.int .u8 0) 1 rfl Tryz.underlying22 info5 rfl (by decide) (by omega) _ xs b3 A3 b3.length c3 (fun k => w.heap.size ≤ k) (fun _ => False) rfl rfl HR.out HC3.out (fun _ _ h => h) (fun _ h => h.elim) (fun _ h => Nat.le_trans HB.out.size h) HB.out HB.out.size ?aL ?_; (case aL => have := HB3.out; omega); intro v1 w1 hr1 hb1 hg1 _; obtain ⟨A1, c1, rfl⟩ := Kd.R_slice hr1; have HR1 := Aside0.mk hr1; have HB1 := Aside0.mk hb1; clear hr1 hb1 hg1))
            have e64 := HB3.out
            have hl := HLX.out
            go_roundw
            case rel => exact ⟨i + 1, xs ++ b3, by go_num, by rw [List.length_append]; omega, HIN.out, ⟨by rw [HXE.out, HE3.out.1]; rfl⟩, by omega, ⟨by have := HR1.out; rwa [List.length_append] at this⟩, HB1, _, _, by rw [List.length_append]⟩
            case measure => simp; omega
          · obtain ⟨_, _, e, hc, hC3⟩ := Kd.R_reads HR.out
            injection e with e1 e2 e3
            subst e1; subst e3
            clear e2 hC3
            have HII := Aside0.mk (show i = (n.toNat + 63) / 64 by omega)
            clear hl hin
            obtain ⟨m, hm⟩ : ∃ m : Nat, n = m := ⟨n.toNat, by omega⟩
            subst hm
            have HT := Aside0.mk (Kd.R_take HR.out (m := m) (by omega))
            go_wp2
            refine bodyPost_ret (results_tmp2 rfl _ _ _) rfl ?_
            have HE := HQ2.out.trans HA.out
            have HEX : rloadM R k m = xs.take m := by rw [rloadM, if_pos HE, ← HII.out, ← HXE.out, Int.toNat_natCast]
            refine ⟨_, congrArg (fun q => Ending.returned (.tuple #[_, .int .i64 q])) HE.symm, ?_, HB.out, ?_⟩
            · rw [HEX]; exact Reads.of_R HT.out
            · rw [HEX, List.length_take, Int.toNat_natCast]; omega
      · obtain ⟨q, hq0⟩ : ∃ q, rspanM R k n = q := ⟨_, rfl⟩
        have HA := Lib.hid hq0
        rw [hq0] at ha
        clear hq0
        go_enter Tryz.func64, Tryz.ntmps64
        go_wp2_with (first | (go_at_call 67; refine (rspan_calls H.out HOK.out k n).mono ?_; rintro e w' ⟨rfl, rfl⟩; rw [HA.out]))
        refine bodyPost_ret (results_tmp2 rfl _ _ _) rfl ?_
        exact .nil (HQ2.out.trans HA.out) (by simpa using ha)
end Go.Proofs.YtmblnflfklmmkaaGreatDoor.Dk
/- The reference's Save. -/
namespace Go.Proofs.YtmblnflfklmmkaaGreatDoor.Dk
open Go.RowKit Go.Proofs.YtmblnflfklmmkaaGreatDoorW.PrintWords Go.Proofs.YtmblnflfklmmkaaGreatDoorW.PrintLast Go.Proofs.YtmblnflfklmmkaaGreatDoorW.PrintMore
set_option linter.unusedVariables false
set_option linter.unusedSimpArgs false
set_option maxRecDepth 30000
variable {w w1 : World} {B g : Nat} {F G : Nat → Prop} {R : RM} {vs vh vc : Value}
/-- What a call leaves of the reference's disk: at most m writes more wait; its blocks are those it had, or new ones. -/
def RefPost (w w' : World) (B g : Nat) (F : Nat → Prop) (R : RM) (m : Nat) : Prop :=
  ∃ R' F', (∀ k, F' k → F k ∨ w.heap.size ≤ k) ∧ RefAt w' B g F' R' ∧ ROk R' ∧ R'.wait.length ≤ R.wait.length + m ∧ R'.sec.length = R.sec.length ∧ Upd w w' F
/-- The same, of a disk that is told. -/
def RefTo (w w' : World) (B g : Nat) (F : Nat → Prop) (R : RM) (m : Nat) (R' : RM) : Prop :=
  ∃ F', (∀ k, F' k → F k ∨ w.heap.size ≤ k) ∧ RefAt w' B g F' R' ∧ ROk R' ∧ R'.wait.length ≤ R.wait.length + m ∧ R'.sec.length = R.sec.length ∧ Upd w w' F
theorem full_take (A : Option Addr) (c m : Nat) (x : List Int) (hm : m ≤ x.length) (hx : m ≤ 64) (hC : Kd.C (Kd.int .u8) w A x.length x) :
    Calls Tryz.prog 45 #[.slice A m c] w fun e w' => ∃ v xs, e = .returned v ∧ xs = fullM (x.take m) ∧ Kd.R (Kd.int .u8) 5 w' w.heap.size (fun k => w.heap.size ≤ k) v xs ∧ Below w.heap.size w w' := by
  have h := full_calls A c (x.take m) (by rw [List.length_take]; omega) (Kd.C_take hC hm)
  rwa [show (x.take m).length = m by rw [List.length_take]; omega] at h
def rsaveFrom (x : List Int) (k : Int) : Nat → Nat → RM → RM × Int
  | 0, _, R => (R, 0)
  | m + 1, i, R => if (rwriteM R (k + i) (secAt x i)).2 ≠ 0 then rwriteM R (k + i) (secAt x i) else rsaveFrom x k m (i + 1) (rwriteM R (k + i) (secAt x i)).1
def rsaveM (R : RM) (k : Int) (x : List Int) : RM × Int := if rspanM R k x.length ≠ 0 then (R, rspanM R k x.length) else rsaveFrom x k ((x.length + 63) / 64) 0 R
theorem rsave_step {x : List Int} {k : Int} {i : Nat} {T : RM × Int} (hi : i * 64 < x.length) (h : rsaveFrom x k ((x.length + 63) / 64 - i) i R = T) :
    (if (rwriteM R (k + i) (secAt x i)).2 ≠ 0 then rwriteM R (k + i) (secAt x i) else rsaveFrom x k ((x.length + 63) / 64 - (i + 1)) (i + 1) (rwriteM R (k + i) (secAt x i)).1) = T := by
  obtain ⟨m, hm⟩ : ∃ m, (x.length + 63) / 64 - i = m + 1 := ⟨(x.length + 63) / 64 - i - 1, by omega⟩
  rw [show (x.length + 63) / 64 - (i + 1) = m by omega, ← h, hm]
  rfl
theorem sec_full {x y : List Int} {i : Nat} (hy : y = x.drop (i * 64)) : fullM (y.take 64) = secAt x i := by rw [hy]; exact fullM_sec x i
theorem sec_full2 {x y : List Int} {i : Nat} (hy : y = x.drop (i * 64)) (hl : y.length < 64) : fullM (y.take y.length) = secAt x i := by
  rw [List.take_of_length_le (Nat.le_refl _), ← sec_full hy, List.take_of_length_le (by omega)]
set_option maxHeartbeats 8000000 in
theorem rSave_calls (h : RAt w B g F R vs vh vc) (hok : ROk R) (hB : B ≤ w.heap.size) (k : Int) (A : Option Addr) (c : Nat) (x : List Int) (hx : x.length ≤ 1000000000) (hxc : x.length ≤ c) (hn : R.wait.length + x.length < 9000000) (hC : ∀ W, Upd w W F → Kd.C (Kd.int .u8) W A x.length x) :
    Calls Tryz.prog 48 #[.pointer (some ⟨g, 0, none⟩), .int .i64 k, .slice A x.length c] w fun e w' => e = .returned (.int .i64 (rsaveM R k x).2) ∧ RefTo w w' B g F R x.length (rsaveM R k x).1 := by
  have H := Aside0.mk h
  have HC := Aside0.mk hC
  have HOK := Aside0.mk hok
  have HN := Aside0.mk hn
  have HB := Aside0.mk hB
  have HX := Aside0.mk hxc
  clear h hC hok hn hB hxc
  by_cases ha : rspanM R k x.length = 0
  · have HA := Aside0.mk ha
    have HQ0 := Aside0.mk (show rsaveFrom x k ((x.length + 63) / 64 - 0) 0 R = rsaveM R k x by rw [rsaveM, if_neg (by rw [ha]; simp)]; rfl)
    clear ha
    obtain ⟨T, hT⟩ : ∃ T, rsaveM R k x = T := ⟨_, rfl⟩
    rw [hT] at HQ0 ⊢
    clear hT
    go_enter Tryz.func48, Tryz.ntmps48
    go_wp2_with (first | (go_at_call 67; refine (rspan_calls H.out HOK.out k _).mono ?_; rintro e w' ⟨rfl, rfl⟩; rw [HA.out]))
    go_loopw [1, 2] (fun v1 v2 w' => ∃ (i : Nat) (k' : Int) (y : List Int) (A' : Option Addr) (c' : Nat) (R' : RM) (F' : Nat → Prop), v1 = .int .i64 k' ∧ v2 = .slice A' y.length c' ∧ y.length ≤ x.length ∧ Aside0 (k' = k + i) ∧ Aside0 (y = x.drop (i * 64)) ∧ Aside0 (rsaveFrom x k ((x.length + 63) / 64 - i) i R' = T) ∧ Aside0 (y.length ≤ c') ∧ Aside0 (∀ W, Upd w W F → Kd.C (Kd.int .u8) W A' y.length y) ∧ Aside0 (∀ k, F' k → F k ∨ w.heap.size ≤ k) ∧ Aside0 (RefAt w' B g F' R') ∧ Aside0 (ROk R') ∧ Aside0 (R'.wait.length + y.length ≤ R.wait.length + x.length) ∧ Aside0 (R'.sec.length = R.sec.length) ∧ Aside0 (Upd w w' F)) (fun _ v2 _ => (match v2 with | .slice _ m _ => m | _ => 0))
    case atStart => exact ⟨0, k, x, A, c, R, F, rfl, rfl, Nat.le_refl _, ⟨by simp⟩, ⟨rfl⟩, HQ0, HX, HC, ⟨fun _ h => .inl h⟩, ⟨_, _, _, H.out⟩, HOK, ⟨Nat.le_refl _⟩, ⟨rfl⟩, ⟨Upd.refl _ _⟩⟩
    case round =>
      obtain ⟨i, k', y, A', c', R', F', rfl, rfl, hyx, HKI, HYX, HQ, HYC, HCy, HF, HR, HO, HW, HS, HU⟩ := hrel
      have HYL := Aside0.mk (show y.length = x.length - i * 64 by rw [HYX.out, List.length_drop])
      by_cases hy0 : y.length = 0
      · have HQE := Aside0.mk (show (R', 0) = T by
          have h := HQ.out
          rw [show (x.length + 63) / 64 - i = 0 by have := HYL.out; omega] at h
          exact h)
        go_wp2
        go_ret
        exact ⟨by rw [← HQE.out] <;> rfl, F', HF.out, by rw [← HQE.out]; exact HR.out, by rw [← HQE.out]; exact HO.out, by rw [← HQE.out]; have := HW.out; show R'.wait.length ≤ _; omega, by rw [← HQE.out]; exact HS.out, HU.out⟩
      · by_cases hy : y.length < 64
        · have HT := Aside0.mk (full_take (w := wr) A' c' y.length y (by omega) (by omega) (HCy.out wr HU.out))
          have HD := Aside0.mk (show ∀ W, Upd w W F → Kd.C (Kd.int .u8) W (if c' = y.length then A' else A'.map (·.add (y.length * (Kd.int .u8).sz))) (y.drop y.length).length (y.drop y.length) from fun W hW => Kd.C_drop (HCy.out W hW) (by omega) HYC.out)
          have HLD := Aside0.mk (show (y.drop y.length).length = y.length - y.length from List.length_drop)
          obtain ⟨vs', vh', vc', hR⟩ := HR.out
          have HR1 := Aside0.mk hR
          have HLT := Aside0.mk (show ∀ k, F' k → B ≤ k from fun k hk => (hR.lt k hk).1)
          have hyc := HYC.out
          have HSEC := Aside0.mk (sec_full2 HYX.out (by omega))
          have HSTEP := Aside0.mk (rsave_step (by have := HYL.out; omega) HQ.out)
          have HNXT := Aside0.mk (show y.drop y.length = x.drop ((i + 1) * 64) by rw [List.drop_of_length_le (Nat.le_refl _), List.drop_of_length_le (by have := HYL.out; omega)])
          clear hR
          go_wp2_with (first | (go_at_call 45; refine HT.out.mono ?_; rintro e w3 ⟨v3, xs, rfl, hxl, hr3, hb3⟩; obtain ⟨A3, c3, rfl⟩ := Kd.R_slice hr3; have HR3 := Aside0.mk (HR1.out.below hb3); have HB3 := Aside0.mk hb3; have HC3 := Aside0.mk (Kd.R_reads' hr3).2.2; have HXX := Aside0.mk (hxl.trans HSEC.out); clear hxl hr3 hb3) | (go_at_call 36; refine (rWrite_calls HR3.out HO.out (by have := HB.out; have := HU.out.size; have := HB3.out.size; omega) (by have := HW.out; have := HN.out; omega) k' A3 c3 xs HC3.out).mono ?_; rintro e w4 ⟨n4, R4, rfl, hr4, ho4, hw4, hs4, hu4, HE4⟩; have HR4 := Aside0.mk hr4; have HO4 := Aside0.mk ho4; have HW4 := Aside0.mk hw4; have HS4 := Aside0.mk hs4; have HU4 := Aside0.mk hu4; clear hr4 ho4 hw4 hs4 hu4))
          all_goals (have HG4 : ∀ k, Grow F' w3 w4 k → F k ∨ w.heap.size ≤ k := fun k hk => hk.elim (HF.out k) (fun hk => .inr (Nat.le_trans HU.out.size (Nat.le_trans HB3.out.size hk.1))))
          all_goals (have HU5 : Upd w w4 F := (HU.out.trans (Upd.of_below (F := F') HB3.out) HF.out).trans HU4.out HF.out)
          · go_ret
            have HT4 : (R4, n4) = T := by
              have h := HSTEP.out
              rw [← HKI.out, ← HXX.out, HE4.out] at h
              rwa [if_pos (by simp_all)] at h
            exact ⟨by rw [← HT4] <;> rfl, _, HG4, by rw [← HT4]; exact HR4.out, by rw [← HT4]; exact HO4.out, by rw [← HT4]; show R4.wait.length ≤ _; have := HW4.out; have := HW.out; omega, by rw [← HT4]; exact HS4.out.trans HS.out, HU5⟩
          · have HT5 := Aside0.mk (show rsaveFrom x k ((x.length + 63) / 64 - (i + 1)) (i + 1) R4 = T by
              have h := HSTEP.out
              rw [← HKI.out, ← HXX.out, HE4.out] at h
              rwa [if_neg (by simp_all)] at h)
            have HK5 := Aside0.mk (show wrap64 (k' + 1) = k + (i + 1 : Nat) by have h1 := rspan0 HA.out; have h2 := HOK.out.n1; have h3 := HYL.out; rw [HKI.out]; simp only [wrap64]; omega)
            go_roundw
            case rel => exact ⟨i + 1, _, y.drop y.length, _, c' - y.length, R4, _, rfl, by rw [List.length_drop]; simp [Kd.int, Kd.scalar, Addr.add], by rw [HLD.out]; omega, HK5, HNXT, HT5, ⟨by rw [HLD.out]; omega⟩, HD, ⟨HG4⟩, HR4, HO4, ⟨by rw [HLD.out]; have := HW4.out; have := HW.out; omega⟩, ⟨HS4.out.trans HS.out⟩, ⟨HU5⟩⟩
            case measure => simp; omega
        · have HT := Aside0.mk (full_take (w := wr) A' c' 64 y (by omega) (by omega) (HCy.out wr HU.out))
          have HD := Aside0.mk (show ∀ W, Upd w W F → Kd.C (Kd.int .u8) W (if c' = 64 then A' else A'.map (·.add (64 * (Kd.int .u8).sz))) (y.drop 64).length (y.drop 64) from fun W hW => Kd.C_drop (HCy.out W hW) (by omega) HYC.out)
          have HLD := Aside0.mk (show (y.drop 64).length = y.length - 64 from List.length_drop)
          obtain ⟨vs', vh', vc', hR⟩ := HR.out
          have HR1 := Aside0.mk hR
          have HLT := Aside0.mk (show ∀ k, F' k → B ≤ k from fun k hk => (hR.lt k hk).1)
          have hyc := HYC.out
          have HSEC := Aside0.mk (sec_full HYX.out)
          have HSTEP := Aside0.mk (rsave_step (by have := HYL.out; omega) HQ.out)
          have HNXT := Aside0.mk (show y.drop 64 = x.drop ((i + 1) * 64) by rw [HYX.out, List.drop_drop]; exact congrArg (x.drop ·) (by omega))
          clear hR
          go_wp2_with (first | (go_at_call 45; refine HT.out.mono ?_; rintro e w3 ⟨v3, xs, rfl, hxl, hr3, hb3⟩; obtain ⟨A3, c3, rfl⟩ := Kd.R_slice hr3; have HR3 := Aside0.mk (HR1.out.below hb3); have HB3 := Aside0.mk hb3; have HC3 := Aside0.mk (Kd.R_reads' hr3).2.2; have HXX := Aside0.mk (hxl.trans HSEC.out); clear hxl hr3 hb3) | (go_at_call 36; refine (rWrite_calls HR3.out HO.out (by have := HB.out; have := HU.out.size; have := HB3.out.size; omega) (by have := HW.out; have := HN.out; omega) k' A3 c3 xs HC3.out).mono ?_; rintro e w4 ⟨n4, R4, rfl, hr4, ho4, hw4, hs4, hu4, HE4⟩; have HR4 := Aside0.mk hr4; have HO4 := Aside0.mk ho4; have HW4 := Aside0.mk hw4; have HS4 := Aside0.mk hs4; have HU4 := Aside0.mk hu4; clear hr4 ho4 hw4 hs4 hu4))
          all_goals (have HG4 : ∀ k, Grow F' w3 w4 k → F k ∨ w.heap.size ≤ k := fun k hk => hk.elim (HF.out k) (fun hk => .inr (Nat.le_trans HU.out.size (Nat.le_trans HB3.out.size hk.1))))
          all_goals (have HU5 : Upd w w4 F := (HU.out.trans (Upd.of_below (F := F') HB3.out) HF.out).trans HU4.out HF.out)
          · go_ret
            have HT4 : (R4, n4) = T := by
              have h := HSTEP.out
              rw [← HKI.out, ← HXX.out, HE4.out] at h
              rwa [if_pos (by simp_all)] at h
            exact ⟨by rw [← HT4] <;> rfl, _, HG4, by rw [← HT4]; exact HR4.out, by rw [← HT4]; exact HO4.out, by rw [← HT4]; show R4.wait.length ≤ _; have := HW4.out; have := HW.out; omega, by rw [← HT4]; exact HS4.out.trans HS.out, HU5⟩
          · have HT5 := Aside0.mk (show rsaveFrom x k ((x.length + 63) / 64 - (i + 1)) (i + 1) R4 = T by
              have h := HSTEP.out
              rw [← HKI.out, ← HXX.out, HE4.out] at h
              rwa [if_neg (by simp_all)] at h)
            have HK5 := Aside0.mk (show wrap64 (k' + 1) = k + (i + 1 : Nat) by have h1 := rspan0 HA.out; have h2 := HOK.out.n1; have h3 := HYL.out; rw [HKI.out]; simp only [wrap64]; omega)
            go_roundw
            case rel => exact ⟨i + 1, _, y.drop 64, _, c' - 64, R4, _, rfl, by rw [List.length_drop]; simp [Kd.int, Kd.scalar, Addr.add], by rw [HLD.out]; omega, HK5, HNXT, HT5, ⟨by rw [HLD.out]; omega⟩, HD, ⟨HG4⟩, HR4, HO4, ⟨by rw [HLD.out]; have := HW4.out; have := HW.out; omega⟩, ⟨HS4.out.trans HS.out⟩, ⟨HU5⟩⟩
            case measure => simp; omega
  · obtain ⟨q, hq0⟩ : ∃ q, rspanM R k x.length = q := ⟨_, rfl⟩
    have HA := Lib.hid hq0
    rw [hq0] at ha
    clear hq0
    go_enter Tryz.func48, Tryz.ntmps48
    go_wp2_with (first | (go_at_call 67; refine (rspan_calls H.out HOK.out k _).mono ?_; rintro e w' ⟨rfl, rfl⟩; rw [HA.out]))
    go_ret
    have HT4 : rsaveM R k x = (R, q) := by rw [rsaveM, HA.out, if_pos (by simpa using ha)]
    rw [HT4]
    exact ⟨rfl, F, fun _ h => .inl h, ⟨_, _, _, H.out⟩, HOK.out, Nat.le_add_right _ _, rfl, Upd.refl _ _⟩
end Go.Proofs.YtmblnflfklmmkaaGreatDoor.Dk
/- The reference's New. -/
namespace Go.Proofs.YtmblnflfklmmkaaGreatDoor.Dk
open Go.RowKit Go.Proofs.YtmblnflfklmmkaaGreatDoorW.PrintWords Go.Proofs.YtmblnflfklmmkaaGreatDoorW.PrintLast Go.Proofs.YtmblnflfklmmkaaGreatDoorW.PrintMore
set_option linter.unusedVariables false
set_option linter.unusedSimpArgs false
set_option maxRecDepth 30000
variable {w w1 : World} {B g : Nat} {F G : Nat → Prop} {R : RM} {vs vh vc : Value}
theorem info22 : (Tryz.prog.info? 22).map (fun i => (i.zero, i.size, i.bytes)) = some (some (.slice none 0 0), 1, 24) := by kernel_rfl
theorem buildSlice70 (v : Value) (w : World) (hv : ∃ A n c, v = .slice A n c) : (Instr.buildSlice 65 1 #[(0, v)]).run Tryz.prog w = .ok (.slice (some ⟨w.heap.size, 0, none⟩) 1 1) (w.alloc (.cells #[v] 22)) := by
  obtain ⟨A, n, c, rfl⟩ := hv
  obtain ⟨ie, hie, hz⟩ := Option.map_eq_some_iff.1 info22
  injection hz with hz1 hz2
  injection hz2 with hz2 hz3
  refine run_buildSlice w 65 22 1 _ _ ie _ Tryz.underlying65 hie hz1 (by rw [hz2]; decide) (by rw [hz2]; decide) ?_
  rw [hz2]
  have := Great.fill_whole (s := 1) (by decide) [.slice A n c] ((Array.range (1 * 1)).map (fun i => (Value.slice none 0 0).cells[i % (Value.slice none 0 0).cells.size]!)) (by simp [Value.cells]) (by simp)
  simpa [Value.cells] using this
def rnewM (L : List (List Int)) : RM := { sec := L, wait := [], down := false, strokes := 0, left := -1, choice := [] }
set_option maxHeartbeats 8000000 in
theorem rNew_fails (A : Option Addr) (c : Nat) (x : List Int) (n : Int) (hx : x.length ≤ 1000000000) (hbad : newBad x n) :
    Calls Tryz.prog 23 #[.slice A x.length c, .int .i64 n] w fun e w' => e = .returned (.tuple #[.pointer none, .int .i64 1]) ∧ w = w' := by
  by_cases h1 : n < 1
  · clear hbad
    go_enter Tryz.func23, Tryz.ntmps23
    go_wp2
    refine bodyPost_ret (results_tmp2 rfl _ _ _) rfl ?_
    exact ⟨rfl, rfl⟩
  · by_cases h2 : 16384 < n
    · clear hbad
      go_enter Tryz.func23, Tryz.ntmps23
      go_wp2
      refine bodyPost_ret (results_tmp2 rfl _ _ _) rfl ?_
      exact ⟨rfl, rfl⟩
    · have h3 : 64 * n < (x.length : Int) := by unfold newBad at hbad; omega
      clear hbad
      go_enter Tryz.func23, Tryz.ntmps23
      go_wp2
      refine bodyPost_ret (results_tmp2 rfl _ _ _) rfl ?_
      exact ⟨rfl, rfl⟩
def NewRef (w w' : World) (x : List Int) (n : Nat) (e : Ending) : Prop := ∃ g R, e = .returned (.tuple #[.pointer (some ⟨g, 0, none⟩), .int .i64 0]) ∧ RefAt w' w.heap.size g (fun k => w.heap.size ≤ k ∧ k < w'.heap.size) R ∧ ROk R ∧ R.wait = [] ∧ R.choice = [] ∧ R.sec.length = n ∧ Below w.heap.size w w' ∧ Aside0 (R = rnewM ((List.range n).map (secAt x)))
set_option maxHeartbeats 8000000 in
theorem rNew_calls (A : Option Addr) (c : Nat) (x : List Int) (n : Nat) (hx : x.length ≤ 1000000000) (hxc : x.length ≤ c) (hC : Kd.C (Kd.int .u8) w A x.length x) (hok : ¬ newBad x n) :
    Calls Tryz.prog 23 #[.slice A x.length c, .int .i64 n] w fun e w' => NewRef w w' x n e := by
  have HC := Aside0.mk hC
  have HX := Aside0.mk hxc
  have hn1 : 1 ≤ n := by unfold newBad at hok; omega
  have hn2 : n ≤ 16384 := by unfold newBad at hok; omega
  have hn3 : x.length ≤ n * 64 := by unfold newBad at hok; omega
  clear hok hC hxc
  go_enter Tryz.func23, Tryz.ntmps23
  go_wp2
  have hb0 := heap_alloc_new w (.cells #[.slice none 0 0, .slice none 0 0, .bool false, .int .i64 0, .int .i64 (-1), .slice none 0 0] 68)
  have HR0 := Aside0.mk (show RAt (w.alloc (.cells #[.slice none 0 0, .slice none 0 0, .bool false, .int .i64 0, .int .i64 (-1), .slice none 0 0] 68)) w.heap.size w.heap.size (fun k => w.heap.size ≤ k ∧ k < (w.alloc (.cells #[.slice none 0 0, .slice none 0 0, .bool false, .int .i64 0, .int .i64 (-1), .slice none 0 0] 68)).heap.size) (rnewM []) (.slice none 0 0) (.slice none 0 0) (.slice none 0 0) from
    ⟨hb0, Kd.R_nil _ _ _ _ _, Kd.R_nil _ _ _ _ _, ⟨none, 0, rfl, Nat.le_refl _, fun W hW => Kd.C_nil _ _⟩, ⟨Nat.le_refl _, blk_lt hb0⟩, fun k hk => hk⟩)
  have HB0 := Aside0.mk (below_alloc (Below.refl w.heap.size w) (.cells #[.slice none 0 0, .slice none 0 0, .bool false, .int .i64 0, .int .i64 (-1), .slice none 0 0] 68))
  have HC0 := Aside0.mk (show ∀ W, Below w.heap.size w W → Kd.C (Kd.int .u8) W A x.length x from fun W hW => Kd.C_below HC.out hW)
  clear hb0
  go_loopw [0, 7] (fun v0 v7 w' => ∃ (i : Nat) (y : List Int) (A' : Option Addr) (c' : Nat) (L : List (List Int)) (As : Option Addr) (cs : Nat), v0 = .slice A' y.length c' ∧ v7 = .int .i64 i ∧ i ≤ n ∧ y.length ≤ x.length ∧ Aside0 (y.length ≤ c') ∧ Aside0 (∀ W, Below w.heap.size w W → Kd.C (Kd.int .u8) W A' y.length y) ∧ Aside0 (L.length = i) ∧ Aside0 (L = (List.range i).map (secAt x)) ∧ Aside0 (y = x.drop (i * 64)) ∧ Aside0 (∀ s ∈ L, s.length = 64) ∧ Aside0 (RAt w' w.heap.size w.heap.size (fun k => w.heap.size ≤ k ∧ k < w'.heap.size) (rnewM L) (.slice As L.length cs) (.slice none 0 0) (.slice none 0 0)) ∧ Aside0 (Below w.heap.size w w')) (fun _ v7 _ => n - (intOf v7).toNat)
  case atStart => exact ⟨0, x, A, c, [], none, 0, rfl, rfl, Nat.zero_le _, Nat.le_refl _, HX, HC0, ⟨rfl⟩, ⟨rfl⟩, ⟨by simp⟩, ⟨fun _ h => absurd h (by simp)⟩, HR0, HB0⟩
  case round =>
    obtain ⟨i, y, A', c', L, As, cs, rfl, rfl, hi, hy, HYC, HCy, HL, HLX, HYX, HL64, HD, HB⟩ := hrel
    have h0 := HD.out.c0
    have hLn : L.length ≤ 16384 := by have := HL.out; omega
    by_cases hlt : i < n
    · by_cases hy64 : y.length > 64
      · have HSEC := Aside0.mk (sec_full HYX.out)
        have HNXT := Aside0.mk (show y.drop 64 = x.drop ((i + 1) * 64) by rw [HYX.out, List.drop_drop]; exact congrArg (x.drop ·) (by omega))
        have HT := Aside0.mk (full_take (w := wr.drew) A' c' 64 y (by omega) (by omega) (Kd.C_below (HCy.out wr HB.out) (below_drew (Below.refl _ _))))
        have hyc := HYC.out
        go_wp2
        refine start_ (n := 13) (S := fun w' => w'.cell? ⟨w.heap.size, 0, none⟩ = some (.slice As L.length cs)) (ds := [12]) (bz 13 0) (by kernel_rfl) rfl rfl (h0) (fun hHeld => ?_)
        refine pz 0 (some 31) (bz 13 1) ?_
        refine pz 1 (some 32) (bz 13 3) ?_
        refine pz 2 (some 33) (bz 13 7) ?_
        refine pz 3 (some 34) (bz 13 15) ?_
        refine pz 5 (some 36) (bz 13 47) ?_
        refine pure_ (i := 6) (N := some 37) (v := ?_) (a' := ?_) (bz 13 111) rfl rfl (by kernel_rfl) (fun _ _ _ h => h) (Or.inl ⟨by rfl, ?_⟩) ?_ ?_
        rotate_left
        · intro w'
          go_simp
          rw [if_pos (by omega)]
          (try with_reducible rfl)
        rotate_left
        · simp only [Act.put, List.setIfInBounds_toArray, List.set_cons_zero, List.set_cons_succ, i64_w, i32_w]
          rfl
        refine tz1 4 (some 35) (bz 13 127) hHeld ?_
        refine one_ (i := 7) (N := some 38) (bz 13 255) rfl rfl (by kernel_rfl) (by decide) (fun K hK => ?_)
        refine goes_ Tryz.func45 (by kernel_rfl) rfl #[.slice A' 64 c'] (by rfl) rfl rfl (by simp only [List.map_toArray, List.map_cons, List.map_nil]; rfl) ?_
        with_reducible refine (HT.out).mono ?_
        rintro e w3 ⟨v3, xs, rfl, hxl, hr3, hb3⟩
        refine ⟨_, rfl, ?_⟩
        obtain ⟨A3, c3, rfl⟩ := Kd.R_slice hr3
        have hbw3 : Below wr.heap.size wr w3 := ⟨hb3.os, hb3.tape, hb3.output, hb3.size, hb3.block⟩
        have HBW3 := Aside0.mk hbw3
        have H3A := Aside0.mk (HD.out.below hbw3)
        have HXL := Aside0.mk (show xs.length = 64 by rw [hxl]; exact fullM_length _)
        have HXX := Aside0.mk (show xs = secAt x i from hxl.trans HSEC.out)
        have HLX2 := Aside0.mk (show L ++ [xs] = (List.range (i + 1)).map (secAt x) by rw [HLX.out, HXX.out, List.range_succ, List.map_append]; rfl)
        have HXS := Aside0.mk (Kd.R_mono (Kd.R_lower (Kd.R_bound hr3) (show w.heap.size ≤ wr.drew.heap.size from HB.out.size)) (ok' := fun k => wr.heap.size ≤ k ∧ k < w3.heap.size ∧ ∃ cells, w3.heap[k]? = some (.cells cells 5 (0, 0))) (fun k hk => ⟨hk.1, hk.2.2.1, by obtain ⟨q, hq, hc⟩ := hk.2.2.2; simp only [Kd.int, Kd.scalar, List.mem_cons, List.not_mem_nil, or_false] at hq; rw [hq] at hc; exact hc⟩))
        clear hr3 hb3 hxl hbw3
        refine hK.out _ _ ((H3A.out.c0)) (fun hHeld => ?_)
        clear hK K
        refine norm_ (a' := ?_) ?_ ?_
        rotate_left
        · show Act.put _ (some 38) _ = _
          simp only [Act.put, List.setIfInBounds_toArray, List.set_cons_zero, List.set_cons_succ, i64_w, i32_w]
          rfl
        refine one_ (i := 8) (N := some 39) (bz 13 511) rfl rfl (by kernel_rfl) (by decide) (fun K hK => ?_)
        refine value_ (w1 := w3.alloc (.cells #[.slice A3 xs.length c3] 22)) (v := .slice (some ⟨w3.heap.size, 0, none⟩) 1 1) (by rfl) rfl ?hbs ?_
        case hbs =>
          refine exec_buildSlice (t := 65) (n := 1) (parts := #[(0, .tmp 38)]) (args := #[(0, .slice A3 xs.length c3)]) ?ho ?he ?hr
          case ho => rfl
          case he => kernel_rfl
          case hr => exact buildSlice70 _ w3 ⟨_, _, _, rfl⟩
        refine hK.out _ _ (((H3A.out.below (below_alloc (Below.refl _ _) _)).c0)) (fun hHeld => ?_)
        clear hK K
        refine norm_ (a' := ?_) ?_ ?_
        rotate_left
        · show Act.put _ (some 39) _ = _
          simp only [Act.put, List.setIfInBounds_toArray, List.set_cons_zero, List.set_cons_succ, i64_w, i32_w]
          rfl
        refine one_ (i := 9) (N := some 40) (bz 13 1023) rfl rfl (by kernel_rfl) (by decide) (fun K hK => ?_)
        refine Kd.R_append_step kBy (w0 := w) (W := w3) w.heap.size (by rfl) (.tmp 35) (.tmp 39) 65 22 (.slice none 0 0) 24 rfl Tryz.underlying65 info22 rfl (by decide) (by decide) (.slice As L.length cs) L xs [.slice A3 xs.length c3] (fun k => w.heap.size ≤ k) (fun k => wr.heap.size ≤ k ∧ k < w3.heap.size ∧ ∃ cells, w3.heap[k]? = some (.cells cells 5 (0, 0))) rfl rfl ⟨_, rfl, HXS.out⟩ (fun k hk => ⟨Nat.le_trans HB.out.size hk.1, row_ne H3A.out.sec hk.2.2 (by decide)⟩) (fun k hk => Nat.le_trans HB.out.size (Nat.le_trans HBW3.out.size hk)) (Kd.R_mono H3A.out.sec (fun _ h => h.1)) (Upd.below ((Upd.of_below (F := fun _ => False) HB.out).trans (Upd.of_below (F := fun _ => False) HBW3.out) (fun _ h => h.elim)) (fun _ h => h.elim)) (Nat.le_trans HB.out.size HBW3.out.size) (by omega) ?_
        intro v1 w1 hr1 hb1 hg1 _
        obtain ⟨A1, c1, rfl⟩ := Kd.R_slice hr1
        have HR1 := Aside0.mk hr1
        have HG1 := Aside0.mk hg1
        have HB1 := Aside0.mk hb1
        have hb1k := blk_other H3A.out.blk H3A.out.sec (by decide) hg1
        have h1b : w1.cell? ⟨w.heap.size, 0, none⟩ = some (.slice As L.length cs) := by simp [World.cell?, hb1k]
        have hf1 : ∀ j, w1.frozen? ⟨w.heap.size, j, none⟩ = false := fun j => by simp [World.frozen?, hb1k]
        have HBK := Aside0.mk hb1k
        clear hr1 hb1 hg1 hb1k
        refine hK.out _ _ ((h1b)) (fun hHeld => ?_)
        clear hK K
        refine norm_ (a' := ?_) ?_ ?_
        rotate_left
        · show Act.put _ (some 40) _ = _
          simp only [Act.put, List.setIfInBounds_toArray, List.set_cons_zero, List.set_cons_succ, i64_w, i32_w]
          rfl
        refine pz 10 (some 41) (bz 13 2047) ?_
        refine pz 11 (some 42) (bz 13 4095) ?_
        refine last_ (i := 12) (N := none) (bz 13 8191) rfl rfl (by kernel_rfl) (by decide) (fun K hK => ?_)
        refine skip_ (w1 := ?_) (by rfl) rfl ?_ ?_
        rotate_left
        · go_simp
          rfl
        refine hK.out _ _ ?_
        clear hK K
        refine done_ (by kernel_rfl) ?_
        have H2 := Aside0.mk (show RAt (w1.setCell ⟨w.heap.size, 0, none⟩ (.slice A1 (L.length + 1) c1)) w.heap.size w.heap.size (fun k => w.heap.size ≤ k ∧ k < (w1.setCell ⟨w.heap.size, 0, none⟩ (.slice A1 (L.length + 1) c1)).heap.size) (rnewM (L ++ [xs])) (.slice A1 (L ++ [xs]).length c1) (.slice none 0 0) (.slice none 0 0) from
          { blk := by rw [heap_setCell_same w1 w.heap.size 0 _ 68 _ HBK.out, show (L ++ [xs]).length = L.length + 1 by simp]; rfl
            sec := Kd.R_set (Kd.R_mono (Kd.R_bound HR1.out) (fun k hk => ⟨hk.1, by simpa [World.setCell] using hk.2.2.1⟩)) HBK.out (by simp [kBy, Kd.slice, Kd.int, Kd.scalar]) 0 _
            wait := Kd.R_nil _ _ _ _ _
            choice := ⟨none, 0, rfl, Nat.le_refl _, fun W hW => Kd.C_nil _ _⟩
            own := ⟨Nat.le_refl _, by simpa [World.setCell] using blk_lt HBK.out⟩
            lt := fun k hk => hk })
        have HU1 := (Upd.of_below (F := fun _ => False) HB.out).trans (Upd.of_below (F := fun _ => False) HBW3.out) (fun _ h => h.elim)
        have HB2 := Aside0.mk (show Below w.heap.size w (w1.setCell ⟨w.heap.size, 0, none⟩ (.slice A1 (L.length + 1) c1)) from below_set HB1.out (Nat.le_refl _))
        have HC2 := Aside0.mk (show ∀ W, Below w.heap.size w W → Kd.C (Kd.int .u8) W (if c' = 64 then A' else A'.map (·.add (64 * (Kd.int .u8).sz))) (y.drop 64).length (y.drop 64) from fun W hW => Kd.C_drop (HCy.out W hW) (by omega) HYC.out)
        have HLn := Aside0.mk (show (L ++ [xs]).length = i + 1 by rw [List.length_append, HL.out]; rfl)
        have HL6 := Aside0.mk (show ∀ s ∈ L ++ [xs], s.length = 64 from fun s hs => by
          rcases List.mem_append.1 hs with hs | hs
          · exact HL64.out s hs
          · rw [List.mem_singleton.1 hs]; exact HXL.out)
        clear HU1 hf1 h1b h0
        go_wp2
        go_roundw
        case rel => exact ⟨i + 1, y.drop 64, _, c' - 64, L ++ [xs], A1, c1, by rw [List.length_drop]; simp [Kd.int, Kd.scalar, Addr.add] <;> (intro h; have := HYC.out; omega), by go_num, by omega, by rw [List.length_drop]; omega, ⟨by rw [List.length_drop]; omega⟩, HC2, HLn, HLX2, HNXT, HL6, H2, HB2⟩
        case measure => simp [intOf]; omega
      · have HSEC := Aside0.mk (show fullM y = secAt x i by rw [← sec_full HYX.out, List.take_of_length_le (by omega)])
        have HNXT := Aside0.mk (show ([] : List Int) = x.drop ((i + 1) * 64) by rw [List.drop_of_length_le]; have := congrArg List.length HYX.out; rw [List.length_drop] at this; omega)
        have HT := Aside0.mk (full_calls (w := wr.drew) A' c' y (by omega) (Kd.C_below (HCy.out wr HB.out) (below_drew (Below.refl _ _))))
        go_wp2
        refine start_ (n := 12) (S := fun w' => w'.cell? ⟨w.heap.size, 0, none⟩ = some (.slice As L.length cs)) (ds := [11]) (bz 12 0) (by kernel_rfl) rfl rfl (h0) (fun hHeld => ?_)
        refine pz 0 (some 45) (bz 12 1) ?_
        refine pz 1 (some 46) (bz 12 3) ?_
        refine pz 2 (some 47) (bz 12 7) ?_
        refine pz 3 (some 48) (bz 12 15) ?_
        refine pz 5 (some 50) (bz 12 47) ?_
        refine tz1 4 (some 49) (bz 12 63) hHeld ?_
        refine one_ (i := 6) (N := some 51) (bz 12 127) rfl rfl (by kernel_rfl) (by decide) (fun K hK => ?_)
        refine goes_ Tryz.func45 (by kernel_rfl) rfl #[.slice A' y.length c'] (by rfl) rfl rfl (by simp only [List.map_toArray, List.map_cons, List.map_nil]; rfl) ?_
        with_reducible refine (HT.out).mono ?_
        rintro e w3 ⟨v3, xs, rfl, hxl, hr3, hb3⟩
        refine ⟨_, rfl, ?_⟩
        obtain ⟨A3, c3, rfl⟩ := Kd.R_slice hr3
        have hbw3 : Below wr.heap.size wr w3 := ⟨hb3.os, hb3.tape, hb3.output, hb3.size, hb3.block⟩
        have HBW3 := Aside0.mk hbw3
        have H3A := Aside0.mk (HD.out.below hbw3)
        have HXL := Aside0.mk (show xs.length = 64 by rw [hxl]; exact fullM_length _)
        have HXX := Aside0.mk (show xs = secAt x i from hxl.trans HSEC.out)
        have HLX2 := Aside0.mk (show L ++ [xs] = (List.range (i + 1)).map (secAt x) by rw [HLX.out, HXX.out, List.range_succ, List.map_append]; rfl)
        have HXS := Aside0.mk (Kd.R_mono (Kd.R_lower (Kd.R_bound hr3) (show w.heap.size ≤ wr.drew.heap.size from HB.out.size)) (ok' := fun k => wr.heap.size ≤ k ∧ k < w3.heap.size ∧ ∃ cells, w3.heap[k]? = some (.cells cells 5 (0, 0))) (fun k hk => ⟨hk.1, hk.2.2.1, by obtain ⟨q, hq, hc⟩ := hk.2.2.2; simp only [Kd.int, Kd.scalar, List.mem_cons, List.not_mem_nil, or_false] at hq; rw [hq] at hc; exact hc⟩))
        clear hr3 hb3 hxl hbw3
        refine hK.out _ _ ((H3A.out.c0)) (fun hHeld => ?_)
        clear hK K
        refine norm_ (a' := ?_) ?_ ?_
        rotate_left
        · show Act.put _ (some 51) _ = _
          simp only [Act.put, List.setIfInBounds_toArray, List.set_cons_zero, List.set_cons_succ, i64_w, i32_w]
          rfl
        refine one_ (i := 7) (N := some 52) (bz 12 255) rfl rfl (by kernel_rfl) (by decide) (fun K hK => ?_)
        refine value_ (w1 := w3.alloc (.cells #[.slice A3 xs.length c3] 22)) (v := .slice (some ⟨w3.heap.size, 0, none⟩) 1 1) (by rfl) rfl ?hbs ?_
        case hbs =>
          refine exec_buildSlice (t := 65) (n := 1) (parts := #[(0, .tmp 51)]) (args := #[(0, .slice A3 xs.length c3)]) ?ho ?he ?hr
          case ho => rfl
          case he => kernel_rfl
          case hr => exact buildSlice70 _ w3 ⟨_, _, _, rfl⟩
        refine hK.out _ _ (((H3A.out.below (below_alloc (Below.refl _ _) _)).c0)) (fun hHeld => ?_)
        clear hK K
        refine norm_ (a' := ?_) ?_ ?_
        rotate_left
        · show Act.put _ (some 52) _ = _
          simp only [Act.put, List.setIfInBounds_toArray, List.set_cons_zero, List.set_cons_succ, i64_w, i32_w]
          rfl
        refine one_ (i := 8) (N := some 53) (bz 12 511) rfl rfl (by kernel_rfl) (by decide) (fun K hK => ?_)
        refine Kd.R_append_step kBy (w0 := w) (W := w3) w.heap.size (by rfl) (.tmp 49) (.tmp 52) 65 22 (.slice none 0 0) 24 rfl Tryz.underlying65 info22 rfl (by decide) (by decide) (.slice As L.length cs) L xs [.slice A3 xs.length c3] (fun k => w.heap.size ≤ k) (fun k => wr.heap.size ≤ k ∧ k < w3.heap.size ∧ ∃ cells, w3.heap[k]? = some (.cells cells 5 (0, 0))) rfl rfl ⟨_, rfl, HXS.out⟩ (fun k hk => ⟨Nat.le_trans HB.out.size hk.1, row_ne H3A.out.sec hk.2.2 (by decide)⟩) (fun k hk => Nat.le_trans HB.out.size (Nat.le_trans HBW3.out.size hk)) (Kd.R_mono H3A.out.sec (fun _ h => h.1)) (Upd.below ((Upd.of_below (F := fun _ => False) HB.out).trans (Upd.of_below (F := fun _ => False) HBW3.out) (fun _ h => h.elim)) (fun _ h => h.elim)) (Nat.le_trans HB.out.size HBW3.out.size) (by omega) ?_
        intro v1 w1 hr1 hb1 hg1 _
        obtain ⟨A1, c1, rfl⟩ := Kd.R_slice hr1
        have HR1 := Aside0.mk hr1
        have HG1 := Aside0.mk hg1
        have HB1 := Aside0.mk hb1
        have hb1k := blk_other H3A.out.blk H3A.out.sec (by decide) hg1
        have h1b : w1.cell? ⟨w.heap.size, 0, none⟩ = some (.slice As L.length cs) := by simp [World.cell?, hb1k]
        have hf1 : ∀ j, w1.frozen? ⟨w.heap.size, j, none⟩ = false := fun j => by simp [World.frozen?, hb1k]
        have HBK := Aside0.mk hb1k
        clear hr1 hb1 hg1 hb1k
        refine hK.out _ _ ((h1b)) (fun hHeld => ?_)
        clear hK K
        refine norm_ (a' := ?_) ?_ ?_
        rotate_left
        · show Act.put _ (some 53) _ = _
          simp only [Act.put, List.setIfInBounds_toArray, List.set_cons_zero, List.set_cons_succ, i64_w, i32_w]
          rfl
        refine pz 9 (some 54) (bz 12 1023) ?_
        refine pz 10 (some 55) (bz 12 2047) ?_
        refine last_ (i := 11) (N := none) (bz 12 4095) rfl rfl (by kernel_rfl) (by decide) (fun K hK => ?_)
        refine skip_ (w1 := ?_) (by rfl) rfl ?_ ?_
        rotate_left
        · go_simp
          rfl
        refine hK.out _ _ ?_
        clear hK K
        refine done_ (by kernel_rfl) ?_
        have H2 := Aside0.mk (show RAt (w1.setCell ⟨w.heap.size, 0, none⟩ (.slice A1 (L.length + 1) c1)) w.heap.size w.heap.size (fun k => w.heap.size ≤ k ∧ k < (w1.setCell ⟨w.heap.size, 0, none⟩ (.slice A1 (L.length + 1) c1)).heap.size) (rnewM (L ++ [xs])) (.slice A1 (L ++ [xs]).length c1) (.slice none 0 0) (.slice none 0 0) from
          { blk := by rw [heap_setCell_same w1 w.heap.size 0 _ 68 _ HBK.out, show (L ++ [xs]).length = L.length + 1 by simp]; rfl
            sec := Kd.R_set (Kd.R_mono (Kd.R_bound HR1.out) (fun k hk => ⟨hk.1, by simpa [World.setCell] using hk.2.2.1⟩)) HBK.out (by simp [kBy, Kd.slice, Kd.int, Kd.scalar]) 0 _
            wait := Kd.R_nil _ _ _ _ _
            choice := ⟨none, 0, rfl, Nat.le_refl _, fun W hW => Kd.C_nil _ _⟩
            own := ⟨Nat.le_refl _, by simpa [World.setCell] using blk_lt HBK.out⟩
            lt := fun k hk => hk })
        have HU1 := (Upd.of_below (F := fun _ => False) HB.out).trans (Upd.of_below (F := fun _ => False) HBW3.out) (fun _ h => h.elim)
        have HB2 := Aside0.mk (show Below w.heap.size w (w1.setCell ⟨w.heap.size, 0, none⟩ (.slice A1 (L.length + 1) c1)) from below_set HB1.out (Nat.le_refl _))
        have HC2 := Aside0.mk (show ∀ W, Below w.heap.size w W → Kd.C (Kd.int .u8) W none ([] : List Int).length [] from fun W hW => Kd.C_nil _ _)
        have HLn := Aside0.mk (show (L ++ [xs]).length = i + 1 by rw [List.length_append, HL.out]; rfl)
        have HL6 := Aside0.mk (show ∀ s ∈ L ++ [xs], s.length = 64 from fun s hs => by
          rcases List.mem_append.1 hs with hs | hs
          · exact HL64.out s hs
          · rw [List.mem_singleton.1 hs]; exact HXL.out)
        clear HU1 hf1 h1b h0
        go_wp2
        go_roundw
        case rel => exact ⟨i + 1, [], none, 0, L ++ [xs], A1, c1, rfl, by go_num, by omega, Nat.zero_le _, ⟨Nat.le_refl _⟩, HC2, HLn, HLX2, HNXT, HL6, H2, HB2⟩
        case measure => simp [intOf]; omega
    · obtain rfl : i = n := by omega
      go_wp2
      refine bodyPost_ret (results_tmp2 rfl _ _ _) rfl ?_
      exact ⟨w.heap.size, rnewM L, rfl, ⟨_, _, _, HD.out⟩, ⟨fun _ h => absurd h (by simp [rnewM]), HL64.out, fun _ h => absurd h (by simp [rnewM]), by have := HL.out; show L.length ≤ _; omega, Nat.zero_le _, by show (-1 : Int) ≤ -1; omega, by show (-1 : Int) ≤ _; omega⟩, rfl, rfl, HL.out, HB.out, ⟨by rw [← HLX.out]⟩⟩
end Go.Proofs.YtmblnflfklmmkaaGreatDoor.Dk
/- The laws' small functions: SameBytes, Among, long. Operations in memory. -/
namespace Go.Proofs.YtmblnflfklmmkaaGreatDoor.Dk
open Go.RowKit Go.Proofs.YtmblnflfklmmkaaGreatDoorW.PrintWords Go.Proofs.YtmblnflfklmmkaaGreatDoorW.PrintLast Go.Proofs.YtmblnflfklmmkaaGreatDoorW.PrintMore
set_option linter.unusedVariables false
set_option linter.unusedSimpArgs false
set_option maxRecDepth 30000
variable {w W W' : World}
def sameM (x y : List Int) : Bool := (strOfNums x).toList == (strOfNums y).toList
theorem sameM_refl (x : List Int) : sameM x x = true := by simp [sameM]
theorem Same_calls (A : Option Addr) (c : Nat) (x : List Int) (A2 : Option Addr) (c2 : Nat) (y : List Int) (hx : Kd.C (Kd.int .u8) w A x.length x) (hy : Kd.C (Kd.int .u8) w A2 y.length y) :
    Calls Tryz.prog 19 #[.slice A x.length c, .slice A2 y.length c2] w fun e w' => e = .returned (.bool (sameM x y)) ∧ w = w' := by
  have h1 := Kd.C_string (P := Tryz.prog) (A := A) (c := c) Tryz.underlying22 Tryz.underlying5 Tryz.underlying9 hx
  have h2 := Kd.C_string (P := Tryz.prog) (A := A2) (c := c2) Tryz.underlying22 Tryz.underlying5 Tryz.underlying9 hy
  clear hx hy
  go_enter Tryz.func19, Tryz.ntmps19
  go_wp2
  go_ret
  exact ⟨by first | rfl | simp [sameM], rfl⟩
/-- An operation. -/
structure OpM where
  kind : Int
  at_ : Int
  n : Int
  b : List Int
  ch : List Bool
/-- An operation's five cells; its bytes and its choice can be read. -/
def OpIs (w : World) (o : OpM) (cs : List Value) : Prop :=
  ∃ ab cb ac cc, cs = [.int .i64 o.kind, .int .i64 o.at_, .int .i64 o.n, .slice ab o.b.length cb, .slice ac o.ch.length cc] ∧ o.b.length ≤ cb ∧ o.ch.length ≤ cc ∧ Kd.C (Kd.int .u8) w ab o.b.length o.b ∧ Kd.C Kd.bool w ac o.ch.length o.ch ∧ o.b.length ≤ 140737488351232 ∧ o.ch.length ≤ 140737488351232 ∧ -9223372036854775808 ≤ o.at_ ∧ o.at_ ≤ 9223372036854775807 ∧ -9223372036854775808 ≤ o.n ∧ o.n ≤ 9223372036854775807
theorem OpIs.below {o : OpM} {cs : List Value} (h : OpIs w o cs) (hb : Below w.heap.size w W) : OpIs W o cs := by
  obtain ⟨ab, cb, ac, cc, h1, h2, h3, h4, h5, h6⟩ := h
  exact ⟨ab, cb, ac, cc, h1, h2, h3, Kd.C_below h4 hb, Kd.C_below h5 hb, h6⟩
/-- A row of operations. -/
def Ops (w : World) (A : Option Addr) (l : List OpM) : Prop := ReadsRow (OpIs w) 5 w A l.length l
theorem Ops.below {A : Option Addr} {l : List OpM} (h : Ops w A l) (hb : Below w.heap.size w W) : Ops W A l := ReadsRow.imp_ h hb (fun _ _ hp => OpIs.below hp hb)
theorem add5 (ad : Addr) (i j : Nat) (hj : 0 < j) : ad.add (i * 5 + j) = ⟨(ad.add (i * 5)).block, (ad.add (i * 5)).off + j, none⟩ := by
  rw [← Addr.add_add]
  unfold Addr.add
  rw [if_neg (by omega)]
theorem Ops.get {A : Option Addr} {l : List OpM} (h : Ops w A l) (i : Nat) (hi : i < l.length) : ∃ ad ab cb ac cc o, A = some ad ∧ l[i]? = some o ∧
    w.cell? (ad.add (i * 5)) = some (.int .i64 o.kind) ∧ w.cell? ⟨(ad.add (i * 5)).block, (ad.add (i * 5)).off + 1, none⟩ = some (.int .i64 o.at_) ∧ w.cell? ⟨(ad.add (i * 5)).block, (ad.add (i * 5)).off + 2, none⟩ = some (.int .i64 o.n) ∧
    w.cell? ⟨(ad.add (i * 5)).block, (ad.add (i * 5)).off + 3, none⟩ = some (.slice ab o.b.length cb) ∧ w.cell? ⟨(ad.add (i * 5)).block, (ad.add (i * 5)).off + 4, none⟩ = some (.slice ac o.ch.length cc) ∧ OpIs w o [.int .i64 o.kind, .int .i64 o.at_, .int .i64 o.n, .slice ab o.b.length cb, .slice ac o.ch.length cc] := by
  obtain ⟨ad, rfl, hc⟩ := h.2.2 (by omega)
  obtain ⟨cs, hl, hR, hx⟩ := hc i _ (List.getElem?_eq_getElem hi)
  have hR' := hR
  obtain ⟨ab, cb, ac, cc, rfl, h1⟩ := hR
  refine ⟨ad, ab, cb, ac, cc, l[i], rfl, List.getElem?_eq_getElem hi, hx 0 _ rfl, ?_, ?_, ?_, ?_, hR'⟩
  · rw [← add5 ad i 1 (by decide)]; exact hx 1 _ rfl
  · rw [← add5 ad i 2 (by decide)]; exact hx 2 _ rfl
  · rw [← add5 ad i 3 (by decide)]; exact hx 3 _ rfl
  · rw [← add5 ad i 4 (by decide)]; exact hx 4 _ rfl
end Go.Proofs.YtmblnflfklmmkaaGreatDoor.Dk
/- The law's long. -/
namespace Go.Proofs.YtmblnflfklmmkaaGreatDoor.Dk
open Go.RowKit Go.Proofs.YtmblnflfklmmkaaGreatDoorW.PrintWords Go.Proofs.YtmblnflfklmmkaaGreatDoorW.PrintLast Go.Proofs.YtmblnflfklmmkaaGreatDoorW.PrintMore
set_option linter.unusedVariables false
set_option linter.unusedSimpArgs false
set_option maxRecDepth 30000
variable {w W W' : World}
end Go.Proofs.YtmblnflfklmmkaaGreatDoor.Dk
/- The law's plays: an operation on both disks. -/
namespace Go.Proofs.YtmblnflfklmmkaaGreatDoor.Dk
open Go.RowKit Go.Proofs.YtmblnflfklmmkaaGreatDoorW.PrintWords Go.Proofs.YtmblnflfklmmkaaGreatDoorW.PrintLast Go.Proofs.YtmblnflfklmmkaaGreatDoorW.PrintMore
set_option linter.unusedVariables false
set_option linter.unusedSimpArgs false
set_option maxRecDepth 30000
variable {w W W' : World} {B g g2 : Nat} {F F2 : Nat → Prop} {D : DM} {R : RM}
/-- Two disks beside each other. -/
structure Two (w : World) (B g : Nat) (F : Nat → Prop) (D : DM) (g2 : Nat) (F2 : Nat → Prop) (R : RM) : Prop where
  d : DiskAt w B g F D
  r : RefAt w B g2 F2 R
  ap : ∀ k, F k → ¬ F2 k
def PlayPost (w w' : World) (B g : Nat) (F : Nat → Prop) (D' : DM) (g2 : Nat) (F2 : Nat → Prop) (R : RM) (n : Nat) : Prop :=
  ∃ F' F2' R', (∀ k, F' k → F k ∨ w.heap.size ≤ k) ∧ (∀ k, F2' k → F2 k ∨ w.heap.size ≤ k) ∧ Two w' B g F' D' g2 F2' R' ∧ ROk R' ∧ R'.wait.length ≤ R.wait.length + n ∧ Upd w w' (fun k => F k ∨ F2 k)
theorem RefAt.lo (h : RefAt w B g F R) : ∀ k, F k → B ≤ k ∧ k < w.heap.size := by
  obtain ⟨_, _, _, h⟩ := h
  exact h.lt
theorem RefAt.frame {G : Nat → Prop} (h : RefAt w B g F R) (hu : Upd w W G) (hd : ∀ k, F k → ¬ G k) (hG : ∀ k, G k → B ≤ k) : RefAt W B g F R := by
  obtain ⟨_, _, _, h⟩ := h
  exact ⟨_, _, _, h.frame hu hd hG⟩
theorem Two.below (h : Two w B g F D g2 F2 R) (hb : Below w.heap.size w W) : Two W B g F D g2 F2 R :=
  ⟨h.d.frame (Upd.of_below (F := fun _ => False) hb) (fun _ _ _ h => h), h.r.frame (Upd.of_below (F := fun _ => False) hb) (fun _ _ h => h) (fun _ h => h.elim), h.ap⟩
end Go.Proofs.YtmblnflfklmmkaaGreatDoor.Dk
/- What an operation leaves of a disk; the calls of package disk, on a disk of any form. -/
namespace Go.Proofs.YtmblnflfklmmkaaGreatDoor.Dk
open Go.RowKit Go.Proofs.YtmblnflfklmmkaaGreatDoorW.PrintWords Go.Proofs.YtmblnflfklmmkaaGreatDoorW.PrintLast Go.Proofs.YtmblnflfklmmkaaGreatDoorW.PrintMore
set_option linter.unusedVariables false
set_option linter.unusedSimpArgs false
set_option maxRecDepth 30000
variable {w W W' : World} {B g g2 : Nat} {F F2 : Nat → Prop} {D : DM} {R : RM}
theorem setM_ok {n : Int} {l : List Bool} (h : DOk D) (hn : n ≤ 9223372036854775807) : DOk (setM D n l).1 := by
  unfold setM
  split
  · exact h
  · split
    · exact h
    · exact ⟨h.at_, h.n1, h.n2, by simp only; omega, hn⟩
theorem goesM_hs : (goesM D).1.held = D.held ∧ (goesM D).1.sec = D.sec := by
  unfold goesM
  split
  · exact ⟨rfl, rfl⟩
  · split <;> exact ⟨rfl, rfl⟩
theorem loseM_hs (l : List Bool) : (loseM l D).held.length ≤ D.held.length ∧ (loseM l D).sec.length = D.sec.length := by
  unfold loseM
  split
  · exact ⟨Nat.le_refl _, rfl⟩
  · exact ⟨Nat.zero_le _, putsTo_length _ _ _ _⟩
theorem flushM_hs : (flushM D).1.held.length ≤ D.held.length ∧ (flushM D).1.sec.length = D.sec.length := by
  unfold flushM
  split
  · exact ⟨Nat.le_refl _, rfl⟩
  · split
    · have := loseM_hs (D := (goesM D).1) (goesM D).1.choice
      rw [goesM_hs.1, goesM_hs.2] at this
      exact this
    · exact ⟨Nat.zero_le _, by show (putsTo _ _ _ _).length = _; rw [putsTo_length, goesM_hs.2]⟩
theorem writeM_hs (k : Int) (x : List Int) : (writeM D k x).1.held.length ≤ D.held.length + 1 ∧ (writeM D k x).1.sec.length = D.sec.length := by
  have h1 : (holdM D k x).held.length = D.held.length + 1 := by simp [holdM]
  unfold writeM
  split
  · exact ⟨Nat.le_succ _, rfl⟩
  · split
    · exact ⟨Nat.le_succ _, rfl⟩
    · split
      · have := loseM_hs (D := (goesM (holdM D k x)).1) (goesM (holdM D k x)).1.choice
        rw [goesM_hs.1, goesM_hs.2, h1] at this
        exact this
      · show (goesM (holdM D k x)).1.held.length ≤ _ ∧ _
        rw [goesM_hs.1, goesM_hs.2, h1]
        exact ⟨Nat.le_refl _, rfl⟩
theorem saveFrom_hs (x : List Int) (k : Int) : ∀ m i (D : DM), (saveFrom x k m i D).1.held.length ≤ D.held.length + m ∧ (saveFrom x k m i D).1.sec.length = D.sec.length
  | 0, _, _ => ⟨Nat.le_refl _, rfl⟩
  | m + 1, i, D => by
    unfold saveFrom
    have hw := writeM_hs (D := D) (k + i) (secAt x i)
    split
    · exact ⟨by omega, hw.2⟩
    · have := saveFrom_hs x k m (i + 1) (writeM D (k + i) (secAt x i)).1
      exact ⟨by omega, this.2.trans hw.2⟩
theorem saveFrom_ok (x : List Int) (k : Int) : ∀ m i (D : DM), DOk D → D.held.length + m ≤ 10000000 → DOk (saveFrom x k m i D).1
  | 0, _, _, h, _ => h
  | m + 1, i, D, h, hn => by
    unfold saveFrom
    have hw := writeM_hs (D := D) (k + i) (secAt x i)
    have ho := writeM_ok (k := k + i) (x := secAt x i) h (by omega)
    split
    · exact ho
    · exact saveFrom_ok x k m (i + 1) _ ho (by omega)
theorem saveM_hs (k : Int) (x : List Int) : (saveM D k x).1.held.length ≤ D.held.length + x.length ∧ (saveM D k x).1.sec.length = D.sec.length := by
  unfold saveM
  split
  · exact ⟨Nat.le_add_right _ _, rfl⟩
  · have := saveFrom_hs x k ((x.length + 63) / 64) 0 D
    exact ⟨by omega, this.2⟩
theorem saveM_ok {k : Int} {x : List Int} (h : DOk D) (hn : D.held.length + x.length ≤ 10000000) : DOk (saveM D k x).1 := by
  unfold saveM
  split
  · exact h
  · exact saveFrom_ok x k _ 0 D h (by omega)
def DPost (w w' : World) (B g : Nat) (F : Nat → Prop) (D' : DM) : Prop := ∃ F', (∀ k, F' k → F k ∨ w.heap.size ≤ k) ∧ DiskAt w' B g F' D' ∧ Upd w w' F
theorem DPost.of_grow {D' : DM} (h : DiskAt W B g (Grow F w W) D') (hu : Upd w W F) : DPost w W B g F D' := ⟨_, fun _ => Grow.out, h, hu⟩
theorem DPost.of_same {D' : DM} (h : DiskAt W B g F D') (hu : Upd w W F) : DPost w W B g F D' := ⟨F, fun _ h => .inl h, h, hu⟩
theorem dWrite (h : DiskAt w B g F D) (hok : DOk D) (hn : D.held.length < 10000000) (k : Int) (A : Option Addr) (c : Nat) (x : List Int) (hC : Kd.C (Kd.int .u8) w A x.length x) :
    Calls Tryz.prog 35 #[.pointer (some ⟨g, 0, none⟩), .int .i64 k, .slice A x.length c] w fun e w' => e = .returned (.int .i64 (writeM D k x).2) ∧ DPost w w' B g F (writeM D k x).1 := by
  obtain ⟨_, _, _, h⟩ := h
  exact (Write_calls h hok hn k A c x hC).mono fun e w' ⟨he, hd, hu⟩ => ⟨he, .of_grow hd hu⟩
theorem dFlush (h : DiskAt w B g F D) (hok : DOk D) :
    Calls Tryz.prog 37 #[.pointer (some ⟨g, 0, none⟩)] w fun e w' => e = .returned (.int .i64 (flushM D).2) ∧ DPost w w' B g F (flushM D).1 := by
  obtain ⟨_, _, _, h⟩ := h
  exact (Flush_calls h hok).mono fun e w' ⟨he, hd, hu⟩ => ⟨he, .of_same hd hu⟩
theorem dSet (h : DiskAt w B g F D) (n : Int) (A : Option Addr) (c : Nat) (l : List Bool) (hC : Kd.C Kd.bool w A l.length l) :
    Calls Tryz.prog 29 #[.pointer (some ⟨g, 0, none⟩), .int .i64 n, .slice A l.length c] w fun e w' => e = .returned (.int .i64 (setM D n l).2) ∧ DPost w w' B g F (setM D n l).1 := by
  obtain ⟨_, _, _, h⟩ := h
  exact (Set_calls h n A c l hC).mono fun e w' ⟨he, hd, hu⟩ => ⟨he, .of_grow hd hu⟩
theorem dLose (h : DiskAt w B g F D) (hok : DOk D) (A : Option Addr) (c : Nat) (l : List Bool) (hc : l.length ≤ c) (hC : ∀ W', Upd w W' F → Kd.C Kd.bool W' A l.length l) :
    Calls Tryz.prog 31 #[.pointer (some ⟨g, 0, none⟩), .slice A l.length c] w fun e w' => e = .returned (.tuple #[]) ∧ DPost w w' B g F (loseM l D) := by
  obtain ⟨_, _, _, h⟩ := h
  exact (Lose_calls h hok A c l hc (fun W hW _ => hC W hW)).mono fun e w' ⟨he, hd, hu⟩ => ⟨he, .of_same hd hu⟩
theorem dStart (h : DiskAt w B g F D) : Calls Tryz.prog 33 #[.pointer (some ⟨g, 0, none⟩)] w fun e w' => e = .returned (.tuple #[]) ∧ DPost w w' B g F (startM D) := by
  obtain ⟨_, _, _, h⟩ := h
  exact (Start_calls h).mono fun e w' ⟨he, hd, hu⟩ => ⟨he, .of_same hd hu⟩
theorem dSave (h : DiskAt w B g F D) (hok : DOk D) (hn : D.held.length + 20000 ≤ 10000000) (k : Int) (A : Option Addr) (c : Nat) (x : List Int) (hx : x.length ≤ 1000000000) (hxc : x.length ≤ c) (hC : ∀ W, Upd w W F → Kd.C (Kd.int .u8) W A x.length x) :
    Calls Tryz.prog 59 #[.pointer (some ⟨g, 0, none⟩), .int .i64 k, .slice A x.length c] w fun e w' => e = .returned (.int .i64 (saveM D k x).2) ∧ DPost w w' B g F (saveM D k x).1 := by
  obtain ⟨_, _, _, h⟩ := h
  exact (Save_calls h hok hn k A c x hx hxc hC).mono fun e w' ⟨he, hd, hu⟩ => ⟨he, .of_grow hd hu⟩
theorem Reads.block {b : Nat} {x : List Int} {e : TypeId} {m : Nat × Nat} {c : Nat} (h : w.heap[b]? = some (.cells (nums .u8 x).toArray e m)) (hx : x.length ≤ 1000000) (hc : x.length ≤ c) : Reads w (.slice (some ⟨b, 0, none⟩) x.length c) x := ⟨_, _, rfl, hc, C_block h hx⟩
/-- The reference's calls, in the same form, on a disk that is told. -/
theorem rTo_write (h : RefAt w B g2 F2 R) (hok : ROk R) (hB : B ≤ w.heap.size) (hn : R.wait.length < 9000000) (k : Int) (A : Option Addr) (c : Nat) (x : List Int) (hC : Kd.C (Kd.int .u8) w A x.length x) :
    Calls Tryz.prog 36 #[.pointer (some ⟨g2, 0, none⟩), .int .i64 k, .slice A x.length c] w fun e w' => e = .returned (.int .i64 (rwriteM R k x).2) ∧ RefTo w w' B g2 F2 R 1 (rwriteM R k x).1 := by
  obtain ⟨_, _, _, h⟩ := h
  exact (rWrite_calls h hok hB hn k A c x hC).mono fun e w' ⟨n, R', he, h1, h2, h3, h4, h5, h6⟩ => by rw [h6.out]; exact ⟨he, _, fun _ => Grow.out, h1, h2, h3, h4, h5⟩
theorem rTo_flush (h : RefAt w B g2 F2 R) (hok : ROk R) : Calls Tryz.prog 38 #[.pointer (some ⟨g2, 0, none⟩)] w fun e w' => e = .returned (.int .i64 (rflushM R).2) ∧ RefTo w w' B g2 F2 R 0 (rflushM R).1 := by
  obtain ⟨_, _, _, h⟩ := h
  exact (rFlush_calls h hok).mono fun e w' ⟨n, R', he, h1, h2, h3, h4, h5, h6⟩ => by rw [h6.out]; exact ⟨he, _, fun _ h => .inl h, h1, h2, h3, h4, h5⟩
theorem rTo_set (h : RefAt w B g2 F2 R) (hok : ROk R) (n : Int) (hn : n ≤ 9223372036854775807) (A : Option Addr) (c : Nat) (l : List Bool) (hc : l.length ≤ c) (hC : ∀ W, Upd w W (fun k => B ≤ k) → Kd.C Kd.bool W A l.length l) :
    Calls Tryz.prog 30 #[.pointer (some ⟨g2, 0, none⟩), .int .i64 n, .slice A l.length c] w fun e w' => e = .returned (.int .i64 (rsetE n l)) ∧ RefTo w w' B g2 F2 R 0 (rsetM R n l) := by
  obtain ⟨_, _, _, h⟩ := h
  refine (rSet_calls h n A c l hc hC).mono fun e w' ⟨he, ⟨vc', h1⟩, h2⟩ => ⟨he, _, fun _ h => .inl h, ⟨_, _, _, h1⟩, ?_, ?_, ?_, h2⟩
  · unfold rsetM
    split
    · exact hok
    · split
      · exact hok
      · exact ⟨hok.at_, hok.s64, hok.w64, hok.n1, hok.n2, by simp only; omega, hn⟩
  · unfold rsetM
    split
    · exact Nat.le_refl _
    · split <;> exact Nat.le_refl _
  · unfold rsetM
    split
    · rfl
    · split <;> rfl
theorem rTo_lose (h : RefAt w B g2 F2 R) (hok : ROk R) (A : Option Addr) (c : Nat) (l : List Bool) (hC : ∀ W, Upd w W F2 → Kd.C Kd.bool W A l.length l) :
    Calls Tryz.prog 32 #[.pointer (some ⟨g2, 0, none⟩), .slice A l.length c] w fun e w' => e = .returned (.tuple #[]) ∧ RefTo w w' B g2 F2 R 0 (rloseM l R) := by
  obtain ⟨_, _, _, h⟩ := h
  exact (rLose_calls h hok A c l hC).mono fun e w' ⟨he, ⟨_, h1⟩, h2⟩ => ⟨he, _, fun _ h => .inl h, ⟨_, _, _, h1⟩, rloseM_ok l hok, (rloseM_same l).2.1, (rloseM_same l).1, h2⟩
theorem rTo_start (h : RefAt w B g2 F2 R) (hok : ROk R) : Calls Tryz.prog 34 #[.pointer (some ⟨g2, 0, none⟩)] w fun e w' => e = .returned (.tuple #[]) ∧ RefTo w w' B g2 F2 R 0 (rstartM R) := by
  obtain ⟨_, _, _, h⟩ := h
  exact (rStart_calls h).mono fun e w' ⟨he, h1, h2⟩ => ⟨he, _, fun _ h => .inl h, ⟨_, _, _, h1⟩, ⟨hok.at_, hok.s64, hok.w64, hok.n1, hok.n2, by simp [rstartM], by simp [rstartM]⟩, Nat.le_refl _, rfl, h2⟩
theorem rTo_save (h : RefAt w B g2 F2 R) (hok : ROk R) (hB : B ≤ w.heap.size) (k : Int) (A : Option Addr) (c : Nat) (x : List Int) (hx : x.length ≤ 1000000000) (hxc : x.length ≤ c) (hn : R.wait.length + x.length < 9000000) (hC : ∀ W, Upd w W F2 → Kd.C (Kd.int .u8) W A x.length x) :
    Calls Tryz.prog 48 #[.pointer (some ⟨g2, 0, none⟩), .int .i64 k, .slice A x.length c] w fun e w' => e = .returned (.int .i64 (rsaveM R k x).2) ∧ RefTo w w' B g2 F2 R x.length (rsaveM R k x).1 := by
  obtain ⟨_, _, _, h⟩ := h
  exact rSave_calls h hok hB k A c x hx hxc hn hC
def ReadPo (w w' : World) (R : RM) (k : Int) (e : Ending) : Prop := ∃ v, e = .returned (.tuple #[v, .int .i64 (thereM R k)]) ∧ Reads w' v (rreadM R k) ∧ Below w.heap.size w w'
theorem rToRead (h : RefAt w B g2 F2 R) (hok : ROk R) (k : Int) : Calls Tryz.prog 62 #[.pointer (some ⟨g2, 0, none⟩), .int .i64 k] w fun e w' => ReadPo w w' R k e := by
  obtain ⟨_, _, _, h⟩ := h
  refine (rRead_calls h hok k).mono ?_
  rintro e w' ⟨v, b, n, rfl, hr, rfl, _, ⟨h1, h2⟩⟩
  exact ⟨v, by rw [h2], by rw [← h1]; exact hr, Below.refl _ _⟩
theorem rToLoad (h : RefAt w B g2 F2 R) (hok : ROk R) (k n : Int) : Calls Tryz.prog 64 #[.pointer (some ⟨g2, 0, none⟩), .int .i64 k, .int .i64 n] w fun e w' => LoadPo w w' R k n e := by
  obtain ⟨_, _, _, h⟩ := h
  exact rLoad_calls h hok k n
end Go.Proofs.YtmblnflfklmmkaaGreatDoor.Dk
/- The law's plays. -/
namespace Go.Proofs.YtmblnflfklmmkaaGreatDoor.Dk
open Go.RowKit Go.Proofs.YtmblnflfklmmkaaGreatDoorW.PrintWords Go.Proofs.YtmblnflfklmmkaaGreatDoorW.PrintLast Go.Proofs.YtmblnflfklmmkaaGreatDoorW.PrintMore
set_option linter.unusedVariables false
set_option linter.unusedSimpArgs false
set_option maxRecDepth 30000
variable {w W W' wa w2 w3 : World} {B g g2 : Nat} {F F2 : Nat → Prop} {D D' : DM} {R : RM}
theorem cellB {b t : Nat} {cs : Array Value} {m : Nat × Nat} (h : w.heap[b]? = some (.cells cs t m)) (j : Nat) (v : Value) (hj : cs[j]? = some v) : w.cell? ⟨b, j, none⟩ = some v := by simp [World.cell?, h, hj]
theorem DPost.upd (h : DPost w W B g F D') : Upd w W F := by
  obtain ⟨_, _, _, h⟩ := h
  exact h
theorem DPost.cell {b : Nat} {o : Obj} (h : DPost w W B g F D') (hb : ¬ F b) (ho : w.heap[b]? = some o) : W.heap[b]? = some o := (h.upd.block b (by
  rcases Nat.lt_or_ge b w.heap.size with h | h
  · exact h
  · rw [Array.getElem?_eq_none h] at ho; cases ho) hb).trans ho
theorem RefPost.cell {b n : Nat} {o : Obj} (h : RefPost w W B g2 F2 R n) (hb : ¬ F2 b) (ho : w.heap[b]? = some o) : W.heap[b]? = some o := by
  obtain ⟨_, _, _, _, _, _, _, hu⟩ := h
  refine (hu.block b ?_ hb).trans ho
  rcases Nat.lt_or_ge b w.heap.size with h | h
  · exact h
  · rw [Array.getElem?_eq_none h] at ho; cases ho
theorem PlayPost.below {n : Nat} (h : PlayPost w w2 B g F D' g2 F2 R n) (hb : Below w2.heap.size w2 W) : PlayPost w W B g F D' g2 F2 R n := by
  obtain ⟨F', F2', R', h1, h2, h3, h4, h5, h6⟩ := h
  exact ⟨F', F2', R', h1, h2, h3.below hb, h4, h5, h6.trans (Upd.of_below (F := fun _ => False) hb) (fun _ h => h.elim)⟩
theorem PlayPost.same (h : Two w B g F D g2 F2 R) (hok : ROk R) (hb : Below w.heap.size w W) (n : Nat) : PlayPost w W B g F D g2 F2 R n :=
  ⟨F, F2, R, fun _ h => .inl h, fun _ h => .inl h, h.below hb, hok, Nat.le_add_right _ _, Upd.of_below hb⟩
theorem OpIs.C {o : OpM} {ab ac : Option Addr} {cb cc : Nat} (h : OpIs w o [.int .i64 o.kind, .int .i64 o.at_, .int .i64 o.n, .slice ab o.b.length cb, .slice ac o.ch.length cc]) :
    o.b.length ≤ cb ∧ o.ch.length ≤ cc ∧ Kd.C (Kd.int .u8) w ab o.b.length o.b ∧ Kd.C Kd.bool w ac o.ch.length o.ch ∧ -9223372036854775808 ≤ o.n ∧ o.n ≤ 9223372036854775807 := by
  obtain ⟨ab', cb', ac', cc', e, h1, h2, h3, h4, h5, h6, h7⟩ := h
  injection e with _ e
  injection e with _ e
  injection e with _ e
  injection e with e1 e
  injection e with e2 _
  injection e1 with e1 _ e3
  injection e2 with e2 _ e4
  subst e1; subst e2; subst e3; subst e4
  exact ⟨h1, h2, h3, h4, h7.2.2⟩
end Go.Proofs.YtmblnflfklmmkaaGreatDoor.Dk
/- The law's made. -/
namespace Go.Proofs.YtmblnflfklmmkaaGreatDoor.Dk
open Go.RowKit Go.Proofs.YtmblnflfklmmkaaGreatDoorW.PrintWords Go.Proofs.YtmblnflfklmmkaaGreatDoorW.PrintLast Go.Proofs.YtmblnflfklmmkaaGreatDoorW.PrintMore
set_option linter.unusedVariables false
set_option linter.unusedSimpArgs false
set_option maxRecDepth 30000
variable {w W W' : World} {B g g2 : Nat} {F F2 : Nat → Prop} {D : DM} {R : RM}
/-- An operation is read out of its row, whole. -/
theorem load_op {p : Addr} {v0 v1 v2 v3 v4 : Value} (h0 : w.cell? p = some v0) (h1 : w.cell? ⟨p.block, p.off + 1, none⟩ = some v1) (h2 : w.cell? ⟨p.block, p.off + 2, none⟩ = some v2) (h3 : w.cell? ⟨p.block, p.off + 3, none⟩ = some v3) (h4 : w.cell? ⟨p.block, p.off + 4, none⟩ = some v4) :
    (Instr.loadAt 37 (.pointer (some p))).run Tryz.prog w = .ok (.agg #[v0, v1, v2, v3, v4]) w := by
  refine run_loadAt_at 37 Tryz.underlying37 rfl p [v0, v1, v2, v3, v4] (by kernel_rfl) (fun j u hj => ?_)
  match j with
  | 0 => injection hj with hj; subst hj; exact h0
  | 1 => injection hj with hj; subst hj; exact h1
  | 2 => injection hj with hj; subst hj; exact h2
  | 3 => injection hj with hj; subst hj; exact h3
  | 4 => injection hj with hj; subst hj; exact h4
  | j + 5 => simp at hj
theorem RAt.lower {B' : Nat} {vs vh vc : Value} (h : RAt w B g F R vs vh vc) (hb : B' ≤ B) (hc : R.choice = []) : RAt w B' g F R vs vh vc where
  blk := h.blk
  sec := Kd.R_lower h.sec hb
  wait := Kd.R_lower h.wait hb
  choice := by
    obtain ⟨A, c, h1, h2, _⟩ := h.choice
    refine ⟨A, c, h1, h2, fun W _ => ?_⟩
    rw [hc]
    exact ⟨rfl, by decide, fun h => absurd h (by decide)⟩
  own := h.own
  lt := fun k hk => ⟨Nat.le_trans hb (h.lt k hk).1, (h.lt k hk).2⟩
end Go.Proofs.YtmblnflfklmmkaaGreatDoor.Dk
/- Words for the laws about disks: what a call leaves beside it. -/
namespace Go.Proofs.YtmblnflfklmmkaaGreatDoor.Dk
open Go.RowKit Go.Proofs.YtmblnflfklmmkaaGreatDoorW.PrintWords Go.Proofs.YtmblnflfklmmkaaGreatDoorW.PrintLast Go.Proofs.YtmblnflfklmmkaaGreatDoorW.PrintMore
set_option linter.unusedVariables false
set_option linter.unusedSimpArgs false
set_option maxRecDepth 30000
variable {w0 w w' W W' w1 w2 : World} {B g g2 : Nat} {F F' F2 : Nat → Prop} {D D' : DM} {v : Value} {xs : List Int}
theorem below_trans (h : Below w0.heap.size w0 w1) (h2 : Below w1.heap.size w1 w2) : Below w0.heap.size w0 w2 := Upd.below (F := fun _ => False) ((Upd.of_below (F := fun _ => False) h).trans (Upd.of_below (F := fun _ => False) h2) (fun _ h => h.elim)) (fun _ h => h.elim)
theorem below_upd (h : Below w0.heap.size w0 w1) (h2 : Upd w1 w2 F) (hlo : ∀ k, F k → w0.heap.size ≤ k) : Below w0.heap.size w0 w2 := Upd.below (F := fun k => w0.heap.size ≤ k) ((Upd.of_below (F := fun k => w0.heap.size ≤ k) h).trans h2 (fun k hk => .inl (hlo k hk))) (fun k hk => hk)
theorem Row.post (h : Row w F v xs) (hF : ∀ k, F' k → F k ∨ w.heap.size ≤ k) (hu : Upd w w' F) : Row w' F' v xs := by
  obtain ⟨G, h1, h2⟩ := h.row
  exact ⟨G, Kd.R_kept h1 hu.kept (fun k hk => (h2 k hk).2), fun k hk => ⟨Nat.lt_of_lt_of_le (h2 k hk).1 hu.size, fun hf => by
    rcases hF k hf with hf | hf
    · exact (h2 k hk).2 hf
    · have := (h2 k hk).1
      omega⟩⟩
/-- A disk of the law's own (its blocks are younger than w0), and that all older blocks are as they were. -/
structure St (w0 w : World) (g : Nat) (F : Nat → Prop) (D : DM) : Prop where
  d : DiskAt w w0.heap.size g F D
  b : Below w0.heap.size w0 w
theorem St.below (h : St w0 w g F D) (hb : Below w.heap.size w w') : St w0 w' g F D := ⟨h.d.frame (Upd.of_below (F := fun _ => False) hb) (fun _ _ _ h => h), below_trans h.b hb⟩
theorem Row.below (h : Row w F v xs) (hb : Below w.heap.size w w') : Row w' F v xs := h.same (Upd.of_below hb)
theorem sHeld (h : St w0 w g F D) : Calls Tryz.prog 16 #[.pointer (some ⟨g, 0, none⟩)] w fun e w' => e = .returned (.int .i64 (D.held.length : Int)) ∧ w = w' := by
  obtain ⟨⟨_, _, _, h⟩, _⟩ := h
  exact Held_calls h
theorem Row.C {A : Option Addr} {c : Nat} (h : Row w F (.slice A xs.length c) xs) : Kd.C (Kd.int .u8) w A xs.length xs := by
  obtain ⟨G, h1, _⟩ := h.row
  exact (Kd.R_reads' h1).2.2
end Go.Proofs.YtmblnflfklmmkaaGreatDoor.Dk
/- The law's wide and long. -/
namespace Go.Proofs.YtmblnflfklmmkaaGreatDoor.Sh
open Go.Proofs.YtmblnflfklmmkaaGreatDoor.Dk
open Go.RowKit Go.Proofs.YtmblnflfklmmkaaGreatDoorW.PrintWords Go.Proofs.YtmblnflfklmmkaaGreatDoorW.PrintLast Go.Proofs.YtmblnflfklmmkaaGreatDoorW.PrintMore
set_option linter.unusedVariables false
set_option linter.unusedSimpArgs false
set_option maxRecDepth 30000
variable {w w1 w2 w' wr : World}
def wOp8 (o : OpM) : Nat := 5 + o.b.length + o.ch.length
def wsum8 (l : List OpM) : Nat := (l.map wOp8).sum
theorem wsum8_take {l : List OpM} {i : Nat} {o : OpM} (h : l[i]? = some o) : wsum8 (l.take (i + 1)) = wsum8 (l.take i) + wOp8 o := by
  obtain ⟨hi, rfl⟩ := List.getElem?_eq_some_iff.1 h
  rw [List.take_succ_eq_append_getElem hi, wsum8, wsum8, List.map_append, List.sum_append]
  simp
theorem wsum8_le (l : List OpM) : ∀ i, wsum8 (l.take i) ≤ wsum8 l := fun i => by
  have : wsum8 l = wsum8 (l.take i) + wsum8 (l.drop i) := by
    rw [wsum8, wsum8, wsum8, ← List.sum_append, ← List.map_append, List.take_append_drop]
  omega
theorem wide8_calls (A : Option Addr) (c : Nat) (x : List Int) (n : Int) (hx : x.length ≤ 140737488351232) : Calls Tryz.prog 5 #[.slice A x.length c, .int .i64 n] w fun e w' => e = .returned (.bool (decide (2000 < x.length ∨ 60 < n))) ∧ w = w' := by
  by_cases h1 : 2000 < x.length
  · have hq := Lib.hid (show decide (2000 < x.length ∨ 60 < n) = true from decide_eq_true (.inl h1))
    have t1 : decide ((2000 : Int) < (x.length : Int)) = true := decide_eq_true (by omega)
    clear h1
    go_enter Tryz.func5, Tryz.ntmps5
    go_wp2_with (fail)
    go_ret
    exact ⟨by rw [hq.out] <;> rfl, rfl⟩
  · have t1 : decide ((2000 : Int) < (x.length : Int)) = false := decide_eq_false (by omega)
    have hq := Lib.hid (show decide (2000 < x.length ∨ 60 < n) = decide (60 < n) by simp [h1])
    clear h1
    go_enter Tryz.func5, Tryz.ntmps5
    go_wp2_with (fail)
    go_ret
    exact ⟨by rw [hq.out] <;> rfl, rfl⟩
def LongPo (w w' : World) (l : List OpM) (e : Ending) : Prop := e = .returned (.bool (decide (2500 < wsum8 l))) ∧ ∃ m, w' = w.drewN m
set_option maxHeartbeats 8000000 in
theorem long8_calls (A : Option Addr) (c : Nat) (l : List OpM) (h : Ops w A l) (hl : l.length ≤ 140737488351232) : Calls Tryz.prog 6 #[.slice A l.length c] w fun e w' => LongPo w w' l e := by
  have H := Aside0.mk h
  clear h
  go_enter Tryz.func6, Tryz.ntmps6
  go_wp2_with (fail)
  go_loopw [3, 4] (fun v3 v4 w' => ∃ (i m : Nat), v4 = .int .i64 i ∧ v3 = .int .i64 (wsum8 (l.take i) : Nat) ∧ i ≤ l.length ∧ wsum8 (l.take i) ≤ 281474976720000 ∧ w' = w.drewN m) (fun _ v4 _ => l.length - (intOf v4).toNat)
  case atStart => exact ⟨0, 0, rfl, rfl, Nat.zero_le _, by simp [wsum8], rfl⟩
  case round =>
    obtain ⟨i, m, rfl, rfl, hi, hs, rfl⟩ := hrel
    by_cases hlt : i < l.length
    · by_cases h3 : wsum8 (l.take i) ≤ 2500
      · obtain ⟨ad, ab, cb, ac, cc, o, rfl, ho, h0, h1, h2, h3', h4, hOp⟩ := (H.out.below (pw_below_drewN (Below.refl _ _) m)).get i hlt
        have h3 := h3'
        clear h3'
        have HW := Aside0.mk (wsum8_take ho)
        obtain ⟨s, hss⟩ : ∃ s, wsum8 (l.take i) = s := ⟨_, rfl⟩
        rename_i hs3
        rw [hss] at HW hs hs3
        have hb : o.b.length ≤ 140737488351232 ∧ o.ch.length ≤ 140737488351232 := by
          obtain ⟨_, _, _, _, _, _, _, _, _, h⟩ := hOp
          exact ⟨h.1, h.2.1⟩
        obtain ⟨hb1, hb2⟩ := hb
        clear hOp ho h0 h1 h2
        simp only [hss]
        clear hss
        have t1 : decide ((s : Int) ≤ 2500) = true := decide_eq_true (by omega)
        have t2 : decide (s ≤ 2500) = true := decide_eq_true (by omega)
        go_wp2_with (fail)
        refine start_ (n := 17) (S := fun w' => w'.cell? ⟨(ad.add (i * 5)).block, (ad.add (i * 5)).off + 3, none⟩ = some (.slice ab o.b.length cb) ∧ w'.cell? ⟨(ad.add (i * 5)).block, (ad.add (i * 5)).off + 4, none⟩ = some (.slice ac o.ch.length cc)) (ds := []) (bz 17 0) (by kernel_rfl) rfl rfl ⟨h3, h4⟩ (fun hHeld => ?_)
        refine pz 0 (some 15) (bz 17 1) ?_
        refine pz 1 (some 16) (bz 17 3) ?_
        refine pz 2 (some 17) (bz 17 7) ?_
        refine pz 3 (some 18) (bz 17 15) ?_
        refine pz 4 (some 19) (bz 17 31) ?_
        refine pz 5 (some 20) (bz 17 63) ?_
        refine pz 9 (some 24) (bz 17 575) ?_
        refine pz 10 (some 25) (bz 17 1599) ?_
        refine pz 11 (some 26) (bz 17 3647) ?_
        refine pz 12 (some 27) (bz 17 7743) ?_
        refine tz2 6 (some 21) (bz 17 7807) hHeld ?_
        refine pz 7 (some 22) (bz 17 7935) ?_
        refine pz 8 (some 23) (bz 17 8191) ?_
        refine tz2 13 (some 28) (bz 17 16383) hHeld ?_
        refine pz 14 (some 29) (bz 17 32767) ?_
        refine pz 15 (some 30) (bz 17 65535) ?_
        refine pz 16 (some 3) (bz 17 131071) ?_
        refine done_ (by kernel_rfl) ?_
        clear hHeld h3 h4
        have hw1 : wrap64 ((s : Int) + 5) = s + 5 := by simp only [wrap64]; omega
        have hw2 : wrap64 ((s : Int) + 5 + o.b.length) = s + 5 + o.b.length := by simp only [wrap64]; omega
        have hw3 : wrap64 ((s : Int) + 5 + o.b.length + o.ch.length) = s + 5 + o.b.length + o.ch.length := by simp only [wrap64]; omega
        simp only [hw1, hw2, hw3]
        clear hw1 hw2 hw3
        go_wp2_with (fail)
        go_roundw
        case rel => exact ⟨i + 1, _, by go_num, by rw [HW.out]; simp only [wOp8]; congr 1; omega, by omega, by rw [HW.out]; simp only [wOp8]; omega, rfl⟩
        case measure => simp [intOf]; omega
      · have HL := Aside0.mk (show decide (2500 < wsum8 l) = true from decide_eq_true (by have := wsum8_le l i; omega))
        obtain ⟨s, hss⟩ : ∃ s, wsum8 (l.take i) = s := ⟨_, rfl⟩
        rw [hss] at h3 hs
        simp only [hss]
        have t1 : decide ((s : Int) ≤ 2500) = false := decide_eq_false (by omega)
        have t2 : decide (s ≤ 2500) = false := decide_eq_false (by omega)
        have t3 : decide ((2500 : Int) < (s : Int)) = true := decide_eq_true (by omega)
        clear hss h3
        go_wp2_with (fail)
        go_ret
        exact ⟨by rw [HL.out] <;> first | rfl | (simp <;> omega), _, rfl⟩
    · obtain rfl : i = l.length := by omega
      have HL := Aside0.mk (show wsum8 (l.take l.length) = wsum8 l by rw [List.take_length])
      obtain ⟨s, hss⟩ : ∃ s, wsum8 (l.take l.length) = s := ⟨_, rfl⟩
      rw [hss] at HL hs
      simp only [hss]
      clear hss
      go_wp2_with (fail)
      go_ret
      exact ⟨by rw [← HL.out] <;> first | rfl | (simp <;> omega), _, rfl⟩

end Go.Proofs.YtmblnflfklmmkaaGreatDoor.Sh
/-! ### 50. A region's order in a table, made once a region: each step asks the table (numbers alone), not the operations -/
namespace Go.Proofs.YtmblnflfklmmkaaGreatDoorW.PrintLast
open Go.Proofs.YtmblnflfklmmkaaGreatDoorW.PrintWords (Aside0)
def needsOf (md : Region.Mode) (o : Oper) : List Nat := (o.after.toList.filter (fun e => Region.binds md e)).map (fun e => e.on)
def clashOf (md : Region.Mode) (ops : Array Oper) (i : Nat) (oi : Oper) : List Nat := (List.range ops.size).filter fun j => !(j == i) && match ops[j]? with
  | some oj => !(oj.after.any (fun e => Region.binds md e && e.on == i) || oi.apart ops oj)
  | none => false
/-- No select in it; for each operation: what must have come up before it, and what may not come up behind it if it is taken first. -/
def rtab (md : Region.Mode) (ops : Array Oper) : Bool × List (List Nat × List Nat) := (Region.noSelect ops, (List.range ops.size).map fun i => match ops[i]? with
  | some o => (needsOf md o, clashOf md ops i o)
  | none => ([], []))
def readyAt (T : List (List Nat × List Nat)) (l : List Bool) (i : Nat) : Bool := !l.getD i true && match T[i]? with
  | some r => r.1.all (fun j => l.getD j false)
  | none => false
def readyT (T : List (List Nat × List Nat)) (l : List Bool) : List Nat := (List.range T.length).filter (readyAt T l)
def freeT (T : List (List Nat × List Nat)) (l : List Bool) (i : Nat) : Bool := match T[i]? with
  | some r => r.2.all (fun j => l.getD j true)
  | none => false
def closedT (T : List (List Nat × List Nat)) (l : List Bool) : Bool := (List.range T.length).all fun j => !l.getD j false || match T[j]? with
  | some r => r.1.all (fun k => l.getD k false)
  | none => true
def reachT (T : List (List Nat × List Nat)) (i : Nat) : Nat → Nat → Bool
  | 0, _ => false
  | fuel + 1, d => match T[d]? with
    | some r => r.1.any fun j => j == i || reachT T i fuel j
    | none => false
def lastT (T : List (List Nat × List Nat)) (l : List Bool) (ds : List Nat) (i : Nat) : Bool := ds.all fun d => l.getD d true || reachT T i T.length d
section
variable {md : Region.Mode} {ops : Array Oper} {T : Bool × List (List Nat × List Nat)} {l l' li lj lk : Array Bool} {ds : List Nat} {i j k : Nat}
theorem gd (l : Array Bool) (j : Nat) (b : Bool) : l.getD j b = l.toList.getD j b := by simp [Array.getD_eq_getD_getElem?, List.getD_eq_getElem?_getD]
theorem needs_all (o : Oper) (p : Nat → Bool) : o.after.all (fun e => !Region.binds md e || p e.on) = (needsOf md o).all p := by
  unfold needsOf
  rw [← Array.all_toList]
  induction o.after.toList with
  | nil => rfl
  | cons e r ih =>
    rw [List.all_cons, ih, List.filter_cons]
    cases h : Region.binds md e <;> simp
theorem needs_any (o : Oper) (p : Nat → Bool) : o.after.any (fun e => Region.binds md e && p e.on) = (needsOf md o).any p := by
  unfold needsOf
  rw [← Array.any_toList]
  induction o.after.toList with
  | nil => rfl
  | cons e r ih =>
    rw [List.any_cons, ih, List.filter_cons]
    cases h : Region.binds md e <;> simp
theorem rtab_length : (rtab md ops).2.length = ops.size := by simp [rtab]
theorem rtab_some {o : Oper} (h : ops[i]? = some o) : (rtab md ops).2[i]? = some (needsOf md o, clashOf md ops i o) := by
  have hi := (Array.getElem?_eq_some_iff.1 h).1
  unfold rtab
  rw [List.getElem?_map, List.getElem?_range hi, Option.map_some, h]
theorem rtab_none (h : ops[i]? = none) : (rtab md ops).2[i]? = none := by
  have hi : ops.size ≤ i := Array.getElem?_eq_none_iff.1 h
  exact List.getElem?_eq_none (by rw [rtab_length]; exact hi)
theorem readyAt_eq : readyAt (rtab md ops).2 l.toList i = (!l.getD i true && ((ops[i]?).map (·.after.all fun e => !Region.binds md e || l.getD e.on false)).getD false) := by
  unfold readyAt
  rw [gd]
  cases h : ops[i]? with
  | none => rw [rtab_none h]; rfl
  | some o =>
    rw [rtab_some h]
    simp only [Option.map_some, Option.getD_some]
    rw [← needs_all]
    simp only [gd]
theorem ready_eq : Region.ready md ops l = readyT (rtab md ops).2 l.toList := by
  unfold Region.ready readyT
  rw [rtab_length]
  refine List.filter_congr (fun i _ => ?_)
  rw [readyAt_eq]
theorem free_eq : Region.free md ops l i = freeT (rtab md ops).2 l.toList i := by
  unfold Region.free freeT
  cases h : ops[i]? with
  | none => rw [rtab_none h]
  | some oi =>
    rw [rtab_some h]
    simp only [clashOf]
    rw [List.all_filter]
    congr 1
    funext j
    rw [gd]
    cases hj : ops[j]? with
    | none => cases (j == i) <;> cases (l.toList.getD j true) <;> simp
    | some oj =>
      cases (j == i) <;> cases (l.toList.getD j true) <;> cases (oj.after.any (fun e => Region.binds md e && e.on == i) || oi.apart ops oj) <;> simp_all
theorem closed_eq : Region.closedB md ops l = closedT (rtab md ops).2 l.toList := by
  unfold Region.closedB closedT
  rw [rtab_length]
  congr 1
  funext j
  rw [gd]
  cases h : ops[j]? with
  | none => rw [rtab_none h]
  | some o =>
    rw [rtab_some h]
    simp only
    rw [← needs_all]
    simp only [gd]
theorem reach_eq : ∀ (fuel d : Nat), Region.reachB md ops i fuel d = reachT (rtab md ops).2 i fuel d
  | 0, _ => rfl
  | fuel + 1, d => by
    unfold Region.reachB reachT
    cases h : ops[d]? with
    | none => rw [rtab_none h]
    | some o =>
      rw [rtab_some h]
      simp only
      rw [← needs_any]
      congr 1
      funext e
      rw [reach_eq fuel]
theorem last_eq : Region.lastB md ops l ds i = lastT (rtab md ops).2 l.toList ds i := by
  unfold Region.lastB lastT
  rw [rtab_length]
  congr 1
  funext d
  rw [gd, reach_eq]
theorem readyAt_mem (h : readyAt T.2 l.toList i = true) (hT : rtab md ops = T) : (Region.ready md ops l).contains i = true := by
  subst hT
  rw [ready_eq]
  unfold readyT
  rw [List.contains_iff_mem, List.mem_filter, List.mem_range]
  refine ⟨?_, h⟩
  unfold readyAt at h
  rw [Bool.and_eq_true] at h
  cases hq : (rtab md ops).2[i]? with
  | none => rw [hq] at h; simp at h
  | some r => exact (List.getElem?_eq_some_iff.1 hq).1
theorem set_of (h : (l.toList.set i true == l'.toList) = true) : (l.setIfInBounds i true == l') = true := by
  rw [beq_iff_eq] at h ⊢
  apply Array.ext'
  rw [Array.toList_setIfInBounds]
  exact h
def anyT (T : Bool × List (List Nat × List Nat)) (l l' : List Bool) (i : Nat) : Bool := T.1 && freeT T.2 l i && readyAt T.2 l i && (l.set i true == l')
/-- pure_'s condition out of the table. -/
theorem any_of (hT : rtab md ops = T) (h : anyT T l.toList l'.toList i = true) : anyB md ops l l' i = true := by
  simp only [anyT, Bool.and_eq_true] at h
  obtain ⟨⟨⟨h1, h2⟩, h3⟩, h4⟩ := h
  have h5 := readyAt_mem h3 hT
  have h6 := set_of h4
  subst hT
  simp only [anyB, Bool.and_eq_true]
  exact ⟨⟨⟨h1, by rw [free_eq]; exact h2⟩, h5⟩, h6⟩
def takeT (T : Bool × List (List Nat × List Nat)) (ds : List Nat) (l l' : List Bool) (i : Nat) : Bool := T.1 && freeT T.2 l i && readyAt T.2 l i && closedT T.2 l && lastT T.2 l ds i && (l.set i true == l')
/-- take_'s. -/
theorem take_of (hT : rtab md ops = T) (h : takeT T ds l.toList l'.toList i = true) : takeB md ops ds l l' i = true := by
  simp only [takeT, Bool.and_eq_true] at h
  obtain ⟨⟨⟨⟨⟨h1, h2⟩, h3⟩, h4⟩, h5⟩, h6⟩ := h
  have h7 := readyAt_mem h3 hT
  have h8 := set_of h6
  subst hT
  simp only [takeB, Bool.and_eq_true]
  exact ⟨⟨⟨⟨⟨h1, by rw [free_eq]; exact h2⟩, h7⟩, by rw [closed_eq]; exact h4⟩, by rw [last_eq]; exact h5⟩, h8⟩
/-- one_'s and last_'s. -/
theorem one_of (hT : rtab md ops = T) (h : (readyT T.2 l.toList == [i] && l.toList.set i true == l'.toList) = true) : readyB md ops l l' i = true := by
  simp only [Bool.and_eq_true] at h
  obtain ⟨h1, h2⟩ := h
  subst hT
  simp only [readyB, Bool.and_eq_true]
  exact ⟨by rw [ready_eq]; exact h1, set_of h2⟩
/-- done_'s. -/
theorem done_of (hT : rtab md ops = T) (h : (readyT T.2 l.toList == []) = true) : (Region.ready md ops l == []) = true := by
  subst hT
  rw [ready_eq]
  exact h
/-- What d waits for, as_ bits: told in the table (B), checked in one pass: each bit is a need of d, or a bit of an earlier need's. -/
def upM (B : List Nat) (d : Nat) : List Nat → Nat
  | [] => 0
  | n :: r => (2 ^ n ||| (if n < d then B.getD n 0 else 0)) ||| upM B d r
def waitsOk (T : List (List Nat × List Nat)) (B : List Nat) : Bool := (List.range T.length).all fun d => match T[d]? with
  | some r => (B.getD d 0 ||| upM B d r.1) == upM B d r.1
  | none => false
theorem upM_bit {B : List Nat} {d i : Nat} : ∀ {ns : List Nat}, (upM B d ns).testBit i = true → ∃ n ∈ ns, n = i ∨ (n < d ∧ (B.getD n 0).testBit i = true)
  | [], h => by simp [upM] at h
  | n :: r, h => by
    unfold upM at h
    rw [Nat.testBit_or, Nat.testBit_or, Bool.or_eq_true, Bool.or_eq_true] at h
    rcases h with (h | h) | h
    · rw [Nat.testBit_two_pow] at h
      exact ⟨n, List.mem_cons_self, .inl (by simpa using h)⟩
    · by_cases hn : n < d
      · rw [if_pos hn] at h
        exact ⟨n, List.mem_cons_self, .inr ⟨hn, h⟩⟩
      · rw [if_neg hn] at h
        simp at h
    · obtain ⟨m, hm, h2⟩ := upM_bit h
      exact ⟨m, List.mem_cons_of_mem _ hm, h2⟩
theorem reach_bit {T : List (List Nat × List Nat)} {B : List Nat} (hB : waitsOk T B = true) : ∀ (fuel d : Nat), d < fuel → d < T.length → (B.getD d 0).testBit i = true → reachT T i fuel d = true
  | 0, d, h, _, _ => by omega
  | fuel + 1, d, h, hd, hb => by
    have h1 := List.all_eq_true.1 hB d (List.mem_range.2 hd)
    cases hr : T[d]? with
    | none => rw [hr] at h1; simp at h1
    | some r =>
      rw [hr] at h1
      simp only [beq_iff_eq] at h1
      have h2 : (upM B d r.1).testBit i = true := by rw [← h1, Nat.testBit_or, hb, Bool.true_or]
      obtain ⟨n, hn, h3⟩ := upM_bit h2
      unfold reachT
      rw [hr]
      simp only
      rw [List.any_eq_true]
      refine ⟨n, hn, ?_⟩
      rcases h3 with rfl | ⟨h4, h5⟩
      · simp
      · rw [reach_bit hB fuel n (by omega) (by omega) h5, Bool.or_true]
def lastW (T : List (List Nat × List Nat)) (B : List Nat) (l : List Bool) (ds : List Nat) (i : Nat) : Bool := ds.all fun d => l.getD d true || (decide (d < T.length) && (B.getD d 0).testBit i)
def takeW (T : Bool × List (List Nat × List Nat)) (B : List Nat) (ds : List Nat) (l l' : List Bool) (i : Nat) : Bool := T.1 && freeT T.2 l i && readyAt T.2 l i && closedT T.2 l && lastW T.2 B l ds i && (l.set i true == l')
/-- take_'s, by the bits. -/
theorem take_ofW {B : List Nat} (hT : rtab md ops = T) (hB : waitsOk T.2 B = true) (h : takeW T B ds l.toList l'.toList i = true) : takeB md ops ds l l' i = true := by
  refine take_of hT ?_
  simp only [takeW, takeT, Bool.and_eq_true] at h ⊢
  obtain ⟨⟨⟨⟨⟨h1, h2⟩, h3⟩, h4⟩, h5⟩, h6⟩ := h
  refine ⟨⟨⟨⟨⟨h1, h2⟩, h3⟩, h4⟩, ?_⟩, h6⟩
  unfold lastW at h5
  unfold lastT
  rw [List.all_eq_true] at h5 ⊢
  intro d hd
  have h7 := h5 d hd
  rw [Bool.or_eq_true, Bool.and_eq_true, decide_eq_true_eq] at h7
  rcases h7 with h7 | ⟨h8, h9⟩
  · rw [h7, Bool.true_or]
  · rw [reach_bit hB _ d h8 h8 h9, Bool.or_true]
theorem with_tabW {P : Program} {Q : Exit → Act → World → Prop} {S : World → Prop} {n : Nat} {a : Act} {w : World} {B : List Nat} (hT : rtab md ops = T) (hB : waitsOk T.2 B = true) (h : Aside0 (rtab md ops = T) → Aside0 (waitsOk T.2 B = true) → wpAnyLast P md ops Q S ds n l a w) : wpAnyLast P md ops Q S ds n l a w := h ⟨hT⟩ ⟨hB⟩
end
/-- The operations of a region, by its number. -/
def opsIn : Code → Nat → Option (Array Oper)
  | .region id ops _, k => if id == k then some ops else none
  | .seq a b, k => match opsIn a k with
    | some o => some o
    | none => opsIn b k
  | .cond _ a b, k => match opsIn a k with
    | some o => some o
    | none => opsIn b k
  | .block _ c, k => opsIn c k
  | .loop c, k => opsIn c k
  | .scope c, k => opsIn c k
  | .rangeFunc _ _ a b, k => match opsIn a k with
    | some o => some o
    | none => opsIn b k
  | _, _ => none
def opsOf (f : Func) (k : Nat) : Array Oper := ((f.body.bind fun c => opsIn c k)).getD #[]
end Go.Proofs.YtmblnflfklmmkaaGreatDoorW.PrintLast
/-! ### 56. Four, five, six operations that may come up next, in any order -/
namespace Go.Proofs.YtmblnflfklmmkaaGreatDoorW.PrintLast
section
variable {P : Program} {ops : Array Oper} {Q : Exit → Act → World → Prop} {md : Region.Mode} {S : World → Prop} {ds : List Nat} {T : Bool × List (List Nat × List Nat)}
end
end Go.Proofs.YtmblnflfklmmkaaGreatDoorW.PrintLast
/-! ### 52. A row that stays read whatever happens to a block (a set of blocks) doesn't lie there -/
namespace Go.Proofs.YtmblnflfklmmkaaGreatDoorW.PrintWords
open Go.RowKit
namespace Kd
section
variable {α : Type} {d : Kd α} {W : World} {g n : Nat} {S ok : Nat → Prop} {A : Option Addr} {ad : Addr} {xs : List α}
end
end Kd
end Go.Proofs.YtmblnflfklmmkaaGreatDoorW.PrintWords
/-! ### 54. Behind orders that were drawn quietly: the same facts at the world's new name; a flat row's foot -/
namespace Go.Proofs.YtmblnflfklmmkaaGreatDoorW.PrintWords
open Go.RowKit
section
variable {w w' u : World} {m B g : Nat} {o : Obj} {row : Option Nat} {S : Nat → Prop} {a : Addr} {v : Value}
end
namespace Kd
section
variable {α : Type} {d : Kd α} {e base n m : Nat} {ok : Nat → Prop} {w w' : World} {v : Value} {A : Option Addr} {xs : List α}
end
end Kd
end Go.Proofs.YtmblnflfklmmkaaGreatDoorW.PrintWords
/-! ### 53. '==' of structs as_ one Bool -/
namespace Go.Proofs.YtmblnflfklmmkaaGreatDoorW.PrintWords
open Go.RowKit
section
variable {P : Program} {d : Nat} {xs ys : Array Value} {f : Field} {fs : List Field} {a b : Value} {r s : Bool} {w : World}
end
end Go.Proofs.YtmblnflfklmmkaaGreatDoorW.PrintWords
/-! ### 55. Reps told from the front, no append: for rows of one-cell elements and of wider ones -/
namespace Go.Proofs.YtmblnflfklmmkaaGreatDoorW.PrintWords
/-- One cell an element. -/
theorem Reps.one {α : Type} {R : α → List Value → Prop} {ps : List α} {cs : List Value} {p : α} {v : Value} (hp : R p [v]) (h : Reps R 1 ps cs) : Reps R 1 (p :: ps) (v :: cs) := by
  refine ⟨by simp [h.1], fun j q hq => ?_⟩
  cases j with
  | zero =>
    simp only [List.getElem?_cons_zero, Option.some.injEq] at hq
    subst hq
    simpa using hp
  | succ j =>
    simp only [List.getElem?_cons_succ] at hq
    have h1 := h.2 j q hq
    simpa [Nat.mul_one] using h1
end Go.Proofs.YtmblnflfklmmkaaGreatDoorW.PrintWords
/-! ### 57. A region of open order by ONE relation over what is listed so far: each operation is shown once, whatever came up before it -/
namespace Go.Proofs.YtmblnflfklmmkaaGreatDoorW.PrintLast
/-- Number i is listed too. -/
def up (b : Nat → Bool) (i : Nat) : Nat → Bool := fun j => if j = i then true else b j
section
variable {P : Program} {ops : Array Oper} {Q : Exit → Act → World → Prop} {md : Region.Mode} {T : Bool × List (List Nat × List Nat)} {B : List Nat} {O : List Nat} {b : Nat → Bool} {i j n : Nat}
/-! The frame: what is listed has its destination filled. -/
end
end Go.Proofs.YtmblnflfklmmkaaGreatDoorW.PrintLast
namespace Go.Proofs.YtmblnflfklmmkaaGreatDoorW.PrintWords
open Go.RowKit
end Go.Proofs.YtmblnflfklmmkaaGreatDoorW.PrintWords
namespace Go.Proofs.YtmblnflfklmmkaaGreatDoorW.PrintLast
section
variable {ops : Array Oper} {a : Act} {o og : Oper} {g : Nat} {t : Tmp} {u : Bool}
end
end Go.Proofs.YtmblnflfklmmkaaGreatDoorW.PrintLast
/-! ### 58. A guarded operation whose guard is known to want it: the same goal without the guard -/
namespace Go.Proofs.YtmblnflfklmmkaaGreatDoorW.PrintWords
open Go.RowKit
section
variable {P : Program} {ops : Array Oper} {rest : List Oper} {o : Oper} {a : Act} {Q : Exit → Act → World → Prop} {W : World}
end
end Go.Proofs.YtmblnflfklmmkaaGreatDoorW.PrintWords
/- Functions of the program and of its laws, each with a Lean function and the proof that a call comes to what that function tells, under the conditions that its contract names. (Laid by a program of this session, out of the translation; Lean checks it.) -/
namespace Go.Proofs.YtmblnflfklmmkaaGreatDoor.P
open Go.RowKit Go.Proofs.YtmblnflfklmmkaaGreatDoorW.PrintWords Go.Proofs.YtmblnflfklmmkaaGreatDoorW.PrintLast Go.Proofs.YtmblnflfklmmkaaGreatDoorW.PrintMore
attribute [local go_sem] max2_int min2_int max_two min_two max_three min_three max_four min_four   -- for this text's walks alone
set_option linter.unusedVariables false
set_option linter.unusedSimpArgs false



def errW : Option Int → Value
  | none => .nilIface
  | some c => .iface 0 (.int .i64 c)
theorem errW_none : errW none = .nilIface := rfl
theorem errW_some (c : Int) : errW (some c) = .iface 0 (.int .i64 c) := rfl

theorem info5 : (Tryz.prog.info? 5).map (fun i => (i.zero, i.size, i.bytes)) = some (some (.int .u8 0), 1, 1) := by kernel_rfl
theorem info45 : (Tryz.prog.info? 45).map (fun i => (i.zero, i.size, i.bytes)) = some (some (.int .u64 0), 1, 8) := by kernel_rfl
-- the values' own types
/-! #### struct type 37 -/
structure S37 where
  f0 : Int
  f1 : Int
  f2 : Int
  f3 : (List Int)
  f4 : (List Bool)
def z37 : S37 := ⟨(0 : Int), (0 : Int), (0 : Int), ([] : List Int), ([] : List Bool)⟩
def k37 : Kd S37 := Kd.iso (Kd.pair (Kd.int .i64) (Kd.pair (Kd.int .i64) (Kd.pair (Kd.int .i64) (Kd.pair (Kd.slice 5 (Kd.int .u8)) (Kd.slice 4 Kd.bool))))) (fun x : S37 => (x.f0, x.f1, x.f2, x.f3, x.f4))
theorem k37_open {w : World} {x : S37} {cs : List Value} (h : k37.K w x cs) : ∃ A3 c3 A4 c4, cs = [.int .i64 x.f0, .int .i64 x.f1, .int .i64 x.f2, .slice A3 x.f3.length c3, .slice A4 x.f4.length c4] ∧ x.f3.length ≤ c3 ∧ (Kd.int .u8).C w A3 x.f3.length x.f3 ∧ x.f4.length ≤ c4 ∧ Kd.bool.C w A4 x.f4.length x.f4 := by
  obtain ⟨_, _, rfl, rfl, ⟨_, _, rfl, rfl, ⟨_, _, rfl, rfl, ⟨_, _, rfl, ⟨A3, c3, rfl, l3, g3⟩, ⟨A4, c4, rfl, l4, g4⟩⟩⟩⟩⟩ := h
  exact ⟨A3, c3, A4, c4, rfl, l3, g3, l4, g4⟩
def rd_T37 (xs : List S37) (i : Int) : S37 := xs.getD i.toNat z37
theorem at_T37 {w : World} {A : Option Addr} {n : Nat} {xs : List S37} (h : Kd.C k37 w A n xs) (i : Int) (h0 : 0 ≤ i) (h1 : i < n) : ∃ ad A3 c3 A4 c4, A = some ad ∧ w.cell? (ad.add (i.toNat * 5)) = some (.int .i64 (rd_T37 xs i).f0) ∧ w.cell? ⟨(ad.add (i.toNat * 5)).block, (ad.add (i.toNat * 5)).off + 1, none⟩ = some (.int .i64 (rd_T37 xs i).f1) ∧ w.cell? ⟨(ad.add (i.toNat * 5)).block, (ad.add (i.toNat * 5)).off + 2, none⟩ = some (.int .i64 (rd_T37 xs i).f2) ∧ w.cell? ⟨(ad.add (i.toNat * 5)).block, (ad.add (i.toNat * 5)).off + 3, none⟩ = some (.slice A3 (rd_T37 xs i).f3.length c3) ∧ w.cell? ⟨(ad.add (i.toNat * 5)).block, (ad.add (i.toNat * 5)).off + 4, none⟩ = some (.slice A4 (rd_T37 xs i).f4.length c4) ∧ (rd_T37 xs i).f3.length ≤ c3 ∧ (Kd.int .u8).C w A3 (rd_T37 xs i).f3.length (rd_T37 xs i).f3 ∧ (rd_T37 xs i).f4.length ≤ c4 ∧ Kd.bool.C w A4 (rd_T37 xs i).f4.length (rd_T37 xs i).f4 := by
  obtain ⟨ad, c, e, _, hK, hc0⟩ := Kd.C_get h z37 i h0 h1
  have hc : ∀ j u, c[j]? = some u → w.cell? (ad.add (i.toNat * 5 + j)) = some u := hc0
  obtain ⟨A3, c3, A4, c4, rfl, l3, g3, l4, g4⟩ := k37_open hK
  exact ⟨ad, A3, c3, A4, c4, e, hc 0 _ rfl, by rw [← add_field _ _ 1 (by omega)]; exact hc 1 _ rfl, by rw [← add_field _ _ 2 (by omega)]; exact hc 2 _ rfl, by rw [← add_field _ _ 3 (by omega)]; exact hc 3 _ rfl, by rw [← add_field _ _ 4 (by omega)]; exact hc 4 _ rfl, l3, g3, l4, g4⟩

/-! #### struct type 90 -/
end Go.Proofs.YtmblnflfklmmkaaGreatDoor.P
