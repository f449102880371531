/- SlotsCrash: the texts Glo DkG Wk By DkH DkI DkJ DkK DkL DkM DkN DkO LoZ LoA LoB LoY LoX LoC WTab WFour WFootNe WAt WEqStruct WRepsOne WInv WInvWords WGuard Px0 Px1 Px2 Px3 LoD LoE LoF LoG ShC ShD ShE ShF ShG. -/
import Derived.Test.YtfpfnolpoklefaaGreatDoorRows
import Derived.Test.YtfpfnolpoklefaaGreatDoorPSlotsCrash1
import Derived.ProofKit
import Derived.LaidMore
import Derived.OpenShut
import Derived.LaidHandle
import Derived.Stop.Joined
import Derived.Laws.CopyRow
import Derived.Laws.StructEq
import Derived.Test.YtfpfnolpoklefaaGreatDoorProg
import Derived.Below
import Derived.Deep.Draws
import Derived.Deep.AppendLies
import Derived.Maps.AppendAt
import Derived.OwnWalk
import Derived.Laws.BytesArg
import Derived.Laws.MakeOwn
import Derived.Laws.OwnMore
import Derived.Deep.OwnRows
import Derived.Tactics
import Derived.Lib.ConvBytes
import Derived.Laws.Slices
import Derived.WalkKit
import Derived.KernelRfl
import Derived.RowKit3
import Derived.Deep.LoopGhost
import Derived.Deep.QuietTactic
import Derived.BigQuiet
import Derived.WideLaws
import Derived.Deep.DeepCutAuto
import Derived.Deep.CutBlock
import Derived.Deep.RegionHeld3
import Derived.Laws.Rows
import Derived.Lib.AppendStr
import Derived.ArgAppend
import Derived.Laws.IdiomCopy
import Derived.OrdersHeld
import Derived.Laws.BitsLemmas
import Derived.RowKit
import Derived.WalkSpells
import Derived.BigRegion
import Derived.Lib.Hide
import Derived.OneCell
import Derived.RegionTactic
import Derived.ChangeAlike
import Derived.Lib.SlBytesConst
import Derived.Deep.MidRow
/- The laid tables, out of a row's own condition. -/
namespace Go.Proofs.YtfpfnolpoklefaaGreatDoor.Sh
open Go.ChangeShapes Go.WideShapes Go.ChangeAt Go.RowKit
set_option linter.unusedVariables false
set_option maxRecDepth 100000
abbrev laidTabs : List (String × DataW Unit) := [("imprimatur/sha2.constants", Rows.laid_imprimatur_sha2_constants), ("imprimatur/sha2.starts", Rows.laid_imprimatur_sha2_starts)]
theorem door_met (os : Os) (args : Array Value) : laidMetH Tryz.prog laidTabs ((World.doorLaid Tryz.prog 400 os).forCall (fun _ _ => 0) ⟨#[], args, []⟩).memory :=
  laidMetH_of_parts3 (fuel := 8) (laidMet_of_run' 8 (by kernel_rfl) (by kernel_rfl)) (by kernel_rfl) (by kernel_rfl)
theorem gC : Tryz.prog.globalNamed "imprimatur/sha2.constants" = some 1 := by kernel_rfl
theorem gS : Tryz.prog.globalNamed "imprimatur/sha2.starts" = some 0 := by kernel_rfl
theorem tC : (Tryz.prog.globals[1]?).map (·.type) = some 191 := by kernel_rfl
theorem tS : (Tryz.prog.globals[0]?).map (·.type) = some 159 := by kernel_rfl
theorem c64 : Tryz.prog.cellsOf 104 = 1 := by kernel_rfl
theorem table {H : Type} {enc : TypeId × Value → H} {W : World} {base : Nat} {sp : Nat → Bool} {held : Bool} {t m : Nat} {cs : List Value} {L : List Int} {q : List MemPlace} (ht : Tryz.prog.underlying t = some (.array L.length 104)) (hd : DataW.trod enc Tryz.prog W base sp held m t cs = some (.agg (L.map fun k => .lit (.int .u64 k)), q)) : ∀ i, i < L.length → cs[i]? = some (.int .u64 (L.getD i 0)) := by
  obtain ⟨xs, m1, rfl, hx1, hlen, hn, hel⟩ := DataW.trod_array ht hd
  intro i hi
  have h0 := hel i hi
  rw [c64, Nat.mul_one] at h0
  simp only [Prod.mk.injEq, DataW.agg.injEq] at hx1
  have hg : (xs.map (·.1))[i]? = some (.lit (.int .u64 (L.getD i 0))) := by
    rw [← hx1.1, List.getElem?_map, List.getElem?_eq_getElem hi, List.getD_eq_getElem?_getD, List.getElem?_eq_getElem hi]
    rfl
  rw [List.getElem?_map, List.getElem?_eq_getElem (by omega)] at hg
  rw [List.getElem?_eq_getElem (by omega)] at h0
  obtain ⟨k, e1, e2, _⟩ := DataW.trod_int Tryz.underlying104 h0
  rw [e2] at hg
  simp at hg
  rw [hg] at e1
  have := congrArg (fun l : List Value => l[0]?) e1
  simpa [List.getElem?_take, List.getElem?_drop] using this
theorem of_laid {W : World} (h : laidMetH Tryz.prog laidTabs W) : Glob W := by
  rw [MakeChecks.laidMetH_plain _ _ _ (by kernel_rfl)] at h
  obtain ⟨ps, ⟨g0, t0, cs0, f0, p0, q0, hg0, ht0, hv0, hd0, ⟨g1, t1, cs1, f1, p1, q1, hg1, ht1, hv1, hd1, _, _⟩, _⟩, _, _⟩ := h
  obtain rfl := Option.some.inj (gC.symm.trans hg0)
  obtain rfl := Option.some.inj (gS.symm.trans hg1)
  obtain rfl := Option.some.inj (tC.symm.trans ht0)
  obtain rfl := Option.some.inj (tS.symm.trans ht1)
  have h1 := table (L := constsL) Tryz.underlying191 hd0
  have h2 := table (L := startsL) Tryz.underlying159 hd1
  have k1 : ∀ i, i < 80 → W.cell? ⟨1, i, none⟩ = some (.int .u64 (constsL.getD i 0)) := fun i hi => by
    rw [World.var?_cell hg0 hv0 i, ← Array.getElem?_toList]
    exact h1 i hi
  have k2 : ∀ i, i < 8 → W.cell? ⟨0, i, none⟩ = some (.int .u64 (startsL.getD i 0)) := fun i hi => by
    rw [World.var?_cell hg1 hv1 i, ← Array.getElem?_toList]
    exact h2 i hi
  refine ⟨k2, k1, ?_, ?_⟩
  · have := k2 0 (by decide)
    unfold World.cell? at this
    by_cases hl : 0 < W.heap.size
    · exact hl
    · rw [Array.getElem?_eq_none (show W.heap.size ≤ 0 by omega)] at this; cases this
  · have := k1 0 (by decide)
    unfold World.cell? at this
    by_cases hl : 1 < W.heap.size
    · exact hl
    · rw [Array.getElem?_eq_none (show W.heap.size ≤ 1 by omega)] at this; cases this
end Go.Proofs.YtfpfnolpoklefaaGreatDoor.Sh
/- Contracts of package disk: Bytes. -/
namespace Go.Proofs.YtfpfnolpoklefaaGreatDoor.Dk
open Go.RowKit Go.Proofs.YtfpfnolpoklefaaGreatDoorW.PrintWords Go.Proofs.YtfpfnolpoklefaaGreatDoorW.PrintLast Go.Proofs.YtfpfnolpoklefaaGreatDoorW.PrintMore
set_option linter.unusedVariables false
set_option linter.unusedSimpArgs false
set_option maxRecDepth 30000
variable {w : World} {B g : Nat} {F : Nat → Prop} {D : DM} {vs vh vc : Value}
/-- What Bytes tells, the first n sectors seen. -/
def bytesTo (sec : List (List Int)) : Nat → List Int
  | 0 => []
  | n + 1 => bytesTo sec n ++ sec.getD n []
def bytesM (D : DM) : List Int := bytesTo D.sec D.sec.length
theorem bytesTo_length {sec : List (List Int)} (hh : ∀ i, i < sec.length → (sec.getD i []).length = 64) : ∀ n, n ≤ sec.length → (bytesTo sec n).length = n * 64
  | 0, _ => rfl
  | n + 1, hn => by
    rw [bytesTo, List.length_append, bytesTo_length hh n (by omega), hh n (by omega)]
    omega
theorem make_empty (cap : Nat) (hc : cap ≤ 100000000000) (w : World) : (Instr.makeSlice 22 (.int .i64 0) (.int .i64 (cap : Int))).run Tryz.prog w = .ok (.slice (some ⟨w.heap.size, 0, none⟩) 0 cap) (w.alloc (.cells (madeCells #[.int .u8 0] cap) 5)) := by
  obtain ⟨i0, hi, hzz⟩ := Option.map_eq_some_iff.1 info5
  simp only [Prod.mk.injEq] at hzz
  obtain ⟨hz0, hz1, hz2⟩ := hzz
  have hr := run_make (P := Tryz.prog) w 22 5 i0 (.int .u8 0) Tryz.underlying22 hi hz0 .i64 .i64 0 (cap : Int) (by omega) (by omega) (by rw [hz2]; omega) (by omega)
  rw [hz1] at hr
  simpa [Value.cells] using hr
theorem R_empty (cap : Nat) (hc : cap ≤ 100000000000) (w : World) (base : Nat) (ok : Nat → Prop) (hb : base ≤ w.heap.size) (hok : ok w.heap.size) : Kd.R (Kd.int .u8) 5 (w.alloc (.cells (madeCells #[.int .u8 0] cap) 5)) base ok (.slice (some ⟨w.heap.size, 0, none⟩) 0 cap) [] := by
  refine ⟨fun k hk => ?_, [], ⟨by simp, .inr ⟨w.heap.size, cap, madeCells #[.int .u8 0] cap, rfl, hb, heap_alloc_new w _, Nat.zero_le _, by simp only [maxLen]; omega, by simp [size_madeCells, Kd.int, Kd.scalar], by simp⟩⟩, Reps.none _ _⟩
  simp [Value.ownBlock] at hk
  rw [← hk]
  exact hok
/-- A block of bytes, as what is read. -/
theorem C_block {w : World} {g : Nat} {x : List Int} {e : TypeId} {m : Nat × Nat} (h : w.heap[g]? = some (.cells (nums .u8 x).toArray e m)) (hx : x.length ≤ 1000000) : Kd.C (Kd.int .u8) w (some ⟨g, 0, none⟩) x.length x := by
  refine ⟨rfl, by omega, fun _ => ⟨_, rfl, fun j p hj => ⟨[.int .u8 p], rfl, rfl, fun i u hu => ?_⟩⟩⟩
  cases i with
  | succ i => simp at hu
  | zero =>
    simp only [List.getElem?_cons_zero, Option.some.injEq] at hu
    subst hu
    rw [add0, World.cell?, h]
    simp [nums, Kd.int, Kd.scalar, hj]
set_option maxHeartbeats 8000000 in
theorem Bytes_calls (h : DAt w B g F D vs vh vc) (hok : DOk D) :
    Calls Tryz.prog 20 #[.pointer (some ⟨g, 0, none⟩)] w fun e w' => ∃ v, e = .returned v ∧ Kd.R (Kd.int .u8) 5 w' w.heap.size (fun k => w.heap.size ≤ k) v (bytesM D) ∧ Below w.heap.size w w' := by
  have H := Aside0.mk h
  have HOK := Aside0.mk hok
  obtain ⟨As, cs, rfl, hsl, _⟩ := Kd.R_reads h.sec
  have h0 := h.c0
  have hn1 := hok.n1
  have hM : (Instr.makeSlice 22 (.int .i64 0) (.int .i64 ((D.sec.length : Int) * 64))).run Tryz.prog w = .ok (.slice (some ⟨w.heap.size, 0, none⟩) 0 (D.sec.length * 64)) (w.alloc (.cells (madeCells #[.int .u8 0] (D.sec.length * 64)) 5)) := by
    have := make_empty (D.sec.length * 64) (by omega) w
    rwa [Int.natCast_mul] at this
  have HRE := Aside0.mk (R_empty (D.sec.length * 64) (by omega) w w.heap.size (fun k => w.heap.size ≤ k) (Nat.le_refl _) (Nat.le_refl _))
  have HB0 := Aside0.mk (below_alloc (Below.refl w.heap.size w) (.cells (madeCells #[.int .u8 0] (D.sec.length * 64)) 5))
  have h01 : (w.alloc (.cells (madeCells #[.int .u8 0] (D.sec.length * 64)) 5)).cell? ⟨g, 0, none⟩ = some (.slice As D.sec.length cs) := (H.out.below HB0.out).c0
  clear h hok
  go_enter Tryz.func20, Tryz.ntmps20
  go_wp2
  go_loopw [3, 5, 20] (fun v3 v5 v20 w' => ∃ i : Nat, v20 = .int .i64 i ∧ i ≤ D.sec.length ∧ Aside0 (Kd.R (Kd.int .u8) 5 w' w.heap.size (fun k => w.heap.size ≤ k) v3 (bytesTo D.sec i)) ∧ Aside0 (Below w.heap.size w w')) (fun _ _ v20 _ => D.sec.length - (intOf v20).toNat)
  case atStart => exact ⟨0, rfl, Nat.zero_le _, HRE, HB0⟩
  case round =>
    obtain ⟨i, rfl, hi, HR, HV⟩ := hrel
    clear h0 h01 hM
    have hn1 := HOK.out.n1
    by_cases hlt : i < D.sec.length
    · have HD := Aside0.mk (H.out.below HV.out)
      obtain ⟨gs, hAs, h64, hls⟩ := sec_load HD.out.sec i hlt
      obtain ⟨s0, hs0⟩ : ∃ s0, s0 = D.sec.getD i [] := ⟨_, rfl⟩
      rw [← hs0] at hls h64
      subst hAs
      have HLS := Aside0.mk hls
      have HST := Aside0.mk (run_storeAt_new (P := Tryz.prog) wr 75 zs64 (nums .u8 s0).toArray (by simp only [List.size_toArray, nums_length, h64]; exact size64) (by simp [zs64_size, nums_length, h64]) (nums_one s0))
      have HW := Aside0.mk (heap_alloc_new wr (.cells (nums .u8 s0).toArray 75))
      have HC := C_block HW.out (by omega)
      rw [h64] at HC
      have HC' := Aside0.mk HC
      have HBW := Aside0.mk (below_alloc HV.out (.cells (nums .u8 s0).toArray 75))
      have HRW := Aside0.mk (Kd.R_below HR.out (below_alloc (Below.refl wr.heap.size wr) (.cells (nums .u8 s0).toArray 75)))
      have HL := Aside0.mk (bytesTo_length (sec := D.sec) (fun j hj => (sec_load HD.out.sec j hj).elim fun _ h => h.2.1) i hi)
      have HP := Aside0.mk (show bytesTo D.sec (i + 1) = bytesTo D.sec i ++ s0 by rw [bytesTo, hs0])
      have hvs := HV.out.size
      clear hls h64 hs0 HC
      go_wp2_with (first | (refine load_at (ty := 75) (.tmp 22) rfl rfl HLS.out rfl ?_) | (refine wpList_alloc rfl rfl _ rfl zs64 (run_alloc64 _) ?_) | (refine store_at (ty := 75) (.tmp 5) (.tmp 23) rfl rfl rfl HST.out rfl rfl ?_) | ((with_reducible refine gate_builtin (b := .append) (xs := #[.tmp 24, .tmp 25]) rfl ?_); at_builtin; refine Kd.R_append_rows (Kd.int .u8) (Rr := (Kd.int .u8).K wr) (w0 := w) w.heap.size rfl (.tmp 24) (.tmp 25) 22 5 (.int .u8 0) 1 rfl Tryz.underlying22 info5 rfl (by decide) (by omega) _ (bytesTo D.sec i) s0 (some ⟨wr.heap.size, 0, none⟩) 64 64 (fun k => w.heap.size ≤ k) (fun _ => False) rfl rfl HRW.out HC'.out (fun _ _ h => h) (fun _ h => h.elim) (fun _ h => Nat.le_trans HBW.out.size h) HBW.out HBW.out.size ?aL ?_; (case aL => rw [HL.out]; omega); intro v1 w1 hr1 hb1 hg1 _; have HR1 := Aside0.mk hr1; have HB1 := Aside0.mk hb1; clear hr1 hb1 hg1))
      go_roundw
      case rel => exact ⟨i + 1, by go_num, by omega, ⟨by rw [HP.out]; exact HR1.out⟩, HB1⟩
      case measure => simp [intOf]; omega
    · obtain rfl : i = D.sec.length := by omega
      go_wp2
      go_ret
      exact ⟨_, rfl, HR.out, HV.out⟩
end Go.Proofs.YtfpfnolpoklefaaGreatDoor.Dk
/- Steps of a walk by hand: each is tried under reducible transparency alone, so that it fails at once where it does not fit. -/
namespace Go.Proofs.YtfpfnolpoklefaaGreatDoor.Dk
open Go.RowKit Go.Proofs.YtfpfnolpoklefaaGreatDoorW.PrintWords Go.Proofs.YtfpfnolpoklefaaGreatDoorW.PrintLast Go.Proofs.YtfpfnolpoklefaaGreatDoorW.PrintMore
set_option linter.unusedVariables false
section
variable {P : Program} {ops : Array Oper} {o : Oper} {rest : List Oper} {a : Act} {w w1 : World} {Q : Exit → Act → World → Prop}
theorem alloc_at {e : TypeId} {cs : Array Value} (hg : o.guard = none) (ho : o.op = .alloc e) (hrun : (Instr.alloc e true (.tuple #[])).run P w = .ok (.pointer (some ⟨w.heap.size, 0, none⟩)) (w.alloc (.cells cs e)))
    (h : wpList P ops Q rest (a.put o.dst (.pointer (some ⟨w.heap.size, 0, none⟩))) (w.alloc (.cells cs e))) : wpList P ops Q (o :: rest) a w := wpList_alloc hg ho _ rfl cs hrun h
theorem build_at {t : TypeId} {parts : Array (Nat × Operand)} {args : Array (Nat × Value)} {v : Value} (hg : o.guard = none) (ho : o.op = .build t parts) (hrun : ∀ w, (Instr.build t args).run P w = .ok v w) (he : parts.map (fun x => (x.1, a.eval x.2)) = args)
    (h : wpList P ops Q rest (a.put o.dst v) w) : wpList P ops Q (o :: rest) a w := by
  refine wpList_plain hg fun K hK => ?_
  have he : (execOp a.eval o).run P w = .ok (.value v) w := by
    subst he
    unfold execOp
    simp [ho, hrun]
  unfold Oper.wp
  rw [he, Oper.upon_value]
  exact hK _ _ h
theorem copy_at {s x : Operand} {t t' : TypeId} {vs vx v : Value} (hg : o.guard = none) (ho : o.op = .call { callee := .builtin .copy, args := #[s, x], argTypes := #[t, t'] }) (hr : ∀ ty, (Builtin.copy_ #[t, t'] ty #[vs, vx]).run P w = .ok v w1) (hs : a.eval s = vs) (hx : a.eval x = vx)
    (h : wpList P ops Q rest (a.put o.dst v) w1) : wpList P ops Q (o :: rest) a w := by
  refine wpList_plain hg fun K hK => ?_
  unfold Oper.wp execOp
  simp only [ho, resolve, invoke, builtin, Sem.run_bind, Sem.run_pure, Result.andThen_ok, List.map_toArray, List.map_cons, List.map_nil, hs, hx, hr]
  exact hK _ _ h
theorem make_at {t : TypeId} {x y : Operand} {n c v : Value} (hg : o.guard = none) (ho : o.op = .makeSlice t x y) (hrun : (Instr.makeSlice t n c).run P w = .ok v w1) (hx : a.eval x = n) (hy : a.eval y = c)
    (h : wpList P ops Q rest (a.put o.dst v) w1) : wpList P ops Q (o :: rest) a w := by
  refine wpList_plain hg fun K hK => ?_
  have he : (execOp a.eval o).run P w = .ok (.value v) w1 := by
    subst hx
    subst hy
    unfold execOp
    simp [ho, hrun]
  unfold Oper.wp
  rw [he, Oper.upon_value]
  exact hK _ _ h
theorem index_at {t : TypeId} {x y : Operand} {p n v : Value} (hg : o.guard = none) (ho : o.op = .index t x y) (hrun : (Instr.index t p n).run P w = .ok v w) (hx : a.eval x = p) (hy : a.eval y = n)
    (h : wpList P ops Q rest (a.put o.dst v) w) : wpList P ops Q (o :: rest) a w := by
  refine wpList_plain hg fun K hK => ?_
  have he : (execOp a.eval o).run P w = .ok (.value v) w := by
    subst hx
    subst hy
    unfold execOp
    simp [ho, hrun]
  unfold Oper.wp
  rw [he, Oper.upon_value]
  exact hK _ _ h
end
theorem exec_make {P : Program} {ρ : Operand → Value} {o : Oper} {t : TypeId} {x y : Operand} {n c v : Value} {w w1 : World} (ho : o.op = .makeSlice t x y) (hx : ρ x = n) (hy : ρ y = c) (hrun : (Instr.makeSlice t n c).run P w = .ok v w1) : (execOp ρ o).run P w = .ok (.value v) w1 := by
  subst hx; subst hy
  unfold execOp
  simp [ho, hrun]
/-- An element of an array by value. -/
theorem run_index_row {P : Program} (w : World) (t e : TypeId) (k : IntKind) (n : Nat) (cs : Array Value) (i : Nat) (v : Value) (h : P.underlying t = some (.array n e)) (he : P.underlying e = some (.int k)) (hi : i < n) (hc : cs[i]? = some v) (hs : (P.info? e).map (·.size) = some 1) : (Instr.index t (.agg cs) (.int .i64 i)).run P w = .ok v w := by
  have hn : (0 ≤ (i : Int) ∧ (i : Int) < (n : Int)) := by omega
  obtain ⟨ie, hie, hs1⟩ := Option.map_eq_some_iff.1 hs
  have ha : (isAgg e).run P w = .ok false w := by
    unfold isAgg
    simp [run_underlying he]
  have hz : (sizeOf e).run P w = .ok 1 w := by simp [sizeOf, typeInfo, hie, hs1]
  simp [Instr.index, run_underlying h, asIntOf, hn, go_sem, ha, hz, hc, hi]
end Go.Proofs.YtfpfnolpoklefaaGreatDoor.Dk
/- Rows of bytes of one's own: what append, make, copy and a store leave. -/
namespace Go.Proofs.YtfpfnolpoklefaaGreatDoor.Dk
open Go.RowKit Go.Proofs.YtfpfnolpoklefaaGreatDoorW.PrintWords Go.Proofs.YtfpfnolpoklefaaGreatDoorW.PrintLast Go.Proofs.YtfpfnolpoklefaaGreatDoorW.PrintMore
set_option linter.unusedVariables false
/-- A row of bytes in a block from q on (or none). -/
def Row8 (w : World) (q : Nat) (v : Value) (xs : List Int) : Prop := Kd.R (Kd.int .u8) 5 w q (fun k => q ≤ k) v xs
abbrev C8 (w : World) (A : Option Addr) (xs : List Int) : Prop := Kd.C (Kd.int .u8) w A xs.length xs
section
variable {w w1 : World} {q g : Nat} {v : Value} {xs ys : List Int} {A : Option Addr} {n c : Nat}
theorem Row8.nil (w : World) (q : Nat) : Row8 w q (.slice none 0 0) [] := Kd.R_nil _ _ _ _ _
theorem Row8.below (h : Row8 w q v xs) (hb : Below w.heap.size w w1) : Row8 w1 q v xs := Kd.R_below h hb
theorem Row8.lower {p : Nat} (h : Row8 w q v xs) (hq : p ≤ q) : Row8 w p v xs := Kd.R_mono (Kd.R_lower h hq) (fun _ h => Nat.le_trans hq h)
theorem Row8.type {cs : Array Value} {t : Nat} (h : Row8 w q v xs) (hb : w.heap[g]? = some (.cells cs t (0, 0))) (ht : 5 ≠ t) (hu : Upd w w1 (· = g)) : Row8 w1 q v xs :=
  Kd.R_mono (Kd.R_kept (Kd.R_types h hb (by simpa [Kd.int, Kd.scalar] using ht)) hu.kept (fun k hk => hk.2)) (fun k hk => hk.1)
theorem Row8.reads (h : Row8 w q v xs) : ∃ A c, v = .slice A xs.length c ∧ xs.length ≤ c ∧ C8 w A xs := Kd.R_reads h
theorem Row8.C (h : Row8 w q (.slice A n c) xs) : n = xs.length ∧ n ≤ c ∧ C8 w A xs := Kd.R_reads' h
theorem Row8.take {m : Nat} (h : Row8 w q (.slice A n c) xs) (hm : m ≤ xs.length) : Row8 w q (.slice A m c) (xs.take m) := Kd.R_take h hm
theorem Row8.own (h : Row8 w q v xs) : ∀ k, v.ownBlock = some k → q ≤ k ∧ k < w.heap.size := fun k hk => ⟨h.1 k hk, Kd.R_lt h k hk⟩
theorem Row8.form (h : Row8 w q v xs) (hp : 0 < xs.length) : ∃ g c, v = .slice (some ⟨g, 0, none⟩) xs.length c ∧ q ≤ g ∧ g < w.heap.size ∧ xs.length ≤ c ∧ (∃ cells, w.heap[g]? = some (.cells cells 5 (0, 0))) ∧ ∀ j, j < xs.length → w.cell? ⟨g, j, none⟩ = some (.int .u8 (xs.getD j 0)) := by
  obtain ⟨g, c, rfl, h1, h2, h3⟩ := Kd.R_form h hp
  refine ⟨g, c, rfl, h1, h2, (Kd.R_reads' h).2.1, h3, fun j hj => ?_⟩
  obtain ⟨ad, c', e, hsz, hK, hx⟩ := Kd.C_get (Kd.R_reads' h).2.2 0 (j : Int) (by omega) (by show (j : Int) < (xs.length : Int); omega)
  injection e with e
  subst e
  have := hx 0 (.int .u8 (xs.getD j 0)) (by rw [hK, Int.toNat_natCast]; rfl)
  rw [add0] at this
  simpa [Kd.int, Kd.scalar] using this
theorem Row8.celln (h : Row8 w q (.slice (some ⟨g, 0, none⟩) n c) xs) {i : Nat} (hi : i < xs.length) : w.cell? ⟨g, i, none⟩ = some (.int .u8 (xs.getD i 0)) ∧ w.frozen? ⟨g, i, none⟩ = false := by
  obtain ⟨rfl, _⟩ := Kd.R_reads' h
  obtain ⟨g', c', e, _, _, _, ⟨cells, hb⟩, h1⟩ := Row8.form h (by omega)
  injection e with e
  injection e with e
  injection e with e
  subst e
  exact ⟨h1 i hi, blk_frozen hb i⟩
theorem Row8.put (h : Row8 w q (.slice (some ⟨g, 0, none⟩) n c) xs) (i : Nat) (x : Int) : Row8 (w.setCell ⟨g, i, none⟩ (.int .u8 x)) q (.slice (some ⟨g, 0, none⟩) n c) (xs.set i x) := by
  have := Kd.R_putn (enc := fun x : Int => Value.int .u8 x) (h1 := fun _ => rfl) h (i : Int) x
  simp only [Int.toNat_natCast] at this
  exact this
/-- A row of bytes whose block is younger than w0. -/
structure Fr8 (w0 w : World) (A : Option Addr) (xs : List Int) : Prop where
  C : C8 w A xs
  own : ∀ a, A = some a → w0.heap.size ≤ a.block ∧ a.block < w.heap.size
  row : ∃ c, Row8 w w0.heap.size (.slice A xs.length c) xs
theorem Fr8.nil (w0 w : World) : Fr8 w0 w none [] := ⟨Kd.C_nil _ _, fun _ h => (by cases h), 0, Row8.nil _ _⟩
theorem Fr8.below {w0 : World} (h : Fr8 w0 w A xs) (hb : Below w.heap.size w w1) : Fr8 w0 w1 A xs := ⟨Kd.C_below h.C hb, fun a ha => ⟨(h.own a ha).1, Nat.lt_of_lt_of_le (h.own a ha).2 hb.size⟩, h.row.imp fun c hr => hr.below hb⟩
theorem Fr8.elder {w0 w00 : World} (h : Fr8 w0 w A xs) (hb : w00.heap.size ≤ w0.heap.size) : Fr8 w00 w A xs := ⟨h.C, fun a ha => ⟨Nat.le_trans hb (h.own a ha).1, (h.own a ha).2⟩, h.row.imp fun c hr => hr.lower hb⟩
theorem C8.upd {G : Nat → Prop} (h : C8 w A xs) (hu : Upd w w1 G) (hd : ∀ a, A = some a → a.block < w.heap.size ∧ ¬ G a.block) : C8 w1 A xs := by
  obtain ⟨h1, h2, h3⟩ := h
  refine ⟨h1, h2, fun hp => ?_⟩
  obtain ⟨ad, hA, hc⟩ := h3 hp
  refine ⟨ad, hA, fun j p hj => ?_⟩
  obtain ⟨c, e1, e2, e3⟩ := hc j p hj
  refine ⟨c, e1, e2, fun i u hi => ?_⟩
  have := hu.block ad.block (hd ad hA).1 (hd ad hA).2
  rw [← e3 i u hi]
  unfold World.cell?
  rw [show (ad.add (j * (Kd.int .u8).sz + i)).block = ad.block by unfold Addr.add; split <;> rfl, this]
theorem C8.take (h : C8 w A xs) {m : Nat} (hm : m ≤ xs.length) : C8 w A (xs.take m) := Kd.C_take h hm
end
section
variable {P : Program} {ops : Array Oper} {o : Oper} {rest : List Oper} {a : Act} {W : World} {Q : Exit → Act → World → Prop} {q : Nat}
theorem app8 (hi5 : (P.info? 5).map (fun i => (i.zero, i.size, i.bytes)) = some (some (.int .u8 0), 1, 1)) (h22 : P.underlying 22 = some (.slice 5)) (hgd : o.guard = none) (s x : Operand) (ho : o.op = .call { callee := .builtin .append, args := #[s, x], argTypes := #[22, 22] }) (v : Value) (xs ys : List Int) (A : Option Addr) (m c : Nat)
    (hs : a.eval s = v) (hx : a.eval x = .slice A m c) (HO : Row8 W q v xs) (HC : Kd.C (Kd.int .u8) W A m ys) (hq : q ≤ W.heap.size) (hl : xs.length + m ≤ 1000000000)
    (h : ∀ A1 c1 w1, Row8 w1 q (.slice A1 (xs ++ ys).length c1) (xs ++ ys) → Below q W w1 → W.grownBy w1 v.ownBlock → wpList P ops Q rest (a.put o.dst (.slice A1 (xs ++ ys).length c1)) w1) : wpList P ops Q (o :: rest) a W := by
  refine Kd.R_append_rows (Kd.int .u8) (Rr := (Kd.int .u8).K W) (w0 := W) q hgd s x 22 5 (.int .u8 0) 1 ho h22 hi5 rfl (by decide) (by omega) v xs ys A m c (fun k => q ≤ k) (fun _ => False) hs hx HO HC (fun _ _ h => h) (fun _ h => h.elim) (fun _ h => Nat.le_trans hq h) (Below.refl _ _) hq (by omega) ?_
  intro v1 w1 hr hb hg _
  obtain ⟨A1, c1, rfl⟩ := Kd.R_slice hr
  exact h A1 c1 w1 hr hb hg
theorem app8_step {Kc : Act → World → Prop} (hi5 : (P.info? 5).map (fun i => (i.zero, i.size, i.bytes)) = some (some (.int .u8 0), 1, 1)) (h22 : P.underlying 22 = some (.slice 5)) (hw : Region.wanted o (yielded ops a.tmps) = true) {N : Option Tmp} (hN : o.dst = N) (s x : Operand) (ho : o.op = .call { callee := .builtin .append, args := #[s, x], argTypes := #[22, 22] }) (v : Value) (xs ys : List Int) (A : Option Addr) (m c : Nat)
    (hs : a.eval s = v) (hx : a.eval x = .slice A m c) (HO : Row8 W q v xs) (HC : Kd.C (Kd.int .u8) W A m ys) (hq : q ≤ W.heap.size) (hl : xs.length + m ≤ 1000000000)
    (h : ∀ A1 c1 w1, Row8 w1 q (.slice A1 (xs ++ ys).length c1) (xs ++ ys) → Below q W w1 → W.grownBy w1 v.ownBlock → Kc (a.put N (.slice A1 (xs ++ ys).length c1)) w1) : if Region.wanted o (yielded ops a.tmps) = true then Oper.wp P o a W Kc Q else Kc (a.put N undef) W := by
  subst hN
  refine Kd.R_append_rows_step (Kd.int .u8) (Rr := (Kd.int .u8).K W) (w0 := W) q hw s x 22 5 (.int .u8 0) 1 ho h22 hi5 rfl (by decide) (by omega) v xs ys A m c (fun k => q ≤ k) (fun _ => False) hs hx HO HC (fun _ _ h => h) (fun _ h => h.elim) (fun _ h => Nat.le_trans hq h) (Below.refl _ _) hq (by omega) ?_
  intro v1 w1 hr hb hg _
  obtain ⟨A1, c1, rfl⟩ := Kd.R_slice hr
  exact h A1 c1 w1 hr hb hg
theorem run_make8 (hi5 : (P.info? 5).map (fun i => (i.zero, i.size, i.bytes)) = some (some (.int .u8 0), 1, 1)) (h22 : P.underlying 22 = some (.slice 5)) (W : World) (n c : Nat) (hnc : n ≤ c) (hc : c ≤ 1000000000) :
    ∃ A w1, (Instr.makeSlice 22 (.int .i64 n) (.int .i64 c)).run P W = .ok (.slice A n c) w1 ∧ Row8 w1 W.heap.size (.slice A n c) (List.replicate n 0) ∧ Below W.heap.size W w1 := by
  obtain ⟨i0, hi, hzz⟩ := Option.map_eq_some_iff.1 hi5
  simp only [Prod.mk.injEq] at hzz
  obtain ⟨hz0, hz1, hz2⟩ := hzz
  have hr := run_make (P := P) (w := W) 22 5 i0 _ h22 hi hz0 .i64 .i64 (n : Int) (c : Int) (by omega) (by omega) (by rw [hz2]; omega) (by omega)
  simp only [Int.toNat_natCast, hz1, Nat.mul_one] at hr
  refine ⟨_, _, hr, ?_, below_alloc (Below.refl _ _) _⟩
  have hm : madeCells (Value.int .u8 0).cells c = (nums .u8 (List.replicate c 0)).toArray := by
    apply Array.ext_getElem?
    intro k
    simp only [madeCells, nums, Value.cells]
    by_cases hk : k < c
    · simp [hk, Nat.mod_one]
    · simp [hk]
  rw [hm]
  have h0 : Row8 (W.alloc (.cells (nums .u8 (List.replicate c 0)).toArray 5)) W.heap.size (.slice (some ⟨W.heap.size, 0, none⟩) c c) (List.replicate c 0) := by
    have ho : (W.alloc (.cells (nums .u8 (List.replicate c 0)).toArray 5)).ownsRow W.heap.size 5 1 (.slice (some ⟨W.heap.size, 0, none⟩) c c) c (nums .u8 (List.replicate c 0)) := by
      refine ⟨by simp [nums_length], .inr ⟨W.heap.size, c, (nums .u8 (List.replicate c 0)).toArray, rfl, Nat.le_refl _, heap_alloc_new _ _, Nat.le_refl _, by unfold maxLen; omega, by simp [nums_length], by simp [nums]⟩⟩
    have hl : (List.replicate c (0 : Int)).length = c := by simp
    rw [← hl] at ho
    have := Kd.R_of_own (enc := fun x : Int => Value.int .u8 x) (h1 := fun _ => rfl) (ok := fun k => W.heap.size ≤ k) (xs := List.replicate c (0 : Int)) (v := .slice (some ⟨W.heap.size, 0, none⟩) c c) (by rw [hl] at ho ⊢; exact ho) (fun k hk => by simp only [Value.ownBlock, Option.some.injEq] at hk; omega)
    exact this
  have := h0.take (m := n) (by simpa using hnc)
  rwa [List.take_replicate, Nat.min_eq_left hnc] at this
end
end Go.Proofs.YtfpfnolpoklefaaGreatDoor.Dk
/- Contracts of package disk: Copy. -/
namespace Go.Proofs.YtfpfnolpoklefaaGreatDoor.Dk
open Go.RowKit Go.Proofs.YtfpfnolpoklefaaGreatDoorW.PrintWords Go.Proofs.YtfpfnolpoklefaaGreatDoorW.PrintLast Go.Proofs.YtfpfnolpoklefaaGreatDoorW.PrintMore
set_option linter.unusedVariables false
set_option linter.unusedSimpArgs false
set_option maxRecDepth 30000
def zs60 : Array Value := #[.slice none 0 0, .slice none 0 0, .bool false, .int .i64 0, .int .i64 0, .bool false, .slice none 0 0]
attribute [irreducible] zs60
variable {w W W1 : World} {B g N : Nat} {F : Nat → Prop} {D : DM} {vs vh vc : Value}
theorem blk_grown {cs : Array Value} (hb : W.heap[g]? = some (.cells cs 73 (0, 0))) (hg : W.grownBy W1 none) : W1.heap[g]? = some (.cells cs 73 (0, 0)) := (hg.block g (blk_lt hb) (by simp)).trans hb
end Go.Proofs.YtfpfnolpoklefaaGreatDoor.Dk
/- Contracts of package disk: need, span. -/
namespace Go.Proofs.YtfpfnolpoklefaaGreatDoor.Dk
open Go.RowKit Go.Proofs.YtfpfnolpoklefaaGreatDoorW.PrintWords Go.Proofs.YtfpfnolpoklefaaGreatDoorW.PrintLast Go.Proofs.YtfpfnolpoklefaaGreatDoorW.PrintMore
set_option linter.unusedVariables false
set_option linter.unusedSimpArgs false
set_option maxRecDepth 30000
variable {w W W1 : World} {B g N : Nat} {F : Nat → Prop} {D : DM} {vs vh vc : Value}
def needM (n : Int) : Int := if 0 < n.tmod 64 then n.tdiv 64 + 1 else n.tdiv 64
theorem tdiv_le (n : Int) (h1 : -9223372036854775808 ≤ n) (h2 : n ≤ 9223372036854775807) : -144115188075855872 ≤ n.tdiv 64 ∧ n.tdiv 64 ≤ 144115188075855871 := by
  rcases Int.lt_or_le n 0 with h | h
  · have : n.tdiv 64 = -((-n).tdiv 64) := by rw [Int.neg_tdiv, Int.neg_neg]
    rw [this, Int.tdiv_eq_ediv_of_nonneg (by omega)]
    omega
  · rw [Int.tdiv_eq_ediv_of_nonneg h]
    omega
set_option maxHeartbeats 2000000 in
theorem need_calls (n : Int) (h1 : -9223372036854775808 ≤ n) (h2 : n ≤ 9223372036854775807) : Calls Tryz.prog 42 #[.int .i64 n] w fun e w' => e = .returned (.int .i64 (needM n)) ∧ w = w' := by
  obtain ⟨t1, t2⟩ := tdiv_le n h1 h2
  by_cases hr : 0 < n.tmod 64
  · have hq := Lib.hid (show needM n = n.tdiv 64 + 1 by simp [needM, hr])
    go_enter Tryz.func42, Tryz.ntmps42
    go_wp2
    go_ret
    exact ⟨by rw [hq.out] <;> rfl, rfl⟩
  · have hq := Lib.hid (show needM n = n.tdiv 64 by simp [needM, hr])
    go_enter Tryz.func42, Tryz.ntmps42
    go_wp2
    go_ret
    exact ⟨by rw [hq.out] <;> rfl, rfl⟩
def spanM (D : DM) (k n : Int) : Int := if D.down = true then 60 else if k < 0 ∨ (D.sec.length : Int) < k ∨ (D.sec.length : Int) - k < needM n then 61 else 0
set_option maxHeartbeats 8000000 in
theorem span_calls (h : DAt w B g F D vs vh vc) (hok : DOk D) (k n : Int) (h1 : -9223372036854775808 ≤ n) (h2 : n ≤ 9223372036854775807) :
    Calls Tryz.prog 41 #[.pointer (some ⟨g, 0, none⟩), .int .i64 k, .int .i64 n] w fun e w' => e = .returned (.int .i64 (spanM D k n)) ∧ ∃ m, w' = w.drewN m := by
  have H := Aside0.mk h
  have N1 := Aside0.mk h1
  have N2 := Aside0.mk h2
  obtain ⟨As, cs, rfl, hsl, _⟩ := Kd.R_reads h.sec
  have h0 := h.c0
  have hn1 := hok.n1
  clear h hok h1 h2 hsl
  cases hd : D.down with
  | true =>
    have hq := Lib.hid (show spanM D k n = 60 by simp [spanM, hd])
    have hr := Lib.hid (show readyM D = 60 by simp [readyM, hd])
    clear hd
    go_enter Tryz.func41, Tryz.ntmps41
    go_wp2_with (first | (go_at_call 40; refine (ready_calls H.out).mono ?_; rintro e w' ⟨rfl, rfl⟩; rw [hr.out]))
    go_ret
    exact ⟨by rw [hq.out] <;> rfl, 0, rfl⟩
  | false =>
    have hr := Lib.hid (show readyM D = 0 by simp [readyM, hd])
    by_cases hk : k < 0
    · have hq := Lib.hid (show spanM D k n = 61 by simp [spanM, hd, hk])
      have tk : decide (k < 0) = true := decide_eq_true hk
      clear hd hk
      go_enter Tryz.func41, Tryz.ntmps41
      go_wp2_with (first | (go_at_call 40; refine (ready_calls H.out).mono ?_; rintro e w' ⟨rfl, rfl⟩; rw [hr.out]))
      refine start_ (n := 23) (S := fun w' => w'.cell? ⟨g, 0, none⟩ = some (.slice As D.sec.length cs)) (ds := []) (bz 23 0) (by kernel_rfl) rfl rfl (h0) (fun hHeld => ?_)
      refine pz 0 (some 13) (bz 23 1) ?_
      refine pz 1 (some 14) (bz 23 3) ?_
      refine pz 2 (some 15) (bz 23 7) ?_
      refine pu 3 (some 16) (bz 23 15) ?_
      refine pu 4 (some 17) (bz 23 31) ?_
      refine pu 5 (some 18) (bz 23 63) ?_
      refine pu 6 (some 19) (bz 23 127) ?_
      refine pu 7 (some 20) (bz 23 255) ?_
      refine pu 8 (some 21) (bz 23 511) ?_
      refine pu 9 (some 22) (bz 23 1023) ?_
      refine pz 10 (some 23) (bz 23 2047) ?_
      refine pz 11 (some 24) (bz 23 4095) ?_
      refine pu 12 (some 25) (bz 23 8191) ?_
      refine pu 13 (some 26) (bz 23 16383) ?_
      refine pu 14 (some 27) (bz 23 32767) ?_
      refine pu 15 (some 28) (bz 23 65535) ?_
      refine pu 16 (some 29) (bz 23 131071) ?_
      refine pu 17 (some 30) (bz 23 262143) ?_
      refine pu 18 (some 31) (bz 23 524287) ?_
      refine pu 19 (some 32) (bz 23 1048575) ?_
      refine pu 20 (some 33) (bz 23 2097151) ?_
      refine pu 21 (some 34) (bz 23 4194303) ?_
      refine pz 22 (some 35) (bz 23 8388607) ?_
      refine done_ (by kernel_rfl) ?_

      go_wp2
      go_ret
      exact ⟨by rw [hq.out] <;> rfl, 1, rfl⟩
    by_cases hk2 : (D.sec.length : Int) < k
    · have hq := Lib.hid (show spanM D k n = 61 by simp [spanM, hd, hk2])
      have tk : decide (k < 0) = false := decide_eq_false hk
      have tk2 : decide ((D.sec.length : Int) < k) = true := decide_eq_true hk2
      clear hd
      go_enter Tryz.func41, Tryz.ntmps41
      go_wp2_with (first | (go_at_call 40; refine (ready_calls H.out).mono ?_; rintro e w' ⟨rfl, rfl⟩; rw [hr.out]))
      refine start_ (n := 23) (S := fun w' => w'.cell? ⟨g, 0, none⟩ = some (.slice As D.sec.length cs)) (ds := []) (bz 23 0) (by kernel_rfl) rfl rfl (h0) (fun hHeld => ?_)
      refine pz 0 (some 13) (bz 23 1) ?_
      refine pz 1 (some 14) (bz 23 3) ?_
      refine pz 2 (some 15) (bz 23 7) ?_
      refine pz 3 (some 16) (bz 23 15) ?_
      refine pz 4 (some 17) (bz 23 31) ?_
      refine pz 5 (some 18) (bz 23 63) ?_
      refine pz 6 (some 19) (bz 23 127) ?_
      refine tz1 7 (some 20) (bz 23 255) hHeld ?_
      refine pz 8 (some 21) (bz 23 511) ?_
      refine pz 9 (some 22) (bz 23 1023) ?_
      refine pz 10 (some 23) (bz 23 2047) ?_
      refine pz 11 (some 24) (bz 23 4095) ?_
      refine pu 12 (some 25) (bz 23 8191) ?_
      refine pu 13 (some 26) (bz 23 16383) ?_
      refine pu 14 (some 27) (bz 23 32767) ?_
      refine pu 15 (some 28) (bz 23 65535) ?_
      refine pu 16 (some 29) (bz 23 131071) ?_
      refine pu 17 (some 30) (bz 23 262143) ?_
      refine pu 18 (some 31) (bz 23 524287) ?_
      refine pu 19 (some 32) (bz 23 1048575) ?_
      refine pu 20 (some 33) (bz 23 2097151) ?_
      refine pu 21 (some 34) (bz 23 4194303) ?_
      refine pz 22 (some 35) (bz 23 8388607) ?_
      refine done_ (by kernel_rfl) ?_

      go_wp2
      go_ret
      exact ⟨by rw [hq.out] <;> rfl, 1, rfl⟩
    by_cases hk3 : (D.sec.length : Int) - k < needM n
    · have hq := Lib.hid (show spanM D k n = 61 by simp [spanM, hd, hk3])
      have tk : decide (k < 0) = false := decide_eq_false hk
      have tk2 : decide ((D.sec.length : Int) < k) = false := decide_eq_false hk2
      have tk3 : decide (wrap64 ((D.sec.length : Int) - k) < needM n) = true := by rw [show wrap64 ((D.sec.length : Int) - k) = D.sec.length - k by simp only [wrap64]; omega]; exact decide_eq_true hk3
      clear hd hk3
      go_enter Tryz.func41, Tryz.ntmps41
      go_wp2_with (first | (go_at_call 40; refine (ready_calls H.out).mono ?_; rintro e w' ⟨rfl, rfl⟩; rw [hr.out]))
      refine start_ (n := 23) (S := fun w' => w'.cell? ⟨g, 0, none⟩ = some (.slice As D.sec.length cs)) (ds := []) (bz 23 0) (by kernel_rfl) rfl rfl (h0) (fun hHeld => ?_)
      refine pz 0 (some 13) (bz 23 1) ?_
      refine pz 1 (some 14) (bz 23 3) ?_
      refine pz 2 (some 15) (bz 23 7) ?_
      refine pz 3 (some 16) (bz 23 15) ?_
      refine pz 4 (some 17) (bz 23 31) ?_
      refine pz 5 (some 18) (bz 23 63) ?_
      refine pz 6 (some 19) (bz 23 127) ?_
      refine tz1 7 (some 20) (bz 23 255) hHeld ?_
      refine pz 8 (some 21) (bz 23 511) ?_
      refine pz 9 (some 22) (bz 23 1023) ?_
      refine pz 10 (some 23) (bz 23 2047) ?_
      refine pz 11 (some 24) (bz 23 4095) ?_
      refine pz 12 (some 25) (bz 23 8191) ?_
      refine pz 14 (some 27) (bz 23 24575) ?_
      refine pz 15 (some 28) (bz 23 57343) ?_
      refine pz 16 (some 29) (bz 23 122879) ?_
      refine pz 19 (some 32) (bz 23 647167) ?_
      refine tz1 17 (some 30) (bz 23 778239) hHeld ?_
      refine pz 18 (some 31) (bz 23 1040383) ?_
      refine pz 20 (some 33) (bz 23 2088959) ?_
      refine one_ (i := 13) (N := some 26) (bz 23 2097151) rfl rfl (by kernel_rfl) (by decide) (fun K hK => ?_)
      refine goes_ Tryz.func42 (by kernel_rfl) rfl #[.int .i64 n] (by rfl) rfl rfl (by simp only [List.map_toArray, List.map_cons, List.map_nil]; rfl) ?_
      with_reducible refine (need_calls (w := w.drew) n N1.out N2.out).mono ?_
      rintro e w3 ⟨rfl, rfl⟩
      refine ⟨_, rfl, ?_⟩
      refine hK.out _ _ (h0) (fun hHeld => ?_)
      clear hK K
      refine norm_ (a' := ?_) ?_ ?_
      rotate_left
      · show Act.put _ (some 26) _ = _
        simp only [Act.put, List.setIfInBounds_toArray, List.set_cons_zero, List.set_cons_succ, i64_w, i32_w]
        rfl
      refine pz 21 (some 34) (bz 23 4194303) ?_
      refine pz 22 (some 35) (bz 23 8388607) ?_
      refine done_ (by kernel_rfl) ?_

      go_wp2
      go_ret
      exact ⟨by rw [hq.out] <;> rfl, 1, rfl⟩
    · have hq := Lib.hid (show spanM D k n = 0 by simp [spanM, hd, hk, hk2, hk3])
      have tk : decide (k < 0) = false := decide_eq_false hk
      have tk2 : decide ((D.sec.length : Int) < k) = false := decide_eq_false hk2
      have tk3 : decide (wrap64 ((D.sec.length : Int) - k) < needM n) = false := by rw [show wrap64 ((D.sec.length : Int) - k) = D.sec.length - k by simp only [wrap64]; omega]; exact decide_eq_false hk3
      clear hd hk3
      go_enter Tryz.func41, Tryz.ntmps41
      go_wp2_with (first | (go_at_call 40; refine (ready_calls H.out).mono ?_; rintro e w' ⟨rfl, rfl⟩; rw [hr.out]))
      refine start_ (n := 23) (S := fun w' => w'.cell? ⟨g, 0, none⟩ = some (.slice As D.sec.length cs)) (ds := []) (bz 23 0) (by kernel_rfl) rfl rfl (h0) (fun hHeld => ?_)
      refine pz 0 (some 13) (bz 23 1) ?_
      refine pz 1 (some 14) (bz 23 3) ?_
      refine pz 2 (some 15) (bz 23 7) ?_
      refine pz 3 (some 16) (bz 23 15) ?_
      refine pz 4 (some 17) (bz 23 31) ?_
      refine pz 5 (some 18) (bz 23 63) ?_
      refine pz 6 (some 19) (bz 23 127) ?_
      refine tz1 7 (some 20) (bz 23 255) hHeld ?_
      refine pz 8 (some 21) (bz 23 511) ?_
      refine pz 9 (some 22) (bz 23 1023) ?_
      refine pz 10 (some 23) (bz 23 2047) ?_
      refine pz 11 (some 24) (bz 23 4095) ?_
      refine pz 12 (some 25) (bz 23 8191) ?_
      refine pz 14 (some 27) (bz 23 24575) ?_
      refine pz 15 (some 28) (bz 23 57343) ?_
      refine pz 16 (some 29) (bz 23 122879) ?_
      refine pz 19 (some 32) (bz 23 647167) ?_
      refine tz1 17 (some 30) (bz 23 778239) hHeld ?_
      refine pz 18 (some 31) (bz 23 1040383) ?_
      refine pz 20 (some 33) (bz 23 2088959) ?_
      refine one_ (i := 13) (N := some 26) (bz 23 2097151) rfl rfl (by kernel_rfl) (by decide) (fun K hK => ?_)
      refine goes_ Tryz.func42 (by kernel_rfl) rfl #[.int .i64 n] (by rfl) rfl rfl (by simp only [List.map_toArray, List.map_cons, List.map_nil]; rfl) ?_
      with_reducible refine (need_calls (w := w.drew) n N1.out N2.out).mono ?_
      rintro e w3 ⟨rfl, rfl⟩
      refine ⟨_, rfl, ?_⟩
      refine hK.out _ _ (h0) (fun hHeld => ?_)
      clear hK K
      refine norm_ (a' := ?_) ?_ ?_
      rotate_left
      · show Act.put _ (some 26) _ = _
        simp only [Act.put, List.setIfInBounds_toArray, List.set_cons_zero, List.set_cons_succ, i64_w, i32_w]
        rfl
      refine pz 21 (some 34) (bz 23 4194303) ?_
      refine pz 22 (some 35) (bz 23 8388607) ?_
      refine done_ (by kernel_rfl) ?_

      go_wp2
      go_ret
      exact ⟨by rw [hq.out] <;> rfl, 1, rfl⟩
end Go.Proofs.YtfpfnolpoklefaaGreatDoor.Dk
/- Contracts of package disk: Load. -/
namespace Go.Proofs.YtfpfnolpoklefaaGreatDoor.Dk
open Go.RowKit Go.Proofs.YtfpfnolpoklefaaGreatDoorW.PrintWords Go.Proofs.YtfpfnolpoklefaaGreatDoorW.PrintLast Go.Proofs.YtfpfnolpoklefaaGreatDoorW.PrintMore
set_option linter.unusedVariables false
set_option linter.unusedSimpArgs false
set_option maxRecDepth 30000
variable {w W W1 : World} {B g N : Nat} {F : Nat → Prop} {D : DM} {vs vh vc : Value}
def readsTo (D : DM) (k : Int) : Nat → List Int
  | 0 => []
  | i + 1 => readsTo D k i ++ readM D (k + i)
/-- Load's errno. -/
def loadE (D : DM) (k n : Int) : Int := if D.down = true then 60 else if n < 0 then 1 else spanM D k n
theorem need_nat (n0 : Nat) : needM n0 = ((n0 + 63) / 64 : Nat) := by
  unfold needM
  rw [Int.tmod_eq_emod_of_nonneg (by omega), Int.tdiv_eq_ediv_of_nonneg (by omega)]
  split <;> omega
theorem spanM_zero {k n : Int} (h : spanM D k n = 0) : D.down = false ∧ 0 ≤ k ∧ k ≤ (D.sec.length : Int) ∧ needM n ≤ (D.sec.length : Int) - k := by
  unfold spanM at h
  split at h
  · omega
  · rename_i hd
    split at h
    · omega
    · refine ⟨by simpa using hd, by omega, by omega, by omega⟩
theorem read_length (h : DAt w B g F D vs vh vc) (k : Int) (hk : atM D k = 0) : (readM D k).length = 64 := by
  obtain ⟨As, cs, rfl, hsl, _⟩ := Kd.R_reads h.sec
  obtain ⟨Ah, ch, rfl, hhl, _⟩ := Kd.R_reads h.held
  have hkb : 0 ≤ k ∧ k < (D.sec.length : Int) := by
    unfold atM at hk
    split at hk
    · omega
    · split at hk
      · omega
      · omega
  exact readTo_length ((sec_load h.sec k.toNat (by omega)).elim fun _ h => h.2.1) (fun j hj => (held_load h.held j hj).elim fun _ h => h.2.1) _ (Nat.le_refl _)
theorem readsTo_length (h : DAt w B g F D vs vh vc) (k : Int) (N : Nat) (hk : ∀ i : Nat, i < N → atM D (k + i) = 0) : ∀ i, i ≤ N → (readsTo D k i).length = i * 64
  | 0, _ => rfl
  | i + 1, hi => by
    rw [readsTo, List.length_append, readsTo_length h k N hk i (by omega), read_length h _ (hk i (by omega))]
    omega
set_option maxHeartbeats 8000000 in
theorem Load_fails (h : DAt w B g F D vs vh vc) (hok : DOk D) (k n : Int) (h1 : -9223372036854775808 ≤ n) (h2 : n ≤ 9223372036854775807) (he : loadE D k n ≠ 0) :
    Calls Tryz.prog 27 #[.pointer (some ⟨g, 0, none⟩), .int .i64 k, .int .i64 n] w fun e w' => e = .returned (.tuple #[.slice none 0 0, .int .i64 (loadE D k n)]) ∧ ∃ m, w' = w.drewN m := by
  have H := Aside0.mk h
  have HOK := Aside0.mk hok
  have N1 := Aside0.mk h1
  have N2 := Aside0.mk h2
  clear h hok h1 h2
  cases hd : D.down with
  | true =>
    have hq := Lib.hid (show loadE D k n = 60 by simp [loadE, hd])
    have hr := Lib.hid (show readyM D = 60 by simp [readyM, hd])
    clear hd he
    go_enter Tryz.func27, Tryz.ntmps27
    go_wp2_with (first | (go_at_call 40; refine (ready_calls H.out).mono ?_; rintro e w' ⟨rfl, rfl⟩; rw [hr.out]))
    refine bodyPost_ret (results_tmp2 rfl _ _ _) rfl ?_
    exact ⟨by rw [hq.out] <;> rfl, 0, rfl⟩
  | false =>
    have hr := Lib.hid (show readyM D = 0 by simp [readyM, hd])
    by_cases hn : n < 0
    · have hq := Lib.hid (show loadE D k n = 1 by simp [loadE, hd, hn])
      clear hd he
      go_enter Tryz.func27, Tryz.ntmps27
      go_wp2_with (first | (go_at_call 40; refine (ready_calls H.out).mono ?_; rintro e w' ⟨rfl, rfl⟩; rw [hr.out]))
      refine bodyPost_ret (results_tmp2 rfl _ _ _) rfl ?_
      exact ⟨by rw [hq.out] <;> rfl, 0, rfl⟩
    · have hq := Lib.hid (show loadE D k n = spanM D k n by simp [loadE, hd, hn])
      rw [hq.out] at he
      obtain ⟨q, hq0⟩ : ∃ q, spanM D k n = q := ⟨_, rfl⟩
      have HQ := Lib.hid hq0
      rw [hq0] at he
      clear hd hq0
      go_enter Tryz.func27, Tryz.ntmps27
      go_wp2_with (first | (go_at_call 40; refine (ready_calls H.out).mono ?_; rintro e w' ⟨rfl, rfl⟩; rw [hr.out]) | (go_at_call 41; refine (span_calls H.out HOK.out k n N1.out N2.out).mono ?_; rintro e w' ⟨rfl, m, rfl⟩; rw [HQ.out]))
      refine bodyPost_ret (results_tmp2 rfl _ _ _) rfl ?_
      exact ⟨by rw [hq.out, HQ.out] <;> rfl, _, rfl⟩
set_option maxHeartbeats 8000000 in
theorem Load_own (h : DAt w B g F D vs vh vc) (hok : DOk D) (k : Int) (n0 : Nat) (h2 : (n0 : Int) ≤ 9223372036854775807) (he : loadE D k n0 = 0) :
    Calls Tryz.prog 27 #[.pointer (some ⟨g, 0, none⟩), .int .i64 k, .int .i64 n0] w fun e w' => ∃ A, e = .returned (.tuple #[.slice A n0 n0, .int .i64 0]) ∧ Kd.C (Kd.int .u8) w' A n0 ((readsTo D k ((n0 + 63) / 64)).take n0) ∧ Below w.heap.size w w' ∧ (∀ a, A = some a → w.heap.size ≤ a.block ∧ a.block < w'.heap.size) ∧ ∃ c, Kd.R (Kd.int .u8) 5 w' w.heap.size (fun k => w.heap.size ≤ k) (.slice A n0 c) ((readsTo D k ((n0 + 63) / 64)).take n0) := by
  have H := Aside0.mk h
  have HOK := Aside0.mk hok
  have N2 := Aside0.mk h2
  have hd : D.down = false := by
    cases hd : D.down
    · rfl
    · simp [loadE, hd] at he
  have hsp : spanM D k n0 = 0 := by
    simp only [loadE, hd] at he
    rw [if_neg (by simp), if_neg (by omega)] at he
    exact he
  obtain ⟨_, hk0, hk1, hk2⟩ := spanM_zero hsp
  obtain ⟨k0, rfl⟩ : ∃ n : Nat, k = n := ⟨k.toNat, by omega⟩
  rw [need_nat] at hk2
  obtain ⟨M, hM⟩ : ∃ M, M = (n0 + 63) / 64 := ⟨_, rfl⟩
  rw [← hM] at hk2 ⊢
  have hn1 := hok.n1
  have hkM : k0 + M ≤ D.sec.length := by omega
  have hat : ∀ i : Nat, i < M → atM D ((k0 : Int) + i) = 0 := fun i hi => by
    unfold atM
    rw [if_neg (by simp [hd]), if_neg (by omega)]
  have HAT := Aside0.mk hat
  have hr := Lib.hid (show readyM D = 0 by simp [readyM, hd])
  have HSP := Lib.hid hsp
  have HND := Lib.hid (show needM n0 = (M : Int) by rw [need_nat, hM])
  have hM1 : n0 ≤ M * 64 := by omega
  have hM2 : M ≤ 16384 := by omega
  have hn0 : n0 ≤ 1048576 := by omega
  clear h hok h2 he hsp hat hk0 hk1 hk2 hd hM
  go_enter Tryz.func27, Tryz.ntmps27
  go_wp2_with (first | (go_at_call 40; refine (ready_calls H.out).mono ?_; rintro e w' ⟨rfl, rfl⟩; rw [hr.out]) | (go_at_call 41; refine (span_calls H.out HOK.out k0 n0 (by omega) N2.out).mono ?_; rintro e w' ⟨rfl, m, rfl⟩; rw [HSP.out]) | (go_at_call 42; refine (need_calls n0 (by omega) N2.out).mono ?_; rintro e w' ⟨rfl, rfl⟩; rw [HND.out]))
  go_loopw [10, 11, 12, 13, 30, 33] (fun v10 v11 v12 v13 v30 v33 w' => ∃ i : Nat, v30 = .int .i64 i ∧ i ≤ M ∧ Aside0 (Kd.R (Kd.int .u8) 5 w' w.heap.size (fun k => w.heap.size ≤ k) v10 (readsTo D k0 i)) ∧ Aside0 (Below w.heap.size w w')) (fun _ _ _ _ v30 _ _ => M - (intOf v30).toNat)
  case atStart => exact ⟨0, rfl, Nat.zero_le _, ⟨Kd.R_nil _ _ _ _ _⟩, ⟨pw_below_drewN (Below.refl _ _) _⟩⟩
  case round =>
    obtain ⟨i, rfl, hi, HR, HV⟩ := hrel
    by_cases hlt : i < M
    · have HD := Aside0.mk (H.out.below HV.out)
      have HATi := Aside0.mk (HAT.out i hlt)
      have HP := Aside0.mk (show readsTo D k0 (i + 1) = readsTo D k0 i ++ readM D ((k0 : Int) + i) by rw [readsTo])
      have HLR := Aside0.mk (readsTo_length HD.out k0 M HAT.out i hi)
      go_wp2_with (first | (go_at_call 43; refine (Read_calls HD.out HOK.out ((k0 : Int) + i) HATi.out).mono ?_; rintro e w3 ⟨rfl, h64, hb3, hB3⟩; have HB3 := Aside0.mk hB3; have HV3 := Aside0.mk (Below.trans HV.out (Below.mono HB3.out HV.out.size)); have HRW := Aside0.mk (Kd.R_below HR.out HB3.out); have HC := C_block hb3 (by omega); rw [h64] at HC; have HC' := Aside0.mk HC; clear h64 hb3 hB3 HC) | ((with_reducible refine gate_builtin (b := .append) (xs := #[.tmp 41, .tmp 42]) rfl ?_); at_builtin; refine Kd.R_append_rows (Kd.int .u8) (Rr := (Kd.int .u8).K wr) (w0 := w) w.heap.size rfl (.tmp 41) (.tmp 42) 22 5 (.int .u8 0) 1 rfl Tryz.underlying22 info5 rfl (by decide) (by omega) _ (readsTo D k0 i) (readM D ((k0 : Int) + i)) (some ⟨wr.heap.size, 0, none⟩) 64 64 (fun k => w.heap.size ≤ k) (fun _ => False) rfl rfl HRW.out HC'.out (fun _ _ h => h) (fun _ h => h.elim) (fun _ h => Nat.le_trans HV3.out.size h) HV3.out HV3.out.size ?aL ?_; (case aL => rw [HLR.out]; omega); intro v1 w1 hr1 hb1 hg1 _; have HR1 := Aside0.mk hr1; have HB1 := Aside0.mk hb1; clear hr1 hb1 hg1))
      go_roundw
      case rel => exact ⟨i + 1, by go_num, by omega, ⟨by rw [HP.out]; exact HR1.out⟩, HB1⟩
      case measure => simp [intOf]; omega
    · obtain rfl : i = M := by omega
      have HLR := readsTo_length (H.out.below HV.out) k0 i HAT.out i hi
      obtain ⟨A1, c1, rfl, hc1, hC1⟩ := Kd.R_reads HR.out
      rw [HLR] at hc1
      have HC1 := Aside0.mk hC1
      have HOW := Aside0.mk (show ∀ a, A1 = some a → w.heap.size ≤ a.block ∧ a.block < wr.heap.size from fun a ha => by
        subst ha
        exact ⟨HR.out.1 a.block rfl, Kd.R_lt HR.out a.block rfl⟩)
      have HL := Aside0.mk HLR
      have HRO := Aside0.mk HR.out
      clear hC1
      simp only [HLR]
      clear HLR
      go_wp2
      refine bodyPost_ret (results_tmp2 rfl _ _ _) rfl ?_
      have hC := C_take HC1.out n0
      rw [show ((readsTo D (k0 : Int) i).take n0).length = n0 by rw [List.length_take, HL.out]; omega] at hC
      exact ⟨A1, rfl, hC, HV.out, HOW.out, c1, Kd.R_take HRO.out (m := n0) (by rw [HL.out]; omega)⟩
end Go.Proofs.YtfpfnolpoklefaaGreatDoor.Dk
/- Contracts of package disk: Save. -/
namespace Go.Proofs.YtfpfnolpoklefaaGreatDoor.Dk
open Go.RowKit Go.Proofs.YtfpfnolpoklefaaGreatDoorW.PrintWords Go.Proofs.YtfpfnolpoklefaaGreatDoorW.PrintLast Go.Proofs.YtfpfnolpoklefaaGreatDoorW.PrintMore
set_option linter.unusedVariables false
set_option linter.unusedSimpArgs false
set_option maxRecDepth 30000
section
variable {P : Program} {ops : Array Oper} {Q : Exit → Act → World → Prop}
theorem copy_step {o : Oper} {N : Option Tmp} {a : Act} {w w1 : World} {v vs vx : Value} {K : Act → World → Prop} (hw : Region.wanted o (yielded ops a.tmps) = true) (hN : o.dst = N) (s x : Operand) (t t' : TypeId)
    (ho : o.op = .call { callee := .builtin .copy, args := #[s, x], argTypes := #[t, t'] }) (hs : a.eval s = vs) (hx : a.eval x = vx) (hr : ∀ ty, (Builtin.copy_ #[t, t'] ty #[vs, vx]).run P w = .ok v w1)
    (h : K (a.put N v) w1) : if Region.wanted o (yielded ops a.tmps) = true then Oper.wp P o a w K Q else K (a.put N undef) w := by
  rw [if_pos hw]
  unfold Oper.wp execOp
  simp only [ho, resolve, invoke, builtin, Sem.run_bind, Sem.run_pure, Result.andThen_ok, List.map_toArray, List.map_cons, List.map_nil, hs, hx, hr]
  show K (a.put o.dst v) w1
  rw [hN]
  exact h
end
variable {w W W1 : World} {B g N : Nat} {F : Nat → Prop} {D : DM} {vs vh vc : Value}
theorem Write_calls64 (h : DiskAt w B g F D) (hok : DOk D) (hn : D.held.length < 10000000) (k : Int) (A : Option Addr) (c : Nat) (x : List Int) (hx : x.length = 64) (hC : Kd.C (Kd.int .u8) w A 64 x) :
    Calls Tryz.prog 49 #[.pointer (some ⟨g, 0, none⟩), .int .i64 k, .slice A 64 c] w fun e w' => e = .returned (.int .i64 (writeM D k x).2) ∧ DiskAt w' B g (Grow F w w') (writeM D k x).1 ∧ Upd w w' F := by
  obtain ⟨vs, vh, vc, h⟩ := h
  have := Write_calls h hok hn k A c x (by rw [hx]; exact hC)
  rwa [hx] at this
/-- The i-th piece of 64 bytes, the last one filled up. -/
def secAt (x : List Int) (i : Nat) : List Int := (x.drop (i * 64)).take 64 ++ List.replicate (64 - min (x.length - i * 64) 64) 0
theorem secAt_length (x : List Int) (i : Nat) : (secAt x i).length = 64 := by simp [secAt]; omega
theorem DiskAt.frame {w1 : World} {G : Nat → Prop} (h : DiskAt w B g F D) (hu : Upd w w1 G) (hd : ∀ k, k < w.heap.size → F k → ¬ G k) : DiskAt w1 B g F D := by
  obtain ⟨a, b, c, h⟩ := h
  exact ⟨a, b, c, DAt.frame h hu (fun k hk => hd k (h.lt k hk).2 hk)⟩
end Go.Proofs.YtfpfnolpoklefaaGreatDoor.Dk
/- Contracts of package disk: New. -/
namespace Go.Proofs.YtfpfnolpoklefaaGreatDoor.Dk
open Go.RowKit Go.Proofs.YtfpfnolpoklefaaGreatDoorW.PrintWords Go.Proofs.YtfpfnolpoklefaaGreatDoorW.PrintLast Go.Proofs.YtfpfnolpoklefaaGreatDoorW.PrintMore
set_option linter.unusedVariables false
set_option linter.unusedSimpArgs false
set_option maxRecDepth 30000
variable {w W W1 : World} {B g N : Nat} {F : Nat → Prop} {D : DM} {vs vh vc : Value}
def newBad (x : List Int) (n : Int) : Prop := n < 1 ∨ 16384 < n ∨ n * 64 < (x.length : Int)
/-- The disk of n sectors, the first i of them filled. -/
def secTo (x : List Int) (n i : Nat) : List (List Int) := (List.range i).map (secAt x) ++ List.replicate (n - i) (List.replicate 64 0)
theorem secTo_length (x : List Int) (n i : Nat) (h : i ≤ n) : (secTo x n i).length = n := by simp only [secTo, List.length_append, List.length_map, List.length_range, List.length_replicate]; omega
theorem secTo_split (x : List Int) (n i : Nat) (h : i < n) : secTo x n i = (List.range i).map (secAt x) ++ List.replicate 64 0 :: List.replicate (n - (i + 1)) (List.replicate 64 0) := by
  unfold secTo
  rw [show n - i = (n - (i + 1)) + 1 by omega, List.replicate_succ]
theorem secTo_next (x : List Int) (n i : Nat) : secTo x n (i + 1) = (List.range i).map (secAt x) ++ secAt x i :: List.replicate (n - (i + 1)) (List.replicate 64 0) := by
  unfold secTo
  rw [List.range_succ, List.map_append, List.append_assoc]
  rfl
theorem secTo_get (x : List Int) (n i : Nat) (h : i < n) : (secTo x n i).getD i [] = List.replicate 64 0 := by
  rw [secTo_split x n i h, List.getD_eq_getElem?_getD, List.getElem?_append_right (by simp)]
  rw [List.length_map, List.length_range, Nat.sub_self]
  rfl
theorem secTo_set (x : List Int) (n i : Nat) (h : i < n) : (secTo x n i).set i (secAt x i) = secTo x n (i + 1) := by
  rw [secTo_split x n i h, secTo_next, List.set_append_right _ _ (by simp), List.length_map, List.length_range, Nat.sub_self]
  rfl
theorem secTo_skip (x : List Int) (n i : Nat) (h : i < n) (hx : x.length ≤ i * 64) : secTo x n (i + 1) = secTo x n i := by
  have e : secAt x i = List.replicate 64 0 := by
    unfold secAt
    rw [List.drop_of_length_le hx, List.take_nil, List.nil_append, show x.length - i * 64 = 0 by omega, Nat.zero_min, Nat.sub_zero]
  rw [secTo_next, e, secTo_split x n i h]
def newM (x : List Int) (n i : Nat) : DM := { sec := secTo x n i, held := [], down := false, strokes := 0, left := 0, set := false, choice := [] }
set_option maxHeartbeats 8000000 in
theorem New_calls (A : Option Addr) (c : Nat) (x : List Int) (n : Nat) (hx : x.length ≤ 1000000000) (hxc : x.length ≤ c) (hC : Kd.C (Kd.int .u8) w A x.length x) (hok : ¬ newBad x n) :
    Calls Tryz.prog 10 #[.slice A x.length c, .int .i64 n] w fun e w' => ∃ g, e = .returned (.tuple #[.pointer (some ⟨g, 0, none⟩), .int .i64 0]) ∧ DiskAt w' w.heap.size g (fun k => w.heap.size ≤ k ∧ k < w'.heap.size) (newM x n n) ∧ Below w.heap.size w w' := by
  have HC := Aside0.mk hC
  have hn1 : 1 ≤ n := by unfold newBad at hok; omega
  have hn2 : n ≤ 16384 := by unfold newBad at hok; omega
  have hn3 : x.length ≤ n * 64 := by unfold newBad at hok; omega
  clear hok hC
  go_enter Tryz.func10, Tryz.ntmps10
  go_wp2_with (first | (refine Kd.R_make kSec (w0 := w) w.heap.size 75 rfl (N := 23) rfl 70 (.tmp 22) (.tmp 22) rfl (n : Int) rfl rfl Tryz.underlying70 (.agg (List.replicate 64 (.int .u8 0)).toArray) 64 info64' rfl (by decide) (by decide) (List.replicate 64 0) (ok := fun k => w.heap.size ≤ k) (okp := fun _ => False) ⟨rfl, rfl⟩ (fun _ h => h.elim) (Nat.le_refl _) (by omega) (by simp; omega) (Below.refl _ _) (Nat.le_refl _) ?_; intro v1 w1 hr1 hb1 hg1 _; rw [Int.toNat_natCast] at hr1; obtain ⟨A1, c1, rfl⟩ := Kd.R_slice hr1; have HR1 := Aside0.mk hr1; have HB1 := Aside0.mk hb1; clear hr1 hb1 hg1))
  have HC0 := Aside0.mk (show DAt (w1.alloc (.cells #[.slice A1 n c1, .slice none 0 0, .bool false, .int .i64 0, .int .i64 0, .bool false, .slice none 0 0] 73)) w.heap.size w1.heap.size (fun k => w.heap.size ≤ k ∧ k < (w1.alloc (.cells #[.slice A1 n c1, .slice none 0 0, .bool false, .int .i64 0, .int .i64 0, .bool false, .slice none 0 0] 73)).heap.size) (newM x n 0) (.slice A1 n c1) (.slice none 0 0) (.slice none 0 0) from by
    have h1 := Kd.R_below HR1.out (below_alloc (Below.refl w1.heap.size w1) (.cells #[.slice A1 n c1, .slice none 0 0, .bool false, .int .i64 0, .int .i64 0, .bool false, .slice none 0 0] 73))
    have hb := heap_alloc_new w1 (.cells #[.slice A1 n c1, .slice none 0 0, .bool false, .int .i64 0, .int .i64 0, .bool false, .slice none 0 0] 73)
    refine ⟨hb, ?_, Kd.R_nil _ _ _ _ _, Kd.R_nil _ _ _ _ _, ⟨HB1.out.size, blk_lt hb⟩, fun k hk => hk⟩
    rw [List.length_replicate] at h1
    have e : (newM x n 0).sec = List.replicate n (List.replicate 64 0) := by simp only [newM, secTo, List.range_zero, List.map_nil, List.nil_append, Nat.sub_zero]
    rw [e]
    exact Kd.R_mono (Kd.R_bound h1) (fun k hk => ⟨hk.1, hk.2.2.1⟩))
  have HB2 := Aside0.mk (below_alloc HB1.out (.cells #[.slice A1 n c1, .slice none 0 0, .bool false, .int .i64 0, .int .i64 0, .bool false, .slice none 0 0] 73))
  go_loopw [7, 8, 27] (fun v7 v8 v27 w' => ∃ i : Nat, v27 = .int .i64 i ∧ i ≤ n ∧ Aside0 (DAt w' w.heap.size w1.heap.size (fun k => w.heap.size ≤ k ∧ k < w'.heap.size) (newM x n i) (.slice A1 n c1) (.slice none 0 0) (.slice none 0 0)) ∧ Aside0 (Below w.heap.size w w')) (fun _ _ v27 _ => n - (intOf v27).toNat)
  case atStart => exact ⟨0, rfl, Nat.zero_le _, HC0, HB2⟩
  case round =>
    obtain ⟨i, rfl, hi, HD, HV⟩ := hrel
    by_cases hlt : i < n
    · by_cases h64 : i * 64 < x.length
      · have HX := Aside0.mk (Kd.C_below HC.out HV.out)
        obtain ⟨_, _, c3⟩ := HX.out
        obtain ⟨ad, hA, hcc⟩ := c3 (by omega)
        have hl := secTo_length x n i hi
        rcases R_cases HD.out.sec with ⟨_, hz⟩ | ⟨gs, cap, es, hgs⟩
        · have h0 : (secTo x n i).length = 0 := congrArg List.length hz
          omega
        injection es with e1 e2 e3
        subst e1
        clear e2 e3
        have hA' := hA
        subst hA
        have hcell : ∀ j v, x[j]? = some v → wr.drew.cell? (ad.add j) = some (.int .u8 v) := fun j v hj => by
          obtain ⟨cs, _, hK, hx1⟩ := hcc j v hj
          have := hx1 0 (.int .u8 v) (by rw [hK]; rfl)
          simpa [Kd.int, Kd.scalar] using this
        obtain ⟨ad2, cz, ez, hszz, hKz, hxz⟩ := Kd.C_get (Kd.R_reads' HD.out.sec).2.2 [] (i : Int) (by omega) (by show (i : Int) < ((secTo x n i).length : Int); omega)
        injection ez with ez
        subst ez
        rw [Int.toNat_natCast] at hKz hxz
        have hKz' : cz = nums .u8 (List.replicate 64 0) := by
          have := hKz.1
          rwa [show ((newM x n i).sec.getD i []) = List.replicate 64 0 from secTo_get x n i hlt] at this
        have hcc2 : ∀ j u, cz[j]? = some u → wr.drew.cell? ⟨gs, i * 64 + j, none⟩ = some u := fun j u hj => by
          have := hxz j u hj
          rw [add0] at this
          exact this
        obtain ⟨m, hm⟩ : ∃ m, m = min (x.length - i * 64) 64 := ⟨_, rfl⟩
        have hpl : ((x.drop (i * 64)).take 64).length = m := by rw [List.length_take, List.length_drop, hm, Nat.min_comm]
        have hczl : cz.length = 64 := hszz
        have hseg := Kd.R_seg (W := wr.drew) (g := gs) (cap := c1) (n := n) HD.out.sec (i : Int) (by omega) (by omega) hszz (j := 0) (seg := nums .u8 ((x.drop (i * 64)).take 64)) (x' := secAt x i) (okp := fun _ => False) (by intro j u hj; rw [Int.toNat_natCast]; exact hcc2 j u hj) (by rw [nums_length, hpl]; show 0 + m ≤ 64; omega) ⟨by
            rw [hKz', nums_length, hpl, Nat.zero_add, List.take_zero, List.nil_append]
            simp only [secAt, nums, List.map_append, List.map_replicate, List.drop_replicate, ← hm], secAt_length x i⟩ (fun _ h => h.elim)
        rw [Int.toNat_natCast, Nat.add_zero] at hseg
        obtain ⟨hrow, hgr⟩ := hseg
        have hif : (if c = i * 64 then some ad else some (ad.add (i * 64))) = some (ad.add (i * 64)) := if_neg (by omega)
        have HCP := Aside0.mk (fun ty => run_copy_cells (P := Tryz.prog) wr.drew 22 22 ty 5 gs (i * 64) 64 64 (ad.add (i * 64)) (x.length - i * 64) (c - i * 64) (nums .u8 ((x.drop (i * 64)).take 64)) Tryz.underlying22 (by kernel_rfl) (by rw [nums_length, hpl, hm]) (fun j v hj => by
          simp only [nums, List.getElem?_map, Option.map_eq_some_iff] at hj
          obtain ⟨q, hq, rfl⟩ := hj
          rw [List.getElem?_take] at hq
          split at hq
          · rw [List.getElem?_drop] at hq
            rw [Addr.add_add]
            exact hcell _ _ hq
          · cases hq) (fun j hj => by
          rw [nums_length, hpl] at hj
          obtain ⟨u, hu⟩ : ∃ u, cz[j]? = some u := ⟨cz[j]'(by omega), List.getElem?_eq_getElem _⟩
          rw [hcc2 j u hu]
          rfl) (fun j hj => by
          obtain ⟨inner, ho⟩ := Kd.R_own HD.out.sec
          obtain ⟨cells2, hc2⟩ := own_typed ho gs rfl
          exact blk_frozen (w := wr.drew) hc2 _) (fun v hv => by
          simp only [nums, List.mem_map] at hv
          obtain ⟨_, _, rfl⟩ := hv
          rfl))
        rw [← hif] at HCP
        have hw4 : wrap64 ((i : Int) * 64) = (i : Int) * 64 := by simp only [wrap64]; omega
        have htn : ((i : Int) * 64).toNat = i * 64 := by omega
        have c0 : wr.drew.cell? ⟨w1.heap.size, 0, none⟩ = some (.slice (some ⟨gs, 0, none⟩) n c1) := HD.out.c0
        have hgr' : wr.grownBy (wr.drew.setCells gs (i * 64) (nums .u8 ((x.drop (i * 64)).take 64))) (Value.slice (some ⟨gs, 0, none⟩) n c1).ownBlock := ⟨hgr.os, hgr.tape, hgr.output, hgr.size, hgr.block⟩
        have HD2 := Aside0.mk (show DAt (wr.drew.setCells gs (i * 64) (nums .u8 ((x.drop (i * 64)).take 64))) w.heap.size w1.heap.size (fun k => w.heap.size ≤ k ∧ k < (wr.drew.setCells gs (i * 64) (nums .u8 ((x.drop (i * 64)).take 64))).heap.size) (newM x n (i + 1)) (.slice (some ⟨gs, 0, none⟩) n c1) (.slice none 0 0) (.slice none 0 0) from by
          have hs := secTo_set x n i hlt
          refine ⟨blk_other HD.out.blk HD.out.sec (by decide) hgr', ?_, Kd.R_nil _ _ _ _ _, Kd.R_nil _ _ _ _ _, ⟨HD.out.own.1, Nat.lt_of_lt_of_le HD.out.own.2 hgr'.size⟩, fun k hk => hk⟩
          show Kd.R kSec 75 _ _ _ _ (secTo x n (i + 1))
          rw [← hs]
          exact Kd.R_mono hrow (fun k hk => ⟨hk.1, Nat.lt_of_lt_of_le hk.2 hgr'.size⟩))
        have HB3 := Aside0.mk (HV.out.trans (show Below w.heap.size wr (wr.drew.setCells gs (i * 64) (nums .u8 ((x.drop (i * 64)).take 64))) from ⟨hgr'.os, hgr'.tape, hgr'.output, hgr'.size, fun k hk => hgr'.block k (Nat.lt_of_lt_of_le hk HV.out.size) (fun he => by simp [Value.ownBlock] at he; omega)⟩))
        clear hcc hcell hxz hKz hKz' hcc2 hrow hgr hgr' hif c3 hpl hczl hszz
        go_wp2
        refine start_ (n := 11) (S := fun w' => w'.cell? ⟨w1.heap.size, 0, none⟩ = some (.slice (some ⟨gs, 0, none⟩) n c1)) (ds := [10]) (bz 11 0) (by kernel_rfl) rfl rfl (c0) (fun hHeld => ?_)
        refine pz 0 (some 36) (bz 11 1) ?_
        refine pz 1 (some 37) (bz 11 3) ?_
        refine pz 2 (some 38) (bz 11 7) ?_
        refine pz 4 (some 40) (bz 11 23) ?_
        refine pz 7 (some 43) (bz 11 151) ?_
        refine pz 8 (some 44) (bz 11 407) ?_
        refine pure_ (i := 9) (N := some 45) (v := ?_) (a' := ?_) (bz 11 919) rfl rfl (by kernel_rfl) (fun _ _ _ h => h) (Or.inl ⟨by rfl, ?_⟩) ?_ ?_
        rotate_left
        · intro w'
          go_simp
          (try simp only [htn])
          (try rw [if_pos ⟨by omega, by omega⟩])
          (try rw [if_neg (by omega)])
          (try with_reducible rfl)
        rotate_left
        · simp only [Act.put, List.setIfInBounds_toArray, List.set_cons_zero, List.set_cons_succ, i64_w, i32_w]
          rfl
        refine tz1 3 (some 39) (bz 11 927) hHeld ?_
        refine pz 5 (some 41) (bz 11 959) ?_
        refine pz 6 (some 42) (bz 11 1023) ?_
        refine last_ (i := 10) (N := some 46) (bz 11 2047) rfl rfl (by kernel_rfl) (by decide) (fun K hK => ?_)
        refine copy_step (by rfl) rfl (.tmp 42) (.tmp 45) 22 22 rfl rfl rfl HCP.out ?_
        refine hK.out _ _ ?_
        clear hK K
        refine norm_ (a' := ?_) ?_ ?_
        rotate_left
        · show Act.put _ (some 46) _ = _
          simp only [Act.put, List.setIfInBounds_toArray, List.set_cons_zero, List.set_cons_succ, i64_w, i32_w]
          rfl
        refine done_ (by kernel_rfl) ?_

        go_wp2
        go_roundw
        case rel => exact ⟨i + 1, by go_num, by omega, HD2, HB3⟩
        case measure => simp [intOf]; omega
      · have HD2 := Aside0.mk (show DAt wr w.heap.size w1.heap.size (fun k => w.heap.size ≤ k ∧ k < wr.heap.size) (newM x n (i + 1)) (.slice A1 n c1) (.slice none 0 0) (.slice none 0 0) by
          have := HD.out
          unfold newM at this ⊢
          rw [secTo_skip x n i hlt (by omega)]
          exact this)
        go_wp2
        go_roundw
        case rel => exact ⟨i + 1, by go_num, by omega, HD2, HV⟩
        case measure => simp [intOf]; omega
    · obtain rfl : i = n := by omega
      go_wp2
      refine bodyPost_ret (results_tmp2 rfl _ _ _) rfl ?_
      exact ⟨_, rfl, ⟨_, _, _, HD.out⟩, HV.out⟩
end Go.Proofs.YtfpfnolpoklefaaGreatDoor.Dk
/- Contracts of package disk: New where it refuses; what is kept by all calls. -/
namespace Go.Proofs.YtfpfnolpoklefaaGreatDoor.Dk
open Go.RowKit Go.Proofs.YtfpfnolpoklefaaGreatDoorW.PrintWords Go.Proofs.YtfpfnolpoklefaaGreatDoorW.PrintLast Go.Proofs.YtfpfnolpoklefaaGreatDoorW.PrintMore
set_option linter.unusedVariables false
set_option linter.unusedSimpArgs false
set_option maxRecDepth 30000
variable {w W W1 : World} {B g N : Nat} {F : Nat → Prop} {D : DM} {vs vh vc : Value}
set_option maxHeartbeats 4000000 in
theorem New_fails (A : Option Addr) (c : Nat) (x : List Int) (n : Int) (hx : x.length ≤ 1000000000) (hbad : newBad x n) :
    Calls Tryz.prog 10 #[.slice A x.length c, .int .i64 n] w fun e w' => e = .returned (.tuple #[.pointer none, .int .i64 1]) ∧ w = w' := by
  by_cases h1 : n < 1
  · clear hbad
    go_enter Tryz.func10, Tryz.ntmps10
    go_wp2
    refine bodyPost_ret (results_tmp2 rfl _ _ _) rfl ?_
    exact ⟨rfl, rfl⟩
  · by_cases h2 : 16384 < n
    · clear hbad
      go_enter Tryz.func10, Tryz.ntmps10
      go_wp2
      refine bodyPost_ret (results_tmp2 rfl _ _ _) rfl ?_
      exact ⟨rfl, rfl⟩
    · have h3 : n * 64 < (x.length : Int) := by
        rcases hbad with h | h | h
        · exact absurd h h1
        · exact absurd h h2
        · exact h
      clear hbad
      go_enter Tryz.func10, Tryz.ntmps10
      go_wp2
      refine bodyPost_ret (results_tmp2 rfl _ _ _) rfl ?_
      exact ⟨rfl, rfl⟩
theorem newM_ok (x : List Int) (n : Nat) (h : n ≤ 16384) : DOk (newM x n n) := by
  refine ⟨fun y hy => by simp [newM] at hy, ?_, by simp [newM], by simp [newM], by simp [newM]⟩
  show (secTo x n n).length ≤ 16384
  rw [secTo_length x n n (Nat.le_refl _)]
  exact h
end Go.Proofs.YtfpfnolpoklefaaGreatDoor.Dk
/- Contracts of package disk: Read where it refuses; rows beside a disk. -/
namespace Go.Proofs.YtfpfnolpoklefaaGreatDoor.Dk
open Go.RowKit Go.Proofs.YtfpfnolpoklefaaGreatDoorW.PrintWords Go.Proofs.YtfpfnolpoklefaaGreatDoorW.PrintLast Go.Proofs.YtfpfnolpoklefaaGreatDoorW.PrintMore
set_option linter.unusedVariables false
set_option linter.unusedSimpArgs false
set_option maxRecDepth 30000
variable {w W W' : World} {B g N : Nat} {F G : Nat → Prop} {D : DM} {vs vh vc : Value}
/-- A row of bytes beside a disk: what the disk's calls leave as it was. -/
structure Row (W : World) (F : Nat → Prop) (v : Value) (xs : List Int) : Prop where
  row : ∃ G, Kd.R (Kd.int .u8) 5 W 0 G v xs ∧ ∀ k, G k → k < W.heap.size ∧ ¬ F k
end Go.Proofs.YtfpfnolpoklefaaGreatDoor.Dk
/- The law's known. -/
namespace Go.Proofs.YtfpfnolpoklefaaGreatDoor.Dk
open Go.RowKit Go.Proofs.YtfpfnolpoklefaaGreatDoorW.PrintWords Go.Proofs.YtfpfnolpoklefaaGreatDoorW.PrintLast Go.Proofs.YtfpfnolpoklefaaGreatDoorW.PrintMore
set_option linter.unusedVariables false
set_option linter.unusedSimpArgs false
set_option maxRecDepth 30000
variable {w W W' : World} {B g N : Nat} {F G : Nat → Prop} {D : DM} {vs vh vc : Value}
def kS : List Int := (List.replicate 64 0).set 0 7
def kD0 : DM := newM [] 2 2
def kD1 : DM := (writeM kD0 0 kS).1
def kD2 : DM := (flushM kD1).1
def kD3 : DM := (setM kD2 0 [true]).1
theorem k1 : (writeM kD0 0 kS).2 = 0 := by decide
theorem k2 : (flushM kD1).2 = 0 := by decide
theorem k3 : (setM kD2 0 [true]).2 = 0 := by decide
theorem k4 : (writeM kD3 1 kS).2 = 60 := by decide
theorem k5 : (bytesM kD1).length = 128 ∧ (bytesM kD1).getD 0 0 = 0 := by decide
theorem k6 : (bytesM kD2).length = 128 ∧ (bytesM kD2).getD 0 0 = 7 := by decide
theorem UpD (h : DiskAt w B g F D) : Calls Tryz.prog 25 #[.pointer (some ⟨g, 0, none⟩)] w fun e w' => e = .returned (.bool (!D.down)) ∧ w = w' := by
  obtain ⟨_, _, _, h⟩ := h
  exact Up_calls h
theorem DiskAt.lo (h : DiskAt w B g F D) : ∀ k, F k → B ≤ k := by
  obtain ⟨_, _, _, h⟩ := h
  exact fun k hk => (h.lt k hk).1
theorem ok0 : DOk kD0 := newM_ok [] 2 (by decide)
theorem ok1 : DOk kD1 := writeM_ok ok0 (by decide)
end Go.Proofs.YtfpfnolpoklefaaGreatDoor.Dk
/- What laws need of a disk: posts, the law's disk. -/
namespace Go.Proofs.YtfpfnolpoklefaaGreatDoor.Dk
open Go.RowKit Go.Proofs.YtfpfnolpoklefaaGreatDoorW.PrintWords Go.Proofs.YtfpfnolpoklefaaGreatDoorW.PrintLast Go.Proofs.YtfpfnolpoklefaaGreatDoorW.PrintMore
set_option linter.unusedVariables false
set_option linter.unusedSimpArgs false
set_option maxRecDepth 30000
variable {w0 w w' W W' w1 w2 : World} {B g g2 : Nat} {F F' F2 : Nat → Prop} {D D' : DM} {v : Value} {xs : List Int}
def sameM (x y : List Int) : Bool := (strOfNums x).toList == (strOfNums y).toList
theorem sameM_refl (x : List Int) : sameM x x = true := by simp [sameM]
theorem Same_calls (A : Option Addr) (c : Nat) (x : List Int) (A2 : Option Addr) (c2 : Nat) (y : List Int) (hx : Kd.C (Kd.int .u8) w A x.length x) (hy : Kd.C (Kd.int .u8) w A2 y.length y) :
    Calls Tryz.prog 18 #[.slice A x.length c, .slice A2 y.length c2] w fun e w' => e = .returned (.bool (sameM x y)) ∧ w = w' := by
  have h1 := Kd.C_string (P := Tryz.prog) (A := A) (c := c) Tryz.underlying22 Tryz.underlying5 Tryz.underlying9 hx
  have h2 := Kd.C_string (P := Tryz.prog) (A := A2) (c := c2) Tryz.underlying22 Tryz.underlying5 Tryz.underlying9 hy
  clear hx hy
  go_enter Tryz.func18, Tryz.ntmps18
  go_wp2
  go_ret
  exact ⟨by first | rfl | simp [sameM], rfl⟩
theorem tmod_lt (k n : Int) (hn : 0 < n) : -n < k.tmod n ∧ k.tmod n < n := by
  constructor
  · have := Int.lt_tmod_of_pos k hn
    omega
  · exact Int.tmod_lt_of_pos k hn
def amongM (k n : Int) : Int := if k.tmod n < 0 then k.tmod n + n else k.tmod n
theorem amongM_lt (k n : Int) (hn : 0 < n) : 0 ≤ amongM k n ∧ amongM k n < n := by
  obtain ⟨h1, h2⟩ := tmod_lt k n hn
  unfold amongM
  split <;> omega
theorem Among_calls (k n : Int) (h1 : 1 ≤ n) (h2 : n ≤ 1000000) : Calls Tryz.prog 24 #[.int .i64 k, .int .i64 n] w fun e w' => e = .returned (.int .i64 (amongM k n)) ∧ w = w' := by
  obtain ⟨t1, t2⟩ := tmod_lt k n (by omega)
  by_cases ht : k.tmod n < 0
  · have hq := Lib.hid (show amongM k n = k.tmod n + n by simp [amongM, ht])
    go_enter Tryz.func24, Tryz.ntmps24
    go_wp2
    go_ret
    exact ⟨by rw [hq.out] <;> rfl, rfl⟩
  · have hq := Lib.hid (show amongM k n = k.tmod n by simp [amongM, ht])
    go_enter Tryz.func24, Tryz.ntmps24
    go_wp2
    go_ret
    exact ⟨by rw [hq.out] <;> rfl, rfl⟩
theorem setM_ok {n : Int} {l : List Bool} (h : DOk D) (hn : n ≤ 9223372036854775807) : DOk (setM D n l).1 := by
  unfold setM
  split
  · exact h
  · split
    · exact h
    · exact ⟨h.at_, h.n1, h.n2, by simp only; omega, hn⟩
theorem goesM_hs : (goesM D).1.held = D.held ∧ (goesM D).1.sec = D.sec := by
  unfold goesM
  split
  · exact ⟨rfl, rfl⟩
  · split <;> exact ⟨rfl, rfl⟩
theorem loseM_hs (l : List Bool) : (loseM l D).held.length ≤ D.held.length ∧ (loseM l D).sec.length = D.sec.length := by
  unfold loseM
  split
  · exact ⟨Nat.le_refl _, rfl⟩
  · exact ⟨Nat.zero_le _, putsTo_length _ _ _ _⟩
theorem flushM_hs : (flushM D).1.held.length ≤ D.held.length ∧ (flushM D).1.sec.length = D.sec.length := by
  unfold flushM
  split
  · exact ⟨Nat.le_refl _, rfl⟩
  · split
    · have := loseM_hs (D := (goesM D).1) (goesM D).1.choice
      rw [goesM_hs.1, goesM_hs.2] at this
      exact this
    · exact ⟨Nat.zero_le _, by show (putsTo _ _ _ _).length = _; rw [putsTo_length, goesM_hs.2]⟩
theorem writeM_hs (k : Int) (x : List Int) : (writeM D k x).1.held.length ≤ D.held.length + 1 ∧ (writeM D k x).1.sec.length = D.sec.length := by
  have h1 : (holdM D k x).held.length = D.held.length + 1 := by simp [holdM]
  unfold writeM
  split
  · exact ⟨Nat.le_succ _, rfl⟩
  · split
    · exact ⟨Nat.le_succ _, rfl⟩
    · split
      · have := loseM_hs (D := (goesM (holdM D k x)).1) (goesM (holdM D k x)).1.choice
        rw [goesM_hs.1, goesM_hs.2, h1] at this
        exact this
      · show (goesM (holdM D k x)).1.held.length ≤ _ ∧ _
        rw [goesM_hs.1, goesM_hs.2, h1]
        exact ⟨Nat.le_refl _, rfl⟩
def DPost (w w' : World) (B g : Nat) (F : Nat → Prop) (D' : DM) : Prop := ∃ F', (∀ k, F' k → F k ∨ w.heap.size ≤ k) ∧ DiskAt w' B g F' D' ∧ Upd w w' F
theorem DPost.of_grow {D' : DM} (h : DiskAt W B g (Grow F w W) D') (hu : Upd w W F) : DPost w W B g F D' := ⟨_, fun _ => Grow.out, h, hu⟩
theorem DPost.of_same {D' : DM} (h : DiskAt W B g F D') (hu : Upd w W F) : DPost w W B g F D' := ⟨F, fun _ h => .inl h, h, hu⟩
theorem dFlush (h : DiskAt w B g F D) (hok : DOk D) :
    Calls Tryz.prog 50 #[.pointer (some ⟨g, 0, none⟩)] w fun e w' => e = .returned (.int .i64 (flushM D).2) ∧ DPost w w' B g F (flushM D).1 := by
  obtain ⟨_, _, _, h⟩ := h
  exact (Flush_calls h hok).mono fun e w' ⟨he, hd, hu⟩ => ⟨he, .of_same hd hu⟩
theorem dSet (h : DiskAt w B g F D) (n : Int) (A : Option Addr) (c : Nat) (l : List Bool) (hC : Kd.C Kd.bool w A l.length l) :
    Calls Tryz.prog 23 #[.pointer (some ⟨g, 0, none⟩), .int .i64 n, .slice A l.length c] w fun e w' => e = .returned (.int .i64 (setM D n l).2) ∧ DPost w w' B g F (setM D n l).1 := by
  obtain ⟨_, _, _, h⟩ := h
  exact (Set_calls h n A c l hC).mono fun e w' ⟨he, hd, hu⟩ => ⟨he, .of_grow hd hu⟩
theorem cellB {b t : Nat} {cs : Array Value} {m : Nat × Nat} (h : w.heap[b]? = some (.cells cs t m)) (j : Nat) (v : Value) (hj : cs[j]? = some v) : w.cell? ⟨b, j, none⟩ = some v := by simp [World.cell?, h, hj]
theorem below_trans (h : Below w0.heap.size w0 w1) (h2 : Below w1.heap.size w1 w2) : Below w0.heap.size w0 w2 := Upd.below (F := fun _ => False) ((Upd.of_below (F := fun _ => False) h).trans (Upd.of_below (F := fun _ => False) h2) (fun _ h => h.elim)) (fun _ h => h.elim)
theorem below_upd (h : Below w0.heap.size w0 w1) (h2 : Upd w1 w2 F) (hlo : ∀ k, F k → w0.heap.size ≤ k) : Below w0.heap.size w0 w2 := Upd.below (F := fun k => w0.heap.size ≤ k) ((Upd.of_below (F := fun k => w0.heap.size ≤ k) h).trans h2 (fun k hk => .inl (hlo k hk))) (fun k hk => hk)
theorem Row.post (h : Row w F v xs) (hF : ∀ k, F' k → F k ∨ w.heap.size ≤ k) (hu : Upd w w' F) : Row w' F' v xs := by
  obtain ⟨G, h1, h2⟩ := h.row
  exact ⟨G, Kd.R_kept h1 hu.kept (fun k hk => (h2 k hk).2), fun k hk => ⟨Nat.lt_of_lt_of_le (h2 k hk).1 hu.size, fun hf => by
    rcases hF k hf with hf | hf
    · exact (h2 k hk).2 hf
    · have := (h2 k hk).1
      omega⟩⟩
/-- A disk of the law's own (its blocks are younger than w0), and that all older blocks are as they were. -/
structure St (w0 w : World) (g : Nat) (F : Nat → Prop) (D : DM) : Prop where
  d : DiskAt w w0.heap.size g F D
  b : Below w0.heap.size w0 w
/-- The calls, on such a disk. -/
theorem sUp (h : St w0 w g F D) : Calls Tryz.prog 25 #[.pointer (some ⟨g, 0, none⟩)] w fun e w' => e = .returned (.bool (!D.down)) ∧ w = w' := UpD h.d
end Go.Proofs.YtfpfnolpoklefaaGreatDoor.Dk
/- Package slots: the struct, Open, place, Room, ready; slots that are not there. -/
namespace Go.Proofs.YtfpfnolpoklefaaGreatDoor.Lo
open Go.Proofs.YtfpfnolpoklefaaGreatDoor.Dk
open Go.RowKit Go.Proofs.YtfpfnolpoklefaaGreatDoorW.PrintWords Go.Proofs.YtfpfnolpoklefaaGreatDoorW.PrintLast Go.Proofs.YtfpfnolpoklefaaGreatDoorW.PrintMore
set_option linter.unusedVariables false
set_option linter.unusedSimpArgs false
set_option maxRecDepth 30000
variable {w w0 w1 w2 wr : World} {B s g : Nat} {F : Nat → Prop} {D D' : DM} {fr n : Int} {xs hs b : List Int}
theorem disk_hi (h : DiskAt w B g F D) : ∀ k, F k → k < w.heap.size := by
  obtain ⟨_, _, _, h⟩ := h
  exact fun k hk => (h.lt k hk).2
/-- Slots in memory: its struct in block s, its disk. -/
structure LAt (w : World) (B s g : Nat) (F : Nat → Prop) (D : DM) (fr n : Int) : Prop where
  blk : w.heap[s]? = some (.cells #[.pointer (some ⟨g, 0, none⟩), .int .i64 fr, .int .i64 n] 66 (0, 0))
  d : DiskAt w B g F D
  nF : ¬ F s
theorem LAt.c0 (h : LAt w B s g F D fr n) : w.cell? ⟨s, 0, none⟩ = some (.pointer (some ⟨g, 0, none⟩)) := by rw [cell_of_row _ _ _ _ _ _ h.blk]; rfl
theorem LAt.c1 (h : LAt w B s g F D fr n) : w.cell? ⟨s, 1, none⟩ = some (.int .i64 fr) := by rw [cell_of_row _ _ _ _ _ _ h.blk]; rfl
theorem LAt.c2 (h : LAt w B s g F D fr n) : w.cell? ⟨s, 2, none⟩ = some (.int .i64 n) := by rw [cell_of_row _ _ _ _ _ _ h.blk]; rfl
theorem LAt.below (h : LAt w B s g F D fr n) (hb : Below w.heap.size w w1) : LAt w1 B s g F D fr n := ⟨blk_below h.blk hb, DiskAt.frame h.d (G := fun _ => False) (Upd.of_below hb) (fun _ _ _ h => h), h.nF⟩
theorem LAt.post (h : LAt w B s g F D fr n) (hp : DPost w w1 B g F D') : ∃ F', (∀ k, F' k → F k ∨ w.heap.size ≤ k) ∧ LAt w1 B s g F' D' fr n ∧ Upd w w1 F := by
  obtain ⟨F', hF, hd, hu⟩ := hp
  have hlt := blk_lt h.blk
  refine ⟨F', hF, ⟨(hu.block s hlt h.nF).trans h.blk, hd, fun hs => ?_⟩, hu⟩
  rcases hF s hs with h1 | h1
  · exact h.nF h1
  · omega
/-- Slots that fit their disk. -/
structure LOk (D : DM) (fr n : Int) : Prop where
  d : DOk D
  hf : 0 ≤ fr
  hn : 1 ≤ n
  hl : fr + 2 * n ≤ (D.sec.length : Int)
  hz : D.sec.length ≤ 1000
theorem place_calls (h : LAt w B s g F D fr n) (hk : LOk D fr n) (k : Int) (hk0 : 0 ≤ k) (hk1 : k ≤ 1) : Calls Tryz.prog 28 #[.pointer (some ⟨s, 0, none⟩), .int .i64 k] w fun e w' => e = .returned (.int .i64 (fr + k * n)) ∧ Below w.heap.size w w' := by
  have hn := hk.hn
  have hf := hk.hf
  have hl := hk.hl
  have hz := hk.hz
  obtain ⟨kn, hkn⟩ : ∃ kn, k * n = kn := ⟨_, rfl⟩
  have hkn1 : 0 ≤ kn ∧ kn ≤ n := by
    obtain rfl | rfl : k = 0 ∨ k = 1 := by omega
    · simp at hkn; omega
    · simp at hkn; omega
  obtain ⟨q, hq⟩ : ∃ q, fr + kn = q := ⟨_, rfl⟩
  have HQ := Lib.hid (show fr + k * n = q by rw [hkn, hq])
  have h1 : wrap64 (k * n) = kn := by rw [hkn]; unfold wrap64; omega
  have h1' : IntKind.i64.wrap (k * n) = kn := (i64_w _).trans h1
  have h2 : wrap64 (fr + kn) = q := by rw [hq]; unfold wrap64; omega
  have h2' : IntKind.i64.wrap (fr + kn) = q := (i64_w _).trans h2
  have c1 := h.c1
  have c2 := h.c2
  clear h hk hkn hkn1 hq hl hz hn hf
  go_enter Tryz.func28, Tryz.ntmps28
  go_wp2
  go_quiet (fail)
  go_wp2
  go_ret
  exact ⟨by rw [HQ.out] <;> rfl, pw_below_drewN (Below.refl _ _) _⟩
theorem room_calls (h : LAt w B s g F D fr n) (hk : LOk D fr n) : Calls Tryz.prog 12 #[.pointer (some ⟨s, 0, none⟩)] w fun e w' => e = .returned (.int .i64 (64 * n)) ∧ w = w' := by
  have hn := hk.hn
  have hf := hk.hf
  have hl := hk.hl
  have hz := hk.hz
  have c2 := h.c2
  clear h hk
  go_enter Tryz.func12, Tryz.ntmps12
  go_wp2
  go_ret
  exact ⟨rfl, rfl⟩
theorem sizeS (h : DiskAt w B g F D) : Calls Tryz.prog 32 #[.pointer (some ⟨g, 0, none⟩)] w fun e w' => e = .returned (.int .i64 (D.sec.length : Int)) ∧ w = w' := by
  obtain ⟨_, _, _, h⟩ := h
  exact Size_calls h
def LOpenPo (w w' : World) (B g : Nat) (F : Nat → Prop) (D : DM) (fr n : Int) (e : Ending) : Prop :=
  (¬ (1 ≤ n ∧ 0 ≤ fr ∧ fr + 2 * n ≤ (D.sec.length : Int)) ∧ e = .returned (.tuple #[.pointer none, .int .i64 1]) ∧ Below w.heap.size w w') ∨
  ((1 ≤ n ∧ 0 ≤ fr ∧ fr + 2 * n ≤ (D.sec.length : Int)) ∧ ∃ s, e = .returned (.tuple #[.pointer (some ⟨s, 0, none⟩), .int .i64 0]) ∧ LAt w' B s g F D fr n ∧ w.heap.size ≤ s ∧ Below w.heap.size w w')
set_option maxHeartbeats 16000000 in
theorem Open_calls (h : DiskAt w B g F D) (hl : D.sec.length ≤ 1000) (fr n : Int) : Calls Tryz.prog 9 #[.pointer (some ⟨g, 0, none⟩), .int .i64 fr, .int .i64 n] w fun e w' => LOpenPo w w' B g F D fr n e := by
  have HD := Aside0.mk h
  obtain ⟨S, hS⟩ : ∃ S : Nat, D.sec.length = S := ⟨_, rfl⟩
  have HSS := Lib.hid hS
  have HF := Aside0.mk (disk_hi h)
  rw [hS] at hl
  clear h hS
  by_cases h1 : n < 1
  · have hq : decide (n < 1) = true := decide_eq_true h1
    have HB := Aside0.mk h1
    clear h1
    go_enter Tryz.func9, Tryz.ntmps9
    go_wp2_with (first | (go_at_call 32; (with_reducible refine (sizeS HD.out).mono ?_); rintro e w1 ⟨rfl, rfl⟩; rw [HSS.out]))
    refine bodyPost_ret (results_tmp2 rfl _ _ _) rfl ?_
    exact .inl ⟨by have := HB.out; omega, rfl, Below.refl _ _⟩
  have hq : decide (n < 1) = false := decide_eq_false h1
  by_cases h2 : fr < 0
  · have hq2 : decide (fr < 0) = true := decide_eq_true h2
    have HB := Aside0.mk h2
    clear h2 h1
    go_enter Tryz.func9, Tryz.ntmps9
    go_wp2_with (first | (go_at_call 32; (with_reducible refine (sizeS HD.out).mono ?_); rintro e w1 ⟨rfl, rfl⟩; rw [HSS.out]))
    refine bodyPost_ret (results_tmp2 rfl _ _ _) rfl ?_
    exact .inl ⟨by have := HB.out; omega, rfl, Below.refl _ _⟩
  have hq2 : decide (fr < 0) = false := decide_eq_false h2
  by_cases h3 : (S : Int) < fr
  · have hq3 : decide ((S : Int) < fr) = true := decide_eq_true h3
    have HB := Aside0.mk h3
    have HB1 := Aside0.mk h1
    clear h2 h1 h3
    go_enter Tryz.func9, Tryz.ntmps9
    go_wp2_with (first | (go_at_call 32; (with_reducible refine (sizeS HD.out).mono ?_); rintro e w1 ⟨rfl, rfl⟩; rw [HSS.out]))
    refine bodyPost_ret (results_tmp2 rfl _ _ _) rfl ?_
    exact .inl ⟨by have := HB.out; have := HB1.out; rw [HSS.out]; omega, rfl, Below.refl _ _⟩
  have hq3 : decide ((S : Int) < fr) = false := decide_eq_false h3
  obtain ⟨m, hm⟩ : ∃ m : Int, m = ((S : Int) - fr) / 2 := ⟨_, rfl⟩
  have HM := Lib.hid hm
  have hfr0 : 0 ≤ fr := by omega
  have hfrS : fr ≤ S := by omega
  by_cases h4 : ((S : Int) - fr) / 2 < n
  · have hq4 : decide (((S : Int) - fr) / 2 < n) = true := decide_eq_true h4
    have HB := Aside0.mk (show ¬ fr + 2 * n ≤ (S : Int) by omega)
    clear h2 h1 h3 h4 hm
    go_enter Tryz.func9, Tryz.ntmps9
    go_wp2_with (first | (go_at_call 32; (with_reducible refine (sizeS HD.out).mono ?_); rintro e w1 ⟨rfl, rfl⟩; rw [HSS.out]))
    refine bodyPost_ret (results_tmp2 rfl _ _ _) rfl ?_
    exact .inl ⟨by have := HB.out; rw [HSS.out]; omega, rfl, Below.refl _ _⟩
  · have hq4 : decide (((S : Int) - fr) / 2 < n) = false := decide_eq_false h4
    have HB := Aside0.mk (show 1 ≤ n ∧ 0 ≤ fr ∧ fr + 2 * n ≤ (S : Int) by omega)
    clear h2 h1 h3 h4 hm
    go_enter Tryz.func9, Tryz.ntmps9
    go_wp2_with (first | (go_at_call 32; (with_reducible refine (sizeS HD.out).mono ?_); rintro e w1 ⟨rfl, rfl⟩; rw [HSS.out]))
    refine bodyPost_ret (results_tmp2 rfl _ _ _) rfl ?_
    refine .inr ⟨by rw [HSS.out]; exact HB.out, w.heap.size, rfl, ⟨heap_alloc_new w _, HD.out.frame (G := fun _ => False) (Upd.of_below (below_alloc (Below.refl _ _) _)) (fun _ _ _ h => h), fun h => by have := HF.out _ h; omega⟩, Nat.le_refl _, below_alloc (Below.refl _ _) _⟩
end Go.Proofs.YtfpfnolpoklefaaGreatDoor.Lo
/- Package slots: ready; what it does on a disk that is down, or without slots. -/
namespace Go.Proofs.YtfpfnolpoklefaaGreatDoor.Lo
open Go.Proofs.YtfpfnolpoklefaaGreatDoor.Dk
open Go.RowKit Go.Proofs.YtfpfnolpoklefaaGreatDoorW.PrintWords Go.Proofs.YtfpfnolpoklefaaGreatDoorW.PrintLast Go.Proofs.YtfpfnolpoklefaaGreatDoorW.PrintMore
set_option linter.unusedVariables false
set_option linter.unusedSimpArgs false
set_option maxRecDepth 30000
variable {w w0 w1 w2 wr : World} {B s g : Nat} {F : Nat → Prop} {D D' : DM} {fr n slot size : Int} {xs hs b : List Int}
def lreadyM (D : DM) (n slot size : Int) : Int := if D.down = true then 60 else if (slot ≠ 0 ∧ slot ≠ 1) ∨ 64 * n < size then 110 else 0
theorem lready_calls (h : LAt w B s g F D fr n) (hk : LOk D fr n) : Calls Tryz.prog 26 #[.pointer (some ⟨s, 0, none⟩), .int .i64 slot, .int .i64 size] w fun e w' => e = .returned (.int .i64 (lreadyM D n slot size)) ∧ w = w' := by
  have H := Aside0.mk h
  have HK := Aside0.mk hk
  have c0 := h.c0
  clear h hk
  cases hd : D.down with
  | true =>
    have HD := Lib.hid hd
    have HR := Lib.hid (show lreadyM D n slot size = 60 by unfold lreadyM; rw [if_pos hd])
    clear hd
    go_enter Tryz.func26, Tryz.ntmps26
    go_wp2_with (first | (go_at_call 25; (with_reducible refine (UpD H.out.d).mono ?_); rintro e w' ⟨rfl, rfl⟩; rw [HD.out]))
    go_ret
    exact ⟨by rw [HR.out] <;> rfl, rfl⟩
  | false =>
    have HD := Lib.hid hd
    have HR := Lib.hid (show lreadyM D n slot size = if (slot ≠ 0 ∧ slot ≠ 1) ∨ 64 * n < size then 110 else 0 by unfold lreadyM; rw [hd, if_neg (by decide)])
    clear hd
    by_cases h0 : slot ≠ 0 ∧ slot ≠ 1
    · have q0 : (slot == 0) = false := beq_eq_false_iff_ne.mpr h0.1
      have q1 : (slot != 0) = true := bne_iff_ne.mpr h0.1
      have q2 : (slot == 1) = false := beq_eq_false_iff_ne.mpr h0.2
      have q3 : (slot != 1) = true := bne_iff_ne.mpr h0.2
      have HR2 := Lib.hid (show lreadyM D n slot size = 110 by rw [HR.out, if_pos (.inl h0)])
      clear h0 HR
      go_enter Tryz.func26, Tryz.ntmps26
      go_wp2_with (first | (go_at_call 25; (with_reducible refine (UpD H.out.d).mono ?_); rintro e w' ⟨rfl, rfl⟩; rw [HD.out]))
      go_ret
      exact ⟨by rw [HR2.out] <;> rfl, rfl⟩
    · by_cases hz : 64 * n < size
      · have HR2 := Lib.hid (show lreadyM D n slot size = 110 by rw [HR.out, if_pos (.inr hz)])
        have qz : decide (64 * n < size) = true := decide_eq_true hz
        clear HR hz
        by_cases h00 : slot = 0
        · subst h00
          clear h0
          go_enter Tryz.func26, Tryz.ntmps26
          go_wp2_with (first | (go_at_call 25; (with_reducible refine (UpD H.out.d).mono ?_); rintro e w' ⟨rfl, rfl⟩; rw [HD.out]) | (go_at_call 12; (with_reducible refine (room_calls H.out HK.out).mono ?_); rintro e w' ⟨rfl, rfl⟩))
          go_ret
          exact ⟨by rw [HR2.out] <;> rfl, rfl⟩
        · obtain rfl : slot = 1 := by omega
          clear h0 h00
          go_enter Tryz.func26, Tryz.ntmps26
          go_wp2_with (first | (go_at_call 25; (with_reducible refine (UpD H.out.d).mono ?_); rintro e w' ⟨rfl, rfl⟩; rw [HD.out]) | (go_at_call 12; (with_reducible refine (room_calls H.out HK.out).mono ?_); rintro e w' ⟨rfl, rfl⟩))
          go_ret
          exact ⟨by rw [HR2.out] <;> rfl, rfl⟩
      · have HR2 := Lib.hid (show lreadyM D n slot size = 0 by rw [HR.out, if_neg (fun h => h.elim h0 hz)])
        have qz : decide (64 * n < size) = false := decide_eq_false hz
        clear HR hz
        by_cases h00 : slot = 0
        · subst h00
          clear h0
          go_enter Tryz.func26, Tryz.ntmps26
          go_wp2_with (first | (go_at_call 25; (with_reducible refine (UpD H.out.d).mono ?_); rintro e w' ⟨rfl, rfl⟩; rw [HD.out]) | (go_at_call 12; (with_reducible refine (room_calls H.out HK.out).mono ?_); rintro e w' ⟨rfl, rfl⟩))
          go_ret
          exact ⟨by rw [HR2.out] <;> rfl, rfl⟩
        · obtain rfl : slot = 1 := by omega
          clear h0 h00
          go_enter Tryz.func26, Tryz.ntmps26
          go_wp2_with (first | (go_at_call 25; (with_reducible refine (UpD H.out.d).mono ?_); rintro e w' ⟨rfl, rfl⟩; rw [HD.out]) | (go_at_call 12; (with_reducible refine (room_calls H.out HK.out).mono ?_); rintro e w' ⟨rfl, rfl⟩))
          go_ret
          exact ⟨by rw [HR2.out] <;> rfl, rfl⟩
end Go.Proofs.YtfpfnolpoklefaaGreatDoor.Lo
/- Plain facts about disks: what is written is read, flushed or not. -/
namespace Go.Proofs.YtfpfnolpoklefaaGreatDoor.Dk
open Go.RowKit Go.Proofs.YtfpfnolpoklefaaGreatDoorW.PrintWords Go.Proofs.YtfpfnolpoklefaaGreatDoorW.PrintLast Go.Proofs.YtfpfnolpoklefaaGreatDoorW.PrintMore
set_option linter.unusedVariables false
set_option linter.unusedSimpArgs false
set_option maxRecDepth 30000
variable {D D' : DM} {k : Int} {x : List Int}
/-- A disk whose power does not go. -/
structure Calm (D : DM) : Prop where
  set : D.set = false
  down : D.down = false
theorem calm_goes (h : Calm D) : goesM D = ({ D with strokes := wrap64 (D.strokes + 1) }, false) := by simp [goesM, h.set]
theorem calm_at (h : Calm D) (h0 : 0 ≤ k) (h1 : k < (D.sec.length : Int)) : atM D k = 0 := by
  unfold atM
  rw [h.down, if_neg (by decide), if_neg (by omega)]
theorem calm_write (h : Calm D) (h0 : 0 ≤ k) (h1 : k < (D.sec.length : Int)) (hx : x.length = 64) : (writeM D k x).2 = 0 ∧ (writeM D k x).1.held = D.held ++ [(k, x)] ∧ (writeM D k x).1.sec = D.sec ∧ Calm (writeM D k x).1 := by
  have hg := calm_goes (D := holdM D k x) ⟨h.set, h.down⟩
  have e : writeM D k x = ((goesM (holdM D k x)).1, 0) := by
    unfold writeM
    rw [if_neg (by rw [calm_at h h0 h1]; decide), if_neg (by omega), if_neg (by rw [hg]; exact Bool.false_ne_true)]
  rw [e, hg]
  exact ⟨rfl, rfl, rfl, h.set, h.down⟩
theorem calm_flush (h : Calm D) : (flushM D).2 = 0 ∧ (flushM D).1.held = [] ∧ (flushM D).1.sec = putsTo (fun _ => true) D.held D.sec D.held.length ∧ Calm (flushM D).1 := by
  have hg := calm_goes h
  have e : flushM D = (putsM (fun _ => true) (goesM D).1, 0) := by
    unfold flushM
    rw [h.down, if_neg (by decide), if_neg (by rw [hg]; exact Bool.false_ne_true)]
  rw [e, hg]
  exact ⟨rfl, rfl, rfl, h.set, h.down⟩
theorem puts_read (H : List (Int × List Int)) (S : List (List Int)) (j : Nat) (hH : ∀ h ∈ H, 0 ≤ h.1 ∧ h.1 < (S.length : Int)) : ∀ n, n ≤ H.length → (putsTo (fun _ => true) H S n).getD j [] = readTo j H (S.getD j []) n
  | 0, _ => rfl
  | n + 1, hn => by
    obtain ⟨a0, a1⟩ := hH (H.getD n (0, [])) (by rw [List.getD_eq_getElem?_getD, List.getElem?_eq_getElem (by omega)]; exact List.getElem_mem (by omega))
    rw [putsTo, if_pos rfl, readTo]
    have hl := putsTo_length (fun _ => true) H S n
    by_cases h : (H.getD n (0, [])).1 = j
    · rw [if_pos h, List.getD_eq_getElem?_getD, List.getElem?_set, if_pos (by omega), if_pos (by omega)]
      rfl
    · rw [if_neg h, List.getD_eq_getElem?_getD, List.getElem?_set, if_neg (by omega), ← List.getD_eq_getElem?_getD]
      exact puts_read H S j hH n (by omega)
/-- A flush changes nothing of what is read. -/
theorem flush_read (h : Calm D) (hok : DOk D) (h0 : 0 ≤ k) : readM (flushM D).1 k = readM D k := by
  obtain ⟨_, f2, f3, _⟩ := calm_flush h
  unfold readM
  rw [f2, f3]
  show (putsTo _ _ _ _).getD k.toNat [] = _
  rw [puts_read D.held D.sec k.toNat hok.at_ _ (Nat.le_refl _), Int.toNat_of_nonneg h0]
end Go.Proofs.YtfpfnolpoklefaaGreatDoor.Dk
/- Plain facts about slots: what a Put of bytes at a byte of a disk does. -/
namespace Go.Proofs.YtfpfnolpoklefaaGreatDoor.Lo
open Go.Proofs.YtfpfnolpoklefaaGreatDoor.Dk
open Go.RowKit Go.Proofs.YtfpfnolpoklefaaGreatDoorW.PrintWords Go.Proofs.YtfpfnolpoklefaaGreatDoorW.PrintLast Go.Proofs.YtfpfnolpoklefaaGreatDoorW.PrintMore
set_option linter.unusedVariables false
set_option linter.unusedSimpArgs false
set_option maxRecDepth 30000
variable {D D' : DM} {k q : Int} {x y b s : List Int} {o at' m n : Nat}
/-- y over x from o on. -/
def over (x : List Int) (o : Nat) (y : List Int) : List Int := x.take o ++ y ++ x.drop (o + y.length)
theorem over_length (h : o + y.length ≤ x.length) : (over x o y).length = x.length := by
  unfold over
  rw [List.length_append, List.length_append, List.length_take, List.length_drop]
  omega
theorem over_nil (x : List Int) (o : Nat) : over x o [] = x := by simp [over]
theorem over_get (h : o + y.length ≤ x.length) (i : Nat) : (over x o y)[i]? = if i < o then x[i]? else if i < o + y.length then y[i - o]? else x[i]? := by
  unfold over
  have h1 : (x.take o).length = o := by rw [List.length_take]; omega
  by_cases c1 : i < o
  · rw [if_pos c1, List.append_assoc, List.getElem?_append_left (by omega), List.getElem?_take, if_pos c1]
  · rw [if_neg c1, List.append_assoc, List.getElem?_append_right (by omega), h1]
    by_cases c2 : i < o + y.length
    · rw [if_pos c2, List.getElem?_append_left (by omega)]
    · rw [if_neg c2, List.getElem?_append_right (by omega), List.getElem?_drop]
      congr 1
      omega
theorem over_over (h : o + (x.length + y.length) ≤ b.length) : over (over b o x) (o + x.length) y = over b o (x ++ y) := by
  have hl := over_length (x := b) (o := o) (y := x) (by omega)
  apply List.ext_getElem?
  intro i
  rw [over_get (by rw [hl]; omega), over_get (by omega), over_get (by rw [List.length_append]; omega), List.length_append]
  by_cases c1 : i < o
  · rw [if_pos (by omega), if_pos c1, if_pos c1]
  · by_cases c2 : i < o + x.length
    · rw [if_pos c2, if_neg c1, if_pos c2, if_neg c1, if_pos (by omega), List.getElem?_append_left (by omega)]
    · rw [if_neg c2]
      by_cases c3 : i < o + x.length + y.length
      · rw [if_pos c3, if_neg c1, if_pos (by omega), List.getElem?_append_right (by omega)]
        congr 1
        omega
      · rw [if_neg c3, if_neg c1, if_neg c2, if_neg c1, if_neg (by omega)]
/-- A sector with b's bytes from o on. -/
def lseg (s b : List Int) (o : Nat) : List Int := over s o (b.take (64 - o))
theorem lseg_length (hs : s.length = 64) (ho : o < 64) : (lseg s b o).length = 64 := by
  unfold lseg
  rw [over_length (by rw [List.length_take, hs]; omega), hs]
/-- How many bytes go into the first sector. -/
def lstep (b : List Int) (at' : Nat) : Nat := min (64 - at' % 64) b.length
/-- What put does: the disk, the error. -/
def lputF : Nat → DM → Int → Nat → List Int → DM × Int
  | 0, D, _, _, _ => (D, 0)
  | m + 1, D, q, at', b =>
    if b.length = 0 then flushM D
    else if atM D (q + (at' / 64 : Nat)) ≠ 0 then (D, atM D (q + (at' / 64 : Nat)))
    else if (writeM D (q + (at' / 64 : Nat)) (lseg (readM D (q + (at' / 64 : Nat))) b (at' % 64))).2 ≠ 0 then writeM D (q + (at' / 64 : Nat)) (lseg (readM D (q + (at' / 64 : Nat))) b (at' % 64))
    else lputF m (writeM D (q + (at' / 64 : Nat)) (lseg (readM D (q + (at' / 64 : Nat))) b (at' % 64))).1 q (at' + lstep b at') (b.drop (lstep b at'))
def lputM (D : DM) (q : Int) (at' : Nat) (b : List Int) : DM × Int := lputF (b.length + 1) D q at' b
/-! ### All that is read of a disk -/
def flatR (D : DM) : Nat → List Int
  | 0 => []
  | m + 1 => flatR D m ++ readM D (m : Nat)
/-- Each sector has 64 bytes. -/
structure Six (D : DM) : Prop where
  sec : ∀ i, i < D.sec.length → (D.sec.getD i []).length = 64
  held : ∀ i, i < D.held.length → (D.held.getD i (0, [])).2.length = 64
theorem six_read (h : Six D) {k : Nat} (hk : k < D.sec.length) : (readM D (k : Int)).length = 64 := by
  unfold readM
  rw [Int.toNat_natCast]
  exact readTo_length (h.sec k hk) h.held _ (Nat.le_refl _)
theorem flat_length (h : Six D) : ∀ m, m ≤ D.sec.length → (flatR D m).length = m * 64
  | 0, _ => rfl
  | m + 1, hm => by
    rw [flatR, List.length_append, flat_length h m (by omega), six_read h (by omega)]
    omega
theorem flat_bytes (hh : D.held = []) : ∀ m, flatR D m = bytesTo D.sec m
  | 0 => rfl
  | m + 1 => by
    rw [flatR, bytesTo, flat_bytes hh m]
    congr 1
    unfold readM
    rw [hh, Int.toNat_natCast]
    rfl
theorem flat_congr (h : ∀ k : Nat, k < m → readM D' (k : Int) = readM D (k : Int)) : flatR D' m = flatR D m := by
  induction m with
  | zero => rfl
  | succ m ih => rw [flatR, flatR, ih (fun k hk => h k (by omega)), h m (by omega)]
/-- The sector k within all. -/
theorem flat_sector (h : Six D) {k : Nat} : ∀ m, k < m → m ≤ D.sec.length → ((flatR D m).drop (64 * k)).take 64 = readM D (k : Int)
  | 0, hk, _ => by omega
  | m + 1, hk, hm => by
    have hl := flat_length h m (by omega)
    rw [flatR]
    by_cases c : k < m
    · rw [List.drop_append_of_le_length (by omega), List.take_append_of_le_length (by rw [List.length_drop]; omega)]
      exact flat_sector h m c (by omega)
    · obtain rfl : k = m := by omega
      rw [List.drop_append, List.drop_eq_nil_of_le (by omega), List.nil_append, hl, show 64 * k - k * 64 = 0 by omega, List.drop_zero]
      exact List.take_of_length_le (by rw [six_read h (by omega)]; exact Nat.le_refl _)
theorem flat_get (h : Six D) {i : Nat} : ∀ m, i < 64 * m → m ≤ D.sec.length → (flatR D m)[i]? = (readM D ((i / 64 : Nat) : Int))[i % 64]?
  | 0, hi, _ => by omega
  | m + 1, hi, hm => by
    have hl := flat_length h m (by omega)
    rw [flatR]
    by_cases c : i < 64 * m
    · rw [List.getElem?_append_left (by omega)]
      exact flat_get h m c (by omega)
    · rw [List.getElem?_append_right (by omega), hl]
      have e : i / 64 = m := by omega
      rw [e]
      congr 1
      omega
/-- One sector is written anew. -/
theorem flat_write (h : Six D) (h' : Six D') {k : Nat} {s : List Int} (hl : D'.sec.length = D.sec.length) (hk : k < D.sec.length) (hs : readM D' (k : Int) = s) (ho : ∀ j : Nat, j < D.sec.length → j ≠ k → readM D' (j : Int) = readM D (j : Int)) :
    flatR D' D.sec.length = over (flatR D D.sec.length) (64 * k) s := by
  have hsl : s.length = 64 := by rw [← hs]; exact six_read h' (by omega)
  have hf := flat_length h D.sec.length (Nat.le_refl _)
  have hf' := flat_length h' D.sec.length (by omega)
  apply List.ext_getElem?
  intro i
  by_cases hi : i < 64 * D.sec.length
  · rw [flat_get h' _ hi (by omega), over_get (by omega), hsl]
    by_cases c1 : i < 64 * k
    · rw [if_pos c1, flat_get h _ hi (Nat.le_refl _), ho (i / 64) (by omega) (by omega)]
    · rw [if_neg c1]
      by_cases c2 : i < 64 * k + 64
      · rw [if_pos c2, show i / 64 = k by omega, hs]
        congr 1
        omega
      · rw [if_neg c2, flat_get h _ hi (Nat.le_refl _), ho (i / 64) (by omega) (by omega)]
  · rw [List.getElem?_eq_none (by omega), List.getElem?_eq_none (by rw [over_length (by omega)]; omega)]
/-! ### On a disk whose power does not go -/
theorem readTo_pre (k : Int) (H K : List (Int × List Int)) (S : List Int) : ∀ n, n ≤ H.length → readTo k (H ++ K) S n = readTo k H S n
  | 0, _ => rfl
  | n + 1, hn => by
    have e : (H ++ K).getD n (0, []) = H.getD n (0, []) := by
      rw [List.getD_eq_getElem?_getD, List.getElem?_append_left (by omega), ← List.getD_eq_getElem?_getD]
    rw [readTo, readTo, e, readTo_pre k H K S n (by omega)]
theorem readM_hold (he : D'.held = D.held ++ [(k, s)]) (hs : D'.sec = D.sec) (j : Int) : readM D' j = if k = j then s else readM D j := by
  unfold readM
  rw [he, hs, List.length_append, List.length_singleton, readTo]
  have e : (D.held ++ [(k, s)]).getD D.held.length (0, []) = (k, s) := by
    rw [List.getD_eq_getElem?_getD, List.getElem?_append_right (Nat.le_refl _), Nat.sub_self]
    rfl
  rw [e, readTo_pre j D.held _ _ _ (Nat.le_refl _)]
theorem over_sector {X : List Int} {k : Nat} (hs : (X.drop (64 * k)).take 64 = s) (hX : 64 * k + 64 ≤ X.length) (hy : o + y.length ≤ 64) : over X (64 * k) (over s o y) = over X (64 * k + o) y := by
  have hsl : s.length = 64 := by rw [← hs, List.length_take, List.length_drop]; omega
  have hol := over_length (x := s) (o := o) (y := y) (by omega)
  apply List.ext_getElem?
  intro i
  rw [over_get (x := X) (o := 64 * k) (y := over s o y) (by omega), over_get (x := X) (o := 64 * k + o) (y := y) (by omega), hol, hsl]
  by_cases c1 : i < 64 * k
  · rw [if_pos c1, if_pos (by omega)]
  · rw [if_neg c1]
    by_cases c2 : i < 64 * k + 64
    · rw [if_pos c2, over_get (x := s) (o := o) (y := y) (by omega)]
      have hsi : s[i - 64 * k]? = X[i]? := by
        rw [← hs, List.getElem?_take, if_pos (by omega), List.getElem?_drop]
        congr 1
        omega
      by_cases c3 : i < 64 * k + o
      · rw [if_pos (by omega), if_pos c3, hsi]
      · rw [if_neg (by omega), if_neg c3]
        by_cases c4 : i < 64 * k + o + y.length
        · rw [if_pos (by omega), if_pos c4]
          congr 1
          omega
        · rw [if_neg (by omega), if_neg c4, hsi]
    · rw [if_neg c2, if_neg (by omega), if_neg (by omega)]
theorem six_hold (h : Six D) (he : D'.held = D.held ++ [(k, s)]) (hs : D'.sec = D.sec) (hl : s.length = 64) : Six D' := by
  refine ⟨fun i hi => by rw [hs] at hi ⊢; exact h.sec i hi, fun i hi => ?_⟩
  rw [he] at hi ⊢
  rw [List.length_append, List.length_singleton] at hi
  by_cases c : i < D.held.length
  · rw [List.getD_eq_getElem?_getD, List.getElem?_append_left c, ← List.getD_eq_getElem?_getD]
    exact h.held i c
  · obtain rfl : i = D.held.length := by omega
    rw [List.getD_eq_getElem?_getD, List.getElem?_append_right (Nat.le_refl _), Nat.sub_self]
    exact hl
theorem calm_flat (hc : Dk.Calm D) (h6 : Six D) (hok : DOk D) : (flushM D).2 = 0 ∧ Dk.Calm (flushM D).1 ∧ (flushM D).1.held = [] ∧ (flushM D).1.sec.length = D.sec.length ∧ Six (flushM D).1 ∧ ∀ m, flatR (flushM D).1 m = flatR D m := by
  obtain ⟨f1, f2, f3, f4⟩ := calm_flush hc
  have hl : (flushM D).1.sec.length = D.sec.length := by rw [f3, putsTo_length]
  refine ⟨f1, f4, f2, hl, ⟨fun i hi => ?_, fun i hi => by rw [f2] at hi; cases hi⟩, fun m => flat_congr (fun k _ => flush_read hc hok (by omega))⟩
  have := flush_read hc hok (k := (i : Int)) (by omega)
  have h2 : readM (flushM D).1 (i : Int) = (flushM D).1.sec.getD i [] := by unfold readM; rw [f2, Int.toNat_natCast]; rfl
  rw [← h2, this]
  exact six_read h6 (by omega)
/-- What a put leaves on a disk whose power does not go. -/
structure Over (D D' : DM) (o : Nat) (b : List Int) : Prop where
  calm : Dk.Calm D'
  held : D'.held = []
  len : D'.sec.length = D.sec.length
  six : Six D'
  ok : DOk D'
  flat : flatR D' D'.sec.length = over (flatR D D.sec.length) o b
theorem lstep_le (b : List Int) (at' : Nat) : lstep b at' ≤ b.length ∧ lstep b at' + at' % 64 ≤ 64 := by unfold lstep; omega
theorem calm_lputF (qn : Nat) : ∀ (m : Nat) (D : DM) (at' : Nat) (b : List Int), b.length < m → Dk.Calm D → Six D → DOk D → 64 * qn + at' + b.length ≤ 64 * D.sec.length → D.held.length + b.length ≤ 9000000 →
    (lputF m D (qn : Int) at' b).2 = 0 ∧ Over D (lputF m D (qn : Int) at' b).1 (64 * qn + at') b
  | 0, _, _, _, hm, _, _, _, _, _ => by omega
  | m + 1, D, at', b, hm, hc, h6, hok, hr, hh => by
    unfold lputF
    by_cases h0 : b.length = 0
    · rw [if_pos h0]
      obtain ⟨f1, f2, f3, f4, f5, f6⟩ := calm_flat hc h6 hok
      exact ⟨f1, f2, f3, f4, f5, flushM_ok hok, by rw [f4, f6, List.eq_nil_of_length_eq_zero h0, over_nil]⟩
    · rw [if_neg h0]
      obtain ⟨kn, hkn⟩ : ∃ kn, qn + at' / 64 = kn := ⟨_, rfl⟩
      have hk : (qn : Int) + ((at' / 64 : Nat) : Int) = (kn : Int) := by omega
      rw [hk]
      have hkl : kn < D.sec.length := by omega
      obtain ⟨s, hs⟩ : ∃ s, readM D (kn : Int) = s := ⟨_, rfl⟩
      have hsl : s.length = 64 := by rw [← hs]; exact six_read h6 hkl
      have hal := calm_at hc (k := (kn : Int)) (by omega) (by omega)
      have hll := lseg_length (b := b) (o := at' % 64) hsl (by omega)
      obtain ⟨w1, w2, w3, w4⟩ := calm_write hc (k := (kn : Int)) (x := lseg s b (at' % 64)) (by omega) (by omega) hll
      rw [hs, if_neg (by rw [hal]; decide), if_neg (by rw [w1]; decide)]
      obtain ⟨D1, hD1⟩ : ∃ D1, (writeM D (kn : Int) (lseg s b (at' % 64))).1 = D1 := ⟨_, rfl⟩
      have hok1 : DOk D1 := by rw [← hD1]; exact writeM_ok hok (by omega)
      rw [hD1] at w2 w3 w4 ⊢
      have h61 := six_hold h6 w2 w3 hll
      obtain ⟨t1, t2⟩ := lstep_le b at'
      have ht0 : 0 < lstep b at' := by unfold lstep; omega
      obtain ⟨r1, r2⟩ := calm_lputF qn m D1 (at' + lstep b at') (b.drop (lstep b at')) (by rw [List.length_drop]; omega) w4 h61 hok1 (by rw [List.length_drop, w3]; omega) (by rw [List.length_drop, w2, List.length_append, List.length_singleton]; omega)
      refine ⟨r1, r2.calm, r2.held, by rw [r2.len, w3], r2.six, r2.ok, ?_⟩
      have hf := flat_length h6 D.sec.length (Nat.le_refl _)
      have e1 : flatR D1 D1.sec.length = over (flatR D D.sec.length) (64 * kn) (lseg s b (at' % 64)) := by
        rw [w3]
        refine flat_write h6 h61 (by rw [w3]) hkl (by rw [readM_hold w2 w3, if_pos rfl]) (fun j _ hj => by rw [readM_hold w2 w3, if_neg (by omega)])
      have hbt : (b.take (64 - at' % 64)).length = lstep b at' := by rw [List.length_take]; rfl
      have hbt2 : b.take (64 - at' % 64) = b.take (lstep b at') := by
        unfold lstep
        by_cases c : 64 - at' % 64 ≤ b.length
        · rw [Nat.min_eq_left c]
        · rw [Nat.min_eq_right (by omega), List.take_of_length_le (by omega), List.take_length]
      have e2 : flatR D1 D1.sec.length = over (flatR D D.sec.length) (64 * qn + at') (b.take (lstep b at')) := by
        rw [e1]
        unfold lseg
        rw [over_sector (by rw [flat_sector h6 _ hkl (Nat.le_refl _), hs]) (by omega) (by rw [hbt]; omega), hbt2, show 64 * kn + at' % 64 = 64 * qn + at' by omega]
      have hbl : (b.take (lstep b at')).length = lstep b at' := by rw [List.length_take]; omega
      rw [r2.flat, e2, show 64 * qn + (at' + lstep b at') = 64 * qn + at' + (b.take (lstep b at')).length by omega, over_over (by rw [List.length_drop]; omega), List.take_append_drop]
theorem calm_lput {qn : Nat} (hc : Dk.Calm D) (h6 : Six D) (hok : DOk D) (hr : 64 * qn + at' + b.length ≤ 64 * D.sec.length) (hh : D.held.length + b.length ≤ 9000000) : (lputM D (qn : Int) at' b).2 = 0 ∧ Over D (lputM D (qn : Int) at' b).1 (64 * qn + at') b :=
  calm_lputF qn _ D at' b (Nat.lt_succ_self _) hc h6 hok hr hh
end Go.Proofs.YtfpfnolpoklefaaGreatDoor.Lo
/- Package slots: put. -/
namespace Go.Proofs.YtfpfnolpoklefaaGreatDoor.Lo
open Go.Proofs.YtfpfnolpoklefaaGreatDoor.Dk
open Go.RowKit Go.Proofs.YtfpfnolpoklefaaGreatDoorW.PrintWords Go.Proofs.YtfpfnolpoklefaaGreatDoorW.PrintLast Go.Proofs.YtfpfnolpoklefaaGreatDoorW.PrintMore
set_option linter.unusedVariables false
set_option linter.unusedSimpArgs false
set_option maxRecDepth 30000
variable {w w0 w1 w2 wr : World} {B s g g9 r o t t2 c : Nat} {F : Nat → Prop} {D D' : DM} {fr n slot size : Int} {xs hs b S : List Int} {A : Option Addr}
theorem nums_one8 (l : List Int) : ∀ v ∈ nums .u8 l, v.oneCell' = true := fun v hv => by
  simp only [nums, List.mem_map] at hv
  obtain ⟨_, _, rfl⟩ := hv
  rfl
theorem copy_old (hg : w.heap[g9]? = some (.cells zs64 t (0, 0))) (hr : w.heap[r]? = some (.cells (nums .u8 S).toArray t2 (0, 0))) (hs : S.length = 64) (ty : TypeId) :
    (Builtin.copy_ #[22, 22] ty #[.slice (some ⟨g9, 0, none⟩) 64 64, .slice (some ⟨r, 0, none⟩) 64 64]).run Tryz.prog w = .ok (goInt 64) (w.setRow g9 (nums .u8 S).toArray) := by
  have hz : zs64.toList = List.replicate 64 (.int .u8 0) := by unfold zs64; simp
  have := run_copy_row (P := Tryz.prog) w 22 22 ty 5 g9 0 64 64 ⟨r, 0, none⟩ 64 64 zs64 t (nums .u8 S) Tryz.underlying22 (by kernel_rfl) hg (by rw [nums_length, hs]; rfl) (fun j v hj => by
    have e : (⟨r, 0, none⟩ : Addr).add j = ⟨r, j, none⟩ := by unfold Addr.add; split <;> simp_all
    rw [e, World.cell?, hr]
    simpa using hj) (by rw [nums_length, hs, zs64_size]; decide) (nums_one8 S)
  rw [nums_length, hs] at this
  rw [this, hz]
  simp
theorem copy_in (hg : w.heap[g9]? = some (.cells (nums .u8 S).toArray t (0, 0))) (hs : S.length = 64) (ho : o < 64) (hC : C8 w A b) (hb : 0 < b.length) (ty : TypeId) :
    (Builtin.copy_ #[22, 22] ty #[.slice (some ⟨g9, o, none⟩) (64 - o) (64 - o), .slice A b.length c]).run Tryz.prog w = .ok (goInt (min (64 - o) b.length : Nat)) (w.setRow g9 (nums .u8 (lseg S b o)).toArray) := by
  obtain ⟨_, _, h3⟩ := hC
  obtain ⟨ad, rfl, hc⟩ := h3 hb
  have hl : (b.take (64 - o)).length = min (64 - o) b.length := List.length_take
  have := run_copy_row (P := Tryz.prog) w 22 22 ty 5 g9 o (64 - o) (64 - o) ad b.length c (nums .u8 S).toArray t (nums .u8 (b.take (64 - o))) Tryz.underlying22 (by kernel_rfl) hg (by rw [nums_length, hl]; exact Nat.min_comm _ _) (fun j v hj => by
    simp only [nums, List.getElem?_map, Option.map_eq_some_iff] at hj
    obtain ⟨q, hq, rfl⟩ := hj
    rw [List.getElem?_take] at hq
    split at hq
    · obtain ⟨cs, _, hK, hx⟩ := hc j q hq
      have := hx 0 (.int .u8 q) (by rw [hK]; rfl)
      simpa [Kd.int, Kd.scalar] using this
    · cases hq) (by rw [nums_length, hl]; simp only [List.size_toArray, nums_length, hs]; omega) (nums_one8 _)
  rw [nums_length, hl] at this
  rw [this]
  congr 3
  unfold lseg over nums
  rw [hl]
  simp
theorem run_alloc74 (w : World) : (Instr.alloc 74 true (.tuple #[])).run Tryz.prog w = .ok (.pointer (some ⟨w.heap.size, 0, none⟩)) (w.alloc (.cells zs64 74)) := by kernel_rfl
theorem goesM_down (D : DM) : (goesM D).1.down = D.down := by
  unfold goesM
  split
  · rfl
  · split <;> rfl
theorem up_write {k : Int} {x : List Int} (hd : D.down = false) (h : (writeM D k x).2 = 0) : (writeM D k x).1.down = false := by
  unfold writeM at h ⊢
  split at h
  · rename_i hk
    exact absurd h hk
  · rename_i hk
    rw [if_neg hk]
    split at h
    · exact absurd h (show ¬ ((1 : Int) = 0) by decide)
    · rename_i h64
      rw [if_neg h64]
      split at h
      · exact absurd h (show ¬ ((60 : Int) = 0) by decide)
      · rename_i hg
        rw [if_neg hg]
        show (goesM (holdM D k x)).1.down = false
        rw [goesM_down]
        exact hd
theorem dWrite64 (h : DiskAt w B g F D) (hok : DOk D) (hn : D.held.length < 10000000) (k : Int) (A : Option Addr) (c : Nat) (x : List Int) (hx : x.length = 64) (hC : Kd.C (Kd.int .u8) w A 64 x) : Calls Tryz.prog 49 #[.pointer (some ⟨g, 0, none⟩), .int .i64 k, .slice A 64 c] w fun e w' => e = .returned (.int .i64 (writeM D k x).2) ∧ DPost w w' B g F (writeM D k x).1 :=
  (Write_calls64 h hok hn k A c x hx hC).mono fun e w' ⟨h1, h2, h3⟩ => ⟨h1, DPost.of_grow h2 h3⟩
theorem dReadD (h : DiskAt w B g F D) (hok : DOk D) (k : Int) (hk : atM D k = 0) : Calls Tryz.prog 43 #[.pointer (some ⟨g, 0, none⟩), .int .i64 k] w fun e w' => e = .returned (.tuple #[.slice (some ⟨w.heap.size, 0, none⟩) 64 64, .int .i64 0]) ∧ (readM D k).length = 64 ∧ w'.heap[w.heap.size]? = some (.cells (nums .u8 (readM D k)).toArray 75 (0, 0)) ∧ Below w.heap.size w w' := by
  obtain ⟨_, _, _, h⟩ := h
  exact Read_calls h hok k hk
def LPo (w w' : World) (B s g : Nat) (F : Nat → Prop) (D' : DM) (fr n : Int) : Prop := ∃ F', (∀ k, F' k → F k ∨ w.heap.size ≤ k) ∧ LAt w' B s g F' D' fr n ∧ Upd w w' F

set_option maxHeartbeats 16000000 in
theorem put_calls (h : LAt w B s g F D fr n) (hk : LOk D fr n) (hup : D.down = false) (hs01 : slot = 0 ∨ slot = 1) (at' : Nat) (hr : ((at' + b.length : Nat) : Int) ≤ 64 * n) (hh : D.held.length + b.length ≤ 9000000) (hc : b.length ≤ c) (hC : ∀ W, Upd w W F → C8 W A b) (hB : B ≤ w.heap.size) (hlo : ∀ k, F k → B ≤ k ∧ k < w.heap.size) (q : Nat) (hq : fr + slot * n = (q : Int)) :
    Calls Tryz.prog 36 #[.pointer (some ⟨s, 0, none⟩), .int .i64 slot, .int .i64 (at' : Int), .slice A b.length c] w fun e w' => e = .returned (.int .i64 (lputM D (q : Int) at' b).2) ∧ LPo w w' B s g F (lputM D (q : Int) at' b).1 fr n := by
  have HK := Aside0.mk hk
  have H := Aside0.mk h
  have HC := Aside0.mk hC
  have HLO := Aside0.mk hlo
  have HQ := Aside0.mk hq
  have h01 : 0 ≤ slot ∧ slot ≤ 1 := by omega
  have hsl : (q : Int) + n ≤ (D.sec.length : Int) := by
    have h1 := hk.hl
    have h2 := hk.hn
    rcases hs01 with rfl | rfl <;> omega
  have hz := hk.hz
  have hn0 := hk.hn
  obtain ⟨P, hP⟩ : ∃ P, lputM D (q : Int) at' b = P := ⟨_, rfl⟩
  rw [hP]
  have HP := Aside0.mk (show lputF (b.length + 1) D (q : Int) at' b = P from hP)
  obtain ⟨bl, hbl⟩ : ∃ bl, b.length = bl := ⟨_, rfl⟩
  have hnn : n ≤ 1000 := by omega
  clear h hk hC hlo hs01 hP hq
  go_enter Tryz.func36, Tryz.ntmps36
  go_wp2_with (fail)
  go_loopw [2, 3] (fun v2 v3 w' => ∃ (D1 : DM) (F1 : Nat → Prop) (a1 : Nat) (b1 : List Int) (A1 : Option Addr) (c1 m1 : Nat), v2 = .int .i64 (a1 : Int) ∧ v3 = .slice A1 b1.length c1 ∧ b1.length < m1 ∧ a1 + b1.length = at' + bl ∧ b1.length ≤ c1 ∧ D1.sec.length = D.sec.length ∧ D1.held.length + b1.length ≤ 9000000 ∧ D1.down = false ∧ Aside0 (lputF m1 D1 (q : Int) a1 b1 = P) ∧ Aside0 (LAt w' B s g F1 D1 fr n) ∧ Aside0 (∀ k, F1 k → F k ∨ w.heap.size ≤ k) ∧ Aside0 (Upd w w' F) ∧ Aside0 (DOk D1) ∧ Aside0 (∀ W, Upd w W F → C8 W A1 b1)) (fun _ v3 _ => match v3 with | .slice _ l _ => l | _ => 0)
  case atStart => exact ⟨D, F, at', b, A, c, bl + 1, rfl, by rw [hbl], by omega, by omega, hc, rfl, hh, hup, by rw [← hbl]; exact HP, H, ⟨fun k hk => .inl hk⟩, ⟨Upd.refl _ _⟩, ⟨HK.out.d⟩, HC⟩
  case round =>
    obtain ⟨D1, F1, a1, b1, A1, c1, m1, rfl, rfl, hm1, hab, hbc, hsec, hheld, hdn, HE, HA, HF, HU, HO, HC1⟩ := hrel
    by_cases hb0 : b1.length = 0
    · obtain ⟨m, rfl⟩ : ∃ m, m1 = m + 1 := ⟨m1 - 1, by omega⟩
      have HE2 := Aside0.mk (show flushM D1 = P by have h := HE.out; unfold lputF at h; rwa [if_pos hb0] at h)
      have hcs := HA.out.c0
      rw [hb0]
      go_wp2_with (first | (go_at_call 50; (with_reducible refine (dFlush HA.out.d HO.out).mono ?_); rintro e w1 ⟨rfl, hp1⟩; have HP1 := Aside0.mk (HA.out.post hp1); clear hp1))
      go_ret
      refine ⟨by rw [HE2.out] <;> rfl, ?_⟩
      obtain ⟨F2, h1, h2, h3⟩ := HP1.out
      rw [HE2.out] at h2
      exact ⟨F2, fun k hk => (h1 k hk).elim (fun h => HF.out k h) (fun h => .inr (Nat.le_trans HU.out.size h)), h2, HU.out.trans h3 (fun k hk => HF.out k hk)⟩
    · obtain ⟨m, rfl⟩ : ∃ m, m1 = m + 1 := ⟨m1 - 1, by omega⟩
      obtain ⟨kn, hkn⟩ : ∃ kn, q + a1 / 64 = kn := ⟨_, rfl⟩
      have hkk : (q : Int) + ((a1 / 64 : Nat) : Int) = (kn : Int) := by omega
      have hkk2 : (q : Int) + (a1 : Int) / 64 = (kn : Int) := by omega
      have hkl : kn < D1.sec.length := by omega
      have hat0 : atM D1 (kn : Int) = 0 := by unfold atM; rw [hdn, if_neg (by decide), if_neg (by omega)]
      obtain ⟨S0, hS0⟩ : ∃ S0, readM D1 (kn : Int) = S0 := ⟨_, rfl⟩
      obtain ⟨o, ho⟩ : ∃ o, a1 % 64 = o := ⟨_, rfl⟩
      have ho64 : o < 64 := by omega
      obtain ⟨ln, hln⟩ : ∃ ln, lstep b1 a1 = ln := ⟨_, rfl⟩
      have hlm : min (64 - o) b1.length = ln := by rw [← hln, ← ho]; rfl
      have hln1 : ln ≤ b1.length ∧ 0 < ln := by omega
      obtain ⟨E, hE⟩ : ∃ E, (writeM D1 (kn : Int) (lseg S0 b1 o)).2 = E := ⟨_, rfl⟩
      have HPP := Aside0.mk (show (if E ≠ 0 then writeM D1 (kn : Int) (lseg S0 b1 o) else lputF m (writeM D1 (kn : Int) (lseg S0 b1 o)).1 (q : Int) (a1 + ln) (b1.drop ln)) = P by
        have h := HE.out
        unfold lputF at h
        rw [if_neg hb0, hkk, hat0, if_neg (by decide), hS0, ho, hE, hln] at h
        exact h)
      have HEE := Aside0.mk hE
      have HK1 := Aside0.mk (show LOk D1 fr n from ⟨HO.out, HK.out.hf, HK.out.hn, by rw [hsec]; exact HK.out.hl, by rw [hsec]; exact HK.out.hz⟩)
      have HAT := Aside0.mk hat0
      have HS0 := Aside0.mk hS0
      have hdv : Int.tdiv (a1 : Int) 64 = ((a1 / 64 : Nat) : Int) := by rw [Int.tdiv_eq_ediv_of_nonneg (by omega)]; omega
      have htm : Int.tmod (a1 : Int) 64 = (o : Int) := by rw [Int.tmod_eq_emod_of_nonneg (by omega)]; omega
      have hcs := HA.out.c0
      have q1 := eq_true (show (0 : Int) ≤ (o : Int) by omega)
      have q2 := eq_true (show (o : Int) ≤ 64 by omega)
      have q3 := eq_false (show ¬ 64 = o by omega)
      have q4 := eq_false (show ¬ o = 64 by omega)
      obtain ⟨AD, hAD⟩ : ∃ AD, (if c1 = ln then A1 else Option.map (fun z => z.add ln) A1) = AD := ⟨_, rfl⟩
      clear hat0 hS0 hE hln hkn
      go_wp2_with (first
        | (go_at_call 28; (with_reducible refine (place_calls HA.out HK1.out slot h01.1 h01.2).mono ?_); rintro e w1 ⟨rfl, hb1⟩; rw [HQ.out]; have HA1 := Aside0.mk (HA.out.below hb1); have HB1 := Aside0.mk hb1; have hcs1 := HA1.out.c0; clear hb1)
        | (go_at_call 43; (with_reducible refine (dReadD HA1.out.d HO.out (kn : Int) HAT.out).mono ?_); rintro e w2 ⟨rfl, hl2, hblk, hb2⟩; rw [HS0.out] at hl2 hblk; have HL2 := Aside0.mk hl2; have HA2 := Aside0.mk (HA1.out.below hb2); have HB2 := Aside0.mk hb2; have HG9 := Aside0.mk (heap_alloc_new w2 (.cells zs64 74)); have HRB := Aside0.mk (blk_below hblk (below_alloc (Below.refl w2.heap.size w2) (.cells zs64 74))); have HCO := Aside0.mk (fun ty => copy_old HG9.out HRB.out HL2.out ty); have HG4 := Aside0.mk (setRow_heap _ _ _ (nums .u8 S0).toArray _ _ HG9.out); have HB4 := Aside0.mk (below_setR (below_alloc (Below.refl w2.heap.size w2) (.cells zs64 74)) (nums .u8 S0).toArray); have HC4 := Aside0.mk (HC1.out _ ((HU.out.trans (Upd.of_below (F := F) HB1.out) (fun _ h => .inl h)).trans (Upd.of_below (F := F) HB2.out) (fun _ h => .inl h) |>.trans (Upd.of_below (F := F) HB4.out) (fun _ h => .inl h))); have HCI := Aside0.mk (fun ty => copy_in (o := o) (c := c1) HG4.out HL2.out ho64 HC4.out (by omega) ty); have HB5 := Aside0.mk (below_setR HB4.out (nums .u8 (lseg S0 b1 o)).toArray); have HA5 := Aside0.mk (HA2.out.below HB5.out); have hcs2 := HA2.out.c0; clear hl2 hblk hb2)
        | (refine wpList_alloc rfl rfl _ rfl zs64 (run_alloc74 _) ?_)
        | ((with_reducible refine copy_at (s := .tmp 36) (x := .tmp 37) (t := 22) (t' := 22) ?_ ?_ HCO.out ?_ ?_ ?_); exact rfl; exact rfl; exact rfl; exact rfl)
        | ((with_reducible refine copy_at (s := .tmp 41) (x := .tmp 42) (t := 22) (t' := 22) ?_ ?_ HCI.out ?_ ?_ ?_); exact rfl; exact rfl; exact rfl; exact rfl))
      have HC9 := Aside0.mk (C_block (setRow_heap _ _ _ (nums .u8 (lseg S0 b1 o)).toArray _ _ HG4.out) (by rw [lseg_length HL2.out ho64]; decide))
      rw [lseg_length HL2.out ho64] at HC9
      have HLS := Aside0.mk (lseg_length (b := b1) HL2.out ho64)
      obtain ⟨G9, hG9⟩ : ∃ G9, w2.heap.size = G9 := ⟨_, rfl⟩
      obtain ⟨w5, hw5⟩ : ∃ w5, ((w2.alloc (.cells zs64 74)).setRow w2.heap.size (nums .u8 S0).toArray).setRow w2.heap.size (nums .u8 (lseg S0 b1 o)).toArray = w5 := ⟨_, rfl⟩
      rw [hw5] at HA5 HB5 HC9 ⊢
      rw [hG9] at HC9 ⊢
      have HUW := Aside0.mk (show Upd w w5 F from ((HU.out.trans (Upd.of_below (F := F) HB1.out) (fun _ h => .inl h)).trans (Upd.of_below (F := F) HB2.out) (fun _ h => .inl h)).trans (Upd.of_below (F := F) HB5.out) (fun _ h => .inl h))
      have HA5D := Aside0.mk (HA5.out.below (below_drew (Below.refl w5.heap.size w5)))
      have HC9D := Aside0.mk (Kd.C_drew HC9.out)
      clear hw5 hG9 HCO HCI HG9 HG4 HRB HB4 HC4 HC9
      refine start_ (n := 8) (S := fun w' => w'.cell? ⟨s, 0, none⟩ = some (.pointer (some ⟨g, 0, none⟩))) (ds := []) (bz 8 0) (by kernel_rfl) rfl rfl (HA5D.out.c0) (fun hHeld => ?_)
      refine pz 0 (some 44) (bz 8 1) ?_
      refine pz 1 (some 45) (bz 8 3) ?_
      refine pz 2 (some 46) (bz 8 7) ?_
      refine pz 4 (some 48) (bz 8 23) ?_
      refine pz 5 (some 49) (bz 8 55) ?_
      refine tz1 3 (some 47) (bz 8 63) hHeld ?_
      refine one_ (i := 6) (N := some 50) (bz 8 127) rfl rfl (by kernel_rfl) (by decide) (fun K hK => ?_)
      refine goes_ Tryz.func49 (by kernel_rfl) rfl #[.pointer (some ⟨g, 0, none⟩), .int .i64 (kn : Int), .slice (some ⟨G9, 0, none⟩) 64 64] (by rfl) rfl rfl (by simp only [List.map_toArray, List.map_cons, List.map_nil]; rfl) ?_
      with_reducible refine (dWrite64 HA5D.out.d HO.out (by omega) (kn : Int) (some ⟨G9, 0, none⟩) 64 (lseg S0 b1 o) HLS.out HC9D.out).mono ?_
      rintro e w6 ⟨rfl, hp6⟩
      refine ⟨_, rfl, ?_⟩
      obtain ⟨F2, hf2, ha6, hu6⟩ := HA5D.out.post hp6
      have HF2 := Aside0.mk hf2
      have HA6 := Aside0.mk ha6
      have HU6 := Aside0.mk hu6
      rw [HEE.out]
      clear hp6 hf2 ha6 hu6
      refine hK.out _ _ (HA6.out.c0) (fun hHeld => ?_)
      clear hK K
      refine norm_ (a' := ?_) ?_ ?_
      rotate_left
      · show Act.put _ (some 50) _ = _
        simp only [Act.put, List.setIfInBounds_toArray, List.set_cons_zero, List.set_cons_succ, i64_w, i32_w]
        rfl
      refine pz 7 (some 14) (bz 8 255) ?_
      refine done_ (by kernel_rfl) ?_
      have HFF := Aside0.mk (show ∀ k, F2 k → F k ∨ w.heap.size ≤ k from fun k hk => (HF2.out k hk).elim (fun h => HF.out k h) (fun h => .inr (Nat.le_trans HUW.out.size h)))
      have HUU := Aside0.mk (show Upd w w6 F from HUW.out.drew.trans HU6.out (fun k hk => HF.out k hk))
      by_cases hE0 : E = 0
      · subst hE0
        have HP2 := Aside0.mk (show lputF m (writeM D1 (kn : Int) (lseg S0 b1 o)).1 (q : Int) (a1 + ln) (b1.drop ln) = P by have h := HPP.out; rwa [if_neg (by decide)] at h)
        have HHS := Aside0.mk (writeM_hs (D := D1) (kn : Int) (lseg S0 b1 o))
        have HDL := Aside0.mk (show (b1.drop ln).length = b1.length - ln from List.length_drop)
        have HCD := Aside0.mk (show ∀ W, Upd w W F → C8 W AD (b1.drop ln) from fun W hW => by
          have h := Kd.C_drop (m := ln) (c := c1) (HC1.out W hW) hln1.1 hbc
          rw [show ln * (Kd.int .u8).sz = ln from by show ln * 1 = ln; omega] at h
          rw [← hAD]
          exact h)
        have r1 := eq_true (show (ln : Int) ≤ (b1.length : Int) by omega)
        have r2 := eq_true (show (0 : Int) ≤ (ln : Int) by omega)
        have r3 := eq_true (show (ln : Int) ≤ (c1 : Int) by omega)
        have r4 := eq_true (show (b1.length : Int) ≤ (c1 : Int) by omega)
        go_wp2_with (fail)
        go_roundw
        case rel => exact ⟨(writeM D1 (kn : Int) (lseg S0 b1 o)).1, F2, a1 + ln, b1.drop ln, AD, c1 - ln, m, by go_num, by rw [HDL.out], by rw [HDL.out]; omega, by rw [HDL.out]; omega, by rw [HDL.out]; omega, by rw [HHS.out.2, hsec], by rw [HDL.out]; have := HHS.out.1; omega, up_write hdn HEE.out, HP2, HA6, HFF, HUU, ⟨writeM_ok HO.out (by omega)⟩, HCD⟩
        case measure => show b1.length - ln < b1.length; omega
      · have e1 : (E == 0) = false := beq_eq_false_iff_ne.mpr hE0
        have e2 : (E != 0) = true := bne_iff_ne.mpr hE0
        have HP2 := Aside0.mk (show writeM D1 (kn : Int) (lseg S0 b1 o) = P by have h := HPP.out; rwa [if_pos hE0] at h)
        clear hE0
        go_wp2_with (fail)
        go_ret
        refine ⟨by rw [← HP2.out, HEE.out] <;> rfl, F2, HFF.out, by rw [← HP2.out]; exact HA6.out, HUU.out⟩

end Go.Proofs.YtfpfnolpoklefaaGreatDoor.Lo
/-! ### 50. A region's order in a table, made once a region: each step asks the table (numbers alone), not the operations -/
namespace Go.Proofs.YtfpfnolpoklefaaGreatDoorW.PrintLast
open Go.Proofs.YtfpfnolpoklefaaGreatDoorW.PrintWords (Aside0)
section
variable {md : Region.Mode} {ops : Array Oper} {T : Bool × List (List Nat × List Nat)} {l l' li lj lk : Array Bool} {ds : List Nat} {i j k : Nat}
end
end Go.Proofs.YtfpfnolpoklefaaGreatDoorW.PrintLast
/-! ### 56. Four, five, six operations that may come up next, in any order -/
namespace Go.Proofs.YtfpfnolpoklefaaGreatDoorW.PrintLast
section
variable {P : Program} {ops : Array Oper} {Q : Exit → Act → World → Prop} {md : Region.Mode} {S : World → Prop} {ds : List Nat} {T : Bool × List (List Nat × List Nat)}
end
end Go.Proofs.YtfpfnolpoklefaaGreatDoorW.PrintLast
/-! ### 52. A row that stays read whatever happens to a block (a set of blocks) doesn't lie there -/
namespace Go.Proofs.YtfpfnolpoklefaaGreatDoorW.PrintWords
open Go.RowKit
namespace Kd
section
variable {α : Type} {d : Kd α} {W : World} {g n : Nat} {S ok : Nat → Prop} {A : Option Addr} {ad : Addr} {xs : List α}
end
end Kd
end Go.Proofs.YtfpfnolpoklefaaGreatDoorW.PrintWords
/-! ### 54. Behind orders that were drawn quietly: the same facts at the world's new name; a flat row's foot -/
namespace Go.Proofs.YtfpfnolpoklefaaGreatDoorW.PrintWords
open Go.RowKit
section
variable {w w' u : World} {m B g : Nat} {o : Obj} {row : Option Nat} {S : Nat → Prop} {a : Addr} {v : Value}
end
namespace Kd
section
variable {α : Type} {d : Kd α} {e base n m : Nat} {ok : Nat → Prop} {w w' : World} {v : Value} {A : Option Addr} {xs : List α}
end
end Kd
end Go.Proofs.YtfpfnolpoklefaaGreatDoorW.PrintWords
/-! ### 53. '==' of structs as_ one Bool -/
namespace Go.Proofs.YtfpfnolpoklefaaGreatDoorW.PrintWords
open Go.RowKit
section
variable {P : Program} {d : Nat} {xs ys : Array Value} {f : Field} {fs : List Field} {a b : Value} {r s : Bool} {w : World}
end
end Go.Proofs.YtfpfnolpoklefaaGreatDoorW.PrintWords
/-! ### 55. Reps told from the front, no append: for rows of one-cell elements and of wider ones -/
namespace Go.Proofs.YtfpfnolpoklefaaGreatDoorW.PrintWords
end Go.Proofs.YtfpfnolpoklefaaGreatDoorW.PrintWords
/-! ### 57. A region of open order by ONE relation over what is listed so far: each operation is shown once, whatever came up before it -/
namespace Go.Proofs.YtfpfnolpoklefaaGreatDoorW.PrintLast
/-- Number i is listed too. -/
def up (b : Nat → Bool) (i : Nat) : Nat → Bool := fun j => if j = i then true else b j
section
variable {P : Program} {ops : Array Oper} {Q : Exit → Act → World → Prop} {md : Region.Mode} {T : Bool × List (List Nat × List Nat)} {B : List Nat} {O : List Nat} {b : Nat → Bool} {i j n : Nat}
/-! The frame: what is listed has its destination filled. -/
end
end Go.Proofs.YtfpfnolpoklefaaGreatDoorW.PrintLast
namespace Go.Proofs.YtfpfnolpoklefaaGreatDoorW.PrintWords
open Go.RowKit
end Go.Proofs.YtfpfnolpoklefaaGreatDoorW.PrintWords
namespace Go.Proofs.YtfpfnolpoklefaaGreatDoorW.PrintLast
section
variable {ops : Array Oper} {a : Act} {o og : Oper} {g : Nat} {t : Tmp} {u : Bool}
end
end Go.Proofs.YtfpfnolpoklefaaGreatDoorW.PrintLast
/-! ### 58. A guarded operation whose guard is known to want it: the same goal without the guard -/
namespace Go.Proofs.YtfpfnolpoklefaaGreatDoorW.PrintWords
open Go.RowKit
section
variable {P : Program} {ops : Array Oper} {rest : List Oper} {o : Oper} {a : Act} {Q : Exit → Act → World → Prop} {W : World}
end
end Go.Proofs.YtfpfnolpoklefaaGreatDoorW.PrintWords
/- Functions of the program and of its laws, each with a Lean function and the proof that a call comes to what that function tells, under the conditions that its contract names. (Laid by a program of this session, out of the translation; Lean checks it.) -/
namespace Go.Proofs.YtfpfnolpoklefaaGreatDoor.P
open Go.RowKit Go.Proofs.YtfpfnolpoklefaaGreatDoorW.PrintWords Go.Proofs.YtfpfnolpoklefaaGreatDoorW.PrintLast Go.Proofs.YtfpfnolpoklefaaGreatDoorW.PrintMore
attribute [local go_sem] max2_int min2_int max_two min_two max_three min_three max_four min_four   -- for this text's walks alone
set_option linter.unusedVariables false
set_option linter.unusedSimpArgs false



theorem info5 : (Tryz.prog.info? 5).map (fun i => (i.zero, i.size, i.bytes)) = some (some (.int .u8 0), 1, 1) := by kernel_rfl
-- the values' own types
def rd_L1 (xs : List (List Int)) (i : Int) : (List Int) := xs.getD i.toNat ([] : List Int)
theorem at_L1 {w : World} {A : Option Addr} {n : Nat} {xs : List (List Int)} (h : Kd.C (Kd.slice 5 (Kd.int .u8)) w A n xs) (i : Int) (h0 : 0 ≤ i) (h1 : i < n) : ∃ ad A0 c0, A = some ad ∧ w.cell? (ad.add i.toNat) = some (.slice A0 (rd_L1 xs i).length c0) ∧ (rd_L1 xs i).length ≤ c0 ∧ (Kd.int .u8).C w A0 (rd_L1 xs i).length (rd_L1 xs i) := by
  obtain ⟨ad, c, e, _, hK, hc0⟩ := Kd.C_get h ([] : List Int) i h0 h1
  have hc : ∀ j u, c[j]? = some u → w.cell? (ad.add (i.toNat * 1 + j)) = some u := hc0
  obtain ⟨A0, c0, rfl, l0, g0⟩ := hK
  exact ⟨ad, A0, c0, e, by have hq := hc 0 _ rfl; rwa [Nat.mul_one, Nat.add_zero] at hq, l0, g0⟩

/-! #### struct type 24 -/
structure S24 where
  f0 : Int
  f1 : Int
  f2 : Int
  f3 : Int
  f4 : (List Int)
def k24 : Kd S24 := Kd.iso (Kd.pair (Kd.int .i64) (Kd.pair (Kd.int .i64) (Kd.pair (Kd.int .i64) (Kd.pair (Kd.int .i64) (Kd.slice 5 (Kd.int .u8)))))) (fun x : S24 => (x.f0, x.f1, x.f2, x.f3, x.f4))
theorem k24_open {w : World} {x : S24} {cs : List Value} (h : k24.K w x cs) : ∃ A4 c4, cs = [.int .i64 x.f0, .int .i64 x.f1, .int .i64 x.f2, .int .i64 x.f3, .slice A4 x.f4.length c4] ∧ x.f4.length ≤ c4 ∧ (Kd.int .u8).C w A4 x.f4.length x.f4 := by
  obtain ⟨_, _, rfl, rfl, ⟨_, _, rfl, rfl, ⟨_, _, rfl, rfl, ⟨_, _, rfl, rfl, ⟨A4, c4, rfl, l4, g4⟩⟩⟩⟩⟩ := h
  exact ⟨A4, c4, rfl, l4, g4⟩
theorem k24_mk (w : World) (x : S24) {A4 : Option Addr} {c4 : Nat} (l4 : x.f4.length ≤ c4) (g4 : (Kd.int .u8).C w A4 x.f4.length x.f4) : k24.K w x [.int .i64 x.f0, .int .i64 x.f1, .int .i64 x.f2, .int .i64 x.f3, .slice A4 x.f4.length c4] := ⟨[.int .i64 x.f0], [.int .i64 x.f1, .int .i64 x.f2, .int .i64 x.f3, .slice A4 x.f4.length c4], rfl, rfl, ⟨[.int .i64 x.f1], [.int .i64 x.f2, .int .i64 x.f3, .slice A4 x.f4.length c4], rfl, rfl, ⟨[.int .i64 x.f2], [.int .i64 x.f3, .slice A4 x.f4.length c4], rfl, rfl, ⟨[.int .i64 x.f3], [.slice A4 x.f4.length c4], rfl, rfl, ⟨A4, c4, rfl, l4, g4⟩⟩⟩⟩⟩
/-! #### struct type 53 -/
structure S53 where
  f0 : Int
  f1 : S24
  f2 : Int
  f3 : (List Int)
def k53 : Kd S53 := Kd.iso (Kd.pair (Kd.int .i64) (Kd.pair k24 (Kd.pair (Kd.int .i64) (Kd.slice 5 (Kd.int .u8))))) (fun x : S53 => (x.f0, x.f1, x.f2, x.f3))
theorem k53_open {w : World} {x : S53} {cs : List Value} (h : k53.K w x cs) : ∃ A5 c5 A7 c7, cs = [.int .i64 x.f0, .int .i64 x.f1.f0, .int .i64 x.f1.f1, .int .i64 x.f1.f2, .int .i64 x.f1.f3, .slice A5 x.f1.f4.length c5, .int .i64 x.f2, .slice A7 x.f3.length c7] ∧ x.f1.f4.length ≤ c5 ∧ (Kd.int .u8).C w A5 x.f1.f4.length x.f1.f4 ∧ x.f3.length ≤ c7 ∧ (Kd.int .u8).C w A7 x.f3.length x.f3 := by
  obtain ⟨_, _, rfl, rfl, ⟨_, _, rfl, s1, ⟨_, _, rfl, rfl, ⟨A7, c7, rfl, l7, g7⟩⟩⟩⟩ := h
  obtain ⟨A5, c5, rfl, l5, g5⟩ := k24_open s1
  exact ⟨A5, c5, A7, c7, rfl, l5, g5, l7, g7⟩
theorem k53_mk (w : World) (x : S53) {A5 : Option Addr} {c5 : Nat} (l5 : x.f1.f4.length ≤ c5) (g5 : (Kd.int .u8).C w A5 x.f1.f4.length x.f1.f4) {A7 : Option Addr} {c7 : Nat} (l7 : x.f3.length ≤ c7) (g7 : (Kd.int .u8).C w A7 x.f3.length x.f3) : k53.K w x [.int .i64 x.f0, .int .i64 x.f1.f0, .int .i64 x.f1.f1, .int .i64 x.f1.f2, .int .i64 x.f1.f3, .slice A5 x.f1.f4.length c5, .int .i64 x.f2, .slice A7 x.f3.length c7] := ⟨[.int .i64 x.f0], [.int .i64 x.f1.f0, .int .i64 x.f1.f1, .int .i64 x.f1.f2, .int .i64 x.f1.f3, .slice A5 x.f1.f4.length c5, .int .i64 x.f2, .slice A7 x.f3.length c7], rfl, rfl, ⟨[.int .i64 x.f1.f0, .int .i64 x.f1.f1, .int .i64 x.f1.f2, .int .i64 x.f1.f3, .slice A5 x.f1.f4.length c5], [.int .i64 x.f2, .slice A7 x.f3.length c7], rfl, (k24_mk w x.f1 l5 g5), ⟨[.int .i64 x.f2], [.slice A7 x.f3.length c7], rfl, rfl, ⟨A7, c7, rfl, l7, g7⟩⟩⟩⟩
end Go.Proofs.YtfpfnolpoklefaaGreatDoor.P
/- Functions of the program and of its laws, each with a Lean function and the proof that a call comes to what that function tells, under the conditions that its contract names. (Laid by a program of this session, out of the translation; Lean checks it.) -/
namespace Go.Proofs.YtfpfnolpoklefaaGreatDoor.P
open Go.RowKit Go.Proofs.YtfpfnolpoklefaaGreatDoorW.PrintWords Go.Proofs.YtfpfnolpoklefaaGreatDoorW.PrintLast Go.Proofs.YtfpfnolpoklefaaGreatDoorW.PrintMore
attribute [local go_sem] max2_int min2_int max_two min_two max_three min_three max_four min_four   -- for this text's walks alone
set_option linter.unusedVariables false
set_option linter.unusedSimpArgs false

/-! ### disk_need: function 42 -/
/-! ### merkle_Count: function 35 -/
def merkle_Count.j0 : Nat → Int → Int → Bool → Option (Int × Int)
  | 0, _, _, _ => none
  | k + 1, x0, x1, x6 => if x6 = true then (some (0, 1)) else (if x0 > 131072 then (some (0, 2)) else (if x1 = 0 then (none) else (some (wrap64 (Int.tdiv (wrap64 ((wrap64 (x0 + x1)) - 1)) x1), 0))))
def merkle_Count.f (k : Nat) (a0 : Int) (a1 : Int) : Option (Int × Int) := if a0 < 0 then (merkle_Count.j0 k a0 a1 true) else (if a1 < 64 then (merkle_Count.j0 k a0 a1 true) else (merkle_Count.j0 k a0 a1 (decide (a1 > 1024))))
set_option maxHeartbeats 8000000 in
set_option maxRecDepth 100000 in
theorem merkle_Count.calls (k : Nat) (a0 : Int) (a1 : Int) (r1 : Int) (r2 : Int) (w : World) (h : merkle_Count.f k a0 a1 = some (r1, r2)) :
    Calls Tryz.prog 35 #[.int .i64 a0, .int .i64 a1] w fun e w' => e = .returned (.tuple #[.int .i64 r1, .int .i64 r2]) ∧ Drawn0 w w' := by
  have H : (if a0 < 0 then (merkle_Count.j0 k a0 a1 true) else (if a1 < 64 then (merkle_Count.j0 k a0 a1 true) else (merkle_Count.j0 k a0 a1 (decide (a1 > 1024))))) = some (r1, r2) := h
  clear h
  have HC3 := Aside0.mk H
  clear H
  go_enter Tryz.func35, Tryz.ntmps35
  go_upto_region 1 with (fail)
  go_cut [6] (fun v6 wc => ∃ (kq : Nat) (x6_2 : Bool), v6 = .bool x6_2 ∧ Aside0 (merkle_Count.j0 kq a0 a1 x6_2 = some (r1, r2)) ∧ Aside0 (kq ≤ k) ∧ Drawn0 w wc)
  case first =>
    have H := HC3.out
    clear HC3
    by_cases c4 : a0 < 0
    · rw [if_pos c4] at H
      have c4b0 : decide (a0 < 0) = true := decide_eq_true c4
      clear c4
      (first | rw [c4b0] | (simp only [i64_w, i32_w]; rw [c4b0]) | skip)
      have H' := Aside0.mk H
      clear H
      go_wp2
      go_meet
      case rel => exact ⟨_, (true), (by first | rfl | (simp; done) | (simp [*]; done)), H', ⟨by first | omega | exact Nat.le_refl _⟩, by repeat (first | exact Drawn0.refl _ | apply Drawn0.step)⟩
    · rw [if_neg c4] at H
      have c4b0 : decide (a0 < 0) = false := decide_eq_false c4
      clear c4
      (first | rw [c4b0] | (simp only [i64_w, i32_w]; rw [c4b0]) | skip)
      by_cases c5 : a1 < 64
      · rw [if_pos c5] at H
        have c5b0 : decide (a1 < 64) = true := decide_eq_true c5
        clear c5
        have H' := Aside0.mk H
        clear H
        go_wp2
        go_meet
        case rel => exact ⟨_, (true), (by first | rfl | (simp; done) | (simp [*]; done)), H', ⟨by first | omega | exact Nat.le_refl _⟩, by repeat (first | exact Drawn0.refl _ | apply Drawn0.step)⟩
      · rw [if_neg c5] at H
        have c5b0 : decide (a1 < 64) = false := decide_eq_false c5
        clear c5
        have H' := Aside0.mk H
        clear H
        go_wp2
        go_meet
        case rel => exact ⟨_, (decide (a1 > 1024)), (by first | rfl | (simp; done) | (simp [*]; done)), H', ⟨by first | omega | exact Nat.le_refl _⟩, by repeat (first | exact Drawn0.refl _ | apply Drawn0.step)⟩
  case rest =>
    clear HC3
    try clear p2
    try clear c3
    try clear c4
    try clear c4b0
    try clear c5
    try clear c5b0
    obtain ⟨kq, x6_2, rfl, HA, HJ2, ⟨mc2, rfl⟩⟩ := hcut
    cases kq with
    | zero => exact absurd HA.out (by simp [merkle_Count.j0])
    | succ kj2 =>
      have H := HA.out
      clear HA
      simp only [merkle_Count.j0] at H
      by_cases c6 : x6_2 = true
      · subst c6
        have H1 : (some (0, 1)) = some (r1, r2) := by rw [if_pos rfl] at H; exact H
        clear H
        have H := H1
        clear H1
        simp only [Option.some.injEq, Prod.mk.injEq] at H
        obtain ⟨rfl, rfl⟩ := H
        go_wp2
        go_ret2
        exact ⟨by first | rfl | (simp; done) | (simp [*]; done), by repeat (first | exact Drawn0.refl _ | apply Drawn0.step)⟩
      · replace c6 := Bool.eq_false_iff.mpr c6
        subst c6
        have H1 : (if a0 > 131072 then (some (0, 2)) else (if a1 = 0 then (none) else (some (wrap64 (Int.tdiv (wrap64 ((wrap64 (a0 + a1)) - 1)) a1), 0)))) = some (r1, r2) := by rw [if_neg (show ¬ (false = true) by decide)] at H; exact H
        clear H
        have H := H1
        clear H1
        by_cases c7 : a0 > 131072
        · rw [if_pos c7] at H
          have c7b0 : decide (131072 < a0) = true := decide_eq_true c7
          clear c7
          simp only [Option.some.injEq, Prod.mk.injEq] at H
          obtain ⟨rfl, rfl⟩ := H
          go_wp2
          go_ret2
          exact ⟨by first | rfl | (simp; done) | (simp [*]; done), by repeat (first | exact Drawn0.refl _ | apply Drawn0.step)⟩
        · rw [if_neg c7] at H
          have c7b0 : decide (131072 < a0) = false := decide_eq_false c7
          clear c7
          by_cases c8 : a1 = 0
          · rw [if_pos c8] at H
            exact absurd H (by simp)
          · rw [if_neg c8] at H
            have c8b0 : (a1 == 0) = false := beq_eq_false_iff_ne.mpr c8
            have c8b1 : (a1 != 0) = true := bne_iff_ne.mpr c8
            simp only [Option.some.injEq, Prod.mk.injEq] at H
            obtain ⟨rfl, rfl⟩ := H
            go_wp2
            go_ret2
            exact ⟨by first | rfl | (simp; done) | (simp [*]; done), by repeat (first | exact Drawn0.refl _ | apply Drawn0.step)⟩

/-! ### sha2_turn_uint32: function 119 -/
/-! ### sha2_turn_uint64: function 121 -/
/-! ### merkle_leaves: function 54 -/
def merkle_leaves.l0 : Nat → List (List Int) → Int → Int → Option (Int)
  | 0, _, _, _ => none
  | k + 1, x8, x9, x10 => if x10 < x9 then (if 0 ≤ x10 then (if x10 < (x8.length : Int) then (if ((rd_L1 x8 x10).length : Int) = 32 then (merkle_leaves.l0 k x8 x9 (wrap64 (x10 + 1))) else (some 1)) else (none)) else (none)) else (some 0)
def merkle_leaves.f (k : Nat) (l0 : List (List Int)) : Option (Int) := if (l0.length : Int) > 4096 then (some 2) else (merkle_leaves.l0 k l0 (l0.length : Int) 0)
set_option maxHeartbeats 8000000 in
set_option maxRecDepth 100000 in
theorem merkle_leaves.calls (k : Nat) (A0 : Option Addr) (c0 : Nat) (l0 : List (List Int)) (r : Int) (w : World) (hr0 : Kd.C (Kd.slice 5 (Kd.int .u8)) w A0 l0.length l0) (hc0 : l0.length ≤ c0) (h : merkle_leaves.f k l0 = some r) :
    Calls Tryz.prog 54 #[.slice A0 l0.length c0] w fun e w' => e = .returned (.int .i64 r) ∧ Drawn0 w w' := by
  have HR0 := Aside0.mk hr0
  have HC0 := Aside0.mk hc0
  clear hr0 hc0
  have H : (if (l0.length : Int) > 4096 then (some 2) else (merkle_leaves.l0 k l0 (l0.length : Int) 0)) = some r := h
  clear h
  by_cases c2 : (l0.length : Int) > 4096
  · rw [if_pos c2] at H
    have c2b0 : decide (4096 < (l0.length : Int)) = true := decide_eq_true c2
    have c2b1 : decide (4096 < l0.length) = true := decide_eq_true (by omega)
    clear c2
    obtain rfl := Option.some.inj H
    go_enter Tryz.func54, Tryz.ntmps54
    go_wp2
    go_ret
    exact ⟨by first | rfl | (simp; done) | (simp [*]; done), by repeat (first | exact Drawn0.refl _ | apply Drawn0.step)⟩
  · rw [if_neg c2] at H
    have c2b0 : decide (4096 < (l0.length : Int)) = false := decide_eq_false c2
    have c2b1 : decide (4096 < l0.length) = false := decide_eq_false (by omega)
    clear c2
    have H' := Aside0.mk H
    clear H
    go_enter Tryz.func54, Tryz.ntmps54
    go_wp2
    go_loopg [10] k (fun kq v10 w' => ∃ (x10_1 : Int), v10 = .int .i64 x10_1 ∧ Aside0 (merkle_leaves.l0 kq l0 (l0.length : Int) x10_1 = some r) ∧ Aside0 (kq ≤ k) ∧ Drawn0 w w')
    case atStart => exact ⟨(0), (by first | rfl | (simp; done) | (simp [*]; done)), H', ⟨Nat.le_refl _⟩, by repeat (first | exact Drawn0.refl _ | apply Drawn0.step)⟩
    case round =>
      clear H'
      try clear c2
      try clear c2b0
      try clear c2b1
      try clear p2
      obtain ⟨x10_1, rfl, HA, HK1, ⟨m1, rfl⟩⟩ := hrel
      cases gk with
      | zero => exact absurd HA.out (by simp [merkle_leaves.l0])
      | succ k1 =>
        have H := HA.out
        clear HA
        simp only [merkle_leaves.l0] at H
        by_cases c3 : x10_1 < (l0.length : Int)
        · rw [if_pos c3] at H
          have c3b0 : decide (x10_1 < (l0.length : Int)) = true := decide_eq_true c3
          clear c3
          by_cases c4 : 0 ≤ x10_1
          · rw [if_pos c4] at H
            have c4b0 : decide (0 ≤ x10_1) = true := decide_eq_true c4
            clear c4
            by_cases c5 : x10_1 < (l0.length : Int)
            · rw [if_pos c5] at H
              have c5b0 : decide (x10_1 < (l0.length : Int)) = true := decide_eq_true c5
              clear c5
              by_cases c6 : ((rd_L1 l0 x10_1).length : Int) = 32
              · rw [if_pos c6] at H
                have c6b0 : (((rd_L1 l0 x10_1).length : Int) == 32) = true := beq_iff_eq.mpr c6
                have c6b1 : (((rd_L1 l0 x10_1).length : Int) != 32) = false := bne_eq_false_iff_eq.mpr c6
                clear c6
                have H' := Aside0.mk H
                clear H
                have p114 : 0 ≤ (x10_1 : Int) := of_decide_eq_true (by first | (with_reducible assumption) | assumption)
                have q114 : x10_1 < (l0.length : Int) := of_decide_eq_true (by first | (with_reducible assumption) | assumption)
                obtain ⟨ad114, A114_0, c114_0, e114, hx114_0, hl114_0, hi114_0⟩ := at_L1 HR0.out x10_1 p114 q114
                cases e114
                have HR114_0 := Aside0.mk hi114_0
                have HC114_0 := Aside0.mk hl114_0
                clear hi114_0 hl114_0
                replace p114 := eq_true p114
                replace q114 := eq_true q114
                go_wp2
                go_roundg k1
                case measure => have := HK1.out; omega
                case rel => exact ⟨(wrap64 (x10_1 + 1)), (by first | rfl | (simp; done) | (simp [*]; done)), H', ⟨by have := HK1.out; omega⟩, by repeat (first | exact Drawn0.refl _ | apply Drawn0.step)⟩
              · rw [if_neg c6] at H
                have c6b0 : (((rd_L1 l0 x10_1).length : Int) == 32) = false := beq_eq_false_iff_ne.mpr c6
                have c6b1 : (((rd_L1 l0 x10_1).length : Int) != 32) = true := bne_iff_ne.mpr c6
                obtain rfl := Option.some.inj H
                have p114 : 0 ≤ (x10_1 : Int) := of_decide_eq_true (by first | (with_reducible assumption) | assumption)
                have q114 : x10_1 < (l0.length : Int) := of_decide_eq_true (by first | (with_reducible assumption) | assumption)
                obtain ⟨ad114, A114_0, c114_0, e114, hx114_0, hl114_0, hi114_0⟩ := at_L1 HR0.out x10_1 p114 q114
                cases e114
                have HR114_0 := Aside0.mk hi114_0
                have HC114_0 := Aside0.mk hl114_0
                clear hi114_0 hl114_0
                replace p114 := eq_true p114
                replace q114 := eq_true q114
                go_wp2
                go_ret
                exact ⟨by first | rfl | (simp; done) | (simp [*]; done), by repeat (first | exact Drawn0.refl _ | apply Drawn0.step)⟩
            · rw [if_neg c5] at H
              exact absurd H (by simp)
          · rw [if_neg c4] at H
            exact absurd H (by simp)
        · rw [if_neg c3] at H
          have c3b0 : decide (x10_1 < (l0.length : Int)) = false := decide_eq_false c3
          clear c3
          obtain rfl := Option.some.inj H
          go_wp2
          go_ret
          exact ⟨by first | rfl | (simp; done) | (simp [*]; done), by repeat (first | exact Drawn0.refl _ | apply Drawn0.step)⟩

end Go.Proofs.YtfpfnolpoklefaaGreatDoor.P
/- Functions of the program and of its laws, each with a Lean function and the proof that a call comes to what that function tells, under the conditions that its contract names. (Laid by a program of this session, out of the translation; Lean checks it.) -/
namespace Go.Proofs.YtfpfnolpoklefaaGreatDoor.P
open Go.RowKit Go.Proofs.YtfpfnolpoklefaaGreatDoorW.PrintWords Go.Proofs.YtfpfnolpoklefaaGreatDoorW.PrintLast Go.Proofs.YtfpfnolpoklefaaGreatDoorW.PrintMore
attribute [local go_sem] max2_int min2_int max_two min_two max_three min_three max_four min_four   -- for this text's walks alone
set_option linter.unusedVariables false
set_option linter.unusedSimpArgs false

/-! ### bytes_Equal: function 30 -/
def bytes_Equal.f (l0 : List Int) (l1 : List Int) : Option (Bool) := some ((strOfNums l0).toList == (strOfNums l1).toList)
set_option maxHeartbeats 8000000 in
set_option maxRecDepth 100000 in
theorem bytes_Equal.calls (A0 : Option Addr) (c0 : Nat) (l0 : List Int) (A1 : Option Addr) (c1 : Nat) (l1 : List Int) (r : Bool) (w : World) (hr0 : Kd.C (Kd.int .u8) w A0 l0.length l0) (hc0 : l0.length ≤ c0) (hr1 : Kd.C (Kd.int .u8) w A1 l1.length l1) (hc1 : l1.length ≤ c1) (h : bytes_Equal.f l0 l1 = some r) :
    Calls Tryz.prog 30 #[.slice A0 l0.length c0, .slice A1 l1.length c1] w fun e w' => e = .returned (.bool r) ∧ Drawn0 w w' := by
  have HR0 := Aside0.mk hr0
  have HC0 := Aside0.mk hc0
  clear hr0 hc0
  have HR1 := Aside0.mk hr1
  have HC1 := Aside0.mk hc1
  clear hr1 hc1
  have H : (some ((strOfNums l0).toList == (strOfNums l1).toList)) = some r := h
  clear h
  obtain rfl := Option.some.inj H
  have hcv3 := Kd.C_string (P := Tryz.prog) (A := A0) (c := c0) Tryz.underlying22 Tryz.underlying5 Tryz.underlying9 HR0.out
  have hcv3d := fun m_ => Kd.C_string (P := Tryz.prog) (A := A0) (c := c0) Tryz.underlying22 Tryz.underlying5 Tryz.underlying9 (Kd.C_drewN HR0.out m_)
  have hcv3e := fun m_ n_ => Kd.C_string (P := Tryz.prog) (A := A0) (c := c0) Tryz.underlying22 Tryz.underlying5 Tryz.underlying9 (Kd.C_drewN (Kd.C_drewN HR0.out m_) n_)
  have hcv4 := Kd.C_string (P := Tryz.prog) (A := A1) (c := c1) Tryz.underlying22 Tryz.underlying5 Tryz.underlying9 HR1.out
  have hcv4d := fun m_ => Kd.C_string (P := Tryz.prog) (A := A1) (c := c1) Tryz.underlying22 Tryz.underlying5 Tryz.underlying9 (Kd.C_drewN HR1.out m_)
  have hcv4e := fun m_ n_ => Kd.C_string (P := Tryz.prog) (A := A1) (c := c1) Tryz.underlying22 Tryz.underlying5 Tryz.underlying9 (Kd.C_drewN (Kd.C_drewN HR1.out m_) n_)
  go_enter Tryz.func30, Tryz.ntmps30
  go_wp2
  go_ret
  exact ⟨by first | rfl | (simp; done) | (simp [*]; done), by repeat (first | exact Drawn0.refl _ | apply Drawn0.step)⟩

/-! ### vocab_limits: function 57 -/
/-! ### bytes_HasPrefix: function 116 -/
/-! ### imprimaturref01_SameBytes: function 18 -/
/-! ### imprimaturlaw13_wide: function 15 -/
def imprimaturlaw13_wide.f (l0 : List Int) (a1 : Int) : Option (Bool) := if (l0.length : Int) > 9000 then (some true) else (some (decide (a1 > 200)))
set_option maxHeartbeats 8000000 in
set_option maxRecDepth 100000 in
theorem imprimaturlaw13_wide.calls (A0 : Option Addr) (c0 : Nat) (l0 : List Int) (a1 : Int) (r : Bool) (w : World) (hr0 : Kd.C (Kd.int .u8) w A0 l0.length l0) (hc0 : l0.length ≤ c0) (h : imprimaturlaw13_wide.f l0 a1 = some r) :
    Calls Tryz.prog 15 #[.slice A0 l0.length c0, .int .i64 a1] w fun e w' => e = .returned (.bool r) ∧ Drawn0 w w' := by
  have HR0 := Aside0.mk hr0
  have HC0 := Aside0.mk hc0
  clear hr0 hc0
  have H : (if (l0.length : Int) > 9000 then (some true) else (some (decide (a1 > 200)))) = some r := h
  clear h
  by_cases c3 : (l0.length : Int) > 9000
  · rw [if_pos c3] at H
    have c3b0 : decide (9000 < (l0.length : Int)) = true := decide_eq_true c3
    have c3b1 : decide (9000 < l0.length) = true := decide_eq_true (by omega)
    clear c3
    obtain rfl := Option.some.inj H
    go_enter Tryz.func15, Tryz.ntmps15
    go_wp2
    go_ret
    exact ⟨by first | rfl | (simp; done) | (simp [*]; done), by repeat (first | exact Drawn0.refl _ | apply Drawn0.step)⟩
  · rw [if_neg c3] at H
    have c3b0 : decide (9000 < (l0.length : Int)) = false := decide_eq_false c3
    have c3b1 : decide (9000 < l0.length) = false := decide_eq_false (by omega)
    clear c3
    obtain rfl := Option.some.inj H
    go_enter Tryz.func15, Tryz.ntmps15
    go_wp2
    go_ret
    exact ⟨by first | rfl | (simp; done) | (simp [*]; done), by repeat (first | exact Drawn0.refl _ | apply Drawn0.step)⟩

/-! ### imprimaturlaw13_long: function 16 -/
/-! ### imprimaturref13_Open: function 37 -/
/-! ### imprimaturref13_Slots_bad: function 38 -/
/-! ### imprimaturref06_Count: function 39 -/
mutual
def imprimaturref06_Count.j0 : Nat → Int → Int → Bool → Option (Int × Int)
  | 0, _, _, _ => none
  | k + 1, x0, x1, x16 => if x16 = true then (some (0, 1)) else (if x0 > 131072 then (some (0, 2)) else (imprimaturref06_Count.l0 k x0 x1 0))
def imprimaturref06_Count.l0 : Nat → Int → Int → Int → Option (Int × Int)
  | 0, _, _, _ => none
  | k + 1, x0, x1, x6 => if x0 > 0 then (imprimaturref06_Count.l0 k (wrap64 (x0 - x1)) x1 (wrap64 (x6 + 1))) else (some (x6, 0))
end
def imprimaturref06_Count.f (k : Nat) (a0 : Int) (a1 : Int) : Option (Int × Int) := if a0 < 0 then (imprimaturref06_Count.j0 k a0 a1 true) else (if a1 < 64 then (imprimaturref06_Count.j0 k a0 a1 true) else (imprimaturref06_Count.j0 k a0 a1 (decide (a1 > 1024))))
set_option maxHeartbeats 8000000 in
set_option maxRecDepth 100000 in
theorem imprimaturref06_Count.calls (k : Nat) (a0 : Int) (a1 : Int) (r1 : Int) (r2 : Int) (w : World) (h : imprimaturref06_Count.f k a0 a1 = some (r1, r2)) :
    Calls Tryz.prog 39 #[.int .i64 a0, .int .i64 a1] w fun e w' => e = .returned (.tuple #[.int .i64 r1, .int .i64 r2]) ∧ Drawn0 w w' := by
  have H : (if a0 < 0 then (imprimaturref06_Count.j0 k a0 a1 true) else (if a1 < 64 then (imprimaturref06_Count.j0 k a0 a1 true) else (imprimaturref06_Count.j0 k a0 a1 (decide (a1 > 1024))))) = some (r1, r2) := h
  clear h
  have HC3 := Aside0.mk H
  clear H
  go_enter Tryz.func39, Tryz.ntmps39
  go_upto_region 1 with (fail)
  go_cut [16] (fun v16 wc => ∃ (kq : Nat) (x16_2 : Bool), v16 = .bool x16_2 ∧ Aside0 (imprimaturref06_Count.j0 kq a0 a1 x16_2 = some (r1, r2)) ∧ Aside0 (kq ≤ k) ∧ Drawn0 w wc)
  case first =>
    have H := HC3.out
    clear HC3
    by_cases c4 : a0 < 0
    · rw [if_pos c4] at H
      have c4b0 : decide (a0 < 0) = true := decide_eq_true c4
      clear c4
      (first | rw [c4b0] | (simp only [i64_w, i32_w]; rw [c4b0]) | skip)
      have H' := Aside0.mk H
      clear H
      go_wp2
      go_meet
      case rel => exact ⟨_, (true), (by first | rfl | (simp; done) | (simp [*]; done)), H', ⟨by first | omega | exact Nat.le_refl _⟩, by repeat (first | exact Drawn0.refl _ | apply Drawn0.step)⟩
    · rw [if_neg c4] at H
      have c4b0 : decide (a0 < 0) = false := decide_eq_false c4
      clear c4
      (first | rw [c4b0] | (simp only [i64_w, i32_w]; rw [c4b0]) | skip)
      by_cases c5 : a1 < 64
      · rw [if_pos c5] at H
        have c5b0 : decide (a1 < 64) = true := decide_eq_true c5
        clear c5
        have H' := Aside0.mk H
        clear H
        go_wp2
        go_meet
        case rel => exact ⟨_, (true), (by first | rfl | (simp; done) | (simp [*]; done)), H', ⟨by first | omega | exact Nat.le_refl _⟩, by repeat (first | exact Drawn0.refl _ | apply Drawn0.step)⟩
      · rw [if_neg c5] at H
        have c5b0 : decide (a1 < 64) = false := decide_eq_false c5
        clear c5
        have H' := Aside0.mk H
        clear H
        go_wp2
        go_meet
        case rel => exact ⟨_, (decide (a1 > 1024)), (by first | rfl | (simp; done) | (simp [*]; done)), H', ⟨by first | omega | exact Nat.le_refl _⟩, by repeat (first | exact Drawn0.refl _ | apply Drawn0.step)⟩
  case rest =>
    clear HC3
    try clear p2
    try clear c3
    try clear c4
    try clear c4b0
    try clear c5
    try clear c5b0
    obtain ⟨kq, x16_2, rfl, HA, HJ2, ⟨mc2, rfl⟩⟩ := hcut
    cases kq with
    | zero => exact absurd HA.out (by simp [imprimaturref06_Count.j0])
    | succ kj2 =>
      have H := HA.out
      clear HA
      simp only [imprimaturref06_Count.j0] at H
      by_cases c6 : x16_2 = true
      · subst c6
        have H1 : (some (0, 1)) = some (r1, r2) := by rw [if_pos rfl] at H; exact H
        clear H
        have H := H1
        clear H1
        simp only [Option.some.injEq, Prod.mk.injEq] at H
        obtain ⟨rfl, rfl⟩ := H
        go_wp2
        go_ret2
        exact ⟨by first | rfl | (simp; done) | (simp [*]; done), by repeat (first | exact Drawn0.refl _ | apply Drawn0.step)⟩
      · replace c6 := Bool.eq_false_iff.mpr c6
        subst c6
        have H1 : (if a0 > 131072 then (some (0, 2)) else (imprimaturref06_Count.l0 kj2 a0 a1 0)) = some (r1, r2) := by rw [if_neg (show ¬ (false = true) by decide)] at H; exact H
        clear H
        have H := H1
        clear H1
        by_cases c7 : a0 > 131072
        · rw [if_pos c7] at H
          have c7b0 : decide (131072 < a0) = true := decide_eq_true c7
          clear c7
          simp only [Option.some.injEq, Prod.mk.injEq] at H
          obtain ⟨rfl, rfl⟩ := H
          go_wp2
          go_ret2
          exact ⟨by first | rfl | (simp; done) | (simp [*]; done), by repeat (first | exact Drawn0.refl _ | apply Drawn0.step)⟩
        · rw [if_neg c7] at H
          have c7b0 : decide (131072 < a0) = false := decide_eq_false c7
          clear c7
          have H' := Aside0.mk H
          clear H
          go_wp2
          go_loopg [0, 6] kj2 (fun kq v0 v6 w' => ∃ (x0_2 : Int) (x6_2 : Int), v0 = .int .i64 x0_2 ∧ v6 = .int .i64 x6_2 ∧ Aside0 (imprimaturref06_Count.l0 kq x0_2 a1 x6_2 = some (r1, r2)) ∧ Aside0 (kq ≤ kj2) ∧ Drawn0 w w')
          case atStart => exact ⟨(a0), (0), (by first | rfl | (simp; done) | (simp [*]; done)), (by first | rfl | (simp; done) | (simp [*]; done)), H', ⟨Nat.le_refl _⟩, by repeat (first | exact Drawn0.refl _ | apply Drawn0.step)⟩
          case round =>
            clear H'
            try clear c2
            try clear p2
            try clear c3
            try clear c4
            try clear c4b0
            try clear c5
            try clear c5b0
            try clear c6
            try clear c7
            try clear c7b0
            try clear p2
            obtain ⟨x0_2, x6_2, rfl, rfl, HA, HK2, ⟨m2, rfl⟩⟩ := hrel
            cases gk with
            | zero => exact absurd HA.out (by simp [imprimaturref06_Count.l0])
            | succ k2 =>
              have H := HA.out
              clear HA
              simp only [imprimaturref06_Count.l0] at H
              by_cases c8 : x0_2 > 0
              · rw [if_pos c8] at H
                have c8b0 : decide (0 < x0_2) = true := decide_eq_true c8
                clear c8
                have H' := Aside0.mk H
                clear H
                go_wp2
                go_roundg k2
                case measure => have := HJ2.out; have := HK2.out; omega
                case rel => exact ⟨(wrap64 (x0_2 - a1)), (wrap64 (x6_2 + 1)), (by first | rfl | (simp; done) | (simp [*]; done)), (by first | rfl | (simp; done) | (simp [*]; done)), H', ⟨by have := HJ2.out; have := HK2.out; omega⟩, by repeat (first | exact Drawn0.refl _ | apply Drawn0.step)⟩
              · rw [if_neg c8] at H
                have c8b0 : decide (0 < x0_2) = false := decide_eq_false c8
                clear c8
                simp only [Option.some.injEq, Prod.mk.injEq] at H
                obtain ⟨rfl, rfl⟩ := H
                go_wp2
                go_ret2
                exact ⟨by first | rfl | (simp; done) | (simp [*]; done), by repeat (first | exact Drawn0.refl _ | apply Drawn0.step)⟩

end Go.Proofs.YtfpfnolpoklefaaGreatDoor.P
/- Functions of the program and of its laws, each with a Lean function and the proof that a call comes to what that function tells, under the conditions that its contract names. (Laid by a program of this session, out of the translation; Lean checks it.) -/
namespace Go.Proofs.YtfpfnolpoklefaaGreatDoor.P
open Go.RowKit Go.Proofs.YtfpfnolpoklefaaGreatDoorW.PrintWords Go.Proofs.YtfpfnolpoklefaaGreatDoorW.PrintLast Go.Proofs.YtfpfnolpoklefaaGreatDoorW.PrintMore
attribute [local go_sem] max2_int min2_int max_two min_two max_three min_three max_four min_four   -- for this text's walks alone
set_option linter.unusedVariables false
set_option linter.unusedSimpArgs false

/-! ### imprimaturref13_Slots_Put: function 19 -/
end Go.Proofs.YtfpfnolpoklefaaGreatDoor.P
/- Package slots: Put. -/
namespace Go.Proofs.YtfpfnolpoklefaaGreatDoor.Lo
open Go.Proofs.YtfpfnolpoklefaaGreatDoor.Dk
open Go.RowKit Go.Proofs.YtfpfnolpoklefaaGreatDoorW.PrintWords Go.Proofs.YtfpfnolpoklefaaGreatDoorW.PrintLast Go.Proofs.YtfpfnolpoklefaaGreatDoorW.PrintMore
set_option linter.unusedVariables false
set_option linter.unusedSimpArgs false
set_option maxRecDepth 30000
attribute [local go_sem] max2_int min2_int max_two min_two
variable {w w0 w1 w2 wr : World} {B s g c : Nat} {F : Nat → Prop} {D D' : DM} {fr n slot z ch pl : Int} {b rt : List Int} {A : Option Addr}
/-- Count: the number, the error. -/
def countE (z ch : Int) : Int := if z < 0 ∨ ch < 64 ∨ 1024 < ch then 1 else if 131072 < z then 2 else 0
def countN (z ch : Int) : Int := (z + ch - 1) / ch
theorem count_calls (z ch : Int) : Calls Tryz.prog 35 #[.int .i64 z, .int .i64 ch] w fun e w' => e = .returned (.tuple #[.int .i64 (if countE z ch = 0 then countN z ch else 0), .int .i64 (countE z ch)]) ∧ Drawn0 w w' := by
  refine P.merkle_Count.calls 1 z ch _ _ w ?_
  unfold P.merkle_Count.f
  by_cases h1 : z < 0
  · have hE : countE z ch = 1 := by unfold countE; rw [if_pos (.inl h1)]
    rw [hE, if_pos h1, P.merkle_Count.j0, if_pos rfl, if_neg (by decide)]
  · rw [if_neg h1]
    by_cases h2 : ch < 64
    · have hE : countE z ch = 1 := by unfold countE; rw [if_pos (.inr (.inl h2))]
      rw [hE, if_pos h2, P.merkle_Count.j0, if_pos rfl, if_neg (by decide)]
    · rw [if_neg h2]
      by_cases h3 : 1024 < ch
      · have hE : countE z ch = 1 := by unfold countE; rw [if_pos (.inr (.inr h3))]
        rw [hE, P.merkle_Count.j0, if_pos (decide_eq_true h3), if_neg (by decide)]
      · rw [P.merkle_Count.j0, if_neg (show ¬ decide (ch > 1024) = true by simpa using h3)]
        by_cases h4 : 131072 < z
        · have hE : countE z ch = 2 := by unfold countE; rw [if_neg (show ¬ (z < 0 ∨ ch < 64 ∨ 1024 < ch) by omega), if_pos h4]
          rw [hE, if_pos h4, if_neg (by decide)]
        · have hE : countE z ch = 0 := by unfold countE; rw [if_neg (show ¬ (z < 0 ∨ ch < 64 ∨ 1024 < ch) by omega), if_neg h4]
          rw [hE, if_neg h4, if_neg (by omega), if_pos rfl]
          have e1 : wrap64 (wrap64 (z + ch) - 1) = z + ch - 1 := by
            have : wrap64 (z + ch) = z + ch := by simp only [wrap64]; omega
            rw [this]; simp only [wrap64]; omega
          have e2 : Int.tdiv (z + ch - 1) ch = countN z ch := by unfold countN; exact Int.tdiv_eq_ediv_of_nonneg (by omega)
          have e3 : 0 ≤ countN z ch ∧ countN z ch ≤ z + ch := by
            unfold countN
            refine ⟨Int.ediv_nonneg (by omega) (by omega), ?_⟩
            have := Int.ediv_le_self (a := z + ch - 1) ch (by omega)
            omega
          rw [e1, e2, show wrap64 (countN z ch) = countN z ch by simp only [wrap64]; omega]
/-- Put: the disk, the error. -/
def lPutM (D : DM) (fr n slot z ch pl : Int) (b : List Int) : DM × Int :=
  if lreadyM D n slot z ≠ 0 then (D, lreadyM D n slot z)
  else if countE z ch ≠ 0 ∨ pl < 0 ∨ countN z ch ≤ pl then (D, 1)
  else if (b.length : Int) ≠ min ch (z - pl * ch) then (D, 1)
  else lputM D (fr + slot * n) (pl * ch).toNat b
theorem lready_zero (h : lreadyM D n slot z = 0) : D.down = false ∧ (slot = 0 ∨ slot = 1) ∧ z ≤ 64 * n := by
  unfold lreadyM at h
  split at h
  · exact absurd h (show ¬ ((60 : Int) = 0) by decide)
  · rename_i hd
    split at h
    · exact absurd h (show ¬ ((110 : Int) = 0) by decide)
    · rename_i h2
      refine ⟨by simpa using hd, by omega, by omega⟩
theorem count_zero (h : countE z ch = 0) : 0 ≤ z ∧ 64 ≤ ch ∧ ch ≤ 1024 ∧ z ≤ 131072 := by
  unfold countE at h
  split at h
  · exact absurd h (show ¬ ((1 : Int) = 0) by decide)
  · split at h
    · exact absurd h (show ¬ ((2 : Int) = 0) by decide)
    · omega
theorem place_le (h : countE z ch = 0) (h0 : 0 ≤ pl) (h1 : pl < countN z ch) : 0 ≤ pl * ch ∧ pl * ch < z := by
  obtain ⟨a1, a2, a3, a4⟩ := count_zero h
  have e1 : countN z ch * ch ≤ z + ch - 1 := by unfold countN; exact Int.ediv_mul_le _ (by omega)
  have e2 : (pl + 1) * ch ≤ countN z ch * ch := Int.mul_le_mul_of_nonneg_right (by omega) (by omega)
  rw [Int.add_mul, Int.one_mul] at e2
  exact ⟨Int.mul_nonneg h0 (by omega), by omega⟩
abbrev Tgt (ver exp z ch : Int) (Ar : Option Addr) (nr cr : Nat) : Value := .agg #[.int .i64 ver, .int .i64 exp, .int .i64 z, .int .i64 ch, .slice Ar nr cr]
set_option maxHeartbeats 16000000 in
theorem Put_calls (h : LAt w B s g F D fr n) (hk : LOk D fr n) (ver exp : Int) (Ar : Option Addr) (nr cr : Nat) (hh : D.held.length + b.length ≤ 9000000) (hc : b.length ≤ c) (hC : ∀ W, Upd w W F → C8 W A b) (hB : B ≤ w.heap.size) (hlo : ∀ k, F k → B ≤ k ∧ k < w.heap.size) :
    Calls Tryz.prog 13 #[.pointer (some ⟨s, 0, none⟩), .int .i64 slot, Tgt ver exp z ch Ar nr cr, .int .i64 pl, .slice A b.length c] w fun e w' => e = .returned (.int .i64 (lPutM D fr n slot z ch pl b).2) ∧ LPo w w' B s g F (lPutM D fr n slot z ch pl b).1 fr n := by
  have HK := Aside0.mk hk
  have H := Aside0.mk h
  have HC := Aside0.mk hC
  have HLO := Aside0.mk hlo
  have HSM : Aside0 (LPo w w B s g F D fr n) := ⟨⟨F, fun k hk => .inl hk, h, Upd.refl _ _⟩⟩
  clear h hk hC hlo
  unfold Tgt
  by_cases hr : lreadyM D n slot z = 0
  · obtain ⟨z1, z2, z3⟩ := lready_zero hr
    have HR := Aside0.mk hr
    obtain ⟨N, hN⟩ : ∃ N, (if countE z ch = 0 then countN z ch else 0) = N := ⟨_, rfl⟩
    obtain ⟨E, hE⟩ : ∃ E, countE z ch = E := ⟨_, rfl⟩
    have HCT := Aside0.mk (show ∀ W, Calls Tryz.prog 35 #[.int .i64 z, .int .i64 ch] W fun e w' => e = .returned (.tuple #[.int .i64 N, .int .i64 E]) ∧ Drawn0 W w' from fun W => by have h := count_calls (w := W) z ch; rwa [hN, hE] at h)
    have HF := Aside0.mk (show lPutM D fr n slot z ch pl b = if E ≠ 0 ∨ pl < 0 ∨ countN z ch ≤ pl then (D, 1) else if (b.length : Int) ≠ min ch (z - pl * ch) then (D, 1) else lputM D (fr + slot * n) (pl * ch).toNat b by unfold lPutM; rw [hr, if_neg (by decide), hE])
    have HEND := Aside0.mk (show ∀ v m, LPo w ((w.alloc (.cells v 24)).drewN m) B s g F D fr n from fun v m => ⟨F, fun k hk => .inl hk, H.out.below (pw_below_drewN (below_alloc (Below.refl w.heap.size w) _) m), Upd.of_below (pw_below_drewN (below_alloc (Below.refl w.heap.size w) _) m)⟩)
    clear hr
    by_cases hE0 : E = 0
    · subst hE0
      rw [hE, if_pos rfl] at hN
      by_cases hp0 : pl < 0
      · have HP := Aside0.mk (show lPutM D fr n slot z ch pl b = (D, 1) by rw [HF.out, if_pos (.inr (.inl hp0))])
        have qp : decide (pl < 0) = true := decide_eq_true hp0
        clear hE hN hp0 HF
        go_enter Tryz.func13, Tryz.ntmps13
        go_wp2_with (first | (go_at_call 26; (with_reducible refine (lready_calls (H.out.below (below_alloc (Below.refl w.heap.size w) _)) HK.out).mono ?_); rintro e w1 ⟨rfl, rfl⟩; rw [HR.out]) | (go_at_call 35; (with_reducible refine (HCT.out _).mono ?_); rintro e w2 ⟨rfl, m2, rfl⟩))
        go_ret
        exact ⟨by rw [HP.out] <;> rfl, by rw [HP.out]; exact HEND.out _ _⟩
      have qp : decide (pl < 0) = false := decide_eq_false hp0
      by_cases hpn : N ≤ pl
      · have HP := Aside0.mk (show lPutM D fr n slot z ch pl b = (D, 1) by rw [HF.out, if_pos (.inr (.inr (by rw [hN]; exact hpn)))])
        have qn : decide (pl ≥ N) = true := decide_eq_true hpn
        have qn2 : decide (N ≤ pl) = true := decide_eq_true hpn
        clear hE hN hp0 hpn HF
        go_enter Tryz.func13, Tryz.ntmps13
        go_wp2_with (first | (go_at_call 26; (with_reducible refine (lready_calls (H.out.below (below_alloc (Below.refl w.heap.size w) _)) HK.out).mono ?_); rintro e w1 ⟨rfl, rfl⟩; rw [HR.out]) | (go_at_call 35; (with_reducible refine (HCT.out _).mono ?_); rintro e w2 ⟨rfl, m2, rfl⟩))
        go_ret
        exact ⟨by rw [HP.out] <;> rfl, by rw [HP.out]; exact HEND.out _ _⟩
      have qn : decide (pl ≥ N) = false := decide_eq_false hpn
      have qn2 : decide (N ≤ pl) = false := decide_eq_false hpn
      obtain ⟨p1, p2⟩ := place_le hE (by omega) (show pl < countN z ch by rw [hN]; omega)
      obtain ⟨c1, c2, c3, c4⟩ := count_zero hE
      obtain ⟨at', hat⟩ : ∃ at' : Nat, pl * ch = (at' : Int) := ⟨(pl * ch).toNat, by rw [Int.toNat_of_nonneg p1]⟩
      have hw1 : wrap64 (pl * ch) = (at' : Int) := by rw [hat]; simp only [wrap64]; omega
      have hw1' : IntKind.i64.wrap (pl * ch) = (at' : Int) := (i64_w _).trans hw1
      have hw2 : wrap64 (z - (at' : Int)) = z - (at' : Int) := by simp only [wrap64]; omega
      have hw2' : IntKind.i64.wrap (z - (at' : Int)) = z - (at' : Int) := (i64_w _).trans hw2
      obtain ⟨M, hM⟩ : ∃ M, min ch (z - (at' : Int)) = M := ⟨_, rfl⟩
      by_cases hlen : (b.length : Int) = M
      · by_cases hml : ch ≤ z - (at' : Int)
        · obtain ⟨q, hq⟩ : ∃ q : Nat, fr + slot * n = (q : Int) := by
            have hf := HK.out.hf
            have hn0 := HK.out.hn
            rcases z2 with rfl | rfl
            · exact ⟨fr.toNat, by rw [Int.zero_mul, Int.add_zero, Int.toNat_of_nonneg hf]⟩
            · exact ⟨(fr + n).toNat, by rw [Int.one_mul, Int.toNat_of_nonneg (by omega)]⟩
          have HP := Aside0.mk (show lPutM D fr n slot z ch pl b = lputM D (q : Int) at' b by rw [HF.out, if_neg (by rw [hN]; omega), hat, hM, if_neg (fun h => h hlen), hq, Int.toNat_natCast])
          have hbz : ((at' + b.length : Nat) : Int) ≤ 64 * n := by omega
          have HPC := Aside0.mk (show ∀ v m, Calls Tryz.prog 36 #[.pointer (some ⟨s, 0, none⟩), .int .i64 slot, .int .i64 (at' : Int), .slice A b.length c] ((w.alloc (.cells v 24)).drewN m) fun e w' => e = .returned (.int .i64 (lputM D (q : Int) at' b).2) ∧ LPo w w' B s g F (lputM D (q : Int) at' b).1 fr n from fun v m => by
            have hb := pw_below_drewN (below_alloc (Below.refl w.heap.size w) (.cells v 24)) m
            have hu := Upd.of_below (F := F) hb
            refine (put_calls (H.out.below hb) HK.out z1 z2 at' hbz hh hc (fun W hW => HC.out W (hu.trans hW (fun _ h => .inl h))) (Nat.le_trans hB hb.size) (fun k hk => ⟨(HLO.out k hk).1, Nat.lt_of_lt_of_le (HLO.out k hk).2 hb.size⟩) q hq).mono ?_
            rintro e w' ⟨rfl, F', h1, h2, h3⟩
            exact ⟨rfl, F', fun k hk => (h1 k hk).imp id (fun h => Nat.le_trans hb.size h), h2, hu.trans h3 (fun _ h => .inl h)⟩)
          have e1 : ((b.length : Int) == ch) = true := by rw [beq_iff_eq]; omega
          have e2 : ((b.length : Int) != ch) = false := by rw [bne_eq_false_iff_eq]; omega
          have m1 := eq_true (show ch ≤ z - (at' : Int) from hml)
          have m2 := eq_false (show ¬ z - (at' : Int) < ch by omega)
          have m3 := eq_false (show ¬ ch > z - (at' : Int) by omega)
          clear hE hN hp0 hpn HF hlen hat hM hml hbz hq
          go_enter Tryz.func13, Tryz.ntmps13
          go_wp2_with (first | (go_at_call 26; (with_reducible refine (lready_calls (H.out.below (below_alloc (Below.refl w.heap.size w) _)) HK.out).mono ?_); rintro e w1 ⟨rfl, rfl⟩; rw [HR.out]) | (go_at_call 35; (with_reducible refine (HCT.out _).mono ?_); rintro e w2 ⟨rfl, m2, rfl⟩) | (go_at_call 36; (with_reducible refine (HPC.out _ _).mono ?_); rintro e w3 ⟨rfl, hend⟩; have HEND2 := Aside0.mk hend; clear hend))
          go_ret
          exact ⟨by rw [HP.out] <;> rfl, by rw [HP.out]; exact HEND2.out⟩
        · obtain ⟨q, hq⟩ : ∃ q : Nat, fr + slot * n = (q : Int) := by
            have hf := HK.out.hf
            have hn0 := HK.out.hn
            rcases z2 with rfl | rfl
            · exact ⟨fr.toNat, by rw [Int.zero_mul, Int.add_zero, Int.toNat_of_nonneg hf]⟩
            · exact ⟨(fr + n).toNat, by rw [Int.one_mul, Int.toNat_of_nonneg (by omega)]⟩
          have HP := Aside0.mk (show lPutM D fr n slot z ch pl b = lputM D (q : Int) at' b by rw [HF.out, if_neg (by rw [hN]; omega), hat, hM, if_neg (fun h => h hlen), hq, Int.toNat_natCast])
          have hbz : ((at' + b.length : Nat) : Int) ≤ 64 * n := by omega
          have HPC := Aside0.mk (show ∀ v m, Calls Tryz.prog 36 #[.pointer (some ⟨s, 0, none⟩), .int .i64 slot, .int .i64 (at' : Int), .slice A b.length c] ((w.alloc (.cells v 24)).drewN m) fun e w' => e = .returned (.int .i64 (lputM D (q : Int) at' b).2) ∧ LPo w w' B s g F (lputM D (q : Int) at' b).1 fr n from fun v m => by
            have hb := pw_below_drewN (below_alloc (Below.refl w.heap.size w) (.cells v 24)) m
            have hu := Upd.of_below (F := F) hb
            refine (put_calls (H.out.below hb) HK.out z1 z2 at' hbz hh hc (fun W hW => HC.out W (hu.trans hW (fun _ h => .inl h))) (Nat.le_trans hB hb.size) (fun k hk => ⟨(HLO.out k hk).1, Nat.lt_of_lt_of_le (HLO.out k hk).2 hb.size⟩) q hq).mono ?_
            rintro e w' ⟨rfl, F', h1, h2, h3⟩
            exact ⟨rfl, F', fun k hk => (h1 k hk).imp id (fun h => Nat.le_trans hb.size h), h2, hu.trans h3 (fun _ h => .inl h)⟩)
          have e1 : ((b.length : Int) == (z - (at' : Int))) = true := by rw [beq_iff_eq]; omega
          have e2 : ((b.length : Int) != (z - (at' : Int))) = false := by rw [bne_eq_false_iff_eq]; omega
          have m1 := eq_false (show ¬ ch ≤ z - (at' : Int) from hml)
          have m2 := eq_true (show z - (at' : Int) < ch by omega)
          have m3 := eq_true (show ch > z - (at' : Int) by omega)
          clear hE hN hp0 hpn HF hlen hat hM hml hbz hq
          go_enter Tryz.func13, Tryz.ntmps13
          go_wp2_with (first | (go_at_call 26; (with_reducible refine (lready_calls (H.out.below (below_alloc (Below.refl w.heap.size w) _)) HK.out).mono ?_); rintro e w1 ⟨rfl, rfl⟩; rw [HR.out]) | (go_at_call 35; (with_reducible refine (HCT.out _).mono ?_); rintro e w2 ⟨rfl, m2, rfl⟩) | (go_at_call 36; (with_reducible refine (HPC.out _ _).mono ?_); rintro e w3 ⟨rfl, hend⟩; have HEND2 := Aside0.mk hend; clear hend))
          go_ret
          exact ⟨by rw [HP.out] <;> rfl, by rw [HP.out]; exact HEND2.out⟩
      · have HP := Aside0.mk (show lPutM D fr n slot z ch pl b = (D, 1) by rw [HF.out, if_neg (by rw [hN]; omega), hat, hM, if_pos hlen])
        have e1 : ((b.length : Int) == M) = false := beq_eq_false_iff_ne.mpr hlen
        have e2 : ((b.length : Int) != M) = true := bne_iff_ne.mpr hlen
        clear hE hN hp0 hpn HF hlen hat
        go_enter Tryz.func13, Tryz.ntmps13
        go_wp2_with (first | (go_at_call 26; (with_reducible refine (lready_calls (H.out.below (below_alloc (Below.refl w.heap.size w) _)) HK.out).mono ?_); rintro e w1 ⟨rfl, rfl⟩; rw [HR.out]) | (go_at_call 35; (with_reducible refine (HCT.out _).mono ?_); rintro e w2 ⟨rfl, m2, rfl⟩))
        all_goals (go_ret; exact ⟨by rw [HP.out] <;> rfl, by rw [HP.out]; exact HEND.out _ _⟩)
    · have HP := Aside0.mk (show lPutM D fr n slot z ch pl b = (D, 1) by rw [HF.out, if_pos (.inl hE0)])
      have e1 : (E == 0) = false := beq_eq_false_iff_ne.mpr hE0
      have e2 : (E != 0) = true := bne_iff_ne.mpr hE0
      clear hE hN hE0 HF
      go_enter Tryz.func13, Tryz.ntmps13
      go_wp2_with (first | (go_at_call 26; (with_reducible refine (lready_calls (H.out.below (below_alloc (Below.refl w.heap.size w) _)) HK.out).mono ?_); rintro e w1 ⟨rfl, rfl⟩; rw [HR.out]) | (go_at_call 35; (with_reducible refine (HCT.out _).mono ?_); rintro e w2 ⟨rfl, m2, rfl⟩))
      go_ret
      exact ⟨by rw [HP.out] <;> rfl, by rw [HP.out]; exact HEND.out _ _⟩
  · obtain ⟨E, hE⟩ : ∃ E, lreadyM D n slot z = E := ⟨_, rfl⟩
    have HP := Aside0.mk (show lPutM D fr n slot z ch pl b = (D, E) by unfold lPutM; rw [if_pos hr, hE])
    rw [hE] at hr
    have HE := Aside0.mk hE
    have e1 : (E == 0) = false := beq_eq_false_iff_ne.mpr hr
    have e2 : (E != 0) = true := bne_iff_ne.mpr hr
    clear hr hE
    go_enter Tryz.func13, Tryz.ntmps13
    go_wp2_with (first | (go_at_call 26; (with_reducible refine (lready_calls (H.out.below (below_alloc (Below.refl w.heap.size w) _)) HK.out).mono ?_); rintro e w1 ⟨rfl, rfl⟩; rw [HE.out]))
    go_ret
    refine ⟨by rw [HP.out] <;> rfl, ?_⟩
    rw [HP.out]
    exact ⟨F, fun k hk => .inl hk, H.out.below (below_alloc (Below.refl w.heap.size w) _), Upd.of_below (below_alloc (Below.refl w.heap.size w) _)⟩

end Go.Proofs.YtfpfnolpoklefaaGreatDoor.Lo
/- Package slots: Get. -/
namespace Go.Proofs.YtfpfnolpoklefaaGreatDoor.Lo
open Go.Proofs.YtfpfnolpoklefaaGreatDoor.Dk
open Go.RowKit Go.Proofs.YtfpfnolpoklefaaGreatDoorW.PrintWords Go.Proofs.YtfpfnolpoklefaaGreatDoorW.PrintLast Go.Proofs.YtfpfnolpoklefaaGreatDoorW.PrintMore
set_option linter.unusedVariables false
set_option linter.unusedSimpArgs false
set_option maxRecDepth 30000
variable {w w0 w1 w2 wr : World} {B s g c : Nat} {F : Nat → Prop} {D D' : DM} {fr n slot z ch pl : Int} {b rt : List Int} {A : Option Addr}
theorem loadD (h : DiskAt w B g F D) (hok : DOk D) (k : Int) (n0 : Nat) (h2 : (n0 : Int) ≤ 9223372036854775807) (he : loadE D k n0 = 0) : Calls Tryz.prog 27 #[.pointer (some ⟨g, 0, none⟩), .int .i64 k, .int .i64 n0] w fun e w' => ∃ A, e = .returned (.tuple #[.slice A n0 n0, .int .i64 0]) ∧ (((readsTo D k ((n0 + 63) / 64)).take n0).length = n0 ∧ Fr8 w w' A ((readsTo D k ((n0 + 63) / 64)).take n0)) ∧ Below w.heap.size w w' := by
  obtain ⟨_, _, _, h⟩ := h
  refine (Load_own h hok k n0 h2 he).mono ?_
  rintro e w' ⟨A, rfl, h1, h2, h3, c, h4⟩
  have hl := h1.1
  refine ⟨A, rfl, ⟨hl, ⟨?_, h3, c, ?_⟩⟩, h2⟩
  · show Kd.C (Kd.int .u8) w' A ((readsTo D k ((n0 + 63) / 64)).take n0).length _
    rw [hl]
    exact h1
  · rw [hl]; exact h4
/-- Get: the error, the bytes. -/
def lGetE (D : DM) (n slot z : Int) : Int := if lreadyM D n slot z ≠ 0 then lreadyM D n slot z else if z < 0 then 1 else 0
def lGetR (D : DM) (fr n slot z : Int) : List Int := if lGetE D n slot z = 0 then (readsTo D (fr + slot * n) ((z.toNat + 63) / 64)).take z.toNat else []
set_option maxHeartbeats 16000000 in
theorem Get_calls (h : LAt w B s g F D fr n) (hk : LOk D fr n) : Calls Tryz.prog 7 #[.pointer (some ⟨s, 0, none⟩), .int .i64 slot, .int .i64 z] w fun e w' => ∃ A c, e = .returned (.tuple #[.slice A (lGetR D fr n slot z).length c, .int .i64 (lGetE D n slot z)]) ∧ (lGetR D fr n slot z).length ≤ c ∧ Fr8 w w' A (lGetR D fr n slot z) ∧ Below w.heap.size w w' := by
  have HK := Aside0.mk hk
  have H := Aside0.mk h
  have HAD := Aside0.mk (h.below (below_drew (Below.refl w.heap.size w)))
  have HBD := Aside0.mk (below_drew (Below.refl w.heap.size w))
  clear h hk
  obtain ⟨E, hE⟩ : ∃ E, lreadyM D n slot z = E := ⟨_, rfl⟩
  have HE := Aside0.mk hE
  by_cases hr : E = 0
  · subst hr
    obtain ⟨z1, z2, z3⟩ := lready_zero hE
    by_cases hz : z < 0
    · have HG := Aside0.mk (show lGetE D n slot z = 1 by unfold lGetE; rw [hE, if_neg (by decide), if_pos hz])
      have HR := Aside0.mk (show lGetR D fr n slot z = [] by unfold lGetR; rw [HG.out, if_neg (by decide)])
      have hqz : decide (z < 0) = true := decide_eq_true hz
      clear hE hz
      go_enter Tryz.func7, Tryz.ntmps7
      go_wp2_with (first | (go_at_call 26; (with_reducible refine (lready_calls H.out HK.out).mono ?_); rintro e w1 ⟨rfl, rfl⟩; rw [HE.out]))
      refine bodyPost_ret (results_tmp2 rfl _ _ _) rfl ?_
      exact ⟨none, 0, by rw [HG.out, HR.out] <;> rfl, by rw [HR.out]; exact Nat.le_refl _, by rw [HR.out]; exact Fr8.nil _ _, Below.refl _ _⟩
    have hqz : decide (z < 0) = false := decide_eq_false hz
    obtain ⟨zn, rfl⟩ : ∃ zn : Nat, z = (zn : Int) := ⟨z.toNat, by rw [Int.toNat_of_nonneg (by omega)]⟩
    have h01 : 0 ≤ slot ∧ slot ≤ 1 := by omega
    have hf := HK.out.hf
    have hn0 := HK.out.hn
    have hl := HK.out.hl
    have hz0 := HK.out.hz
    obtain ⟨q, hq⟩ : ∃ q : Nat, fr + slot * n = (q : Int) := by
      rcases z2 with rfl | rfl
      · exact ⟨fr.toNat, by rw [Int.zero_mul, Int.add_zero, Int.toNat_of_nonneg hf]⟩
      · exact ⟨(fr + n).toNat, by rw [Int.one_mul, Int.toNat_of_nonneg (by omega)]⟩
    have hqn : (q : Int) + n ≤ (D.sec.length : Int) := by rcases z2 with rfl | rfl <;> omega
    have HG := Aside0.mk (show lGetE D n slot (zn : Int) = 0 by unfold lGetE; rw [hE, if_neg (by decide), if_neg hz])
    have HR := Aside0.mk (show lGetR D fr n slot (zn : Int) = (readsTo D (q : Int) ((zn + 63) / 64)).take zn by unfold lGetR; rw [HG.out, if_pos rfl, hq, Int.toNat_natCast])
    have HLE := Aside0.mk (show loadE D (q : Int) zn = 0 by
      unfold loadE spanM
      rw [z1, if_neg (by decide), if_neg (by omega), if_neg (by decide), need_nat, if_neg (by omega)])
    clear hE hz
    go_enter Tryz.func7, Tryz.ntmps7
    go_wp2_with (first | (go_at_call 26; (with_reducible refine (lready_calls H.out HK.out).mono ?_); rintro e w1 ⟨rfl, rfl⟩; rw [HE.out]))
    refine start_ (n := 13) (S := fun w' => w'.cell? ⟨s, 0, none⟩ = some (.pointer (some ⟨g, 0, none⟩))) (ds := []) (bz 13 0) (by kernel_rfl) rfl rfl (HAD.out.c0) (fun hHeld => ?_)
    refine pz 0 (some 18) (bz 13 1) ?_
    refine pz 1 (some 19) (bz 13 3) ?_
    refine pz 2 (some 20) (bz 13 7) ?_
    refine pz 4 (some 22) (bz 13 23) ?_
    refine pz 5 (some 23) (bz 13 55) ?_
    refine pz 7 (some 25) (bz 13 183) ?_
    refine tz1 3 (some 21) (bz 13 191) hHeld ?_
    refine one_ (i := 6) (N := some 24) (bz 13 255) rfl rfl (by kernel_rfl) (by decide) (fun K hK => ?_)
    refine goes_ Tryz.func28 (by kernel_rfl) rfl #[.pointer (some ⟨s, 0, none⟩), .int .i64 slot] (by rfl) rfl rfl (by simp only [List.map_toArray, List.map_cons, List.map_nil]; rfl) ?_
    with_reducible refine (place_calls HAD.out HK.out slot h01.1 h01.2).mono ?_
    rintro e w1 ⟨rfl, hb1⟩
    refine ⟨_, rfl, ?_⟩
    rw [hq]
    have HA1 := Aside0.mk (HAD.out.below hb1)
    have HB1 := Aside0.mk (below_trans HBD.out hb1)
    clear hb1
    refine hK.out _ _ (HA1.out.c0) (fun hHeld => ?_)
    clear hK K
    refine norm_ (a' := ?_) ?_ ?_
    rotate_left
    · show Act.put _ (some 24) _ = _
      simp only [Act.put, List.setIfInBounds_toArray, List.set_cons_zero, List.set_cons_succ, i64_w, i32_w]
      rfl
    refine one_ (i := 8) (N := some 26) (bz 13 511) rfl rfl (by kernel_rfl) (by decide) (fun K hK => ?_)
    refine goes_ Tryz.func27 (by kernel_rfl) rfl #[.pointer (some ⟨g, 0, none⟩), .int .i64 (q : Int), .int .i64 (zn : Int)] (by rfl) rfl rfl (by simp only [List.map_toArray, List.map_cons, List.map_nil]; rfl) ?_
    with_reducible refine (loadD HA1.out.d HK.out.d (q : Int) zn (by omega) HLE.out).mono ?_
    rintro e w2 ⟨A2, rfl, hf2, hb2⟩
    refine ⟨_, rfl, ?_⟩
    have HF2 := Aside0.mk hf2
    have HB2 := Aside0.mk (below_trans HB1.out hb2)
    have HA2 := Aside0.mk (HA1.out.below hb2)
    clear hf2 hb2
    refine hK.out _ _ (HA2.out.c0) (fun hHeld => ?_)
    clear hK K
    refine norm_ (a' := ?_) ?_ ?_
    rotate_left
    · show Act.put _ (some 26) _ = _
      simp only [Act.put, List.setIfInBounds_toArray, List.set_cons_zero, List.set_cons_succ, i64_w, i32_w]
      rfl
    refine pz 9 (some 27) (bz 13 1023) ?_
    refine pz 10 (some 28) (bz 13 2047) ?_
    refine pz 11 (some 6) (bz 13 4095) ?_
    refine pz 12 (some 7) (bz 13 8191) ?_
    refine done_ (by kernel_rfl) ?_
    go_wp2_with (fail)
    refine bodyPost_ret (results_tmp2 rfl _ _ _) rfl ?_
    exact ⟨A2, zn, by rw [HG.out, HR.out, HF2.out.1] <;> rfl, by rw [HR.out, HF2.out.1]; exact Nat.le_refl _, by rw [HR.out]; exact HF2.out.2.elder (below_size HB1.out), HB2.out⟩
  · have HG := Aside0.mk (show lGetE D n slot z = E by unfold lGetE; rw [hE, if_pos hr])
    have HR := Aside0.mk (show lGetR D fr n slot z = [] by unfold lGetR; rw [HG.out, if_neg hr])
    have e1 : (E == 0) = false := beq_eq_false_iff_ne.mpr hr
    have e2 : (E != 0) = true := bne_iff_ne.mpr hr
    clear hE hr
    go_enter Tryz.func7, Tryz.ntmps7
    go_wp2_with (first | (go_at_call 26; (with_reducible refine (lready_calls H.out HK.out).mono ?_); rintro e w1 ⟨rfl, rfl⟩; rw [HE.out]))
    refine bodyPost_ret (results_tmp2 rfl _ _ _) rfl ?_
    exact ⟨none, 0, by rw [HG.out, HR.out] <;> rfl, by rw [HR.out]; exact Nat.le_refl _, by rw [HR.out]; exact Fr8.nil _ _, Below.refl _ _⟩

end Go.Proofs.YtfpfnolpoklefaaGreatDoor.Lo
/- Plain facts about slots: what Get reads is a piece of all; what is put elsewhere leaves it. -/
namespace Go.Proofs.YtfpfnolpoklefaaGreatDoor.Lo
open Go.Proofs.YtfpfnolpoklefaaGreatDoor.Dk
open Go.RowKit Go.Proofs.YtfpfnolpoklefaaGreatDoorW.PrintWords Go.Proofs.YtfpfnolpoklefaaGreatDoorW.PrintLast Go.Proofs.YtfpfnolpoklefaaGreatDoorW.PrintMore
set_option linter.unusedVariables false
set_option linter.unusedSimpArgs false
variable {D D' : DM} {fr n slot z ch pl : Int} {x y b : List Int} {o q a m : Nat}
/-- n bytes from a on. -/
def piece (x : List Int) (a n : Nat) : List Int := (x.drop a).take n
theorem reads_flat (h : Six D) (q : Nat) : ∀ m, q + m ≤ D.sec.length → readsTo D (q : Int) m = piece (flatR D D.sec.length) (64 * q) (64 * m)
  | 0, _ => by simp [readsTo, piece]
  | m + 1, hm => by
    rw [readsTo, reads_flat h q m (by omega)]
    unfold piece
    rw [show 64 * (m + 1) = 64 * m + 64 by omega, List.take_add, List.drop_drop]
    congr 1
    rw [show (q : Int) + (m : Nat) = ((q + m : Nat) : Int) by omega, ← flat_sector h D.sec.length (show q + m < D.sec.length by omega) (Nat.le_refl _), show 64 * q + 64 * m = 64 * (q + m) by omega]
theorem piece_take (x : List Int) (a : Nat) {n k : Nat} (h : k ≤ n) : (piece x a n).take k = piece x a k := by
  unfold piece
  rw [List.take_take, Nat.min_eq_left h]
/-- Get's bytes are a piece of all that is read. -/
theorem getR_piece (h : Six D) (hk : LOk D fr n) (he : lGetE D n slot z = 0) {q : Nat} (hq : fr + slot * n = (q : Int)) : lGetR D fr n slot z = piece (flatR D D.sec.length) (64 * q) z.toNat := by
  have hr : lreadyM D n slot z = 0 := by
    unfold lGetE at he
    split at he
    · rename_i hc
      exact absurd he hc
    · rename_i hc
      simpa using hc
  obtain ⟨z1, z2, z3⟩ := lready_zero hr
  have hl := hk.hl
  have hn := hk.hn
  have hqn : (q : Int) + n ≤ (D.sec.length : Int) := by rcases z2 with rfl | rfl <;> omega
  unfold lGetR
  rw [if_pos he, hq, reads_flat h q _ (by omega), piece_take _ _ (by omega)]
end Go.Proofs.YtfpfnolpoklefaaGreatDoor.Lo
/- Package slots: Holds, where Get tells an error. -/
namespace Go.Proofs.YtfpfnolpoklefaaGreatDoor.Lo
open Go.Proofs.YtfpfnolpoklefaaGreatDoor.Dk
open Go.RowKit Go.Proofs.YtfpfnolpoklefaaGreatDoorW.PrintWords Go.Proofs.YtfpfnolpoklefaaGreatDoorW.PrintLast Go.Proofs.YtfpfnolpoklefaaGreatDoorW.PrintMore
set_option linter.unusedVariables false
set_option linter.unusedSimpArgs false
set_option maxRecDepth 30000
variable {w w0 w1 w2 wr : World} {slot z ch : Int} {sv : Value} {E : Int}
theorem vocab_blk (o1 : Obj) (hb : Below ((w.alloc o1).alloc (.cells #[.slice none 0 0, .slice none 0 0] 32)).heap.size ((w.alloc o1).alloc (.cells #[.slice none 0 0, .slice none 0 0] 32)) w1) : w1.heap[w.heap.size + 1]? = some (.cells #[.slice none 0 0, .slice none 0 0] 32 (0, 0)) := by
  have h := blk_below (heap_alloc_new (w.alloc o1) (.cells #[.slice none 0 0, .slice none 0 0] 32)) hb
  rwa [World.size_alloc] at h
theorem setCell_blk {g t : Nat} {cs : Array Value} {m : Nat × Nat} (h : w.heap[g]? = some (.cells cs t m)) (i : Nat) (u : Value) : (w.setCell ⟨g, i, none⟩ u).heap[g]? = some (.cells (cs.setIfInBounds i u) t m) := by
  unfold World.setCell
  simp only [Array.getElem?_modify]
  rw [if_pos trivial, h]
  rfl
end Go.Proofs.YtfpfnolpoklefaaGreatDoor.Lo
/- Contracts of package sha2: words. -/
namespace Go.Proofs.YtfpfnolpoklefaaGreatDoor.Sh
open Go.Proofs.YtfpfnolpoklefaaGreatDoor.Dk
open Go.RowKit Go.Proofs.YtfpfnolpoklefaaGreatDoorW.PrintWords Go.Proofs.YtfpfnolpoklefaaGreatDoorW.PrintLast Go.Proofs.YtfpfnolpoklefaaGreatDoorW.PrintMore
set_option linter.unusedVariables false
set_option linter.unusedSimpArgs false
set_option maxRecDepth 30000
variable {w w1 w2 wr : World}
def z80 : Array Value := (nums .u32 (List.replicate 80 0)).toArray
theorem run_alloc141 (w : World) : (Instr.alloc 188 true (.tuple #[])).run Tryz.prog w = .ok (.pointer (some ⟨w.heap.size, 0, none⟩)) (w.alloc (.cells z80 188)) := by kernel_rfl
theorem info141 (x : List Int) (h : x.length = 80) : (Tryz.prog.info? 188).map (·.size) = some (nums .u32 x).toArray.size := by rw [List.size_toArray, nums_length, h]; kernel_rfl
/-- Bytes in memory. -/
def Bys (w : World) (g o : Nat) (b : List Int) : Prop := ∀ j, j < b.length → w.cell? ⟨g, o + j, none⟩ = some (.int .u8 (b.getD j 0))
theorem Bys.below {g o : Nat} {b : List Int} (h : Bys w g o b) (hg : g < w.heap.size) (hb : Below w.heap.size w w1) : Bys w1 g o b := fun j hj => (cell_block (hb.block g hg) (o + j)).trans (h j hj)
/-- One byte goes into a word. -/
def in1 (x c : Int) : Int := Go.bits .or .u32 (x * 256 % 4294967296) (c % 4294967296)
def inR (b : List Int) (t : Nat) (xs : List Int) : Nat → List Int
  | 0 => xs
  | j + 1 => (inR b t xs j).set t (in1 ((inR b t xs j).getD t 0) (b.getD (t * 4 + j) 0))
def wordsA (b : List Int) : Nat → List Int
  | 0 => List.replicate 80 0
  | t + 1 => inR b t (wordsA b t) 4
theorem inR_length (b : List Int) (t : Nat) (xs : List Int) : ∀ j, (inR b t xs j).length = xs.length
  | 0 => rfl
  | j + 1 => by rw [inR, List.length_set]; exact inR_length b t xs j
theorem wordsA_length (b : List Int) : ∀ t, (wordsA b t).length = 80
  | 0 => by simp [wordsA]
  | t + 1 => by rw [wordsA, inR_length]; exact wordsA_length b t
def mixW (x16 x15 x7 x2 : Int) : Int := IntKind.u32.wrap (IntKind.u32.wrap (IntKind.u32.wrap (x16 + smallM x15 7 18 3) + x7) + smallM x2 17 19 10)
def wordsB (b : List Int) : Nat → List Int
  | 0 => wordsA b 16
  | k + 1 => (wordsB b k).set (k + 16) (mixW ((wordsB b k).getD k 0) ((wordsB b k).getD (k + 1) 0) ((wordsB b k).getD (k + 9) 0) ((wordsB b k).getD (k + 14) 0))
theorem wordsB_length (b : List Int) : ∀ k, (wordsB b k).length = 80
  | 0 => wordsA_length b 16
  | k + 1 => by rw [wordsB, List.length_set]; exact wordsB_length b k
def wordsM (b : List Int) : List Int := wordsB b 48
theorem wordsM_length (b : List Int) : (wordsM b).length = 80 := wordsB_length b 48
def In3 (w w' : World) (xs : List Int) : Prop := w'.heap[w.heap.size]? = some (.cells narrowA 154 (0, 0)) ∧ w'.heap[w.heap.size + 1]? = some (.cells z80 188 (0, 0)) ∧ w'.heap[w.heap.size + 1 + 1]? = some (.cells (nums .u32 xs).toArray 188 (0, 0)) ∧ Below w.heap.size w w'
theorem In3.drew {xs : List Int} (h : In3 w w1 xs) : In3 w w1.drew xs := ⟨h.1, h.2.1, h.2.2.1, below_drew h.2.2.2⟩
theorem In3.set {xs : List Int} (h : In3 w w1 xs) (i : Nat) (v : Int) : In3 w (w1.setCell ⟨w.heap.size + 1 + 1, i, none⟩ (.int .u32 v)) (xs.set i v) := by
  refine ⟨put_other i _ (by omega) h.1, put_other i _ (by omega) h.2.1, ?_, below_put h.2.2.2 (by omega) i _⟩
  have h3 := put_cell h.2.2.1 i (.int .u32 v)
  rw [nums_set] at h3
  exact h3
theorem In3.below {xs : List Int} (h : In3 w w1 xs) (hb : Below w1.heap.size w1 w2) : In3 w w2 xs := ⟨blk_below h.1 hb, blk_below h.2.1 hb, blk_below h.2.2.1 hb, h.2.2.2.trans (hb.mono h.2.2.2.size)⟩
theorem In3.cell {xs : List Int} (h : In3 w w1 xs) {i : Nat} (hi : i < xs.length) : w1.cell? ⟨w.heap.size + 1 + 1, i, none⟩ = some (.int .u32 (xs.getD i 0)) := cell_nums h.2.2.1 hi
theorem In3.free {xs : List Int} (h : In3 w w1 xs) (i : Nat) : w1.frozen? ⟨w.heap.size + 1 + 1, i, none⟩ = false := free_row h.2.2.1 i
theorem In3.shape {xs : List Int} (h : In3 w w1 xs) (j : Nat) (v : Value) (hj : narrowA[j]? = some v) : w1.cell? ⟨w.heap.size, j, none⟩ = some v := cellB3 h.1 j v hj
set_option maxHeartbeats 8000000 in
theorem words_calls (g o c : Nat) (b : List Int) (h64 : b.length = 64) (hc : 64 ≤ c) (hC : Bys w g o b) (hgl : g < w.heap.size) : Calls Tryz.prog 111 #[.agg narrowA, .slice (some ⟨g, o, none⟩) 64 c] w fun e w' => e = .returned (.agg (nums .u32 (wordsM b)).toArray) ∧ Below w.heap.size w w' := by
  have HC := Aside0.mk hC
  have H64 := Aside0.mk h64
  have HGL := Aside0.mk hgl
  have HI := Aside0.mk (show In3 w (((w.alloc (.cells narrowA 154)).alloc (.cells z80 188)).alloc (.cells z80 188)) (wordsA b 0) from ⟨nth3_0 w _ _ _, nth3_1 w _ _ _, nth3_2 w _ _ _, below3 w _ _ _⟩)
  clear hC h64 hgl
  go_enter Tryz.func111, Tryz.ntmps111
  go_wp2_with (first | (refine wpList_alloc rfl rfl _ rfl z80 (run_alloc141 _) ?_))
  go_loopw [6, 8, 10] (fun v6 v8 v10 w' => ∃ t : Nat, v10 = .int .i64 t ∧ t ≤ 16 ∧ Aside0 (In3 w w' (wordsA b t))) (fun v6 v8 v10 _ => 16 - (intOf v10).toNat)
  case atStart => exact ⟨0, rfl, Nat.zero_le _, HI⟩
  case round =>
    clear HI
    obtain ⟨t, rfl, ht, HI⟩ := hrel
    by_cases hlt : t < 16
    · have hs0 := HI.out.shape 0 (.int .i64 4) rfl
      obtain ⟨wA, hwA⟩ : ∃ wA, wA = wr := ⟨_, rfl⟩
      subst hwA
      go_wp2
      clear hs0
      go_loopw [8, 25] (fun v8 v25 w' => ∃ j : Nat, v25 = .int .i64 j ∧ j ≤ 4 ∧ Aside0 (In3 w w' (inR b t (wordsA b t) j))) (fun v8 v25 _ => 4 - (intOf v25).toNat)
      case atStart => exact ⟨0, rfl, Nat.zero_le _, HI⟩
      case round =>
        clear HI
        obtain ⟨j, rfl, hj, HI⟩ := hrel
        by_cases hl4 : j < 4
        · obtain ⟨x, hx⟩ : ∃ x, (inR b t (wordsA b t) j).getD t 0 = x := ⟨_, rfl⟩
          obtain ⟨y, hy⟩ : ∃ y, b.getD (t * 4 + j) 0 = y := ⟨_, rfl⟩
          have hb0 : wr.cell? ⟨g, o + t * 4 + j, none⟩ = some (.int .u8 y) := by
            rw [← hy, Nat.add_assoc]
            exact (HC.out.below HGL.out HI.out.2.2.2) (t * 4 + j) (by have := H64.out; omega)
          have hc0 : wr.cell? ⟨w.heap.size + 1 + 1, t, none⟩ = some (.int .u32 x) := by
            rw [← hx]
            exact HI.out.cell (by rw [inR_length, wordsA_length]; omega)
          have hf0 := HI.out.free t
          have HN := Aside0.mk (show inR b t (wordsA b t) (j + 1) = (inR b t (wordsA b t) j).set t (in1 x y) by rw [inR, hx, hy])
          clear hx hy
          go_wp2
          go_roundw
          case rel => exact ⟨j + 1, by go_num, by omega, ⟨by rw [HN.out]; exact HI.out.set t _⟩⟩
          case measure => simp [intOf]; omega
        · have hj4 : (decide (j < (t + 1) * 4 - t * 4)) = false := by simp; omega
          obtain rfl : j = 4 := by omega
          go_wp2
          go_roundw
          case rel => exact ⟨t + 1, by go_num, by omega, HI⟩
          case measure => simp [intOf]; omega
    · obtain rfl : t = 16 := by omega
      go_wp2
      go_loopw [9] (fun v9 w' => ∃ k : Nat, v9 = .int .i64 (k + 16 : Nat) ∧ k ≤ 48 ∧ Aside0 (In3 w w' (wordsB b k))) (fun v9 _ => 64 - (intOf v9).toNat)
      case atStart => exact ⟨0, rfl, Nat.zero_le _, HI⟩
      case round =>
        clear HI
        obtain ⟨k, rfl, hk, HI⟩ := hrel
        obtain ⟨t, htk⟩ : ∃ t : Nat, t = k + 16 := ⟨_, rfl⟩
        by_cases hlt2 : k < 48
        · have hs2 := HI.out.shape 2 (.int .i64 64) rfl
          rw [← htk]
          have ht64 : t < 64 := by omega
          have HKT := Aside0.mk htk
          have hlk : k < 48 := hlt2
          obtain ⟨x0, hx0⟩ : ∃ x, (wordsB b k).getD k 0 = x := ⟨_, rfl⟩
          obtain ⟨x1, hx1⟩ : ∃ x, (wordsB b k).getD (k + 1) 0 = x := ⟨_, rfl⟩
          obtain ⟨x7, hx7⟩ : ∃ x, (wordsB b k).getD (k + 9) 0 = x := ⟨_, rfl⟩
          obtain ⟨x2, hx2⟩ : ∃ x, (wordsB b k).getD (k + 14) 0 = x := ⟨_, rfl⟩
          have HN := Aside0.mk (show wordsB b (k + 1) = (wordsB b k).set t (mixW x0 x1 x7 x2) by rw [wordsB, hx0, hx1, hx7, hx2, htk])
          have hl : (wordsB b k).length = 80 := wordsB_length b k
          obtain ⟨a1, ha1⟩ : ∃ a, a = k + 1 := ⟨_, rfl⟩
          obtain ⟨a7, ha7⟩ : ∃ a, a = k + 9 := ⟨_, rfl⟩
          obtain ⟨a2, ha2⟩ : ∃ a, a = k + 14 := ⟨_, rfl⟩
          have e0 : wrap64 ((t : Int) - 16) = k := by unfold wrap64; omega
          have e1 : wrap64 ((t : Int) - 15) = a1 := by unfold wrap64; omega
          have e7 : wrap64 ((t : Int) - 7) = a7 := by unfold wrap64; omega
          have e2 : wrap64 ((t : Int) - 2) = a2 := by unfold wrap64; omega
          have HD := Aside0.mk HI.out.drew
          have S0 := fun {W : World} (h : In3 w W (wordsB b k)) => (hx0 ▸ h.cell (i := k) (by omega) : W.cell? ⟨w.heap.size + 1 + 1, k, none⟩ = some (.int .u32 x0))
          have S1 := fun {W : World} (h : In3 w W (wordsB b k)) => (hx1 ▸ ha1 ▸ h.cell (i := k + 1) (by omega) : W.cell? ⟨w.heap.size + 1 + 1, a1, none⟩ = some (.int .u32 x1))
          have S7 := fun {W : World} (h : In3 w W (wordsB b k)) => (hx7 ▸ ha7 ▸ h.cell (i := k + 9) (by omega) : W.cell? ⟨w.heap.size + 1 + 1, a7, none⟩ = some (.int .u32 x7))
          have S2 := fun {W : World} (h : In3 w W (wordsB b k)) => (hx2 ▸ ha2 ▸ h.cell (i := k + 14) (by omega) : W.cell? ⟨w.heap.size + 1 + 1, a2, none⟩ = some (.int .u32 x2))
          have bt : ((t : Int) < 80) = True := eq_true (by omega)
          have b1 : ((a1 : Int) < 80) = True := eq_true (by omega)
          have b7 : ((a7 : Int) < 80) = True := eq_true (by omega)
          have b2 : ((a2 : Int) < 80) = True := eq_true (by omega)
          have b0 : ((k : Int) < 80) = True := eq_true (by omega)
          clear hx0 hx1 hx7 hx2 ha1 ha7 ha2 htk hl
          go_wp2
          refine start_ (n := 32) (S := fun w' => w'.cell? ⟨w.heap.size + 1 + 1, k, none⟩ = some (.int .u32 x0) ∧ w'.cell? ⟨w.heap.size + 1 + 1, a1, none⟩ = some (.int .u32 x1) ∧ w'.cell? ⟨w.heap.size + 1 + 1, a7, none⟩ = some (.int .u32 x7) ∧ w'.cell? ⟨w.heap.size + 1 + 1, a2, none⟩ = some (.int .u32 x2) ∧ w'.cell? ⟨w.heap.size, 1, none⟩ = some (.int .i64 32) ∧ w'.cell? ⟨w.heap.size, 3, none⟩ = some (.int .i64 7) ∧ w'.cell? ⟨w.heap.size, 4, none⟩ = some (.int .i64 18) ∧ w'.cell? ⟨w.heap.size, 5, none⟩ = some (.int .i64 3) ∧ w'.cell? ⟨w.heap.size, 6, none⟩ = some (.int .i64 17) ∧ w'.cell? ⟨w.heap.size, 7, none⟩ = some (.int .i64 19) ∧ w'.cell? ⟨w.heap.size, 8, none⟩ = some (.int .i64 10)) (ds := [31]) (bz 32 0) (by kernel_rfl) rfl rfl ⟨(S0 HD.out), (S1 HD.out), (S7 HD.out), (S2 HD.out), (HD.out.shape 1 _ rfl), (HD.out.shape 3 _ rfl), (HD.out.shape 4 _ rfl), (HD.out.shape 5 _ rfl), (HD.out.shape 6 _ rfl), (HD.out.shape 7 _ rfl), (HD.out.shape 8 _ rfl)⟩ (fun hHeld => ?_)
          refine pz 0 (some 46) (bz 32 1) ?_
          refine pz 1 (some 47) (bz 32 3) ?_
          refine pz 2 (some 48) (bz 32 7) ?_
          refine pz 3 (some 49) (bz 32 15) ?_
          refine pz 5 (some 51) (bz 32 47) ?_
          refine pz 6 (some 52) (bz 32 111) ?_
          refine pz 7 (some 53) (bz 32 239) ?_
          refine pz 9 (some 55) (bz 32 751) ?_
          refine pz 11 (some 57) (bz 32 2799) ?_
          refine pz 15 (some 61) (bz 32 35567) ?_
          refine pz 16 (some 62) (bz 32 101103) ?_
          refine pz 17 (some 63) (bz 32 232175) ?_
          refine pz 20 (some 66) (bz 32 1280751) ?_
          refine pz 21 (some 67) (bz 32 3377903) ?_
          refine pz 22 (some 68) (bz 32 7572207) ?_
          refine pz 24 (some 70) (bz 32 24349423) ?_
          refine pz 26 (some 72) (bz 32 91458287) ?_
          refine tz11 4 (some 50) (bz 32 91458303) hHeld ?_
          refine tz11 8 (some 54) (bz 32 91458559) hHeld ?_
          refine tz11 10 (some 56) (bz 32 91459583) hHeld ?_
          refine tz11 12 (some 58) (bz 32 91463679) hHeld ?_
          refine tz11 18 (some 64) (bz 32 91725823) hHeld ?_
          refine tz11 23 (some 69) (bz 32 100114431) hHeld ?_
          refine tz11 25 (some 71) (bz 32 133668863) hHeld ?_
          refine tz11 27 (some 73) (bz 32 267886591) hHeld ?_
          refine one_ (i := 13) (N := some 59) (bz 32 267894783) rfl rfl (by kernel_rfl) (by decide) (fun K hK => ?_)
          refine goes_ Tryz.func118 (by kernel_rfl) rfl #[.int .u32 x1, .agg #[.int .i64 7, .int .i64 18, .int .i64 3], .int .i64 32] (by rfl) rfl rfl (by simp only [List.map_toArray, List.map_cons, List.map_nil]; rfl) ?_
          with_reducible refine (small_calls x1 7 18 3 (by decide) (by decide) (by decide) (by decide) (by decide) (by decide) _).mono ?_
          rintro e w2 ⟨rfl, hd⟩
          refine ⟨_, rfl, ?_⟩
          have HI2 := Aside0.mk (HD.out.below hd)
          clear hd
          refine hK.out _ _ ⟨(S0 HI2.out), (S1 HI2.out), (S7 HI2.out), (S2 HI2.out), (HI2.out.shape 1 _ rfl), (HI2.out.shape 3 _ rfl), (HI2.out.shape 4 _ rfl), (HI2.out.shape 5 _ rfl), (HI2.out.shape 6 _ rfl), (HI2.out.shape 7 _ rfl), (HI2.out.shape 8 _ rfl)⟩ (fun hHeld => ?_)
          clear hK K
          refine norm_ (a' := ?_) ?_ ?_
          rotate_left
          · show Act.put _ (some 59) _ = _
            simp only [Act.put, List.setIfInBounds_toArray, List.set_cons_zero, List.set_cons_succ, i64_w, i32_w]
            rfl
          refine pz 14 (some 60) (bz 32 267911167) ?_
          refine pz 19 (some 65) (bz 32 268435455) ?_
          refine one_ (i := 28) (N := some 74) (bz 32 536870911) rfl rfl (by kernel_rfl) (by decide) (fun K hK => ?_)
          refine goes_ Tryz.func118 (by kernel_rfl) rfl #[.int .u32 x2, .agg #[.int .i64 17, .int .i64 19, .int .i64 10], .int .i64 32] (by rfl) rfl rfl (by simp only [List.map_toArray, List.map_cons, List.map_nil]; rfl) ?_
          with_reducible refine (small_calls x2 17 19 10 (by decide) (by decide) (by decide) (by decide) (by decide) (by decide) _).mono ?_
          rintro e w3 ⟨rfl, hd⟩
          refine ⟨_, rfl, ?_⟩
          have HI3 := Aside0.mk (HI2.out.below hd)
          have hf3 := HI3.out.free t
          have hc3 := HI3.out.cell (i := t) (by rw [wordsB_length]; omega)
          clear hd
          refine hK.out _ _ ⟨(S0 HI3.out), (S1 HI3.out), (S7 HI3.out), (S2 HI3.out), (HI3.out.shape 1 _ rfl), (HI3.out.shape 3 _ rfl), (HI3.out.shape 4 _ rfl), (HI3.out.shape 5 _ rfl), (HI3.out.shape 6 _ rfl), (HI3.out.shape 7 _ rfl), (HI3.out.shape 8 _ rfl)⟩ (fun hHeld => ?_)
          clear hK K
          refine norm_ (a' := ?_) ?_ ?_
          rotate_left
          · show Act.put _ (some 74) _ = _
            simp only [Act.put, List.setIfInBounds_toArray, List.set_cons_zero, List.set_cons_succ, i64_w, i32_w]
            rfl
          refine pz 29 (some 75) (bz 32 1073741823) ?_
          refine pz 30 (some 76) (bz 32 2147483647) ?_
          refine last_ (i := 31) (N := none) (bz 32 4294967295) rfl rfl (by kernel_rfl) (by decide) (fun K hK => ?_)
          refine skip_ (w1 := ?_) (by rfl) rfl ?_ ?_
          rotate_left
          · go_simp
            rfl
          refine hK.out _ _ ?_
          clear hK K
          refine done_ (by kernel_rfl) ?_
          clear hHeld
          go_wp2
          go_roundw
          case rel => exact ⟨k + 1, by have := HKT.out; subst this; go_num, by omega, ⟨by rw [HN.out]; exact HI3.out.set t _⟩⟩
          case measure => simp [intOf]; omega
        · obtain rfl : k = 48 := by omega
          have hs2 := HI.out.shape 2 (.int .i64 64) rfl
          have HL := Aside0.mk (run_loadAt_cells (P := Tryz.prog) (w := wr) 188 Tryz.underlying188 rfl (w.heap.size + 1 + 1) 0 (nums .u32 (wordsB b 48)) (by rw [nums_length, wordsB_length]; kernel_rfl) (fun j u hu => by rw [Nat.zero_add, cell_of_row _ _ j _ _ _ HI.out.2.2.1]; simpa using hu))
          have HST := Aside0.mk (run_store_block (P := Tryz.prog) (w.heap.size + 1) 188 z80 (nums .u32 (wordsB b 48)).toArray 188 HI.out.2.1 (info141 _ (wordsB_length _ _)) (by simp [z80, nums_length, wordsB_length]) (by simp [nums, List.all_eq_true]; intros; rfl))
          clear htk
          go_wp2_with (first | (refine load_at (ty := 188) (.tmp 5) rfl rfl HL.out rfl ?_) | (refine store_at (ty := 188) (.tmp 4) (.tmp 77) rfl rfl rfl HST.out rfl rfl ?_))
          refine bodyPost_ret (results_cell_row rfl _ _ _ _ (nums .u32 (wordsB b 48)).toArray _ _ rfl (setRow_heap _ _ _ _ _ _ HI.out.2.1) Tryz.underlying188 rfl (info141 _ (wordsB_length _ _))) rfl ?_
          exact ⟨rfl, below_row HI.out.2.2.2 (by omega) _⟩

end Go.Proofs.YtfpfnolpoklefaaGreatDoor.Sh
/- Contracts of package sha2: mix. -/
namespace Go.Proofs.YtfpfnolpoklefaaGreatDoor.Sh
open Go.Proofs.YtfpfnolpoklefaaGreatDoor.Dk
open Go.RowKit Go.Proofs.YtfpfnolpoklefaaGreatDoorW.PrintWords Go.Proofs.YtfpfnolpoklefaaGreatDoorW.PrintLast Go.Proofs.YtfpfnolpoklefaaGreatDoorW.PrintMore
set_option linter.unusedVariables false
set_option linter.unusedSimpArgs false
set_option maxRecDepth 30000
variable {w w1 w2 wr : World}
structure Mx (w w' : World) (b : Nat) (hs ws vs : List Int) : Prop where
  bs : w'.heap[w.heap.size]? = some (.cells narrowA 154 (0, 0))
  bh : w'.heap[w.heap.size + 1]? = some (.cells (nums .u32 hs).toArray 158 (0, 0))
  br : w'.heap[w.heap.size + 1 + 1]? = some (.cells (z8 .u32) 158 (0, 0))
  bw : w'.heap[b]? = some (.cells (nums .u32 ws).toArray 188 (0, 0))
  bv : w'.heap[b + 1]? = some (.cells (nums .u32 vs).toArray 158 (0, 0))
  lt : w.heap.size + 1 + 1 < b
  bb : Below w.heap.size w w'
variable {b : Nat} {hs ws vs : List Int}
theorem Mx.drew (h : Mx w w1 b hs ws vs) : Mx w w1.drew b hs ws vs := ⟨h.bs, h.bh, h.br, h.bw, h.bv, h.lt, below_drew h.bb⟩
theorem Mx.below (h : Mx w w1 b hs ws vs) (hb : Below w1.heap.size w1 w2) : Mx w w2 b hs ws vs := ⟨blk_below h.bs hb, blk_below h.bh hb, blk_below h.br hb, blk_below h.bw hb, blk_below h.bv hb, h.lt, h.bb.trans (hb.mono h.bb.size)⟩
theorem Mx.cv (h : Mx w w1 b hs ws vs) {i : Nat} (hi : i < vs.length) : w1.cell? ⟨b + 1, i, none⟩ = some (.int .u32 (vs.getD i 0)) := cell_nums h.bv hi
theorem Mx.cw (h : Mx w w1 b hs ws vs) {i : Nat} (hi : i < ws.length) : w1.cell? ⟨b, i, none⟩ = some (.int .u32 (ws.getD i 0)) := cell_nums h.bw hi
theorem Mx.ch (h : Mx w w1 b hs ws vs) {i : Nat} (hi : i < hs.length) : w1.cell? ⟨w.heap.size + 1, i, none⟩ = some (.int .u32 (hs.getD i 0)) := cell_nums h.bh hi
theorem Mx.shape (h : Mx w w1 b hs ws vs) (j : Nat) (v : Value) (hj : narrowA[j]? = some v) : w1.cell? ⟨w.heap.size, j, none⟩ = some v := cellB3 h.bs j v hj
theorem Mx.setV (h : Mx w w1 b hs ws vs) (us : List Int) : Mx w (w1.setRow (b + 1) (nums .u32 us).toArray) b hs ws us := by
  have hl := h.lt
  have hn := blk_lt h.bv
  have o : ∀ k {o : Obj}, k ≠ b + 1 → w1.heap[k]? = some o → (w1.setRow (b + 1) (nums .u32 us).toArray).heap[k]? = some o := fun k o hk hh => (setRow_other _ _ _ _ hk).trans hh
  exact ⟨o _ (by omega) h.bs, o _ (by omega) h.bh, o _ (by omega) h.br, o _ (by omega) h.bw, setRow_heap _ _ _ _ _ _ h.bv, h.lt, below_row h.bb (by omega) _⟩
theorem Mx.setH (h : Mx w w1 b hs ws vs) (i : Nat) (u : Int) : Mx w (w1.setCell ⟨w.heap.size + 1, i, none⟩ (.int .u32 u)) b (hs.set i u) ws vs := by
  have hl := h.lt
  refine ⟨put_other i _ (by omega) h.bs, ?_, put_other i _ (by omega) h.br, put_other i _ (by omega) h.bw, put_other i _ (by omega) h.bv, h.lt, below_put h.bb (by omega) i _⟩
  have h3 := put_cell h.bh i (.int .u32 u)
  rw [nums_set] at h3
  exact h3
def rX (v7 e v5 v6 k x : Int) : Int := IntKind.u32.wrap (IntKind.u32.wrap (IntKind.u32.wrap (IntKind.u32.wrap (v7 + bigM e 6 11 25) + Go.bits .xor .u32 (Go.bits .and .u32 e v5) (Go.bits .and .u32 (Go.bits .xor .u32 4294967295 e) v6)) + k) + x)
def rY (a v1 v2 : Int) : Int := IntKind.u32.wrap (bigM a 2 13 22 + Go.bits .xor .u32 (Go.bits .xor .u32 (Go.bits .and .u32 a v1) (Go.bits .and .u32 a v2)) (Go.bits .and .u32 v1 v2))
def roundM (v : List Int) (k x : Int) : List Int :=
  [(rX (v.getD 7 0) (v.getD 4 0) (v.getD 5 0) (v.getD 6 0) k x + rY (v.getD 0 0) (v.getD 1 0) (v.getD 2 0)) % 4294967296, v.getD 0 0, v.getD 1 0, v.getD 2 0, (v.getD 3 0 + rX (v.getD 7 0) (v.getD 4 0) (v.getD 5 0) (v.getD 6 0) k x) % 4294967296, v.getD 4 0, v.getD 5 0, v.getD 6 0]
def kM (t : Nat) : Int := IntKind.u32.wrap (constsL.getD t 0 / 4294967296)
def roundsM (h ws : List Int) : Nat → List Int
  | 0 => h
  | t + 1 => roundM (roundsM h ws t) (kM t) (ws.getD t 0)
theorem roundsM_length {h ws : List Int} (hh : h.length = 8) : ∀ t, (roundsM h ws t).length = 8
  | 0 => hh
  | t + 1 => rfl
theorem mx_start {wa w1 : World} (h0 : wa.heap[w.heap.size]? = some (.cells narrowA 154 (0, 0))) (h1 : wa.heap[w.heap.size + 1]? = some (.cells (nums .u32 hs).toArray 158 (0, 0))) (h2 : wa.heap[w.heap.size + 1 + 1]? = some (.cells (z8 .u32) 158 (0, 0))) (hb : Below w.heap.size w wa) (hl : w.heap.size + 1 + 1 < wa.heap.size) (hb1 : Below wa.heap.size wa w1) :
    Mx w ((w1.alloc (.cells (nums .u32 ws).toArray 188)).alloc (.cells (nums .u32 hs).toArray 158)) w1.heap.size hs ws (roundsM hs ws 0) := by
  have b2 : Below w1.heap.size w1 ((w1.alloc (.cells (nums .u32 ws).toArray 188)).alloc (.cells (nums .u32 hs).toArray 158)) := below_alloc (below_alloc (Below.refl _ _) _) _
  have b3 := hb1.trans (b2.mono hb1.size)
  exact ⟨blk_below h0 b3, blk_below h1 b3, blk_below h2 b3, blk_below (heap_alloc_new w1 _) (below_alloc (Below.refl _ _) _), nth2_1 w1 _ _, Nat.lt_of_lt_of_le hl hb1.size, hb.trans (b3.mono hb.size)⟩
theorem u32_one (x : List Int) : ((nums .u32 x).toArray : Array Value).all (·.oneCell') = true := by
  simp [nums, List.all_eq_true]
  intro a _
  rfl
def addR (h v : List Int) : Nat → List Int
  | 0 => h
  | i + 1 => (addR h v i).set i (IntKind.u32.wrap ((addR h v i).getD i 0 + v.getD i 0))
theorem addR_length (h v : List Int) : ∀ i, (addR h v i).length = h.length
  | 0 => rfl
  | i + 1 => by rw [addR, List.length_set]; exact addR_length h v i
def mixM (h b : List Int) : List Int := addR h (roundsM h (wordsM b) 64) 8
theorem mixM_length {h b : List Int} (hh : h.length = 8) : (mixM h b).length = 8 := by rw [mixM, addR_length, hh]
attribute [local irreducible] bigM
attribute [irreducible] kM

set_option maxHeartbeats 16000000 in
theorem mix_calls (hg : Glob w) (g o c : Nat) (x hv : List Int) (h64 : x.length = 64) (h8 : hv.length = 8) (hc : 64 ≤ c) (hC : Bys w g o x) (hgl : g < w.heap.size) : Calls Tryz.prog 101 #[.agg narrowA, .agg (nums .u32 hv).toArray, .slice (some ⟨g, o, none⟩) 64 c] w fun e w' => e = .returned (.agg (nums .u32 (mixM hv x)).toArray) ∧ Below w.heap.size w w' := by
  have HG := Aside0.mk hg
  have H8 := Aside0.mk h8
  obtain ⟨wa, hwa⟩ : ∃ wa, wa = ((w.alloc (.cells narrowA 154)).alloc (.cells (nums .u32 hv).toArray 158)).alloc (.cells (z8 .u32) 158) := ⟨_, rfl⟩
  have HA0 := Aside0.mk (show wa.heap[w.heap.size]? = some (.cells narrowA 154 (0, 0)) from hwa ▸ nth3_0 w _ _ _)
  have HA1 := Aside0.mk (show wa.heap[w.heap.size + 1]? = some (.cells (nums .u32 hv).toArray 158 (0, 0)) from hwa ▸ nth3_1 w _ _ _)
  have HA2 := Aside0.mk (show wa.heap[w.heap.size + 1 + 1]? = some (.cells (z8 .u32) 158 (0, 0)) from hwa ▸ nth3_2 w _ _ _)
  have HAB := Aside0.mk (show Below w.heap.size w wa from hwa ▸ below3 w _ _ _)
  have HAS := Aside0.mk (show w.heap.size + 1 + 1 < wa.heap.size from blk_lt HA2.out)
  have HLA := Aside0.mk (show (Instr.loadAt 154 (.pointer (some ⟨w.heap.size, 0, none⟩))).run Tryz.prog wa = .ok (.agg narrowA) wa from run_loadAt_cells (P := Tryz.prog) (w := wa) 154 Tryz.underlying154 rfl w.heap.size 0 narrowA.toList info120 (fun j u hu => by rw [Nat.zero_add, cell_of_row _ _ j _ _ _ HA0.out]; simpa using hu))
  have HWC := Aside0.mk (words_calls (w := wa) g o c x h64 hc (hC.below hgl HAB.out) (Nat.lt_of_lt_of_le hgl HAB.out.size))
  have hl80 := wordsM_length x
  have HL80 := Aside0.mk hl80
  obtain ⟨ws, hws⟩ : ∃ ws, wordsM x = ws := ⟨_, rfl⟩
  have HWS := Lib.hid hws
  rw [hws] at HWC hl80 HL80
  have HS7 := Aside0.mk (fun w1 : World => run_storeAt_new (P := Tryz.prog) w1 188 z80 (nums .u32 ws).toArray (info141 _ hl80) (by simp [z80, nums_length, hl80]) (by simp [nums, List.all_eq_true]; intros; rfl))
  have HS8 := Aside0.mk (fun w1 : World => run_storeAt_new (P := Tryz.prog) w1 158 (z8 .u32) (nums .u32 hv).toArray (info124 _ h8) (by simp [z8, nums_length, h8]) (by simp [nums, List.all_eq_true]; intros; rfl))
  have HL8 := Aside0.mk (fun (w1 : World) (h : w1.heap[w.heap.size + 1]? = some (.cells (nums .u32 hv).toArray 158 (0, 0))) => run_loadAt_cells (P := Tryz.prog) (w := w1) 158 Tryz.underlying158 rfl (w.heap.size + 1) 0 (nums .u32 hv) (by rw [nums_length, h8]; kernel_rfl) (fun j u hu => by rw [Nat.zero_add, cell_of_row _ _ j _ _ _ h]; simpa using hu))
  subst hwa
  clear hg h8 h64 hc hC hgl hws hl80
  go_enter Tryz.func101, Tryz.ntmps101
  go_wp2_with (first | ((with_reducible refine alloc_at (e := 158) ?_ ?_ (run_alloc124 _) ?_); exact rfl; exact rfl) | ((with_reducible refine alloc_at (e := 188) ?_ ?_ (run_alloc141 _) ?_); exact rfl; exact rfl) | ((with_reducible refine load_at (ty := 154) (.tmp 3) ?_ ?_ HLA.out ?_ ?_); exact rfl; exact rfl; exact rfl) | (go_at_call 111; (with_reducible refine HWC.out.mono ?_); rintro e w1 ⟨rfl, hb1⟩; have HL8 := Aside0.mk (HL8.out (w1.alloc (.cells (nums .u32 ws).toArray 188)) (blk_below (blk_below HA1.out hb1) (below_alloc (Below.refl _ _) _))); have HM := Aside0.mk (mx_start (ws := ws) HA0.out HA1.out HA2.out HAB.out HAS.out hb1); clear hb1) | ((with_reducible refine store_at (ty := 188) (.tmp 7) (.tmp 17) ?_ ?_ ?_ (HS7.out _) ?_ ?_ ?_); exact rfl; exact rfl; exact rfl; exact rfl; exact rfl) | ((with_reducible refine load_at (ty := 158) (.tmp 4) ?_ ?_ HL8.out ?_ ?_); exact rfl; exact rfl; exact rfl) | ((with_reducible refine store_at (ty := 158) (.tmp 8) (.tmp 18) ?_ ?_ ?_ (HS8.out _) ?_ ?_ ?_); exact rfl; exact rfl; exact rfl; exact rfl; exact rfl; generalize ((w1.alloc (.cells (nums .u32 ws).toArray 188)).alloc (.cells (nums .u32 hv).toArray 158)) = wS at HM ⊢; have hs2 := HM.out.shape 2 (.int .i64 64) rfl))
  clear HA0 HA1 HA2 HAB HAS HWC HLA HL8 HS7 HS8 hs2
  obtain ⟨b, hb⟩ : ∃ b, b = w1.heap.size := ⟨_, rfl⟩
  rw [← hb] at HM ⊢
  clear hb
  go_loopw [9, 10, 11, 12, 13, 21] (fun v9 v10 v11 v12 v13 v21 w' => ∃ t : Nat, v21 = .int .i64 t ∧ t ≤ 64 ∧ Aside0 (Mx w w' b hv ws (roundsM hv ws t))) (fun v9 v10 v11 v12 v13 v21 _ => 64 - (intOf v21).toNat)
  case atStart => exact ⟨0, rfl, Nat.zero_le _, HM⟩
  case round =>
    clear HM
    obtain ⟨t, rfl, ht, HM⟩ := hrel
    by_cases hlt : t < 64
    · have hq : decide ((t : Int) < 64) = true := decide_eq_true (by omega)
      have HD6 := Aside0.mk HM.out.drew
      obtain ⟨vs, hvs⟩ : ∃ vs, roundsM hv ws t = vs := ⟨_, rfl⟩
      have HVL := Aside0.mk (show vs.length = 8 from hvs ▸ roundsM_length H8.out t)
      have HVS := Lib.hid hvs
      rw [hvs] at HM HD6
      obtain ⟨x, hx⟩ : ∃ x, ws.getD t 0 = x := ⟨_, rfl⟩
      obtain ⟨c, hc⟩ : ∃ c, constsL.getD t 0 = c := ⟨_, rfl⟩
      obtain ⟨v0, hv0⟩ : ∃ v, vs.getD 0 0 = v := ⟨_, rfl⟩
      obtain ⟨v1, hv1⟩ : ∃ v, vs.getD 1 0 = v := ⟨_, rfl⟩
      obtain ⟨v2, hv2⟩ : ∃ v, vs.getD 2 0 = v := ⟨_, rfl⟩
      obtain ⟨v3, hv3⟩ : ∃ v, vs.getD 3 0 = v := ⟨_, rfl⟩
      obtain ⟨v4, hv4⟩ : ∃ v, vs.getD 4 0 = v := ⟨_, rfl⟩
      obtain ⟨v5, hv5⟩ : ∃ v, vs.getD 5 0 = v := ⟨_, rfl⟩
      obtain ⟨v6, hv6⟩ : ∃ v, vs.getD 6 0 = v := ⟨_, rfl⟩
      obtain ⟨v7, hv7⟩ : ∃ v, vs.getD 7 0 = v := ⟨_, rfl⟩
      have HN := Aside0.mk (show roundsM hv ws (t + 1) = [(rX v7 v4 v5 v6 (IntKind.u32.wrap (c / 4294967296)) x + rY v0 v1 v2) % 4294967296, v0, v1, v2, (v3 + rX v7 v4 v5 v6 (IntKind.u32.wrap (c / 4294967296)) x) % 4294967296, v4, v5, v6] from by rw [roundsM, hvs, hx, kM, hc, roundM, hv0, hv1, hv2, hv3, hv4, hv5, hv6, hv7])
      have S0 := Aside0.mk (fun (W : World) (h : Mx w W b hv ws vs) => (hv0 ▸ h.cv (i := 0) (by rw [HVL.out]; decide) : W.cell? ⟨b + 1, 0, none⟩ = some (.int .u32 v0)))
      have S1 := Aside0.mk (fun (W : World) (h : Mx w W b hv ws vs) => (hv1 ▸ h.cv (i := 1) (by rw [HVL.out]; decide) : W.cell? ⟨b + 1, 1, none⟩ = some (.int .u32 v1)))
      have S2 := Aside0.mk (fun (W : World) (h : Mx w W b hv ws vs) => (hv2 ▸ h.cv (i := 2) (by rw [HVL.out]; decide) : W.cell? ⟨b + 1, 2, none⟩ = some (.int .u32 v2)))
      have S3 := Aside0.mk (fun (W : World) (h : Mx w W b hv ws vs) => (hv3 ▸ h.cv (i := 3) (by rw [HVL.out]; decide) : W.cell? ⟨b + 1, 3, none⟩ = some (.int .u32 v3)))
      have S4 := Aside0.mk (fun (W : World) (h : Mx w W b hv ws vs) => (hv4 ▸ h.cv (i := 4) (by rw [HVL.out]; decide) : W.cell? ⟨b + 1, 4, none⟩ = some (.int .u32 v4)))
      have S5 := Aside0.mk (fun (W : World) (h : Mx w W b hv ws vs) => (hv5 ▸ h.cv (i := 5) (by rw [HVL.out]; decide) : W.cell? ⟨b + 1, 5, none⟩ = some (.int .u32 v5)))
      have S6 := Aside0.mk (fun (W : World) (h : Mx w W b hv ws vs) => (hv6 ▸ h.cv (i := 6) (by rw [HVL.out]; decide) : W.cell? ⟨b + 1, 6, none⟩ = some (.int .u32 v6)))
      have S7 := Aside0.mk (fun (W : World) (h : Mx w W b hv ws vs) => (hv7 ▸ h.cv (i := 7) (by rw [HVL.out]; decide) : W.cell? ⟨b + 1, 7, none⟩ = some (.int .u32 v7)))
      have SW := Aside0.mk (fun (W : World) (h : Mx w W b hv ws vs) => (hx ▸ h.cw (i := t) (by rw [HL80.out]; omega) : W.cell? ⟨b, t, none⟩ = some (.int .u32 x)))
      have SC := Aside0.mk (fun (W : World) (h : Mx w W b hv ws vs) => (hc ▸ (HG.out.below h.bb).c t (by omega) : W.cell? ⟨1, t, none⟩ = some (.int .u64 c)))
      clear hvs hx hc hv0 hv1 hv2 hv3 hv4 hv5 hv6 hv7
      repeat (first | go_step | go_guarded | go_upon)
      refine start_ (n := 6) (S := fun w' => w'.cell? ⟨b + 1, 0, none⟩ = some (.int .u32 v0) ∧ w'.cell? ⟨b + 1, 4, none⟩ = some (.int .u32 v4)) (ds := []) (bz 6 0) (by kernel_rfl) rfl rfl ⟨(S0.out _ HD6.out), (S4.out _ HD6.out)⟩ (fun hHeld => ?_)
      refine pz 0 (some 24) (bz 6 1) ?_
      refine pz 2 (some 26) (bz 6 5) ?_
      refine tz2 1 (some 25) (bz 6 7) hHeld ?_
      refine pz 4 (some 10) (bz 6 23) ?_
      refine tz2 3 (some 27) (bz 6 31) hHeld ?_
      refine pz 5 (some 11) (bz 6 63) ?_
      refine done_ (by kernel_rfl) ?_
      clear hHeld
      have HD7 := Aside0.mk HD6.out.drew
      have bt : ((t : Int) < 80) = True := eq_true (by omega)
      have hw32 : wrap64 32 = 32 := by simp [wrap64]
      repeat (first | go_step | go_guarded | go_upon)
      refine start_ (n := 34) (S := fun w' => w'.cell? ⟨b + 1, 5, none⟩ = some (.int .u32 v5) ∧ w'.cell? ⟨b + 1, 6, none⟩ = some (.int .u32 v6) ∧ w'.cell? ⟨b + 1, 7, none⟩ = some (.int .u32 v7) ∧ w'.cell? ⟨b, t, none⟩ = some (.int .u32 x) ∧ w'.cell? ⟨1, t, none⟩ = some (.int .u64 c) ∧ w'.cell? ⟨w.heap.size, 1, none⟩ = some (.int .i64 32) ∧ w'.cell? ⟨w.heap.size, 12, none⟩ = some (.int .i64 6) ∧ w'.cell? ⟨w.heap.size, 13, none⟩ = some (.int .i64 11) ∧ w'.cell? ⟨w.heap.size, 14, none⟩ = some (.int .i64 25)) (ds := []) (bz 34 0) (by kernel_rfl) rfl rfl ⟨(S5.out _ HD7.out), (S6.out _ HD7.out), (S7.out _ HD7.out), (SW.out _ HD7.out), (SC.out _ HD7.out), (HD7.out.shape 1 _ rfl), (HD7.out.shape 12 _ rfl), (HD7.out.shape 13 _ rfl), (HD7.out.shape 14 _ rfl)⟩ (fun hHeld => ?_)
      refine pz 0 (some 28) (bz 34 1) ?_
      refine pz 2 (some 30) (bz 34 5) ?_
      refine pz 3 (some 31) (bz 34 13) ?_
      refine pz 5 (some 33) (bz 34 45) ?_
      refine pz 9 (some 37) (bz 34 557) ?_
      refine pz 10 (some 38) (bz 34 1581) ?_
      refine pz 13 (some 41) (bz 34 9773) ?_
      refine pz 14 (some 42) (bz 34 26157) ?_
      refine pz 15 (some 43) (bz 34 58925) ?_
      refine pz 20 (some 48) (bz 34 1107501) ?_
      refine pz 21 (some 49) (bz 34 3204653) ?_
      refine pz 23 (some 51) (bz 34 11593261) ?_
      refine pz 29 (some 57) (bz 34 548464173) ?_
      refine pz 30 (some 58) (bz 34 1622205997) ?_
      refine tz9 1 (some 29) (bz 34 1622205999) hHeld ?_
      refine tz9 4 (some 32) (bz 34 1622206015) hHeld ?_
      refine tz9 6 (some 34) (bz 34 1622206079) hHeld ?_
      refine tz9 11 (some 39) (bz 34 1622208127) hHeld ?_
      refine pz 12 (some 40) (bz 34 1622212223) ?_
      refine tz9 16 (some 44) (bz 34 1622277759) hHeld ?_
      refine pz 17 (some 45) (bz 34 1622408831) ?_
      refine pz 18 (some 46) (bz 34 1622670975) ?_
      refine tz9 22 (some 50) (bz 34 1626865279) hHeld ?_
      refine tz9 24 (some 52) (bz 34 1643642495) hHeld ?_
      refine pz 25 (some 53) (bz 34 1677196927) ?_
      refine pz 26 (some 54) (bz 34 1744305791) ?_
      refine pz 27 (some 55) (bz 34 1878523519) ?_
      refine tz9 31 (some 59) (bz 34 4026007167) hHeld ?_
      refine one_ (i := 7) (N := some 35) (bz 34 4026007295) rfl rfl (by kernel_rfl) (by decide) (fun K hK => ?_)
      refine goes_ Tryz.func112 (by kernel_rfl) rfl #[.int .u32 v4, .agg #[.int .i64 6, .int .i64 11, .int .i64 25], .int .i64 32] (by rfl) rfl rfl (by simp only [List.map_toArray, List.map_cons, List.map_nil]; rfl) ?_
      with_reducible refine (big_calls v4 6 11 25 (by decide) (by decide) (by decide) (by decide) (by decide) (by decide) _).mono ?_
      rintro e w7 ⟨rfl, hd⟩
      refine ⟨_, rfl, ?_⟩
      have HI7 := Aside0.mk (HD7.out.below hd)
      clear hd
      refine hK.out _ _ ⟨(S5.out _ HI7.out), (S6.out _ HI7.out), (S7.out _ HI7.out), (SW.out _ HI7.out), (SC.out _ HI7.out), (HI7.out.shape 1 _ rfl), (HI7.out.shape 12 _ rfl), (HI7.out.shape 13 _ rfl), (HI7.out.shape 14 _ rfl)⟩ (fun hHeld => ?_)
      clear hK K
      refine norm_ (a' := ?_) ?_ ?_
      rotate_left
      · show Act.put _ (some 35) _ = _
        simp only [Act.put, List.setIfInBounds_toArray, List.set_cons_zero, List.set_cons_succ, i64_w, i32_w]
        rfl
      refine pz 8 (some 36) (bz 34 4026007551) ?_
      refine pz 19 (some 47) (bz 34 4026531839) ?_
      refine pz 28 (some 56) (bz 34 4294967295) ?_
      refine pz 32 (some 60) (bz 34 8589934591) ?_
      refine pz 33 (some 12) (bz 34 17179869183) ?_
      refine done_ (by kernel_rfl) ?_
      clear hHeld
      generalize hX : IntKind.u32.wrap (IntKind.u32.wrap (IntKind.u32.wrap (IntKind.u32.wrap (v7 + bigM v4 6 11 25) + Go.bits .xor .u32 (Go.bits .and .u32 v4 v5) (Go.bits .and .u32 (Go.bits .xor .u32 (if IntKind.u32.signed = true then -1 else IntKind.u32.max) v4) v6)) + IntKind.u32.wrap (c / 4294967296)) + x) = X
      generalize (if IntKind.u32.signed = true then (-1 : Int) else IntKind.u32.max) = M
      have HX := Lib.hid hX
      clear hX
      have HD8 := Aside0.mk HI7.out.drew
      repeat (first | go_step | go_guarded | go_upon)
      refine start_ (n := 23) (S := fun w' => w'.cell? ⟨b + 1, 1, none⟩ = some (.int .u32 v1) ∧ w'.cell? ⟨b + 1, 2, none⟩ = some (.int .u32 v2) ∧ w'.cell? ⟨w.heap.size, 1, none⟩ = some (.int .i64 32) ∧ w'.cell? ⟨w.heap.size, 9, none⟩ = some (.int .i64 2) ∧ w'.cell? ⟨w.heap.size, 10, none⟩ = some (.int .i64 13) ∧ w'.cell? ⟨w.heap.size, 11, none⟩ = some (.int .i64 22)) (ds := []) (bz 23 0) (by kernel_rfl) rfl rfl ⟨(S1.out _ HD8.out), (S2.out _ HD8.out), (HD8.out.shape 1 _ rfl), (HD8.out.shape 9 _ rfl), (HD8.out.shape 10 _ rfl), (HD8.out.shape 11 _ rfl)⟩ (fun hHeld => ?_)
      refine pz 0 (some 61) (bz 23 1) ?_
      refine pz 1 (some 62) (bz 23 3) ?_
      refine pz 3 (some 64) (bz 23 11) ?_
      refine pz 6 (some 67) (bz 23 75) ?_
      refine pz 7 (some 68) (bz 23 203) ?_
      refine pz 10 (some 71) (bz 23 1227) ?_
      refine pz 11 (some 72) (bz 23 3275) ?_
      refine pz 15 (some 76) (bz 23 36043) ?_
      refine pz 17 (some 78) (bz 23 167115) ?_
      refine tz6 2 (some 63) (bz 23 167119) hHeld ?_
      refine tz6 4 (some 65) (bz 23 167135) hHeld ?_
      refine tz6 8 (some 69) (bz 23 167391) hHeld ?_
      refine pz 9 (some 70) (bz 23 167903) ?_
      refine tz6 12 (some 73) (bz 23 171999) hHeld ?_
      refine pz 13 (some 74) (bz 23 180191) ?_
      refine pz 14 (some 75) (bz 23 196575) ?_
      refine tz6 16 (some 77) (bz 23 262111) hHeld ?_
      refine tz6 18 (some 79) (bz 23 524255) hHeld ?_
      refine pz 19 (some 80) (bz 23 1048543) ?_
      refine pz 20 (some 81) (bz 23 2097119) ?_
      refine one_ (i := 5) (N := some 66) (bz 23 2097151) rfl rfl (by kernel_rfl) (by decide) (fun K hK => ?_)
      refine goes_ Tryz.func112 (by kernel_rfl) rfl #[.int .u32 v0, .agg #[.int .i64 2, .int .i64 13, .int .i64 22], .int .i64 32] (by rfl) rfl rfl (by simp only [List.map_toArray, List.map_cons, List.map_nil]; rfl) ?_
      with_reducible refine (big_calls v0 2 13 22 (by decide) (by decide) (by decide) (by decide) (by decide) (by decide) _).mono ?_
      rintro e w8 ⟨rfl, hd⟩
      refine ⟨_, rfl, ?_⟩
      have HI8 := Aside0.mk (HD8.out.below hd)
      clear hd
      refine hK.out _ _ ⟨(S1.out _ HI8.out), (S2.out _ HI8.out), (HI8.out.shape 1 _ rfl), (HI8.out.shape 9 _ rfl), (HI8.out.shape 10 _ rfl), (HI8.out.shape 11 _ rfl)⟩ (fun hHeld => ?_)
      clear hK K
      refine norm_ (a' := ?_) ?_ ?_
      rotate_left
      · show Act.put _ (some 66) _ = _
        simp only [Act.put, List.setIfInBounds_toArray, List.set_cons_zero, List.set_cons_succ, i64_w, i32_w]
        rfl
      refine pz 21 (some 82) (bz 23 4194303) ?_
      refine pz 22 (some 13) (bz 23 8388607) ?_
      refine done_ (by kernel_rfl) ?_
      clear hHeld
      generalize hY : IntKind.u32.wrap (bigM v0 2 13 22 + Go.bits .xor .u32 (Go.bits .xor .u32 (Go.bits .and .u32 v0 v1) (Go.bits .and .u32 v0 v2)) (Go.bits .and .u32 v1 v2)) = Y
      have HY := Lib.hid hY
      clear hY
      have h1 := S1.out _ HI8.out
      have h2 := S2.out _ HI8.out
      have h3 := S3.out _ HI8.out
      have h5 := S5.out _ HI8.out
      have h6 := S6.out _ HI8.out
      have HNX := Aside0.mk (show roundsM hv ws (t + 1) = [(X + Y) % 4294967296, v0, v1, v2, (v3 + X) % 4294967296, v4, v5, v6] from by rw [HN.out, ← HX.out, ← HY.out] <;> rfl)
      have HST := Aside0.mk (run_store_block (P := Tryz.prog) (w := w8) (b + 1) 158 (nums .u32 vs).toArray (nums .u32 [(X + Y) % 4294967296, v0, v1, v2, (v3 + X) % 4294967296, v4, v5, v6]).toArray 158 HI8.out.bv (info124 _ rfl) (by simp [nums_length, HVL.out]) (u32_one _))
      have HV := Aside0.mk (HI8.out.setV [(X + Y) % 4294967296, v0, v1, v2, (v3 + X) % 4294967296, v4, v5, v6])
      go_wp2_with (first | ((with_reducible refine store_at (ty := 158) (.tmp 8) (.tmp 100) ?_ ?_ ?_ HST.out ?_ ?_ ?_); exact rfl; exact rfl; exact rfl; exact rfl; exact rfl))
      go_roundw
      case rel => exact ⟨t + 1, by go_num, by omega, ⟨by rw [HNX.out]; exact HV.out⟩⟩
      case measure => simp [intOf]; omega
    · obtain rfl : t = 64 := by omega
      obtain ⟨vs, hvs⟩ : ∃ vs, roundsM hv ws 64 = vs := ⟨_, rfl⟩
      have HVL := Aside0.mk (show vs.length = 8 from hvs ▸ roundsM_length H8.out 64)
      have HVS := Lib.hid hvs
      rw [hvs] at HM
      have hq : decide ((64 : Int) < 64) = false := rfl
      clear hvs
      repeat (first | go_step | go_guarded | go_upon)
      go_loopw [14, 102] (fun v14 v102 w' => ∃ i : Nat, v102 = .int .i64 i ∧ i ≤ 8 ∧ Aside0 (Mx w w' b (addR hv vs i) ws vs)) (fun v14 v102 _ => 8 - (intOf v102).toNat)
      case atStart => exact ⟨0, rfl, Nat.zero_le _, HM⟩
      case round =>
        clear HM
        obtain ⟨i, rfl, hi, HM⟩ := hrel
        have HHL := Aside0.mk (show (addR hv vs i).length = 8 from (addR_length hv vs i).trans H8.out)
        by_cases hlt : i < 8
        · have hq : decide ((i : Int) < 8) = true := decide_eq_true (by omega)
          obtain ⟨x, hx⟩ : ∃ x, (addR hv vs i).getD i 0 = x := ⟨_, rfl⟩
          obtain ⟨y, hy⟩ : ∃ y, vs.getD i 0 = y := ⟨_, rfl⟩
          have HN := Aside0.mk (show addR hv vs (i + 1) = (addR hv vs i).set i (IntKind.u32.wrap (x + y)) by rw [addR, hx, hy])
          have HD := Aside0.mk HM.out.drew
          have S0 := Aside0.mk (fun (W : World) (h : Mx w W b (addR hv vs i) ws vs) => (hx ▸ h.ch (i := i) (by rw [HHL.out]; exact hlt) : W.cell? ⟨w.heap.size + 1, i, none⟩ = some (.int .u32 x)))
          have S1 := Aside0.mk (fun (W : World) (h : Mx w W b (addR hv vs i) ws vs) => (hy ▸ h.cv (i := i) (by rw [HVL.out]; exact hlt) : W.cell? ⟨b + 1, i, none⟩ = some (.int .u32 y)))
          have hc := HD.out.ch (i := i) (by rw [HHL.out]; exact hlt)
          have hf := free_row HD.out.bh i
          have bt : ((i : Int) < 8) = True := eq_true (by omega)
          have HST := Aside0.mk (HD.out.setH i (IntKind.u32.wrap (x + y)))
          clear hx hy
          repeat (first | go_step | go_guarded | go_upon)
          refine start_ (n := 9) (S := fun w' => w'.cell? ⟨w.heap.size + 1, i, none⟩ = some (.int .u32 x) ∧ w'.cell? ⟨b + 1, i, none⟩ = some (.int .u32 y)) (ds := [8]) (bz 9 0) (by kernel_rfl) rfl rfl ⟨(S0.out _ HD.out), (S1.out _ HD.out)⟩ (fun hHeld => ?_)
          refine pz 0 (some 105) (bz 9 1) ?_
          refine pz 1 (some 106) (bz 9 3) ?_
          refine pz 3 (some 108) (bz 9 11) ?_
          refine pz 4 (some 109) (bz 9 27) ?_
          refine tz2 2 (some 107) (bz 9 31) hHeld ?_
          refine tz2 5 (some 110) (bz 9 63) hHeld ?_
          refine pz 6 (some 111) (bz 9 127) ?_
          refine pz 7 (some 112) (bz 9 255) ?_
          refine last_ (i := 8) (N := none) (bz 9 511) rfl rfl (by kernel_rfl) (by decide) (fun K hK => ?_)
          refine skip_ (w1 := ?_) (by rfl) rfl ?_ ?_
          rotate_left
          · go_simp
            rfl
          refine hK.out _ _ ?_
          clear hK K
          refine done_ (by kernel_rfl) ?_
          clear hHeld hc hf
          go_wp2_with (fail)
          go_roundw
          case rel => exact ⟨i + 1, by go_num, by omega, ⟨by rw [HN.out]; exact HST.out⟩⟩
          case measure => simp [intOf]; omega
        · obtain rfl : i = 8 := by omega
          have hq : decide ((8 : Int) < 8) = false := rfl
          have HL := Aside0.mk (run_loadAt_cells (P := Tryz.prog) (w := wr) 158 Tryz.underlying158 rfl (w.heap.size + 1) 0 (nums .u32 (addR hv vs 8)) (by rw [nums_length, HHL.out]; kernel_rfl) (fun j u hu => by rw [Nat.zero_add, cell_of_row _ _ j _ _ _ HM.out.bh]; simpa using hu))
          have HST := Aside0.mk (run_store_block (P := Tryz.prog) (w := wr) (w.heap.size + 1 + 1) 158 (z8 .u32) (nums .u32 (addR hv vs 8)).toArray 158 HM.out.br (info124 _ HHL.out) (by simp [z8, nums_length, HHL.out]) (u32_one _))
          go_wp2_with (first | ((with_reducible refine load_at (ty := 158) (.tmp 4) ?_ ?_ HL.out ?_ ?_); exact rfl; exact rfl; exact rfl) | ((with_reducible refine store_at (ty := 158) (.tmp 6) (.tmp 114) ?_ ?_ ?_ HST.out ?_ ?_ ?_); exact rfl; exact rfl; exact rfl; exact rfl; exact rfl))
          refine bodyPost_ret (results_cell_row rfl _ _ _ _ (nums .u32 (addR hv vs 8)).toArray _ _ rfl (setRow_heap _ _ _ _ _ _ HM.out.br) Tryz.underlying158 rfl (info124 _ HHL.out)) rfl ?_
          exact ⟨by rw [mixM, HWS.out, HVS.out], below_row HM.out.bb (by omega) _⟩

end Go.Proofs.YtfpfnolpoklefaaGreatDoor.Sh
/- A digest under way in memory; take. -/
namespace Go.Proofs.YtfpfnolpoklefaaGreatDoor.Sh
open Go.Proofs.YtfpfnolpoklefaaGreatDoor.Dk
open Go.RowKit Go.Proofs.YtfpfnolpoklefaaGreatDoorW.PrintWords Go.Proofs.YtfpfnolpoklefaaGreatDoorW.PrintLast Go.Proofs.YtfpfnolpoklefaaGreatDoorW.PrintMore
set_option linter.unusedVariables false
set_option linter.unusedSimpArgs false
set_option maxRecDepth 30000

variable {w w0 w1 w2 wr : World} {g : Nat} {n : Int} {r : Option (List Int)} {hv xs ys : List Int}
/-- A digest's cells: its shape, how many bytes, those that wait, the eight words, the other eight. -/
def hC (n : Int) (vr : Value) (hv h6 : List Int) : List Value := narrowA.toList ++ (.int .i64 n :: vr :: (nums .u32 hv ++ nums .u64 h6))
/-- r: what waits, if it is told. -/
structure HAt (w0 w : World) (g : Nat) (n : Int) (r : Option (List Int)) (hv : List Int) : Prop where
  blk : ∃ vr h6, w.heap[g]? = some (.cells (hC n vr hv h6).toArray 161 (0, 0)) ∧ ((∃ A m c, vr = .slice A m c) ∧ ∀ x, r = some x → Row8 w w0.heap.size vr x) ∧ h6.length = 8
  hl : hv.length = 8
  lo : w0.heap.size ≤ g
  b : Below w0.heap.size w0 w
theorem HAt.below (h : HAt w0 w g n r hv) (hb : Below w.heap.size w w1) : HAt w0 w1 g n r hv := by
  obtain ⟨vr, h6, h1, h2, h3⟩ := h.blk
  exact ⟨⟨vr, h6, blk_below h1 hb, ⟨h2.1, fun x hx => (h2.2 x hx).below hb⟩, h3⟩, h.hl, h.lo, h.b.trans (hb.mono h.b.size)⟩
theorem HAt.drew (h : HAt w0 w g n r hv) : HAt w0 w.drew g n r hv := h.below (below_drew (Below.refl _ _))
theorem HAt.rs (h : HAt w0 w g n r hv) : w.rangeAt g 0 narrowA.toList := fun j v hj => by
  obtain ⟨vr, h6, h1, _⟩ := h.blk
  rw [Nat.zero_add, cell_of_row _ _ j _ _ _ h1]
  have := List.getElem?_eq_some_iff.1 hj
  simp only [hC, List.getElem?_toArray]
  rw [List.getElem?_append_left this.1, hj]
theorem hC_mid {vr : Value} {h6 : List Int} {j : Nat} (hl : hv.length = 8) (hj : j < 8) : (hC n vr hv h6)[17 + j]? = (nums .u32 hv)[j]? := by
  simp only [hC]
  rw [List.getElem?_append_right (by simp [narrowA]; omega)]
  have e : 17 + j - narrowA.toList.length = j + 2 := by simp [narrowA]; omega
  rw [e, List.getElem?_cons_succ, List.getElem?_cons_succ, List.getElem?_append_left (by rw [nums_length, hl]; exact hj)]
theorem HAt.rh (h : HAt w0 w g n r hv) : w.rangeAt g 17 (nums .u32 hv) := fun j v hj => by
  obtain ⟨vr, h6, h1, _⟩ := h.blk
  have hlt := (List.getElem?_eq_some_iff.1 hj).1
  rw [nums_length, h.hl] at hlt
  rw [cell_of_row _ _ _ _ _ _ h1, List.getElem?_toArray, hC_mid h.hl hlt, hj]
theorem HAt.cn (h : HAt w0 w g n r hv) : w.cell? ⟨g, 15, none⟩ = some (.int .i64 n) := by
  obtain ⟨vr, h6, h1, _⟩ := h.blk
  rw [cell_of_row _ _ _ _ _ _ h1]; rfl
theorem HAt.c0 (h : HAt w0 w g n r hv) : w.cell? ⟨g, 0, none⟩ = some (.int .i64 4) := by
  obtain ⟨vr, h6, h1, _⟩ := h.blk
  rw [cell_of_row _ _ _ _ _ _ h1]; rfl
theorem HAt.free (h : HAt w0 w g n r hv) (j : Nat) : w.frozen? ⟨g, j, none⟩ = false := by
  obtain ⟨vr, h6, h1, _⟩ := h.blk
  exact free_row h1 j
/-- Another digest's words are laid. -/
theorem hC_len {vr : Value} {h6 : List Int} (hl : hv.length = 8) (h : h6.length = 8) : (hC n vr hv h6).length = 33 := by simp [hC, narrowA, nums_length, hl, h]
theorem hC_set {vr : Value} {h6 us : List Int} (hl : hv.length = 8) (hu : us.length = 8) : (hC n vr hv h6).take 17 ++ nums .u32 us ++ (hC n vr hv h6).drop (17 + (nums .u32 us).length) = hC n vr us h6 := by
  have e : (nums IntKind.u32 us).length = 8 := by rw [nums_length, hu]
  have e2 : (nums IntKind.u32 hv).length = 8 := by rw [nums_length, hl]
  rw [e]
  simp [hC, narrowA, List.drop_append, List.drop_of_length_le, e2]
theorem HAt.setH (h : HAt w0 w g n r hv) {us : List Int} (hu : us.length = 8) : HAt w0 (w.setCells g 17 (nums .u32 us)) g n r us := by
  obtain ⟨vr, h6, h1, h2, h3⟩ := h.blk
  obtain ⟨cur', c1, c2, c3⟩ := setCells_row (nums .u32 us) 17 w _ h1 (by simp [hC_len h.hl h3, nums_length, hu])
  obtain ⟨s1, s2, s3, s4⟩ := setCells_same g (nums .u32 us) 17 w
  have hup : Upd w (w.setCells g 17 (nums .u32 us)) (· = g) := ⟨s1, s2, s3, by rw [s4]; exact Nat.le_refl _, fun k _ hk => setCells_far _ _ k hk⟩
  refine ⟨⟨vr, h6, ?_, ?_, h3⟩, hu, h.lo, ?_⟩
  · rw [c1]
    congr 2
    apply Array.toList_inj.1
    rw [c3]
    exact hC_set h.hl hu
  · exact ⟨h2.1, fun x hx => (h2.2 x hx).type h1 (by decide) hup⟩
  · exact ⟨s1.trans h.b.os, s2.trans h.b.tape, s3.trans h.b.output, by rw [s4]; exact h.b.size, fun k hk => (setCells_far _ _ k (by have := h.lo; omega)).trans (h.b.block k hk)⟩
theorem HAt.there (h : HAt w0 w g n r hv) : w.there g 17 8 := fun j hj => by
  refine ⟨?_, h.free _⟩
  rw [h.rh j _ (by rw [List.getElem?_eq_getElem (by rw [nums_length, h.hl]; exact hj)])]
  rfl
theorem exec_store {P : Program} {ρ : Operand → Value} {o : Oper} {ty : TypeId} {x y : Operand} {q v : Value} {w w1 : World} (ho : o.op = .store ty x y) (hx : ρ x = q) (hy : ρ y = v) (hrun : (Instr.storeAt ty q v).run P w = .ok () w1) : (execOp ρ o).run P w = .ok .skip w1 := by
  subst hx; subst hy
  unfold execOp
  simp [ho, hrun]
/-- A slice that is empty, or bytes of a block beside g. -/
def RowAt (w : World) (g : Nat) (v : Value) (xs : List Int) : Prop := ∃ A c, v = .slice A xs.length c ∧ xs.length ≤ c ∧ (xs = [] ∨ ∃ gs o, A = some ⟨gs, o, none⟩ ∧ gs ≠ g ∧ gs < w.heap.size ∧ Bys w gs o xs)
theorem RowAt.upd {v : Value} (h : RowAt w g v xs) (hu : Upd w w1 (· = g)) : RowAt w1 g v xs := by
  obtain ⟨A, c, e, hc, h⟩ := h
  refine ⟨A, c, e, hc, h.imp_right ?_⟩
  rintro ⟨gs, o, e, hne, hlt, hb⟩
  exact ⟨gs, o, e, hne, Nat.lt_of_lt_of_le hlt hu.size, fun j hj => (cell_block (hu.block gs hlt hne) _).trans (hb j hj)⟩
theorem RowAt.below {v : Value} (h : RowAt w g v xs) (hb : Below w.heap.size w w1) : RowAt w1 g v xs := h.upd (Upd.of_below hb)
theorem setCells_upd (g o : Nat) (vs : List Value) (w : World) : Upd w (w.setCells g o vs) (· = g) := by
  obtain ⟨s1, s2, s3, s4⟩ := setCells_same g vs o w
  exact ⟨s1, s2, s3, by rw [s4]; exact Nat.le_refl _, fun k _ hk => setCells_far _ _ k hk⟩
theorem Bys.upd {gs o : Nat} {b : List Int} (h : Bys w gs o b) (hg : gs < w.heap.size) (hn : gs ≠ g) (hu : Upd w w1 (· = g)) : Bys w1 gs o b := fun j hj => (cell_block (hu.block gs hg hn) _).trans (h j hj)
theorem Bys.take {g o : Nat} {b : List Int} (h : Bys w g o b) (m : Nat) : Bys w g o (b.take m) := fun j hj => by
  rw [List.length_take] at hj
  rw [h j (by omega)]
  simp [List.getD_eq_getElem?_getD, List.getElem?_take, show j < m by omega]
theorem Bys.drop {g o : Nat} {b : List Int} (h : Bys w g o b) (m : Nat) : Bys w g (o + m) (b.drop m) := fun j hj => by
  rw [List.length_drop] at hj
  rw [Nat.add_assoc, h (m + j) (by omega)]
  simp [List.getD_eq_getElem?_getD]
theorem rowat_drop {gs o c : Nat} {ys : List Int} (h : Bys w gs o ys) (hn : gs ≠ g) (hl : gs < w.heap.size) (hd : (ys.drop 64).length = ys.length - 64) (hc : ys.length ≤ c) : ys.drop 64 = [] ∨ ∃ gs' o', (if c = 64 then some (⟨gs, o, none⟩ : Addr) else some ⟨gs, o + 64, none⟩) = some ⟨gs', o', none⟩ ∧ gs' ≠ g ∧ gs' < w.heap.size ∧ Bys w gs' o' (ys.drop 64) := by
  by_cases h64 : c = 64
  · exact .inl (List.eq_nil_of_length_eq_zero (by omega))
  · exact .inr ⟨gs, o + 64, by rw [if_neg h64], hn, hl, h.drop 64⟩
/-- Whole blocks go into the words; the rest is left. -/
def takeF (hv xs : List Int) : List Int × List Int := if 64 ≤ xs.length then takeF (mixM hv (xs.take 64)) (xs.drop 64) else (hv, xs)
termination_by xs.length
decreasing_by simp; omega
theorem takeF_ge {hv xs : List Int} (h : 64 ≤ xs.length) : takeF hv xs = takeF (mixM hv (xs.take 64)) (xs.drop 64) := by
  rw [takeF, if_pos h]
theorem takeF_lt {hv xs : List Int} (h : xs.length < 64) : takeF hv xs = (hv, xs) := by
  rw [takeF, if_neg (by omega)]
theorem block_callsA (w : World) : Calls Tryz.prog 100 #[.agg narrowA] w fun e w' => e = .returned (.int .i64 64) ∧ Below w.heap.size w w' := block_calls w
def TakePost (w0 w w' : World) (g : Nat) (n : Int) (r : Option (List Int)) (hv xs : List Int) (e : Ending) : Prop := ∃ v, e = .returned v ∧ RowAt w' g v (takeF hv xs).2 ∧ HAt w0 w' g n r (takeF hv xs).1 ∧ Upd w w' (· = g)

set_option maxHeartbeats 16000000 in
theorem take_calls (hg0 : Glob w0) (v : Value) (h : HAt w0 w g n r hv) (hr : RowAt w g v xs) (hx : xs.length ≤ 1000000000) : Calls Tryz.prog 83 #[.pointer (some ⟨g, 0, none⟩), v] w fun e w' => TakePost w0 w w' g n r hv xs e := by
  have hg := Aside0.mk hg0
  have HH := Aside0.mk h
  have HRR := Aside0.mk hr
  have LS := Aside0.mk (fun (W : World) (hv : List Int) (h : HAt w0 W g n r hv) => show (Instr.loadAt 154 (.pointer (some ⟨g, 0, none⟩))).run Tryz.prog W = .ok (.agg narrowA) W from run_loadAt_mid W g 0 154 narrowA.toList _ h.rs Tryz.underlying154 rfl (by kernel_rfl))
  obtain ⟨A, c, rfl, _⟩ := hr
  clear hg0 h
  go_enter Tryz.func83, Tryz.ntmps83
  go_wp2
  go_loopw [1] (fun v1 w' => ∃ ys hv', Aside0 (RowAt w' g v1 ys) ∧ Aside0 (HAt w0 w' g n r hv') ∧ Aside0 (takeF hv' ys = takeF hv xs) ∧ ys.length ≤ xs.length ∧ Aside0 (Upd w w' (· = g)) ∧ ∃ A c, v1 = .slice A ys.length c) (fun v1 _ => (match v1 with | .slice _ m _ => m | _ => 0))
  case atStart => exact ⟨xs, hv, HRR, HH, ⟨rfl⟩, Nat.le_refl _, ⟨Upd.refl _ _⟩, A, c, rfl⟩
  case round =>
    clear HRR HH
    obtain ⟨ys, hv', HR, HA, HE, hyl, HU, A, c, rfl⟩ := hrel
    have HLS := Aside0.mk (LS.out _ _ HA.out)
    by_cases h64 : 64 ≤ ys.length
    · have hq : decide ((64 : Int) ≤ (ys.length : Int)) = true := decide_eq_true (by omega)
      obtain ⟨A', c', e, hyc, hor⟩ := HR.out
      injection e with e1 e2 e3
      subst e1; subst e3
      rcases hor with hz | ⟨gs, o, rfl, hne, hgl, hbs⟩
      · rw [hz] at h64; exact absurd h64 (by decide)
      have HN := Aside0.mk hne
      have HG := Aside0.mk hgl
      have HB := Aside0.mk hbs
      have HL := Aside0.mk HA.out.hl
      have HT := Aside0.mk (show (ys.take 64).length = 64 by rw [List.length_take]; omega)
      have HC := Aside0.mk (show 64 ≤ c by omega)
      have HYC := Aside0.mk hyc
      have hcb : ((64 : Int) ≤ (c : Int)) = True := eq_true (by omega)
      have HE := Aside0.mk ((takeF_ge h64).symm.trans HE.out)
      have HLD := Aside0.mk (show (ys.drop 64).length = ys.length - 64 from List.length_drop)
      clear e2 hne hgl hbs HR
      go_wp2_with (first | ((with_reducible refine load_at (ty := 154) (.tmp 9) ?_ ?_ HLS.out ?_ ?_); exact rfl; exact rfl; exact rfl) | (go_at_call 100; (with_reducible refine (block_callsA _).mono ?_); rintro e w1 ⟨rfl, hb⟩; have HA := Aside0.mk (HA.out.below hb); have HU := Aside0.mk (HU.out.trans (Upd.of_below (F := (· = g)) hb) (fun _ h => .inl h)); have HB := Aside0.mk (HB.out.below HG.out hb); have HG := Aside0.mk (Nat.lt_of_lt_of_le HG.out hb.size); have hc0 := HA.out.c0; clear hb))
      have HA1 := Aside0.mk HA.out.drew
      have HB := Aside0.mk (show Bys w1.drew gs o ys from HB.out)
      have HG := Aside0.mk (show gs < w1.drew.heap.size from HG.out)
      have HU := Aside0.mk (HU.out.drew)
      repeat (first | go_step | go_guarded | go_upon)
      refine start_ (n := 20) (S := fun w' => w'.rangeAt g 0 narrowA.toList ∧ w'.rangeAt g 17 (nums .u32 hv')) (ds := [19]) (bz 20 0) (by kernel_rfl) rfl rfl ⟨HA1.out.rs, HA1.out.rh⟩ (fun hHeld => ?_)
      refine pz 0 (some 19) (bz 20 1) ?_
      refine pz 1 (some 20) (bz 20 3) ?_
      refine pz 2 (some 21) (bz 20 7) ?_
      refine pz 3 (some 22) (bz 20 15) ?_
      refine pz 5 (some 24) (bz 20 47) ?_
      refine pz 6 (some 25) (bz 20 111) ?_
      refine pz 7 (some 26) (bz 20 239) ?_
      refine pz 9 (some 28) (bz 20 751) ?_
      refine pz 10 (some 29) (bz 20 1775) ?_
      refine pz 11 (some 30) (bz 20 3823) ?_
      refine pz 12 (some 31) (bz 20 7919) ?_
      refine take_ (i := 4) (N := some 23) (v := .agg narrowA) (a' := ?_) (bz 20 7935) rfl rfl (by kernel_rfl) (fun _ _ _ h => h) (yieldsIf_load_mid (by rfl) 154 (.tmp 22) rfl g 0 (by rfl) narrowA.toList _ (fun w' h => h.1) Tryz.underlying154 rfl (by kernel_rfl)) hHeld ?_ ?_
      rotate_left
      · simp only [Act.put, List.setIfInBounds_toArray, List.set_cons_zero, List.set_cons_succ, i64_w, i32_w]
        rfl
      refine take_ (i := 8) (N := some 27) (v := .agg (nums .u32 hv').toArray) (a' := ?_) (bz 20 8191) rfl rfl (by kernel_rfl) (fun _ _ _ h => h) (yieldsIf_load_mid (by rfl) 158 (.tmp 26) rfl g 17 (by rfl) (nums .u32 hv') _ (fun w' h => h.2) Tryz.underlying158 rfl (by rw [nums_length, HL.out]; kernel_rfl)) hHeld ?_ ?_
      rotate_left
      · simp only [Act.put, List.setIfInBounds_toArray, List.set_cons_zero, List.set_cons_succ, i64_w, i32_w]
        rfl
      refine take_ (i := 13) (N := some 32) (v := .agg narrowA) (a' := ?_) (bz 20 16383) rfl rfl (by kernel_rfl) (fun _ _ _ h => h) (yieldsIf_load_mid (by rfl) 154 (.tmp 31) rfl g 0 (by rfl) narrowA.toList _ (fun w' h => h.1) Tryz.underlying154 rfl (by kernel_rfl)) hHeld ?_ ?_
      rotate_left
      · simp only [Act.put, List.setIfInBounds_toArray, List.set_cons_zero, List.set_cons_succ, i64_w, i32_w]
        rfl
      refine one_ (i := 14) (N := some 33) (bz 20 32767) rfl rfl (by kernel_rfl) (by decide) (fun K hK => ?_)
      refine goes_ Tryz.func100 (by kernel_rfl) rfl #[.agg narrowA] (by rfl) rfl rfl (by simp only [List.map_toArray, List.map_cons, List.map_nil]; rfl) ?_
      with_reducible refine (block_callsA _).mono ?_
      rintro e w2 ⟨rfl, hb⟩
      refine ⟨_, rfl, ?_⟩
      have HA2 := Aside0.mk (HA1.out.below hb)
      have HB2 := Aside0.mk (HB.out.below HG.out hb)
      have HW2 := Aside0.mk hb.size
      have HU2 := Aside0.mk (HU.out.trans (Upd.of_below (F := (· = g)) hb) (fun _ h => .inl h))
      clear hb
      refine hK.out _ _ ⟨HA2.out.rs, HA2.out.rh⟩ (fun hHeld => ?_)
      clear hK K
      refine norm_ (a' := ?_) ?_ ?_
      rotate_left
      · show Act.put _ (some 33) _ = _
        simp only [Act.put, List.setIfInBounds_toArray, List.set_cons_zero, List.set_cons_succ, i64_w, i32_w]
        rfl
      refine pz 15 (some 34) (bz 20 65535) ?_
      refine one_ (i := 16) (N := some 35) (bz 20 131071) rfl rfl (by kernel_rfl) (by decide) (fun K hK => ?_)
      refine goes_ Tryz.func101 (by kernel_rfl) rfl #[.agg narrowA, .agg (nums .u32 hv').toArray, .slice (some ⟨gs, o, none⟩) 64 c] (by rfl) rfl rfl (by simp only [List.map_toArray, List.map_cons, List.map_nil]; rfl) ?_
      with_reducible refine (mix_calls (hg.out.below HA2.out.b) gs o c (ys.take 64) hv' HT.out HL.out HC.out (HB2.out.take 64) (Nat.lt_of_lt_of_le HG.out HW2.out)).mono ?_
      rintro e w3 ⟨rfl, hb⟩
      refine ⟨_, rfl, ?_⟩
      have HA3 := Aside0.mk (HA2.out.below hb)
      have HU3 := Aside0.mk (HU2.out.trans (Upd.of_below (F := (· = g)) hb) (fun _ h => .inl h))
      have HST := Aside0.mk (show (Instr.storeAt 158 (.pointer (some ⟨g, 17, none⟩)) (.agg (nums .u32 (mixM hv' (ys.take 64))).toArray)).run Tryz.prog w3 = .ok () (w3.setCells g 17 (nums .u32 (mixM hv' (ys.take 64)))) from run_storeAt_mid (P := Tryz.prog) w3 g 17 158 (nums .u32 (mixM hv' (ys.take 64))).toArray (by rw [List.size_toArray, nums_length, mixM_length HL.out]; exact HA3.out.there) (info124 _ (mixM_length HL.out)) (u32_one _))
      have HB3 := Aside0.mk (HB2.out.below (Nat.lt_of_lt_of_le HG.out HW2.out) hb)
      have HW3 := Aside0.mk (Nat.le_trans HW2.out hb.size)
      clear hb
      refine hK.out _ _ ⟨HA3.out.rs, HA3.out.rh⟩ (fun hHeld => ?_)
      clear hK K
      refine norm_ (a' := ?_) ?_ ?_
      rotate_left
      · show Act.put _ (some 35) _ = _
        simp only [Act.put, List.setIfInBounds_toArray, List.set_cons_zero, List.set_cons_succ, i64_w, i32_w]
        rfl
      refine pz 17 (some 36) (bz 20 262143) ?_
      refine pz 18 (some 37) (bz 20 524287) ?_
      refine last_ (i := 19) (N := none) (bz 20 1048575) rfl rfl (by kernel_rfl) (by decide) (fun K hK => ?_)
      refine skip_ (by rfl) rfl (exec_store (ty := 158) (x := .tmp 37) (y := .tmp 35) rfl (by rfl) (by rfl) HST.out) ?_
      refine hK.out _ _ ?_
      clear hK K
      refine done_ (by kernel_rfl) ?_
      clear hHeld
      have HA4 := Aside0.mk (HA3.out.setH (mixM_length HL.out (b := ys.take 64)))
      have HU4 := Aside0.mk (HU3.out.trans (setCells_upd g 17 (nums .u32 (mixM hv' (ys.take 64))) w3) (fun _ h => .inl h))
      have HB4 := Aside0.mk (show Bys (w3.setCells g 17 (nums .u32 (mixM hv' (ys.take 64)))) gs o ys from HB3.out.upd (Nat.lt_of_lt_of_le HG.out HW3.out) HN.out (setCells_upd g 17 _ w3))
      have HG4 := Aside0.mk (show gs < (w3.setCells g 17 (nums .u32 (mixM hv' (ys.take 64)))).heap.size from Nat.lt_of_lt_of_le (Nat.lt_of_lt_of_le HG.out HW3.out) (setCells_upd g 17 _ w3).size)
      generalize w3.setCells g 17 (nums .u32 (mixM hv' (ys.take 64))) = w4 at HA4 HU4 HB4 HG4 ⊢
      have HLS := Aside0.mk (LS.out _ _ HA4.out)
      clear hc0
      go_wp2_with (first | ((with_reducible refine load_at (ty := 154) (.tmp 60) ?_ ?_ HLS.out ?_ ?_); exact rfl; exact rfl; exact rfl) | (go_at_call 100; (with_reducible refine (block_callsA _).mono ?_); rintro e w5 ⟨rfl, hb⟩; have HA5 := Aside0.mk (HA4.out.below hb); have HU5 := Aside0.mk (HU4.out.trans (Upd.of_below (F := (· = g)) hb) (fun _ h => .inl h)); have HB5 := Aside0.mk (HB4.out.below HG4.out hb); have HG5 := Aside0.mk (Nat.lt_of_lt_of_le HG4.out hb.size); clear hb))
      go_roundw
      case rel => exact ⟨ys.drop 64, mixM hv' (ys.take 64), ⟨_, c - 64, by rw [HLD.out], by rw [HLD.out]; omega, rowat_drop HB5.out HN.out HG5.out HLD.out hyc⟩, HA5, HE, by rw [HLD.out]; omega, HU5, _, _, by rw [HLD.out]⟩
      case measure => simp; omega
    · have hq : decide ((64 : Int) ≤ (ys.length : Int)) = false := decide_eq_false (by omega)
      go_wp2_with (first | ((with_reducible refine load_at (ty := 154) (.tmp 9) ?_ ?_ HLS.out ?_ ?_); exact rfl; exact rfl; exact rfl) | (go_at_call 100; (with_reducible refine (block_callsA _).mono ?_); rintro e w1 ⟨rfl, hb⟩; have HA := Aside0.mk (HA.out.below hb); have HU := Aside0.mk (HU.out.trans (Upd.of_below (F := (· = g)) hb) (fun _ h => .inl h)); have HR := Aside0.mk (HR.out.below hb); clear hb))
      go_ret
      have HE2 := HE.out
      rw [takeF_lt (by omega)] at HE2
      exact ⟨_, rfl, by rw [← HE2]; exact HR.out, by rw [← HE2]; exact HA.out, HU.out⟩

end Go.Proofs.YtfpfnolpoklefaaGreatDoor.Sh
/- Contracts of package sha2: tell. -/
namespace Go.Proofs.YtfpfnolpoklefaaGreatDoor.Sh
open Go.Proofs.YtfpfnolpoklefaaGreatDoor.Dk
open Go.RowKit Go.Proofs.YtfpfnolpoklefaaGreatDoorW.PrintWords Go.Proofs.YtfpfnolpoklefaaGreatDoorW.PrintLast Go.Proofs.YtfpfnolpoklefaaGreatDoorW.PrintMore
set_option linter.unusedVariables false
set_option linter.unusedSimpArgs false
set_option maxRecDepth 30000

variable {w w0 w1 w2 wr : World} {g : Nat} {n : Int} {hv xs ys : List Int}
def tell1 (x : Int) : List Int := [x / 16777216 % 256, x / 65536 % 256, x / 256 % 256, x % 256]
def tellM (hv : List Int) : List Int := hv.flatMap tell1
structure Tl (w w' : World) (hv : List Int) (v : Value) (xs : List Int) : Prop where
  s : w'.heap[w.heap.size]? = some (.cells narrowA 154 (0, 0))
  r : Row8 w' (w.heap.size + 1 + 1) v xs
  b : Below w.heap.size w w'
  z : w.heap.size + 1 + 1 ≤ w'.heap.size
theorem tl_app {v v1 : Value} {ys : List Int} {o : Obj} (h : Tl w w1 hv v xs) (hr : Row8 w2 (w.heap.size + 1 + 1) v1 ys) (hb : Below (w.heap.size + 1 + 1) (w1.alloc o) w2) : Tl w w2 hv v1 ys := by
  have e : Below (w.heap.size + 1 + 1) w1 w2 := Below.trans ((below_alloc (Below.refl _ w1) o).mono h.z) hb
  exact ⟨(e.block _ (by omega)).trans h.s, hr, h.b.trans (e.mono (by omega)), Nat.le_trans h.z e.size⟩
set_option maxHeartbeats 16000000 in
theorem tell_calls (hv : List Int) (h8 : hv.length = 8) : Calls Tryz.prog 86 #[.agg narrowA, .agg (nums .u32 hv).toArray] w fun e w' => ∃ v, e = .returned v ∧ Row8 w' w.heap.size v (tellM hv) ∧ Below w.heap.size w w' := by
  have H8 := Aside0.mk h8
  have HB0 := Aside0.mk (show Below w.heap.size w ((w.alloc (.cells narrowA 154)).alloc (.cells (nums .u32 hv).toArray 158)) from below_alloc (below_alloc (Below.refl _ _) _) _)
  have HK0 := Aside0.mk (show ((w.alloc (.cells narrowA 154)).alloc (.cells (nums .u32 hv).toArray 158)).heap[w.heap.size]? = some (.cells narrowA 154 (0, 0)) from blk_below (heap_alloc_new w _) (below_alloc (Below.refl _ _) _))
  have HK1 := Aside0.mk (nth2_1 w (.cells narrowA 154) (.cells (nums .u32 hv).toArray 158))
  have hc0 := cellB3 HK0.out 0 (.int .i64 4) rfl
  clear h8
  obtain ⟨A2, w2, hmk, hr2, hb2⟩ := run_make8 (P := Tryz.prog) info5 Tryz.underlying22 ((w.alloc (.cells narrowA 154)).alloc (.cells (nums .u32 hv).toArray 158)) 0 32 (by decide) (by decide)
  have HMK := Aside0.mk (show (Instr.makeSlice 22 (.int .i64 0) (.int .i64 32)).run Tryz.prog _ = _ from hmk)
  have hsz : ((w.alloc (.cells narrowA 154)).alloc (.cells (nums .u32 hv).toArray 158)).heap.size = w.heap.size + 1 + 1 := by simp [World.size_alloc]
  have HK0 := Aside0.mk (blk_below HK0.out hb2)
  have HK1 := Aside0.mk (blk_below HK1.out hb2)
  have HT := Aside0.mk (show Tl w w2 hv (.slice A2 0 32) [] from ⟨HK0.out, by have := hr2; rw [hsz] at this; exact this, HB0.out.trans (hb2.mono HB0.out.size), by have := hb2.size; omega⟩)
  have HL := Aside0.mk (run_loadAt_cells (P := Tryz.prog) (w := w2) 158 Tryz.underlying158 rfl (w.heap.size + 1) 0 (nums .u32 hv) (by rw [nums_length, H8.out]; kernel_rfl) (fun j u hu => by rw [Nat.zero_add, cell_of_row _ _ j _ _ _ HK1.out]; simpa using hu))
  clear hmk hr2 hb2 hsz HK0 HK1 HB0
  go_enter Tryz.func86, Tryz.ntmps86
  go_wp2_with (first | ((with_reducible refine make_at (t := 22) (x := .const (.int .i64 0)) (y := .tmp 11) ?_ ?_ HMK.out ?_ ?_ ?_); exact rfl; exact rfl; exact rfl; exact rfl) | ((with_reducible refine load_at (ty := 158) (.tmp 3) ?_ ?_ HL.out ?_ ?_); exact rfl; exact rfl; exact rfl))
  go_loopw [5, 7, 8, 14] (fun v5 v7 v8 v14 w' => ∃ (i : Nat) (A : Option Addr) (c : Nat), v14 = .int .i64 i ∧ i ≤ 8 ∧ v5 = .slice A ((hv.take i).flatMap tell1).length c ∧ Aside0 (Tl w w' hv v5 ((hv.take i).flatMap tell1))) (fun v5 v7 v8 v14 _ => 8 - (intOf v14).toNat)
  case atStart => exact ⟨0, A2, 32, rfl, Nat.zero_le _, rfl, HT⟩
  case round =>
    clear HT hc0
    obtain ⟨i, A, c, rfl, hi, rfl, HT⟩ := hrel
    by_cases hlt : i < 8
    · have hq : decide ((i : Int) < 8) = true := decide_eq_true (by omega)
      have hc0 := cellB3 HT.out.s 0 (.int .i64 4) rfl
      obtain ⟨x, hx⟩ : ∃ x, hv.getD i 0 = x := ⟨_, rfl⟩
      have HIX := Aside0.mk (run_index_row (P := Tryz.prog) wr 158 157 .u32 8 (nums .u32 hv).toArray i (.int .u32 x) Tryz.underlying158 Tryz.underlying157 hlt (by rw [nums_getD (by rw [H8.out]; exact hlt), hx]) (by kernel_rfl))
      have HN := Aside0.mk (show (hv.take (i + 1)).flatMap tell1 = (hv.take i).flatMap tell1 ++ tell1 x by
        rw [← hx, List.take_succ_eq_append_getElem (by rw [H8.out]; exact hlt), List.flatMap_append]
        simp [List.getD_eq_getElem?_getD, List.getElem?_eq_getElem (show i < hv.length by rw [H8.out]; exact hlt)])
      have HPL := Aside0.mk (show ((hv.take i).flatMap tell1).length ≤ 28 from by
        have : ∀ l : List Int, (l.flatMap tell1).length = 4 * l.length := by intro l; induction l with | nil => rfl | cons a l ih => rw [List.flatMap_cons, List.length_append, ih]; simp [tell1]; omega
        rw [this, List.length_take]; omega)
      obtain ⟨pre, hpre⟩ : ∃ pre, (hv.take i).flatMap tell1 = pre := ⟨_, rfl⟩
      rw [hpre] at HT HN HPL ⊢
      clear hx hpre
      go_wp2_with (first | ((with_reducible refine index_at (t := 158) (x := .tmp 13) (y := .tmp 14) ?_ ?_ HIX.out ?_ ?_ ?_); exact rfl; exact rfl; exact rfl; exact rfl))
      clear hc0 hq
      go_loopw [5, 8] (fun v5 v8 w' => ∃ (j : Nat) (A : Option Addr) (c : Nat), v8 = .int .i64 (3 - (j : Int)) ∧ j ≤ 4 ∧ v5 = .slice A (pre ++ (tell1 x).take j).length c ∧ Aside0 (Tl w w' hv v5 (pre ++ (tell1 x).take j))) (fun v5 v8 _ => (4 + intOf v8).toNat)
      case atStart => exact ⟨0, A, c, rfl, Nat.zero_le _, by simp, by simpa using HT⟩
      case round =>
        clear HT
        obtain ⟨j, A, c, rfl, hj, rfl, HT⟩ := hrel
        obtain rfl | rfl | rfl | rfl | rfl : j = 0 ∨ j = 1 ∨ j = 2 ∨ j = 3 ∨ j = 4 := by omega
        · have HC := Aside0.mk (C_block (x := [x / 16777216 % 256]) (heap_alloc_new wr (.cells (nums .u8 [x / 16777216 % 256]).toArray 5)) (by simp))
          have HR := Aside0.mk (HT.out.r.below (below_alloc (Below.refl wr.heap.size wr) (.cells (nums .u8 [x / 16777216 % 256]).toArray 5)))
          have HZ := HT.out.z
          go_wp2_with (first | ((with_reducible refine gate_builtin (b := .append) (xs := #[.tmp 24, .tmp 30]) rfl ?_); at_builtin; refine app8 (q := (w.heap.size + 1 + 1)) info5 Tryz.underlying22 rfl (.tmp 24) (.tmp 30) rfl _ _ _ _ _ _ rfl rfl HR.out HC.out ?aQ ?aL ?_; (case aQ => simp [World.size_alloc]; omega); (case aL => simp [tell1]; have := HPL.out; omega); intro A1 c1 w1 hr1 hb1 hg1; have HT1 := Aside0.mk (tl_app HT.out hr1 hb1); clear hr1 hb1 hg1))
          go_roundw
          case rel => exact ⟨1, A1, c1, rfl, by decide, by simp [tell1], ⟨by simpa [tell1] using HT1.out⟩⟩
          case measure => simp [intOf]
        · have HC := Aside0.mk (C_block (x := [x / 65536 % 256]) (heap_alloc_new wr (.cells (nums .u8 [x / 65536 % 256]).toArray 5)) (by simp))
          have HR := Aside0.mk (HT.out.r.below (below_alloc (Below.refl wr.heap.size wr) (.cells (nums .u8 [x / 65536 % 256]).toArray 5)))
          have HZ := HT.out.z
          go_wp2_with (first | ((with_reducible refine gate_builtin (b := .append) (xs := #[.tmp 24, .tmp 30]) rfl ?_); at_builtin; refine app8 (q := (w.heap.size + 1 + 1)) info5 Tryz.underlying22 rfl (.tmp 24) (.tmp 30) rfl _ _ _ _ _ _ rfl rfl HR.out HC.out ?aQ ?aL ?_; (case aQ => simp [World.size_alloc]; omega); (case aL => simp [tell1]; have := HPL.out; omega); intro A1 c1 w1 hr1 hb1 hg1; have HT1 := Aside0.mk (tl_app HT.out hr1 hb1); clear hr1 hb1 hg1))
          go_roundw
          case rel => exact ⟨2, A1, c1, rfl, by decide, by simp [tell1], ⟨by simpa [tell1] using HT1.out⟩⟩
          case measure => simp [intOf]
        · have HC := Aside0.mk (C_block (x := [x / 256 % 256]) (heap_alloc_new wr (.cells (nums .u8 [x / 256 % 256]).toArray 5)) (by simp))
          have HR := Aside0.mk (HT.out.r.below (below_alloc (Below.refl wr.heap.size wr) (.cells (nums .u8 [x / 256 % 256]).toArray 5)))
          have HZ := HT.out.z
          go_wp2_with (first | ((with_reducible refine gate_builtin (b := .append) (xs := #[.tmp 24, .tmp 30]) rfl ?_); at_builtin; refine app8 (q := (w.heap.size + 1 + 1)) info5 Tryz.underlying22 rfl (.tmp 24) (.tmp 30) rfl _ _ _ _ _ _ rfl rfl HR.out HC.out ?aQ ?aL ?_; (case aQ => simp [World.size_alloc]; omega); (case aL => simp [tell1]; have := HPL.out; omega); intro A1 c1 w1 hr1 hb1 hg1; have HT1 := Aside0.mk (tl_app HT.out hr1 hb1); clear hr1 hb1 hg1))
          go_roundw
          case rel => exact ⟨3, A1, c1, rfl, by decide, by simp [tell1], ⟨by simpa [tell1] using HT1.out⟩⟩
          case measure => simp [intOf]
        · have HC := Aside0.mk (C_block (x := [x % 256]) (heap_alloc_new wr (.cells (nums .u8 [x % 256]).toArray 5)) (by simp))
          have HR := Aside0.mk (HT.out.r.below (below_alloc (Below.refl wr.heap.size wr) (.cells (nums .u8 [x % 256]).toArray 5)))
          have HZ := HT.out.z
          go_wp2_with (first | ((with_reducible refine gate_builtin (b := .append) (xs := #[.tmp 24, .tmp 30]) rfl ?_); at_builtin; refine app8 (q := (w.heap.size + 1 + 1)) info5 Tryz.underlying22 rfl (.tmp 24) (.tmp 30) rfl _ _ _ _ _ _ rfl rfl HR.out HC.out ?aQ ?aL ?_; (case aQ => simp [World.size_alloc]; omega); (case aL => simp [tell1]; have := HPL.out; omega); intro A1 c1 w1 hr1 hb1 hg1; have HT1 := Aside0.mk (tl_app HT.out hr1 hb1); clear hr1 hb1 hg1))
          go_roundw
          case rel => exact ⟨4, A1, c1, rfl, by decide, by simp [tell1], ⟨by simpa [tell1] using HT1.out⟩⟩
          case measure => simp [intOf]
        · go_wp2
          go_roundw
          case rel => exact ⟨i + 1, A, c, by go_num, by omega, by rw [HN.out]; rfl, by rw [HN.out]; exact HT⟩
          case measure => simp [intOf]; omega
    · obtain rfl : i = 8 := by omega
      have hq : decide ((8 : Int) < 8) = false := rfl
      have hp : (hv.take 8) = hv := List.take_of_length_le (by rw [H8.out]; decide)
      rw [hp] at HT ⊢
      go_wp2
      go_ret
      exact ⟨_, rfl, by have h := HT.out.r; rw [tellM]; exact h.lower (by omega), HT.out.b⟩

end Go.Proofs.YtfpfnolpoklefaaGreatDoor.Sh
/- Contracts of package sha2: Pad. -/
namespace Go.Proofs.YtfpfnolpoklefaaGreatDoor.Sh
open Go.Proofs.YtfpfnolpoklefaaGreatDoor.Dk
open Go.RowKit Go.Proofs.YtfpfnolpoklefaaGreatDoorW.PrintWords Go.Proofs.YtfpfnolpoklefaaGreatDoorW.PrintLast Go.Proofs.YtfpfnolpoklefaaGreatDoorW.PrintMore
set_option linter.unusedVariables false
set_option linter.unusedSimpArgs false
set_option maxRecDepth 30000

variable {w w0 w1 w2 wr : World} {g : Nat} {hv xs ys : List Int}
theorem of_callsA (w : World) : Calls Tryz.prog 81 #[.int .i64 256] w fun e w' => e = .returned (.tuple #[.agg narrowA, .bool true]) ∧ Below w.heap.size w w' := of_calls w
/-- How long the padding of n bytes is. -/
def padN (n : Nat) : Nat := 9 + (64 - (n + 9) % 64) % 64
def padB (n i : Nat) : Int := 8 * (n : Int) / 2 ^ (8 * i) % 256
def padR (n : Nat) : Nat → List Int
  | 0 => (List.replicate (padN n) (0 : Int)).set 0 128
  | i + 1 => (padR n i).set (padN n - 1 - i) (padB n i)
theorem padR_length (n : Nat) : ∀ i, (padR n i).length = padN n
  | 0 => by simp [padR]
  | i + 1 => by rw [padR, List.length_set]; exact padR_length n i
def padM (n : Nat) : List Int := padR n 8
structure Pd (w w' : World) (s : Nat) : Prop where
  bs : w'.heap[s]? = some (.cells narrowA 154 (0, 0))
  b : Below w.heap.size w w'
  lo : w.heap.size ≤ s
theorem Pd.below {s : Nat} (h : Pd w w1 s) (hb : Below w1.heap.size w1 w2) : Pd w w2 s := ⟨blk_below h.bs hb, h.b.trans (hb.mono h.b.size), h.lo⟩
theorem Pd.rs {s : Nat} (h : Pd w w1 s) : w1.rangeAt s 0 narrowA.toList := fun j v hj => by
  rw [Nat.zero_add, cell_of_row _ _ j _ _ _ h.bs]
  simpa using hj

set_option maxHeartbeats 16000000 in
theorem pad_calls (n : Nat) (hn : n ≤ 1048576) : Calls Tryz.prog 85 #[.int .i64 n, .int .i64 256] w fun e w' => ∃ v, e = .returned (.tuple #[v, .int .i64 0]) ∧ Row8 w' w.heap.size v (padM n) ∧ Below w.heap.size w w' := by
  have hq1 : decide ((n : Int) < 0) = false := decide_eq_false (by omega)
  have hq2 : decide ((1048576 : Int) < (n : Int)) = false := decide_eq_false (by omega)
  have LS := Aside0.mk (fun (W : World) (s : Nat) (h : Pd w W s) => show (Instr.loadAt 154 (.pointer (some ⟨s, 0, none⟩))).run Tryz.prog W = .ok (.agg narrowA) W from run_loadAt_mid W s 0 154 narrowA.toList _ h.rs Tryz.underlying154 rfl (by kernel_rfl))
  have HST := Aside0.mk (fun w1 : World => run_storeAt_new (P := Tryz.prog) w1 154 zeros15 narrowA info120 (by simp [zeros15_size, narrowA]) narrowA_one)
  go_enter Tryz.func85, Tryz.ntmps85
  go_wp2_with (first | ((with_reducible refine alloc_at (e := 154) ?_ ?_ (run_alloc120 _) ?_); exact rfl; exact rfl) | (go_at_call 81; (with_reducible refine (of_callsA _).mono ?_); rintro e w1 ⟨rfl, hb1⟩; have HP2 := Aside0.mk (show Pd w (w1.alloc (.cells narrowA 154)) w1.heap.size from ⟨heap_alloc_new w1 _, hb1.trans ((below_alloc (Below.refl _ _) _).mono hb1.size), hb1.size⟩); clear hb1) | ((with_reducible refine store_at (ty := 154) (.tmp 6) (.tmp 16) ?_ ?_ ?_ (HST.out _) ?_ ?_ ?_); exact rfl; exact rfl; exact rfl; exact rfl; exact rfl; generalize w1.alloc (.cells narrowA 154) = w2 at HP2 ⊢; generalize w1.heap.size = s at HP2 ⊢; have hc0 := cellB3 HP2.out.bs 0 (.int .i64 4) rfl; have HLS := Aside0.mk (LS.out _ _ HP2.out)) | ((with_reducible refine load_at (ty := 154) (.tmp 6) ?_ ?_ HLS.out ?_ ?_); exact rfl; exact rfl; exact rfl) | (go_at_call 100; (with_reducible refine (block_callsA _).mono ?_); rintro e w3 ⟨rfl, hb3⟩; have HP3 := Aside0.mk (HP2.out.below hb3); clear hb3))
  obtain ⟨r, hr⟩ : ∃ r : Nat, (n + 9) % 64 = r := ⟨_, rfl⟩
  have hri : ((n : Int) + 9) % 64 = (r : Int) := by omega
  rw [hri]
  obtain ⟨z, hz⟩ : ∃ z : Nat, z = 64 - r := ⟨_, rfl⟩
  obtain ⟨m, hm⟩ : ∃ m : Nat, m = z % 64 := ⟨_, rfl⟩
  obtain ⟨L, hL⟩ : ∃ L : Nat, L = 9 + m := ⟨_, rfl⟩
  have hL9 : 9 ≤ L := by omega
  have hL72 : L ≤ 72 := by omega
  have HLN := Aside0.mk (show padN n = L by rw [padN, hr, hL, hm, hz])
  have hz1 : wrap64 (64 - (r : Int)) = z := by unfold wrap64; omega
  have hz1' : IntKind.i64.wrap (64 - (r : Int)) = z := (i64_w _).trans hz1
  have hz2 : Int.tmod (z : Int) 64 = m := by rw [Int.tmod_eq_emod_of_nonneg (by omega)]; omega
  have hz3 : wrap64 (9 + (m : Int)) = L := by unfold wrap64; omega
  have hz3' : IntKind.i64.wrap (9 + (m : Int)) = L := (i64_w _).trans hz3
  have HP4 := Aside0.mk (HP3.out.below (below_drew (Below.refl _ _)))
  have HZW := Aside0.mk (show w.heap.size ≤ w3.heap.size from HP3.out.b.size)
  clear hc0 hri hr hz hm hL HST HLS
  repeat (first | go_step | go_guarded | go_upon)
  refine start_ (n := 11) (S := fun w' => w'.rangeAt s 0 narrowA.toList) (ds := []) (bz 11 0) (by kernel_rfl) rfl rfl (HP4.out.rs) (fun hHeld => ?_)
  refine pz 0 (some 38) (bz 11 1) ?_
  refine pz 3 (some 41) (bz 11 9) ?_
  refine take_ (i := 1) (N := some 39) (v := .agg narrowA) (a' := ?_) (bz 11 11) rfl rfl (by kernel_rfl) (fun _ _ _ h => h) (yieldsIf_load_mid (by rfl) 154 (.tmp 6) rfl s 0 (by rfl) narrowA.toList _ (fun w' h => h) Tryz.underlying154 rfl (by kernel_rfl)) hHeld ?_ ?_
  rotate_left
  · simp only [Act.put, List.setIfInBounds_toArray, List.set_cons_zero, List.set_cons_succ, i64_w, i32_w]
    rfl
  refine take_ (i := 5) (N := some 43) (v := .agg narrowA) (a' := ?_) (bz 11 43) rfl rfl (by kernel_rfl) (fun _ _ _ h => h) (yieldsIf_load_mid (by rfl) 154 (.tmp 6) rfl s 0 (by rfl) narrowA.toList _ (fun w' h => h) Tryz.underlying154 rfl (by kernel_rfl)) hHeld ?_ ?_
  rotate_left
  · simp only [Act.put, List.setIfInBounds_toArray, List.set_cons_zero, List.set_cons_succ, i64_w, i32_w]
    rfl
  refine one_ (i := 2) (N := some 40) (bz 11 47) rfl rfl (by kernel_rfl) (by decide) (fun K hK => ?_)
  refine goes_ Tryz.func100 (by kernel_rfl) rfl #[.agg narrowA] (by rfl) rfl rfl (by simp only [List.map_toArray, List.map_cons, List.map_nil]; rfl) ?_
  with_reducible refine (block_callsA _).mono ?_
  rintro e w5 ⟨rfl, hb⟩
  refine ⟨_, rfl, ?_⟩
  have HP5 := Aside0.mk (HP4.out.below hb)
  clear hb
  refine hK.out _ _ (HP5.out.rs) (fun hHeld => ?_)
  clear hK K
  refine norm_ (a' := ?_) ?_ ?_
  rotate_left
  · show Act.put _ (some 40) _ = _
    simp only [Act.put, List.setIfInBounds_toArray, List.set_cons_zero, List.set_cons_succ, i64_w, i32_w]
    rfl
  refine pz 4 (some 42) (bz 11 63) ?_
  refine one_ (i := 6) (N := some 44) (bz 11 127) rfl rfl (by kernel_rfl) (by decide) (fun K hK => ?_)
  refine goes_ Tryz.func100 (by kernel_rfl) rfl #[.agg narrowA] (by rfl) rfl rfl (by simp only [List.map_toArray, List.map_cons, List.map_nil]; rfl) ?_
  with_reducible refine (block_callsA _).mono ?_
  rintro e w6 ⟨rfl, hb⟩
  refine ⟨_, rfl, ?_⟩
  have HP6 := Aside0.mk (HP5.out.below hb)
  clear hb
  refine hK.out _ _ (HP6.out.rs) (fun hHeld => ?_)
  clear hK K
  refine norm_ (a' := ?_) ?_ ?_
  rotate_left
  · show Act.put _ (some 44) _ = _
    simp only [Act.put, List.setIfInBounds_toArray, List.set_cons_zero, List.set_cons_succ, i64_w, i32_w]
    rfl
  refine pz 7 (some 45) (bz 11 255) ?_
  refine pz 8 (some 46) (bz 11 511) ?_
  refine one_ (i := 9) (N := some 47) (bz 11 1023) rfl rfl (by kernel_rfl) (by decide) (fun K hK => ?_)
  obtain ⟨A7, w7, hmk, hr7, hb7⟩ := run_make8 (P := Tryz.prog) info5 Tryz.underlying22 w6 L L (Nat.le_refl _) (by omega)
  refine value_ (v := .slice A7 L L) (by rfl) rfl (exec_make (t := 22) rfl (by rfl) (by rfl) hmk) ?_
  have HP7 := Aside0.mk (HP6.out.below hb7)
  have HR7 := Aside0.mk hr7
  have HZ6 := Aside0.mk HP6.out.b.size
  clear hmk hr7 hb7
  refine hK.out _ _ (HP7.out.rs) (fun hHeld => ?_)
  clear hK K
  refine norm_ (a' := ?_) ?_ ?_
  rotate_left
  · show Act.put _ (some 47) _ = _
    simp only [Act.put, List.setIfInBounds_toArray, List.set_cons_zero, List.set_cons_succ, i64_w, i32_w]
    rfl
  refine pz 10 (some 10) (bz 11 2047) ?_
  refine done_ (by kernel_rfl) ?_
  clear hHeld hz1 hz1' hz2 hz3 hz3'
  have HQ := Aside0.mk (show ∃ gs, A7 = some ⟨gs, 0, none⟩ from by
    obtain ⟨gs, c, e, _⟩ := Row8.form HR7.out (by simp; omega)
    injection e with e
    exact ⟨gs, e⟩)
  obtain ⟨gs, rfl⟩ := HQ.out
  have HC := Aside0.mk (HR7.out.celln (i := 0) (by simp; omega))
  have hc := HC.out.1
  have hf := HC.out.2
  have HR8 := Aside0.mk (show Row8 _ _ _ (padR n 0) from by rw [padR, HLN.out]; exact HR7.out.put 0 128)
  have HB8 := Aside0.mk (show Below w.heap.size w (w7.setCell ⟨gs, 0, none⟩ (.int .u8 128)) from below_put HP7.out.b (by have h := Row8.own HR7.out gs rfl; have := HZ6.out; omega) 0 _)
  have h0L : (0 : Int) < L := by omega
  go_wp2_with (fail)
  have HRS := Aside0.mk (HR8.out.lower (p := w.heap.size) (by have := HZ6.out; have := HZW.out; omega))
  have HLO := Aside0.mk (show w.heap.size ≤ gs by have h := Row8.own HR7.out gs rfl; have := HZ6.out; have := HZW.out; omega)
  clear hc hf h0L
  go_loopw [11, 12] (fun v11 v12 w' => ∃ i : Nat, v11 = .int .i64 i ∧ v12 = .int .i64 ((L : Int) - 1 - i) ∧ i ≤ 8 ∧ Aside0 (Row8 w' w.heap.size (.slice (some ⟨gs, 0, none⟩) L L) (padR n i)) ∧ Aside0 (Below w.heap.size w w')) (fun v11 v12 _ => 8 - (intOf v11).toNat)
  case atStart => exact ⟨0, rfl, by simp, by decide, HRS, HB8⟩
  case round =>
    clear HRS HB8 HR8 HR7
    obtain ⟨i, rfl, rfl, hi, HR, HB⟩ := hrel
    have hPL := padR_length n i
    by_cases hlt : i < 8
    · obtain ⟨k, hk⟩ : ∃ k : Nat, k = L - 1 - i := ⟨_, rfl⟩
      have hki : (L : Int) - 1 - i = k := by omega
      have hkL : (k : Int) < L := by omega
      have HLK := Aside0.mk (show padN n - 1 - i = k by rw [HLN.out, hk])
      have HC := Aside0.mk (HR.out.celln (i := k) (by rw [hPL, HLN.out]; omega))
      have hc := HC.out.1
      have hf := HC.out.2
      have HPT := Aside0.mk (fun x : Int => Aside0.mk (below_put HB.out HLO.out k (.int .u8 x)))
      rw [hki]
      clear hPL hk
      have hki' : (k : Int) - 1 = (L : Int) - 1 - (i + 1 : Nat) := by omega
      clear hki
      obtain rfl | rfl | rfl | rfl | rfl | rfl | rfl | rfl : i = 0 ∨ i = 1 ∨ i = 2 ∨ i = 3 ∨ i = 4 ∨ i = 5 ∨ i = 6 ∨ i = 7 := by omega
      all_goals clear hlt hi
      all_goals (have HK := Lib.hid hki'; clear hki')
      · go_wp2_with (fail)
        go_roundw
        case rel => exact ⟨1, rfl, congrArg _ HK.out, by decide, ⟨by rw [padR, HLK.out, show padB n 0 = 8 * (n : Int) % 256 by simp [padB]]; exact HR.out.put k _⟩, HPT.out _⟩
        case measure => simp [intOf]
      · go_wp2_with (fail)
        go_roundw
        case rel => exact ⟨2, rfl, congrArg _ HK.out, by decide, ⟨by rw [padR, HLK.out, show padB n 1 = 8 * (n : Int) / 256 % 256 by simp [padB]]; exact HR.out.put k _⟩, HPT.out _⟩
        case measure => simp [intOf]
      · go_wp2_with (fail)
        go_roundw
        case rel => exact ⟨3, rfl, congrArg _ HK.out, by decide, ⟨by rw [padR, HLK.out, show padB n 2 = 8 * (n : Int) / 65536 by simp [padB]; omega]; exact HR.out.put k _⟩, HPT.out _⟩
        case measure => simp [intOf]
      · go_wp2_with (fail)
        go_roundw
        case rel => exact ⟨4, rfl, congrArg _ HK.out, by decide, ⟨by rw [padR, HLK.out, show padB n 3 = 8 * (n : Int) / 16777216 by simp [padB]; omega]; exact HR.out.put k _⟩, HPT.out _⟩
        case measure => simp [intOf]
      · go_wp2_with (fail)
        go_roundw
        case rel => exact ⟨5, rfl, congrArg _ HK.out, by decide, ⟨by rw [padR, HLK.out, show padB n 4 = 8 * (n : Int) / 4294967296 by simp [padB]; omega]; exact HR.out.put k _⟩, HPT.out _⟩
        case measure => simp [intOf]
      · go_wp2_with (fail)
        go_roundw
        case rel => exact ⟨6, rfl, congrArg _ HK.out, by decide, ⟨by rw [padR, HLK.out, show padB n 5 = 8 * (n : Int) / 1099511627776 by simp [padB]; omega]; exact HR.out.put k _⟩, HPT.out _⟩
        case measure => simp [intOf]
      · go_wp2_with (fail)
        go_roundw
        case rel => exact ⟨7, rfl, congrArg _ HK.out, by decide, ⟨by rw [padR, HLK.out, show padB n 6 = 8 * (n : Int) / 281474976710656 by simp [padB]; omega]; exact HR.out.put k _⟩, HPT.out _⟩
        case measure => simp [intOf]
      · go_wp2_with (fail)
        go_roundw
        case rel => exact ⟨8, rfl, congrArg _ HK.out, by decide, ⟨by rw [padR, HLK.out, show padB n 7 = 8 * (n : Int) / 72057594037927936 by simp [padB]; omega]; exact HR.out.put k _⟩, HPT.out _⟩
        case measure => simp [intOf]
    · obtain rfl : i = 8 := by omega
      go_wp2
      refine bodyPost_ret (results_tmp2 rfl _ _ _) rfl ?_
      exact ⟨_, rfl, HR.out, HB.out⟩

end Go.Proofs.YtfpfnolpoklefaaGreatDoor.Sh
