/- StoreAsks: the texts Wk ShD By ShE ShF ShG ShH ShI ShP StA StB StC StD StE StF StG PlA PlS ShQ Bq. -/
import Derived.Test.YtmblnflfklmmkaaGreatDoorPStoreAsks1
import Derived.Test.YtmblnflfklmmkaaGreatDoorPStoreAsks3
import Derived.Test.YtmblnflfklmmkaaGreatDoorPStoreAsks2
import Derived.Deep.MidRow
import Derived.Laws.BitsAllLaws
import Derived.Laws.Bits64
import Derived.Lib.BufferWrite
import Derived.Stop.BytesEq
/- Steps of a walk by hand: each is tried under reducible transparency alone, so that it fails at once where it does not fit. -/
namespace Go.Proofs.YtmblnflfklmmkaaGreatDoor.Dk
open Go.RowKit Go.Proofs.YtmblnflfklmmkaaGreatDoorW.PrintWords Go.Proofs.YtmblnflfklmmkaaGreatDoorW.PrintLast Go.Proofs.YtmblnflfklmmkaaGreatDoorW.PrintMore
set_option linter.unusedVariables false
section
variable {P : Program} {ops : Array Oper} {o : Oper} {rest : List Oper} {a : Act} {w w1 : World} {Q : Exit → Act → World → Prop}
theorem alloc_at {e : TypeId} {cs : Array Value} (hg : o.guard = none) (ho : o.op = .alloc e) (hrun : (Instr.alloc e true (.tuple #[])).run P w = .ok (.pointer (some ⟨w.heap.size, 0, none⟩)) (w.alloc (.cells cs e)))
    (h : wpList P ops Q rest (a.put o.dst (.pointer (some ⟨w.heap.size, 0, none⟩))) (w.alloc (.cells cs e))) : wpList P ops Q (o :: rest) a w := wpList_alloc hg ho _ rfl cs hrun h
theorem build_at {t : TypeId} {parts : Array (Nat × Operand)} {args : Array (Nat × Value)} {v : Value} (hg : o.guard = none) (ho : o.op = .build t parts) (hrun : ∀ w, (Instr.build t args).run P w = .ok v w) (he : parts.map (fun x => (x.1, a.eval x.2)) = args)
    (h : wpList P ops Q rest (a.put o.dst v) w) : wpList P ops Q (o :: rest) a w := by
  refine wpList_plain hg fun K hK => ?_
  have he : (execOp a.eval o).run P w = .ok (.value v) w := by
    subst he
    unfold execOp
    simp [ho, hrun]
  unfold Oper.wp
  rw [he, Oper.upon_value]
  exact hK _ _ h
theorem copy_at {s x : Operand} {t t' : TypeId} {vs vx v : Value} (hg : o.guard = none) (ho : o.op = .call { callee := .builtin .copy, args := #[s, x], argTypes := #[t, t'] }) (hr : ∀ ty, (Builtin.copy_ #[t, t'] ty #[vs, vx]).run P w = .ok v w1) (hs : a.eval s = vs) (hx : a.eval x = vx)
    (h : wpList P ops Q rest (a.put o.dst v) w1) : wpList P ops Q (o :: rest) a w := by
  refine wpList_plain hg fun K hK => ?_
  unfold Oper.wp execOp
  simp only [ho, resolve, invoke, builtin, Sem.run_bind, Sem.run_pure, Result.andThen_ok, List.map_toArray, List.map_cons, List.map_nil, hs, hx, hr]
  exact hK _ _ h
theorem make_at {t : TypeId} {x y : Operand} {n c v : Value} (hg : o.guard = none) (ho : o.op = .makeSlice t x y) (hrun : (Instr.makeSlice t n c).run P w = .ok v w1) (hx : a.eval x = n) (hy : a.eval y = c)
    (h : wpList P ops Q rest (a.put o.dst v) w1) : wpList P ops Q (o :: rest) a w := by
  refine wpList_plain hg fun K hK => ?_
  have he : (execOp a.eval o).run P w = .ok (.value v) w1 := by
    subst hx
    subst hy
    unfold execOp
    simp [ho, hrun]
  unfold Oper.wp
  rw [he, Oper.upon_value]
  exact hK _ _ h
theorem index_at {t : TypeId} {x y : Operand} {p n v : Value} (hg : o.guard = none) (ho : o.op = .index t x y) (hrun : (Instr.index t p n).run P w = .ok v w) (hx : a.eval x = p) (hy : a.eval y = n)
    (h : wpList P ops Q rest (a.put o.dst v) w) : wpList P ops Q (o :: rest) a w := by
  refine wpList_plain hg fun K hK => ?_
  have he : (execOp a.eval o).run P w = .ok (.value v) w := by
    subst hx
    subst hy
    unfold execOp
    simp [ho, hrun]
  unfold Oper.wp
  rw [he, Oper.upon_value]
  exact hK _ _ h
end
theorem exec_make {P : Program} {ρ : Operand → Value} {o : Oper} {t : TypeId} {x y : Operand} {n c v : Value} {w w1 : World} (ho : o.op = .makeSlice t x y) (hx : ρ x = n) (hy : ρ y = c) (hrun : (Instr.makeSlice t n c).run P w = .ok v w1) : (execOp ρ o).run P w = .ok (.value v) w1 := by
  subst hx; subst hy
  unfold execOp
  simp [ho, hrun]
/-- An element of an array by value. -/
theorem run_index_row {P : Program} (w : World) (t e : TypeId) (k : IntKind) (n : Nat) (cs : Array Value) (i : Nat) (v : Value) (h : P.underlying t = some (.array n e)) (he : P.underlying e = some (.int k)) (hi : i < n) (hc : cs[i]? = some v) (hs : (P.info? e).map (·.size) = some 1) : (Instr.index t (.agg cs) (.int .i64 i)).run P w = .ok v w := by
  have hn : (0 ≤ (i : Int) ∧ (i : Int) < (n : Int)) := by omega
  obtain ⟨ie, hie, hs1⟩ := Option.map_eq_some_iff.1 hs
  have ha : (isAgg e).run P w = .ok false w := by
    unfold isAgg
    simp [run_underlying he]
  have hz : (sizeOf e).run P w = .ok 1 w := by simp [sizeOf, typeInfo, hie, hs1]
  simp [Instr.index, run_underlying h, asIntOf, hn, go_sem, ha, hz, hc, hi]
end Go.Proofs.YtmblnflfklmmkaaGreatDoor.Dk
/- Contracts of package sha2: mix. -/
namespace Go.Proofs.YtmblnflfklmmkaaGreatDoor.Sh
open Go.Proofs.YtmblnflfklmmkaaGreatDoor.Dk
open Go.RowKit Go.Proofs.YtmblnflfklmmkaaGreatDoorW.PrintWords Go.Proofs.YtmblnflfklmmkaaGreatDoorW.PrintLast Go.Proofs.YtmblnflfklmmkaaGreatDoorW.PrintMore
set_option linter.unusedVariables false
set_option linter.unusedSimpArgs false
set_option maxRecDepth 30000
variable {w w1 w2 wr : World}
structure Mx (w w' : World) (b : Nat) (hs ws vs : List Int) : Prop where
  bs : w'.heap[w.heap.size]? = some (.cells narrowA 113 (0, 0))
  bh : w'.heap[w.heap.size + 1]? = some (.cells (nums .u32 hs).toArray 117 (0, 0))
  br : w'.heap[w.heap.size + 1 + 1]? = some (.cells (z8 .u32) 117 (0, 0))
  bw : w'.heap[b]? = some (.cells (nums .u32 ws).toArray 137 (0, 0))
  bv : w'.heap[b + 1]? = some (.cells (nums .u32 vs).toArray 117 (0, 0))
  lt : w.heap.size + 1 + 1 < b
  bb : Below w.heap.size w w'
variable {b : Nat} {hs ws vs : List Int}
theorem Mx.drew (h : Mx w w1 b hs ws vs) : Mx w w1.drew b hs ws vs := ⟨h.bs, h.bh, h.br, h.bw, h.bv, h.lt, below_drew h.bb⟩
theorem Mx.below (h : Mx w w1 b hs ws vs) (hb : Below w1.heap.size w1 w2) : Mx w w2 b hs ws vs := ⟨blk_below h.bs hb, blk_below h.bh hb, blk_below h.br hb, blk_below h.bw hb, blk_below h.bv hb, h.lt, h.bb.trans (hb.mono h.bb.size)⟩
theorem Mx.cv (h : Mx w w1 b hs ws vs) {i : Nat} (hi : i < vs.length) : w1.cell? ⟨b + 1, i, none⟩ = some (.int .u32 (vs.getD i 0)) := cell_nums h.bv hi
theorem Mx.cw (h : Mx w w1 b hs ws vs) {i : Nat} (hi : i < ws.length) : w1.cell? ⟨b, i, none⟩ = some (.int .u32 (ws.getD i 0)) := cell_nums h.bw hi
theorem Mx.ch (h : Mx w w1 b hs ws vs) {i : Nat} (hi : i < hs.length) : w1.cell? ⟨w.heap.size + 1, i, none⟩ = some (.int .u32 (hs.getD i 0)) := cell_nums h.bh hi
theorem Mx.shape (h : Mx w w1 b hs ws vs) (j : Nat) (v : Value) (hj : narrowA[j]? = some v) : w1.cell? ⟨w.heap.size, j, none⟩ = some v := cellB3 h.bs j v hj
theorem Mx.setV (h : Mx w w1 b hs ws vs) (us : List Int) : Mx w (w1.setRow (b + 1) (nums .u32 us).toArray) b hs ws us := by
  have hl := h.lt
  have hn := blk_lt h.bv
  have o : ∀ k {o : Obj}, k ≠ b + 1 → w1.heap[k]? = some o → (w1.setRow (b + 1) (nums .u32 us).toArray).heap[k]? = some o := fun k o hk hh => (setRow_other _ _ _ _ hk).trans hh
  exact ⟨o _ (by omega) h.bs, o _ (by omega) h.bh, o _ (by omega) h.br, o _ (by omega) h.bw, setRow_heap _ _ _ _ _ _ h.bv, h.lt, below_row h.bb (by omega) _⟩
theorem Mx.setH (h : Mx w w1 b hs ws vs) (i : Nat) (u : Int) : Mx w (w1.setCell ⟨w.heap.size + 1, i, none⟩ (.int .u32 u)) b (hs.set i u) ws vs := by
  have hl := h.lt
  refine ⟨put_other i _ (by omega) h.bs, ?_, put_other i _ (by omega) h.br, put_other i _ (by omega) h.bw, put_other i _ (by omega) h.bv, h.lt, below_put h.bb (by omega) i _⟩
  have h3 := put_cell h.bh i (.int .u32 u)
  rw [nums_set] at h3
  exact h3
def rX (v7 e v5 v6 k x : Int) : Int := IntKind.u32.wrap (IntKind.u32.wrap (IntKind.u32.wrap (IntKind.u32.wrap (v7 + bigM e 6 11 25) + Go.bits .xor .u32 (Go.bits .and .u32 e v5) (Go.bits .and .u32 (Go.bits .xor .u32 4294967295 e) v6)) + k) + x)
def rY (a v1 v2 : Int) : Int := IntKind.u32.wrap (bigM a 2 13 22 + Go.bits .xor .u32 (Go.bits .xor .u32 (Go.bits .and .u32 a v1) (Go.bits .and .u32 a v2)) (Go.bits .and .u32 v1 v2))
def roundM (v : List Int) (k x : Int) : List Int :=
  [(rX (v.getD 7 0) (v.getD 4 0) (v.getD 5 0) (v.getD 6 0) k x + rY (v.getD 0 0) (v.getD 1 0) (v.getD 2 0)) % 4294967296, v.getD 0 0, v.getD 1 0, v.getD 2 0, (v.getD 3 0 + rX (v.getD 7 0) (v.getD 4 0) (v.getD 5 0) (v.getD 6 0) k x) % 4294967296, v.getD 4 0, v.getD 5 0, v.getD 6 0]
def kM (t : Nat) : Int := IntKind.u32.wrap (constsL.getD t 0 / 4294967296)
def roundsM (h ws : List Int) : Nat → List Int
  | 0 => h
  | t + 1 => roundM (roundsM h ws t) (kM t) (ws.getD t 0)
theorem roundsM_length {h ws : List Int} (hh : h.length = 8) : ∀ t, (roundsM h ws t).length = 8
  | 0 => hh
  | t + 1 => rfl
theorem mx_start {wa w1 : World} (h0 : wa.heap[w.heap.size]? = some (.cells narrowA 113 (0, 0))) (h1 : wa.heap[w.heap.size + 1]? = some (.cells (nums .u32 hs).toArray 117 (0, 0))) (h2 : wa.heap[w.heap.size + 1 + 1]? = some (.cells (z8 .u32) 117 (0, 0))) (hb : Below w.heap.size w wa) (hl : w.heap.size + 1 + 1 < wa.heap.size) (hb1 : Below wa.heap.size wa w1) :
    Mx w ((w1.alloc (.cells (nums .u32 ws).toArray 137)).alloc (.cells (nums .u32 hs).toArray 117)) w1.heap.size hs ws (roundsM hs ws 0) := by
  have b2 : Below w1.heap.size w1 ((w1.alloc (.cells (nums .u32 ws).toArray 137)).alloc (.cells (nums .u32 hs).toArray 117)) := below_alloc (below_alloc (Below.refl _ _) _) _
  have b3 := hb1.trans (b2.mono hb1.size)
  exact ⟨blk_below h0 b3, blk_below h1 b3, blk_below h2 b3, blk_below (heap_alloc_new w1 _) (below_alloc (Below.refl _ _) _), nth2_1 w1 _ _, Nat.lt_of_lt_of_le hl hb1.size, hb.trans (b3.mono hb.size)⟩
theorem u32_one (x : List Int) : ((nums .u32 x).toArray : Array Value).all (·.oneCell') = true := by
  simp [nums, List.all_eq_true]
  intro a _
  rfl
def addR (h v : List Int) : Nat → List Int
  | 0 => h
  | i + 1 => (addR h v i).set i (IntKind.u32.wrap ((addR h v i).getD i 0 + v.getD i 0))
theorem addR_length (h v : List Int) : ∀ i, (addR h v i).length = h.length
  | 0 => rfl
  | i + 1 => by rw [addR, List.length_set]; exact addR_length h v i
def mixM (h b : List Int) : List Int := addR h (roundsM h (wordsM b) 64) 8
theorem mixM_length {h b : List Int} (hh : h.length = 8) : (mixM h b).length = 8 := by rw [mixM, addR_length, hh]
attribute [local irreducible] bigM
attribute [irreducible] kM

set_option maxHeartbeats 16000000 in
theorem mix_calls (hg : Glob w) (g o c : Nat) (x hv : List Int) (h64 : x.length = 64) (h8 : hv.length = 8) (hc : 64 ≤ c) (hC : Bys w g o x) (hgl : g < w.heap.size) : Calls Tryz.prog 95 #[.agg narrowA, .agg (nums .u32 hv).toArray, .slice (some ⟨g, o, none⟩) 64 c] w fun e w' => e = .returned (.agg (nums .u32 (mixM hv x)).toArray) ∧ Below w.heap.size w w' := by
  have HG := Aside0.mk hg
  have H8 := Aside0.mk h8
  obtain ⟨wa, hwa⟩ : ∃ wa, wa = ((w.alloc (.cells narrowA 113)).alloc (.cells (nums .u32 hv).toArray 117)).alloc (.cells (z8 .u32) 117) := ⟨_, rfl⟩
  have HA0 := Aside0.mk (show wa.heap[w.heap.size]? = some (.cells narrowA 113 (0, 0)) from hwa ▸ nth3_0 w _ _ _)
  have HA1 := Aside0.mk (show wa.heap[w.heap.size + 1]? = some (.cells (nums .u32 hv).toArray 117 (0, 0)) from hwa ▸ nth3_1 w _ _ _)
  have HA2 := Aside0.mk (show wa.heap[w.heap.size + 1 + 1]? = some (.cells (z8 .u32) 117 (0, 0)) from hwa ▸ nth3_2 w _ _ _)
  have HAB := Aside0.mk (show Below w.heap.size w wa from hwa ▸ below3 w _ _ _)
  have HAS := Aside0.mk (show w.heap.size + 1 + 1 < wa.heap.size from blk_lt HA2.out)
  have HLA := Aside0.mk (show (Instr.loadAt 113 (.pointer (some ⟨w.heap.size, 0, none⟩))).run Tryz.prog wa = .ok (.agg narrowA) wa from run_loadAt_cells (P := Tryz.prog) (w := wa) 113 Tryz.underlying113 rfl w.heap.size 0 narrowA.toList info120 (fun j u hu => by rw [Nat.zero_add, cell_of_row _ _ j _ _ _ HA0.out]; simpa using hu))
  have HWC := Aside0.mk (words_calls (w := wa) g o c x h64 hc (hC.below hgl HAB.out) (Nat.lt_of_lt_of_le hgl HAB.out.size))
  have hl80 := wordsM_length x
  have HL80 := Aside0.mk hl80
  obtain ⟨ws, hws⟩ : ∃ ws, wordsM x = ws := ⟨_, rfl⟩
  have HWS := Lib.hid hws
  rw [hws] at HWC hl80 HL80
  have HS7 := Aside0.mk (fun w1 : World => run_storeAt_new (P := Tryz.prog) w1 137 z80 (nums .u32 ws).toArray (info141 _ hl80) (by simp [z80, nums_length, hl80]) (by simp [nums, List.all_eq_true]; intros; rfl))
  have HS8 := Aside0.mk (fun w1 : World => run_storeAt_new (P := Tryz.prog) w1 117 (z8 .u32) (nums .u32 hv).toArray (info124 _ h8) (by simp [z8, nums_length, h8]) (by simp [nums, List.all_eq_true]; intros; rfl))
  have HL8 := Aside0.mk (fun (w1 : World) (h : w1.heap[w.heap.size + 1]? = some (.cells (nums .u32 hv).toArray 117 (0, 0))) => run_loadAt_cells (P := Tryz.prog) (w := w1) 117 Tryz.underlying117 rfl (w.heap.size + 1) 0 (nums .u32 hv) (by rw [nums_length, h8]; kernel_rfl) (fun j u hu => by rw [Nat.zero_add, cell_of_row _ _ j _ _ _ h]; simpa using hu))
  subst hwa
  clear hg h8 h64 hc hC hgl hws hl80
  go_enter Tryz.func95, Tryz.ntmps95
  go_wp2_with (first | ((with_reducible refine alloc_at (e := 117) ?_ ?_ (run_alloc124 _) ?_); exact rfl; exact rfl) | ((with_reducible refine alloc_at (e := 137) ?_ ?_ (run_alloc141 _) ?_); exact rfl; exact rfl) | ((with_reducible refine load_at (ty := 113) (.tmp 3) ?_ ?_ HLA.out ?_ ?_); exact rfl; exact rfl; exact rfl) | (go_at_call 99; (with_reducible refine HWC.out.mono ?_); rintro e w1 ⟨rfl, hb1⟩; have HL8 := Aside0.mk (HL8.out (w1.alloc (.cells (nums .u32 ws).toArray 137)) (blk_below (blk_below HA1.out hb1) (below_alloc (Below.refl _ _) _))); have HM := Aside0.mk (mx_start (ws := ws) HA0.out HA1.out HA2.out HAB.out HAS.out hb1); clear hb1) | ((with_reducible refine store_at (ty := 137) (.tmp 7) (.tmp 17) ?_ ?_ ?_ (HS7.out _) ?_ ?_ ?_); exact rfl; exact rfl; exact rfl; exact rfl; exact rfl) | ((with_reducible refine load_at (ty := 117) (.tmp 4) ?_ ?_ HL8.out ?_ ?_); exact rfl; exact rfl; exact rfl) | ((with_reducible refine store_at (ty := 117) (.tmp 8) (.tmp 18) ?_ ?_ ?_ (HS8.out _) ?_ ?_ ?_); exact rfl; exact rfl; exact rfl; exact rfl; exact rfl; generalize ((w1.alloc (.cells (nums .u32 ws).toArray 137)).alloc (.cells (nums .u32 hv).toArray 117)) = wS at HM ⊢; have hs2 := HM.out.shape 2 (.int .i64 64) rfl))
  clear HA0 HA1 HA2 HAB HAS HWC HLA HL8 HS7 HS8 hs2
  obtain ⟨b, hb⟩ : ∃ b, b = w1.heap.size := ⟨_, rfl⟩
  rw [← hb] at HM ⊢
  clear hb
  go_loopw [9, 10, 11, 12, 13, 21] (fun v9 v10 v11 v12 v13 v21 w' => ∃ t : Nat, v21 = .int .i64 t ∧ t ≤ 64 ∧ Aside0 (Mx w w' b hv ws (roundsM hv ws t))) (fun v9 v10 v11 v12 v13 v21 _ => 64 - (intOf v21).toNat)
  case atStart => exact ⟨0, rfl, Nat.zero_le _, HM⟩
  case round =>
    clear HM
    obtain ⟨t, rfl, ht, HM⟩ := hrel
    by_cases hlt : t < 64
    · have hq : decide ((t : Int) < 64) = true := decide_eq_true (by omega)
      have HD6 := Aside0.mk HM.out.drew
      obtain ⟨vs, hvs⟩ : ∃ vs, roundsM hv ws t = vs := ⟨_, rfl⟩
      have HVL := Aside0.mk (show vs.length = 8 from hvs ▸ roundsM_length H8.out t)
      have HVS := Lib.hid hvs
      rw [hvs] at HM HD6
      obtain ⟨x, hx⟩ : ∃ x, ws.getD t 0 = x := ⟨_, rfl⟩
      obtain ⟨c, hc⟩ : ∃ c, constsL.getD t 0 = c := ⟨_, rfl⟩
      obtain ⟨v0, hv0⟩ : ∃ v, vs.getD 0 0 = v := ⟨_, rfl⟩
      obtain ⟨v1, hv1⟩ : ∃ v, vs.getD 1 0 = v := ⟨_, rfl⟩
      obtain ⟨v2, hv2⟩ : ∃ v, vs.getD 2 0 = v := ⟨_, rfl⟩
      obtain ⟨v3, hv3⟩ : ∃ v, vs.getD 3 0 = v := ⟨_, rfl⟩
      obtain ⟨v4, hv4⟩ : ∃ v, vs.getD 4 0 = v := ⟨_, rfl⟩
      obtain ⟨v5, hv5⟩ : ∃ v, vs.getD 5 0 = v := ⟨_, rfl⟩
      obtain ⟨v6, hv6⟩ : ∃ v, vs.getD 6 0 = v := ⟨_, rfl⟩
      obtain ⟨v7, hv7⟩ : ∃ v, vs.getD 7 0 = v := ⟨_, rfl⟩
      have HN := Aside0.mk (show roundsM hv ws (t + 1) = [(rX v7 v4 v5 v6 (IntKind.u32.wrap (c / 4294967296)) x + rY v0 v1 v2) % 4294967296, v0, v1, v2, (v3 + rX v7 v4 v5 v6 (IntKind.u32.wrap (c / 4294967296)) x) % 4294967296, v4, v5, v6] from by rw [roundsM, hvs, hx, kM, hc, roundM, hv0, hv1, hv2, hv3, hv4, hv5, hv6, hv7])
      have S0 := Aside0.mk (fun (W : World) (h : Mx w W b hv ws vs) => (hv0 ▸ h.cv (i := 0) (by rw [HVL.out]; decide) : W.cell? ⟨b + 1, 0, none⟩ = some (.int .u32 v0)))
      have S1 := Aside0.mk (fun (W : World) (h : Mx w W b hv ws vs) => (hv1 ▸ h.cv (i := 1) (by rw [HVL.out]; decide) : W.cell? ⟨b + 1, 1, none⟩ = some (.int .u32 v1)))
      have S2 := Aside0.mk (fun (W : World) (h : Mx w W b hv ws vs) => (hv2 ▸ h.cv (i := 2) (by rw [HVL.out]; decide) : W.cell? ⟨b + 1, 2, none⟩ = some (.int .u32 v2)))
      have S3 := Aside0.mk (fun (W : World) (h : Mx w W b hv ws vs) => (hv3 ▸ h.cv (i := 3) (by rw [HVL.out]; decide) : W.cell? ⟨b + 1, 3, none⟩ = some (.int .u32 v3)))
      have S4 := Aside0.mk (fun (W : World) (h : Mx w W b hv ws vs) => (hv4 ▸ h.cv (i := 4) (by rw [HVL.out]; decide) : W.cell? ⟨b + 1, 4, none⟩ = some (.int .u32 v4)))
      have S5 := Aside0.mk (fun (W : World) (h : Mx w W b hv ws vs) => (hv5 ▸ h.cv (i := 5) (by rw [HVL.out]; decide) : W.cell? ⟨b + 1, 5, none⟩ = some (.int .u32 v5)))
      have S6 := Aside0.mk (fun (W : World) (h : Mx w W b hv ws vs) => (hv6 ▸ h.cv (i := 6) (by rw [HVL.out]; decide) : W.cell? ⟨b + 1, 6, none⟩ = some (.int .u32 v6)))
      have S7 := Aside0.mk (fun (W : World) (h : Mx w W b hv ws vs) => (hv7 ▸ h.cv (i := 7) (by rw [HVL.out]; decide) : W.cell? ⟨b + 1, 7, none⟩ = some (.int .u32 v7)))
      have SW := Aside0.mk (fun (W : World) (h : Mx w W b hv ws vs) => (hx ▸ h.cw (i := t) (by rw [HL80.out]; omega) : W.cell? ⟨b, t, none⟩ = some (.int .u32 x)))
      have SC := Aside0.mk (fun (W : World) (h : Mx w W b hv ws vs) => (hc ▸ (HG.out.below h.bb).c t (by omega) : W.cell? ⟨1, t, none⟩ = some (.int .u64 c)))
      clear hvs hx hc hv0 hv1 hv2 hv3 hv4 hv5 hv6 hv7
      repeat (first | go_step | go_guarded | go_upon)
      refine start_ (n := 6) (S := fun w' => w'.cell? ⟨b + 1, 0, none⟩ = some (.int .u32 v0) ∧ w'.cell? ⟨b + 1, 4, none⟩ = some (.int .u32 v4)) (ds := []) (bz 6 0) (by kernel_rfl) rfl rfl ⟨(S0.out _ HD6.out), (S4.out _ HD6.out)⟩ (fun hHeld => ?_)
      refine pz 0 (some 24) (bz 6 1) ?_
      refine pz 2 (some 26) (bz 6 5) ?_
      refine tz2 1 (some 25) (bz 6 7) hHeld ?_
      refine pz 4 (some 10) (bz 6 23) ?_
      refine tz2 3 (some 27) (bz 6 31) hHeld ?_
      refine pz 5 (some 11) (bz 6 63) ?_
      refine done_ (by kernel_rfl) ?_
      clear hHeld
      have HD7 := Aside0.mk HD6.out.drew
      have bt : ((t : Int) < 80) = True := eq_true (by omega)
      have hw32 : wrap64 32 = 32 := by simp [wrap64]
      repeat (first | go_step | go_guarded | go_upon)
      refine start_ (n := 34) (S := fun w' => w'.cell? ⟨b + 1, 5, none⟩ = some (.int .u32 v5) ∧ w'.cell? ⟨b + 1, 6, none⟩ = some (.int .u32 v6) ∧ w'.cell? ⟨b + 1, 7, none⟩ = some (.int .u32 v7) ∧ w'.cell? ⟨b, t, none⟩ = some (.int .u32 x) ∧ w'.cell? ⟨1, t, none⟩ = some (.int .u64 c) ∧ w'.cell? ⟨w.heap.size, 1, none⟩ = some (.int .i64 32) ∧ w'.cell? ⟨w.heap.size, 12, none⟩ = some (.int .i64 6) ∧ w'.cell? ⟨w.heap.size, 13, none⟩ = some (.int .i64 11) ∧ w'.cell? ⟨w.heap.size, 14, none⟩ = some (.int .i64 25)) (ds := []) (bz 34 0) (by kernel_rfl) rfl rfl ⟨(S5.out _ HD7.out), (S6.out _ HD7.out), (S7.out _ HD7.out), (SW.out _ HD7.out), (SC.out _ HD7.out), (HD7.out.shape 1 _ rfl), (HD7.out.shape 12 _ rfl), (HD7.out.shape 13 _ rfl), (HD7.out.shape 14 _ rfl)⟩ (fun hHeld => ?_)
      refine pz 0 (some 28) (bz 34 1) ?_
      refine pz 2 (some 30) (bz 34 5) ?_
      refine pz 3 (some 31) (bz 34 13) ?_
      refine pz 5 (some 33) (bz 34 45) ?_
      refine pz 9 (some 37) (bz 34 557) ?_
      refine pz 10 (some 38) (bz 34 1581) ?_
      refine pz 13 (some 41) (bz 34 9773) ?_
      refine pz 14 (some 42) (bz 34 26157) ?_
      refine pz 15 (some 43) (bz 34 58925) ?_
      refine pz 20 (some 48) (bz 34 1107501) ?_
      refine pz 21 (some 49) (bz 34 3204653) ?_
      refine pz 23 (some 51) (bz 34 11593261) ?_
      refine pz 29 (some 57) (bz 34 548464173) ?_
      refine pz 30 (some 58) (bz 34 1622205997) ?_
      refine tz9 1 (some 29) (bz 34 1622205999) hHeld ?_
      refine tz9 4 (some 32) (bz 34 1622206015) hHeld ?_
      refine tz9 6 (some 34) (bz 34 1622206079) hHeld ?_
      refine tz9 11 (some 39) (bz 34 1622208127) hHeld ?_
      refine pz 12 (some 40) (bz 34 1622212223) ?_
      refine tz9 16 (some 44) (bz 34 1622277759) hHeld ?_
      refine pz 17 (some 45) (bz 34 1622408831) ?_
      refine pz 18 (some 46) (bz 34 1622670975) ?_
      refine tz9 22 (some 50) (bz 34 1626865279) hHeld ?_
      refine tz9 24 (some 52) (bz 34 1643642495) hHeld ?_
      refine pz 25 (some 53) (bz 34 1677196927) ?_
      refine pz 26 (some 54) (bz 34 1744305791) ?_
      refine pz 27 (some 55) (bz 34 1878523519) ?_
      refine tz9 31 (some 59) (bz 34 4026007167) hHeld ?_
      refine one_ (i := 7) (N := some 35) (bz 34 4026007295) rfl rfl (by kernel_rfl) (by decide) (fun K hK => ?_)
      refine goes_ Tryz.func100 (by kernel_rfl) rfl #[.int .u32 v4, .agg #[.int .i64 6, .int .i64 11, .int .i64 25], .int .i64 32] (by rfl) rfl rfl (by simp only [List.map_toArray, List.map_cons, List.map_nil]; rfl) ?_
      with_reducible refine (big_calls v4 6 11 25 (by decide) (by decide) (by decide) (by decide) (by decide) (by decide) _).mono ?_
      rintro e w7 ⟨rfl, hd⟩
      refine ⟨_, rfl, ?_⟩
      have HI7 := Aside0.mk (HD7.out.below hd)
      clear hd
      refine hK.out _ _ ⟨(S5.out _ HI7.out), (S6.out _ HI7.out), (S7.out _ HI7.out), (SW.out _ HI7.out), (SC.out _ HI7.out), (HI7.out.shape 1 _ rfl), (HI7.out.shape 12 _ rfl), (HI7.out.shape 13 _ rfl), (HI7.out.shape 14 _ rfl)⟩ (fun hHeld => ?_)
      clear hK K
      refine norm_ (a' := ?_) ?_ ?_
      rotate_left
      · show Act.put _ (some 35) _ = _
        simp only [Act.put, List.setIfInBounds_toArray, List.set_cons_zero, List.set_cons_succ, i64_w, i32_w]
        rfl
      refine pz 8 (some 36) (bz 34 4026007551) ?_
      refine pz 19 (some 47) (bz 34 4026531839) ?_
      refine pz 28 (some 56) (bz 34 4294967295) ?_
      refine pz 32 (some 60) (bz 34 8589934591) ?_
      refine pz 33 (some 12) (bz 34 17179869183) ?_
      refine done_ (by kernel_rfl) ?_
      clear hHeld
      generalize hX : IntKind.u32.wrap (IntKind.u32.wrap (IntKind.u32.wrap (IntKind.u32.wrap (v7 + bigM v4 6 11 25) + Go.bits .xor .u32 (Go.bits .and .u32 v4 v5) (Go.bits .and .u32 (Go.bits .xor .u32 (if IntKind.u32.signed = true then -1 else IntKind.u32.max) v4) v6)) + IntKind.u32.wrap (c / 4294967296)) + x) = X
      generalize (if IntKind.u32.signed = true then (-1 : Int) else IntKind.u32.max) = M
      have HX := Lib.hid hX
      clear hX
      have HD8 := Aside0.mk HI7.out.drew
      repeat (first | go_step | go_guarded | go_upon)
      refine start_ (n := 23) (S := fun w' => w'.cell? ⟨b + 1, 1, none⟩ = some (.int .u32 v1) ∧ w'.cell? ⟨b + 1, 2, none⟩ = some (.int .u32 v2) ∧ w'.cell? ⟨w.heap.size, 1, none⟩ = some (.int .i64 32) ∧ w'.cell? ⟨w.heap.size, 9, none⟩ = some (.int .i64 2) ∧ w'.cell? ⟨w.heap.size, 10, none⟩ = some (.int .i64 13) ∧ w'.cell? ⟨w.heap.size, 11, none⟩ = some (.int .i64 22)) (ds := []) (bz 23 0) (by kernel_rfl) rfl rfl ⟨(S1.out _ HD8.out), (S2.out _ HD8.out), (HD8.out.shape 1 _ rfl), (HD8.out.shape 9 _ rfl), (HD8.out.shape 10 _ rfl), (HD8.out.shape 11 _ rfl)⟩ (fun hHeld => ?_)
      refine pz 0 (some 61) (bz 23 1) ?_
      refine pz 1 (some 62) (bz 23 3) ?_
      refine pz 3 (some 64) (bz 23 11) ?_
      refine pz 6 (some 67) (bz 23 75) ?_
      refine pz 7 (some 68) (bz 23 203) ?_
      refine pz 10 (some 71) (bz 23 1227) ?_
      refine pz 11 (some 72) (bz 23 3275) ?_
      refine pz 15 (some 76) (bz 23 36043) ?_
      refine pz 17 (some 78) (bz 23 167115) ?_
      refine tz6 2 (some 63) (bz 23 167119) hHeld ?_
      refine tz6 4 (some 65) (bz 23 167135) hHeld ?_
      refine tz6 8 (some 69) (bz 23 167391) hHeld ?_
      refine pz 9 (some 70) (bz 23 167903) ?_
      refine tz6 12 (some 73) (bz 23 171999) hHeld ?_
      refine pz 13 (some 74) (bz 23 180191) ?_
      refine pz 14 (some 75) (bz 23 196575) ?_
      refine tz6 16 (some 77) (bz 23 262111) hHeld ?_
      refine tz6 18 (some 79) (bz 23 524255) hHeld ?_
      refine pz 19 (some 80) (bz 23 1048543) ?_
      refine pz 20 (some 81) (bz 23 2097119) ?_
      refine one_ (i := 5) (N := some 66) (bz 23 2097151) rfl rfl (by kernel_rfl) (by decide) (fun K hK => ?_)
      refine goes_ Tryz.func100 (by kernel_rfl) rfl #[.int .u32 v0, .agg #[.int .i64 2, .int .i64 13, .int .i64 22], .int .i64 32] (by rfl) rfl rfl (by simp only [List.map_toArray, List.map_cons, List.map_nil]; rfl) ?_
      with_reducible refine (big_calls v0 2 13 22 (by decide) (by decide) (by decide) (by decide) (by decide) (by decide) _).mono ?_
      rintro e w8 ⟨rfl, hd⟩
      refine ⟨_, rfl, ?_⟩
      have HI8 := Aside0.mk (HD8.out.below hd)
      clear hd
      refine hK.out _ _ ⟨(S1.out _ HI8.out), (S2.out _ HI8.out), (HI8.out.shape 1 _ rfl), (HI8.out.shape 9 _ rfl), (HI8.out.shape 10 _ rfl), (HI8.out.shape 11 _ rfl)⟩ (fun hHeld => ?_)
      clear hK K
      refine norm_ (a' := ?_) ?_ ?_
      rotate_left
      · show Act.put _ (some 66) _ = _
        simp only [Act.put, List.setIfInBounds_toArray, List.set_cons_zero, List.set_cons_succ, i64_w, i32_w]
        rfl
      refine pz 21 (some 82) (bz 23 4194303) ?_
      refine pz 22 (some 13) (bz 23 8388607) ?_
      refine done_ (by kernel_rfl) ?_
      clear hHeld
      generalize hY : IntKind.u32.wrap (bigM v0 2 13 22 + Go.bits .xor .u32 (Go.bits .xor .u32 (Go.bits .and .u32 v0 v1) (Go.bits .and .u32 v0 v2)) (Go.bits .and .u32 v1 v2)) = Y
      have HY := Lib.hid hY
      clear hY
      have h1 := S1.out _ HI8.out
      have h2 := S2.out _ HI8.out
      have h3 := S3.out _ HI8.out
      have h5 := S5.out _ HI8.out
      have h6 := S6.out _ HI8.out
      have HNX := Aside0.mk (show roundsM hv ws (t + 1) = [(X + Y) % 4294967296, v0, v1, v2, (v3 + X) % 4294967296, v4, v5, v6] from by rw [HN.out, ← HX.out, ← HY.out] <;> rfl)
      have HST := Aside0.mk (run_store_block (P := Tryz.prog) (w := w8) (b + 1) 117 (nums .u32 vs).toArray (nums .u32 [(X + Y) % 4294967296, v0, v1, v2, (v3 + X) % 4294967296, v4, v5, v6]).toArray 117 HI8.out.bv (info124 _ rfl) (by simp [nums_length, HVL.out]) (u32_one _))
      have HV := Aside0.mk (HI8.out.setV [(X + Y) % 4294967296, v0, v1, v2, (v3 + X) % 4294967296, v4, v5, v6])
      go_wp2_with (first | ((with_reducible refine store_at (ty := 117) (.tmp 8) (.tmp 100) ?_ ?_ ?_ HST.out ?_ ?_ ?_); exact rfl; exact rfl; exact rfl; exact rfl; exact rfl))
      go_roundw
      case rel => exact ⟨t + 1, by go_num, by omega, ⟨by rw [HNX.out]; exact HV.out⟩⟩
      case measure => simp [intOf]; omega
    · obtain rfl : t = 64 := by omega
      obtain ⟨vs, hvs⟩ : ∃ vs, roundsM hv ws 64 = vs := ⟨_, rfl⟩
      have HVL := Aside0.mk (show vs.length = 8 from hvs ▸ roundsM_length H8.out 64)
      have HVS := Lib.hid hvs
      rw [hvs] at HM
      have hq : decide ((64 : Int) < 64) = false := rfl
      clear hvs
      repeat (first | go_step | go_guarded | go_upon)
      go_loopw [14, 102] (fun v14 v102 w' => ∃ i : Nat, v102 = .int .i64 i ∧ i ≤ 8 ∧ Aside0 (Mx w w' b (addR hv vs i) ws vs)) (fun v14 v102 _ => 8 - (intOf v102).toNat)
      case atStart => exact ⟨0, rfl, Nat.zero_le _, HM⟩
      case round =>
        clear HM
        obtain ⟨i, rfl, hi, HM⟩ := hrel
        have HHL := Aside0.mk (show (addR hv vs i).length = 8 from (addR_length hv vs i).trans H8.out)
        by_cases hlt : i < 8
        · have hq : decide ((i : Int) < 8) = true := decide_eq_true (by omega)
          obtain ⟨x, hx⟩ : ∃ x, (addR hv vs i).getD i 0 = x := ⟨_, rfl⟩
          obtain ⟨y, hy⟩ : ∃ y, vs.getD i 0 = y := ⟨_, rfl⟩
          have HN := Aside0.mk (show addR hv vs (i + 1) = (addR hv vs i).set i (IntKind.u32.wrap (x + y)) by rw [addR, hx, hy])
          have HD := Aside0.mk HM.out.drew
          have S0 := Aside0.mk (fun (W : World) (h : Mx w W b (addR hv vs i) ws vs) => (hx ▸ h.ch (i := i) (by rw [HHL.out]; exact hlt) : W.cell? ⟨w.heap.size + 1, i, none⟩ = some (.int .u32 x)))
          have S1 := Aside0.mk (fun (W : World) (h : Mx w W b (addR hv vs i) ws vs) => (hy ▸ h.cv (i := i) (by rw [HVL.out]; exact hlt) : W.cell? ⟨b + 1, i, none⟩ = some (.int .u32 y)))
          have hc := HD.out.ch (i := i) (by rw [HHL.out]; exact hlt)
          have hf := free_row HD.out.bh i
          have bt : ((i : Int) < 8) = True := eq_true (by omega)
          have HST := Aside0.mk (HD.out.setH i (IntKind.u32.wrap (x + y)))
          clear hx hy
          repeat (first | go_step | go_guarded | go_upon)
          refine start_ (n := 9) (S := fun w' => w'.cell? ⟨w.heap.size + 1, i, none⟩ = some (.int .u32 x) ∧ w'.cell? ⟨b + 1, i, none⟩ = some (.int .u32 y)) (ds := [8]) (bz 9 0) (by kernel_rfl) rfl rfl ⟨(S0.out _ HD.out), (S1.out _ HD.out)⟩ (fun hHeld => ?_)
          refine pz 0 (some 105) (bz 9 1) ?_
          refine pz 1 (some 106) (bz 9 3) ?_
          refine pz 3 (some 108) (bz 9 11) ?_
          refine pz 4 (some 109) (bz 9 27) ?_
          refine tz2 2 (some 107) (bz 9 31) hHeld ?_
          refine tz2 5 (some 110) (bz 9 63) hHeld ?_
          refine pz 6 (some 111) (bz 9 127) ?_
          refine pz 7 (some 112) (bz 9 255) ?_
          refine last_ (i := 8) (N := none) (bz 9 511) rfl rfl (by kernel_rfl) (by decide) (fun K hK => ?_)
          refine skip_ (w1 := ?_) (by rfl) rfl ?_ ?_
          rotate_left
          · go_simp
            rfl
          refine hK.out _ _ ?_
          clear hK K
          refine done_ (by kernel_rfl) ?_
          clear hHeld hc hf
          go_wp2_with (fail)
          go_roundw
          case rel => exact ⟨i + 1, by go_num, by omega, ⟨by rw [HN.out]; exact HST.out⟩⟩
          case measure => simp [intOf]; omega
        · obtain rfl : i = 8 := by omega
          have hq : decide ((8 : Int) < 8) = false := rfl
          have HL := Aside0.mk (run_loadAt_cells (P := Tryz.prog) (w := wr) 117 Tryz.underlying117 rfl (w.heap.size + 1) 0 (nums .u32 (addR hv vs 8)) (by rw [nums_length, HHL.out]; kernel_rfl) (fun j u hu => by rw [Nat.zero_add, cell_of_row _ _ j _ _ _ HM.out.bh]; simpa using hu))
          have HST := Aside0.mk (run_store_block (P := Tryz.prog) (w := wr) (w.heap.size + 1 + 1) 117 (z8 .u32) (nums .u32 (addR hv vs 8)).toArray 117 HM.out.br (info124 _ HHL.out) (by simp [z8, nums_length, HHL.out]) (u32_one _))
          go_wp2_with (first | ((with_reducible refine load_at (ty := 117) (.tmp 4) ?_ ?_ HL.out ?_ ?_); exact rfl; exact rfl; exact rfl) | ((with_reducible refine store_at (ty := 117) (.tmp 6) (.tmp 114) ?_ ?_ ?_ HST.out ?_ ?_ ?_); exact rfl; exact rfl; exact rfl; exact rfl; exact rfl))
          refine bodyPost_ret (results_cell_row rfl _ _ _ _ (nums .u32 (addR hv vs 8)).toArray _ _ rfl (setRow_heap _ _ _ _ _ _ HM.out.br) Tryz.underlying117 rfl (info124 _ HHL.out)) rfl ?_
          exact ⟨by rw [mixM, HWS.out, HVS.out], below_row HM.out.bb (by omega) _⟩

end Go.Proofs.YtmblnflfklmmkaaGreatDoor.Sh
/- Rows of bytes of one's own: what append, make, copy and a store leave. -/
namespace Go.Proofs.YtmblnflfklmmkaaGreatDoor.Dk
open Go.RowKit Go.Proofs.YtmblnflfklmmkaaGreatDoorW.PrintWords Go.Proofs.YtmblnflfklmmkaaGreatDoorW.PrintLast Go.Proofs.YtmblnflfklmmkaaGreatDoorW.PrintMore
set_option linter.unusedVariables false
/-- A row of bytes in a block from q on (or none). -/
def Row8 (w : World) (q : Nat) (v : Value) (xs : List Int) : Prop := Kd.R (Kd.int .u8) 5 w q (fun k => q ≤ k) v xs
abbrev C8 (w : World) (A : Option Addr) (xs : List Int) : Prop := Kd.C (Kd.int .u8) w A xs.length xs
section
variable {w w1 : World} {q g : Nat} {v : Value} {xs ys : List Int} {A : Option Addr} {n c : Nat}
theorem Row8.nil (w : World) (q : Nat) : Row8 w q (.slice none 0 0) [] := Kd.R_nil _ _ _ _ _
theorem Row8.below (h : Row8 w q v xs) (hb : Below w.heap.size w w1) : Row8 w1 q v xs := Kd.R_below h hb
theorem Row8.lower {p : Nat} (h : Row8 w q v xs) (hq : p ≤ q) : Row8 w p v xs := Kd.R_mono (Kd.R_lower h hq) (fun _ h => Nat.le_trans hq h)
theorem Row8.frame {G : Nat → Prop} (h : Row8 w q v xs) (hu : Upd w w1 G) (hd : ∀ k, q ≤ k → ¬ G k) : Row8 w1 q v xs := Kd.R_kept h hu.kept hd
theorem Row8.type {cs : Array Value} {t : Nat} (h : Row8 w q v xs) (hb : w.heap[g]? = some (.cells cs t (0, 0))) (ht : 5 ≠ t) (hu : Upd w w1 (· = g)) : Row8 w1 q v xs :=
  Kd.R_mono (Kd.R_kept (Kd.R_types h hb (by simpa [Kd.int, Kd.scalar] using ht)) hu.kept (fun k hk => hk.2)) (fun k hk => hk.1)
theorem Row8.reads (h : Row8 w q v xs) : ∃ A c, v = .slice A xs.length c ∧ xs.length ≤ c ∧ C8 w A xs := Kd.R_reads h
theorem Row8.slice (h : Row8 w q v xs) : ∃ A c, v = .slice A xs.length c := Kd.R_slice h
theorem Row8.C (h : Row8 w q (.slice A n c) xs) : n = xs.length ∧ n ≤ c ∧ C8 w A xs := Kd.R_reads' h
theorem Row8.take {m : Nat} (h : Row8 w q (.slice A n c) xs) (hm : m ≤ xs.length) : Row8 w q (.slice A m c) (xs.take m) := Kd.R_take h hm
theorem Row8.own (h : Row8 w q v xs) : ∀ k, v.ownBlock = some k → q ≤ k ∧ k < w.heap.size := fun k hk => ⟨h.1 k hk, Kd.R_lt h k hk⟩
theorem Row8.form (h : Row8 w q v xs) (hp : 0 < xs.length) : ∃ g c, v = .slice (some ⟨g, 0, none⟩) xs.length c ∧ q ≤ g ∧ g < w.heap.size ∧ xs.length ≤ c ∧ (∃ cells, w.heap[g]? = some (.cells cells 5 (0, 0))) ∧ ∀ j, j < xs.length → w.cell? ⟨g, j, none⟩ = some (.int .u8 (xs.getD j 0)) := by
  obtain ⟨g, c, rfl, h1, h2, h3⟩ := Kd.R_form h hp
  refine ⟨g, c, rfl, h1, h2, (Kd.R_reads' h).2.1, h3, fun j hj => ?_⟩
  obtain ⟨ad, c', e, hsz, hK, hx⟩ := Kd.C_get (Kd.R_reads' h).2.2 0 (j : Int) (by omega) (by show (j : Int) < (xs.length : Int); omega)
  injection e with e
  subst e
  have := hx 0 (.int .u8 (xs.getD j 0)) (by rw [hK, Int.toNat_natCast]; rfl)
  rw [add0] at this
  simpa [Kd.int, Kd.scalar] using this
theorem Row8.celln (h : Row8 w q (.slice (some ⟨g, 0, none⟩) n c) xs) {i : Nat} (hi : i < xs.length) : w.cell? ⟨g, i, none⟩ = some (.int .u8 (xs.getD i 0)) ∧ w.frozen? ⟨g, i, none⟩ = false := by
  obtain ⟨rfl, _⟩ := Kd.R_reads' h
  obtain ⟨g', c', e, _, _, _, ⟨cells, hb⟩, h1⟩ := Row8.form h (by omega)
  injection e with e
  injection e with e
  injection e with e
  subst e
  exact ⟨h1 i hi, blk_frozen hb i⟩
theorem Row8.put (h : Row8 w q (.slice (some ⟨g, 0, none⟩) n c) xs) (i : Nat) (x : Int) : Row8 (w.setCell ⟨g, i, none⟩ (.int .u8 x)) q (.slice (some ⟨g, 0, none⟩) n c) (xs.set i x) := by
  have := Kd.R_putn (enc := fun x : Int => Value.int .u8 x) (h1 := fun _ => rfl) h (i : Int) x
  simp only [Int.toNat_natCast] at this
  exact this
/-- A row of bytes whose block is younger than w0. -/
structure Fr8 (w0 w : World) (A : Option Addr) (xs : List Int) : Prop where
  C : C8 w A xs
  own : ∀ a, A = some a → w0.heap.size ≤ a.block ∧ a.block < w.heap.size
  row : ∃ c, Row8 w w0.heap.size (.slice A xs.length c) xs
theorem Fr8.nil (w0 w : World) : Fr8 w0 w none [] := ⟨Kd.C_nil _ _, fun _ h => (by cases h), 0, Row8.nil _ _⟩
theorem Fr8.below {w0 : World} (h : Fr8 w0 w A xs) (hb : Below w.heap.size w w1) : Fr8 w0 w1 A xs := ⟨Kd.C_below h.C hb, fun a ha => ⟨(h.own a ha).1, Nat.lt_of_lt_of_le (h.own a ha).2 hb.size⟩, h.row.imp fun c hr => hr.below hb⟩
theorem Fr8.elder {w0 w00 : World} (h : Fr8 w0 w A xs) (hb : w00.heap.size ≤ w0.heap.size) : Fr8 w00 w A xs := ⟨h.C, fun a ha => ⟨Nat.le_trans hb (h.own a ha).1, (h.own a ha).2⟩, h.row.imp fun c hr => hr.lower hb⟩
theorem C8.upd {G : Nat → Prop} (h : C8 w A xs) (hu : Upd w w1 G) (hd : ∀ a, A = some a → a.block < w.heap.size ∧ ¬ G a.block) : C8 w1 A xs := by
  obtain ⟨h1, h2, h3⟩ := h
  refine ⟨h1, h2, fun hp => ?_⟩
  obtain ⟨ad, hA, hc⟩ := h3 hp
  refine ⟨ad, hA, fun j p hj => ?_⟩
  obtain ⟨c, e1, e2, e3⟩ := hc j p hj
  refine ⟨c, e1, e2, fun i u hi => ?_⟩
  have := hu.block ad.block (hd ad hA).1 (hd ad hA).2
  rw [← e3 i u hi]
  unfold World.cell?
  rw [show (ad.add (j * (Kd.int .u8).sz + i)).block = ad.block by unfold Addr.add; split <;> rfl, this]
theorem C8.take (h : C8 w A xs) {m : Nat} (hm : m ≤ xs.length) : C8 w A (xs.take m) := Kd.C_take h hm
end
section
variable {P : Program} {ops : Array Oper} {o : Oper} {rest : List Oper} {a : Act} {W : World} {Q : Exit → Act → World → Prop} {q : Nat}
theorem app8 (hi5 : (P.info? 5).map (fun i => (i.zero, i.size, i.bytes)) = some (some (.int .u8 0), 1, 1)) (h22 : P.underlying 22 = some (.slice 5)) (hgd : o.guard = none) (s x : Operand) (ho : o.op = .call { callee := .builtin .append, args := #[s, x], argTypes := #[22, 22] }) (v : Value) (xs ys : List Int) (A : Option Addr) (m c : Nat)
    (hs : a.eval s = v) (hx : a.eval x = .slice A m c) (HO : Row8 W q v xs) (HC : Kd.C (Kd.int .u8) W A m ys) (hq : q ≤ W.heap.size) (hl : xs.length + m ≤ 1000000000)
    (h : ∀ A1 c1 w1, Row8 w1 q (.slice A1 (xs ++ ys).length c1) (xs ++ ys) → Below q W w1 → W.grownBy w1 v.ownBlock → wpList P ops Q rest (a.put o.dst (.slice A1 (xs ++ ys).length c1)) w1) : wpList P ops Q (o :: rest) a W := by
  refine Kd.R_append_rows (Kd.int .u8) (Rr := (Kd.int .u8).K W) (w0 := W) q hgd s x 22 5 (.int .u8 0) 1 ho h22 hi5 rfl (by decide) (by omega) v xs ys A m c (fun k => q ≤ k) (fun _ => False) hs hx HO HC (fun _ _ h => h) (fun _ h => h.elim) (fun _ h => Nat.le_trans hq h) (Below.refl _ _) hq (by omega) ?_
  intro v1 w1 hr hb hg _
  obtain ⟨A1, c1, rfl⟩ := Kd.R_slice hr
  exact h A1 c1 w1 hr hb hg
theorem run_make8 (hi5 : (P.info? 5).map (fun i => (i.zero, i.size, i.bytes)) = some (some (.int .u8 0), 1, 1)) (h22 : P.underlying 22 = some (.slice 5)) (W : World) (n c : Nat) (hnc : n ≤ c) (hc : c ≤ 1000000000) :
    ∃ A w1, (Instr.makeSlice 22 (.int .i64 n) (.int .i64 c)).run P W = .ok (.slice A n c) w1 ∧ Row8 w1 W.heap.size (.slice A n c) (List.replicate n 0) ∧ Below W.heap.size W w1 := by
  obtain ⟨i0, hi, hzz⟩ := Option.map_eq_some_iff.1 hi5
  simp only [Prod.mk.injEq] at hzz
  obtain ⟨hz0, hz1, hz2⟩ := hzz
  have hr := run_make (P := P) (w := W) 22 5 i0 _ h22 hi hz0 .i64 .i64 (n : Int) (c : Int) (by omega) (by omega) (by rw [hz2]; omega) (by omega)
  simp only [Int.toNat_natCast, hz1, Nat.mul_one] at hr
  refine ⟨_, _, hr, ?_, below_alloc (Below.refl _ _) _⟩
  have hm : madeCells (Value.int .u8 0).cells c = (nums .u8 (List.replicate c 0)).toArray := by
    apply Array.ext_getElem?
    intro k
    simp only [madeCells, nums, Value.cells]
    by_cases hk : k < c
    · simp [hk, Nat.mod_one]
    · simp [hk]
  rw [hm]
  have h0 : Row8 (W.alloc (.cells (nums .u8 (List.replicate c 0)).toArray 5)) W.heap.size (.slice (some ⟨W.heap.size, 0, none⟩) c c) (List.replicate c 0) := by
    have ho : (W.alloc (.cells (nums .u8 (List.replicate c 0)).toArray 5)).ownsRow W.heap.size 5 1 (.slice (some ⟨W.heap.size, 0, none⟩) c c) c (nums .u8 (List.replicate c 0)) := by
      refine ⟨by simp [nums_length], .inr ⟨W.heap.size, c, (nums .u8 (List.replicate c 0)).toArray, rfl, Nat.le_refl _, heap_alloc_new _ _, Nat.le_refl _, by unfold maxLen; omega, by simp [nums_length], by simp [nums]⟩⟩
    have hl : (List.replicate c (0 : Int)).length = c := by simp
    rw [← hl] at ho
    have := Kd.R_of_own (enc := fun x : Int => Value.int .u8 x) (h1 := fun _ => rfl) (ok := fun k => W.heap.size ≤ k) (xs := List.replicate c (0 : Int)) (v := .slice (some ⟨W.heap.size, 0, none⟩) c c) (by rw [hl] at ho ⊢; exact ho) (fun k hk => by simp only [Value.ownBlock, Option.some.injEq] at hk; omega)
    exact this
  have := h0.take (m := n) (by simpa using hnc)
  rwa [List.take_replicate, Nat.min_eq_left hnc] at this
end
end Go.Proofs.YtmblnflfklmmkaaGreatDoor.Dk
/- A digest under way in memory; take. -/
namespace Go.Proofs.YtmblnflfklmmkaaGreatDoor.Sh
open Go.Proofs.YtmblnflfklmmkaaGreatDoor.Dk
open Go.RowKit Go.Proofs.YtmblnflfklmmkaaGreatDoorW.PrintWords Go.Proofs.YtmblnflfklmmkaaGreatDoorW.PrintLast Go.Proofs.YtmblnflfklmmkaaGreatDoorW.PrintMore
set_option linter.unusedVariables false
set_option linter.unusedSimpArgs false
set_option maxRecDepth 30000

variable {w w0 w1 w2 wr : World} {g : Nat} {n : Int} {r : Option (List Int)} {hv xs ys : List Int}
/-- A digest's cells: its shape, how many bytes, those that wait, the eight words, the other eight. -/
def hC (n : Int) (vr : Value) (hv h6 : List Int) : List Value := narrowA.toList ++ (.int .i64 n :: vr :: (nums .u32 hv ++ nums .u64 h6))
/-- r: what waits, if it is told. -/
structure HAt (w0 w : World) (g : Nat) (n : Int) (r : Option (List Int)) (hv : List Int) : Prop where
  blk : ∃ vr h6, w.heap[g]? = some (.cells (hC n vr hv h6).toArray 120 (0, 0)) ∧ ((∃ A m c, vr = .slice A m c) ∧ ∀ x, r = some x → Row8 w w0.heap.size vr x) ∧ h6.length = 8
  hl : hv.length = 8
  lo : w0.heap.size ≤ g
  b : Below w0.heap.size w0 w
theorem HAt.below (h : HAt w0 w g n r hv) (hb : Below w.heap.size w w1) : HAt w0 w1 g n r hv := by
  obtain ⟨vr, h6, h1, h2, h3⟩ := h.blk
  exact ⟨⟨vr, h6, blk_below h1 hb, ⟨h2.1, fun x hx => (h2.2 x hx).below hb⟩, h3⟩, h.hl, h.lo, h.b.trans (hb.mono h.b.size)⟩
theorem HAt.drew (h : HAt w0 w g n r hv) : HAt w0 w.drew g n r hv := h.below (below_drew (Below.refl _ _))
theorem HAt.rs (h : HAt w0 w g n r hv) : w.rangeAt g 0 narrowA.toList := fun j v hj => by
  obtain ⟨vr, h6, h1, _⟩ := h.blk
  rw [Nat.zero_add, cell_of_row _ _ j _ _ _ h1]
  have := List.getElem?_eq_some_iff.1 hj
  simp only [hC, List.getElem?_toArray]
  rw [List.getElem?_append_left this.1, hj]
theorem hC_mid {vr : Value} {h6 : List Int} {j : Nat} (hl : hv.length = 8) (hj : j < 8) : (hC n vr hv h6)[17 + j]? = (nums .u32 hv)[j]? := by
  simp only [hC]
  rw [List.getElem?_append_right (by simp [narrowA]; omega)]
  have e : 17 + j - narrowA.toList.length = j + 2 := by simp [narrowA]; omega
  rw [e, List.getElem?_cons_succ, List.getElem?_cons_succ, List.getElem?_append_left (by rw [nums_length, hl]; exact hj)]
theorem HAt.rh (h : HAt w0 w g n r hv) : w.rangeAt g 17 (nums .u32 hv) := fun j v hj => by
  obtain ⟨vr, h6, h1, _⟩ := h.blk
  have hlt := (List.getElem?_eq_some_iff.1 hj).1
  rw [nums_length, h.hl] at hlt
  rw [cell_of_row _ _ _ _ _ _ h1, List.getElem?_toArray, hC_mid h.hl hlt, hj]
theorem HAt.cn (h : HAt w0 w g n r hv) : w.cell? ⟨g, 15, none⟩ = some (.int .i64 n) := by
  obtain ⟨vr, h6, h1, _⟩ := h.blk
  rw [cell_of_row _ _ _ _ _ _ h1]; rfl
theorem HAt.c0 (h : HAt w0 w g n r hv) : w.cell? ⟨g, 0, none⟩ = some (.int .i64 4) := by
  obtain ⟨vr, h6, h1, _⟩ := h.blk
  rw [cell_of_row _ _ _ _ _ _ h1]; rfl
theorem HAt.free (h : HAt w0 w g n r hv) (j : Nat) : w.frozen? ⟨g, j, none⟩ = false := by
  obtain ⟨vr, h6, h1, _⟩ := h.blk
  exact free_row h1 j
/-- Another digest's words are laid. -/
theorem hC_len {vr : Value} {h6 : List Int} (hl : hv.length = 8) (h : h6.length = 8) : (hC n vr hv h6).length = 33 := by simp [hC, narrowA, nums_length, hl, h]
theorem hC_set {vr : Value} {h6 us : List Int} (hl : hv.length = 8) (hu : us.length = 8) : (hC n vr hv h6).take 17 ++ nums .u32 us ++ (hC n vr hv h6).drop (17 + (nums .u32 us).length) = hC n vr us h6 := by
  have e : (nums IntKind.u32 us).length = 8 := by rw [nums_length, hu]
  have e2 : (nums IntKind.u32 hv).length = 8 := by rw [nums_length, hl]
  rw [e]
  simp [hC, narrowA, List.drop_append, List.drop_of_length_le, e2]
theorem HAt.setH (h : HAt w0 w g n r hv) {us : List Int} (hu : us.length = 8) : HAt w0 (w.setCells g 17 (nums .u32 us)) g n r us := by
  obtain ⟨vr, h6, h1, h2, h3⟩ := h.blk
  obtain ⟨cur', c1, c2, c3⟩ := setCells_row (nums .u32 us) 17 w _ h1 (by simp [hC_len h.hl h3, nums_length, hu])
  obtain ⟨s1, s2, s3, s4⟩ := setCells_same g (nums .u32 us) 17 w
  have hup : Upd w (w.setCells g 17 (nums .u32 us)) (· = g) := ⟨s1, s2, s3, by rw [s4]; exact Nat.le_refl _, fun k _ hk => setCells_far _ _ k hk⟩
  refine ⟨⟨vr, h6, ?_, ?_, h3⟩, hu, h.lo, ?_⟩
  · rw [c1]
    congr 2
    apply Array.toList_inj.1
    rw [c3]
    exact hC_set h.hl hu
  · exact ⟨h2.1, fun x hx => (h2.2 x hx).type h1 (by decide) hup⟩
  · exact ⟨s1.trans h.b.os, s2.trans h.b.tape, s3.trans h.b.output, by rw [s4]; exact h.b.size, fun k hk => (setCells_far _ _ k (by have := h.lo; omega)).trans (h.b.block k hk)⟩
theorem HAt.there (h : HAt w0 w g n r hv) : w.there g 17 8 := fun j hj => by
  refine ⟨?_, h.free _⟩
  rw [h.rh j _ (by rw [List.getElem?_eq_getElem (by rw [nums_length, h.hl]; exact hj)])]
  rfl
theorem exec_store {P : Program} {ρ : Operand → Value} {o : Oper} {ty : TypeId} {x y : Operand} {q v : Value} {w w1 : World} (ho : o.op = .store ty x y) (hx : ρ x = q) (hy : ρ y = v) (hrun : (Instr.storeAt ty q v).run P w = .ok () w1) : (execOp ρ o).run P w = .ok .skip w1 := by
  subst hx; subst hy
  unfold execOp
  simp [ho, hrun]
/-- A slice that is empty, or bytes of a block beside g. -/
def RowAt (w : World) (g : Nat) (v : Value) (xs : List Int) : Prop := ∃ A c, v = .slice A xs.length c ∧ xs.length ≤ c ∧ (xs = [] ∨ ∃ gs o, A = some ⟨gs, o, none⟩ ∧ gs ≠ g ∧ gs < w.heap.size ∧ Bys w gs o xs)
theorem RowAt.upd {v : Value} (h : RowAt w g v xs) (hu : Upd w w1 (· = g)) : RowAt w1 g v xs := by
  obtain ⟨A, c, e, hc, h⟩ := h
  refine ⟨A, c, e, hc, h.imp_right ?_⟩
  rintro ⟨gs, o, e, hne, hlt, hb⟩
  exact ⟨gs, o, e, hne, Nat.lt_of_lt_of_le hlt hu.size, fun j hj => (cell_block (hu.block gs hlt hne) _).trans (hb j hj)⟩
theorem RowAt.below {v : Value} (h : RowAt w g v xs) (hb : Below w.heap.size w w1) : RowAt w1 g v xs := h.upd (Upd.of_below hb)
theorem setCells_upd (g o : Nat) (vs : List Value) (w : World) : Upd w (w.setCells g o vs) (· = g) := by
  obtain ⟨s1, s2, s3, s4⟩ := setCells_same g vs o w
  exact ⟨s1, s2, s3, by rw [s4]; exact Nat.le_refl _, fun k _ hk => setCells_far _ _ k hk⟩
theorem Bys.upd {gs o : Nat} {b : List Int} (h : Bys w gs o b) (hg : gs < w.heap.size) (hn : gs ≠ g) (hu : Upd w w1 (· = g)) : Bys w1 gs o b := fun j hj => (cell_block (hu.block gs hg hn) _).trans (h j hj)
theorem Bys.take {g o : Nat} {b : List Int} (h : Bys w g o b) (m : Nat) : Bys w g o (b.take m) := fun j hj => by
  rw [List.length_take] at hj
  rw [h j (by omega)]
  simp [List.getD_eq_getElem?_getD, List.getElem?_take, show j < m by omega]
theorem Bys.drop {g o : Nat} {b : List Int} (h : Bys w g o b) (m : Nat) : Bys w g (o + m) (b.drop m) := fun j hj => by
  rw [List.length_drop] at hj
  rw [Nat.add_assoc, h (m + j) (by omega)]
  simp [List.getD_eq_getElem?_getD]
theorem rowat_drop {gs o c : Nat} {ys : List Int} (h : Bys w gs o ys) (hn : gs ≠ g) (hl : gs < w.heap.size) (hd : (ys.drop 64).length = ys.length - 64) (hc : ys.length ≤ c) : ys.drop 64 = [] ∨ ∃ gs' o', (if c = 64 then some (⟨gs, o, none⟩ : Addr) else some ⟨gs, o + 64, none⟩) = some ⟨gs', o', none⟩ ∧ gs' ≠ g ∧ gs' < w.heap.size ∧ Bys w gs' o' (ys.drop 64) := by
  by_cases h64 : c = 64
  · exact .inl (List.eq_nil_of_length_eq_zero (by omega))
  · exact .inr ⟨gs, o + 64, by rw [if_neg h64], hn, hl, h.drop 64⟩
/-- Whole blocks go into the words; the rest is left. -/
def takeF (hv xs : List Int) : List Int × List Int := if 64 ≤ xs.length then takeF (mixM hv (xs.take 64)) (xs.drop 64) else (hv, xs)
termination_by xs.length
decreasing_by simp; omega
theorem takeF_ge {hv xs : List Int} (h : 64 ≤ xs.length) : takeF hv xs = takeF (mixM hv (xs.take 64)) (xs.drop 64) := by
  rw [takeF, if_pos h]
theorem takeF_lt {hv xs : List Int} (h : xs.length < 64) : takeF hv xs = (hv, xs) := by
  rw [takeF, if_neg (by omega)]
theorem block_callsA (w : World) : Calls Tryz.prog 94 #[.agg narrowA] w fun e w' => e = .returned (.int .i64 64) ∧ Below w.heap.size w w' := block_calls w
def TakePost (w0 w w' : World) (g : Nat) (n : Int) (r : Option (List Int)) (hv xs : List Int) (e : Ending) : Prop := ∃ v, e = .returned v ∧ RowAt w' g v (takeF hv xs).2 ∧ HAt w0 w' g n r (takeF hv xs).1 ∧ Upd w w' (· = g)

set_option maxHeartbeats 16000000 in
theorem take_calls (hg0 : Glob w0) (v : Value) (h : HAt w0 w g n r hv) (hr : RowAt w g v xs) (hx : xs.length ≤ 1000000000) : Calls Tryz.prog 79 #[.pointer (some ⟨g, 0, none⟩), v] w fun e w' => TakePost w0 w w' g n r hv xs e := by
  have hg := Aside0.mk hg0
  have HH := Aside0.mk h
  have HRR := Aside0.mk hr
  have LS := Aside0.mk (fun (W : World) (hv : List Int) (h : HAt w0 W g n r hv) => show (Instr.loadAt 113 (.pointer (some ⟨g, 0, none⟩))).run Tryz.prog W = .ok (.agg narrowA) W from run_loadAt_mid W g 0 113 narrowA.toList _ h.rs Tryz.underlying113 rfl (by kernel_rfl))
  obtain ⟨A, c, rfl, _⟩ := hr
  clear hg0 h
  go_enter Tryz.func79, Tryz.ntmps79
  go_wp2
  go_loopw [1] (fun v1 w' => ∃ ys hv', Aside0 (RowAt w' g v1 ys) ∧ Aside0 (HAt w0 w' g n r hv') ∧ Aside0 (takeF hv' ys = takeF hv xs) ∧ ys.length ≤ xs.length ∧ Aside0 (Upd w w' (· = g)) ∧ ∃ A c, v1 = .slice A ys.length c) (fun v1 _ => (match v1 with | .slice _ m _ => m | _ => 0))
  case atStart => exact ⟨xs, hv, HRR, HH, ⟨rfl⟩, Nat.le_refl _, ⟨Upd.refl _ _⟩, A, c, rfl⟩
  case round =>
    clear HRR HH
    obtain ⟨ys, hv', HR, HA, HE, hyl, HU, A, c, rfl⟩ := hrel
    have HLS := Aside0.mk (LS.out _ _ HA.out)
    by_cases h64 : 64 ≤ ys.length
    · have hq : decide ((64 : Int) ≤ (ys.length : Int)) = true := decide_eq_true (by omega)
      obtain ⟨A', c', e, hyc, hor⟩ := HR.out
      injection e with e1 e2 e3
      subst e1; subst e3
      rcases hor with hz | ⟨gs, o, rfl, hne, hgl, hbs⟩
      · rw [hz] at h64; exact absurd h64 (by decide)
      have HN := Aside0.mk hne
      have HG := Aside0.mk hgl
      have HB := Aside0.mk hbs
      have HL := Aside0.mk HA.out.hl
      have HT := Aside0.mk (show (ys.take 64).length = 64 by rw [List.length_take]; omega)
      have HC := Aside0.mk (show 64 ≤ c by omega)
      have HYC := Aside0.mk hyc
      have hcb : ((64 : Int) ≤ (c : Int)) = True := eq_true (by omega)
      have HE := Aside0.mk ((takeF_ge h64).symm.trans HE.out)
      have HLD := Aside0.mk (show (ys.drop 64).length = ys.length - 64 from List.length_drop)
      clear e2 hne hgl hbs HR
      go_wp2_with (first | ((with_reducible refine load_at (ty := 113) (.tmp 9) ?_ ?_ HLS.out ?_ ?_); exact rfl; exact rfl; exact rfl) | (go_at_call 94; (with_reducible refine (block_callsA _).mono ?_); rintro e w1 ⟨rfl, hb⟩; have HA := Aside0.mk (HA.out.below hb); have HU := Aside0.mk (HU.out.trans (Upd.of_below (F := (· = g)) hb) (fun _ h => .inl h)); have HB := Aside0.mk (HB.out.below HG.out hb); have HG := Aside0.mk (Nat.lt_of_lt_of_le HG.out hb.size); have hc0 := HA.out.c0; clear hb))
      have HA1 := Aside0.mk HA.out.drew
      have HB := Aside0.mk (show Bys w1.drew gs o ys from HB.out)
      have HG := Aside0.mk (show gs < w1.drew.heap.size from HG.out)
      have HU := Aside0.mk (HU.out.drew)
      repeat (first | go_step | go_guarded | go_upon)
      refine start_ (n := 20) (S := fun w' => w'.rangeAt g 0 narrowA.toList ∧ w'.rangeAt g 17 (nums .u32 hv')) (ds := [19]) (bz 20 0) (by kernel_rfl) rfl rfl ⟨HA1.out.rs, HA1.out.rh⟩ (fun hHeld => ?_)
      refine pz 0 (some 19) (bz 20 1) ?_
      refine pz 1 (some 20) (bz 20 3) ?_
      refine pz 2 (some 21) (bz 20 7) ?_
      refine pz 3 (some 22) (bz 20 15) ?_
      refine pz 5 (some 24) (bz 20 47) ?_
      refine pz 6 (some 25) (bz 20 111) ?_
      refine pz 7 (some 26) (bz 20 239) ?_
      refine pz 9 (some 28) (bz 20 751) ?_
      refine pz 10 (some 29) (bz 20 1775) ?_
      refine pz 11 (some 30) (bz 20 3823) ?_
      refine pz 12 (some 31) (bz 20 7919) ?_
      refine take_ (i := 4) (N := some 23) (v := .agg narrowA) (a' := ?_) (bz 20 7935) rfl rfl (by kernel_rfl) (fun _ _ _ h => h) (yieldsIf_load_mid (by rfl) 113 (.tmp 22) rfl g 0 (by rfl) narrowA.toList _ (fun w' h => h.1) Tryz.underlying113 rfl (by kernel_rfl)) hHeld ?_ ?_
      rotate_left
      · simp only [Act.put, List.setIfInBounds_toArray, List.set_cons_zero, List.set_cons_succ, i64_w, i32_w]
        rfl
      refine take_ (i := 8) (N := some 27) (v := .agg (nums .u32 hv').toArray) (a' := ?_) (bz 20 8191) rfl rfl (by kernel_rfl) (fun _ _ _ h => h) (yieldsIf_load_mid (by rfl) 117 (.tmp 26) rfl g 17 (by rfl) (nums .u32 hv') _ (fun w' h => h.2) Tryz.underlying117 rfl (by rw [nums_length, HL.out]; kernel_rfl)) hHeld ?_ ?_
      rotate_left
      · simp only [Act.put, List.setIfInBounds_toArray, List.set_cons_zero, List.set_cons_succ, i64_w, i32_w]
        rfl
      refine take_ (i := 13) (N := some 32) (v := .agg narrowA) (a' := ?_) (bz 20 16383) rfl rfl (by kernel_rfl) (fun _ _ _ h => h) (yieldsIf_load_mid (by rfl) 113 (.tmp 31) rfl g 0 (by rfl) narrowA.toList _ (fun w' h => h.1) Tryz.underlying113 rfl (by kernel_rfl)) hHeld ?_ ?_
      rotate_left
      · simp only [Act.put, List.setIfInBounds_toArray, List.set_cons_zero, List.set_cons_succ, i64_w, i32_w]
        rfl
      refine one_ (i := 14) (N := some 33) (bz 20 32767) rfl rfl (by kernel_rfl) (by decide) (fun K hK => ?_)
      refine goes_ Tryz.func94 (by kernel_rfl) rfl #[.agg narrowA] (by rfl) rfl rfl (by simp only [List.map_toArray, List.map_cons, List.map_nil]; rfl) ?_
      with_reducible refine (block_callsA _).mono ?_
      rintro e w2 ⟨rfl, hb⟩
      refine ⟨_, rfl, ?_⟩
      have HA2 := Aside0.mk (HA1.out.below hb)
      have HB2 := Aside0.mk (HB.out.below HG.out hb)
      have HW2 := Aside0.mk hb.size
      have HU2 := Aside0.mk (HU.out.trans (Upd.of_below (F := (· = g)) hb) (fun _ h => .inl h))
      clear hb
      refine hK.out _ _ ⟨HA2.out.rs, HA2.out.rh⟩ (fun hHeld => ?_)
      clear hK K
      refine norm_ (a' := ?_) ?_ ?_
      rotate_left
      · show Act.put _ (some 33) _ = _
        simp only [Act.put, List.setIfInBounds_toArray, List.set_cons_zero, List.set_cons_succ, i64_w, i32_w]
        rfl
      refine pz 15 (some 34) (bz 20 65535) ?_
      refine one_ (i := 16) (N := some 35) (bz 20 131071) rfl rfl (by kernel_rfl) (by decide) (fun K hK => ?_)
      refine goes_ Tryz.func95 (by kernel_rfl) rfl #[.agg narrowA, .agg (nums .u32 hv').toArray, .slice (some ⟨gs, o, none⟩) 64 c] (by rfl) rfl rfl (by simp only [List.map_toArray, List.map_cons, List.map_nil]; rfl) ?_
      with_reducible refine (mix_calls (hg.out.below HA2.out.b) gs o c (ys.take 64) hv' HT.out HL.out HC.out (HB2.out.take 64) (Nat.lt_of_lt_of_le HG.out HW2.out)).mono ?_
      rintro e w3 ⟨rfl, hb⟩
      refine ⟨_, rfl, ?_⟩
      have HA3 := Aside0.mk (HA2.out.below hb)
      have HU3 := Aside0.mk (HU2.out.trans (Upd.of_below (F := (· = g)) hb) (fun _ h => .inl h))
      have HST := Aside0.mk (show (Instr.storeAt 117 (.pointer (some ⟨g, 17, none⟩)) (.agg (nums .u32 (mixM hv' (ys.take 64))).toArray)).run Tryz.prog w3 = .ok () (w3.setCells g 17 (nums .u32 (mixM hv' (ys.take 64)))) from run_storeAt_mid (P := Tryz.prog) w3 g 17 117 (nums .u32 (mixM hv' (ys.take 64))).toArray (by rw [List.size_toArray, nums_length, mixM_length HL.out]; exact HA3.out.there) (info124 _ (mixM_length HL.out)) (u32_one _))
      have HB3 := Aside0.mk (HB2.out.below (Nat.lt_of_lt_of_le HG.out HW2.out) hb)
      have HW3 := Aside0.mk (Nat.le_trans HW2.out hb.size)
      clear hb
      refine hK.out _ _ ⟨HA3.out.rs, HA3.out.rh⟩ (fun hHeld => ?_)
      clear hK K
      refine norm_ (a' := ?_) ?_ ?_
      rotate_left
      · show Act.put _ (some 35) _ = _
        simp only [Act.put, List.setIfInBounds_toArray, List.set_cons_zero, List.set_cons_succ, i64_w, i32_w]
        rfl
      refine pz 17 (some 36) (bz 20 262143) ?_
      refine pz 18 (some 37) (bz 20 524287) ?_
      refine last_ (i := 19) (N := none) (bz 20 1048575) rfl rfl (by kernel_rfl) (by decide) (fun K hK => ?_)
      refine skip_ (by rfl) rfl (exec_store (ty := 117) (x := .tmp 37) (y := .tmp 35) rfl (by rfl) (by rfl) HST.out) ?_
      refine hK.out _ _ ?_
      clear hK K
      refine done_ (by kernel_rfl) ?_
      clear hHeld
      have HA4 := Aside0.mk (HA3.out.setH (mixM_length HL.out (b := ys.take 64)))
      have HU4 := Aside0.mk (HU3.out.trans (setCells_upd g 17 (nums .u32 (mixM hv' (ys.take 64))) w3) (fun _ h => .inl h))
      have HB4 := Aside0.mk (show Bys (w3.setCells g 17 (nums .u32 (mixM hv' (ys.take 64)))) gs o ys from HB3.out.upd (Nat.lt_of_lt_of_le HG.out HW3.out) HN.out (setCells_upd g 17 _ w3))
      have HG4 := Aside0.mk (show gs < (w3.setCells g 17 (nums .u32 (mixM hv' (ys.take 64)))).heap.size from Nat.lt_of_lt_of_le (Nat.lt_of_lt_of_le HG.out HW3.out) (setCells_upd g 17 _ w3).size)
      generalize w3.setCells g 17 (nums .u32 (mixM hv' (ys.take 64))) = w4 at HA4 HU4 HB4 HG4 ⊢
      have HLS := Aside0.mk (LS.out _ _ HA4.out)
      clear hc0
      go_wp2_with (first | ((with_reducible refine load_at (ty := 113) (.tmp 60) ?_ ?_ HLS.out ?_ ?_); exact rfl; exact rfl; exact rfl) | (go_at_call 94; (with_reducible refine (block_callsA _).mono ?_); rintro e w5 ⟨rfl, hb⟩; have HA5 := Aside0.mk (HA4.out.below hb); have HU5 := Aside0.mk (HU4.out.trans (Upd.of_below (F := (· = g)) hb) (fun _ h => .inl h)); have HB5 := Aside0.mk (HB4.out.below HG4.out hb); have HG5 := Aside0.mk (Nat.lt_of_lt_of_le HG4.out hb.size); clear hb))
      go_roundw
      case rel => exact ⟨ys.drop 64, mixM hv' (ys.take 64), ⟨_, c - 64, by rw [HLD.out], by rw [HLD.out]; omega, rowat_drop HB5.out HN.out HG5.out HLD.out hyc⟩, HA5, HE, by rw [HLD.out]; omega, HU5, _, _, by rw [HLD.out]⟩
      case measure => simp; omega
    · have hq : decide ((64 : Int) ≤ (ys.length : Int)) = false := decide_eq_false (by omega)
      go_wp2_with (first | ((with_reducible refine load_at (ty := 113) (.tmp 9) ?_ ?_ HLS.out ?_ ?_); exact rfl; exact rfl; exact rfl) | (go_at_call 94; (with_reducible refine (block_callsA _).mono ?_); rintro e w1 ⟨rfl, hb⟩; have HA := Aside0.mk (HA.out.below hb); have HU := Aside0.mk (HU.out.trans (Upd.of_below (F := (· = g)) hb) (fun _ h => .inl h)); have HR := Aside0.mk (HR.out.below hb); clear hb))
      go_ret
      have HE2 := HE.out
      rw [takeF_lt (by omega)] at HE2
      exact ⟨_, rfl, by rw [← HE2]; exact HR.out, by rw [← HE2]; exact HA.out, HU.out⟩

end Go.Proofs.YtmblnflfklmmkaaGreatDoor.Sh
/- Contracts of package sha2: tell. -/
namespace Go.Proofs.YtmblnflfklmmkaaGreatDoor.Sh
open Go.Proofs.YtmblnflfklmmkaaGreatDoor.Dk
open Go.RowKit Go.Proofs.YtmblnflfklmmkaaGreatDoorW.PrintWords Go.Proofs.YtmblnflfklmmkaaGreatDoorW.PrintLast Go.Proofs.YtmblnflfklmmkaaGreatDoorW.PrintMore
set_option linter.unusedVariables false
set_option linter.unusedSimpArgs false
set_option maxRecDepth 30000

variable {w w0 w1 w2 wr : World} {g : Nat} {n : Int} {hv xs ys : List Int}
def tell1 (x : Int) : List Int := [x / 16777216 % 256, x / 65536 % 256, x / 256 % 256, x % 256]
def tellM (hv : List Int) : List Int := hv.flatMap tell1
structure Tl (w w' : World) (hv : List Int) (v : Value) (xs : List Int) : Prop where
  s : w'.heap[w.heap.size]? = some (.cells narrowA 113 (0, 0))
  r : Row8 w' (w.heap.size + 1 + 1) v xs
  b : Below w.heap.size w w'
  z : w.heap.size + 1 + 1 ≤ w'.heap.size
theorem tl_app {v v1 : Value} {ys : List Int} {o : Obj} (h : Tl w w1 hv v xs) (hr : Row8 w2 (w.heap.size + 1 + 1) v1 ys) (hb : Below (w.heap.size + 1 + 1) (w1.alloc o) w2) : Tl w w2 hv v1 ys := by
  have e : Below (w.heap.size + 1 + 1) w1 w2 := Below.trans ((below_alloc (Below.refl _ w1) o).mono h.z) hb
  exact ⟨(e.block _ (by omega)).trans h.s, hr, h.b.trans (e.mono (by omega)), Nat.le_trans h.z e.size⟩
set_option maxHeartbeats 16000000 in
theorem tell_calls (hv : List Int) (h8 : hv.length = 8) : Calls Tryz.prog 82 #[.agg narrowA, .agg (nums .u32 hv).toArray] w fun e w' => ∃ v, e = .returned v ∧ Row8 w' w.heap.size v (tellM hv) ∧ Below w.heap.size w w' := by
  have H8 := Aside0.mk h8
  have HB0 := Aside0.mk (show Below w.heap.size w ((w.alloc (.cells narrowA 113)).alloc (.cells (nums .u32 hv).toArray 117)) from below_alloc (below_alloc (Below.refl _ _) _) _)
  have HK0 := Aside0.mk (show ((w.alloc (.cells narrowA 113)).alloc (.cells (nums .u32 hv).toArray 117)).heap[w.heap.size]? = some (.cells narrowA 113 (0, 0)) from blk_below (heap_alloc_new w _) (below_alloc (Below.refl _ _) _))
  have HK1 := Aside0.mk (nth2_1 w (.cells narrowA 113) (.cells (nums .u32 hv).toArray 117))
  have hc0 := cellB3 HK0.out 0 (.int .i64 4) rfl
  clear h8
  obtain ⟨A2, w2, hmk, hr2, hb2⟩ := run_make8 (P := Tryz.prog) info5 Tryz.underlying22 ((w.alloc (.cells narrowA 113)).alloc (.cells (nums .u32 hv).toArray 117)) 0 32 (by decide) (by decide)
  have HMK := Aside0.mk (show (Instr.makeSlice 22 (.int .i64 0) (.int .i64 32)).run Tryz.prog _ = _ from hmk)
  have hsz : ((w.alloc (.cells narrowA 113)).alloc (.cells (nums .u32 hv).toArray 117)).heap.size = w.heap.size + 1 + 1 := by simp [World.size_alloc]
  have HK0 := Aside0.mk (blk_below HK0.out hb2)
  have HK1 := Aside0.mk (blk_below HK1.out hb2)
  have HT := Aside0.mk (show Tl w w2 hv (.slice A2 0 32) [] from ⟨HK0.out, by have := hr2; rw [hsz] at this; exact this, HB0.out.trans (hb2.mono HB0.out.size), by have := hb2.size; omega⟩)
  have HL := Aside0.mk (run_loadAt_cells (P := Tryz.prog) (w := w2) 117 Tryz.underlying117 rfl (w.heap.size + 1) 0 (nums .u32 hv) (by rw [nums_length, H8.out]; kernel_rfl) (fun j u hu => by rw [Nat.zero_add, cell_of_row _ _ j _ _ _ HK1.out]; simpa using hu))
  clear hmk hr2 hb2 hsz HK0 HK1 HB0
  go_enter Tryz.func82, Tryz.ntmps82
  go_wp2_with (first | ((with_reducible refine make_at (t := 22) (x := .const (.int .i64 0)) (y := .tmp 11) ?_ ?_ HMK.out ?_ ?_ ?_); exact rfl; exact rfl; exact rfl; exact rfl) | ((with_reducible refine load_at (ty := 117) (.tmp 3) ?_ ?_ HL.out ?_ ?_); exact rfl; exact rfl; exact rfl))
  go_loopw [5, 7, 8, 14] (fun v5 v7 v8 v14 w' => ∃ (i : Nat) (A : Option Addr) (c : Nat), v14 = .int .i64 i ∧ i ≤ 8 ∧ v5 = .slice A ((hv.take i).flatMap tell1).length c ∧ Aside0 (Tl w w' hv v5 ((hv.take i).flatMap tell1))) (fun v5 v7 v8 v14 _ => 8 - (intOf v14).toNat)
  case atStart => exact ⟨0, A2, 32, rfl, Nat.zero_le _, rfl, HT⟩
  case round =>
    clear HT hc0
    obtain ⟨i, A, c, rfl, hi, rfl, HT⟩ := hrel
    by_cases hlt : i < 8
    · have hq : decide ((i : Int) < 8) = true := decide_eq_true (by omega)
      have hc0 := cellB3 HT.out.s 0 (.int .i64 4) rfl
      obtain ⟨x, hx⟩ : ∃ x, hv.getD i 0 = x := ⟨_, rfl⟩
      have HIX := Aside0.mk (run_index_row (P := Tryz.prog) wr 117 116 .u32 8 (nums .u32 hv).toArray i (.int .u32 x) Tryz.underlying117 Tryz.underlying116 hlt (by rw [nums_getD (by rw [H8.out]; exact hlt), hx]) (by kernel_rfl))
      have HN := Aside0.mk (show (hv.take (i + 1)).flatMap tell1 = (hv.take i).flatMap tell1 ++ tell1 x by
        rw [← hx, List.take_succ_eq_append_getElem (by rw [H8.out]; exact hlt), List.flatMap_append]
        simp [List.getD_eq_getElem?_getD, List.getElem?_eq_getElem (show i < hv.length by rw [H8.out]; exact hlt)])
      have HPL := Aside0.mk (show ((hv.take i).flatMap tell1).length ≤ 28 from by
        have : ∀ l : List Int, (l.flatMap tell1).length = 4 * l.length := by intro l; induction l with | nil => rfl | cons a l ih => rw [List.flatMap_cons, List.length_append, ih]; simp [tell1]; omega
        rw [this, List.length_take]; omega)
      obtain ⟨pre, hpre⟩ : ∃ pre, (hv.take i).flatMap tell1 = pre := ⟨_, rfl⟩
      rw [hpre] at HT HN HPL ⊢
      clear hx hpre
      go_wp2_with (first | ((with_reducible refine index_at (t := 117) (x := .tmp 13) (y := .tmp 14) ?_ ?_ HIX.out ?_ ?_ ?_); exact rfl; exact rfl; exact rfl; exact rfl))
      clear hc0 hq
      go_loopw [5, 8] (fun v5 v8 w' => ∃ (j : Nat) (A : Option Addr) (c : Nat), v8 = .int .i64 (3 - (j : Int)) ∧ j ≤ 4 ∧ v5 = .slice A (pre ++ (tell1 x).take j).length c ∧ Aside0 (Tl w w' hv v5 (pre ++ (tell1 x).take j))) (fun v5 v8 _ => (4 + intOf v8).toNat)
      case atStart => exact ⟨0, A, c, rfl, Nat.zero_le _, by simp, by simpa using HT⟩
      case round =>
        clear HT
        obtain ⟨j, A, c, rfl, hj, rfl, HT⟩ := hrel
        obtain rfl | rfl | rfl | rfl | rfl : j = 0 ∨ j = 1 ∨ j = 2 ∨ j = 3 ∨ j = 4 := by omega
        · have HC := Aside0.mk (C_block (x := [x / 16777216 % 256]) (heap_alloc_new wr (.cells (nums .u8 [x / 16777216 % 256]).toArray 5)) (by simp))
          have HR := Aside0.mk (HT.out.r.below (below_alloc (Below.refl wr.heap.size wr) (.cells (nums .u8 [x / 16777216 % 256]).toArray 5)))
          have HZ := HT.out.z
          go_wp2_with (first | ((with_reducible refine gate_builtin (b := .append) (xs := #[.tmp 24, .tmp 30]) rfl ?_); at_builtin; refine app8 (q := (w.heap.size + 1 + 1)) info5 Tryz.underlying22 rfl (.tmp 24) (.tmp 30) rfl _ _ _ _ _ _ rfl rfl HR.out HC.out ?aQ ?aL ?_; (case aQ => simp [World.size_alloc]; omega); (case aL => simp [tell1]; have := HPL.out; omega); intro A1 c1 w1 hr1 hb1 hg1; have HT1 := Aside0.mk (tl_app HT.out hr1 hb1); clear hr1 hb1 hg1))
          go_roundw
          case rel => exact ⟨1, A1, c1, rfl, by decide, by simp [tell1], ⟨by simpa [tell1] using HT1.out⟩⟩
          case measure => simp [intOf]
        · have HC := Aside0.mk (C_block (x := [x / 65536 % 256]) (heap_alloc_new wr (.cells (nums .u8 [x / 65536 % 256]).toArray 5)) (by simp))
          have HR := Aside0.mk (HT.out.r.below (below_alloc (Below.refl wr.heap.size wr) (.cells (nums .u8 [x / 65536 % 256]).toArray 5)))
          have HZ := HT.out.z
          go_wp2_with (first | ((with_reducible refine gate_builtin (b := .append) (xs := #[.tmp 24, .tmp 30]) rfl ?_); at_builtin; refine app8 (q := (w.heap.size + 1 + 1)) info5 Tryz.underlying22 rfl (.tmp 24) (.tmp 30) rfl _ _ _ _ _ _ rfl rfl HR.out HC.out ?aQ ?aL ?_; (case aQ => simp [World.size_alloc]; omega); (case aL => simp [tell1]; have := HPL.out; omega); intro A1 c1 w1 hr1 hb1 hg1; have HT1 := Aside0.mk (tl_app HT.out hr1 hb1); clear hr1 hb1 hg1))
          go_roundw
          case rel => exact ⟨2, A1, c1, rfl, by decide, by simp [tell1], ⟨by simpa [tell1] using HT1.out⟩⟩
          case measure => simp [intOf]
        · have HC := Aside0.mk (C_block (x := [x / 256 % 256]) (heap_alloc_new wr (.cells (nums .u8 [x / 256 % 256]).toArray 5)) (by simp))
          have HR := Aside0.mk (HT.out.r.below (below_alloc (Below.refl wr.heap.size wr) (.cells (nums .u8 [x / 256 % 256]).toArray 5)))
          have HZ := HT.out.z
          go_wp2_with (first | ((with_reducible refine gate_builtin (b := .append) (xs := #[.tmp 24, .tmp 30]) rfl ?_); at_builtin; refine app8 (q := (w.heap.size + 1 + 1)) info5 Tryz.underlying22 rfl (.tmp 24) (.tmp 30) rfl _ _ _ _ _ _ rfl rfl HR.out HC.out ?aQ ?aL ?_; (case aQ => simp [World.size_alloc]; omega); (case aL => simp [tell1]; have := HPL.out; omega); intro A1 c1 w1 hr1 hb1 hg1; have HT1 := Aside0.mk (tl_app HT.out hr1 hb1); clear hr1 hb1 hg1))
          go_roundw
          case rel => exact ⟨3, A1, c1, rfl, by decide, by simp [tell1], ⟨by simpa [tell1] using HT1.out⟩⟩
          case measure => simp [intOf]
        · have HC := Aside0.mk (C_block (x := [x % 256]) (heap_alloc_new wr (.cells (nums .u8 [x % 256]).toArray 5)) (by simp))
          have HR := Aside0.mk (HT.out.r.below (below_alloc (Below.refl wr.heap.size wr) (.cells (nums .u8 [x % 256]).toArray 5)))
          have HZ := HT.out.z
          go_wp2_with (first | ((with_reducible refine gate_builtin (b := .append) (xs := #[.tmp 24, .tmp 30]) rfl ?_); at_builtin; refine app8 (q := (w.heap.size + 1 + 1)) info5 Tryz.underlying22 rfl (.tmp 24) (.tmp 30) rfl _ _ _ _ _ _ rfl rfl HR.out HC.out ?aQ ?aL ?_; (case aQ => simp [World.size_alloc]; omega); (case aL => simp [tell1]; have := HPL.out; omega); intro A1 c1 w1 hr1 hb1 hg1; have HT1 := Aside0.mk (tl_app HT.out hr1 hb1); clear hr1 hb1 hg1))
          go_roundw
          case rel => exact ⟨4, A1, c1, rfl, by decide, by simp [tell1], ⟨by simpa [tell1] using HT1.out⟩⟩
          case measure => simp [intOf]
        · go_wp2
          go_roundw
          case rel => exact ⟨i + 1, A, c, by go_num, by omega, by rw [HN.out]; rfl, by rw [HN.out]; exact HT⟩
          case measure => simp [intOf]; omega
    · obtain rfl : i = 8 := by omega
      have hq : decide ((8 : Int) < 8) = false := rfl
      have hp : (hv.take 8) = hv := List.take_of_length_le (by rw [H8.out]; decide)
      rw [hp] at HT ⊢
      go_wp2
      go_ret
      exact ⟨_, rfl, by have h := HT.out.r; rw [tellM]; exact h.lower (by omega), HT.out.b⟩

end Go.Proofs.YtmblnflfklmmkaaGreatDoor.Sh
/- Contracts of package sha2: Pad. -/
namespace Go.Proofs.YtmblnflfklmmkaaGreatDoor.Sh
open Go.Proofs.YtmblnflfklmmkaaGreatDoor.Dk
open Go.RowKit Go.Proofs.YtmblnflfklmmkaaGreatDoorW.PrintWords Go.Proofs.YtmblnflfklmmkaaGreatDoorW.PrintLast Go.Proofs.YtmblnflfklmmkaaGreatDoorW.PrintMore
set_option linter.unusedVariables false
set_option linter.unusedSimpArgs false
set_option maxRecDepth 30000

variable {w w0 w1 w2 wr : World} {g : Nat} {hv xs ys : List Int}
theorem of_callsA (w : World) : Calls Tryz.prog 77 #[.int .i64 256] w fun e w' => e = .returned (.tuple #[.agg narrowA, .bool true]) ∧ Below w.heap.size w w' := of_calls w
/-- How long the padding of n bytes is. -/
def padN (n : Nat) : Nat := 9 + (64 - (n + 9) % 64) % 64
def padB (n i : Nat) : Int := 8 * (n : Int) / 2 ^ (8 * i) % 256
def padR (n : Nat) : Nat → List Int
  | 0 => (List.replicate (padN n) (0 : Int)).set 0 128
  | i + 1 => (padR n i).set (padN n - 1 - i) (padB n i)
theorem padR_length (n : Nat) : ∀ i, (padR n i).length = padN n
  | 0 => by simp [padR]
  | i + 1 => by rw [padR, List.length_set]; exact padR_length n i
def padM (n : Nat) : List Int := padR n 8
structure Pd (w w' : World) (s : Nat) : Prop where
  bs : w'.heap[s]? = some (.cells narrowA 113 (0, 0))
  b : Below w.heap.size w w'
  lo : w.heap.size ≤ s
theorem Pd.below {s : Nat} (h : Pd w w1 s) (hb : Below w1.heap.size w1 w2) : Pd w w2 s := ⟨blk_below h.bs hb, h.b.trans (hb.mono h.b.size), h.lo⟩
theorem Pd.rs {s : Nat} (h : Pd w w1 s) : w1.rangeAt s 0 narrowA.toList := fun j v hj => by
  rw [Nat.zero_add, cell_of_row _ _ j _ _ _ h.bs]
  simpa using hj

set_option maxHeartbeats 16000000 in
theorem pad_calls (n : Nat) (hn : n ≤ 1048576) : Calls Tryz.prog 81 #[.int .i64 n, .int .i64 256] w fun e w' => ∃ v, e = .returned (.tuple #[v, .int .i64 0]) ∧ Row8 w' w.heap.size v (padM n) ∧ Below w.heap.size w w' := by
  have hq1 : decide ((n : Int) < 0) = false := decide_eq_false (by omega)
  have hq2 : decide ((1048576 : Int) < (n : Int)) = false := decide_eq_false (by omega)
  have LS := Aside0.mk (fun (W : World) (s : Nat) (h : Pd w W s) => show (Instr.loadAt 113 (.pointer (some ⟨s, 0, none⟩))).run Tryz.prog W = .ok (.agg narrowA) W from run_loadAt_mid W s 0 113 narrowA.toList _ h.rs Tryz.underlying113 rfl (by kernel_rfl))
  have HST := Aside0.mk (fun w1 : World => run_storeAt_new (P := Tryz.prog) w1 113 zeros15 narrowA info120 (by simp [zeros15_size, narrowA]) narrowA_one)
  go_enter Tryz.func81, Tryz.ntmps81
  go_wp2_with (first | ((with_reducible refine alloc_at (e := 113) ?_ ?_ (run_alloc120 _) ?_); exact rfl; exact rfl) | (go_at_call 77; (with_reducible refine (of_callsA _).mono ?_); rintro e w1 ⟨rfl, hb1⟩; have HP2 := Aside0.mk (show Pd w (w1.alloc (.cells narrowA 113)) w1.heap.size from ⟨heap_alloc_new w1 _, hb1.trans ((below_alloc (Below.refl _ _) _).mono hb1.size), hb1.size⟩); clear hb1) | ((with_reducible refine store_at (ty := 113) (.tmp 6) (.tmp 16) ?_ ?_ ?_ (HST.out _) ?_ ?_ ?_); exact rfl; exact rfl; exact rfl; exact rfl; exact rfl; generalize w1.alloc (.cells narrowA 113) = w2 at HP2 ⊢; generalize w1.heap.size = s at HP2 ⊢; have hc0 := cellB3 HP2.out.bs 0 (.int .i64 4) rfl; have HLS := Aside0.mk (LS.out _ _ HP2.out)) | ((with_reducible refine load_at (ty := 113) (.tmp 6) ?_ ?_ HLS.out ?_ ?_); exact rfl; exact rfl; exact rfl) | (go_at_call 94; (with_reducible refine (block_callsA _).mono ?_); rintro e w3 ⟨rfl, hb3⟩; have HP3 := Aside0.mk (HP2.out.below hb3); clear hb3))
  obtain ⟨r, hr⟩ : ∃ r : Nat, (n + 9) % 64 = r := ⟨_, rfl⟩
  have hri : ((n : Int) + 9) % 64 = (r : Int) := by omega
  rw [hri]
  obtain ⟨z, hz⟩ : ∃ z : Nat, z = 64 - r := ⟨_, rfl⟩
  obtain ⟨m, hm⟩ : ∃ m : Nat, m = z % 64 := ⟨_, rfl⟩
  obtain ⟨L, hL⟩ : ∃ L : Nat, L = 9 + m := ⟨_, rfl⟩
  have hL9 : 9 ≤ L := by omega
  have hL72 : L ≤ 72 := by omega
  have HLN := Aside0.mk (show padN n = L by rw [padN, hr, hL, hm, hz])
  have hz1 : wrap64 (64 - (r : Int)) = z := by unfold wrap64; omega
  have hz1' : IntKind.i64.wrap (64 - (r : Int)) = z := (i64_w _).trans hz1
  have hz2 : Int.tmod (z : Int) 64 = m := by rw [Int.tmod_eq_emod_of_nonneg (by omega)]; omega
  have hz3 : wrap64 (9 + (m : Int)) = L := by unfold wrap64; omega
  have hz3' : IntKind.i64.wrap (9 + (m : Int)) = L := (i64_w _).trans hz3
  have HP4 := Aside0.mk (HP3.out.below (below_drew (Below.refl _ _)))
  have HZW := Aside0.mk (show w.heap.size ≤ w3.heap.size from HP3.out.b.size)
  clear hc0 hri hr hz hm hL HST HLS
  repeat (first | go_step | go_guarded | go_upon)
  refine start_ (n := 11) (S := fun w' => w'.rangeAt s 0 narrowA.toList) (ds := []) (bz 11 0) (by kernel_rfl) rfl rfl (HP4.out.rs) (fun hHeld => ?_)
  refine pz 0 (some 38) (bz 11 1) ?_
  refine pz 3 (some 41) (bz 11 9) ?_
  refine take_ (i := 1) (N := some 39) (v := .agg narrowA) (a' := ?_) (bz 11 11) rfl rfl (by kernel_rfl) (fun _ _ _ h => h) (yieldsIf_load_mid (by rfl) 113 (.tmp 6) rfl s 0 (by rfl) narrowA.toList _ (fun w' h => h) Tryz.underlying113 rfl (by kernel_rfl)) hHeld ?_ ?_
  rotate_left
  · simp only [Act.put, List.setIfInBounds_toArray, List.set_cons_zero, List.set_cons_succ, i64_w, i32_w]
    rfl
  refine take_ (i := 5) (N := some 43) (v := .agg narrowA) (a' := ?_) (bz 11 43) rfl rfl (by kernel_rfl) (fun _ _ _ h => h) (yieldsIf_load_mid (by rfl) 113 (.tmp 6) rfl s 0 (by rfl) narrowA.toList _ (fun w' h => h) Tryz.underlying113 rfl (by kernel_rfl)) hHeld ?_ ?_
  rotate_left
  · simp only [Act.put, List.setIfInBounds_toArray, List.set_cons_zero, List.set_cons_succ, i64_w, i32_w]
    rfl
  refine one_ (i := 2) (N := some 40) (bz 11 47) rfl rfl (by kernel_rfl) (by decide) (fun K hK => ?_)
  refine goes_ Tryz.func94 (by kernel_rfl) rfl #[.agg narrowA] (by rfl) rfl rfl (by simp only [List.map_toArray, List.map_cons, List.map_nil]; rfl) ?_
  with_reducible refine (block_callsA _).mono ?_
  rintro e w5 ⟨rfl, hb⟩
  refine ⟨_, rfl, ?_⟩
  have HP5 := Aside0.mk (HP4.out.below hb)
  clear hb
  refine hK.out _ _ (HP5.out.rs) (fun hHeld => ?_)
  clear hK K
  refine norm_ (a' := ?_) ?_ ?_
  rotate_left
  · show Act.put _ (some 40) _ = _
    simp only [Act.put, List.setIfInBounds_toArray, List.set_cons_zero, List.set_cons_succ, i64_w, i32_w]
    rfl
  refine pz 4 (some 42) (bz 11 63) ?_
  refine one_ (i := 6) (N := some 44) (bz 11 127) rfl rfl (by kernel_rfl) (by decide) (fun K hK => ?_)
  refine goes_ Tryz.func94 (by kernel_rfl) rfl #[.agg narrowA] (by rfl) rfl rfl (by simp only [List.map_toArray, List.map_cons, List.map_nil]; rfl) ?_
  with_reducible refine (block_callsA _).mono ?_
  rintro e w6 ⟨rfl, hb⟩
  refine ⟨_, rfl, ?_⟩
  have HP6 := Aside0.mk (HP5.out.below hb)
  clear hb
  refine hK.out _ _ (HP6.out.rs) (fun hHeld => ?_)
  clear hK K
  refine norm_ (a' := ?_) ?_ ?_
  rotate_left
  · show Act.put _ (some 44) _ = _
    simp only [Act.put, List.setIfInBounds_toArray, List.set_cons_zero, List.set_cons_succ, i64_w, i32_w]
    rfl
  refine pz 7 (some 45) (bz 11 255) ?_
  refine pz 8 (some 46) (bz 11 511) ?_
  refine one_ (i := 9) (N := some 47) (bz 11 1023) rfl rfl (by kernel_rfl) (by decide) (fun K hK => ?_)
  obtain ⟨A7, w7, hmk, hr7, hb7⟩ := run_make8 (P := Tryz.prog) info5 Tryz.underlying22 w6 L L (Nat.le_refl _) (by omega)
  refine value_ (v := .slice A7 L L) (by rfl) rfl (exec_make (t := 22) rfl (by rfl) (by rfl) hmk) ?_
  have HP7 := Aside0.mk (HP6.out.below hb7)
  have HR7 := Aside0.mk hr7
  have HZ6 := Aside0.mk HP6.out.b.size
  clear hmk hr7 hb7
  refine hK.out _ _ (HP7.out.rs) (fun hHeld => ?_)
  clear hK K
  refine norm_ (a' := ?_) ?_ ?_
  rotate_left
  · show Act.put _ (some 47) _ = _
    simp only [Act.put, List.setIfInBounds_toArray, List.set_cons_zero, List.set_cons_succ, i64_w, i32_w]
    rfl
  refine pz 10 (some 10) (bz 11 2047) ?_
  refine done_ (by kernel_rfl) ?_
  clear hHeld hz1 hz1' hz2 hz3 hz3'
  have HQ := Aside0.mk (show ∃ gs, A7 = some ⟨gs, 0, none⟩ from by
    obtain ⟨gs, c, e, _⟩ := Row8.form HR7.out (by simp; omega)
    injection e with e
    exact ⟨gs, e⟩)
  obtain ⟨gs, rfl⟩ := HQ.out
  have HC := Aside0.mk (HR7.out.celln (i := 0) (by simp; omega))
  have hc := HC.out.1
  have hf := HC.out.2
  have HR8 := Aside0.mk (show Row8 _ _ _ (padR n 0) from by rw [padR, HLN.out]; exact HR7.out.put 0 128)
  have HB8 := Aside0.mk (show Below w.heap.size w (w7.setCell ⟨gs, 0, none⟩ (.int .u8 128)) from below_put HP7.out.b (by have h := Row8.own HR7.out gs rfl; have := HZ6.out; omega) 0 _)
  have h0L : (0 : Int) < L := by omega
  go_wp2_with (fail)
  have HRS := Aside0.mk (HR8.out.lower (p := w.heap.size) (by have := HZ6.out; have := HZW.out; omega))
  have HLO := Aside0.mk (show w.heap.size ≤ gs by have h := Row8.own HR7.out gs rfl; have := HZ6.out; have := HZW.out; omega)
  clear hc hf h0L
  go_loopw [11, 12] (fun v11 v12 w' => ∃ i : Nat, v11 = .int .i64 i ∧ v12 = .int .i64 ((L : Int) - 1 - i) ∧ i ≤ 8 ∧ Aside0 (Row8 w' w.heap.size (.slice (some ⟨gs, 0, none⟩) L L) (padR n i)) ∧ Aside0 (Below w.heap.size w w')) (fun v11 v12 _ => 8 - (intOf v11).toNat)
  case atStart => exact ⟨0, rfl, by simp, by decide, HRS, HB8⟩
  case round =>
    clear HRS HB8 HR8 HR7
    obtain ⟨i, rfl, rfl, hi, HR, HB⟩ := hrel
    have hPL := padR_length n i
    by_cases hlt : i < 8
    · obtain ⟨k, hk⟩ : ∃ k : Nat, k = L - 1 - i := ⟨_, rfl⟩
      have hki : (L : Int) - 1 - i = k := by omega
      have hkL : (k : Int) < L := by omega
      have HLK := Aside0.mk (show padN n - 1 - i = k by rw [HLN.out, hk])
      have HC := Aside0.mk (HR.out.celln (i := k) (by rw [hPL, HLN.out]; omega))
      have hc := HC.out.1
      have hf := HC.out.2
      have HPT := Aside0.mk (fun x : Int => Aside0.mk (below_put HB.out HLO.out k (.int .u8 x)))
      rw [hki]
      clear hPL hk
      have hki' : (k : Int) - 1 = (L : Int) - 1 - (i + 1 : Nat) := by omega
      clear hki
      obtain rfl | rfl | rfl | rfl | rfl | rfl | rfl | rfl : i = 0 ∨ i = 1 ∨ i = 2 ∨ i = 3 ∨ i = 4 ∨ i = 5 ∨ i = 6 ∨ i = 7 := by omega
      all_goals clear hlt hi
      all_goals (have HK := Lib.hid hki'; clear hki')
      · go_wp2_with (fail)
        go_roundw
        case rel => exact ⟨1, rfl, congrArg _ HK.out, by decide, ⟨by rw [padR, HLK.out, show padB n 0 = 8 * (n : Int) % 256 by simp [padB]]; exact HR.out.put k _⟩, HPT.out _⟩
        case measure => simp [intOf]
      · go_wp2_with (fail)
        go_roundw
        case rel => exact ⟨2, rfl, congrArg _ HK.out, by decide, ⟨by rw [padR, HLK.out, show padB n 1 = 8 * (n : Int) / 256 % 256 by simp [padB]]; exact HR.out.put k _⟩, HPT.out _⟩
        case measure => simp [intOf]
      · go_wp2_with (fail)
        go_roundw
        case rel => exact ⟨3, rfl, congrArg _ HK.out, by decide, ⟨by rw [padR, HLK.out, show padB n 2 = 8 * (n : Int) / 65536 by simp [padB]; omega]; exact HR.out.put k _⟩, HPT.out _⟩
        case measure => simp [intOf]
      · go_wp2_with (fail)
        go_roundw
        case rel => exact ⟨4, rfl, congrArg _ HK.out, by decide, ⟨by rw [padR, HLK.out, show padB n 3 = 8 * (n : Int) / 16777216 by simp [padB]; omega]; exact HR.out.put k _⟩, HPT.out _⟩
        case measure => simp [intOf]
      · go_wp2_with (fail)
        go_roundw
        case rel => exact ⟨5, rfl, congrArg _ HK.out, by decide, ⟨by rw [padR, HLK.out, show padB n 4 = 8 * (n : Int) / 4294967296 by simp [padB]; omega]; exact HR.out.put k _⟩, HPT.out _⟩
        case measure => simp [intOf]
      · go_wp2_with (fail)
        go_roundw
        case rel => exact ⟨6, rfl, congrArg _ HK.out, by decide, ⟨by rw [padR, HLK.out, show padB n 5 = 8 * (n : Int) / 1099511627776 by simp [padB]; omega]; exact HR.out.put k _⟩, HPT.out _⟩
        case measure => simp [intOf]
      · go_wp2_with (fail)
        go_roundw
        case rel => exact ⟨7, rfl, congrArg _ HK.out, by decide, ⟨by rw [padR, HLK.out, show padB n 6 = 8 * (n : Int) / 281474976710656 by simp [padB]; omega]; exact HR.out.put k _⟩, HPT.out _⟩
        case measure => simp [intOf]
      · go_wp2_with (fail)
        go_roundw
        case rel => exact ⟨8, rfl, congrArg _ HK.out, by decide, ⟨by rw [padR, HLK.out, show padB n 7 = 8 * (n : Int) / 72057594037927936 by simp [padB]; omega]; exact HR.out.put k _⟩, HPT.out _⟩
        case measure => simp [intOf]
    · obtain rfl : i = 8 := by omega
      go_wp2
      refine bodyPost_ret (results_tmp2 rfl _ _ _) rfl ?_
      exact ⟨_, rfl, HR.out, HB.out⟩

end Go.Proofs.YtmblnflfklmmkaaGreatDoor.Sh
/- Contracts of package sha2: Copy, Reset, New. -/
namespace Go.Proofs.YtmblnflfklmmkaaGreatDoor.Sh
open Go.Proofs.YtmblnflfklmmkaaGreatDoor.Dk
open Go.RowKit Go.Proofs.YtmblnflfklmmkaaGreatDoorW.PrintWords Go.Proofs.YtmblnflfklmmkaaGreatDoorW.PrintLast Go.Proofs.YtmblnflfklmmkaaGreatDoorW.PrintMore
set_option linter.unusedVariables false
set_option linter.unusedSimpArgs false
set_option maxRecDepth 30000

variable {w w0 w1 w2 wr : World} {g : Nat} {n : Int} {r : Option (List Int)} {hv xs ys : List Int}
theorem upd_cell (w : World) (g j : Nat) (u : Value) : Upd w (w.setCell ⟨g, j, none⟩ u) (· = g) := (Upd.refl w (fun k => k = g)).setCell (p := ⟨g, j, none⟩) (.inl rfl) u
theorem HAt.cr (h : HAt w0 w g n r hv) : ∃ A m c, w.cell? ⟨g, 16, none⟩ = some (.slice A m c) ∧ ∀ x, r = some x → Row8 w w0.heap.size (.slice A m c) x := by
  obtain ⟨vr, h6, h1, ⟨⟨A, m, c, rfl⟩, h2⟩, _⟩ := h.blk
  exact ⟨A, m, c, by rw [cell_of_row _ _ _ _ _ _ h1]; rfl, h2⟩
theorem HAt.setN (h : HAt w0 w g n r hv) (k : Int) : HAt w0 (w.setCell ⟨g, 15, none⟩ (.int .i64 k)) g k r hv := by
  obtain ⟨vr, h6, h1, h2, h3⟩ := h.blk
  have hup : Upd w (w.setCell ⟨g, 15, none⟩ (.int .i64 k)) (· = g) := upd_cell w g _ _
  exact ⟨⟨vr, h6, by rw [heap_setCell_same w g 15 _ 120 _ h1]; simp [hC, narrowA], ⟨h2.1, fun x hx => (h2.2 x hx).type h1 (by decide) hup⟩, h3⟩, h.hl, h.lo, below_put h.b h.lo 15 _⟩
theorem HAt.setR (h : HAt w0 w g n r hv) {A : Option Addr} {m c : Nat} {x : List Int} (hr : Row8 w w0.heap.size (.slice A m c) x) : HAt w0 (w.setCell ⟨g, 16, none⟩ (.slice A m c)) g n (some x) hv := by
  obtain ⟨vr, h6, h1, h2, h3⟩ := h.blk
  have hup : Upd w (w.setCell ⟨g, 16, none⟩ (.slice A m c)) (· = g) := upd_cell w g _ _
  exact ⟨⟨.slice A m c, h6, by rw [heap_setCell_same w g 16 _ 120 _ h1]; simp [hC, narrowA], ⟨⟨_, _, _, rfl⟩, fun y hy => by injection hy with hy; subst hy; exact hr.type h1 (by decide) hup⟩, h3⟩, h.hl, h.lo, below_put h.b h.lo 16 _⟩
theorem hC_set6 {vr : Value} {h6 us : List Int} (hl : hv.length = 8) (h : h6.length = 8) (hu : us.length = 8) : (hC n vr hv h6).take 25 ++ nums .u64 us ++ (hC n vr hv h6).drop (25 + (nums .u64 us).length) = hC n vr hv us := by
  have e : (nums IntKind.u64 us).length = 8 := by rw [nums_length, hu]
  have e2 : (nums IntKind.u32 hv).length = 8 := by rw [nums_length, hl]
  have e3 : (nums IntKind.u64 h6).length = 8 := by rw [nums_length, h]
  rw [e]
  simp [hC, narrowA, List.drop_append, List.drop_of_length_le, List.take_append, List.take_of_length_le, e2, e3]
theorem HAt.set6 (h : HAt w0 w g n r hv) {us : List Int} (hu : us.length = 8) : HAt w0 (w.setCells g 25 (nums .u64 us)) g n r hv := by
  obtain ⟨vr, h6, h1, h2, h3⟩ := h.blk
  obtain ⟨cur', c1, c2, c3⟩ := setCells_row (nums .u64 us) 25 w _ h1 (by simp [hC_len h.hl h3, nums_length, hu])
  have hup := setCells_upd g 25 (nums .u64 us) w
  refine ⟨⟨vr, us, ?_, ⟨h2.1, fun x hx => (h2.2 x hx).type h1 (by decide) hup⟩, hu⟩, h.hl, h.lo, ?_⟩
  · rw [c1]
    congr 2
    apply Array.toList_inj.1
    rw [c3]
    exact hC_set6 h.hl h3 hu
  · obtain ⟨s1, s2, s3, s4⟩ := setCells_same g (nums .u64 us) 25 w
    exact ⟨s1.trans h.b.os, s2.trans h.b.tape, s3.trans h.b.output, by rw [s4]; exact h.b.size, fun k hk => (setCells_far _ _ k (by have := h.lo; omega)).trans (h.b.block k hk)⟩
theorem HAt.there6 (h : HAt w0 w g n r hv) : w.there g 25 8 := fun j hj => by
  refine ⟨?_, h.free _⟩
  obtain ⟨vr, h6, h1, h2, h3⟩ := h.blk
  rw [cell_of_row _ _ _ _ _ _ h1, List.getElem?_toArray, List.getElem?_eq_getElem (by rw [hC_len h.hl h3]; omega)]
  rfl
theorem u64_one (x : List Int) : ((nums .u64 x).toArray : Array Value).all (·.oneCell') = true := by
  simp [nums, List.all_eq_true]
  intro a _
  rfl
def z127 : List Value := (List.replicate 15 (.int .i64 0)) ++ (.int .i64 0 :: .slice none 0 0 :: (nums .u32 (List.replicate 8 0) ++ nums .u64 (List.replicate 8 0)))
theorem run_alloc127 (w : World) : (Instr.alloc 120 true (.tuple #[])).run Tryz.prog w = .ok (.pointer (some ⟨w.heap.size, 0, none⟩)) (w.alloc (.cells z127.toArray 120)) := by kernel_rfl
theorem hC_one {A : Option Addr} {m c : Nat} {h6 : List Int} : (hC n (.slice A m c) hv h6).toArray.all (·.oneCell') = true := by
  rw [Array.all_eq_true_iff_forall_mem]
  intro v hv'
  simp only [hC, narrowA, List.mem_toArray, List.mem_append, List.mem_cons, nums, List.mem_map] at hv'
  rcases hv' with h | rfl | rfl | ⟨_, _, rfl⟩ | ⟨_, _, rfl⟩
  · simp at h
    rcases h with h | h | h | h | h | h | h | h | h | h | h | h | h | h | h <;> subst h <;> rfl
  all_goals rfl
theorem info127 {vr : Value} {h6 : List Int} (hl : hv.length = 8) (h : h6.length = 8) : (Tryz.prog.info? 120).map (·.size) = some (hC n vr hv h6).length := by rw [hC_len hl h]; kernel_rfl
theorem z127_len : z127.length = 33 := by simp [z127, nums_length]
attribute [irreducible] z127
/-- A copy. -/
def CopyPost (w0 w w' : World) (n : Int) (x hv : List Int) (e : Ending) : Prop := ∃ g2, e = .returned (.pointer (some ⟨g2, 0, none⟩)) ∧ HAt w0 w' g2 n (some x) hv ∧ Below w.heap.size w w'
set_option maxHeartbeats 16000000 in
theorem copy_calls (h : HAt w0 w g n (some xs) hv) (hx : xs.length ≤ 1000) : Calls Tryz.prog 80 #[.pointer (some ⟨g, 0, none⟩)] w fun e w' => CopyPost w0 w w' n xs hv e := by
  obtain ⟨vr, h6, h1, ⟨⟨A, m, c, rfl⟩, h2⟩, h3⟩ := h.blk
  have HR := Aside0.mk (h2 xs rfl)
  obtain ⟨rfl, hmc, hC8⟩ := Row8.C (h2 xs rfl)
  have HL := Aside0.mk (run_loadAt_cells (P := Tryz.prog) (w := w) 120 Tryz.underlying120 rfl g 0 (hC n (.slice A xs.length c) hv h6) (info127 h.hl h3) (fun j u hu => by rw [Nat.zero_add, cell_of_row _ _ j _ _ _ h1]; simpa using hu))
  have HST := Aside0.mk (run_storeAt_new (P := Tryz.prog) w 120 z127.toArray (hC n (.slice A xs.length c) hv h6).toArray (by rw [List.size_toArray]; exact info127 h.hl h3) (by simp [z127_len, hC_len h.hl h3]) hC_one)
  have HB2 := Aside0.mk (below_alloc (Below.refl w.heap.size w) (.cells (hC n (.slice A xs.length c) hv h6).toArray 120))
  have HA2 := Aside0.mk (show HAt w0 (w.alloc (.cells (hC n (.slice A xs.length c) hv h6).toArray 120)) w.heap.size n none hv from ⟨⟨_, h6, heap_alloc_new w _, ⟨⟨_, _, _, rfl⟩, fun x hx => by cases hx⟩, h3⟩, h.hl, h.b.size, h.b.trans (HB2.out.mono h.b.size)⟩)
  have HC2 := Aside0.mk (Kd.C_below hC8 HB2.out)
  have hc16 : (w.alloc (.cells (hC n (.slice A xs.length c) hv h6).toArray 120)).cell? ⟨g, 16, none⟩ = some (.slice A xs.length c) := by
    rw [cell_of_row _ _ _ _ _ _ (blk_below h1 HB2.out)]
    rfl
  have HLO := Aside0.mk h.b.size
  clear h h1 h2 hC8
  go_enter Tryz.func80, Tryz.ntmps80
  go_wp2_with (first | ((with_reducible refine load_at (ty := 120) (.tmp 7) ?_ ?_ HL.out ?_ ?_); exact rfl; exact rfl; exact rfl) | ((with_reducible refine alloc_at (e := 120) ?_ ?_ (run_alloc127 _) ?_); exact rfl; exact rfl) | ((with_reducible refine store_at (ty := 120) (.tmp 3) (.tmp 8) ?_ ?_ ?_ HST.out ?_ ?_ ?_); exact rfl; exact rfl; exact rfl; exact rfl; exact rfl; generalize w.alloc (.cells (hC n (.slice A xs.length c) hv h6).toArray 120) = w2 at HB2 HA2 HC2 hc16 ⊢) | ((with_reducible refine gate_builtin (b := .append) (xs := #[.const (.slice none 0 0), .tmp 12]) rfl ?_); at_builtin; refine app8 (q := w2.heap.size) info5 Tryz.underlying22 rfl (.const (.slice none 0 0)) (.tmp 12) rfl _ _ xs _ _ _ rfl rfl (Row8.nil _ _) HC2.out ?aQ ?aL ?_; (case aQ => exact Nat.le_refl _); (case aL => simp; omega); intro A1 c1 w3 hr3 hb3 hg3; have HR3 := Aside0.mk hr3; have HB3 := Aside0.mk hb3; have HA3 := Aside0.mk (HA2.out.below hb3); have hf := HA3.out.free 16; obtain ⟨_, _, _, hc, _⟩ := HA3.out.cr; clear hr3 hb3 hg3))
  go_ret
  exact ⟨w.heap.size, rfl, HA3.out.setR (A := A1) (m := xs.length) (c := c1) (x := xs) ((show Row8 w3 w2.heap.size (.slice A1 xs.length c1) xs from HR3.out).lower HA2.out.b.size), below_put (HB2.out.trans (HB3.out.mono HB2.out.size)) (Nat.le_refl _) 16 _⟩

theorem HAt.st17 (h : HAt w0 w g n r hv) {us : List Int} (hu : us.length = 8) : (Instr.storeAt 117 (.pointer (some ⟨g, 17, none⟩)) (.agg (nums .u32 us).toArray)).run Tryz.prog w = .ok () (w.setCells g 17 (nums .u32 us)) :=
  run_storeAt_mid (P := Tryz.prog) w g 17 117 (nums .u32 us).toArray (by rw [List.size_toArray, nums_length, hu]; exact h.there) (info124 _ hu) (u32_one _)
theorem HAt.st25 (h : HAt w0 w g n r hv) {us : List Int} (hu : us.length = 8) : (Instr.storeAt 118 (.pointer (some ⟨g, 25, none⟩)) (.agg (nums .u64 us).toArray)).run Tryz.prog w = .ok () (w.setCells g 25 (nums .u64 us)) :=
  run_storeAt_mid (P := Tryz.prog) w g 25 118 (nums .u64 us).toArray (by rw [List.size_toArray, nums_length, hu]; exact h.there6) (info125 _ hu) (u64_one _)
theorem narrow_callsA (w : World) : Calls Tryz.prog 90 #[] w fun e w' => e = .returned (.agg narrowA) ∧ Below w.heap.size w w' := narrow_calls w
theorem wide_callsA (w : World) : Calls Tryz.prog 91 #[] w fun e w' => e = .returned (.agg wideA) ∧ Below w.heap.size w w' := wide_calls w
theorem begin32L_length : begin32L.length = 8 := begR_length _ 8
theorem begin64L_length : begin64L.length = 8 := begR_length _ 8
def ResetPost (w0 w w' : World) (g : Nat) (e : Ending) : Prop := e = .returned (.tuple #[]) ∧ HAt w0 w' g 0 (some []) begin32L ∧ Upd w w' (· = g)
set_option maxHeartbeats 16000000 in
theorem reset_calls (hg0 : Glob w0) (h : HAt w0 w g n r hv) : Calls Tryz.prog 78 #[.pointer (some ⟨g, 0, none⟩)] w fun e w' => ResetPost w0 w w' g e := by
  have hg := Aside0.mk hg0
  have HA0 := Aside0.mk h
  have hf15 := h.free 15
  have hc15 := h.cn
  have HA1 := Aside0.mk (h.setN 0)
  have HU1 := Aside0.mk (upd_cell w g 15 (.int .i64 0))
  obtain ⟨A, m, c, hc16, _⟩ := h.cr
  have hf16 := h.free 16
  clear h hg0
  have HA2 := Aside0.mk (HA1.out.setR (Row8.nil (w.setCell ⟨g, 15, none⟩ (.int .i64 0)) w0.heap.size))
  have HU2 := Aside0.mk (HU1.out.trans (upd_cell (w.setCell ⟨g, 15, none⟩ (.int .i64 0)) g 16 (.slice none 0 0)) (fun _ h => .inl h))
  go_enter Tryz.func78, Tryz.ntmps78
  go_wp2_with (first | (go_at_call 90; (with_reducible refine (narrow_callsA _).mono ?_); rintro e w3 ⟨rfl, hb⟩; have HA3 := Aside0.mk (HA2.out.below hb); have HU3 := Aside0.mk (HU2.out.trans (Upd.of_below (F := (· = g)) hb) (fun _ h => .inl h)); clear hb) | (go_at_call 92; (with_reducible refine (begin32_calls (hg.out.below HA3.out.b)).mono ?_); rintro e w4 ⟨rfl, hb⟩; have HA4 := Aside0.mk (HA3.out.below hb); have HU4 := Aside0.mk (HU3.out.trans (Upd.of_below (F := (· = g)) hb) (fun _ h => .inl h)); clear hb) | (go_at_call 91; (with_reducible refine (wide_callsA _).mono ?_); rintro e w5 ⟨rfl, hb⟩; have HA5 := Aside0.mk (HA4.out.below hb); have HU5 := Aside0.mk (HU4.out.trans (Upd.of_below (F := (· = g)) hb) (fun _ h => .inl h)); clear hb) | (go_at_call 93; (with_reducible refine (begin64_calls (hg.out.below HA5.out.b)).mono ?_); rintro e w6 ⟨rfl, hb⟩; have HA6 := Aside0.mk (HA5.out.below hb); have HU6 := Aside0.mk (HU5.out.trans (Upd.of_below (F := (· = g)) hb) (fun _ h => .inl h)); clear hb; have HST := Aside0.mk (HA6.out.st17 begin32L_length); have HA7 := Aside0.mk (HA6.out.setH begin32L_length); have HU7 := Aside0.mk (HU6.out.trans (setCells_upd g 17 (nums .u32 begin32L) w6) (fun _ h => .inl h))) | ((with_reducible refine store_at (ty := 117) (.tmp 17) (.tmp 13) ?_ ?_ ?_ HST.out ?_ ?_ ?_); exact rfl; exact rfl; exact rfl; exact rfl; exact rfl; generalize w6.setCells g 17 (nums .u32 begin32L) = w7 at HA7 HU7 ⊢; clear HST; have HST6 := Aside0.mk (HA7.out.st25 begin64L_length)) | ((with_reducible refine store_at (ty := 118) (.tmp 19) (.tmp 15) ?_ ?_ ?_ HST6.out ?_ ?_ ?_); exact rfl; exact rfl; exact rfl; exact rfl; exact rfl; have HA8 := Aside0.mk (HA7.out.set6 begin64L_length); have HU8 := Aside0.mk (HU7.out.trans (setCells_upd g 25 (nums .u64 begin64L) w7) (fun _ h => .inl h)); generalize w7.setCells g 25 (nums .u64 begin64L) = w8 at HA8 HU8 ⊢))
  go_end0
  exact ⟨rfl, HA8.out, HU8.out⟩
theorem build127 (w : World) : (Instr.build 120 #[(0, .agg narrowA)]).run Tryz.prog w = .ok (.agg (hC 0 (.slice none 0 0) [0, 0, 0, 0, 0, 0, 0, 0] [0, 0, 0, 0, 0, 0, 0, 0]).toArray) w := by kernel_rfl
def NewPost (w w' : World) (e : Ending) : Prop := ∃ g, e = .returned (.tuple #[.pointer (some ⟨g, 0, none⟩), .int .i64 0]) ∧ HAt w w' g 0 (some []) begin32L
set_option maxHeartbeats 16000000 in
theorem new_calls (hg0 : Glob w) : Calls Tryz.prog 73 #[.int .i64 256] w fun e w' => NewPost w w' e := by
  have hg := Aside0.mk hg0
  have HST := Aside0.mk (fun w1 : World => run_storeAt_new (P := Tryz.prog) w1 113 zeros15 narrowA info120 (by simp [zeros15_size, narrowA]) narrowA_one)
  clear hg0
  go_enter Tryz.func73, Tryz.ntmps73
  go_wp2_with (first | ((with_reducible refine alloc_at (e := 113) ?_ ?_ (run_alloc120 _) ?_); exact rfl; exact rfl) | (go_at_call 77; (with_reducible refine (of_callsA _).mono ?_); rintro e w1 ⟨rfl, hb1⟩; have HB2 := Aside0.mk (show Below w.heap.size w (w1.alloc (.cells narrowA 113)) from hb1.trans ((below_alloc (Below.refl _ _) _).mono hb1.size)); have HS2 := Aside0.mk (show (w1.alloc (.cells narrowA 113)).heap[w1.heap.size]? = some (.cells narrowA 113 (0, 0)) from heap_alloc_new w1 _); clear hb1) | ((with_reducible refine store_at (ty := 113) (.tmp 4) (.tmp 10) ?_ ?_ ?_ (HST.out _) ?_ ?_ ?_); exact rfl; exact rfl; exact rfl; exact rfl; exact rfl; generalize w1.alloc (.cells narrowA 113) = w2 at HB2 HS2 ⊢; generalize w1.heap.size = s at HS2 ⊢; have HLS := Aside0.mk (show (Instr.loadAt 113 (.pointer (some ⟨s, 0, none⟩))).run Tryz.prog w2 = .ok (.agg narrowA) w2 from run_loadAt_cells (P := Tryz.prog) (w := w2) 113 Tryz.underlying113 rfl s 0 narrowA.toList info120 (fun j u hu => by rw [Nat.zero_add, cell_of_row _ _ j _ _ _ HS2.out]; simpa using hu))) | ((with_reducible refine load_at (ty := 113) (.tmp 4) ?_ ?_ HLS.out ?_ ?_); exact rfl; exact rfl; exact rfl) | ((with_reducible refine build_at (t := 120) (parts := #[(0, .tmp 14)]) (args := #[(0, .agg narrowA)]) ?_ ?_ build127 ?_ ?_); exact rfl; exact rfl; (first | (with_reducible rfl) | kernel_rfl | (simp; done))) | (go_at_call 78; (with_reducible refine (reset_calls hg.out (show HAt w (w2.alloc (.cells (hC 0 (.slice none 0 0) [0, 0, 0, 0, 0, 0, 0, 0] [0, 0, 0, 0, 0, 0, 0, 0]).toArray 120)) w2.heap.size 0 none [0, 0, 0, 0, 0, 0, 0, 0] from ⟨⟨_, _, heap_alloc_new w2 _, ⟨⟨_, _, _, rfl⟩, fun x hx => by cases hx⟩, by simp⟩, by simp, HB2.out.size, HB2.out.trans ((below_alloc (Below.refl _ _) _).mono HB2.out.size)⟩)).mono ?_); rintro e w5 ⟨rfl, ha5, _⟩; have HA5 := Aside0.mk ha5; clear ha5))
  refine bodyPost_ret (results_tmp2 rfl _ _ _) rfl ?_
  exact ⟨w2.heap.size, rfl, HA5.out⟩

end Go.Proofs.YtmblnflfklmmkaaGreatDoor.Sh
/- Contracts of package sha2: Write, Sum; of package store: digest. -/
namespace Go.Proofs.YtmblnflfklmmkaaGreatDoor.Sh
open Go.Proofs.YtmblnflfklmmkaaGreatDoor.Dk
open Go.RowKit Go.Proofs.YtmblnflfklmmkaaGreatDoorW.PrintWords Go.Proofs.YtmblnflfklmmkaaGreatDoorW.PrintLast Go.Proofs.YtmblnflfklmmkaaGreatDoorW.PrintMore
set_option linter.unusedVariables false
set_option linter.unusedSimpArgs false
set_option maxRecDepth 30000

variable {w w0 w1 w2 wr : World} {g q : Nat} {n : Int} {r : Option (List Int)} {hv xs ys : List Int} {v : Value}
theorem C_bys {gs o : Nat} (h : Bys w gs o xs) (hx : xs.length ≤ 1000000000) : C8 w (some ⟨gs, o, none⟩) xs := by
  refine ⟨rfl, by omega, fun _ => ⟨_, rfl, fun j p hj => ⟨[.int .u8 p], rfl, rfl, fun i u hu => ?_⟩⟩⟩
  cases i with
  | succ i => simp at hu
  | zero =>
    simp only [List.getElem?_cons_zero, Option.some.injEq] at hu
    subst hu
    have hlt := (List.getElem?_eq_some_iff.1 hj).1
    have e : (⟨gs, o, none⟩ : Addr).add (j * (Kd.int .u8).sz + 0) = ⟨gs, o + j, none⟩ := by rw [Addr.add_mid]; simp [Kd.int, Kd.scalar]
    rw [e, h j hlt, List.getD_eq_getElem?_getD, hj]
    rfl
theorem RowAt.C (h : RowAt w g v xs) (hx : xs.length ≤ 1000000000) : ∃ A c, v = .slice A xs.length c ∧ C8 w A xs := by
  obtain ⟨A, c, rfl, hc, h⟩ := h
  refine ⟨A, c, rfl, ?_⟩
  rcases h with rfl | ⟨gs, o, rfl, _, _, hb⟩
  · exact ⟨rfl, by simp, fun h => absurd h (by simp)⟩
  · exact C_bys hb hx
theorem row8_at {cs : Array Value} {t : Nat} (h : Row8 w q v xs) (hb : w.heap[g]? = some (.cells cs t (0, 0))) (ht : 5 ≠ t) : RowAt w g v xs := by
  obtain ⟨A, c, rfl, hc, _⟩ := h.reads
  refine ⟨A, c, rfl, hc, ?_⟩
  by_cases h0 : 0 < xs.length
  · obtain ⟨gs, c', e, _, hlt, _, ⟨cells, hcl⟩, hx⟩ := h.form h0
    injection e with e
    refine .inr ⟨gs, 0, e, blk_ne hcl hb ht, hlt, fun j hj => by rw [Nat.zero_add]; exact hx j hj⟩
  · exact .inl (List.eq_nil_of_length_eq_zero (by omega))
theorem HAt.grown (h : HAt w0 w g n r hv) (hr : Row8 w q v xs) (hg : w.grownBy w1 v.ownBlock) (hb : Below w0.heap.size w w1) : HAt w0 w1 g n none hv := by
  obtain ⟨vr, h6, h1, h2, h3⟩ := h.blk
  have hne := Kd.R_ne hr h1 (by decide)
  exact ⟨⟨vr, h6, blk_grown h1 hg hne, ⟨h2.1, fun x hx => by cases hx⟩, h3⟩, h.hl, h.lo, h.b.trans hb⟩
theorem HAt.rowAt (h : HAt w0 w g n r hv) (hr : Row8 w q v xs) : RowAt w g v xs := by
  obtain ⟨vr, h6, h1, h2, h3⟩ := h.blk
  exact row8_at hr h1 (by decide)
theorem takeF_len (hv : List Int) : ∀ (k : Nat) (xs : List Int), xs.length ≤ k → (takeF hv xs).2.length ≤ xs.length ∧ (takeF hv xs).2.length < 64
  | k, xs, hk => by
    by_cases h : 64 ≤ xs.length
    · rw [takeF_ge h]
      cases k with
      | zero => omega
      | succ k =>
        have := takeF_len (mixM hv (xs.take 64)) k (xs.drop 64) (by simp; omega)
        simp at this
        omega
    · rw [takeF_lt (by omega)]
      exact ⟨Nat.le_refl _, by show xs.length < 64; omega⟩
def WritePost (w0 w w' : World) (g : Nat) (n : Int) (r hv b : List Int) (e : Ending) : Prop := e = .returned (.int .i64 0) ∧ HAt w0 w' g (n + b.length) (some (takeF hv (r ++ b)).2) (takeF hv (r ++ b)).1 ∧ w.heap.size ≤ w'.heap.size
set_option maxHeartbeats 16000000 in
theorem write_calls (hg0 : Glob w0) (h : HAt w0 w g n (some xs) hv) (hn : 0 ≤ n) (A : Option Addr) (c : Nat) (b : List Int) (hnb : n + b.length ≤ 1048576) (hx : xs.length ≤ 64) (hC : ∀ W, Upd w W (· = g) → C8 W A b) :
    Calls Tryz.prog 74 #[.pointer (some ⟨g, 0, none⟩), .slice A b.length c] w fun e w' => WritePost w0 w w' g n xs hv b e := by
  have hg := Aside0.mk hg0
  have hc15 := h.cn
  have hf15 := h.free 15
  have hf16 := h.free 16
  obtain ⟨A1, m1, c1, hc16, hr16⟩ := h.cr
  have hr := hr16 xs rfl
  have HA1 := Aside0.mk (h.setN (n + b.length))
  have HU1 := upd_cell w g 15 (.int .i64 (n + b.length))
  have HR1 := Aside0.mk (show Row8 (w.setCell ⟨g, 15, none⟩ (.int .i64 (n + b.length))) w0.heap.size (.slice A1 m1 c1) xs from by obtain ⟨vr, h6, h1, _⟩ := h.blk; exact hr.type h1 (by decide) HU1)
  have HC1 := Aside0.mk (hC _ HU1)
  have HZ := Aside0.mk (show w.heap.size ≤ (w.setCell ⟨g, 15, none⟩ (.int .i64 (n + b.length))).heap.size from HU1.size)
  have hq : decide (1048576 - n < (b.length : Int)) = false := decide_eq_false (by omega)
  obtain ⟨m, hm⟩ : ∃ m, m = n + b.length := ⟨_, rfl⟩
  have hm1 : m ≤ 1048576 := by omega
  have HM := Lib.hid hm
  rw [← hm] at HA1 HR1 HC1 HZ
  have hms : n + (b.length : Int) = m := hm.symm
  clear h hg0 hr hr16 HU1 hC hm
  have hbl : b.length ≤ 1048576 := by omega
  go_enter Tryz.func74, Tryz.ntmps74
  go_wp2_with (first | ((with_reducible refine gate_builtin (b := .append) (xs := #[.tmp 31, .tmp 32]) rfl ?_); at_builtin; refine app8 (q := w0.heap.size) info5 Tryz.underlying22 rfl (.tmp 31) (.tmp 32) rfl _ _ _ _ _ _ rfl rfl HR1.out HC1.out ?aQ ?aL ?_; (case aQ => have := HA1.out.b.size; omega); (case aL => omega); intro A3 c3 w3 hr3 hb3 hg3; have HA3 := Aside0.mk (HA1.out.grown HR1.out hg3 hb3); have HZ3 := Aside0.mk (Nat.le_trans HZ.out hg3.size); have HR3 := Aside0.mk (show RowAt w3 g (.slice A3 (xs.length + b.length) c3) (xs ++ b) from by have h := HA3.out.rowAt hr3; rwa [List.length_append] at h); clear hr3 hb3 hg3) | (go_at_call 79; (with_reducible refine (take_calls hg.out _ HA3.out HR3.out (by simp; omega)).mono ?_); rintro e w4 ⟨v4, rfl, hr4, ha4, hu4⟩; obtain ⟨A4, c4, rfl, hc4⟩ := RowAt.C hr4 (by have := takeF_len hv _ (xs ++ b) (Nat.le_refl _); omega); have HA4 := Aside0.mk ha4; have HC4 := Aside0.mk hc4; have HZ4 := Aside0.mk (Nat.le_trans HZ3.out hu4.size); clear hr4 ha4 hu4 hc4) | ((with_reducible refine gate_builtin (b := .append) (xs := #[.const (.slice none 0 0), .tmp 34]) rfl ?_); at_builtin; refine app8 (q := w4.heap.size) info5 Tryz.underlying22 rfl (.const (.slice none 0 0)) (.tmp 34) rfl _ _ _ _ _ _ rfl rfl (Row8.nil _ _) HC4.out ?aQ ?aL ?_; (case aQ => exact Nat.le_refl _); (case aL => have := takeF_len hv _ (xs ++ b) (Nat.le_refl _); simp; omega); intro A5 c5 w5 hr5 hb5 hg5; have HR5 := Aside0.mk hr5; have HA5 := Aside0.mk (HA4.out.below hb5); have HZ5 := Aside0.mk (Nat.le_trans HZ4.out hb5.size); have hf := HA5.out.free 16; obtain ⟨_, _, _, hc, _⟩ := HA5.out.cr; clear hr5 hb5 hg5))
  go_ret
  exact ⟨rfl, by rw [← HM.out]; exact HA5.out.setR (HR5.out.lower HA4.out.b.size), by have := HZ5.out; simpa [World.setCell] using this⟩

def sumM (hv r : List Int) (k : Nat) : List Int := tellM (takeF hv (r ++ padM k)).1
def SumPost (w0 w' : World) (x : List Int) (e : Ending) : Prop := ∃ v, e = .returned v ∧ Row8 w' w0.heap.size v x ∧ Below w0.heap.size w0 w'
theorem padN_le (k : Nat) : padN k ≤ 72 := by unfold padN; omega
theorem padM_length (k : Nat) : (padM k).length = padN k := padR_length k 8
set_option maxHeartbeats 16000000 in
theorem sum_calls (hg0 : Glob w0) (k : Nat) (hk : k ≤ 1048576) (h : HAt w0 w g k (some xs) hv) (hx : xs.length < 64) : Calls Tryz.prog 75 #[.pointer (some ⟨g, 0, none⟩)] w fun e w' => SumPost w0 w' (sumM hv xs k) e := by
  have hg := Aside0.mk hg0
  have HA1 := Aside0.mk h
  have HX := Aside0.mk hx
  clear h hg0 hx
  go_enter Tryz.func75, Tryz.ntmps75
  go_wp2_with (first | (go_at_call 80; (with_reducible refine (copy_calls HA1.out (by have := HX.out; omega)).mono ?_); rintro e w2 ⟨g2, rfl, ha2, hb2⟩; clear hb2))
  have HA2 := Aside0.mk ha2.drew
  have hw256 : wrap64 256 = 256 := by simp [wrap64]
  clear ha2
  repeat (first | go_step | go_guarded | go_upon)
  refine start_ (n := 16) (S := fun w' => w'.cell? ⟨g2, 15, none⟩ = some (.int .i64 k) ∧ w'.cell? ⟨g2, 0, none⟩ = some (.int .i64 4)) (ds := []) (bz 16 0) (by kernel_rfl) rfl rfl ⟨HA2.out.cn, HA2.out.c0⟩ (fun hHeld => ?_)
  refine pz 0 (some 11) (bz 16 1) ?_
  refine pz 1 (some 12) (bz 16 3) ?_
  refine pz 2 (some 13) (bz 16 7) ?_
  refine pz 4 (some 15) (bz 16 23) ?_
  refine pz 5 (some 16) (bz 16 55) ?_
  refine pz 6 (some 17) (bz 16 119) ?_
  refine pz 7 (some 18) (bz 16 247) ?_
  refine tz2 3 (some 14) (bz 16 255) hHeld ?_
  refine tz2 8 (some 19) (bz 16 511) hHeld ?_
  refine pz 9 (some 20) (bz 16 1023) ?_
  refine one_ (i := 10) (N := some 21) (bz 16 2047) rfl rfl (by kernel_rfl) (by decide) (fun K hK => ?_)
  refine goes_ Tryz.func81 (by kernel_rfl) rfl #[.int .i64 k, .int .i64 (wrap64 256)] (by rfl) rfl rfl (by simp only [List.map_toArray, List.map_cons, List.map_nil]; rfl) ?_
  rw [show wrap64 256 = 256 by simp [wrap64]]
  with_reducible refine (pad_calls k hk).mono ?_
  rintro e w3 ⟨vp, rfl, hr, hb⟩
  refine ⟨_, rfl, ?_⟩
  have HA3 := Aside0.mk (HA2.out.below hb)
  have HP3 := Aside0.mk hr
  have HZ3 := Aside0.mk (show w0.heap.size ≤ w3.heap.size from HA3.out.b.size)
  have HZ2 := Aside0.mk (show w0.heap.size ≤ w2.drew.heap.size from HA2.out.b.size)
  clear hr hb
  refine hK.out _ _ ⟨HA3.out.cn, HA3.out.c0⟩ (fun hHeld => ?_)
  clear hK K
  refine norm_ (a' := ?_) ?_ ?_
  rotate_left
  · show Act.put _ (some 21) _ = _
    simp only [Act.put, List.setIfInBounds_toArray, List.set_cons_zero, List.set_cons_succ, i64_w, i32_w]
    rfl
  refine pz 11 (some 10) (bz 16 4095) ?_
  refine pz 12 (some 22) (bz 16 8191) ?_
  refine pz 13 (some 23) (bz 16 16383) ?_
  refine pz 14 (some 4) (bz 16 32767) ?_
  refine pz 15 (some 5) (bz 16 65535) ?_
  refine done_ (by kernel_rfl) ?_
  clear hHeld hw256
  obtain ⟨A3, c3, rfl, hpc, hp8⟩ := HP3.out.reads
  obtain ⟨A2, m2, c2, hc16, hr16⟩ := HA3.out.cr
  have HR2 := Aside0.mk (hr16 xs rfl)
  have HP8 := Aside0.mk hp8
  have hpl : (padM k).length ≤ 72 := by rw [padM_length]; exact padN_le k
  have HPL := Aside0.mk hpl
  clear hpc hr16 hp8 HP3 hpl
  obtain ⟨h5, hh5⟩ : ∃ h5, (takeF hv (xs ++ padM k)).1 = h5 := ⟨_, rfl⟩
  have HH5 := Lib.hid hh5
  go_wp2_with (first | ((with_reducible refine gate_builtin (b := .append) (xs := #[.tmp 28, .tmp 29]) rfl ?_); at_builtin; refine app8 (q := w0.heap.size) info5 Tryz.underlying22 rfl (.tmp 28) (.tmp 29) rfl _ _ _ _ _ _ rfl rfl HR2.out HP8.out ?aQ ?aL ?_; (case aQ => exact HZ3.out); (case aL => have := HX.out; have := HPL.out; omega); intro A4 c4 w4 hr4 hb4 hg4; have HA4 := Aside0.mk (HA3.out.grown HR2.out hg4 hb4); have HR4 := Aside0.mk (show RowAt w4 g2 (.slice A4 (xs.length + (padM k).length) c4) (xs ++ padM k) from by have h := HA4.out.rowAt hr4; rwa [List.length_append] at h); clear hr4 hb4 hg4) | (go_at_call 79; (with_reducible refine (take_calls hg.out _ HA4.out HR4.out (by have := HX.out; have := HPL.out; simp; omega)).mono ?_); rintro e w5 ⟨v5, rfl, hr5, ha5, hu5⟩; rw [hh5] at ha5; have HA5 := Aside0.mk ha5; have hc0 := HA5.out.c0; clear hr5 ha5 hu5 hh5))
  have HL5 := Aside0.mk HA5.out.hl
  have HA6 := Aside0.mk HA5.out.drew
  repeat (first | go_step | go_guarded | go_upon)
  refine start_ (n := 10) (S := fun w' => w'.rangeAt g2 0 narrowA.toList ∧ w'.rangeAt g2 17 (nums .u32 h5)) (ds := []) (bz 10 0) (by kernel_rfl) rfl rfl ⟨HA6.out.rs, HA6.out.rh⟩ (fun hHeld => ?_)
  refine pz 0 (some 38) (bz 10 1) ?_
  refine pz 1 (some 39) (bz 10 3) ?_
  refine pz 2 (some 40) (bz 10 7) ?_
  refine pz 4 (some 42) (bz 10 23) ?_
  refine pz 5 (some 43) (bz 10 55) ?_
  refine pz 6 (some 44) (bz 10 119) ?_
  refine take_ (i := 3) (N := some 41) (v := .agg narrowA) (a' := ?_) (bz 10 127) rfl rfl (by kernel_rfl) (fun _ _ _ h => h) (yieldsIf_load_mid (by rfl) 113 (.tmp 40) rfl g2 0 (by rfl) narrowA.toList _ (fun w' h => h.1) Tryz.underlying113 rfl (by kernel_rfl)) hHeld ?_ ?_
  rotate_left
  · simp only [Act.put, List.setIfInBounds_toArray, List.set_cons_zero, List.set_cons_succ, i64_w, i32_w]
    rfl
  refine take_ (i := 7) (N := some 45) (v := .agg (nums .u32 h5).toArray) (a' := ?_) (bz 10 255) rfl rfl (by kernel_rfl) (fun _ _ _ h => h) (yieldsIf_load_mid (by rfl) 117 (.tmp 44) rfl g2 17 (by rfl) (nums .u32 h5) _ (fun w' h => h.2) Tryz.underlying117 rfl (by rw [nums_length, HL5.out]; kernel_rfl)) hHeld ?_ ?_
  rotate_left
  · simp only [Act.put, List.setIfInBounds_toArray, List.set_cons_zero, List.set_cons_succ, i64_w, i32_w]
    rfl
  refine one_ (i := 8) (N := some 46) (bz 10 511) rfl rfl (by kernel_rfl) (by decide) (fun K hK => ?_)
  refine goes_ Tryz.func82 (by kernel_rfl) rfl #[.agg narrowA, .agg (nums .u32 h5).toArray] (by rfl) rfl rfl (by simp only [List.map_toArray, List.map_cons, List.map_nil]; rfl) ?_
  with_reducible refine (tell_calls h5 HL5.out).mono ?_
  rintro e w7 ⟨v7, rfl, hr, hb⟩
  refine ⟨_, rfl, ?_⟩
  have HA7 := Aside0.mk (HA6.out.below hb)
  have HR7 := Aside0.mk (hr.lower HA6.out.b.size)
  clear hr hb
  refine hK.out _ _ ⟨HA7.out.rs, HA7.out.rh⟩ (fun hHeld => ?_)
  clear hK K
  refine norm_ (a' := ?_) ?_ ?_
  rotate_left
  · show Act.put _ (some 46) _ = _
    simp only [Act.put, List.setIfInBounds_toArray, List.set_cons_zero, List.set_cons_succ, i64_w, i32_w]
    rfl
  refine pz 9 (some 2) (bz 10 1023) ?_
  refine done_ (by kernel_rfl) ?_
  clear hHeld
  go_wp2_with (fail)
  go_ret
  exact ⟨v7, rfl, by rw [sumM, HH5.out]; exact HR7.out, HA7.out.b⟩

def digestM (x y : List Int) : List Int :=
  sumM (takeF (takeF begin32L x).1 ((takeF begin32L x).2 ++ y)).1 (takeF (takeF begin32L x).1 ((takeF begin32L x).2 ++ y)).2 (x.length + y.length)
theorem HAt.upd_below {W : World} (h : HAt w0 w g n r hv) (hu : Upd w W (· = g)) : Below w0.heap.size w0 W := Upd.below (F := fun k => w0.heap.size ≤ k) ((Upd.of_below (F := fun k => w0.heap.size ≤ k) h.b).trans hu (fun k hk => .inl (by rw [hk]; exact h.lo))) (fun k hk => hk)
set_option maxHeartbeats 16000000 in
theorem digest_calls (hg0 : Glob w) (A A2 : Option Addr) (c c2 : Nat) (x y : List Int) (hx : C8 w A x) (hy : C8 w A2 y) (hl : x.length + y.length ≤ 1048576) :
    Calls Tryz.prog 61 #[.slice A x.length c, .slice A2 y.length c2] w fun e w' => SumPost w w' (digestM x y) e := by
  have hg := Aside0.mk hg0
  have HX := Aside0.mk (fun W (hW : Below w.heap.size w W) => Kd.C_below hx hW)
  have HY := Aside0.mk (fun W (hW : Below w.heap.size w W) => Kd.C_below hy hW)
  have HL := Aside0.mk hl
  have HT := Aside0.mk (takeF_len begin32L _ x (Nat.le_refl _))
  have HT2 := Aside0.mk (takeF_len (takeF begin32L x).1 _ ((takeF begin32L x).2 ++ y) (Nat.le_refl _))
  clear hx hy hg0 hl
  go_enter Tryz.func61, Tryz.ntmps61
  go_wp2_with (first | (go_at_call 73; (with_reducible refine (new_calls hg.out).mono ?_); rintro e w1 ⟨g, rfl, ha1⟩; have HA1 := Aside0.mk ha1; clear ha1) | (go_at_call 74; (with_reducible refine (write_calls hg.out HA1.out (by decide) A c x (by have := HL.out; omega) (by decide) (fun W hW => HX.out W (HA1.out.upd_below hW))).mono ?_); rintro e w2 ⟨rfl, ha2, _⟩; have HA2 := Aside0.mk (show HAt w w2 g (x.length : Int) (some (takeF begin32L x).2) (takeF begin32L x).1 from by have h := ha2; rw [List.nil_append, Int.zero_add] at h; exact h); clear ha2) | (go_at_call 74; (with_reducible refine (write_calls hg.out HA2.out (by omega) A2 c2 y (by have := HL.out; omega) (by have := HT.out; omega) (fun W hW => HY.out W (HA2.out.upd_below hW))).mono ?_); rintro e w3 ⟨rfl, ha3, _⟩; have HA3 := Aside0.mk (show HAt w w3 g ((x.length + y.length : Nat) : Int) _ _ from by have h := ha3; rw [← Int.natCast_add] at h; exact h); clear ha3) | (go_at_call 75; (with_reducible refine (sum_calls hg.out (x.length + y.length) HL.out HA3.out HT2.out.2).mono ?_); rintro e w4 hs; rcases hs with ⟨v4, rfl, hr4, hb4⟩; have hs := (show SumPost w w4 (digestM x y) (.returned v4) from ⟨v4, rfl, hr4, hb4⟩); clear hr4 hb4))
  go_ret
  exact hs

end Go.Proofs.YtmblnflfklmmkaaGreatDoor.Sh
/- Plain facts: the reference's words, turned by quotients and rests, are the program's. -/
namespace Go.Proofs.YtmblnflfklmmkaaGreatDoor.Sh
open Go.Proofs.YtmblnflfklmmkaaGreatDoor.Dk Go.Proofs.YtmblnflfklmmkaaGreatDoor.P
open Go.RowKit Go.Proofs.YtmblnflfklmmkaaGreatDoorW.PrintWords Go.Proofs.YtmblnflfklmmkaaGreatDoorW.PrintLast Go.Proofs.YtmblnflfklmmkaaGreatDoorW.PrintMore
set_option linter.unusedVariables false
set_option linter.unusedSimpArgs false
set_option maxRecDepth 30000
theorem wrap32 (x : Int) : IntKind.u32.wrap x = x % 4294967296 := IntKind.wrap_u32 x
theorem wrap64u (x : Int) : IntKind.u64.wrap x = x % 18446744073709551616 := IntKind.wrap_u64 x
end Go.Proofs.YtmblnflfklmmkaaGreatDoor.Sh
/- Contracts of package store: number, put. -/
namespace Go.Proofs.YtmblnflfklmmkaaGreatDoor.Sh
open Go.Proofs.YtmblnflfklmmkaaGreatDoor.Dk
open Go.RowKit Go.Proofs.YtmblnflfklmmkaaGreatDoorW.PrintWords Go.Proofs.YtmblnflfklmmkaaGreatDoorW.PrintLast Go.Proofs.YtmblnflfklmmkaaGreatDoorW.PrintMore
set_option linter.unusedVariables false
set_option linter.unusedSimpArgs false
set_option maxRecDepth 30000

variable {w w0 w1 w2 wr : World} {g o c : Nat} {n : Int} {xs : List Int}
/-- One more byte. -/
def num1 (n c : Int) : Int := Go.bits .or .u64 (IntKind.u64.wrap (n * 256)) (IntKind.u64.wrap c)
def numM (xs : List Int) : Int := xs.foldl num1 0
theorem numM_take {i : Nat} (h : i < xs.length) : numM (xs.take (i + 1)) = num1 (numM (xs.take i)) (xs.getD i 0) := by
  unfold numM
  rw [List.take_succ_eq_append_getElem h, List.foldl_append, List.getD_eq_getElem?_getD, List.getElem?_eq_getElem h]
  rfl
set_option maxHeartbeats 16000000 in
theorem number_calls (h : Bys w g o xs) (hx : xs.length ≤ 1000) (hc : xs.length ≤ c) : Calls Tryz.prog 69 #[.slice (some ⟨g, o, none⟩) xs.length c] w fun e w' => e = .returned (.int .u64 (numM xs)) ∧ w = w' := by
  have H := Aside0.mk h
  clear h
  go_enter Tryz.func69, Tryz.ntmps69
  go_wp2_with (fail)
  go_loop [3, 5, 8] (fun v3 v5 v8 => ∃ i : Nat, v8 = .int .i64 i ∧ i ≤ xs.length ∧ v3 = .int .u64 (numM (xs.take i))) (fun v3 v5 v8 => xs.length - (intOf v8).toNat)
  case atStart => exact ⟨0, rfl, Nat.zero_le _, rfl⟩
  case round =>
    obtain ⟨i, rfl, hi, rfl⟩ := hrel
    by_cases hlt : i < xs.length
    · have hq : decide ((i : Int) < (xs.length : Int)) = true := decide_eq_true (by omega)
      obtain ⟨y, hy⟩ : ∃ y, xs.getD i 0 = y := ⟨_, rfl⟩
      obtain ⟨a, ha⟩ : ∃ a, numM (xs.take i) = a := ⟨_, rfl⟩
      have hb := hy ▸ H.out i hlt
      have HN := Aside0.mk (show numM (xs.take (i + 1)) = num1 a y by rw [numM_take hlt, ha, hy])
      rw [ha]
      clear hy ha
      go_wp2_with (fail)
      go_round
      case rel => exact ⟨i + 1, by go_num, by omega, by rw [HN.out]; rfl⟩
      case measure => simp [intOf]; omega
    · obtain rfl : i = xs.length := by omega
      have hq : decide ((xs.length : Int) < (xs.length : Int)) = false := decide_eq_false (by omega)
      have hp : xs.take xs.length = xs := List.take_length
      rw [hp]
      clear hp
      go_wp2_with (fail)
      go_ret
      exact ⟨rfl, rfl⟩
/-- Bytes, the greatest first. -/
def beM : Nat → Int → List Int
  | 0, _ => []
  | m + 1, n => beM m (n / 256) ++ [n % 256]
theorem beM_length : ∀ (m : Nat) (n : Int), (beM m n).length = m
  | 0, _ => rfl
  | m + 1, n => by rw [beM, List.length_append, beM_length m]; rfl
def shN (n : Int) : Nat → Int
  | 0 => n
  | j + 1 => shN n j / 256
def putR (hs : List Int) (o m : Nat) (n : Int) : Nat → List Int
  | 0 => hs
  | j + 1 => (putR hs o m n j).set (o + (m - 1 - j)) (shN n j % 256)
theorem putR_length (hs : List Int) (o m : Nat) (n : Int) : ∀ j, (putR hs o m n j).length = hs.length
  | 0 => rfl
  | j + 1 => by rw [putR, List.length_set]; exact putR_length hs o m n j
theorem shN_nonneg {n : Int} (h : 0 ≤ n) : ∀ j, 0 ≤ shN n j ∧ shN n j ≤ n
  | 0 => ⟨h, Int.le_refl _⟩
  | j + 1 => by have := shN_nonneg h j; rw [shN]; omega
def PutPost (w w' : World) (g t : Nat) (hs : List Int) (e : Ending) : Prop := e = .returned (.tuple #[]) ∧ w'.heap[g]? = some (.cells (nums .u8 hs).toArray t (0, 0)) ∧ Upd w w' (· = g)
set_option maxHeartbeats 16000000 in
theorem put_calls {t : Nat} (hs : List Int) (m : Nat) (hb : w.heap[g]? = some (.cells (nums .u8 hs).toArray t (0, 0))) (hm : o + m ≤ hs.length) (hm1 : 1 ≤ m) (hm2 : m ≤ 1000) (hn : 0 ≤ n) (hn2 : n ≤ 18446744073709551615) :
    Calls Tryz.prog 60 #[.slice (some ⟨g, o, none⟩) m c, .int .u64 n] w fun e w' => PutPost w w' g t (putR hs o m n m) e := by
  have HB := Aside0.mk hb
  have HM := Aside0.mk hm
  have HN := Aside0.mk (shN_nonneg hn)
  have HN2 := Aside0.mk hn2
  clear hb hm hn2
  go_enter Tryz.func60, Tryz.ntmps60
  go_wp2_with (fail)
  go_loopw [1, 4] (fun v1 v4 w' => ∃ j : Nat, v1 = .int .u64 (shN n j) ∧ v4 = .int .i64 ((m : Int) - 1 - j) ∧ j ≤ m ∧ Aside0 (w'.heap[g]? = some (.cells (nums .u8 (putR hs o m n j)).toArray t (0, 0))) ∧ Aside0 (Upd w w' (· = g))) (fun v1 v4 _ => (1 + intOf v4).toNat)
  case atStart => exact ⟨0, rfl, by simp, Nat.zero_le _, HB, ⟨Upd.refl _ _⟩⟩
  case round =>
    clear HB
    obtain ⟨j, rfl, rfl, hj, HB, HU⟩ := hrel
    by_cases hlt : j < m
    · obtain ⟨k, hk⟩ : ∃ k : Nat, k = m - 1 - j := ⟨_, rfl⟩
      have hkj : (m : Int) - 1 - j = k := by omega
      have hkm : (k : Int) < m := by omega
      have HQ := Aside0.mk (show m - 1 - j = k from hk.symm)
      have hc := cell_nums HB.out (i := o + k) (by rw [putR_length]; have := HM.out; omega)
      have hf := free_row HB.out (o + k)
      have hx0 := (HN.out j).1
      have hx1 : shN n j ≤ 18446744073709551615 := by have := (HN.out j).2; have := HN2.out; omega
      obtain ⟨x, hx⟩ : ∃ x, shN n j = x := ⟨_, rfl⟩
      have HX := Lib.hid hx
      rw [hx] at hx0 hx1
      have HS := Aside0.mk (show (wr.setCell ⟨g, o + k, none⟩ (.int .u8 (x % 256))).heap[g]? = some (.cells (nums .u8 (putR hs o m n (j + 1))).toArray t (0, 0)) from by
        have h := put_cell HB.out (o + k) (.int .u8 (x % 256))
        rw [nums_set] at h
        rw [putR, HQ.out, hx]
        exact h)
      have HU2 := Aside0.mk (HU.out.trans (upd_cell wr g (o + k) (.int .u8 (x % 256))) (fun _ h => .inl h))
      have HK2 := Aside0.mk (show (k : Int) - 1 = (m : Int) - 1 - (j + 1 : Nat) by omega)
      rw [hkj, hx]
      clear hkj hk hx
      have h0k : (0 : Int) ≤ k := by omega
      go_wp2_with (fail)
      go_roundw
      case rel => exact ⟨j + 1, by rw [shN, HX.out], congrArg _ HK2.out, by omega, HS, HU2⟩
      case measure => simp [intOf]; omega
    · obtain rfl : j = m := by omega
      have hkj : (j : Int) - 1 - j = -1 := by omega
      rw [hkj]
      clear hkj
      go_wp2_with (fail)
      go_end0
      exact ⟨rfl, HB.out, HU.out⟩

end Go.Proofs.YtmblnflfklmmkaaGreatDoor.Sh
/- Contracts of package store: headOf. -/
namespace Go.Proofs.YtmblnflfklmmkaaGreatDoor.Sh
open Go.Proofs.YtmblnflfklmmkaaGreatDoor.Dk
open Go.RowKit Go.Proofs.YtmblnflfklmmkaaGreatDoorW.PrintWords Go.Proofs.YtmblnflfklmmkaaGreatDoorW.PrintLast Go.Proofs.YtmblnflfklmmkaaGreatDoorW.PrintMore
set_option linter.unusedVariables false
set_option linter.unusedSimpArgs false
set_option maxRecDepth 30000

variable {w w0 w1 w2 wr : World} {g q o c : Nat} {n : Int} {xs hs : List Int}
def z59 : Array Value := (nums .u8 (List.replicate 64 0)).toArray
theorem run_alloc59 (w : World) : (Instr.alloc 80 true (.tuple #[])).run Tryz.prog w = .ok (.pointer (some ⟨w.heap.size, 0, none⟩)) (w.alloc (.cells z59 80)) := by kernel_rfl
theorem info59 (x : List Int) (h : x.length = 64) : (Tryz.prog.info? 80).map (·.size) = some (nums .u8 x).toArray.size := by rw [List.size_toArray, nums_length, h]; kernel_rfl
theorem u8_one (x : List Int) : ((nums .u8 x).toArray : Array Value).all (·.oneCell') = true := by
  simp [nums, List.all_eq_true]
  intro a _
  rfl
theorem tellM_length {h : List Int} (hl : h.length = 8) : (tellM h).length = 32 := by
  have : ∀ l : List Int, (l.flatMap tell1).length = 4 * l.length := by
    intro l
    induction l with
    | nil => rfl
    | cons a l ih => rw [List.flatMap_cons, List.length_append, ih]; simp [tell1]; omega
  rw [tellM, this, hl]
theorem takeF_h (hv : List Int) (h8 : hv.length = 8) : ∀ (k : Nat) (xs : List Int), xs.length ≤ k → (takeF hv xs).1.length = 8 := by
  intro k
  induction k generalizing hv with
  | zero => intro xs hk; rw [takeF_lt (by omega)]; exact h8
  | succ k ih =>
    intro xs hk
    by_cases h : 64 ≤ xs.length
    · rw [takeF_ge h]
      exact ih _ (mixM_length h8) _ (by simp; omega)
    · rw [takeF_lt (by omega)]; exact h8
theorem digestM_length (x y : List Int) : (digestM x y).length = 32 := by
  have h1 := takeF_h begin32L begin32L_length _ x (Nat.le_refl _)
  have h2 := takeF_h _ h1 _ ((takeF begin32L x).2 ++ y) (Nat.le_refl _)
  exact tellM_length (takeF_h _ h2 _ _ (Nat.le_refl _))
structure Hd (w w' : World) (hs : List Int) : Prop where
  b0 : w'.heap[w.heap.size]? = some (.cells z59 80 (0, 0))
  b1 : w'.heap[w.heap.size + 1]? = some (.cells (nums .u8 hs).toArray 80 (0, 0))
  l : hs.length = 64
  b : Below w.heap.size w w'
theorem Hd.below (h : Hd w w1 hs) (hb : Below w1.heap.size w1 w2) : Hd w w2 hs := ⟨blk_below h.b0 hb, blk_below h.b1 hb, h.l, h.b.trans (hb.mono h.b.size)⟩
theorem Hd.upd {hs' : List Int} (h : Hd w w1 hs) (hb : w2.heap[w.heap.size + 1]? = some (.cells (nums .u8 hs').toArray 80 (0, 0))) (hl : hs'.length = 64) (hu : Upd w1 w2 (· = w.heap.size + 1)) : Hd w w2 hs' := by
  have hlt := blk_lt h.b0
  refine ⟨(hu.block _ hlt (by omega)).trans h.b0, hb, hl, ?_⟩
  exact Upd.below (F := fun k => w.heap.size ≤ k) ((Upd.of_below (F := fun k => w.heap.size ≤ k) h.b).trans hu (fun k hk => .inl (by rw [hk]; omega))) (fun k hk => hk)
theorem Hd.bys (h : Hd w w1 hs) {o m : Nat} (hm : o + m ≤ 64) : Bys w1 (w.heap.size + 1) o ((hs.drop o).take m) := fun j hj => by
  rw [List.length_take, List.length_drop, h.l] at hj
  rw [cell_nums h.b1 (i := o + j) (by rw [h.l]; omega)]
  simp [List.getD_eq_getElem?_getD, List.getElem?_take, show j < m by omega]
def mark60 : List Int := [73, 77, 80, 82] ++ List.replicate 60 0
theorem copy_mark (W : World) (h : W.heap[q]? = some (.cells z59 80 (0, 0))) (ty : TypeId) : (Builtin.copy_ #[22, 9] ty #[.slice (some ⟨q, 0, none⟩) 64 64, .string { data := #[73, 77, 80, 82] }]).run Tryz.prog W = .ok (.int .i64 4) (W.setRow q (nums .u8 mark60).toArray) := by
  have := Lib.run_copy_row_string (P := Tryz.prog) W 22 9 ty 5 q 0 64 64 { data := #[73, 77, 80, 82] } z59 80 Tryz.underlying22 (by kernel_rfl) h (show 4 ≤ 64 by decide) (show 0 + 4 ≤ z59.size by simp [z59, nums_length])
  rw [this]
  rfl
theorem upd_row (w : World) (g : Nat) (cs : Array Value) : Upd w (w.setRow g cs) (· = g) := upd_setRow w g cs
theorem copy_dig {d : List Int} {g5 c5 : Nat} {W : World} (h : Hd w W hs) (hd : d.length = 32) (hc : d.length ≤ c5) (hx : ∀ j, j < d.length → W.cell? ⟨g5, j, none⟩ = some (.int .u8 (d.getD j 0))) (ty : TypeId) :
    (Builtin.copy_ #[22, 22] ty #[.slice (some ⟨w.heap.size + 1, 16, none⟩) 32 48, .slice (some ⟨g5, 0, none⟩) d.length c5]).run Tryz.prog W = .ok (.int .i64 32) (W.setCells (w.heap.size + 1) 16 (nums .u8 d)) := by
  have hl : (nums IntKind.u8 d).length = 32 := by rw [nums_length, hd]
  have := run_copy_cells (P := Tryz.prog) W 22 22 ty 5 (w.heap.size + 1) 16 32 48 ⟨g5, 0, none⟩ d.length c5 (nums .u8 d) Tryz.underlying22 (by kernel_rfl) (by rw [hl, hd]; rfl)
    (fun j v hj => by
      have hlt := (List.getElem?_eq_some_iff.1 hj).1
      rw [nums_length] at hlt
      rw [add0, hx j hlt, ← hj]
      simp [nums, List.getD_eq_getElem?_getD, hlt])
    (fun j hj => by rw [cell_nums h.b1 (by rw [h.l]; omega)]; rfl) (fun j hj => free_row h.b1 _) (fun v hv => by
      simp only [nums, List.mem_map] at hv
      obtain ⟨_, _, rfl⟩ := hv
      rfl)
  rw [this, hl]
  rfl
theorem Hd.dig {d : List Int} {W : World} (h : Hd w W hs) (hd : d.length = 32) : Hd w (W.setCells (w.heap.size + 1) 16 (nums .u8 d)) (hs.take 16 ++ d ++ hs.drop 48) := by
  obtain ⟨cur', c1, c2, c3⟩ := setCells_row (nums .u8 d) 16 W _ h.b1 (by simp [nums_length, hd, h.l])
  refine h.upd ?_ (by simp [h.l, hd]) (setCells_upd _ 16 _ W)
  rw [c1]
  congr 2
  apply Array.toList_inj.1
  rw [c3]
  simp [nums, List.map_take, List.map_drop, hd]
def hgen (h : List Int) : List Int := (h.drop 4).take 8
def headR (g : Int) (y : List Int) : List Int := putR (putR mark60 4 8 g 8) 12 4 y.length 4
def headM (g : Int) (y : List Int) : List Int := (headR g y).take 16 ++ digestM (hgen (headR g y)) y ++ (headR g y).drop 48
theorem headR_length (g : Int) (y : List Int) : (headR g y).length = 64 := by rw [headR, putR_length, putR_length]; rfl
theorem headM_length (g : Int) (y : List Int) : (headM g y).length = 64 := by simp [headM, headR_length, digestM_length]
set_option maxHeartbeats 16000000 in
theorem headOf_calls (hg : Glob w) (gen : Int) (h0 : 0 ≤ gen) (h1 : gen ≤ 18446744073709551615) (A : Option Addr) (c : Nat) (y : List Int) (hy : C8 w A y) (hl : y.length ≤ 1000000) :
    Calls Tryz.prog 44 #[.int .u64 gen, .slice A y.length c] w fun e w' => e = .returned (.agg (nums .u8 (headM gen y)).toArray) ∧ Below w.heap.size w w' := by
  have HG := Aside0.mk hg
  have HY := Aside0.mk (fun W (hW : Below w.heap.size w W) => Kd.C_below hy hW)
  have HGN := Aside0.mk (And.intro h0 h1)
  have HYL := Aside0.mk hl
  have HD0 := Aside0.mk (show Hd w ((w.alloc (.cells z59 80)).alloc (.cells z59 80)) (List.replicate 64 0) from ⟨blk_below (heap_alloc_new w _) (below_alloc (Below.refl _ _) _), nth2_1 w _ _, by simp, below_alloc (below_alloc (Below.refl _ _) _) _⟩)
  have HCM := Aside0.mk (copy_mark (q := w.heap.size + 1) ((w.alloc (.cells z59 80)).alloc (.cells z59 80)) HD0.out.b1)
  have HD1 := Aside0.mk (HD0.out.upd (w2 := ((w.alloc (.cells z59 80)).alloc (.cells z59 80)).setRow (w.heap.size + 1) (nums .u8 mark60).toArray) (hs' := mark60) (setRow_heap _ _ _ _ _ _ HD0.out.b1) rfl (upd_row _ _ _))
  clear hg hy
  go_enter Tryz.func44, Tryz.ntmps44
  go_wp2_with (first | ((with_reducible refine alloc_at (e := 80) ?_ ?_ (run_alloc59 _) ?_); exact rfl; exact rfl) | ((with_reducible refine copy_at (s := .tmp 6) (x := .const (.string { data := #[73, 77, 80, 82] })) (t := 22) (t' := 9) ?_ ?_ HCM.out ?_ ?_ ?_); exact rfl; exact rfl; exact rfl; exact rfl; generalize ((w.alloc (.cells z59 80)).alloc (.cells z59 80)).setRow (w.heap.size + 1) (nums .u8 mark60).toArray = w1 at HD1 ⊢; clear HCM HD0) | (go_at_call 60; (with_reducible refine (put_calls (o := 4) (c := 60) mark60 8 HD1.out.b1 (by decide) (by decide) (by decide) HGN.out.1 HGN.out.2).mono ?_); rintro e w2 ⟨rfl, hb2, hu2⟩; have HD2 := Aside0.mk (HD1.out.upd hb2 (by rw [putR_length]; rfl) hu2); clear hb2 hu2) | (go_at_call 60; (with_reducible refine (put_calls (o := 12) (c := 52) (n := (y.length : Int)) (putR mark60 4 8 gen 8) 4 HD2.out.b1 (by rw [putR_length]; decide) (by decide) (by decide) (by omega) (by have := HYL.out; omega)).mono ?_); rintro e w3 ⟨rfl, hb3, hu3⟩; have HD3 := Aside0.mk (show Hd w w3 (headR gen y) from HD2.out.upd hb3 (headR_length _ _) hu3); clear hb3 hu3))
  obtain ⟨q, hq⟩ : ∃ q, w.heap.size + 1 = q := ⟨_, rfl⟩
  rw [hq]
  have HQ := Lib.hid hq
  have HD4 := Aside0.mk (show Hd w w3.drew (headR gen y) from HD3.out.below (below_drew (Below.refl _ _)))
  have HG5 := Aside0.mk (HG.out.below HD4.out.b)
  have HY5 := Aside0.mk (HY.out _ HD4.out.b)
  have HL8 := Aside0.mk (show (hgen (headR gen y)).length = 8 by rw [hgen, List.length_take, List.length_drop, headR_length]; rfl)
  have HC4 := Aside0.mk (show C8 w3.drew (some ⟨q, 4, none⟩) (hgen (headR gen y)) from by rw [← hq]; exact C_bys (HD4.out.bys (o := 4) (m := 8) (by decide)) (by show (hgen (headR gen y)).length ≤ _; rw [HL8.out]; decide))
  have hyl := HYL.out
  clear hq
  repeat (first | go_step | go_guarded | go_upon)
  refine start_ (n := 5) (S := fun w' => True) (ds := []) (bz 5 0) (by kernel_rfl) rfl rfl trivial (fun hHeld => ?_)
  refine pz 0 (some 16) (bz 5 1) ?_
  refine pz 1 (some 17) (bz 5 3) ?_
  refine pz 2 (some 18) (bz 5 7) ?_
  refine one_ (i := 3) (N := some 19) (bz 5 15) rfl rfl (by kernel_rfl) (by decide) (fun K hK => ?_)
  refine goes_ Tryz.func61 (by kernel_rfl) rfl #[.slice (some ⟨q, 4, none⟩) 8 60, .slice A y.length c] (by rfl) rfl rfl (by simp only [List.map_toArray, List.map_cons, List.map_nil]; rfl) ?_
  with_reducible refine (calls_of_args (args' := #[.slice (some ⟨q, 4, none⟩) (hgen (headR gen y)).length 60, .slice A y.length c]) (by rw [HL8.out]) (digest_calls HG5.out (some ⟨q, 4, none⟩) A 60 c (hgen (headR gen y)) y HC4.out HY5.out (by rw [HL8.out]; omega))).mono ?_
  rintro e w5 ⟨v5, rfl, hr5, hb5⟩
  refine ⟨_, rfl, ?_⟩
  have HD5 := Aside0.mk (HD4.out.below hb5)
  obtain ⟨g5, c5, rfl, _, _, hc5, _, hx5⟩ := hr5.form (by rw [digestM_length]; decide)
  have HCP := Aside0.mk (HQ.out ▸ copy_dig HD5.out (digestM_length _ _) hc5 hx5)
  clear hr5 hb5
  refine hK.out _ _ trivial (fun hHeld => ?_)
  clear hK K
  refine norm_ (a' := ?_) ?_ ?_
  rotate_left
  · show Act.put _ (some 19) _ = _
    simp only [Act.put, List.setIfInBounds_toArray, List.set_cons_zero, List.set_cons_succ, i64_w, i32_w]
    rfl
  refine one_ (i := 4) (N := some 20) (bz 5 31) rfl rfl (by kernel_rfl) (by decide) (fun K hK => ?_)
  refine copy_step (by rfl) rfl (.tmp 16) (.tmp 19) 22 22 rfl rfl rfl HCP.out ?_
  refine hK.out _ _ trivial (fun hHeld => ?_)
  clear hK K
  refine norm_ (a' := ?_) ?_ ?_
  rotate_left
  · show Act.put _ (some 20) _ = _
    simp only [Act.put, List.setIfInBounds_toArray, List.set_cons_zero, List.set_cons_succ, i64_w, i32_w]
    rfl
  refine done_ (by kernel_rfl) ?_
  clear hHeld
  have HD6 := Aside0.mk (show Hd w (w5.setCells q 16 (nums .u8 (digestM (hgen (headR gen y)) y))) (headM gen y) from HQ.out ▸ HD5.out.dig (digestM_length _ _))
  generalize w5.setCells q 16 (nums .u8 (digestM (hgen (headR gen y)) y)) = w6 at HD6 ⊢
  have HL6 := Aside0.mk (run_loadAt_cells (P := Tryz.prog) (w := w6) 80 Tryz.underlying80 rfl q 0 (nums .u8 (headM gen y)) (by rw [nums_length, headM_length]; kernel_rfl) (fun j u hu => by rw [Nat.zero_add, ← HQ.out, cell_of_row _ _ j _ _ _ HD6.out.b1]; simpa using hu))
  have HST6 := Aside0.mk (run_store_block (P := Tryz.prog) (w := w6) w.heap.size 80 z59 (nums .u8 (headM gen y)).toArray 80 HD6.out.b0 (info59 _ (headM_length _ _)) (by simp [z59, nums_length, headM_length]) (u8_one _))
  go_wp2_with (first | ((with_reducible refine load_at (ty := 80) (.tmp 5) ?_ ?_ HL6.out ?_ ?_); exact rfl; exact rfl; exact rfl) | ((with_reducible refine store_at (ty := 80) (.tmp 4) (.tmp 21) ?_ ?_ ?_ HST6.out ?_ ?_ ?_); exact rfl; exact rfl; exact rfl; exact rfl; exact rfl))
  refine bodyPost_ret (results_cell_row rfl _ _ _ _ (nums .u8 (headM gen y)).toArray _ _ rfl (setRow_heap _ _ _ _ _ _ HD6.out.b0) Tryz.underlying80 rfl (info59 _ (headM_length _ _))) rfl ?_
  exact ⟨rfl, below_row HD6.out.b (Nat.le_refl _) _⟩

end Go.Proofs.YtmblnflfklmmkaaGreatDoor.Sh
/- A store in memory; contracts of package store: place, Room, ready. -/
namespace Go.Proofs.YtmblnflfklmmkaaGreatDoor.Sh
open Go.Proofs.YtmblnflfklmmkaaGreatDoor.Dk
open Go.RowKit Go.Proofs.YtmblnflfklmmkaaGreatDoorW.PrintWords Go.Proofs.YtmblnflfklmmkaaGreatDoorW.PrintLast Go.Proofs.YtmblnflfklmmkaaGreatDoorW.PrintMore
set_option linter.unusedVariables false
set_option linter.unusedSimpArgs false
set_option maxRecDepth 30000

section
variable {P : Program} (w : World)
theorem all_range_eqI : ∀ (xs ys : List Int), xs.length = ys.length → ((List.range xs.length).all fun i => xs.getD i 0 == ys.getD i 0) = (xs == ys)
  | [], [], _ => rfl
  | x :: xs, y :: ys, h => by
    have ih := all_range_eqI xs ys (by simpa using h)
    rw [List.length_cons, List.range_succ_eq_map, List.all_cons, List.all_map]
    simp only [List.getD_cons_zero, Function.comp_def, List.getD_cons_succ, ih]
    simp [List.cons_beq_cons]
  | [], _ :: _, h => by simp at h
  | _ :: _, [], h => by simp at h
theorem run_equalIn_nums (d : Nat) (t e : TypeId) (n : Nat) (ht : P.underlying t = some (.array n e)) (he : P.underlying e = some (.int .u8)) (hsz : ∀ w, (sizeOf e).run P w = .ok 1 w)
    (xs ys : List Int) (hx : xs.length = n) (hy : ys.length = n) :
    (Op.equalIn (d + 2) t (.agg (nums .u8 xs).toArray) (.agg (nums .u8 ys).toArray)).run P w = .ok (xs == ys) w := by
  rw [← all_range_eqI xs ys (hx.trans hy.symm), hx, List.range_eq_range', Op.equalIn]
  simp only [Sem.run_bind, run_underlying ht, Result.andThen_ok, hsz, Std.Legacy.Range.forIn_eq_forIn_range', Std.Legacy.Range.size, Nat.sub_zero, Nat.add_sub_cancel, Nat.div_one]
  have hl : ∀ i ∈ List.range' 0 n 1, i < n := fun i hi => by simpa using (List.mem_range'_1.1 hi).2
  generalize List.range' 0 n 1 = l at hl ⊢
  induction l with
  | nil => simp
  | cons i l ih =>
    have hi : i < n := hl i (by simp)
    have px : (part e (nums .u8 xs).toArray (i * 1)).run P w = .ok (.int .u8 (xs.getD i 0)) w := by
      simp [part, isAgg, run_underlying he, nums, List.getD, List.getElem?_eq_getElem (show i < xs.length by omega)]
    have py : (part e (nums .u8 ys).toArray (i * 1)).run P w = .ok (.int .u8 (ys.getD i 0)) w := by
      simp [part, isAgg, run_underlying he, nums, List.getD, List.getElem?_eq_getElem (show i < ys.length by omega)]
    have pe : (Op.equalIn (d + 1) e (.int .u8 (xs.getD i 0)) (.int .u8 (ys.getD i 0))).run P w = .ok (xs.getD i 0 == ys.getD i 0) w := by
      rw [run_equalIn_int w d e .u8 .u8 _ _ he]
    simp only [List.forIn_cons, Sem.run_bind, px, py, pe, Result.andThen_ok, List.all_cons]
    cases hb : (xs.getD i 0 == ys.getD i 0)
    · simp
    · simp only [Bool.not_true, Bool.false_eq_true, if_false, Sem.run_pure, Result.andThen_ok, Bool.true_and]
      exact ih fun j hj => hl j (by simp [hj])
end
variable {w w0 w1 w2 wr : World} {B s g : Nat} {F : Nat → Prop} {D D' : DM} {fr n : Int} {xs hs : List Int}
/-- A store in memory: its struct in block s, its disk. -/
structure SAt (w : World) (B s g : Nat) (F : Nat → Prop) (D : DM) (fr n : Int) : Prop where
  blk : w.heap[s]? = some (.cells #[.pointer (some ⟨g, 0, none⟩), .int .i64 fr, .int .i64 n] 60 (0, 0))
  d : DiskAt w B g F D
  nF : ¬ F s
theorem SAt.c0 (h : SAt w B s g F D fr n) : w.cell? ⟨s, 0, none⟩ = some (.pointer (some ⟨g, 0, none⟩)) := by rw [cell_of_row _ _ _ _ _ _ h.blk]; rfl
theorem SAt.c1 (h : SAt w B s g F D fr n) : w.cell? ⟨s, 1, none⟩ = some (.int .i64 fr) := by rw [cell_of_row _ _ _ _ _ _ h.blk]; rfl
theorem SAt.c2 (h : SAt w B s g F D fr n) : w.cell? ⟨s, 2, none⟩ = some (.int .i64 n) := by rw [cell_of_row _ _ _ _ _ _ h.blk]; rfl
theorem SAt.below (h : SAt w B s g F D fr n) (hb : Below w.heap.size w w1) : SAt w1 B s g F D fr n := ⟨blk_below h.blk hb, DiskAt.frame h.d (G := fun _ => False) (Upd.of_below hb) (fun _ _ _ h => h), h.nF⟩
theorem SAt.post (h : SAt w B s g F D fr n) (hp : DPost w w1 B g F D') : ∃ F', (∀ k, F' k → F k ∨ w.heap.size ≤ k) ∧ SAt w1 B s g F' D' fr n ∧ Upd w w1 F := by
  obtain ⟨F', hF, hd, hu⟩ := hp
  have hlt := blk_lt h.blk
  refine ⟨F', hF, ⟨(hu.block s hlt h.nF).trans h.blk, hd, fun hs => ?_⟩, hu⟩
  rcases hF s hs with h1 | h1
  · exact h.nF h1
  · omega
/-- A store that fits its disk. -/
structure SOk (D : DM) (fr n : Int) : Prop where
  d : DOk D
  hf : 0 ≤ fr
  hn : 2 ≤ n
  hl : fr + 2 * n ≤ (D.sec.length : Int)
  hz : D.sec.length ≤ 1000
theorem place_calls (h : SAt w B s g F D fr n) (hk : SOk D fr n) (k : Int) (hk0 : 0 ≤ k) (hk1 : k ≤ 1) : Calls Tryz.prog 42 #[.pointer (some ⟨s, 0, none⟩), .int .i64 k] w fun e w' => e = .returned (.int .i64 (fr + k * n)) ∧ Below w.heap.size w w' := by
  have hn := hk.hn
  have hf := hk.hf
  have hl := hk.hl
  have hz := hk.hz
  obtain ⟨kn, hkn⟩ : ∃ kn, k * n = kn := ⟨_, rfl⟩
  have hkn1 : 0 ≤ kn ∧ kn ≤ n := by
    obtain rfl | rfl : k = 0 ∨ k = 1 := by omega
    · simp at hkn; omega
    · simp at hkn; omega
  obtain ⟨q, hq⟩ : ∃ q, fr + kn = q := ⟨_, rfl⟩
  have HQ := Lib.hid (show fr + k * n = q by rw [hkn, hq])
  have h1 : wrap64 (k * n) = kn := by rw [hkn]; unfold wrap64; omega
  have h1' : IntKind.i64.wrap (k * n) = kn := (i64_w _).trans h1
  have h2 : wrap64 (fr + kn) = q := by rw [hq]; unfold wrap64; omega
  have h2' : IntKind.i64.wrap (fr + kn) = q := (i64_w _).trans h2
  have c1 := h.c1
  have c2 := h.c2
  clear h hk hkn hkn1 hq hl hz hn hf
  go_enter Tryz.func42, Tryz.ntmps42
  go_wp2
  go_quiet (fail)
  go_wp2
  go_ret
  exact ⟨by rw [HQ.out] <;> rfl, pw_below_drewN (Below.refl _ _) _⟩
theorem room_calls (h : SAt w B s g F D fr n) (hk : SOk D fr n) : Calls Tryz.prog 9 #[.pointer (some ⟨s, 0, none⟩)] w fun e w' => e = .returned (.int .i64 (64 * (n - 1))) ∧ w = w' := by
  have hn := hk.hn
  have hf := hk.hf
  have hl := hk.hl
  have hz := hk.hz
  have c2 := h.c2
  clear h hk
  go_enter Tryz.func9, Tryz.ntmps9
  go_wp2
  go_ret
  exact ⟨rfl, rfl⟩
theorem sready_calls (h : SAt w B s g F D fr n) : Calls Tryz.prog 39 #[.pointer (some ⟨s, 0, none⟩)] w fun e w' => e = .returned (.int .i64 (if D.down = true then 60 else 0)) ∧ w = w' := by
  have H := Aside0.mk h
  have c0 := h.c0
  clear h
  cases hd : D.down with
  | true =>
    have HD := Lib.hid hd
    clear hd
    go_enter Tryz.func39, Tryz.ntmps39
    go_wp2_with (first | (go_at_call 49; (with_reducible refine (UpD H.out.d).mono ?_); rintro e w' ⟨rfl, rfl⟩; rw [HD.out]))
    go_ret
    exact ⟨rfl, rfl⟩
  | false =>
    have HD := Lib.hid hd
    clear hd
    go_enter Tryz.func39, Tryz.ntmps39
    go_wp2_with (first | (go_at_call 49; (with_reducible refine (UpD H.out.d).mono ?_); rintro e w' ⟨rfl, rfl⟩; rw [HD.out]))
    go_ret
    exact ⟨rfl, rfl⟩

end Go.Proofs.YtmblnflfklmmkaaGreatDoor.Sh
/- Contracts of package store: area. -/
namespace Go.Proofs.YtmblnflfklmmkaaGreatDoor.Sh
open Go.Proofs.YtmblnflfklmmkaaGreatDoor.Dk
open Go.RowKit Go.Proofs.YtmblnflfklmmkaaGreatDoorW.PrintWords Go.Proofs.YtmblnflfklmmkaaGreatDoorW.PrintLast Go.Proofs.YtmblnflfklmmkaaGreatDoorW.PrintMore
set_option linter.unusedVariables false
set_option linter.unusedSimpArgs false
set_option maxRecDepth 30000

variable {w w0 w1 w2 wr : World} {B s g : Nat} {F : Nat → Prop} {D D' : DM} {fr n : Int} {xs hs b : List Int}
theorem readS (h : SAt w B s g F D fr n) (hk : SOk D fr n) (q : Int) (ha : atM D q = 0) : Calls Tryz.prog 68 #[.pointer (some ⟨g, 0, none⟩), .int .i64 q] w fun e w' => ∃ N, e = .returned (.tuple #[.slice (some ⟨N, 0, none⟩) 64 64, .int .i64 0]) ∧ (readM D q).length = 64 ∧ w'.heap[N]? = some (.cells (nums .u8 (readM D q)).toArray 78 (0, 0)) ∧ Below w.heap.size w w' := by
  obtain ⟨_, _, _, hd⟩ := h.d
  refine (Read_calls hd hk.d q ha).mono ?_
  rintro e w' ⟨he, h1, h2, h3⟩
  exact ⟨_, he, h1, h2, h3⟩
theorem arr59 (a : Option Addr) (c : Nat) (w : World) : (Instr.arrayAt 80 (.slice a 64 c)).run Tryz.prog w = .ok (.pointer a) w := by
  simp [Instr.arrayAt, run_underlying Tryz.underlying80]
theorem arr_at {P : Program} {ops : Array Oper} {o : Oper} {rest : List Oper} {a : Act} {w : World} {Q : Exit → Act → World → Prop} {t : TypeId} {p v : Value} (x : Operand) (hg : o.guard = none) (ho : o.op = .sliceToArrayPointer t x) (hrun : (Instr.arrayAt t p).run P w = .ok v w) (hx : a.eval x = p)
    (h : wpList P ops Q rest (a.put o.dst v) w) : wpList P ops Q (o :: rest) a w := by
  refine wpList_plain hg fun K hK => ?_
  have he : (execOp a.eval o).run P w = .ok (.value v) w := by
    subst hx
    unfold execOp
    simp [ho, hrun]
  unfold Oper.wp
  rw [he, Oper.upon_value]
  exact hK _ _ h
theorem wrap_u64 (x : Int) : 0 ≤ IntKind.u64.wrap x ∧ IntKind.u64.wrap x ≤ 18446744073709551615 := by
  have e : IntKind.u64.wrap x = x % 18446744073709551616 := by simp [IntKind.wrap, IntKind.signed, IntKind.bits]
  rw [e]
  omega
theorem bits_u64 (op : BinOp) (a b : Int) : 0 ≤ Go.bits op .u64 a b ∧ Go.bits op .u64 a b ≤ 18446744073709551615 := by
  unfold Go.bits
  split <;> first | exact wrap_u64 _ | exact ⟨by decide, by decide⟩
theorem num1_range (a c : Int) : 0 ≤ num1 a c ∧ num1 a c ≤ 18446744073709551615 := bits_u64 _ _ _
theorem numM_range (xs : List Int) : 0 ≤ numM xs ∧ numM xs ≤ 18446744073709551615 := by
  unfold numM
  rw [← List.reverse_reverse xs]
  generalize xs.reverse = ys
  cases ys with
  | nil => exact ⟨by decide, by decide⟩
  | cons y ys =>
    rw [List.reverse_cons, List.foldl_append]
    exact num1_range _ _
theorem blk_bys {t : Nat} {h o m : Nat} (hb : w.heap[h]? = some (.cells (nums .u8 b).toArray t (0, 0))) (hl : b.length = 64) (hm : o + m ≤ 64) : Bys w h o ((b.drop o).take m) := fun j hj => by
  rw [List.length_take, List.length_drop, hl] at hj
  rw [cell_nums hb (i := o + j) (by rw [hl]; omega)]
  simp [List.getD_eq_getElem?_getD, List.getElem?_take, show j < m by omega]
theorem blk_range {t h : Nat} (hb : w.heap[h]? = some (.cells (nums .u8 b).toArray t (0, 0))) : w.rangeAt h 0 (nums .u8 b) := fun j v hj => by
  rw [Nat.zero_add, cell_of_row _ _ j _ _ _ hb]
  simpa using hj
theorem loadS (h : SAt w B s g F D fr n) (hk : SOk D fr n) (q : Int) (m : Nat) (hl : loadE D q m = 0 ∧ m ≤ 1000000) : Calls Tryz.prog 70 #[.pointer (some ⟨g, 0, none⟩), .int .i64 q, .int .i64 m] w fun e w' => ∃ A, e = .returned (.tuple #[.slice A m m, .int .i64 0]) ∧ Kd.C (Kd.int .u8) w' A m ((readsTo D q ((m + 63) / 64)).take m) ∧ Below w.heap.size w w' ∧ (∀ a, A = some a → w.heap.size ≤ a.block ∧ a.block < w'.heap.size) ∧ ∃ c, Row8 w' w.heap.size (.slice A m c) ((readsTo D q ((m + 63) / 64)).take m) := by
  obtain ⟨_, _, _, hd⟩ := h.d
  exact Load_own hd hk.d q m (by omega) hl.1
def hdG (b : List Int) : Int := numM ((b.drop 4).take 8)
def hdN (b : List Int) : Int := numM ((b.drop 12).take 4)
def recM (D : DM) (q : Int) (b : List Int) : List Int := (readsTo D (q + 1) (((hdN b).toNat + 63) / 64)).take (hdN b).toNat
def areaM (D : DM) (fr n k : Int) : Option (Int × List Int) :=
  if hdG (readM D (fr + k * n)) = 0 then none
  else if 64 * (n - 1) < hdN (readM D (fr + k * n)) then none
  else if readM D (fr + k * n) = headM (hdG (readM D (fr + k * n))) (recM D (fr + k * n) (readM D (fr + k * n))) then some (hdG (readM D (fr + k * n)), recM D (fr + k * n) (readM D (fr + k * n)))
  else none
def AreaPost (w w' : World) (o : Option (Int × List Int)) (e : Ending) : Prop :=
  Below w.heap.size w w' ∧ match o with
  | none => e = .returned (.tuple #[.int .u64 0, .slice none 0 0, .bool false])
  | some (g', r) => ∃ A c, e = .returned (.tuple #[.int .u64 g', .slice A r.length c, .bool true]) ∧ Fr8 w w' A r
set_option maxHeartbeats 16000000 in
theorem area_calls (hg : Glob w) (h : SAt w B s g F D fr n) (hk : SOk D fr n) (hd : D.down = false) (k : Int) (hk0 : 0 ≤ k) (hk1 : k ≤ 1) : Calls Tryz.prog 58 #[.pointer (some ⟨s, 0, none⟩), .int .i64 k] w fun e w' => AreaPost w w' (areaM D fr n k) e := by
  have HG := Aside0.mk hg
  have HS := Aside0.mk h
  have HK := Aside0.mk hk
  have HD := Lib.hid hd
  have hkn : 0 ≤ k * n ∧ k * n ≤ n := by
    have := hk.hn
    obtain rfl | rfl : k = 0 ∨ k = 1 := by omega
    · simp; omega
    · simp; omega
  have hq01 : 0 ≤ fr + k * n ∧ fr + k * n + n ≤ (D.sec.length : Int) := by have := hk.hf; have := hk.hl; omega
  obtain ⟨q, hq⟩ : ∃ q, fr + k * n = q := ⟨_, rfl⟩
  rw [hq] at hq01
  have HP := Lib.hid hq
  have hq1000 : q ≤ 1000 := by have := hk.hz; have := hk.hn; omega
  have HQ01 := Aside0.mk hq01
  have HAT := Aside0.mk (show atM D q = 0 by unfold atM; rw [hd, if_neg (by decide), if_neg (by have := hk.hn; omega)])
  have HS1 := Aside0.mk (h.below (below_drew (Below.refl _ _)))
  clear hg h hk hd hkn hq
  go_enter Tryz.func58, Tryz.ntmps58
  repeat (first | go_step | go_guarded | go_upon)
  refine start_ (n := 13) (S := fun w' => w'.cell? ⟨s, 0, none⟩ = some (.pointer (some ⟨g, 0, none⟩))) (ds := []) (bz 13 0) (by kernel_rfl) rfl rfl (HS1.out.c0) (fun hHeld => ?_)
  refine pz 0 (some 14) (bz 13 1) ?_
  refine pz 1 (some 15) (bz 13 3) ?_
  refine pz 2 (some 16) (bz 13 7) ?_
  refine pz 4 (some 18) (bz 13 23) ?_
  refine pz 5 (some 19) (bz 13 55) ?_
  refine tz1 3 (some 17) (bz 13 63) hHeld ?_
  refine one_ (i := 6) (N := some 20) (bz 13 127) rfl rfl (by kernel_rfl) (by decide) (fun K hK => ?_)
  refine goes_ Tryz.func42 (by kernel_rfl) rfl #[.pointer (some ⟨s, 0, none⟩), .int .i64 k] (by rfl) rfl rfl (by simp only [List.map_toArray, List.map_cons, List.map_nil]; rfl) ?_
  with_reducible refine (place_calls HS1.out HK.out k hk0 hk1).mono ?_
  rintro e w2 ⟨rfl, hb2⟩
  refine ⟨_, rfl, ?_⟩
  rw [HP.out]
  have HS2 := Aside0.mk (HS1.out.below hb2)
  have HB2 := Aside0.mk ((below_drew (Below.refl w.heap.size w)).trans (hb2.mono (Nat.le_refl _)))
  clear hb2
  refine hK.out _ _ (HS2.out.c0) (fun hHeld => ?_)
  clear hK K
  refine norm_ (a' := ?_) ?_ ?_
  rotate_left
  · show Act.put _ (some 20) _ = _
    simp only [Act.put, List.setIfInBounds_toArray, List.set_cons_zero, List.set_cons_succ, i64_w, i32_w]
    rfl
  refine one_ (i := 7) (N := some 21) (bz 13 255) rfl rfl (by kernel_rfl) (by decide) (fun K hK => ?_)
  refine goes_ Tryz.func68 (by kernel_rfl) rfl #[.pointer (some ⟨g, 0, none⟩), .int .i64 q] (by rfl) rfl rfl (by simp only [List.map_toArray, List.map_cons, List.map_nil]; rfl) ?_
  with_reducible refine (readS HS2.out HK.out q HAT.out).mono ?_
  rintro e w3 ⟨N, rfl, hl3, hb3, hbb3⟩
  refine ⟨_, rfl, ?_⟩
  have HS3 := Aside0.mk (HS2.out.below hbb3)
  have HB3 := Aside0.mk (HB2.out.trans (hbb3.mono HB2.out.size))
  have HL3 := Aside0.mk hl3
  have HC3 := Aside0.mk hb3
  clear hl3 hb3 hbb3
  refine hK.out _ _ (HS3.out.c0) (fun hHeld => ?_)
  clear hK K
  refine norm_ (a' := ?_) ?_ ?_
  rotate_left
  · show Act.put _ (some 21) _ = _
    simp only [Act.put, List.setIfInBounds_toArray, List.set_cons_zero, List.set_cons_succ, i64_w, i32_w]
    rfl
  refine pz 8 (some 13) (bz 13 511) ?_
  refine pz 9 (some 22) (bz 13 1023) ?_
  refine pz 10 (some 23) (bz 13 2047) ?_
  refine pz 11 (some 7) (bz 13 4095) ?_
  refine pz 12 (some 8) (bz 13 8191) ?_
  refine done_ (by kernel_rfl) ?_
  clear hHeld
  obtain ⟨b, hb⟩ : ∃ b, readM D q = b := ⟨_, rfl⟩
  rw [hb] at HL3 HC3
  have HBB := Lib.hid hb
  clear hb
  have HLD := Aside0.mk (run_loadAt_cells (P := Tryz.prog) (w := w3) 80 Tryz.underlying80 rfl N 0 (nums .u8 b) (by rw [nums_length, HL3.out]; kernel_rfl) (fun j u hu => by rw [Nat.zero_add, cell_of_row _ _ j _ _ _ HC3.out]; simpa using hu))
  have HST := Aside0.mk (run_storeAt_new (P := Tryz.prog) w3 80 z59 (nums .u8 b).toArray (info59 _ HL3.out) (by simp [z59, nums_length, HL3.out]) (u8_one _))
  have HS4 := Aside0.mk (HS3.out.below (below_alloc (Below.refl _ _) (.cells (nums .u8 b).toArray 80)))
  have HB4 := Aside0.mk (HB3.out.trans ((below_alloc (Below.refl _ _) (.cells (nums .u8 b).toArray 80)).mono HB3.out.size))
  have HC4 := Aside0.mk (heap_alloc_new w3 (.cells (nums .u8 b).toArray 80))
  go_wp2_with (first | ((with_reducible refine arr_at (t := 80) (.tmp 26) ?_ ?_ (arr59 (some ⟨N, 0, none⟩) 64 _) ?_ ?_); exact rfl; exact rfl; exact rfl) | ((with_reducible refine load_at (ty := 80) (.tmp 27) ?_ ?_ HLD.out ?_ ?_); exact rfl; exact rfl; exact rfl) | ((with_reducible refine alloc_at (e := 80) ?_ ?_ (run_alloc59 _) ?_); exact rfl; exact rfl) | ((with_reducible refine store_at (ty := 80) (.tmp 9) (.tmp 28) ?_ ?_ ?_ HST.out ?_ ?_ ?_); exact rfl; exact rfl; exact rfl; exact rfl; exact rfl; generalize w3.alloc (.cells (nums .u8 b).toArray 80) = w4 at HS4 HB4 HC4 ⊢; generalize w3.heap.size = h at HC4 ⊢; clear HLD HST))
  have HBY4 := Aside0.mk (show Bys w4.drew h 4 ((b.drop 4).take 8) from blk_bys HC4.out HL3.out (o := 4) (m := 8) (by decide))
  have HBY12 := Aside0.mk (show Bys w4.drew h 12 ((b.drop 12).take 4) from blk_bys HC4.out HL3.out (o := 12) (m := 4) (by decide))
  have HG8 := Aside0.mk (show ((b.drop 4).take 8).length = 8 by rw [List.length_take, List.length_drop, HL3.out]; rfl)
  have HG4 := Aside0.mk (show ((b.drop 12).take 4).length = 4 by rw [List.length_take, List.length_drop, HL3.out]; rfl)
  repeat (first | go_step | go_guarded | go_upon)
  refine start_ (n := 6) (S := fun w' => True) (ds := []) (bz 6 0) (by kernel_rfl) rfl rfl trivial (fun hHeld => ?_)
  refine pz 0 (some 29) (bz 6 1) ?_
  refine pz 2 (some 31) (bz 6 5) ?_
  refine one_ (i := 1) (N := some 30) (bz 6 7) rfl rfl (by kernel_rfl) (by decide) (fun K hK => ?_)
  refine goes_ Tryz.func69 (by kernel_rfl) rfl #[.slice (some ⟨h, 4, none⟩) 8 60] (by rfl) rfl rfl (by simp only [List.map_toArray, List.map_cons, List.map_nil]; rfl) ?_
  with_reducible refine (calls_of_args (args' := #[.slice (some ⟨h, 4, none⟩) ((b.drop 4).take 8).length 60]) (by rw [HG8.out]) (number_calls HBY4.out (by rw [HG8.out]; decide) (by rw [HG8.out]; decide))).mono ?_
  rintro e w5 ⟨rfl, rfl⟩
  refine ⟨_, rfl, ?_⟩
  refine hK.out _ _ trivial (fun hHeld => ?_)
  clear hK K
  refine norm_ (a' := ?_) ?_ ?_
  rotate_left
  · show Act.put _ (some 30) _ = _
    simp only [Act.put, List.setIfInBounds_toArray, List.set_cons_zero, List.set_cons_succ, i64_w, i32_w]
    rfl
  refine one_ (i := 3) (N := some 32) (bz 6 15) rfl rfl (by kernel_rfl) (by decide) (fun K hK => ?_)
  refine goes_ Tryz.func69 (by kernel_rfl) rfl #[.slice (some ⟨h, 12, none⟩) 4 52] (by rfl) rfl rfl (by simp only [List.map_toArray, List.map_cons, List.map_nil]; rfl) ?_
  with_reducible refine (calls_of_args (args' := #[.slice (some ⟨h, 12, none⟩) ((b.drop 12).take 4).length 52]) (by rw [HG4.out]) (number_calls HBY12.out (by rw [HG4.out]; decide) (by rw [HG4.out]; decide))).mono ?_
  rintro e w5 ⟨rfl, rfl⟩
  refine ⟨_, rfl, ?_⟩
  refine hK.out _ _ trivial (fun hHeld => ?_)
  clear hK K
  refine norm_ (a' := ?_) ?_ ?_
  rotate_left
  · show Act.put _ (some 32) _ = _
    simp only [Act.put, List.setIfInBounds_toArray, List.set_cons_zero, List.set_cons_succ, i64_w, i32_w]
    rfl
  refine pz 4 (some 10) (bz 6 31) ?_
  refine pz 5 (some 11) (bz 6 63) ?_
  refine done_ (by kernel_rfl) ?_
  clear hHeld HBY4 HBY12 HG8 HG4
  have HS5 := Aside0.mk (HS4.out.below (below_drew (Below.refl _ _)))
  have HB5 := Aside0.mk (below_drew HB4.out)
  have HC5 := Aside0.mk (show w4.drew.heap[h]? = some (.cells (nums .u8 b).toArray 80 (0, 0)) from HC4.out)
  clear HS4 HB4 HC4
  generalize w4.drew = w5 at HS5 HB5 HC5 ⊢
  have hgr := numM_range ((b.drop 4).take 8)
  have hnr := numM_range ((b.drop 12).take 4)
  obtain ⟨gg, hgg⟩ : ∃ gg, numM ((b.drop 4).take 8) = gg := ⟨_, rfl⟩
  obtain ⟨nn, hnn⟩ : ∃ nn, numM ((b.drop 12).take 4) = nn := ⟨_, rfl⟩
  rw [hgg] at hgr ⊢
  rw [hnn] at hnr ⊢
  have HGG := Lib.hid (show hdG b = gg from hgg)
  have HNN := Lib.hid (show hdN b = nn from hnn)
  clear hgg hnn
  by_cases hg0 : gg = 0
  · have HO := Lib.hid (show areaM D fr n k = none by simp [areaM, HP.out, HBB.out, HGG.out, hg0])
    subst hg0
    go_wp2_with (fail)
    refine bodyPost_ret (results_tmp3 rfl _ _ _) rfl ?_
    rw [HO.out]
    exact ⟨HB5.out, rfl⟩
  have hgb : (gg == 0) = false := by simpa using hg0
  have hgd : decide (gg = 0) = false := decide_eq_false hg0
  have hn2 := HK.out.hn
  have hn3 : n ≤ 1000 := by have := HK.out.hz; have := HQ01.out; omega
  have HG0 := Aside0.mk hg0
  clear hg0
  by_cases hroom : 64 * (n - 1) < nn
  · have HO := Lib.hid (show areaM D fr n k = none by simp only [areaM, HP.out, HBB.out, HGG.out, HNN.out]; rw [if_neg HG0.out, if_pos hroom])
    have hrd : decide (64 * (n - 1) < nn) = true := decide_eq_true hroom
    go_wp2_with (first | (go_at_call 9; (with_reducible refine (room_calls HS5.out HK.out).mono ?_); rintro e w6 ⟨rfl, rfl⟩))
    refine bodyPost_ret (results_tmp3 rfl _ _ _) rfl ?_
    rw [HO.out]
    exact ⟨HB5.out, rfl⟩
  · have hrd : decide (64 * (n - 1) < nn) = false := decide_eq_false hroom
    obtain ⟨m, rfl⟩ : ∃ m : Nat, nn = m := ⟨nn.toNat, by omega⟩
    have hm : m ≤ 64000 := by omega
    obtain ⟨q1, hq1⟩ : ∃ q1, q + 1 = q1 := ⟨_, rfl⟩
    have hw1 : wrap64 (q + 1) = q1 := by rw [hq1]; unfold wrap64; omega
    have hw1' : IntKind.i64.wrap (q + 1) = q1 := (i64_w _).trans hw1
    have hw2 : wrap64 (m : Int) = m := by unfold wrap64; omega
    have hw2' : IntKind.i64.wrap (m : Int) = m := (i64_w _).trans hw2
    have HQ1 := Lib.hid hq1
    have HLE := Aside0.mk (show loadE D q1 m = 0 ∧ m ≤ 1000000 from by
      refine ⟨?_, by omega⟩
      unfold loadE
      rw [HD.out, if_neg (by decide), if_neg (by omega)]
      unfold spanM
      rw [HD.out, if_neg (by decide), need_nat, if_neg (by have := HQ01.out; omega)])
    obtain ⟨y, hy⟩ : ∃ y, (readsTo D q1 ((m + 63) / 64)).take m = y := ⟨_, rfl⟩
    have HREC := Lib.hid (show recM D q b = y by rw [recM, HNN.out, HQ1.out, ← hy]; simp)
    have HRM := Lib.hid hroom
    clear hq1 hroom
    go_wp2_with (first | (go_at_call 9; (with_reducible refine (room_calls HS5.out HK.out).mono ?_); rintro e w6 ⟨rfl, rfl⟩))
    have HS6 := Aside0.mk (HS5.out.below (below_drew (Below.refl _ _)))
    have HB6 := Aside0.mk (below_drew HB5.out)
    have HC6 := Aside0.mk (show w5.drew.heap[h]? = some (.cells (nums .u8 b).toArray 80 (0, 0)) from HC5.out)
    clear hrd
    refine start_ (n := 16) (S := fun w' => w'.cell? ⟨s, 0, none⟩ = some (.pointer (some ⟨g, 0, none⟩))) (ds := []) (bz 16 0) (by kernel_rfl) rfl rfl (HS6.out.c0) (fun hHeld => ?_)
    refine pz 0 (some 43) (bz 16 1) ?_
    refine pz 1 (some 44) (bz 16 3) ?_
    refine pz 2 (some 45) (bz 16 7) ?_
    refine pz 4 (some 47) (bz 16 23) ?_
    refine pz 5 (some 48) (bz 16 55) ?_
    refine pz 8 (some 51) (bz 16 311) ?_
    refine pz 9 (some 52) (bz 16 823) ?_
    refine tz1 3 (some 46) (bz 16 831) hHeld ?_
    refine one_ (i := 6) (N := some 49) (bz 16 895) rfl rfl (by kernel_rfl) (by decide) (fun K hK => ?_)
    refine goes_ Tryz.func42 (by kernel_rfl) rfl #[.pointer (some ⟨s, 0, none⟩), .int .i64 k] (by rfl) rfl rfl (by simp only [List.map_toArray, List.map_cons, List.map_nil]; rfl) ?_
    with_reducible refine (place_calls HS6.out HK.out k hk0 hk1).mono ?_
    rintro e w7 ⟨rfl, hb7⟩
    refine ⟨_, rfl, ?_⟩
    rw [HP.out]
    have HS7 := Aside0.mk (HS6.out.below hb7)
    have HB7 := Aside0.mk (HB6.out.trans (hb7.mono HB6.out.size))
    have HC7 := Aside0.mk (blk_below HC6.out hb7)
    clear hb7
    refine hK.out _ _ (HS7.out.c0) (fun hHeld => ?_)
    clear hK K
    refine norm_ (a' := ?_) ?_ ?_
    rotate_left
    · show Act.put _ (some 49) _ = _
      simp only [Act.put, List.setIfInBounds_toArray, List.set_cons_zero, List.set_cons_succ, i64_w, i32_w]
      rfl
    refine pz 7 (some 50) (bz 16 1023) ?_
    refine one_ (i := 10) (N := some 53) (bz 16 2047) rfl rfl (by kernel_rfl) (by decide) (fun K hK => ?_)
    refine goes_ Tryz.func70 (by kernel_rfl) rfl #[.pointer (some ⟨g, 0, none⟩), .int .i64 q1, .int .i64 m] (by rfl) rfl rfl (by simp only [List.map_toArray, List.map_cons, List.map_nil]; rfl) ?_
    with_reducible refine (loadS HS7.out HK.out q1 m HLE.out).mono ?_
    rintro e w8 ⟨A8, rfl, hc8, hb8, how8, c8, hr8⟩
    refine ⟨_, rfl, ?_⟩
    have HS8 := Aside0.mk (HS7.out.below hb8)
    have HB8 := Aside0.mk (HB7.out.trans (hb8.mono HB7.out.size))
    have HC8 := Aside0.mk (blk_below HC7.out hb8)
    have HY8 := Aside0.mk hc8
    have HOW8 := Aside0.mk (show ∀ a, A8 = some a → w.heap.size ≤ a.block ∧ a.block < w8.heap.size from fun a ha => ⟨Nat.le_trans HB7.out.size (how8 a ha).1, (how8 a ha).2⟩)
    have HW8 := Aside0.mk (hr8.lower HB7.out.size)
    clear hc8 hb8 how8 hr8
    refine hK.out _ _ (HS8.out.c0) (fun hHeld => ?_)
    clear hK K
    refine norm_ (a' := ?_) ?_ ?_
    rotate_left
    · show Act.put _ (some 53) _ = _
      simp only [Act.put, List.setIfInBounds_toArray, List.set_cons_zero, List.set_cons_succ, i64_w, i32_w]
      rfl
    refine pz 11 (some 42) (bz 16 4095) ?_
    refine pz 12 (some 54) (bz 16 8191) ?_
    refine pz 13 (some 55) (bz 16 16383) ?_
    refine pz 14 (some 12) (bz 16 32767) ?_
    refine pz 15 (some 8) (bz 16 65535) ?_
    refine done_ (by kernel_rfl) ?_
    clear hHeld hw1 hw1' hw2 hw2'
    rw [hy] at HY8
    rw [hy] at HW8
    have HYL := Aside0.mk (show y.length = m from HY8.out.1)
    have HY8 := Aside0.mk (show C8 w8 A8 y from by show Kd.C (Kd.int .u8) w8 A8 y.length y; rw [HYL.out]; exact HY8.out)
    clear hy
    have HYN := fun ww : World => run_equalIn_nums (P := Tryz.prog) ww 9998 80 5 64 Tryz.underlying80 Tryz.underlying5 (fun w => by kernel_rfl) b (headM gg y) HL3.out (headM_length _ _)
    have HS9 := Aside0.mk (HS8.out.below (below_drew (Below.refl _ _)))
    have HB9 := Aside0.mk (below_drew HB8.out)
    have HC9 := Aside0.mk (show w8.drew.heap[h]? = some (.cells (nums .u8 b).toArray 80 (0, 0)) from HC8.out)
    have HY9 := Aside0.mk (show C8 w8.drew A8 y from Kd.C_below HY8.out (below_drew (Below.refl _ _)))
    have HW9 := Aside0.mk (HW8.out.below (below_drew (Below.refl w8.heap.size w8)))
    obtain ⟨bb, hbb⟩ : ∃ bb, (b == headM gg y) = bb := ⟨_, rfl⟩
    rw [hbb] at HYN
    have HBE := Lib.hid hbb
    clear hbb
    repeat (first | go_step | go_guarded | go_upon)
    refine start_ (n := 9) (S := fun w' => w'.rangeAt h 0 (nums .u8 b)) (ds := []) (bz 9 0) (by kernel_rfl) rfl rfl ((blk_range HC9.out)) (fun hHeld => ?_)
    refine pz 0 (some 56) (bz 9 1) ?_
    refine pz 1 (some 57) (bz 9 3) ?_
    refine pz 2 (some 58) (bz 9 7) ?_
    refine pz 4 (some 60) (bz 9 23) ?_
    refine pz 5 (some 61) (bz 9 55) ?_
    refine take_ (i := 3) (N := some 59) (v := .agg (nums .u8 b).toArray) (a' := ?_) (bz 9 63) rfl rfl (by kernel_rfl) (fun _ _ _ h => h) (yieldsIf_load_mid (by rfl) 80 (.tmp 9) rfl h 0 (by rfl) (nums .u8 b) _ (fun w' h => h) Tryz.underlying80 rfl (by rw [nums_length, HL3.out]; kernel_rfl)) hHeld ?_ ?_
    rotate_left
    · simp only [Act.put, List.setIfInBounds_toArray, List.set_cons_zero, List.set_cons_succ, i64_w, i32_w]
      rfl
    refine one_ (i := 6) (N := some 62) (bz 9 127) rfl rfl (by kernel_rfl) (by decide) (fun K hK => ?_)
    refine goes_ Tryz.func44 (by kernel_rfl) rfl #[.int .u64 gg, .slice A8 m m] (by rfl) rfl rfl (by simp only [List.map_toArray, List.map_cons, List.map_nil]; rfl) ?_
    with_reducible refine (calls_of_args (args' := #[.int .u64 gg, .slice A8 y.length m]) (by rw [HYL.out]) (headOf_calls (HG.out.below HB9.out) gg hgr.1 hgr.2 A8 m y HY9.out (by rw [HYL.out]; omega))).mono ?_
    rintro e w10 ⟨rfl, hb10⟩
    refine ⟨_, rfl, ?_⟩
    have HS10 := Aside0.mk (HS9.out.below hb10)
    have HB10 := Aside0.mk (HB9.out.trans (hb10.mono HB9.out.size))
    have HC10 := Aside0.mk (blk_below HC9.out hb10)
    have HY10 := Aside0.mk (Kd.C_below HY9.out hb10)
    have HW10 := Aside0.mk (HW9.out.below hb10)
    have HZ10 := Aside0.mk (show w8.heap.size ≤ w10.heap.size from hb10.size)
    clear hb10
    refine hK.out _ _ ((blk_range HC10.out)) (fun hHeld => ?_)
    clear hK K
    refine norm_ (a' := ?_) ?_ ?_
    rotate_left
    · show Act.put _ (some 62) _ = _
      simp only [Act.put, List.setIfInBounds_toArray, List.set_cons_zero, List.set_cons_succ, i64_w, i32_w]
      rfl
    refine pz 7 (some 63) (bz 9 255) ?_
    refine pz 8 (some 64) (bz 9 511) ?_
    refine done_ (by kernel_rfl) ?_
    clear hHeld HYN
    cases bb with
    | false =>
      have HO := Lib.hid (show areaM D fr n k = none by simp only [areaM, HP.out, HBB.out, HGG.out, HNN.out, HREC.out]; rw [if_neg HG0.out, if_neg (Int.not_lt.2 HRM.out), if_neg (by intro e; have := HBE.out; rw [← e] at this; simp at this)])
      go_wp2_with (fail)
      refine bodyPost_ret (results_tmp3 rfl _ _ _) rfl ?_
      rw [HO.out]
      exact ⟨HB10.out, rfl⟩
    | true =>
      have HO := Lib.hid (show areaM D fr n k = some (gg, y) by simp only [areaM, HP.out, HBB.out, HGG.out, HNN.out, HREC.out]; rw [if_neg HG0.out, if_neg (Int.not_lt.2 HRM.out), if_pos (by have := HBE.out; simpa using this)])
      go_wp2_with (fail)
      refine bodyPost_ret (results_tmp3 rfl _ _ _) rfl ?_
      rw [HO.out]
      exact ⟨HB10.out, A8, m, by rw [HYL.out] <;> rfl, HY10.out, fun a ha => ⟨(HOW8.out a ha).1, by have := (HOW8.out a ha).2; have := HZ10.out; omega⟩, c8, by rw [HYL.out]; exact HW10.out⟩

end Go.Proofs.YtmblnflfklmmkaaGreatDoor.Sh
/- Contracts of package store: step, newest, Newest, Get. -/
namespace Go.Proofs.YtmblnflfklmmkaaGreatDoor.Sh
open Go.Proofs.YtmblnflfklmmkaaGreatDoor.Dk
open Go.RowKit Go.Proofs.YtmblnflfklmmkaaGreatDoorW.PrintWords Go.Proofs.YtmblnflfklmmkaaGreatDoorW.PrintLast Go.Proofs.YtmblnflfklmmkaaGreatDoorW.PrintMore
set_option linter.unusedVariables false
set_option linter.unusedSimpArgs false
set_option maxRecDepth 30000

variable {w w0 w1 w2 wr : World} {B s g : Nat} {F : Nat → Prop} {D D' : DM} {fr n : Int} {xs hs b : List Int}
/-- What a call leaves of a store: its disk turned. -/
def SPo (w w' : World) (B s g : Nat) (F : Nat → Prop) (D' : DM) (fr n : Int) : Prop := ∃ F', (∀ k, F' k → F k ∨ w.heap.size ≤ k) ∧ SAt w' B s g F' D' fr n ∧ Upd w w' F
theorem SAt.po (h : SAt w B s g F D fr n) (hp : DPost w w1 B g F D') : SPo w w1 B s g F D' fr n := h.post hp
theorem SPo.then {D2 : DM} {F' : Nat → Prop} (hF : ∀ k, F' k → F k ∨ w.heap.size ≤ k) (hu : Upd w w1 F) (h2 : SPo w1 w2 B s g F' D2 fr n) : SPo w w2 B s g F D2 fr n := by
  obtain ⟨F2, hF2, h3, h4⟩ := h2
  refine ⟨F2, fun k hk => ?_, h3, hu.trans h4 hF⟩
  rcases hF2 k hk with h | h
  · exact hF k h
  · exact .inr (Nat.le_trans hu.size h)
theorem SPo.pre (hb : Below w.heap.size w w1) (h2 : SPo w1 w2 B s g F D' fr n) : SPo w w2 B s g F D' fr n := SPo.then (F' := F) (fun _ h => .inl h) (Upd.of_below hb) h2
theorem SPo.below (h : SPo w w1 B s g F D' fr n) (hb : Below w1.heap.size w1 w2) : SPo w w2 B s g F D' fr n := by
  obtain ⟨F', hF, h1, h2⟩ := h
  exact ⟨F', hF, h1.below hb, h2.trans (Upd.of_below (F := F) hb) (fun _ h => .inl h)⟩
theorem SPo.same (h : SAt w B s g F D fr n) (hb : Below w.heap.size w w1) : SPo w w1 B s g F D fr n := ⟨F, fun _ h => .inl h, h.below hb, Upd.of_below hb⟩
def stepM (D : DM) (k : Int) (x : List Int) : DM × Int := if (saveM D k x).2 ≠ 0 then saveM D k x else flushM (saveM D k x).1
set_option maxHeartbeats 16000000 in
theorem step_calls (h : SAt w B s g F D fr n) (hok : DOk D) (hn : D.held.length + 20000 ≤ 10000000) (k : Int) (A : Option Addr) (c : Nat) (x : List Int) (hx : x.length ≤ 20000) (hxc : x.length ≤ c) (hC : ∀ W, Upd w W F → Kd.C (Kd.int .u8) W A x.length x) :
    Calls Tryz.prog 43 #[.pointer (some ⟨s, 0, none⟩), .int .i64 k, .slice A x.length c] w fun e w' => e = .returned (.int .i64 (stepM D k x).2) ∧ SPo w w' B s g F (stepM D k x).1 fr n := by
  have HS := Aside0.mk h
  have HSV := Aside0.mk (dSave h.d hok hn k A c x (by omega) hxc hC)
  have c0 := h.c0
  have HK := Aside0.mk (saveM_ok (k := k) (x := x) hok (by omega))
  clear h hok hn hC hxc
  obtain ⟨D1, e1, hs⟩ : ∃ D1 e1, saveM D k x = (D1, e1) := ⟨_, _, rfl⟩
  rw [hs] at HSV HK
  by_cases he : e1 = 0
  · have HM := Lib.hid (show stepM D k x = flushM D1 by rw [stepM, hs]; simp [he])
    subst he
    clear hs
    go_enter Tryz.func43, Tryz.ntmps43
    go_wp2_with (first | (go_at_call 59; (with_reducible refine HSV.out.mono ?_); rintro e w1 ⟨rfl, hp⟩; obtain ⟨F1, hF1, hs1, hu1⟩ := HS.out.post hp; have HS1 := Aside0.mk hs1; have HF1 := Aside0.mk hF1; have HU1 := Aside0.mk hu1; have c01 := hs1.c0; clear hp hs1 hF1 hu1) | (go_at_call 37; (with_reducible refine (dFlush HS1.out.d HK.out).mono ?_); rintro e w2 ⟨rfl, hp2⟩; have HP2 := Aside0.mk (SPo.then HF1.out HU1.out (HS1.out.po hp2)); clear hp2))
    go_ret
    exact ⟨by rw [HM.out] <;> rfl, by rw [HM.out]; exact HP2.out⟩
  · have HM := Lib.hid (show stepM D k x = (D1, e1) by rw [stepM, hs]; simp [he])
    have hq1 : (e1 == 0) = false := by simpa using he
    have hq2 : (e1 != 0) = true := by simpa using he
    have hq3 : decide (e1 = 0) = false := decide_eq_false he
    clear hs he
    go_enter Tryz.func43, Tryz.ntmps43
    go_wp2_with (first | (go_at_call 59; (with_reducible refine HSV.out.mono ?_); rintro e w1 ⟨rfl, hp⟩; have HP1 := Aside0.mk (HS.out.po hp); clear hp))
    go_ret
    exact ⟨by rw [HM.out] <;> rfl, by rw [HM.out]; exact HP1.out⟩
/-- The newest so far. -/
def nextM (st : Int × Int × List Int) (k : Int) (o : Option (Int × List Int)) : Int × Int × List Int := match o with
  | none => st
  | some (g', r) => if st.2.1 < g' then (k, g', r) else st
def newestM (D : DM) (fr n : Int) : Int × Int × List Int := nextM (nextM (-1, 0, []) 0 (areaM D fr n 0)) 1 (areaM D fr n 1)
def nsT (D : DM) (fr n : Int) : Nat → Int × Int × List Int
  | 0 => (-1, 0, [])
  | k + 1 => nextM (nsT D fr n k) k (areaM D fr n k)
def NewPo (w w' : World) (st : Int × Int × List Int) (e : Ending) : Prop := ∃ A c, e = .returned (.tuple #[.int .i64 st.1, .int .u64 st.2.1, .slice A st.2.2.length c]) ∧ Fr8 w w' A st.2.2 ∧ Below w.heap.size w w'
set_option maxHeartbeats 16000000 in
theorem newest_calls (hg : Glob w) (h : SAt w B s g F D fr n) (hk : SOk D fr n) (hd : D.down = false) : Calls Tryz.prog 40 #[.pointer (some ⟨s, 0, none⟩)] w fun e w' => NewPo w w' (newestM D fr n) e := by
  have HG := Aside0.mk hg
  have HS := Aside0.mk h
  have HK := Aside0.mk hk
  have HD := Lib.hid hd
  clear hg h hk hd
  go_enter Tryz.func40, Tryz.ntmps40
  go_wp2_with (fail)
  go_loopw [5, 6, 7, 8, 9, 10, 11, 12] (fun v5 v6 v7 v8 v9 v10 v11 v12 w' => ∃ (k : Nat) (at_ mo : Int) (r : List Int) (A : Option Addr) (c : Nat), v12 = .int .i64 k ∧ k ≤ 2 ∧ v5 = .int .i64 at_ ∧ v6 = .int .u64 mo ∧ v7 = .slice A r.length c ∧ Aside0 (nsT D fr n k = (at_, mo, r)) ∧ Aside0 (Fr8 w w' A r) ∧ Aside0 (SAt w' B s g F D fr n) ∧ Aside0 (Below w.heap.size w w')) (fun v5 v6 v7 v8 v9 v10 v11 v12 _ => 2 - (intOf v12).toNat)
  case atStart => exact ⟨0, -1, 0, [], none, 0, rfl, by decide, rfl, rfl, rfl, ⟨rfl⟩, ⟨Fr8.nil _ _⟩, HS, ⟨Below.refl _ _⟩⟩
  case round =>
    clear HS
    obtain ⟨k, at_, mo, r, A, c, rfl, hk2, rfl, rfl, rfl, HN, HC, HS, HB⟩ := hrel
    by_cases hlt : k < 2
    · have hq : decide ((k : Int) < 2) = true := decide_eq_true (by omega)
      have HAR := Aside0.mk (area_calls (HG.out.below HB.out) HS.out HK.out HD.out k (by omega) (by omega))
      cases hA : areaM D fr n k with
      | none =>
        rw [hA] at HAR
        have HN1 := Aside0.mk (show nsT D fr n (k + 1) = (at_, mo, r) by rw [nsT, HN.out, hA]; rfl)
        clear hA
        go_wp2_with (first | (go_at_call 58; (with_reducible refine HAR.out.mono ?_); rintro e w1 ⟨hb1, rfl⟩; have HS1 := Aside0.mk (HS.out.below hb1); have HB1 := Aside0.mk (HB.out.trans (hb1.mono HB.out.size)); have HC1 := Aside0.mk (HC.out.below hb1); clear hb1))
        go_roundw
        case rel => exact ⟨k + 1, at_, mo, r, A, c, by go_num, by omega, rfl, rfl, rfl, HN1, HC1, HS1, HB1⟩
        case measure => simp [intOf]; omega
      | some p =>
        obtain ⟨g', r'⟩ := p
        rw [hA] at HAR
        by_cases hgt : mo < g'
        · have HN1 := Aside0.mk (show nsT D fr n (k + 1) = ((k : Int), g', r') by rw [nsT, HN.out, hA]; exact if_pos hgt)
          have hqg : decide (mo < g') = true := decide_eq_true hgt
          clear hA hgt
          go_wp2_with (first | (go_at_call 58; (with_reducible refine HAR.out.mono ?_); rintro e w1 ⟨hb1, A', c', rfl, hc1⟩; have HS1 := Aside0.mk (HS.out.below hb1); have HB1 := Aside0.mk (HB.out.trans (hb1.mono HB.out.size)); have HC1 := Aside0.mk (hc1.elder HB.out.size); clear hb1 hc1))
          go_roundw
          case rel => exact ⟨k + 1, k, g', r', A', c', by go_num, by omega, rfl, rfl, rfl, HN1, HC1, HS1, HB1⟩
          case measure => simp [intOf]; omega
        · have HN1 := Aside0.mk (show nsT D fr n (k + 1) = (at_, mo, r) by rw [nsT, HN.out, hA]; exact if_neg hgt)
          have hqg : decide (mo < g') = false := decide_eq_false hgt
          clear hA hgt
          go_wp2_with (first | (go_at_call 58; (with_reducible refine HAR.out.mono ?_); rintro e w1 ⟨hb1, A', c', rfl, hc1⟩; have HS1 := Aside0.mk (HS.out.below hb1); have HB1 := Aside0.mk (HB.out.trans (hb1.mono HB.out.size)); have HC1 := Aside0.mk (HC.out.below hb1); clear hb1 hc1))
          go_roundw
          case rel => exact ⟨k + 1, at_, mo, r, A, c, by go_num, by omega, rfl, rfl, rfl, HN1, HC1, HS1, HB1⟩
          case measure => simp [intOf]; omega
    · obtain rfl : k = 2 := by omega
      have hq : decide (((2 : Nat) : Int) < 2) = false := rfl
      have HN2 := Aside0.mk (show newestM D fr n = (at_, mo, r) from HN.out)
      go_wp2_with (fail)
      refine bodyPost_ret (results_tmp3 rfl _ _ _) rfl ?_
      rw [HN2.out]
      exact ⟨A, c, rfl, HC.out, HB.out⟩
/-- What Newest and Get tell. -/
def NwPo (w w' : World) (D : DM) (fr n : Int) (e : Ending) : Prop :=
  Below w.heap.size w w' ∧ e = .returned (.tuple (if D.down = true then #[.int .i64 0, .int .u64 0, .int .i64 60] else if (newestM D fr n).1 < 0 then #[.int .i64 0, .int .u64 0, .int .i64 70] else #[.int .i64 (newestM D fr n).1, .int .u64 (newestM D fr n).2.1, .int .i64 0]))
set_option maxHeartbeats 16000000 in
theorem Newest_calls (hg : Glob w) (h : SAt w B s g F D fr n) (hk : SOk D fr n) : Calls Tryz.prog 18 #[.pointer (some ⟨s, 0, none⟩)] w fun e w' => NwPo w w' D fr n e := by
  have HG := Aside0.mk hg
  have HS := Aside0.mk h
  have HK := Aside0.mk hk
  clear hg h hk
  cases hd : D.down with
  | true =>
    have HD := Lib.hid hd
    have HRD := Aside0.mk (sready_calls HS.out)
    rw [hd, if_pos rfl] at HRD
    clear hd
    go_enter Tryz.func18, Tryz.ntmps18
    go_wp2_with (first | (go_at_call 39; (with_reducible refine HRD.out.mono ?_); rintro e w1 ⟨rfl, rfl⟩))
    refine bodyPost_ret (results_tmp3 rfl _ _ _) rfl ?_
    exact ⟨Below.refl _ _, by rw [HD.out, if_pos rfl] <;> rfl⟩
  | false =>
    have HD := Lib.hid hd
    have HRD := Aside0.mk (sready_calls HS.out)
    rw [hd, if_neg (by decide)] at HRD
    have HN := Aside0.mk (newest_calls HG.out HS.out HK.out hd)
    obtain ⟨at_, mo, r, hst⟩ : ∃ at_ mo r, newestM D fr n = (at_, mo, r) := ⟨_, _, _, rfl⟩
    rw [hst] at HN
    have HST := Lib.hid hst
    clear hd hst
    by_cases h0 : at_ < 0
    · have hq : decide (at_ < 0) = true := decide_eq_true h0
      have H0 := Aside0.mk h0
      clear h0
      go_enter Tryz.func18, Tryz.ntmps18
      go_wp2_with (first | (go_at_call 39; (with_reducible refine HRD.out.mono ?_); rintro e w1 ⟨rfl, rfl⟩) | (go_at_call 40; (with_reducible refine HN.out.mono ?_); rintro e w2 ⟨A2, c2, rfl, _, hb2⟩))
      refine bodyPost_ret (results_tmp3 rfl _ _ _) rfl ?_
      exact ⟨hb2, by rw [HD.out, if_neg (by decide), HST.out, if_pos H0.out] <;> rfl⟩
    · have hq : decide (at_ < 0) = false := decide_eq_false h0
      have H0 := Aside0.mk h0
      clear h0
      go_enter Tryz.func18, Tryz.ntmps18
      go_wp2_with (first | (go_at_call 39; (with_reducible refine HRD.out.mono ?_); rintro e w1 ⟨rfl, rfl⟩) | (go_at_call 40; (with_reducible refine HN.out.mono ?_); rintro e w2 ⟨A2, c2, rfl, _, hb2⟩))
      refine bodyPost_ret (results_tmp3 rfl _ _ _) rfl ?_
      exact ⟨hb2, by rw [HD.out, if_neg (by decide), HST.out, if_neg (Int.not_lt.2 H0.out)] <;> rfl⟩
def getE (D : DM) (fr n : Int) : Int := if D.down = true then 60 else if (newestM D fr n).1 < 0 then 70 else 0
def getR (D : DM) (fr n : Int) : List Int := if getE D fr n = 0 then (newestM D fr n).2.2 else []
def GtPo (w w' : World) (D : DM) (fr n : Int) (e : Ending) : Prop := ∃ A c, e = .returned (.tuple #[.slice A (getR D fr n).length c, .int .i64 (getE D fr n)]) ∧ Fr8 w w' A (getR D fr n) ∧ Below w.heap.size w w'
set_option maxHeartbeats 16000000 in
theorem Get_calls (hg : Glob w) (h : SAt w B s g F D fr n) (hk : SOk D fr n) : Calls Tryz.prog 17 #[.pointer (some ⟨s, 0, none⟩)] w fun e w' => GtPo w w' D fr n e := by
  have HG := Aside0.mk hg
  have HS := Aside0.mk h
  have HK := Aside0.mk hk
  clear hg h hk
  cases hd : D.down with
  | true =>
    have HE := Lib.hid (show getE D fr n = 60 by simp [getE, hd])
    have HR := Lib.hid (show getR D fr n = [] by simp [getR, HE.out])
    have HRD := Aside0.mk (sready_calls HS.out)
    rw [hd, if_pos rfl] at HRD
    clear hd
    go_enter Tryz.func17, Tryz.ntmps17
    go_wp2_with (first | (go_at_call 39; (with_reducible refine HRD.out.mono ?_); rintro e w1 ⟨rfl, rfl⟩))
    refine bodyPost_ret (results_tmp2 rfl _ _ _) rfl ?_
    exact ⟨none, 0, by rw [HR.out, HE.out] <;> rfl, by rw [HR.out]; exact Fr8.nil _ _, Below.refl _ _⟩
  | false =>
    have HD := Lib.hid hd
    have HRD := Aside0.mk (sready_calls HS.out)
    rw [hd, if_neg (by decide)] at HRD
    have HN := Aside0.mk (newest_calls HG.out HS.out HK.out hd)
    obtain ⟨at_, mo, r, hst⟩ : ∃ at_ mo r, newestM D fr n = (at_, mo, r) := ⟨_, _, _, rfl⟩
    rw [hst] at HN
    by_cases h0 : at_ < 0
    · have hq : decide (at_ < 0) = true := decide_eq_true h0
      have HE := Lib.hid (show getE D fr n = 70 by simp [getE, hd, hst, h0])
      have HR := Lib.hid (show getR D fr n = [] by simp [getR, HE.out])
      clear h0 hd hst
      go_enter Tryz.func17, Tryz.ntmps17
      go_wp2_with (first | (go_at_call 39; (with_reducible refine HRD.out.mono ?_); rintro e w1 ⟨rfl, rfl⟩) | (go_at_call 40; (with_reducible refine HN.out.mono ?_); rintro e w2 ⟨A2, c2, rfl, _, hb2⟩))
      refine bodyPost_ret (results_tmp2 rfl _ _ _) rfl ?_
      exact ⟨none, 0, by rw [HR.out, HE.out] <;> rfl, by rw [HR.out]; exact Fr8.nil _ _, hb2⟩
    · have hq : decide (at_ < 0) = false := decide_eq_false h0
      have HE := Lib.hid (show getE D fr n = 0 by simp [getE, hd, hst, h0])
      have HR := Lib.hid (show getR D fr n = r by simp [getR, HE.out, hst])
      clear h0 hd hst
      go_enter Tryz.func17, Tryz.ntmps17
      go_wp2_with (first | (go_at_call 39; (with_reducible refine HRD.out.mono ?_); rintro e w1 ⟨rfl, rfl⟩) | (go_at_call 40; (with_reducible refine HN.out.mono ?_); rintro e w2 ⟨A2, c2, rfl, hc2, hb2⟩))
      refine bodyPost_ret (results_tmp2 rfl _ _ _) rfl ?_
      exact ⟨A2, c2, by rw [HR.out, HE.out] <;> rfl, by rw [HR.out]; exact hc2, hb2⟩

end Go.Proofs.YtmblnflfklmmkaaGreatDoor.Sh
/- Contracts of package store: Put. -/
namespace Go.Proofs.YtmblnflfklmmkaaGreatDoor.Sh
open Go.Proofs.YtmblnflfklmmkaaGreatDoor.Dk
open Go.RowKit Go.Proofs.YtmblnflfklmmkaaGreatDoorW.PrintWords Go.Proofs.YtmblnflfklmmkaaGreatDoorW.PrintLast Go.Proofs.YtmblnflfklmmkaaGreatDoorW.PrintMore
set_option linter.unusedVariables false
set_option linter.unusedSimpArgs false
set_option maxRecDepth 30000

variable {w w0 w1 w2 wr : World} {B s g : Nat} {F : Nat → Prop} {D D' : DM} {fr n : Int} {xs hs b : List Int}
theorem areaM_range {k g' : Int} {r : List Int} (h : areaM D fr n k = some (g', r)) : 0 ≤ g' ∧ g' ≤ 18446744073709551615 := by
  unfold areaM at h
  split at h
  · cases h
  · split at h
    · cases h
    · split at h
      · injection h with h
        injection h with h1 h2
        rw [← h1]
        exact numM_range _
      · cases h
theorem nextM_range {st : Int × Int × List Int} {k : Int} {o : Option (Int × List Int)} (h : 0 ≤ st.2.1 ∧ st.2.1 ≤ 18446744073709551615) (ho : ∀ g' r, o = some (g', r) → 0 ≤ g' ∧ g' ≤ 18446744073709551615) : 0 ≤ (nextM st k o).2.1 ∧ (nextM st k o).2.1 ≤ 18446744073709551615 := by
  cases o with
  | none => exact h
  | some q =>
    obtain ⟨g', r⟩ := q
    unfold nextM
    dsimp only
    split
    · exact ho g' r rfl
    · exact h
theorem newestM_range : 0 ≤ (newestM D fr n).2.1 ∧ (newestM D fr n).2.1 ≤ 18446744073709551615 :=
  nextM_range (nextM_range ⟨by decide, by decide⟩ (fun _ _ h => areaM_range h)) (fun _ _ h => areaM_range h)
theorem stepM_hs (k : Int) (x : List Int) : (stepM D k x).1.held.length ≤ D.held.length + x.length ∧ (stepM D k x).1.sec.length = D.sec.length := by
  have h1 := saveM_hs (D := D) k x
  unfold stepM
  split
  · exact h1
  · have h2 := flushM_hs (D := (saveM D k x).1)
    exact ⟨by omega, h2.2.trans h1.2⟩
theorem stepM_ok {k : Int} {x : List Int} (h : DOk D) (hn : D.held.length + x.length ≤ 10000000) : DOk (stepM D k x).1 := by
  have h1 := saveM_ok (k := k) (x := x) h hn
  unfold stepM
  split
  · exact h1
  · exact flushM_ok h1
theorem step64 (h : SAt w B s g F D fr n) (hok : DOk D) (hn : D.held.length + 20000 ≤ 10000000) (k : Int) (A : Option Addr) (c : Nat) (x : List Int) (hx : x.length = 64) (hxc : 64 ≤ c) (hC : ∀ W, Upd w W F → C8 W A x) :
    Calls Tryz.prog 43 #[.pointer (some ⟨s, 0, none⟩), .int .i64 k, .slice A 64 c] w fun e w' => e = .returned (.int .i64 (stepM D k x).2) ∧ SPo w w' B s g F (stepM D k x).1 fr n := by
  have := step_calls h hok hn k A c x (by omega) (by omega) hC
  rwa [hx] at this
theorem DiskAt.hi (h : DiskAt w B g F D) : ∀ k, F k → k < w.heap.size := by
  obtain ⟨_, _, _, h⟩ := h
  exact fun k hk => (h.lt k hk).2
/-- A block that is younger than the disk's blocks. -/
theorem C8_young {q t : Nat} {x : List Int} (hF : ∀ k, F k → k < q) (hb : w.heap[q]? = some (.cells (nums .u8 x).toArray t (0, 0))) (hx : x.length ≤ 1000000) : ∀ W, Upd w W F → C8 W (some ⟨q, 0, none⟩) x := fun W hW =>
  C_block ((hW.block q (blk_lt hb) (fun h => by have := hF q h; omega)).trans hb) hx
def zer64 : List Int := List.replicate 64 0
theorem headM_le (g : Int) (y : List Int) : (headM g y).length ≤ 1000000 := by rw [headM_length]; decide
theorem zer64_len : zer64.length = 64 := by simp [zer64]
theorem zer64_le : zer64.length ≤ 1000000 := by simp [zer64]
def toM (fr n : Int) (at_ : Int) : Int := if at_ = 0 then fr + 1 * n else fr + 0 * n
def put3 (D : DM) (q : Int) (x h : List Int) : DM × Int :=
  if (stepM D q zer64).2 ≠ 0 then stepM D q zer64
  else if (stepM (stepM D q zer64).1 (q + 1) x).2 ≠ 0 then stepM (stepM D q zer64).1 (q + 1) x
  else stepM (stepM (stepM D q zer64).1 (q + 1) x).1 q h
def putM (D : DM) (fr n : Int) (x : List Int) : DM × Int :=
  if D.down = true then (D, 60)
  else if 64 * (n - 1) < (x.length : Int) then (D, 2)
  else if (newestM D fr n).2.1 = 18446744073709551615 then (D, 2)
  else put3 D (toM fr n (newestM D fr n).1) x (headM ((newestM D fr n).2.1 + 1) x)

set_option maxHeartbeats 16000000 in
theorem Put_calls (hg : Glob w) (hgF : ¬ F 0 ∧ ¬ F 1) (h : SAt w B s g F D fr n) (hk : SOk D fr n) (hnh : D.held.length ≤ 5000000) (A : Option Addr) (c : Nat) (x : List Int) (hx : x.length ≤ 20000) (hxc : x.length ≤ c) (hC : ∀ W, Upd w W F → C8 W A x) :
    Calls Tryz.prog 22 #[.pointer (some ⟨s, 0, none⟩), .slice A x.length c] w fun e w' => e = .returned (.int .i64 (putM D fr n x).2) ∧ SPo w w' B s g F (putM D fr n x).1 fr n := by
  have HG := Aside0.mk hg
  have HNF := Aside0.mk hgF
  have HS := Aside0.mk h
  have HK := Aside0.mk hk
  have HC := Aside0.mk hC
  have HXC := Aside0.mk hxc
  have HNH := Aside0.mk (show D.held.length + 20000 ≤ 10000000 by omega)
  have HNH0 := Aside0.mk hnh
  have hn2 := hk.hn
  have hn3 : n ≤ 1000 := by have := hk.hz; have := hk.hl; have := hk.hf; omega
  have hf0 := hk.hf
  have hf1 : fr ≤ 1000 := by have := hk.hz; have := hk.hl; omega
  clear hg hgF h hk hnh hxc hC
  cases hd : D.down with
  | true =>
    have HM := Lib.hid (show putM D fr n x = (D, 60) by simp [putM, hd])
    have HRD := Aside0.mk (sready_calls HS.out)
    rw [hd, if_pos rfl] at HRD
    clear hd
    go_enter Tryz.func22, Tryz.ntmps22
    go_wp2_with (first | (go_at_call 39; (with_reducible refine HRD.out.mono ?_); rintro e w1 ⟨rfl, rfl⟩))
    go_ret
    exact ⟨by rw [HM.out] <;> rfl, by rw [HM.out]; exact SPo.same HS.out (Below.refl _ _)⟩
  | false =>
    have HD := Lib.hid hd
    have HRD := Aside0.mk (sready_calls HS.out)
    rw [hd, if_neg (by decide)] at HRD
    have HN := Aside0.mk (newest_calls HG.out HS.out HK.out hd)
    have hmr := newestM_range (D := D) (fr := fr) (n := n)
    obtain ⟨at_, mo, r, hst⟩ : ∃ at_ mo r, newestM D fr n = (at_, mo, r) := ⟨_, _, _, rfl⟩
    rw [hst] at HN hmr
    dsimp only at hmr
    have HST := Lib.hid hst
    clear hst hd
    by_cases hlen : 64 * (n - 1) < (x.length : Int)
    · have HM := Lib.hid (show putM D fr n x = (D, 2) by rw [putM, HD.out, if_neg (by decide), if_pos hlen])
      have hq : decide (64 * (n - 1) < (x.length : Int)) = true := decide_eq_true hlen
      clear hlen
      go_enter Tryz.func22, Tryz.ntmps22
      go_wp2_with (first | (go_at_call 39; (with_reducible refine HRD.out.mono ?_); rintro e w1 ⟨rfl, rfl⟩) | (go_at_call 40; (with_reducible refine HN.out.mono ?_); rintro e w2 ⟨A2, c2, rfl, _, hb2⟩; have HB2 := Aside0.mk hb2; have HS2 := Aside0.mk (HS.out.below hb2); clear hb2) | (go_at_call 9; (with_reducible refine (room_calls HS2.out HK.out).mono ?_); rintro e w3 ⟨rfl, rfl⟩))
      go_ret
      exact ⟨by rw [HM.out] <;> rfl, by rw [HM.out]; exact SPo.same HS.out HB2.out⟩
    by_cases hmx : mo = 18446744073709551615
    · have HM := Lib.hid (show putM D fr n x = (D, 2) by rw [putM, HD.out, if_neg (by decide), if_neg hlen, HST.out, if_pos hmx])
      have hq : decide (64 * (n - 1) < (x.length : Int)) = false := decide_eq_false hlen
      subst hmx
      clear hlen
      go_enter Tryz.func22, Tryz.ntmps22
      go_wp2_with (first | (go_at_call 39; (with_reducible refine HRD.out.mono ?_); rintro e w1 ⟨rfl, rfl⟩) | (go_at_call 40; (with_reducible refine HN.out.mono ?_); rintro e w2 ⟨A2, c2, rfl, _, hb2⟩; have HB2 := Aside0.mk hb2; have HS2 := Aside0.mk (HS.out.below hb2); clear hb2) | (go_at_call 9; (with_reducible refine (room_calls HS2.out HK.out).mono ?_); rintro e w3 ⟨rfl, rfl⟩))
      go_ret
      exact ⟨by rw [HM.out] <;> rfl, by rw [HM.out]; exact SPo.same HS.out HB2.out⟩
    have hmo : mo < 18446744073709551615 := by omega
    have hqm : (mo == 18446744073709551615) = false := by simpa using hmx
    have hqm2 : decide (mo = 18446744073709551615) = false := decide_eq_false hmx
    have HPM := Lib.hid (show putM D fr n x = put3 D (toM fr n at_) x (headM (mo + 1) x) by rw [putM, HD.out, if_neg (by decide), if_neg hlen, HST.out, if_neg hmx])
    have hq : decide (64 * (n - 1) < (x.length : Int)) = false := decide_eq_false hlen
    clear hlen hmx
    by_cases hat : at_ = 0
    · subst hat
      obtain ⟨q, hqq⟩ : ∃ q, fr + 1 * n = q := ⟨_, rfl⟩
      have HTM := Lib.hid (show toM fr n 0 = q by rw [toM, if_pos rfl, hqq])
      have HTO := Lib.hid hqq
      have hq0 : 0 ≤ q ∧ q ≤ 2000 := by omega
      obtain ⟨hq00, hq01⟩ := hq0
      clear hqq
      obtain ⟨D1, h1a⟩ : ∃ D1, (stepM D q zer64).1 = D1 := ⟨_, rfl⟩
      obtain ⟨e1, h1b⟩ : ∃ e1, (stepM D q zer64).2 = e1 := ⟨_, rfl⟩
      have HE1a := Lib.hid h1a
      have HE1b := Lib.hid h1b
      have HOK1 := Aside0.mk (show DOk D1 from h1a ▸ stepM_ok HK.out.d (by have := HNH0.out; simp [zer64]; omega))
      have HL1 := Aside0.mk (show D1.held.length ≤ 5000064 from by have := (stepM_hs (D := D) q zer64).1; rw [h1a] at this; simp [zer64] at this; have := HNH0.out; omega)
      have HNH1 := Aside0.mk (show D1.held.length + 20000 ≤ 10000000 by have := HL1.out; omega)
      have h1c : stepM D q zer64 = (D1, e1) := Prod.ext h1a h1b
      by_cases he1 : e1 = 0
      · obtain ⟨D2, h2a⟩ : ∃ D2, (stepM D1 (q + 1) x).1 = D2 := ⟨_, rfl⟩
        obtain ⟨e2, h2b⟩ : ∃ e2, (stepM D1 (q + 1) x).2 = e2 := ⟨_, rfl⟩
        have HE2a := Lib.hid h2a
        have HE2b := Lib.hid h2b
        have h2c : stepM D1 (q + 1) x = (D2, e2) := Prod.ext h2a h2b
        have HOK2 := Aside0.mk (show DOk D2 from h2a ▸ stepM_ok HOK1.out (by have := HL1.out; omega))
        have HNH2 := Aside0.mk (show D2.held.length + 20000 ≤ 10000000 from by have := (stepM_hs (D := D1) (q + 1) x).1; rw [h2a] at this; have := HL1.out; omega)
        by_cases he2 : e2 = 0
        · have HM := Lib.hid (show putM D fr n x = stepM D2 q (headM (mo + 1) x) by rw [HPM.out, HTM.out, put3, h1c]; simp [he1, h2c, he2])
          subst he1
          subst he2
          clear h1a h1b h1c h2a h2b h2c
          go_enter Tryz.func22, Tryz.ntmps22
          go_wp2_with (first | (go_at_call 39; (with_reducible refine HRD.out.mono ?_); rintro e w1 ⟨rfl, rfl⟩) | (go_at_call 40; (with_reducible refine HN.out.mono ?_); rintro e w2 ⟨A2, c2, rfl, _, hb2⟩; have HB2 := Aside0.mk hb2; have HS2 := Aside0.mk (HS.out.below hb2); clear hb2) | (go_at_call 9; (with_reducible refine (room_calls HS2.out HK.out).mono ?_); rintro e w3 ⟨rfl, rfl⟩) | (go_at_call 42; (with_reducible refine (place_calls HS2.out HK.out 0 (by decide) (by decide)).mono ?_); rintro e w3 ⟨rfl, hb3⟩; have HB3 := Aside0.mk (HB2.out.trans (hb3.mono HB2.out.size)); have HS3 := Aside0.mk (HS2.out.below hb3); clear hb3) | (go_at_call 42; (with_reducible refine (place_calls HS3.out HK.out 1 (by decide) (by decide)).mono ?_); rintro e w4 ⟨rfl, hb4⟩; rw [HTO.out]; have HB4 := Aside0.mk (HB3.out.trans (hb4.mono HB3.out.size)); have HS4 := Aside0.mk (HS3.out.below hb4); clear hb4) | ((with_reducible refine gate_dst (N := 10) ?_ ?_); exact rfl; ((with_reducible refine alloc_at (e := 80) ?_ ?_ (run_alloc59 _) ?_); exact rfl; exact rfl; have HF5 := Aside0.mk (DiskAt.hi HS4.out.d); have HZ5 := Aside0.mk (show (w4.alloc (.cells z59 80)).heap[w4.heap.size]? = some (.cells (nums .u8 zer64).toArray 80 (0, 0)) from heap_alloc_new w4 (.cells z59 80)); have HB5 := Aside0.mk (HB4.out.trans ((below_alloc (Below.refl _ _) (.cells z59 80)).mono HB4.out.size)); have HS5 := Aside0.mk (HS4.out.below (below_alloc (Below.refl _ _) (.cells z59 80))); generalize w4.alloc (.cells z59 80) = w5 at HZ5 HB5 HS5 ⊢; generalize w4.heap.size = q5 at HF5 HZ5 ⊢)) | (go_at_call 43; (with_reducible refine (step64 HS5.out HK.out.d HNH.out q (some ⟨q5, 0, none⟩) 64 zer64 zer64_len (Nat.le_refl _) (C8_young HF5.out HZ5.out zer64_le)).mono ?_); rintro e w6 ⟨rfl, hp6⟩; rw [HE1b.out]; rw [HE1a.out] at hp6; obtain ⟨F6, hF6, hs6, hu6⟩ := SPo.pre (F := F) HB5.out hp6; have HF6 := Aside0.mk hF6; have HS6 := Aside0.mk hs6; have HU6 := Aside0.mk hu6; clear hp6 hF6 hs6 hu6) | (go_at_call 43; (with_reducible refine (step_calls HS6.out HOK1.out HNH1.out (q + 1) A c x (by omega) HXC.out (fun W hW => HC.out W (HU6.out.trans hW HF6.out))).mono ?_); rintro e w7 ⟨rfl, hp7⟩; rw [HE2b.out]; rw [HE2a.out] at hp7; obtain ⟨F7, hF7, hs7, hu7⟩ := SPo.then HF6.out HU6.out hp7; have HF7 := Aside0.mk hF7; have HS7 := Aside0.mk hs7; have HU7 := Aside0.mk hu7; clear hp7 hF7 hs7 hu7) | (go_at_call 44; (with_reducible refine (headOf_calls (HG.out.upd HU7.out HNF.out.1 HNF.out.2) (mo + 1) (by omega) (by omega) A c x (HC.out _ HU7.out) (by omega)).mono ?_); rintro e w8 ⟨rfl, hb8⟩; have HS8 := Aside0.mk (HS7.out.below hb8); have HU8 := Aside0.mk (HU7.out.trans (Upd.of_below (F := F) hb8) (fun _ h => .inl h)); have HF8 := Aside0.mk (show ∀ k, F7 k → F k ∨ w.heap.size ≤ k from HF7.out); have HST := Aside0.mk (run_storeAt_new (P := Tryz.prog) w8 80 z59 (nums .u8 (headM (mo + 1) x)).toArray (info59 _ (headM_length _ _)) (by simp [z59, nums_length, headM_length]) (u8_one _)); clear hb8) | ((with_reducible refine gate_dst (N := 13) ?_ ?_); exact rfl; ((with_reducible refine alloc_at (e := 80) ?_ ?_ (run_alloc59 _) ?_); exact rfl; exact rfl)) | ((with_reducible refine store_at (ty := 80) (.tmp 13) (.tmp 58) ?_ ?_ ?_ HST.out ?_ ?_ ?_); exact rfl; exact rfl; exact rfl; exact rfl; exact rfl; have HF9 := Aside0.mk (DiskAt.hi HS8.out.d); have HZ9 := Aside0.mk (heap_alloc_new w8 (.cells (nums .u8 (headM (mo + 1) x)).toArray 80)); have HU9 := Aside0.mk (HU8.out.trans (Upd.of_below (F := F) (below_alloc (Below.refl w8.heap.size w8) (.cells (nums .u8 (headM (mo + 1) x)).toArray 80))) (fun _ h => .inl h)); have HS9 := Aside0.mk (HS8.out.below (below_alloc (Below.refl _ _) (.cells (nums .u8 (headM (mo + 1) x)).toArray 80))); clear HST; generalize w8.alloc (.cells (nums .u8 (headM (mo + 1) x)).toArray 80) = w9 at HZ9 HU9 HS9 ⊢; generalize w8.heap.size = q9 at HF9 HZ9 ⊢) | (go_at_call 43; (with_reducible refine (step64 HS9.out HOK2.out HNH2.out q (some ⟨q9, 0, none⟩) 64 (headM (mo + 1) x) (headM_length _ _) (Nat.le_refl _) (C8_young HF9.out HZ9.out (headM_le _ _))).mono ?_); rintro e w10 ⟨rfl, hp10⟩; have HP10 := Aside0.mk (SPo.then HF8.out HU9.out hp10); clear hp10))
          go_ret
          exact ⟨by rw [HM.out] <;> rfl, by rw [HM.out]; exact HP10.out⟩
        · have HM := Lib.hid (show putM D fr n x = (D2, e2) by rw [HPM.out, HTM.out, put3, h1c]; simp [he1, h2c, he2])
          have hx1 : (e2 == 0) = false := by simpa using he2
          have hx2 : (e2 != 0) = true := by simpa using he2
          have hx3 : decide (e2 = 0) = false := decide_eq_false he2
          subst he1
          clear h1a h1b h1c h2a h2b h2c he2
          go_enter Tryz.func22, Tryz.ntmps22
          go_wp2_with (first | (go_at_call 39; (with_reducible refine HRD.out.mono ?_); rintro e w1 ⟨rfl, rfl⟩) | (go_at_call 40; (with_reducible refine HN.out.mono ?_); rintro e w2 ⟨A2, c2, rfl, _, hb2⟩; have HB2 := Aside0.mk hb2; have HS2 := Aside0.mk (HS.out.below hb2); clear hb2) | (go_at_call 9; (with_reducible refine (room_calls HS2.out HK.out).mono ?_); rintro e w3 ⟨rfl, rfl⟩) | (go_at_call 42; (with_reducible refine (place_calls HS2.out HK.out 0 (by decide) (by decide)).mono ?_); rintro e w3 ⟨rfl, hb3⟩; have HB3 := Aside0.mk (HB2.out.trans (hb3.mono HB2.out.size)); have HS3 := Aside0.mk (HS2.out.below hb3); clear hb3) | (go_at_call 42; (with_reducible refine (place_calls HS3.out HK.out 1 (by decide) (by decide)).mono ?_); rintro e w4 ⟨rfl, hb4⟩; rw [HTO.out]; have HB4 := Aside0.mk (HB3.out.trans (hb4.mono HB3.out.size)); have HS4 := Aside0.mk (HS3.out.below hb4); clear hb4) | ((with_reducible refine gate_dst (N := 10) ?_ ?_); exact rfl; ((with_reducible refine alloc_at (e := 80) ?_ ?_ (run_alloc59 _) ?_); exact rfl; exact rfl; have HF5 := Aside0.mk (DiskAt.hi HS4.out.d); have HZ5 := Aside0.mk (show (w4.alloc (.cells z59 80)).heap[w4.heap.size]? = some (.cells (nums .u8 zer64).toArray 80 (0, 0)) from heap_alloc_new w4 (.cells z59 80)); have HB5 := Aside0.mk (HB4.out.trans ((below_alloc (Below.refl _ _) (.cells z59 80)).mono HB4.out.size)); have HS5 := Aside0.mk (HS4.out.below (below_alloc (Below.refl _ _) (.cells z59 80))); generalize w4.alloc (.cells z59 80) = w5 at HZ5 HB5 HS5 ⊢; generalize w4.heap.size = q5 at HF5 HZ5 ⊢)) | (go_at_call 43; (with_reducible refine (step64 HS5.out HK.out.d HNH.out q (some ⟨q5, 0, none⟩) 64 zer64 zer64_len (Nat.le_refl _) (C8_young HF5.out HZ5.out zer64_le)).mono ?_); rintro e w6 ⟨rfl, hp6⟩; rw [HE1b.out]; rw [HE1a.out] at hp6; obtain ⟨F6, hF6, hs6, hu6⟩ := SPo.pre (F := F) HB5.out hp6; have HF6 := Aside0.mk hF6; have HS6 := Aside0.mk hs6; have HU6 := Aside0.mk hu6; clear hp6 hF6 hs6 hu6) | (go_at_call 43; (with_reducible refine (step_calls HS6.out HOK1.out HNH1.out (q + 1) A c x (by omega) HXC.out (fun W hW => HC.out W (HU6.out.trans hW HF6.out))).mono ?_); rintro e w7 ⟨rfl, hp7⟩; rw [HE2b.out]; rw [HE2a.out] at hp7; obtain ⟨F7, hF7, hs7, hu7⟩ := SPo.then HF6.out HU6.out hp7; have HF7 := Aside0.mk hF7; have HS7 := Aside0.mk hs7; have HU7 := Aside0.mk hu7; clear hp7 hF7 hs7 hu7))
          go_ret
          exact ⟨by rw [HM.out] <;> rfl, by rw [HM.out]; exact ⟨F7, HF7.out, HS7.out, HU7.out⟩⟩
      · have HM := Lib.hid (show putM D fr n x = (D1, e1) by rw [HPM.out, HTM.out, put3, h1c]; simp [he1])
        have hx1 : (e1 == 0) = false := by simpa using he1
        have hx2 : (e1 != 0) = true := by simpa using he1
        have hx3 : decide (e1 = 0) = false := decide_eq_false he1
        clear h1a h1b h1c he1
        go_enter Tryz.func22, Tryz.ntmps22
        go_wp2_with (first | (go_at_call 39; (with_reducible refine HRD.out.mono ?_); rintro e w1 ⟨rfl, rfl⟩) | (go_at_call 40; (with_reducible refine HN.out.mono ?_); rintro e w2 ⟨A2, c2, rfl, _, hb2⟩; have HB2 := Aside0.mk hb2; have HS2 := Aside0.mk (HS.out.below hb2); clear hb2) | (go_at_call 9; (with_reducible refine (room_calls HS2.out HK.out).mono ?_); rintro e w3 ⟨rfl, rfl⟩) | (go_at_call 42; (with_reducible refine (place_calls HS2.out HK.out 0 (by decide) (by decide)).mono ?_); rintro e w3 ⟨rfl, hb3⟩; have HB3 := Aside0.mk (HB2.out.trans (hb3.mono HB2.out.size)); have HS3 := Aside0.mk (HS2.out.below hb3); clear hb3) | (go_at_call 42; (with_reducible refine (place_calls HS3.out HK.out 1 (by decide) (by decide)).mono ?_); rintro e w4 ⟨rfl, hb4⟩; rw [HTO.out]; have HB4 := Aside0.mk (HB3.out.trans (hb4.mono HB3.out.size)); have HS4 := Aside0.mk (HS3.out.below hb4); clear hb4) | ((with_reducible refine gate_dst (N := 10) ?_ ?_); exact rfl; ((with_reducible refine alloc_at (e := 80) ?_ ?_ (run_alloc59 _) ?_); exact rfl; exact rfl; have HF5 := Aside0.mk (DiskAt.hi HS4.out.d); have HZ5 := Aside0.mk (show (w4.alloc (.cells z59 80)).heap[w4.heap.size]? = some (.cells (nums .u8 zer64).toArray 80 (0, 0)) from heap_alloc_new w4 (.cells z59 80)); have HB5 := Aside0.mk (HB4.out.trans ((below_alloc (Below.refl _ _) (.cells z59 80)).mono HB4.out.size)); have HS5 := Aside0.mk (HS4.out.below (below_alloc (Below.refl _ _) (.cells z59 80))); generalize w4.alloc (.cells z59 80) = w5 at HZ5 HB5 HS5 ⊢; generalize w4.heap.size = q5 at HF5 HZ5 ⊢)) | (go_at_call 43; (with_reducible refine (step64 HS5.out HK.out.d HNH.out q (some ⟨q5, 0, none⟩) 64 zer64 zer64_len (Nat.le_refl _) (C8_young HF5.out HZ5.out zer64_le)).mono ?_); rintro e w6 ⟨rfl, hp6⟩; rw [HE1b.out]; rw [HE1a.out] at hp6; obtain ⟨F6, hF6, hs6, hu6⟩ := SPo.pre (F := F) HB5.out hp6; have HF6 := Aside0.mk hF6; have HS6 := Aside0.mk hs6; have HU6 := Aside0.mk hu6; clear hp6 hF6 hs6 hu6))
        go_ret
        exact ⟨by rw [HM.out] <;> rfl, by rw [HM.out]; exact ⟨F6, HF6.out, HS6.out, HU6.out⟩⟩
    · have hat1 : (at_ == 0) = false := by simpa using hat
      have hat2 : decide (at_ = 0) = false := decide_eq_false hat
      obtain ⟨q, hqq⟩ : ∃ q, fr + 0 * n = q := ⟨_, rfl⟩
      have HTM := Lib.hid (show toM fr n at_ = q by rw [toM, if_neg hat, hqq])
      clear hat
      have HTO := Lib.hid hqq
      have hq0 : 0 ≤ q ∧ q ≤ 2000 := by omega
      obtain ⟨hq00, hq01⟩ := hq0
      clear hqq
      obtain ⟨D1, h1a⟩ : ∃ D1, (stepM D q zer64).1 = D1 := ⟨_, rfl⟩
      obtain ⟨e1, h1b⟩ : ∃ e1, (stepM D q zer64).2 = e1 := ⟨_, rfl⟩
      have HE1a := Lib.hid h1a
      have HE1b := Lib.hid h1b
      have HOK1 := Aside0.mk (show DOk D1 from h1a ▸ stepM_ok HK.out.d (by have := HNH0.out; simp [zer64]; omega))
      have HL1 := Aside0.mk (show D1.held.length ≤ 5000064 from by have := (stepM_hs (D := D) q zer64).1; rw [h1a] at this; simp [zer64] at this; have := HNH0.out; omega)
      have HNH1 := Aside0.mk (show D1.held.length + 20000 ≤ 10000000 by have := HL1.out; omega)
      have h1c : stepM D q zer64 = (D1, e1) := Prod.ext h1a h1b
      by_cases he1 : e1 = 0
      · obtain ⟨D2, h2a⟩ : ∃ D2, (stepM D1 (q + 1) x).1 = D2 := ⟨_, rfl⟩
        obtain ⟨e2, h2b⟩ : ∃ e2, (stepM D1 (q + 1) x).2 = e2 := ⟨_, rfl⟩
        have HE2a := Lib.hid h2a
        have HE2b := Lib.hid h2b
        have h2c : stepM D1 (q + 1) x = (D2, e2) := Prod.ext h2a h2b
        have HOK2 := Aside0.mk (show DOk D2 from h2a ▸ stepM_ok HOK1.out (by have := HL1.out; omega))
        have HNH2 := Aside0.mk (show D2.held.length + 20000 ≤ 10000000 from by have := (stepM_hs (D := D1) (q + 1) x).1; rw [h2a] at this; have := HL1.out; omega)
        by_cases he2 : e2 = 0
        · have HM := Lib.hid (show putM D fr n x = stepM D2 q (headM (mo + 1) x) by rw [HPM.out, HTM.out, put3, h1c]; simp [he1, h2c, he2])
          subst he1
          subst he2
          clear h1a h1b h1c h2a h2b h2c
          go_enter Tryz.func22, Tryz.ntmps22
          go_wp2_with (first | (go_at_call 39; (with_reducible refine HRD.out.mono ?_); rintro e w1 ⟨rfl, rfl⟩) | (go_at_call 40; (with_reducible refine HN.out.mono ?_); rintro e w2 ⟨A2, c2, rfl, _, hb2⟩; have HB2 := Aside0.mk hb2; have HS2 := Aside0.mk (HS.out.below hb2); clear hb2) | (go_at_call 9; (with_reducible refine (room_calls HS2.out HK.out).mono ?_); rintro e w3 ⟨rfl, rfl⟩) | (go_at_call 42; (with_reducible refine (place_calls HS2.out HK.out 0 (by decide) (by decide)).mono ?_); rintro e w3 ⟨rfl, hb3⟩; have HB3 := Aside0.mk (HB2.out.trans (hb3.mono HB2.out.size)); have HS3 := Aside0.mk (HS2.out.below hb3); clear hb3; rw [HTO.out]) | ((with_reducible refine gate_dst (N := 10) ?_ ?_); exact rfl; ((with_reducible refine alloc_at (e := 80) ?_ ?_ (run_alloc59 _) ?_); exact rfl; exact rfl; have HF5 := Aside0.mk (DiskAt.hi HS3.out.d); have HZ5 := Aside0.mk (show (w3.alloc (.cells z59 80)).heap[w3.heap.size]? = some (.cells (nums .u8 zer64).toArray 80 (0, 0)) from heap_alloc_new w3 (.cells z59 80)); have HB5 := Aside0.mk (HB3.out.trans ((below_alloc (Below.refl _ _) (.cells z59 80)).mono HB3.out.size)); have HS5 := Aside0.mk (HS3.out.below (below_alloc (Below.refl _ _) (.cells z59 80))); generalize w3.alloc (.cells z59 80) = w5 at HZ5 HB5 HS5 ⊢; generalize w3.heap.size = q5 at HF5 HZ5 ⊢)) | (go_at_call 43; (with_reducible refine (step64 HS5.out HK.out.d HNH.out q (some ⟨q5, 0, none⟩) 64 zer64 zer64_len (Nat.le_refl _) (C8_young HF5.out HZ5.out zer64_le)).mono ?_); rintro e w6 ⟨rfl, hp6⟩; rw [HE1b.out]; rw [HE1a.out] at hp6; obtain ⟨F6, hF6, hs6, hu6⟩ := SPo.pre (F := F) HB5.out hp6; have HF6 := Aside0.mk hF6; have HS6 := Aside0.mk hs6; have HU6 := Aside0.mk hu6; clear hp6 hF6 hs6 hu6) | (go_at_call 43; (with_reducible refine (step_calls HS6.out HOK1.out HNH1.out (q + 1) A c x (by omega) HXC.out (fun W hW => HC.out W (HU6.out.trans hW HF6.out))).mono ?_); rintro e w7 ⟨rfl, hp7⟩; rw [HE2b.out]; rw [HE2a.out] at hp7; obtain ⟨F7, hF7, hs7, hu7⟩ := SPo.then HF6.out HU6.out hp7; have HF7 := Aside0.mk hF7; have HS7 := Aside0.mk hs7; have HU7 := Aside0.mk hu7; clear hp7 hF7 hs7 hu7) | (go_at_call 44; (with_reducible refine (headOf_calls (HG.out.upd HU7.out HNF.out.1 HNF.out.2) (mo + 1) (by omega) (by omega) A c x (HC.out _ HU7.out) (by omega)).mono ?_); rintro e w8 ⟨rfl, hb8⟩; have HS8 := Aside0.mk (HS7.out.below hb8); have HU8 := Aside0.mk (HU7.out.trans (Upd.of_below (F := F) hb8) (fun _ h => .inl h)); have HF8 := Aside0.mk (show ∀ k, F7 k → F k ∨ w.heap.size ≤ k from HF7.out); have HST := Aside0.mk (run_storeAt_new (P := Tryz.prog) w8 80 z59 (nums .u8 (headM (mo + 1) x)).toArray (info59 _ (headM_length _ _)) (by simp [z59, nums_length, headM_length]) (u8_one _)); clear hb8) | ((with_reducible refine gate_dst (N := 13) ?_ ?_); exact rfl; ((with_reducible refine alloc_at (e := 80) ?_ ?_ (run_alloc59 _) ?_); exact rfl; exact rfl)) | ((with_reducible refine store_at (ty := 80) (.tmp 13) (.tmp 58) ?_ ?_ ?_ HST.out ?_ ?_ ?_); exact rfl; exact rfl; exact rfl; exact rfl; exact rfl; have HF9 := Aside0.mk (DiskAt.hi HS8.out.d); have HZ9 := Aside0.mk (heap_alloc_new w8 (.cells (nums .u8 (headM (mo + 1) x)).toArray 80)); have HU9 := Aside0.mk (HU8.out.trans (Upd.of_below (F := F) (below_alloc (Below.refl w8.heap.size w8) (.cells (nums .u8 (headM (mo + 1) x)).toArray 80))) (fun _ h => .inl h)); have HS9 := Aside0.mk (HS8.out.below (below_alloc (Below.refl _ _) (.cells (nums .u8 (headM (mo + 1) x)).toArray 80))); clear HST; generalize w8.alloc (.cells (nums .u8 (headM (mo + 1) x)).toArray 80) = w9 at HZ9 HU9 HS9 ⊢; generalize w8.heap.size = q9 at HF9 HZ9 ⊢) | (go_at_call 43; (with_reducible refine (step64 HS9.out HOK2.out HNH2.out q (some ⟨q9, 0, none⟩) 64 (headM (mo + 1) x) (headM_length _ _) (Nat.le_refl _) (C8_young HF9.out HZ9.out (headM_le _ _))).mono ?_); rintro e w10 ⟨rfl, hp10⟩; have HP10 := Aside0.mk (SPo.then HF8.out HU9.out hp10); clear hp10))
          go_ret
          exact ⟨by rw [HM.out] <;> rfl, by rw [HM.out]; exact HP10.out⟩
        · have HM := Lib.hid (show putM D fr n x = (D2, e2) by rw [HPM.out, HTM.out, put3, h1c]; simp [he1, h2c, he2])
          have hx1 : (e2 == 0) = false := by simpa using he2
          have hx2 : (e2 != 0) = true := by simpa using he2
          have hx3 : decide (e2 = 0) = false := decide_eq_false he2
          subst he1
          clear h1a h1b h1c h2a h2b h2c he2
          go_enter Tryz.func22, Tryz.ntmps22
          go_wp2_with (first | (go_at_call 39; (with_reducible refine HRD.out.mono ?_); rintro e w1 ⟨rfl, rfl⟩) | (go_at_call 40; (with_reducible refine HN.out.mono ?_); rintro e w2 ⟨A2, c2, rfl, _, hb2⟩; have HB2 := Aside0.mk hb2; have HS2 := Aside0.mk (HS.out.below hb2); clear hb2) | (go_at_call 9; (with_reducible refine (room_calls HS2.out HK.out).mono ?_); rintro e w3 ⟨rfl, rfl⟩) | (go_at_call 42; (with_reducible refine (place_calls HS2.out HK.out 0 (by decide) (by decide)).mono ?_); rintro e w3 ⟨rfl, hb3⟩; have HB3 := Aside0.mk (HB2.out.trans (hb3.mono HB2.out.size)); have HS3 := Aside0.mk (HS2.out.below hb3); clear hb3; rw [HTO.out]) | ((with_reducible refine gate_dst (N := 10) ?_ ?_); exact rfl; ((with_reducible refine alloc_at (e := 80) ?_ ?_ (run_alloc59 _) ?_); exact rfl; exact rfl; have HF5 := Aside0.mk (DiskAt.hi HS3.out.d); have HZ5 := Aside0.mk (show (w3.alloc (.cells z59 80)).heap[w3.heap.size]? = some (.cells (nums .u8 zer64).toArray 80 (0, 0)) from heap_alloc_new w3 (.cells z59 80)); have HB5 := Aside0.mk (HB3.out.trans ((below_alloc (Below.refl _ _) (.cells z59 80)).mono HB3.out.size)); have HS5 := Aside0.mk (HS3.out.below (below_alloc (Below.refl _ _) (.cells z59 80))); generalize w3.alloc (.cells z59 80) = w5 at HZ5 HB5 HS5 ⊢; generalize w3.heap.size = q5 at HF5 HZ5 ⊢)) | (go_at_call 43; (with_reducible refine (step64 HS5.out HK.out.d HNH.out q (some ⟨q5, 0, none⟩) 64 zer64 zer64_len (Nat.le_refl _) (C8_young HF5.out HZ5.out zer64_le)).mono ?_); rintro e w6 ⟨rfl, hp6⟩; rw [HE1b.out]; rw [HE1a.out] at hp6; obtain ⟨F6, hF6, hs6, hu6⟩ := SPo.pre (F := F) HB5.out hp6; have HF6 := Aside0.mk hF6; have HS6 := Aside0.mk hs6; have HU6 := Aside0.mk hu6; clear hp6 hF6 hs6 hu6) | (go_at_call 43; (with_reducible refine (step_calls HS6.out HOK1.out HNH1.out (q + 1) A c x (by omega) HXC.out (fun W hW => HC.out W (HU6.out.trans hW HF6.out))).mono ?_); rintro e w7 ⟨rfl, hp7⟩; rw [HE2b.out]; rw [HE2a.out] at hp7; obtain ⟨F7, hF7, hs7, hu7⟩ := SPo.then HF6.out HU6.out hp7; have HF7 := Aside0.mk hF7; have HS7 := Aside0.mk hs7; have HU7 := Aside0.mk hu7; clear hp7 hF7 hs7 hu7))
          go_ret
          exact ⟨by rw [HM.out] <;> rfl, by rw [HM.out]; exact ⟨F7, HF7.out, HS7.out, HU7.out⟩⟩
      · have HM := Lib.hid (show putM D fr n x = (D1, e1) by rw [HPM.out, HTM.out, put3, h1c]; simp [he1])
        have hx1 : (e1 == 0) = false := by simpa using he1
        have hx2 : (e1 != 0) = true := by simpa using he1
        have hx3 : decide (e1 = 0) = false := decide_eq_false he1
        clear h1a h1b h1c he1
        go_enter Tryz.func22, Tryz.ntmps22
        go_wp2_with (first | (go_at_call 39; (with_reducible refine HRD.out.mono ?_); rintro e w1 ⟨rfl, rfl⟩) | (go_at_call 40; (with_reducible refine HN.out.mono ?_); rintro e w2 ⟨A2, c2, rfl, _, hb2⟩; have HB2 := Aside0.mk hb2; have HS2 := Aside0.mk (HS.out.below hb2); clear hb2) | (go_at_call 9; (with_reducible refine (room_calls HS2.out HK.out).mono ?_); rintro e w3 ⟨rfl, rfl⟩) | (go_at_call 42; (with_reducible refine (place_calls HS2.out HK.out 0 (by decide) (by decide)).mono ?_); rintro e w3 ⟨rfl, hb3⟩; have HB3 := Aside0.mk (HB2.out.trans (hb3.mono HB2.out.size)); have HS3 := Aside0.mk (HS2.out.below hb3); clear hb3; rw [HTO.out]) | ((with_reducible refine gate_dst (N := 10) ?_ ?_); exact rfl; ((with_reducible refine alloc_at (e := 80) ?_ ?_ (run_alloc59 _) ?_); exact rfl; exact rfl; have HF5 := Aside0.mk (DiskAt.hi HS3.out.d); have HZ5 := Aside0.mk (show (w3.alloc (.cells z59 80)).heap[w3.heap.size]? = some (.cells (nums .u8 zer64).toArray 80 (0, 0)) from heap_alloc_new w3 (.cells z59 80)); have HB5 := Aside0.mk (HB3.out.trans ((below_alloc (Below.refl _ _) (.cells z59 80)).mono HB3.out.size)); have HS5 := Aside0.mk (HS3.out.below (below_alloc (Below.refl _ _) (.cells z59 80))); generalize w3.alloc (.cells z59 80) = w5 at HZ5 HB5 HS5 ⊢; generalize w3.heap.size = q5 at HF5 HZ5 ⊢)) | (go_at_call 43; (with_reducible refine (step64 HS5.out HK.out.d HNH.out q (some ⟨q5, 0, none⟩) 64 zer64 zer64_len (Nat.le_refl _) (C8_young HF5.out HZ5.out zer64_le)).mono ?_); rintro e w6 ⟨rfl, hp6⟩; rw [HE1b.out]; rw [HE1a.out] at hp6; obtain ⟨F6, hF6, hs6, hu6⟩ := SPo.pre (F := F) HB5.out hp6; have HF6 := Aside0.mk hF6; have HS6 := Aside0.mk hs6; have HU6 := Aside0.mk hu6; clear hp6 hF6 hs6 hu6))
        go_ret
        exact ⟨by rw [HM.out] <;> rfl, by rw [HM.out]; exact ⟨F6, HF6.out, HS6.out, HU6.out⟩⟩

end Go.Proofs.YtmblnflfklmmkaaGreatDoor.Sh
/- Contracts of package store: Open; a store that is not there. -/
namespace Go.Proofs.YtmblnflfklmmkaaGreatDoor.Sh
open Go.Proofs.YtmblnflfklmmkaaGreatDoor.Dk
open Go.RowKit Go.Proofs.YtmblnflfklmmkaaGreatDoorW.PrintWords Go.Proofs.YtmblnflfklmmkaaGreatDoorW.PrintLast Go.Proofs.YtmblnflfklmmkaaGreatDoorW.PrintMore
set_option linter.unusedVariables false
set_option linter.unusedSimpArgs false
set_option maxRecDepth 30000

variable {w w0 w1 w2 wr : World} {B s g : Nat} {F : Nat → Prop} {D D' : DM} {fr n : Int} {xs hs b : List Int}
theorem sizeS (h : DiskAt w B g F D) : Calls Tryz.prog 41 #[.pointer (some ⟨g, 0, none⟩)] w fun e w' => e = .returned (.int .i64 (D.sec.length : Int)) ∧ w = w' := by
  obtain ⟨_, _, _, h⟩ := h
  exact Size_calls h
def OpenPo (w w' : World) (B g : Nat) (F : Nat → Prop) (D : DM) (fr n : Int) (e : Ending) : Prop :=
  (¬ (2 ≤ n ∧ 0 ≤ fr ∧ fr + 2 * n ≤ (D.sec.length : Int)) ∧ e = .returned (.tuple #[.pointer none, .int .i64 1]) ∧ Below w.heap.size w w') ∨
  ((2 ≤ n ∧ 0 ≤ fr ∧ fr + 2 * n ≤ (D.sec.length : Int)) ∧ ∃ s, e = .returned (.tuple #[.pointer (some ⟨s, 0, none⟩), .int .i64 0]) ∧ SAt w' B s g F D fr n ∧ w.heap.size ≤ s ∧ Below w.heap.size w w')
set_option maxHeartbeats 16000000 in
theorem Open_calls (h : DiskAt w B g F D) (hl : D.sec.length ≤ 1000) (fr n : Int) : Calls Tryz.prog 21 #[.pointer (some ⟨g, 0, none⟩), .int .i64 fr, .int .i64 n] w fun e w' => OpenPo w w' B g F D fr n e := by
  have HD := Aside0.mk h
  obtain ⟨S, hS⟩ : ∃ S : Nat, D.sec.length = S := ⟨_, rfl⟩
  have HSS := Lib.hid hS
  have HF := Aside0.mk (DiskAt.hi h)
  rw [hS] at hl
  clear h hS
  by_cases h1 : n < 2
  · have hq : decide (n < 2) = true := decide_eq_true h1
    have HB := Aside0.mk h1
    clear h1
    go_enter Tryz.func21, Tryz.ntmps21
    go_wp2_with (first | (go_at_call 41; (with_reducible refine (sizeS HD.out).mono ?_); rintro e w1 ⟨rfl, rfl⟩; rw [HSS.out]))
    refine bodyPost_ret (results_tmp2 rfl _ _ _) rfl ?_
    exact .inl ⟨by have := HB.out; omega, rfl, Below.refl _ _⟩
  have hq : decide (n < 2) = false := decide_eq_false h1
  by_cases h2 : fr < 0
  · have hq2 : decide (fr < 0) = true := decide_eq_true h2
    have HB := Aside0.mk h2
    clear h2 h1
    go_enter Tryz.func21, Tryz.ntmps21
    go_wp2_with (first | (go_at_call 41; (with_reducible refine (sizeS HD.out).mono ?_); rintro e w1 ⟨rfl, rfl⟩; rw [HSS.out]))
    refine bodyPost_ret (results_tmp2 rfl _ _ _) rfl ?_
    exact .inl ⟨by have := HB.out; omega, rfl, Below.refl _ _⟩
  have hq2 : decide (fr < 0) = false := decide_eq_false h2
  by_cases h3 : (S : Int) < fr
  · have hq3 : decide ((S : Int) < fr) = true := decide_eq_true h3
    have HB := Aside0.mk h3
    have HB1 := Aside0.mk h1
    clear h2 h1 h3
    go_enter Tryz.func21, Tryz.ntmps21
    go_wp2_with (first | (go_at_call 41; (with_reducible refine (sizeS HD.out).mono ?_); rintro e w1 ⟨rfl, rfl⟩; rw [HSS.out]))
    refine bodyPost_ret (results_tmp2 rfl _ _ _) rfl ?_
    exact .inl ⟨by have := HB.out; have := HB1.out; rw [HSS.out]; omega, rfl, Below.refl _ _⟩
  have hq3 : decide ((S : Int) < fr) = false := decide_eq_false h3
  obtain ⟨m, hm⟩ : ∃ m : Int, m = ((S : Int) - fr) / 2 := ⟨_, rfl⟩
  have HM := Lib.hid hm
  have hfr0 : 0 ≤ fr := by omega
  have hfrS : fr ≤ S := by omega
  by_cases h4 : ((S : Int) - fr) / 2 < n
  · have hq4 : decide (((S : Int) - fr) / 2 < n) = true := decide_eq_true h4
    have HB := Aside0.mk (show ¬ fr + 2 * n ≤ (S : Int) by omega)
    clear h2 h1 h3 h4 hm
    go_enter Tryz.func21, Tryz.ntmps21
    go_wp2_with (first | (go_at_call 41; (with_reducible refine (sizeS HD.out).mono ?_); rintro e w1 ⟨rfl, rfl⟩; rw [HSS.out]))
    refine bodyPost_ret (results_tmp2 rfl _ _ _) rfl ?_
    exact .inl ⟨by have := HB.out; rw [HSS.out]; omega, rfl, Below.refl _ _⟩
  · have hq4 : decide (((S : Int) - fr) / 2 < n) = false := decide_eq_false h4
    have HB := Aside0.mk (show 2 ≤ n ∧ 0 ≤ fr ∧ fr + 2 * n ≤ (S : Int) by omega)
    clear h2 h1 h3 h4 hm
    go_enter Tryz.func21, Tryz.ntmps21
    go_wp2_with (first | (go_at_call 41; (with_reducible refine (sizeS HD.out).mono ?_); rintro e w1 ⟨rfl, rfl⟩; rw [HSS.out]))
    refine bodyPost_ret (results_tmp2 rfl _ _ _) rfl ?_
    refine .inr ⟨by rw [HSS.out]; exact HB.out, w.heap.size, rfl, ⟨heap_alloc_new w _, HD.out.frame (G := fun _ => False) (Upd.of_below (below_alloc (Below.refl _ _) _)) (fun _ _ _ h => h), fun h => by have := HF.out _ h; omega⟩, Nat.le_refl _, below_alloc (Below.refl _ _) _⟩
end Go.Proofs.YtmblnflfklmmkaaGreatDoor.Sh
/- Plain facts about disks: what is written is read, flushed or not. -/
namespace Go.Proofs.YtmblnflfklmmkaaGreatDoor.Dk
open Go.RowKit Go.Proofs.YtmblnflfklmmkaaGreatDoorW.PrintWords Go.Proofs.YtmblnflfklmmkaaGreatDoorW.PrintLast Go.Proofs.YtmblnflfklmmkaaGreatDoorW.PrintMore
set_option linter.unusedVariables false
set_option linter.unusedSimpArgs false
set_option maxRecDepth 30000
variable {D D' : DM} {k : Int} {x : List Int}
/-- A disk whose power does not go. -/
structure Calm (D : DM) : Prop where
  set : D.set = false
  down : D.down = false
theorem calm_goes (h : Calm D) : goesM D = ({ D with strokes := wrap64 (D.strokes + 1) }, false) := by simp [goesM, h.set]
theorem calm_at (h : Calm D) (h0 : 0 ≤ k) (h1 : k < (D.sec.length : Int)) : atM D k = 0 := by
  unfold atM
  rw [h.down, if_neg (by decide), if_neg (by omega)]
theorem calm_write (h : Calm D) (h0 : 0 ≤ k) (h1 : k < (D.sec.length : Int)) (hx : x.length = 64) : (writeM D k x).2 = 0 ∧ (writeM D k x).1.held = D.held ++ [(k, x)] ∧ (writeM D k x).1.sec = D.sec ∧ Calm (writeM D k x).1 := by
  have hg := calm_goes (D := holdM D k x) ⟨h.set, h.down⟩
  have e : writeM D k x = ((goesM (holdM D k x)).1, 0) := by
    unfold writeM
    rw [if_neg (by rw [calm_at h h0 h1]; decide), if_neg (by omega), if_neg (by rw [hg]; exact Bool.false_ne_true)]
  rw [e, hg]
  exact ⟨rfl, rfl, rfl, h.set, h.down⟩
theorem calm_flush (h : Calm D) : (flushM D).2 = 0 ∧ (flushM D).1.held = [] ∧ (flushM D).1.sec = putsTo (fun _ => true) D.held D.sec D.held.length ∧ Calm (flushM D).1 := by
  have hg := calm_goes h
  have e : flushM D = (putsM (fun _ => true) (goesM D).1, 0) := by
    unfold flushM
    rw [h.down, if_neg (by decide), if_neg (by rw [hg]; exact Bool.false_ne_true)]
  rw [e, hg]
  exact ⟨rfl, rfl, rfl, h.set, h.down⟩
theorem calm_saveFrom (x : List Int) (k : Int) : ∀ (m i : Nat) (D : DM), Calm D → 0 ≤ k → k + i + m ≤ (D.sec.length : Int) →
    (saveFrom x k m i D).2 = 0 ∧ (saveFrom x k m i D).1.held = D.held ++ (List.range m).map (fun j => (k + ((i + j : Nat) : Int), secAt x (i + j))) ∧ (saveFrom x k m i D).1.sec = D.sec ∧ Calm (saveFrom x k m i D).1
  | 0, i, D, h, _, _ => ⟨rfl, by simp [saveFrom], rfl, h⟩
  | m + 1, i, D, h, h0, h1 => by
    obtain ⟨w1, w2, w3, w4⟩ := calm_write (k := k + i) (x := secAt x i) h (by omega) (by omega) (secAt_length x i)
    have e : saveFrom x k (m + 1) i D = saveFrom x k m (i + 1) (writeM D (k + i) (secAt x i)).1 := by
      rw [saveFrom, if_neg (by rw [w1]; decide)]
    obtain ⟨r1, r2, r3, r4⟩ := calm_saveFrom x k m (i + 1) _ w4 h0 (by rw [w3]; omega)
    rw [e]
    refine ⟨r1, ?_, r3.trans w3, r4⟩
    rw [r2, w2, List.range_succ_eq_map, List.map_cons, List.append_assoc]
    simp [List.map_map, Function.comp_def, Nat.add_assoc, Nat.add_comm 1]
theorem readTo_app (k0 : Int) (f : Nat → List Int) (H : List (Int × List Int)) (s : List Int) (M i : Nat) : ∀ n, n ≤ M → i < n → readTo (k0 + i) (H ++ (List.range M).map (fun j : Nat => (k0 + (j : Int), f j))) s (H.length + n) = f i
  | 0, _, h => absurd h (Nat.not_lt_zero _)
  | n + 1, hn, hi => by
    have e : (H ++ (List.range M).map (fun j : Nat => (k0 + (j : Int), f j))).getD (H.length + n) (0, []) = (k0 + (n : Int), f n) := by
      rw [List.getD_eq_getElem?_getD, List.getElem?_append_right (by omega)]
      simp [show n < M by omega]
    rw [← Nat.add_assoc, readTo, e]
    by_cases h : n = i
    · subst h
      rw [if_pos rfl]
    · rw [if_neg (by simp only; omega)]
      exact readTo_app k0 f H s M i n (by omega) (by omega)
theorem puts_read (H : List (Int × List Int)) (S : List (List Int)) (j : Nat) (hH : ∀ h ∈ H, 0 ≤ h.1 ∧ h.1 < (S.length : Int)) : ∀ n, n ≤ H.length → (putsTo (fun _ => true) H S n).getD j [] = readTo j H (S.getD j []) n
  | 0, _ => rfl
  | n + 1, hn => by
    obtain ⟨a0, a1⟩ := hH (H.getD n (0, [])) (by rw [List.getD_eq_getElem?_getD, List.getElem?_eq_getElem (by omega)]; exact List.getElem_mem (by omega))
    rw [putsTo, if_pos rfl, readTo]
    have hl := putsTo_length (fun _ => true) H S n
    by_cases h : (H.getD n (0, [])).1 = j
    · rw [if_pos h, List.getD_eq_getElem?_getD, List.getElem?_set, if_pos (by omega), if_pos (by omega)]
      rfl
    · rw [if_neg h, List.getD_eq_getElem?_getD, List.getElem?_set, if_neg (by omega), ← List.getD_eq_getElem?_getD]
      exact puts_read H S j hH n (by omega)
/-- A flush changes nothing of what is read. -/
theorem flush_read (h : Calm D) (hok : DOk D) (h0 : 0 ≤ k) : readM (flushM D).1 k = readM D k := by
  obtain ⟨_, f2, f3, _⟩ := calm_flush h
  unfold readM
  rw [f2, f3]
  show (putsTo _ _ _ _).getD k.toNat [] = _
  rw [puts_read D.held D.sec k.toNat hok.at_ _ (Nat.le_refl _), Int.toNat_of_nonneg h0]
theorem readsTo_congr (k : Int) : ∀ m : Nat, (∀ i, i < m → readM D' (k + (i : Nat)) = readM D (k + (i : Nat))) → readsTo D' k m = readsTo D k m
  | 0, _ => rfl
  | m + 1, h => by
    rw [readsTo, readsTo, readsTo_congr k m (fun i hi => h i (by omega)), h m (by omega)]
theorem reads_len (k : Int) (x : List Int) : ∀ m : Nat, (∀ i, i < m → readM D (k + (i : Nat)) = secAt x i) → (readsTo D k m).length = 64 * m
  | 0, _ => rfl
  | m + 1, h => by
    rw [readsTo, List.length_append, reads_len k x m (fun i hi => h i (by omega)), h m (by omega), secAt_length]
    omega
theorem reads_take (k : Int) (x : List Int) : ∀ m : Nat, (∀ i, i < m → readM D (k + (i : Nat)) = secAt x i) → 64 * m ≤ x.length + 63 → (readsTo D k m).take x.length = x.take (64 * m)
  | 0, _, _ => by simp [readsTo]
  | m + 1, h, hm => by
    have ih := reads_take k x m (fun i hi => h i (by omega)) (by omega)
    have hl := reads_len k x m (fun i hi => h i (by omega))
    rw [readsTo, h m (by omega), List.take_append, ih, hl, secAt, Nat.mul_comm m 64, show 64 * (m + 1) = 64 * m + 64 by omega, List.take_add]
    congr 1
    rw [List.take_append, List.take_take, List.length_take, List.length_drop, List.take_replicate]
    rw [show min (x.length - 64 * m - min 64 (x.length - 64 * m)) (64 - min (x.length - 64 * m) 64) = 0 by omega, List.replicate_zero, List.append_nil]
    by_cases h64 : x.length - 64 * m ≤ 64
    · rw [show min (x.length - 64 * m) 64 = x.length - 64 * m by omega, List.take_of_length_le (by rw [List.length_drop]; omega), List.take_of_length_le (by rw [List.length_drop]; omega)]
    · rw [show min (x.length - 64 * m) 64 = 64 by omega]
/-- A calm disk's Save: what comes of it. -/
theorem calm_save (h : Calm D) (h0 : 0 ≤ k) (h1 : k ≤ (D.sec.length : Int)) :
    (((saveM D k x).2 = 0 ∧ ((x.length + 63) / 64 : Nat) ≤ (D.sec.length : Int) - k) ∨ ((saveM D k x).2 = 61 ∧ 64 * ((D.sec.length : Int) - k) < (x.length : Int) ∧ (saveM D k x).1 = D)) := by
  have hsp : spanM D k x.length = if (D.sec.length : Int) - k < needM x.length then 61 else 0 := by
    unfold spanM
    rw [h.down, if_neg (by decide)]
    by_cases hc : (D.sec.length : Int) - k < needM x.length
    · rw [if_pos (.inr (.inr hc)), if_pos hc]
    · rw [if_neg (by omega), if_neg hc]
  rw [need_nat] at hsp
  by_cases hc : (D.sec.length : Int) - k < (((x.length + 63) / 64 : Nat) : Int)
  · rw [if_pos hc] at hsp
    right
    have e : saveM D k x = (D, 61) := by
      unfold saveM
      rw [hsp, if_pos (by decide)]
    rw [e]
    exact ⟨rfl, by omega, rfl⟩
  · rw [if_neg hc] at hsp
    left
    have e : saveM D k x = saveFrom x k ((x.length + 63) / 64) 0 D := by
      unfold saveM
      rw [hsp, if_neg (by decide)]
    rw [e]
    exact ⟨(calm_saveFrom x k _ 0 D h h0 (by omega)).1, by omega⟩
theorem calm_saved (h : Calm D) (h0 : 0 ≤ k) (h1 : k ≤ (D.sec.length : Int)) (hs : (saveM D k x).2 = 0) : Calm (saveM D k x).1 ∧ (saveM D k x).1.sec = D.sec ∧ spanM (saveM D k x).1 k x.length = 0 ∧ (∀ i, i < (x.length + 63) / 64 → readM (saveM D k x).1 (k + (i : Nat)) = secAt x i) := by
  rcases calm_save (x := x) h h0 h1 with ⟨_, hm⟩ | ⟨h2, _⟩
  · have hsp : ∀ D' : DM, D'.down = false → D'.sec = D.sec → spanM D' k x.length = 0 := fun D' hd hs' => by
      unfold spanM
      rw [hd, if_neg (by decide), hs', need_nat, if_neg (by omega)]
    have e : saveM D k x = saveFrom x k ((x.length + 63) / 64) 0 D := by
      unfold saveM
      rw [hsp D h.down rfl, if_neg (by decide)]
    obtain ⟨_, r2, r3, r4⟩ := calm_saveFrom x k ((x.length + 63) / 64) 0 D h h0 (by omega)
    rw [e]
    refine ⟨r4, r3, hsp _ r4.down r3, fun i hi => ?_⟩
    unfold readM
    rw [r2]
    have e2 : (List.range ((x.length + 63) / 64)).map (fun j => (k + ((0 + j : Nat) : Int), secAt x (0 + j))) = (List.range ((x.length + 63) / 64)).map (fun j : Nat => (k + (j : Int), secAt x j)) := by simp
    rw [e2, List.length_append, List.length_map, List.length_range]
    exact readTo_app k (secAt x) D.held _ _ i _ (Nat.le_refl _) hi
  · omega
/-- What was saved is loaded. -/
theorem saved_reads (hr : ∀ i, i < (x.length + 63) / 64 → readM D (k + (i : Nat)) = secAt x i) : (readsTo D k ((x.length + 63) / 64)).take x.length = x := by
  rw [reads_take k x _ hr (by omega), List.take_of_length_le (by omega)]
end Go.Proofs.YtmblnflfklmmkaaGreatDoor.Dk
/- Plain facts about stores: what a Put leaves on a disk whose power does not go. -/
namespace Go.Proofs.YtmblnflfklmmkaaGreatDoor.Sh
open Go.Proofs.YtmblnflfklmmkaaGreatDoor.Dk
open Go.RowKit Go.Proofs.YtmblnflfklmmkaaGreatDoorW.PrintWords Go.Proofs.YtmblnflfklmmkaaGreatDoorW.PrintLast Go.Proofs.YtmblnflfklmmkaaGreatDoorW.PrintMore
set_option linter.unusedVariables false
set_option linter.unusedSimpArgs false
set_option maxRecDepth 30000
variable {D D' : DM} {fr n q k g : Int} {x y b : List Int}
def secN (x : List Int) : Nat := (x.length + 63) / 64
theorem readTo_skip (k : Int) (H K : List (Int × List Int)) (s : List Int) (hK : ∀ h ∈ K, h.1 ≠ k) : ∀ j, j ≤ K.length → readTo k (H ++ K) s (H.length + j) = readTo k H s H.length
  | 0, _ => by
    have : ∀ i, i ≤ H.length → readTo k (H ++ K) s i = readTo k H s i := by
      intro i
      induction i with
      | zero => intro _; rfl
      | succ i ih =>
        intro hi
        have e : (H ++ K).getD i (0, []) = H.getD i (0, []) := by
          rw [List.getD_eq_getElem?_getD, List.getElem?_append_left (by omega), ← List.getD_eq_getElem?_getD]
        rw [readTo, readTo, e, ih (by omega)]
    exact this _ (Nat.le_refl _)
  | j + 1, hj => by
    have e : (H ++ K).getD (H.length + j) (0, []) = K.getD j (0, []) := by
      rw [List.getD_eq_getElem?_getD, List.getElem?_append_right (by omega), Nat.add_sub_cancel_left, ← List.getD_eq_getElem?_getD]
    rw [← Nat.add_assoc, readTo, e, if_neg]
    · exact readTo_skip k H K s hK j (by omega)
    · rw [List.getD_eq_getElem?_getD, List.getElem?_eq_getElem (by omega), Option.getD_some]
      exact hK _ (List.getElem_mem _)
/-- One step on a disk whose power does not go. -/
structure Stepped (D D' : DM) (q : Int) (x : List Int) : Prop where
  calm : Dk.Calm D'
  len : D'.sec.length = D.sec.length
  held : D'.held = []
  ok : DOk D'
  own : ∀ i, i < secN x → readM D' (q + (i : Nat)) = secAt x i
  other : ∀ k, 0 ≤ k → (k < q ∨ q + (secN x : Nat) ≤ k) → readM D' k = readM D k
theorem calm_step (h : Dk.Calm D) (hok : DOk D) (h0 : 0 ≤ q) (h1 : q + (secN x : Nat) ≤ (D.sec.length : Int)) (hn : D.held.length + x.length ≤ 10000000) : (stepM D q x).2 = 0 ∧ Stepped D (stepM D q x).1 q x := by
  have hsp : spanM D q x.length = 0 := by
    unfold spanM
    rw [h.down, if_neg (by decide), need_nat, if_neg (by have : ((x.length + 63) / 64 : Nat) = secN x := rfl; omega)]
  have e : saveM D q x = saveFrom x q (secN x) 0 D := by
    unfold saveM
    rw [hsp, if_neg (by decide)]
    rfl
  obtain ⟨r1, r2, r3, r4⟩ := calm_saveFrom x q (secN x) 0 D h h0 (by omega)
  rw [← e] at r1 r2 r3 r4
  have hs := calm_saved h h0 (by omega) r1
  have hok1 := saveM_ok (k := q) (x := x) hok hn
  obtain ⟨f1, f2, f3, f4⟩ := calm_flush r4
  have em : stepM D q x = flushM (saveM D q x).1 := by rw [stepM, r1, if_neg (by decide)]
  rw [em]
  refine ⟨f1, f4, by rw [f3, putsTo_length, r3], f2, flushM_ok hok1, fun i hi => ?_, fun k hk hd => ?_⟩
  · rw [flush_read r4 hok1 (by omega)]
    exact hs.2.2.2 i hi
  · rw [flush_read r4 hok1 hk]
    unfold readM
    rw [r2, r3, List.length_append, List.length_map, List.length_range]
    refine readTo_skip k D.held _ _ (fun h hh => ?_) (secN x) (by simp)
    rw [List.mem_map] at hh
    obtain ⟨j, hj, rfl⟩ := hh
    rw [List.mem_range] at hj
    simp only
    omega
theorem secAt_self (hx : x.length = 64) : secAt x 0 = x := by
  simp [secAt, hx, List.take_of_length_le]
theorem secN_64 (hx : x.length = 64) : secN x = 1 := by simp [secN, hx]
/-- All three steps. -/
structure Put3 (D D' : DM) (q : Int) (x h : List Int) : Prop where
  calm : Dk.Calm D'
  len : D'.sec.length = D.sec.length
  held : D'.held = []
  ok : DOk D'
  head : readM D' q = h
  own : ∀ i, i < secN x → readM D' (q + 1 + (i : Nat)) = secAt x i
  other : ∀ k, 0 ≤ k → (k < q ∨ q + 1 + (secN x : Nat) ≤ k) → readM D' k = readM D k
theorem calm_put3 {h : List Int} (hc : Dk.Calm D) (hok : DOk D) (h0 : 0 ≤ q) (h1 : q + 1 + (secN x : Nat) ≤ (D.sec.length : Int)) (hn : D.held.length + 100 ≤ 10000000) (hx : x.length ≤ 1000000) (hh : h.length = 64) : (put3 D q x h).2 = 0 ∧ Put3 D (put3 D q x h).1 q x h := by
  have z1 : secN zer64 = 1 := secN_64 zer64_len
  obtain ⟨a1, a2⟩ := calm_step (x := zer64) hc hok h0 (by rw [z1]; omega) (by rw [zer64_len]; omega)
  have hl1 := a2.len
  obtain ⟨b1, b2⟩ := calm_step (q := q + 1) (x := x) a2.calm a2.ok (by omega) (by rw [hl1]; omega) (by rw [a2.held]; simp; omega)
  have hl2 := b2.len
  obtain ⟨c1, c2⟩ := calm_step (q := q) (x := h) b2.calm b2.ok h0 (by rw [hl2, hl1, secN_64 hh]; omega) (by rw [b2.held, hh]; simp)
  have e : put3 D q x h = stepM (stepM (stepM D q zer64).1 (q + 1) x).1 q h := by
    unfold put3
    rw [a1, if_neg (by decide), b1, if_neg (by decide)]
  rw [e]
  have z2 := secN_64 hh
  refine ⟨c1, c2.calm, by rw [c2.len, hl2, hl1], c2.held, c2.ok, ?_, fun i hi => ?_, fun k hk hd => ?_⟩
  · have := c2.own 0 (by rw [z2]; decide)
    rw [secAt_self hh] at this
    simpa using this
  · rw [c2.other _ (by omega) (by rw [z2]; omega)]
    exact b2.own i hi
  · rw [c2.other _ hk (by rw [z2]; omega), b2.other _ hk (by omega), a2.other _ hk (by rw [z1]; omega)]
/-! ### Heads -/
theorem putR_split (hs : List Int) (o m : Nat) (n : Int) (hm : o + m ≤ hs.length) : ∀ j, j ≤ m → putR hs o m n j = hs.take (o + (m - j)) ++ beM j n ++ hs.drop (o + m)
  | 0, _ => by simp [putR, beM]
  | j + 1, hj => by
    rw [putR, putR_split hs o m n hm j (by omega)]
    have e : m - j = (m - 1 - j) + 1 := by omega
    have e2 : m - (j + 1) = m - 1 - j := by omega
    rw [e, e2, ← Nat.add_assoc, List.take_succ_eq_append_getElem (by omega)]
    have hb : beM (j + 1) n = shN n j % 256 :: beM j n := by
      have : ∀ (j : Nat) (n : Int), beM (j + 1) n = shN n j % 256 :: beM j n := by
        intro j
        induction j with
        | zero => intro n; rfl
        | succ j ih =>
          intro n
          have hsh : ∀ (j : Nat) (n : Int), shN (n / 256) j = shN n (j + 1) := by
            intro j
            induction j with
            | zero => intro n; rfl
            | succ j ih =>
              intro n
              show shN (n / 256) j / 256 = shN n (j + 1) / 256
              rw [ih]
          rw [beM, ih, hsh]
          rfl
      exact this j n
    rw [hb]
    simp only [List.append_assoc, List.singleton_append, List.cons_append]
    rw [List.set_append_right _ _ (by rw [List.length_take]; omega)]
    have e3 : o + (m - 1 - j) - (List.take (o + (m - 1 - j)) hs).length = 0 := by rw [List.length_take]; omega
    rw [e3, List.set_cons_zero]
    simp only [List.nil_append]
theorem putR_all (hs : List Int) (o m : Nat) (n : Int) (hm : o + m ≤ hs.length) : putR hs o m n m = hs.take o ++ beM m n ++ hs.drop (o + m) := by
  have := putR_split hs o m n hm m (Nat.le_refl _)
  simpa using this
theorem headM_eq (g : Int) (y : List Int) : headM g y = [73, 77, 80, 82] ++ beM 8 g ++ beM 4 y.length ++ digestM (beM 8 g) y ++ List.replicate 16 0 := by
  have h8 := beM_length 8 g
  have h4 := beM_length 4 (y.length : Int)
  have e1 : putR mark60 4 8 g 8 = [73, 77, 80, 82] ++ beM 8 g ++ List.replicate 52 0 := by
    rw [putR_all mark60 4 8 g (by decide)]
    rfl
  have e2 : headR g y = [73, 77, 80, 82] ++ beM 8 g ++ beM 4 y.length ++ List.replicate 48 0 := by
    rw [headR, e1, putR_all _ 12 4 _ (by simp [h8])]
    simp [List.take_append, List.drop_append, h8, List.take_of_length_le, List.drop_of_length_le]
  have e3 : hgen (headR g y) = beM 8 g := by
    rw [hgen, e2]
    simp [List.take_append, List.drop_append, h8, List.take_of_length_le, List.drop_of_length_le]
  rw [headM, e3, e2]
  simp [List.take_append, List.drop_append, h8, h4, List.take_of_length_le, List.drop_of_length_le]
theorem or_add (a c : Int) (h0 : 0 ≤ a) (h1 : a ≤ 72057594037927935) (h2 : 0 ≤ c) (h3 : c ≤ 255) : num1 a c = a * 256 + c := by
  obtain ⟨a, rfl⟩ := Int.eq_ofNat_of_zero_le h0
  obtain ⟨c, rfl⟩ := Int.eq_ofNat_of_zero_le h2
  have wa : IntKind.u64.wrap ((a : Int) * 256) = ((a * 256 : Nat) : Int) := by
    have e : IntKind.u64.wrap ((a : Int) * 256) = ((a : Int) * 256) % 18446744073709551616 := by simp [IntKind.wrap, IntKind.signed, IntKind.bits]
    rw [e]; omega
  have wc : IntKind.u64.wrap (c : Int) = (c : Int) := by
    have e : IntKind.u64.wrap (c : Int) = (c : Int) % 18446744073709551616 := by simp [IntKind.wrap, IntKind.signed, IntKind.bits]
    rw [e]; omega
  rw [num1, wa, wc]
  have hor : (a * 256) ||| c = a * 256 + c := by
    have := Nat.shiftLeft_add_eq_or_of_lt (b := c) (i := 8) (by omega) a
    rw [Nat.shiftLeft_eq] at this
    exact this.symm
  have e2 : IntKind.u64.wrap (((a * 256 + c : Nat) : Int)) = ((a * 256 + c : Nat) : Int) := by
    have e : IntKind.u64.wrap (((a * 256 + c : Nat) : Int)) = (((a * 256 + c : Nat) : Int)) % 18446744073709551616 := by simp [IntKind.wrap, IntKind.signed, IntKind.bits]
    rw [e]; omega
  have hb : (BitVec.ofInt IntKind.u64.bits ((a * 256 : Nat) : Int) ||| BitVec.ofInt IntKind.u64.bits (c : Int)).toNat = a * 256 + c := by
    rw [BitVec.toNat_or, BitVec.toNat_ofInt, BitVec.toNat_ofInt]
    have hbits : IntKind.u64.bits = 64 := rfl
    rw [hbits]
    have e1 : (((a * 256 : Nat) : Int) % ((2 ^ 64 : Nat) : Int)).toNat = a * 256 := by omega
    have e2 : ((c : Int) % ((2 ^ 64 : Nat) : Int)).toNat = c := by omega
    rw [e1, e2, hor]
  unfold Go.bits
  simp only [hb]
  rw [e2]
  omega
theorem numM_be : ∀ (m : Nat) (n : Int), m ≤ 8 → 0 ≤ n → n < 256 ^ m → numM (beM m n) = n
  | 0, n, _, h0, h1 => by
    have : n = 0 := by simp at h1; omega
    rw [this]; rfl
  | m + 1, n, hm, h0, h1 => by
    have hp : (256 : Int) ^ (m + 1) = 256 ^ m * 256 := by rw [Int.pow_succ]
    have ih := numM_be m (n / 256) (by omega) (by omega) (by rw [hp] at h1; omega)
    have hle : n / 256 ≤ 72057594037927935 := by
      have : (256 : Int) ^ m ≤ 256 ^ 7 := by
        have h := Nat.pow_le_pow_right (n := 256) (by decide) (show m ≤ 7 by omega)
        exact_mod_cast h
      rw [hp] at h1
      have h7 : (256 : Int) ^ 7 = 72057594037927936 := by decide
      omega
    rw [beM]
    unfold numM at ih ⊢
    rw [List.foldl_append, ih]
    show num1 (n / 256) (n % 256) = n
    rw [or_add _ _ (by omega) hle (by omega) (by omega)]
    omega
theorem hdG_head (h0 : 0 ≤ g) (h1 : g ≤ 18446744073709551615) : hdG (headM g y) = g := by
  have h8 := beM_length 8 g
  have e : ((headM g y).drop 4).take 8 = beM 8 g := by
    rw [headM_eq]
    simp [List.take_append, List.drop_append, h8, List.take_of_length_le, List.drop_of_length_le]
  rw [hdG, e]
  exact numM_be 8 g (by decide) h0 (by have : (256 : Int) ^ 8 = 18446744073709551616 := by decide
                                       omega)
theorem hdN_head (hy : y.length ≤ 1000000) : hdN (headM g y) = y.length := by
  have h8 := beM_length 8 g
  have h4 := beM_length 4 (y.length : Int)
  have e : ((headM g y).drop 12).take 4 = beM 4 y.length := by
    rw [headM_eq]
    simp [List.take_append, List.drop_append, h8, h4, List.take_of_length_le, List.drop_of_length_le]
  rw [hdN, e]
  exact numM_be 4 _ (by decide) (by omega) (by have : (256 : Int) ^ 4 = 4294967296 := by decide
                                               omega)
end Go.Proofs.YtmblnflfklmmkaaGreatDoor.Sh
/- Plain facts: the reference's digest as lists; it is the program's. -/
namespace Go.Proofs.YtmblnflfklmmkaaGreatDoor.Sh
open Go.Proofs.YtmblnflfklmmkaaGreatDoor.Dk Go.Proofs.YtmblnflfklmmkaaGreatDoor.P
open Go.RowKit Go.Proofs.YtmblnflfklmmkaaGreatDoorW.PrintWords Go.Proofs.YtmblnflfklmmkaaGreatDoorW.PrintLast Go.Proofs.YtmblnflfklmmkaaGreatDoorW.PrintMore
set_option linter.unusedVariables false
set_option linter.unusedSimpArgs false
set_option maxRecDepth 30000
/-! ### Totality: what the reference reckons, of whatever numbers -/
theorem cut_some (x : Int) : imprimaturref02_Words_cut.f 4294967296 32 x = some (Int.tmod x 4294967296) := by
  unfold imprimaturref02_Words_cut.f
  rw [if_neg (by decide)]
def turnR (x b : Int) : Int := Int.tmod (Go.bits .or .u64 (shr .u64 x b) (shl .u64 x (IntKind.u64.wrap (32 - b)))) 4294967296
theorem turn_some (x : Int) {b : Int} (h0 : 0 ≤ b) (h1 : b ≤ 32) : imprimaturref02_Words_turn.f 4294967296 32 x b = some (turnR x b) := by
  have hw : 0 ≤ IntKind.u64.wrap (32 - b) := by rw [wrap64u]; omega
  unfold imprimaturref02_Words_turn.f turnR
  rw [if_pos h0, if_pos hw, cut_some]
  rfl
def smallR (x a b c : Int) : Int := Go.bits .xor .u64 (Go.bits .xor .u64 (turnR x a) (turnR x b)) (shr .u64 x c)
theorem small_some (x : Int) {a b c : Int} (a0 : 0 ≤ a) (a1 : a ≤ 32) (b0 : 0 ≤ b) (b1 : b ≤ 32) (c0 : 0 ≤ c) : imprimaturref02_Words_small.f 4294967296 32 x a b c = some (smallR x a b c) := by
  unfold imprimaturref02_Words_small.f smallR
  rw [turn_some x a0 a1, turn_some x b0 b1, Option.bind_some, Option.bind_some, if_pos c0]
def bigR (x a b c : Int) : Int := Go.bits .xor .u64 (Go.bits .xor .u64 (turnR x a) (turnR x b)) (turnR x c)
theorem big_some (x : Int) {a b c : Int} (a0 : 0 ≤ a) (a1 : a ≤ 32) (b0 : 0 ≤ b) (b1 : b ≤ 32) (c0 : 0 ≤ c) (c1 : c ≤ 32) : imprimaturref02_Words_big.f 4294967296 32 x a b c = some (bigR x a b c) := by
  unfold imprimaturref02_Words_big.f bigR
  rw [turn_some x a0 a1, turn_some x b0 b1, turn_some x c0 c1, Option.bind_some, Option.bind_some, Option.bind_some]
/-- A round's eight words. -/
def roundR (v : List Int) (k x : Int) : List Int := (imprimaturref02_Words_round.f 4294967296 32 v k x).getD []
theorem round_some {v : List Int} (hl : v.length = 8) (k x : Int) : imprimaturref02_Words_round.f 4294967296 32 v k x = some (roundR v k x) ∧ (roundR v k x).length = 8 := by
  have l0 : 0 < (v.length : Int) := by omega
  have l1 : 1 < (v.length : Int) := by omega
  have l2 : 2 < (v.length : Int) := by omega
  have l3 : 3 < (v.length : Int) := by omega
  have l4 : 4 < (v.length : Int) := by omega
  have l5 : 5 < (v.length : Int) := by omega
  have l6 : 6 < (v.length : Int) := by omega
  have l7 : 7 < (v.length : Int) := by omega
  have : ∃ r, imprimaturref02_Words_round.f 4294967296 32 v k x = some r ∧ r.length = 8 := by
    unfold imprimaturref02_Words_round.f
    rw [if_pos l0, if_pos l1, if_pos l2, if_pos l4, if_pos l5, if_pos l6, if_neg (by decide), big_some _ (by decide) (by decide) (by decide) (by decide) (by decide) (by decide), Option.bind_some, big_some _ (by decide) (by decide) (by decide) (by decide) (by decide) (by decide), Option.bind_some]
    rw [cut_some, Option.bind_some, if_pos l7, cut_some, Option.bind_some, if_pos l3, cut_some, Option.bind_some]
    exact ⟨_, rfl, rfl⟩
  obtain ⟨r, h1, h2⟩ := this
  unfold roundR
  rw [h1]
  exact ⟨rfl, h2⟩
/-- A byte goes into a word. -/
def inU (x c : Int) : Int := IntKind.u64.wrap (IntKind.u64.wrap (x * 256) + IntKind.u64.wrap c)
def w4R (b : List Int) (t : Nat) : Int := inU (inU (inU (inU 0 (b.getD (t * 4) 0)) (b.getD (t * 4 + 1) 0)) (b.getD (t * 4 + 2) 0)) (b.getD (t * 4 + 3) 0)
def nxtR (l : List Int) (t : Nat) : Int := Int.tmod (IntKind.u64.wrap (IntKind.u64.wrap (IntKind.u64.wrap (l.getD (t - 16) 0 + l.getD (t - 7) 0) + smallR (l.getD (t - 15) 0) 7 18 3) + smallR (l.getD (t - 2) 0) 17 19 10)) 4294967296
def expR (b : List Int) : Nat → List Int
  | 0 => []
  | t + 1 => expR b t ++ [if t < 16 then w4R b t else nxtR (expR b t) t]
theorem expR_length (b : List Int) : ∀ t, (expR b t).length = t
  | 0 => rfl
  | t + 1 => by rw [expR, List.length_append, expR_length b t]; rfl
theorem w64 {i : Int} (h0 : 0 ≤ i) (h1 : i ≤ 100000000) : wrap64 i = i := by simp only [wrap64]; omega
theorem exp_step {b : List Int} (hb : b.length = 64) (m t : Nat) (ht : t < 16) (x6 : List Int) (hx : x6.length = t) :
    imprimaturref02_Words_expand.l0 (m + 6) b 4 x6 t 4294967296 32 = imprimaturref02_Words_expand.l0 m b 4 (x6 ++ [w4R b t]) ((t + 1 : Nat) : Int) 4294967296 32 := by
  have c1 : (t : Int) < 16 := by omega
  have p0 : (0 : Int) ≤ ((t * 4 : Nat) : Int) := by omega
  have p1 : (0 : Int) ≤ ((t * 4 + 1 : Nat) : Int) := by omega
  have p2 : (0 : Int) ≤ ((t * 4 + 2 : Nat) : Int) := by omega
  have p3 : (0 : Int) ≤ ((t * 4 + 3 : Nat) : Int) := by omega
  have q0 : ((t * 4 : Nat) : Int) < (b.length : Int) := by omega
  have q1 : ((t * 4 + 1 : Nat) : Int) < (b.length : Int) := by omega
  have q2 : ((t * 4 + 2 : Nat) : Int) < (b.length : Int) := by omega
  have q3 : ((t * 4 + 3 : Nat) : Int) < (b.length : Int) := by omega
  have c2 : x6.length < 17592186044416 := by omega
  have et : wrap64 ((t : Int) + 1) = ((t + 1 : Nat) : Int) := by rw [w64 (by omega) (by omega)]; omega
  have e0 : wrap64 (wrap64 ((t : Int) * 4) + 0) = ((t * 4 : Nat) : Int) := by rw [w64 (i := (t : Int) * 4) (by omega) (by omega), w64 (by omega) (by omega)]; omega
  have e1 : wrap64 (wrap64 ((t : Int) * 4) + 1) = ((t * 4 + 1 : Nat) : Int) := by rw [w64 (i := (t : Int) * 4) (by omega) (by omega), w64 (by omega) (by omega)]; omega
  have e2 : wrap64 (wrap64 ((t : Int) * 4) + 2) = ((t * 4 + 2 : Nat) : Int) := by rw [w64 (i := (t : Int) * 4) (by omega) (by omega), w64 (by omega) (by omega)]; omega
  have e3 : wrap64 (wrap64 ((t : Int) * 4) + 3) = ((t * 4 + 3 : Nat) : Int) := by rw [w64 (i := (t : Int) * 4) (by omega) (by omega), w64 (by omega) (by omega)]; omega
  have d0 : wrap64 (0 + 1) = 1 := by kernel_rfl
  have d1 : wrap64 (1 + 1) = 2 := by kernel_rfl
  have d2 : wrap64 (2 + 1) = 3 := by kernel_rfl
  have d3 : wrap64 (3 + 1) = 4 := by kernel_rfl
  have r (i : Nat) : rd b (i : Int) = b.getD i 0 := by unfold rd; rw [Int.toNat_natCast]
  rw [imprimaturref02_Words_expand.l0, if_pos c1]
  rw [imprimaturref02_Words_expand.l1, if_pos (by decide), e0, if_pos p0, if_pos q0, d0]
  rw [imprimaturref02_Words_expand.l1, if_pos (by decide), e1, if_pos p1, if_pos q1, d1]
  rw [imprimaturref02_Words_expand.l1, if_pos (by decide), e2, if_pos p2, if_pos q2, d2]
  rw [imprimaturref02_Words_expand.l1, if_pos (by decide), e3, if_pos p3, if_pos q3, d3]
  rw [imprimaturref02_Words_expand.l1, if_neg (by decide), if_pos c2, et]
  rw [r, r, r, r]
  rfl
theorem exp_first {b : List Int} (hb : b.length = 64) : ∀ n m t, t + n = 16 → imprimaturref02_Words_expand.l0 (m + n * 6) b 4 (expR b t) t 4294967296 32 = imprimaturref02_Words_expand.l0 m b 4 (expR b 16) ((16 : Nat) : Int) 4294967296 32
  | 0, m, t, h => by
    obtain rfl : t = 16 := by omega
    rfl
  | n + 1, m, t, h => by
    rw [show m + (n + 1) * 6 = (m + n * 6) + 6 by omega, exp_step hb (m + n * 6) t (by omega) _ (expR_length b t)]
    have e : expR b t ++ [w4R b t] = expR b (t + 1) := by rw [expR, if_pos (by omega)]
    rw [e]
    exact exp_first hb n m (t + 1) (by omega)
theorem exp_next (m t : Nat) (h0 : 16 ≤ t) (h1 : t < 64) (x6 : List Int) (hx : x6.length = t) :
    imprimaturref02_Words_expand.l2 (m + 1) x6 64 t 4294967296 32 = imprimaturref02_Words_expand.l2 m (x6 ++ [nxtR x6 t]) 64 ((t + 1 : Nat) : Int) 4294967296 32 := by
  have c1 : (t : Int) < 64 := by omega
  have p16 : (0 : Int) ≤ ((t - 16 : Nat) : Int) := by omega
  have p15 : (0 : Int) ≤ ((t - 15 : Nat) : Int) := by omega
  have p7 : (0 : Int) ≤ ((t - 7 : Nat) : Int) := by omega
  have p2 : (0 : Int) ≤ ((t - 2 : Nat) : Int) := by omega
  have q16 : ((t - 16 : Nat) : Int) < (x6.length : Int) := by omega
  have q15 : ((t - 15 : Nat) : Int) < (x6.length : Int) := by omega
  have q7 : ((t - 7 : Nat) : Int) < (x6.length : Int) := by omega
  have q2 : ((t - 2 : Nat) : Int) < (x6.length : Int) := by omega
  have c2 : x6.length < 17592186044416 := by omega
  have e16 : wrap64 ((t : Int) - 16) = ((t - 16 : Nat) : Int) := by rw [w64 (by omega) (by omega)]; omega
  have e15 : wrap64 ((t : Int) - 15) = ((t - 15 : Nat) : Int) := by rw [w64 (by omega) (by omega)]; omega
  have e7 : wrap64 ((t : Int) - 7) = ((t - 7 : Nat) : Int) := by rw [w64 (by omega) (by omega)]; omega
  have e2 : wrap64 ((t : Int) - 2) = ((t - 2 : Nat) : Int) := by rw [w64 (by omega) (by omega)]; omega
  have et : wrap64 ((t : Int) + 1) = ((t + 1 : Nat) : Int) := by rw [w64 (by omega) (by omega)]; omega
  have r (i : Nat) : rd x6 (i : Int) = x6.getD i 0 := by unfold rd; rw [Int.toNat_natCast]
  rw [imprimaturref02_Words_expand.l2, if_pos c1, e16, if_pos p16, if_pos q16, e7, if_pos p7, if_pos q7, if_neg (by decide), e15, if_pos p15, if_pos q15]
  rw [small_some _ (by decide) (by decide) (by decide) (by decide) (by decide), Option.bind_some, e2, if_pos p2, if_pos q2]
  rw [small_some _ (by decide) (by decide) (by decide) (by decide) (by decide), Option.bind_some, cut_some, Option.bind_some, if_pos c2, et]
  rw [r, r, r, r]
  rfl
theorem exp_last (b : List Int) : ∀ n m t, 16 ≤ t → t + n = 64 → imprimaturref02_Words_expand.l2 (m + n + 1) (expR b t) 64 t 4294967296 32 = some (expR b 64)
  | 0, m, t, h0, h => by
    obtain rfl : t = 64 := by omega
    rw [imprimaturref02_Words_expand.l2, if_neg (by decide)]
  | n + 1, m, t, h0, h => by
    rw [show m + (n + 1) + 1 = (m + n + 1) + 1 by omega, exp_next (m + n + 1) t h0 (by omega) _ (expR_length b t)]
    have e : expR b t ++ [nxtR (expR b t) t] = expR b (t + 1) := by rw [expR, if_neg (by omega)]
    rw [e]
    exact exp_last b n m (t + 1) (by omega) (by omega)
theorem exp_some {b : List Int} (hb : b.length = 64) : ∃ k, imprimaturref02_Words_expand.f k 4294967296 32 b = some (expR b 64) := by
  refine ⟨(0 + 48 + 1) + 1 + 1 + 16 * 6, ?_⟩
  unfold imprimaturref02_Words_expand.f
  have e4 : wrap64 (IntKind.u64.wrap (Int.tdiv 32 8)) = 4 := by kernel_rfl
  rw [e4]
  have h := exp_first hb 16 ((0 + 48 + 1) + 1 + 1) 0 rfl
  refine h.trans ?_
  rw [imprimaturref02_Words_expand.l0, if_neg (by decide), if_neg (by decide), imprimaturref02_Words_expand.j2]
  exact exp_last b 48 0 16 (by decide) (by decide)
/-! ### Padding -/
theorem shN_pow (n : Int) : ∀ j, shN n j = n / 2 ^ (8 * j)
  | 0 => by simp [shN]
  | j + 1 => by
    rw [shN, shN_pow n j, Int.ediv_ediv_of_nonneg (by exact Int.pow_nonneg (by decide))]
    rw [show 8 * (j + 1) = 8 * j + 8 by omega, Int.pow_add]
    rfl
theorem padR_put (n : Nat) : ∀ i, i ≤ 8 → padR n i = putR ((List.replicate (padN n) (0 : Int)).set 0 128) (padN n - 8) 8 (8 * (n : Int)) i
  | 0, _ => rfl
  | i + 1, h => by
    have hp : 9 ≤ padN n := by unfold padN; omega
    rw [padR, putR, padR_put n i (by omega), show padN n - 8 + (8 - 1 - i) = padN n - 1 - i by omega]
    congr 1
    unfold padB
    rw [shN_pow]
theorem padM_eq (n : Nat) : padM n = [128] ++ List.replicate (padN n - 9) 0 ++ beM 8 (8 * (n : Int)) := by
  have hp : 9 ≤ padN n := by unfold padN; omega
  obtain ⟨m, hm⟩ : ∃ m, padN n = m + 9 := ⟨padN n - 9, by omega⟩
  unfold padM
  rw [padR_put n 8 (by decide), putR_all _ _ _ _ (by simp; omega), hm]
  have e : (List.replicate (m + 9) (0 : Int)).set 0 128 = 128 :: List.replicate (m + 8) 0 := by
    rw [show m + 9 = (m + 8) + 1 by omega, List.replicate_succ, List.set_cons_zero]
  rw [e, show m + 9 - 8 = m + 1 by omega, show m + 9 - 9 = m by omega, List.take_succ_cons, List.take_replicate, show min m (m + 8) = m by omega, List.drop_of_length_le (by simp)]
  simp
theorem pad_tail (x8 : List Int) (hx : x8.length ≤ 1000) : ∀ j m (l : List Int) (x : Int), 0 ≤ x → x < 18446744073709551616 → l.length + j = 8 →
    imprimaturref02_Pad.l1 (m + j + 1) 8 x8 l x (l.length : Int) = some (x8 ++ (beM j x ++ l), 0)
  | 0, m, l, x, h0, h1, h => by
    rw [imprimaturref02_Pad.l1, if_neg (by omega), if_pos (by omega)]
    rfl
  | j + 1, m, l, x, h0, h1, h => by
    rw [show m + (j + 1) + 1 = (m + j + 1) + 1 by omega, imprimaturref02_Pad.l1, if_pos (by omega), Option.bind_some, if_pos (by simp; omega)]
    have e1 : Int.tmod x 256 % 256 = x % 256 := by rw [Int.tmod_eq_emod_of_nonneg h0]; omega
    have e2 : IntKind.u64.wrap (Int.tdiv x 256) = x / 256 := by rw [Int.tdiv_eq_ediv_of_nonneg h0, wrap64u]; omega
    have e3 : wrap64 ((l.length : Int) + 1) = (([x % 256] ++ l).length : Int) := by rw [w64 (by omega) (by omega)]; simp
    rw [e1, e2, e3, pad_tail x8 hx j m ([x % 256] ++ l) (x / 256) (by omega) (by omega) (by simp; omega), beM]
    simp
theorem pad_zeros (n : Nat) (hn : n ≤ 1048576) : ∀ d m (j : Nat), j + d = padN n - 9 →
    imprimaturref02_Pad.l0 (m + d + 1) n 64 8 ([128] ++ List.replicate j 0) = imprimaturref02_Pad.l1 (m) 8 ([128] ++ List.replicate (padN n - 9) 0) [] (IntKind.u64.wrap (IntKind.u64.wrap (n : Int) * 8)) 0 := by
  intro d
  induction d with
  | zero =>
    intro m j h
    have hj : j = padN n - 9 := by omega
    have hl : (([128] ++ List.replicate j (0 : Int)).length : Int) = 1 + j := by simp; omega
    have hz : Int.tmod (wrap64 (wrap64 ((n : Int) + (([128] ++ List.replicate j (0 : Int)).length : Int)) + 8)) 64 = 0 := by
      have hp : padN n = 9 + (64 - (n + 9) % 64) % 64 := rfl
      have hj2 : (j : Int) ≤ 100 := by omega
      rw [hl, w64 (i := (n : Int) + (1 + j)) (by omega) (by omega), w64 (by omega) (by omega), Int.tmod_eq_emod_of_nonneg (by omega)]
      omega
    rw [imprimaturref02_Pad.l0, if_neg (by decide), if_pos hz, hj]
  | succ d ih =>
    intro m j h
    have hl : (([128] ++ List.replicate j (0 : Int)).length : Int) = 1 + j := by simp; omega
    have hp : padN n = 9 + (64 - (n + 9) % 64) % 64 := rfl
    have hz : ¬ Int.tmod (wrap64 (wrap64 ((n : Int) + (([128] ++ List.replicate j (0 : Int)).length : Int)) + 8)) 64 = 0 := by
      have hj2 : (j : Int) ≤ 100 := by omega
      rw [hl, w64 (i := (n : Int) + (1 + j)) (by omega) (by omega), w64 (by omega) (by omega), Int.tmod_eq_emod_of_nonneg (by omega)]
      omega
    rw [show m + (d + 1) + 1 = (m + d + 1) + 1 by omega, imprimaturref02_Pad.l0, if_neg (by decide), if_neg hz, if_pos (by omega)]
    have e : [128] ++ List.replicate j (0 : Int) ++ [0] = [128] ++ List.replicate (j + 1) 0 := by rw [List.append_assoc, List.replicate_succ']
    rw [e]
    exact ih m (j + 1) (by omega)
theorem pad_some (n : Nat) (hn : n ≤ 1048576) : ∃ k, imprimaturref02_Pad.f k n 256 = some (padM n, 0) := by
  refine ⟨((0 + 8 + 1) + (padN n - 9) + 1) + 1, ?_⟩
  have e4 : wrap64 (Int.tdiv 256 4) = 64 := by kernel_rfl
  have e5 : wrap64 (Int.tdiv 256 32) = 8 := by kernel_rfl
  have hp : padN n = 9 + (64 - (n + 9) % 64) % 64 := rfl
  unfold imprimaturref02_Pad.f
  rw [if_pos rfl, imprimaturref02_Pad.j0, if_neg (by simp), if_neg (by omega), e4, e5]
  have h := pad_zeros n hn (padN n - 9) (0 + 8 + 1) 0 (by omega)
  rw [List.replicate_zero, List.append_nil] at h
  rw [h]
  have e6 : IntKind.u64.wrap (IntKind.u64.wrap (n : Int) * 8) = 8 * (n : Int) := by rw [wrap64u, wrap64u]; omega
  rw [e6]
  have h2 := pad_tail ([128] ++ List.replicate (padN n - 9) 0) (by simp; omega) 8 0 [] (8 * (n : Int)) (by omega) (by omega) rfl
  rw [padM_eq]
  simpa using h2
/-! ### The digest -/
def roundsR (h ws : List Int) : Nat → List Int
  | 0 => h
  | t + 1 => roundR (roundsR h ws t) (constsL.getD t 0) (ws.getD t 0)
theorem roundsR_length {h ws : List Int} (hh : h.length = 8) : ∀ t, (roundsR h ws t).length = 8
  | 0 => hh
  | t + 1 => (round_some (roundsR_length hh t) _ _).2
def nextR (h v : List Int) : Nat → List Int
  | 0 => []
  | i + 1 => nextR h v i ++ [Int.tmod (IntKind.u64.wrap (h.getD i 0 + v.getD i 0)) 4294967296]
theorem nextR_length (h v : List Int) : ∀ i, (nextR h v i).length = i
  | 0 => rfl
  | i + 1 => by rw [nextR, List.length_append, nextR_length h v i]; rfl
def blockR (h b : List Int) : List Int := nextR h (roundsR h (expR b 64) 64) 8
theorem blockR_length (h b : List Int) : (blockR h b).length = 8 := nextR_length _ _ 8
def foldR (all : List Int) (h : List Int) : Nat → List Int
  | 0 => h
  | i + 1 => blockR (foldR all h i) ((all.drop (i * 64)).take 64)
theorem foldR_length {all h : List Int} (hh : h.length = 8) : ∀ i, (foldR all h i).length = 8
  | 0 => hh
  | i + 1 => blockR_length _ _
def startR (l : List Int) : Nat → List Int
  | 0 => l
  | i + 1 => (startR l i).set i (IntKind.u64.wrap (Int.tdiv ((startR l i).getD i 0) 4294967296))
theorem startR_length (l : List Int) : ∀ i, (startR l i).length = l.length
  | 0 => rfl
  | i + 1 => by rw [startR, List.length_set, startR_length l i]
def tellR (h : List Int) : Nat → List Int
  | 0 => []
  | i + 1 => tellR h i ++ [h.getD i 0 / 16777216 % 256, h.getD i 0 / 65536 % 256, h.getD i 0 / 256 % 256, h.getD i 0 % 256]
theorem tellR_length (h : List Int) : ∀ i, (tellR h i).length = 4 * i
  | 0 => rfl
  | i + 1 => by rw [tellR, List.length_append, tellR_length h i]; rfl
def hashR (b : List Int) : List Int := tellR (foldR (b ++ padM b.length) (startR startsL 8) ((b.length + padN b.length) / 64)) 8
theorem hashR_length (b : List Int) : (hashR b).length = 32 := tellR_length _ 8
end Go.Proofs.YtmblnflfklmmkaaGreatDoor.Sh
/- Rows of 64-bit words: read, of one's own, appended to. -/
namespace Go.Proofs.YtmblnflfklmmkaaGreatDoor.Sh
open Go.Proofs.YtmblnflfklmmkaaGreatDoor.Dk
open Go.RowKit Go.Proofs.YtmblnflfklmmkaaGreatDoorW.PrintWords Go.Proofs.YtmblnflfklmmkaaGreatDoorW.PrintLast Go.Proofs.YtmblnflfklmmkaaGreatDoorW.PrintMore
set_option linter.unusedVariables false
set_option linter.unusedSimpArgs false
variable {w w1 w2 : World} {q g c : Nat} {v : Value} {xs ys : List Int}
theorem infoQ : (Tryz.prog.info? 45).map (fun i => (i.zero, i.size, i.bytes)) = some (some (.int .u64 0), 1, 8) := by kernel_rfl
/-- A row of words of one's own, in blocks from q on. -/
def RowQ (w : World) (q : Nat) (v : Value) (xs : List Int) : Prop := Kd.R (Kd.int .u64) 45 w q (fun k => q ≤ k) v xs
theorem RowQ.nil (w : World) (q : Nat) : RowQ w q (.slice none 0 0) [] := Kd.R_nil _ _ _ _ _
theorem RowQ.below (h : RowQ w q v xs) (hb : Below w.heap.size w w1) : RowQ w1 q v xs := Kd.R_below h hb
theorem RowQ.of {ok : Nat → Prop} (h : Kd.R (Kd.int .u64) 45 w q ok v xs) : RowQ w q v xs := Kd.R_mono (Kd.R_bound h) (fun k hk => hk.2.1)
theorem Row8.of {ok : Nat → Prop} (h : Kd.R (Kd.int .u8) 5 w q ok v xs) : Row8 w q v xs := Kd.R_mono (Kd.R_bound h) (fun k hk => hk.2.1)
theorem RowQ.slice (h : RowQ w q v xs) : ∃ A c, v = .slice A xs.length c := Kd.R_slice h
/-- Words that can be read, in block g. -/
structure RdQ (w : World) (q g c : Nat) (xs : List Int) : Prop where
  C : Kd.C (Kd.int .u64) w (some ⟨g, 0, none⟩) xs.length xs
  le : xs.length ≤ c
  lo : q ≤ g
  lt : g < w.heap.size
  blk : ∃ cells, w.heap[g]? = some (.cells cells 45 (0, 0))
  cell : ∀ j, j < xs.length → w.cell? ⟨g, j, none⟩ = some (.int .u64 (xs.getD j 0))
theorem RdQ.below (h : RdQ w q g c xs) (hb : Below w.heap.size w w1) : RdQ w1 q g c xs where
  C := Kd.C_below h.C hb
  le := h.le
  lo := h.lo
  lt := Nat.lt_of_lt_of_le h.lt hb.size
  blk := by obtain ⟨cells, hc⟩ := h.blk; exact ⟨cells, (hb.block g h.lt).trans hc⟩
  cell := fun j hj => (cell_block (hb.block g h.lt) j).trans (h.cell j hj)
theorem RdQ.upd {G : Nat → Prop} (h : RdQ w q g c xs) (hu : Upd w w1 G) (hg : ¬ G g) : RdQ w1 q g c xs where
  C := by
    obtain ⟨h1, h2, h3⟩ := h.C
    refine ⟨h1, h2, fun hp => ?_⟩
    obtain ⟨ad, hA, hc⟩ := h3 hp
    refine ⟨ad, hA, fun j p hj => ?_⟩
    obtain ⟨c, e1, e2, e3⟩ := hc j p hj
    refine ⟨c, e1, e2, fun i u hi => ?_⟩
    injection hA with hA
    subst hA
    rw [← e3 i u hi]
    unfold World.cell?
    rw [show (Addr.add ⟨g, 0, none⟩ (j * (Kd.int .u64).sz + i)).block = g by unfold Addr.add; split <;> rfl, hu.block g h.lt hg]
  le := h.le
  lo := h.lo
  lt := Nat.lt_of_lt_of_le h.lt hu.size
  blk := by obtain ⟨cells, hc⟩ := h.blk; exact ⟨cells, (hu.block g h.lt hg).trans hc⟩
  cell := fun j hj => (cell_block (hu.block g h.lt hg) j).trans (h.cell j hj)
theorem RdQ.lower {p : Nat} (h : RdQ w q g c xs) (hp : p ≤ q) : RdQ w p g c xs := ⟨h.C, h.le, Nat.le_trans hp h.lo, h.lt, h.blk, h.cell⟩
theorem RowQ.rd (h : RowQ w q v xs) (hp : 0 < xs.length) : ∃ g c, v = .slice (some ⟨g, 0, none⟩) xs.length c ∧ RdQ w q g c xs := by
  obtain ⟨g, c, rfl, h1, h2, h3⟩ := Kd.R_form h hp
  refine ⟨g, c, rfl, ⟨(Kd.R_reads' h).2.2, (Kd.R_reads' h).2.1, h1, h2, h3, fun j hj => ?_⟩⟩
  obtain ⟨ad, c', e, hsz, hK, hx⟩ := Kd.C_get (Kd.R_reads' h).2.2 0 (j : Int) (by omega) (by show (j : Int) < (xs.length : Int); omega)
  injection e with e
  subst e
  have := hx 0 (.int .u64 (xs.getD j 0)) (by rw [hK, Int.toNat_natCast]; rfl)
  rw [add0] at this
  simpa [Kd.int, Kd.scalar] using this
theorem RowQ.rd' {n : Nat} (h : RowQ w q (.slice (some ⟨g, 0, none⟩) n c) xs) (hp : 0 < xs.length) : RdQ w q g c xs := by
  obtain ⟨g', c', e, h⟩ := h.rd hp
  injection e with e1 e2 e3
  injection e1 with e1
  injection e1 with e1
  subst e1; subst e3
  exact h
theorem RowQ.put {n : Nat} (h : RowQ w q (.slice (some ⟨g, 0, none⟩) n c) xs) (i : Nat) (x : Int) : RowQ (w.setCell ⟨g, i, none⟩ (.int .u64 x)) q (.slice (some ⟨g, 0, none⟩) n c) (xs.set i x) := by
  have := Kd.R_putn (enc := fun x : Int => Value.int .u64 x) (h1 := fun _ => rfl) h (i : Int) x
  simp only [Int.toNat_natCast] at this
  exact this
theorem CQ_one {t : Nat} {m : Nat × Nat} {b : Nat} {x : Int} (h : w.heap[b]? = some (.cells #[.int .u64 x] t m)) : Kd.C (Kd.int .u64) w (some ⟨b, 0, none⟩) 1 [x] := by
  refine ⟨rfl, by decide, fun _ => ⟨_, rfl, fun j p hj => ⟨[.int .u64 p], rfl, rfl, fun i u hu => ?_⟩⟩⟩
  cases i with
  | succ i => simp at hu
  | zero =>
    simp only [List.getElem?_cons_zero, Option.some.injEq] at hu
    subst hu
    cases j with
    | succ j => simp at hj
    | zero =>
      simp only [List.getElem?_cons_zero, Option.some.injEq] at hj
      subst hj
      rw [add0, World.cell?, h]
      simp [Kd.int, Kd.scalar]
section
variable {P : Program} {ops : Array Oper} {o : Oper} {rest : List Oper} {a : Act} {W : World} {Q : Exit → Act → World → Prop}
theorem appQ_step {Kc : Act → World → Prop} (hi : (P.info? 45).map (fun i => (i.zero, i.size, i.bytes)) = some (some (.int .u64 0), 1, 8)) (ht : P.underlying 126 = some (.slice 45)) (hw : Region.wanted o (yielded ops a.tmps) = true) {N : Option Tmp} (hN : o.dst = N) (s x : Operand) (ho : o.op = .call { callee := .builtin .append, args := #[s, x], argTypes := #[126, 126] }) (v : Value) (xs ys : List Int) (A : Option Addr) (m c : Nat)
    (hs : a.eval s = v) (hx : a.eval x = .slice A m c) (HO : RowQ W q v xs) (HC : Kd.C (Kd.int .u64) W A m ys) (hq : q ≤ W.heap.size) (hl : xs.length + m ≤ 1000000000)
    (h : ∀ A1 c1 w1, RowQ w1 q (.slice A1 (xs ++ ys).length c1) (xs ++ ys) → Below q W w1 → W.grownBy w1 v.ownBlock → Kc (a.put N (.slice A1 (xs ++ ys).length c1)) w1) : if Region.wanted o (yielded ops a.tmps) = true then Oper.wp P o a W Kc Q else Kc (a.put N undef) W := by
  subst hN
  refine Kd.R_append_rows_step (Kd.int .u64) (Rr := (Kd.int .u64).K W) (w0 := W) q hw s x 126 45 (.int .u64 0) 8 ho ht hi rfl (by decide) (by omega) v xs ys A m c (fun k => q ≤ k) (fun _ => False) hs hx HO HC (fun _ _ h => h) (fun _ h => h.elim) (fun _ h => Nat.le_trans hq h) (Below.refl _ _) hq (by omega) ?_
  intro v1 w1 hr hb hg _
  obtain ⟨A1, c1, rfl⟩ := Kd.R_slice hr
  exact h A1 c1 w1 hr hb hg
end
end Go.Proofs.YtmblnflfklmmkaaGreatDoor.Sh
