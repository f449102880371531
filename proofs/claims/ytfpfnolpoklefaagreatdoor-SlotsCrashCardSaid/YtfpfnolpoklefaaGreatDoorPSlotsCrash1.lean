/- SlotsCrash: the texts WWords WLast WQPut WApart WArr WZeros WFoot WKept WShare WN WNEv WMore WSized DkBase DkA DkB DkC DkD DkE DkF ShA ShB. -/
import Derived.Below
import Derived.Deep.Draws
import Derived.Deep.AppendLies
import Derived.Maps.AppendAt
import Derived.OwnWalk
import Derived.Laws.BytesArg
import Derived.Laws.MakeOwn
import Derived.Laws.OwnMore
import Derived.Deep.OwnRows
import Derived.Tactics
import Derived.Lib.ConvBytes
import Derived.Laws.Slices
import Derived.WalkKit
import Derived.KernelRfl
import Derived.RowKit3
import Derived.Deep.LoopGhost
import Derived.Deep.QuietTactic
import Derived.BigQuiet
import Derived.WideLaws
import Derived.Deep.DeepCutAuto
import Derived.Deep.CutBlock
import Derived.Deep.RegionHeld3
import Derived.Laws.Rows
import Derived.Lib.AppendStr
import Derived.ArgAppend
import Derived.Laws.IdiomCopy
import Derived.RowKit
import Derived.OrdersHeld
import Derived.Laws.BitsLemmas
import Derived.SizedLaws
import Derived.ChangeSlices
import Derived.Test.YtfpfnolpoklefaaGreatDoorProg
import Derived.WalkSpells
import Derived.WalkLawsBesides
import Derived.Lib.Hide
import Derived.OneCell
import Derived.RegionTactic
import Derived.ChangeAlike
import Derived.Outline
import Derived.Laws.EntriesVeiled
import Derived.StillTailTactics
import Derived.Great.BuildSlice
import Derived.Deep.WholeRow
import Derived.Test.YtfpfnolpoklefaaGreatDoorRows
-- PRINTED WORDS (module Derived/Print/Words.lean): go-wishes' parts 1 to 38 and go-gate-2's additions: AI agents of Go's test side, Mon Nov 16 2026; no person has read them. Plain theorems and definitions: no macro, no elab, no axiom.
set_option linter.unusedVariables false
set_option linter.unusedSimpArgs false
namespace Go.Proofs.YtfpfnolpoklefaaGreatDoorW.PrintWords
open Go.RowKit

/-- A fact that the walk's simp doesn't look into. -/
structure Aside0 (p : Prop) : Prop where mk :: (out : p)
/-- The world is the old one, some orders having been drawn. -/
structure Drawn0 (w w' : World) : Prop where mk :: (out : ∃ n, w' = w.drewN n)
theorem Drawn0.refl (w : World) : Drawn0 w w := ⟨⟨0, rfl⟩⟩
theorem Drawn0.step {w w' : World} (h : Drawn0 w w') (n : Nat) : Drawn0 w (w'.drewN n) := by
  obtain ⟨m, rfl⟩ := h
  exact ⟨⟨m + n, World.drewN_drewN ..⟩⟩
theorem Drawn0.below {w w' : World} (h : Drawn0 w w') : Below w.heap.size w w' := by
  obtain ⟨n, rfl⟩ := h
  induction n with
  | zero => exact Below.refl _ _
  | succ n ih => rw [← World.drew_drewN]; exact ih.drew


/-! ### 1. Values and lists -/
def bt (s : ByteArray) (i : Int) : Int := if h : i.toNat < s.size then ((s[i.toNat]'h).toNat : Int) else 0
def nums (k : IntKind) (xs : List Int) : List Value := xs.map fun x => .int k x
theorem nums_length (k : IntKind) (xs : List Int) : (nums k xs).length = xs.length := by simp [nums]
/-! ### 2. The world -/
theorem below_alloc {w W : World} (h : Below w.heap.size w W) (o : Obj) : Below w.heap.size w (W.alloc o) := h.alloc h.size o
theorem below_drew {B : Nat} {w W : World} (h : Below B w W) : Below B w W.drew := ⟨h.os, h.tape, h.output, h.size, h.block⟩
theorem pw_below_drewN {B : Nat} {w W : World} (h : Below B w W) (n : Nat) : Below B w (W.drewN n) := ⟨h.os, h.tape, h.output, h.size, h.block⟩
theorem pw_cell_below {w w1 : World} (h : Below w.heap.size w w1) {a : Addr} {v : Value} (hc : w.cell? a = some v) : w1.cell? a = some v := (h.cell (World.block_lt_of_cell? w a hc)).trans hc

theorem add_plain (g j : Nat) : (⟨g, 0, none⟩ : Addr).add j = ⟨g, j, none⟩ := by unfold Addr.add; split <;> simp_all

/-! ### 3. A slice of whole numbers that is read; nil, empty and other slices alike -/
def ReadsInt (w : World) (k : IntKind) (A : Option Addr) (n : Nat) (xs : List Int) : Prop :=
  xs.length = n ∧ n ≤ 9223372036854775807 ∧ (0 < n → ∃ ad, A = some ad ∧ ∀ j, j < n → w.cell? (ad.add j) = some (.int k (xs.getD j 0)))
/-! ### 4. A row of the call's own -/
theorem own_nil (W : World) (base : Nat) (e : TypeId) (size : Nat) : W.ownsRow base e size (.slice none 0 0) 0 [] := ⟨by simp, .inl ⟨rfl, rfl⟩⟩
theorem own_base {w : World} {base : Nat} {e : TypeId} {size n : Nat} {v : Value} {xs : List Value} (h : w.ownsRow base e size v n xs) (k : Nat) (hk : v.ownBlock = some k) : base ≤ k := by
  rcases h.2 with ⟨rfl, _⟩ | ⟨g, cap, cur, rfl, hb, _⟩
  · simp [Value.ownBlock] at hk
  · have : g = k := by simpa [Value.ownBlock] using hk
    omega
theorem own_lt {w : World} {base : Nat} {e : TypeId} {size n : Nat} {v : Value} {xs : List Value} (h : w.ownsRow base e size v n xs) (k : Nat) (hk : v.ownBlock = some k) : k < w.heap.size := by
  rcases h.2 with ⟨rfl, _⟩ | ⟨g, cap, cur, rfl, hb, hh, _⟩
  · simp [Value.ownBlock] at hk
  · have : g = k := by simpa [Value.ownBlock] using hk
    subst this
    exact (Array.getElem?_eq_some_iff.1 hh).1
/-- The shape of whatever is owned. -/
theorem own_slice {w : World} {base n : Nat} {e : TypeId} {size : Nat} {v : Value} {xs : List Value} (h : w.ownsRow base e size v n xs) : ∃ A c, v = .slice A n c := by
  rcases h.2 with ⟨rfl, rfl⟩ | ⟨g, cap, cur, rfl, _⟩
  · exact ⟨none, 0, rfl⟩
  · exact ⟨_, cap, rfl⟩
/-! ### 5. append(v, x): behind 'at_builtin'; the goal's world is 'W.alloc' of the variadic's box -/
section
variable {P : Program} {ops : Array Oper} {rest : List Oper} {o : Oper} {a : Act} {Q : Exit → Act → World → Prop}

end

/-! ### 6. make([]T, n), n an Int; a literal -/
section
variable {P : Program}
end
/-! ### 7. v[i] read and v[i] = x, v a row of the call's own: 'obtain ⟨g, cap, rfl, hgb, hgl⟩ := HO.out.form (by omega)' first -/
/-! ### 8. append(v, ys...): ys a slice that is read, nil let in; behind 'at_builtin' -/
section
variable {P : Program} {ops : Array Oper} {rest : List Oper} {o : Oper} {a : Act} {Q : Exit → Act → World → Prop}
end

/-! ### 9. []byte(s): a slice that is read (its row bears a conversion's mark: no row of one's own); cuts of a slice that is read -/
/-! ### 10. Rounds: more rounds give the same answer; what ends gives a number of rounds -/
/-! ### 11. Rows of elements of several cells (structs): read, made. R: what an element's cells say ('RepItem w': printed for each type) -/
def Reps {α : Type} (R : α → List Value → Prop) (size : Nat) (ps : List α) (cs : List Value) : Prop :=
  cs.length = ps.length * size ∧ ∀ j p, ps[j]? = some p → R p ((cs.drop (j * size)).take size)
theorem Reps.none {α : Type} (R : α → List Value → Prop) (size : Nat) : Reps R size [] [] := ⟨by simp, fun j p h => by simp at h⟩
theorem Reps.snoc {α : Type} {R : α → List Value → Prop} {size : Nat} {ps : List α} {cs c : List Value} {p : α} (h : Reps R size ps cs) (hp : R p c) (hc : c.length = size) : Reps R size (ps ++ [p]) (cs ++ c) := by
  refine ⟨by rw [List.length_append, h.1, hc, List.length_append, List.length_singleton, Nat.add_mul, Nat.one_mul], fun j q hq => ?_⟩
  rcases Nat.lt_or_ge j ps.length with hj | hj
  · rw [List.getElem?_append_left hj] at hq
    have h1 : j * size + size ≤ cs.length := by rw [h.1, ← Nat.succ_mul]; exact Nat.mul_le_mul_right _ hj
    have h2 := h.2 j q hq
    rw [List.drop_append_of_le_length (by omega), List.take_append_of_le_length (by rw [List.length_drop]; omega)]
    exact h2
  · have hj' : j = ps.length := by
      have := (List.getElem?_eq_some_iff.1 hq).1
      rw [List.length_append, List.length_singleton] at this
      omega
    subst hj'
    have hq' : p = q := by simpa using hq
    subst hq'
    rw [← h.1, List.drop_left, ← hc, List.take_length]
    exact hp
theorem Reps.imp_ {α : Type} {R R' : α → List Value → Prop} {size : Nat} {ps : List α} {cs : List Value} (h : Reps R size ps cs) (hR : ∀ p c, R p c → R' p c) : Reps R' size ps cs := ⟨h.1, fun j p hj => hR _ _ (h.2 j p hj)⟩

def ReadsRow {α : Type} (R : α → List Value → Prop) (size : Nat) (w : World) (A : Option Addr) (n : Nat) (ps : List α) : Prop :=
  ps.length = n ∧ n ≤ 9223372036854775807 ∧ (0 < n → ∃ ad, A = some ad ∧ ∀ j p, ps[j]? = some p → ∃ c, c.length = size ∧ R p c ∧ ∀ i u, c[i]? = some u → w.cell? (ad.add (j * size + i)) = some u)
theorem ReadsRow.get_ {α : Type} {R : α → List Value → Prop} {size : Nat} {w : World} {A : Option Addr} {n : Nat} {ps : List α} (h : ReadsRow R size w A n ps) (d : α) (i : Int) (h0 : 0 ≤ i) (h1 : i < n) :
    ∃ ad c, A = some ad ∧ c.length = size ∧ R (ps.getD i.toNat d) c ∧ ∀ j u, c[j]? = some u → w.cell? (ad.add (i.toNat * size + j)) = some u := by
  obtain ⟨ad, e, hc⟩ := h.2.2 (by omega)
  have hl : i.toNat < ps.length := by have := h.1; omega
  obtain ⟨c, hs, hr, hcell⟩ := hc i.toNat _ (List.getElem?_eq_getElem hl)
  refine ⟨ad, c, e, hs, ?_, hcell⟩
  rw [List.getD_eq_getElem?_getD, List.getElem?_eq_getElem hl]
  exact hr
theorem ReadsRow.imp_ {α : Type} {R R' : α → List Value → Prop} {size : Nat} {w w1 : World} {A : Option Addr} {n : Nat} {ps : List α} (h : ReadsRow R size w A n ps) (hb : Below w.heap.size w w1) (hR : ∀ p c, R p c → R' p c) : ReadsRow R' size w1 A n ps :=
  ⟨h.1, h.2.1, fun hn => by
    obtain ⟨ad, e, hc⟩ := h.2.2 hn
    refine ⟨ad, e, fun j p hj => ?_⟩
    obtain ⟨c, hs, hr, hcell⟩ := hc j p hj
    exact ⟨c, hs, hR _ _ hr, fun i u hu => pw_cell_below hb (hcell i u hu)⟩⟩
theorem own_reads_row {α : Type} {R : α → List Value → Prop} {w : World} {base n size : Nat} {e : TypeId} {v : Value} {ps : List α} {cs : List Value} (h : w.ownsRow base e size v n cs) (hR : Reps R size ps cs) (hn : ps.length = n) :
    ∃ A c, v = .slice A n c ∧ ReadsRow R size w A n ps := by
  rcases Nat.eq_zero_or_pos n with h0 | h0
  · rcases h.2 with ⟨rfl, rfl⟩ | ⟨g, cap, cur, rfl, _⟩
    · exact ⟨none, 0, rfl, hn, by omega, fun hp => absurd hp (by omega)⟩
    · exact ⟨_, cap, rfl, hn, by omega, fun hp => absurd hp (by omega)⟩
  · obtain ⟨g, cap, rfl, _, _⟩ := h.form h0
    have hm : n ≤ 9223372036854775807 := by
      rcases h.2 with ⟨_, h1⟩ | ⟨g', cap', cur, he, _, _, h1, h2, _⟩
      · omega
      · simp only [maxLen] at h2
        omega
    refine ⟨_, cap, rfl, hn, hm, fun _ => ⟨_, rfl, fun j p hj => ⟨(cs.drop (j * size)).take size, ?_, hR.2 j p hj, fun i u hu => ?_⟩⟩⟩
    · have hjl := (List.getElem?_eq_some_iff.1 hj).1
      have h1 : j * size + size ≤ cs.length := by rw [hR.1, ← Nat.succ_mul]; exact Nat.mul_le_mul_right _ hjl
      rw [List.length_take, List.length_drop]
      omega
    · refine h.cells (g := g) rfl _ u ?_
      rw [List.getElem?_take] at hu
      split at hu
      · rw [List.getElem?_drop] at hu
        exact hu
      · cases hu
section
variable {P : Program} {ops : Array Oper} {rest : List Oper} {o : Oper} {a : Act} {Q : Exit → Act → World → Prop}
/-- append(v, x), x of several cells; behind 'at_builtin'; the goal's world is 'W.alloc' of the variadic's box. -/
theorem print_append_cells {w0 W : World} (base : Nat) (hgd : o.guard = none) (s x : Operand) (t e : TypeId) (z : Value) (size bytes : Nat)
    (ho : o.op = .call { callee := .builtin .append, args := #[s, x], argTypes := #[t, t] })
    (ht : P.underlying t = some (.slice e)) (hinfo : (P.info? e).map (fun i => (i.zero, i.size, i.bytes)) = some (some z, size, bytes)) (hz : z.cells.size = size) (hs0 : 0 < size) (hb0 : 0 < bytes)
    (v : Value) (n : Nat) (xs ys : List Value) (hs : a.eval s = v) (hx : a.eval x = .slice (some ⟨W.heap.size, 0, none⟩) 1 1) (hys : ys.length = size) (h1 : ∀ u ∈ ys, u.oneCell' = true)
    (HO : W.ownsRow base e size v n xs) (HB : Below base w0 W) (hbase : base ≤ W.heap.size) (hl : (n + 1) * bytes ≤ 140737488355328)
    (h : ∀ v1 w1, w1.ownsRow base e size v1 (n + 1) (xs ++ ys) → Below base w0 w1 → W.grownBy w1 v.ownBlock → (v1.ownBlock = v.ownBlock ∨ ∃ b, v1.ownBlock = some b ∧ W.heap.size ≤ b) → wpList P ops Q rest (a.put o.dst v1) w1) :
    wpList P ops Q (o :: rest) a (W.alloc (.cells ys.toArray e)) := by
  obtain ⟨i0, hi, hzz⟩ := Option.map_eq_some_iff.1 hinfo
  simp only [Prod.mk.injEq] at hzz
  obtain ⟨hz0, hz1, hz2⟩ := hzz
  have hlen : n + 1 ≤ 140737488355328 := Nat.le_trans (Nat.le_mul_of_pos_right _ hb0) hl
  refine wpList_append_own_at (W.alloc (.cells ys.toArray e)) hgd s x t ho base e i0 z size bytes ht hi hz0 hz1 hz2 hz hs0 v n xs hs (HO.alloc _) ⟨W.heap.size, 0, none⟩ 1 1 ys hx (by rw [hys]; simp)
    (by simpa using World.news_of_block (cs := ys.toArray) (t := e) (fr := (0, 0)) (heap_alloc_new W (.cells ys.toArray e))) h1 (by simp only [maxLen]; omega) hl (by simp; omega) ?_
  intro v1 w1 hown hg _ hat
  refine h v1 w1 hown ((HB.alloc hbase _).grown hg (by simp; omega) (own_base HO)) (World.grownBy.trans (World.grownBy_alloc W _ _) hg) ?_
  rcases hat with hat | hat
  · exact .inl hat
  · exact .inr ⟨_, hat, by simp⟩
end

/-! ### 12. A block of one's own that is a state: its cells, what a store leaves -/
theorem own_ne {w : World} {base : Nat} {e t : TypeId} {size n g : Nat} {v : Value} {xs : List Value} {cs : Array Value} (h : w.ownsRow base e size v n xs) (hg : w.heap[g]? = some (.cells cs t (0, 0))) (hne : e ≠ t) : some g ≠ v.ownBlock := by
  rcases h.2 with ⟨rfl, _⟩ | ⟨g', cap, cur, rfl, _, hh, _⟩
  · simp [Value.ownBlock]
  · intro he
    have : g = g' := by simpa [Value.ownBlock] using he
    subst this
    rw [hg] at hh
    injection hh with hh
    injection hh with _ ht
    exact hne ht.symm
theorem blk_set {w : World} {g : Nat} {t : TypeId} {cs : Array Value} (h : w.heap[g]? = some (.cells cs t (0, 0))) (i : Nat) (u : Value) : (w.setCell ⟨g, i, none⟩ u).heap[g]? = some (.cells (cs.setIfInBounds i u) t (0, 0)) := by
  simp [World.setCell, Array.getElem?_modify, h]
theorem blk_lt {w : World} {g : Nat} {o : Obj} (h : w.heap[g]? = some o) : g < w.heap.size := (Array.getElem?_eq_some_iff.1 h).1
theorem blk_frozen {w : World} {g : Nat} {t : TypeId} {cs : Array Value} (h : w.heap[g]? = some (.cells cs t (0, 0))) (i : Nat) : w.frozen? ⟨g, i, none⟩ = false := by simp [World.frozen?, h]
theorem blk_grown {w w1 : World} {g : Nat} {o : Obj} {row : Option Nat} (h : w.heap[g]? = some o) (hg : w.grownBy w1 row) (hne : some g ≠ row) : w1.heap[g]? = some o := (hg.block g (blk_lt h) hne).trans h
theorem blk_ne {w : World} {g g' : Nat} {t t' : TypeId} {cs cs' : Array Value} (h : w.heap[g]? = some (.cells cs t (0, 0))) (h' : w.heap[g']? = some (.cells cs' t' (0, 0))) (hne : t ≠ t') : g ≠ g' := by
  rintro rfl
  rw [h] at h'
  injection h' with h'
  injection h' with _ ht
  exact hne ht
/-! ### 13. Two states at once: what a call on the state at block g (its row before: 'row') has turned -/
/-! ### 10b. From some number of rounds on -/
/-! ### 14. append as_ one step of a region that draws its order: for 'go_region_law' (and a region walked by hand) -/
section
variable {P : Program} {ops : Array Oper} {o : Oper} {a : Act} {Q : Exit → Act → World → Prop} {K : Act → World → Prop}
theorem step_append_cells {w0 W : World} (base : Nat) (hw : Region.wanted o (yielded ops a.tmps) = true) (s x : Operand) (t e : TypeId) (z : Value) (size bytes : Nat)
    (ho : o.op = .call { callee := .builtin .append, args := #[s, x], argTypes := #[t, t] })
    (ht : P.underlying t = some (.slice e)) (hinfo : (P.info? e).map (fun i => (i.zero, i.size, i.bytes)) = some (some z, size, bytes)) (hz : z.cells.size = size) (hs0 : 0 < size) (hb0 : 0 < bytes)
    (v : Value) (n : Nat) (xs ys : List Value) (hs : a.eval s = v) (hx : a.eval x = .slice (some ⟨W.heap.size, 0, none⟩) 1 1) (hys : ys.length = size) (h1 : ∀ u ∈ ys, u.oneCell' = true)
    (HO : W.ownsRow base e size v n xs) (HB : Below base w0 W) (hbase : base ≤ W.heap.size) (hl : (n + 1) * bytes ≤ 140737488355328)
    (h : ∀ v1 w1, w1.ownsRow base e size v1 (n + 1) (xs ++ ys) → Below base w0 w1 → W.grownBy w1 v.ownBlock → (v1.ownBlock = v.ownBlock ∨ ∃ b, v1.ownBlock = some b ∧ W.heap.size ≤ b) → K (a.put o.dst v1) w1) :
    if Region.wanted o (yielded ops a.tmps) = true then Oper.wp P o a (W.alloc (.cells ys.toArray e)) K Q else K (a.put o.dst undef) (W.alloc (.cells ys.toArray e)) := by
  obtain ⟨i0, hi, hzz⟩ := Option.map_eq_some_iff.1 hinfo
  simp only [Prod.mk.injEq] at hzz
  obtain ⟨hz0, hz1, hz2⟩ := hzz
  have hlen : n + 1 ≤ 140737488355328 := Nat.le_trans (Nat.le_mul_of_pos_right _ hb0) hl
  rw [if_pos hw]
  obtain ⟨v1, w1, hr, hown, hg, _, hat⟩ := run_append_own_at (P := P) (W.alloc (.cells ys.toArray e)) base t o.type e i0 z size bytes ht hi hz0 hz1 hz2 hz hs0 v n xs (HO.alloc _) ⟨W.heap.size, 0, none⟩ 1 1 ys (by rw [hys]; simp)
    (by simpa using World.news_of_block (cs := ys.toArray) (t := e) (fr := (0, 0)) (heap_alloc_new W (.cells ys.toArray e))) h1 (by simp only [maxLen]; omega) hl (by simp; omega)
  unfold Oper.wp execOp
  simp only [ho, resolve, invoke, builtin, Sem.run_bind, Sem.run_pure, Result.andThen_ok, List.map_toArray, List.map_cons, List.map_nil, hs, hx, hr]
  refine h v1 w1 hown ((HB.alloc hbase _).grown hg (by simp; omega) (own_base HO)) (World.grownBy.trans (World.grownBy_alloc W _ _) hg) ?_
  rcases hat with hat | hat
  · exact .inl hat
  · exact .inr ⟨_, hat, by simp⟩
end
/-! ### 15. A row's base may be lowered -/
theorem own_weaken {w : World} {base base' : Nat} {e : TypeId} {size n : Nat} {v : Value} {xs : List Value} (h : w.ownsRow base e size v n xs) (hb : base' ≤ base) : w.ownsRow base' e size v n xs := by
  obtain ⟨h1, h2⟩ := h
  refine ⟨h1, ?_⟩
  rcases h2 with h2 | ⟨g, cap, cur, rfl, hg, r⟩
  · exact .inl h2
  · exact .inr ⟨g, cap, cur, rfl, Nat.le_trans hb hg, r⟩
/-! ### 16. Parts 3 to 9 for ANY element of one cell: 'enc' (Value.int k, Value.string, Value.bool), a default 'd' -/
section
variable {α : Type} {enc : α → Value} {d : α}
def encs (enc : α → Value) (xs : List α) : List Value := xs.map enc
theorem encs_length (xs : List α) : (encs enc xs).length = xs.length := by simp [encs]
def ReadsOf (enc : α → Value) (d : α) (w : World) (A : Option Addr) (n : Nat) (xs : List α) : Prop :=
  xs.length = n ∧ n ≤ 9223372036854775807 ∧ (0 < n → ∃ ad, A = some ad ∧ ∀ j, j < n → w.cell? (ad.add j) = some (enc (xs.getD j d)))
theorem own_store_of {W : World} {base g n cap : Nat} {e : TypeId} {xs : List α} (h : W.ownsRow base e 1 (.slice (some ⟨g, 0, none⟩) n cap) n (encs enc xs)) (i : Int) (x : α) :
    (W.setCell ⟨g, i.toNat, none⟩ (enc x)).ownsRow base e 1 (.slice (some ⟨g, 0, none⟩) n cap) n (encs enc (xs.set i.toNat x)) ∧ W.grownBy (W.setCell ⟨g, i.toNat, none⟩ (enc x)) (some g) := by
  have hs := h.stored i.toNat (enc x)
  have he : (encs enc xs).set i.toNat (enc x) = encs enc (xs.set i.toNat x) := by simp [encs, List.map_set]
  rwa [he] at hs
end
section
variable {α : Type} {P : Program} {ops : Array Oper} {rest : List Oper} {o : Oper} {a : Act} {Q : Exit → Act → World → Prop}
end

/-! ### 17. Rows of one element type held at once: no two share a block -/
/-! ### 18. A block behind a new one; behind a draw -/
theorem blk_below {w w1 : World} {g : Nat} {o : Obj} (h : w.heap[g]? = some o) (hb : Below w.heap.size w w1) : w1.heap[g]? = some o := (hb.block g (blk_lt h)).trans h
/-! ### 19. Results that lie in memory beside others -/
section
variable {P : Program}
theorem results_ct {fn : Func} {p u : Tmp} {ty : TypeId} (h : fn.results = #[.cell p ty, .tmp u]) (tmps : Array Value) (w : World) (g : Nat) (t : TypeId) (cs : Array Value) (fr : Nat × Nat) (d : TypeDesc)
    (hp : tmps.getD p undef = .pointer (some ⟨g, 0, none⟩)) (hg : w.heap[g]? = some (.cells cs t fr))
    (hu : P.underlying ty = some d) (hd : (match d with | .struct _ | .array _ _ => true | _ => false) = true) (hi : (P.info? ty).map (·.size) = some cs.size) :
    (results fn tmps).run P w = .ok (.tuple #[.agg cs, tmps.getD u undef]) w := by
  have hp' : tmps[p]?.getD undef = .pointer (some ⟨g, 0, none⟩) := by simpa using hp
  simp [results, h, hp', asAddr, run_loadVar_row w g t ty cs fr d hg hu hd hi]
end
/-! ### 20. Rows of elements of any kind: R is what an element's cells say -/
theorem own_le {w : World} {base n m c size : Nat} {e : TypeId} {A : Option Addr} {xs : List Value} (h : w.ownsRow base e size (.slice A m c) n xs) : m ≤ c := by
  rcases h.2 with ⟨he, _⟩ | ⟨g, cap, cur, he, _, _, hnc, _⟩
  · injection he with _ h2 h3
    omega
  · injection he with _ h2 h3
    omega
def OwnRow {α : Type} (R : α → List Value → Prop) (e : TypeId) (size : Nat) (w : World) (base : Nat) (v : Value) (ps : List α) : Prop :=
  ∃ inner, w.ownsRow base e size v ps.length inner ∧ Reps R size ps inner
section
variable {α : Type} {R R' : α → List Value → Prop} {e : TypeId} {size : Nat} {w w1 : World} {base : Nat} {v : Value} {ps : List α}
theorem OwnRow.none_ (R : α → List Value → Prop) (e : TypeId) (size : Nat) (w : World) (base : Nat) : OwnRow R e size w base (.slice none 0 0) [] := ⟨[], own_nil _ _ _ _, Reps.none _ _⟩
theorem OwnRow.imp_ (h : OwnRow R e size w base v ps) (hR : ∀ p c, R p c → R' p c) : OwnRow R' e size w base v ps := by
  obtain ⟨inner, ho, hr⟩ := h
  exact ⟨inner, ho, hr.imp_ hR⟩
theorem OwnRow.reads (h : OwnRow R e size w base v ps) : ∃ A c, v = .slice A ps.length c ∧ ps.length ≤ c ∧ ReadsRow R size w A ps.length ps := by
  obtain ⟨inner, ho, hr⟩ := h
  obtain ⟨A, c, rfl, hrow⟩ := own_reads_row ho hr rfl
  exact ⟨A, c, rfl, own_le ho, hrow⟩
theorem OwnRow.ne_block (h : OwnRow R e size w base v ps) {g : Nat} {t : TypeId} {cells : Array Value} (hb : w.heap[g]? = some (.cells cells t (0, 0))) (ht : e ≠ t) : some g ≠ v.ownBlock := by
  obtain ⟨inner, ho, hr⟩ := h
  exact own_ne ho hb ht
end
section
variable {P : Program} {ops : Array Oper} {rest : List Oper} {o : Oper} {a : Act} {Q : Exit → Act → World → Prop} {α : Type} {R : α → List Value → Prop}
end
section
variable {P : Program} {ops : Array Oper} {o : Oper} {a : Act} {Q : Exit → Act → World → Prop} {K : Act → World → Prop} {α : Type} {R : α → List Value → Prop}
end
/-- What is read as_ a row has its cells one behind the other. -/
theorem ReadsRow.inner_ {α : Type} {R : α → List Value → Prop} {size : Nat} {w : World} {ad : Addr} {n : Nat} {ps : List α} (h : ReadsRow R size w (some ad) n ps) :
    ∃ inner, Reps R size ps inner ∧ ∀ j u, inner[j]? = some u → w.cell? (ad.add j) = some u := by
  have key : ∀ m, m ≤ ps.length → ∃ inner, Reps R size (ps.take m) inner ∧ ∀ j u, inner[j]? = some u → w.cell? (ad.add j) = some u := by
    intro m
    induction m with
    | zero => exact fun _ => ⟨[], Reps.none _ _, fun j u hu => by simp at hu⟩
    | succ m ih =>
      intro hm
      obtain ⟨inner, hr, hc⟩ := ih (by omega)
      obtain ⟨ad', he, hcell⟩ := h.2.2 (by have := h.1; omega)
      injection he with he
      subst he
      obtain ⟨c, hcl, hp, hcc⟩ := hcell m _ (List.getElem?_eq_getElem (show m < ps.length by omega))
      refine ⟨inner ++ c, ?_, fun j u hu => ?_⟩
      · rw [List.take_succ_eq_append_getElem (show m < ps.length by omega)]
        exact hr.snoc hp hcl
      · have hil : inner.length = m * size := by rw [hr.1, List.length_take, Nat.min_eq_left (by omega)]
        rcases Nat.lt_or_ge j inner.length with hj | hj
        · rw [List.getElem?_append_left hj] at hu
          exact hc j u hu
        · rw [List.getElem?_append_right hj] at hu
          have := hcc (j - inner.length) u hu
          rwa [hil, Nat.add_sub_cancel' (by omega)] at this
  obtain ⟨inner, hr, hc⟩ := key ps.length (Nat.le_refl _)
  rw [List.take_length] at hr
  exact ⟨inner, hr, hc⟩
/-! ### 21. Cuts of a slice that came in, lengths spelled as_ the lists' -/
section
variable {α : Type} {P : Program}
end

/-! ### 22. append([]byte, s...), s a string; behind 'at_builtin'. (No word on where the new row lies: two rows of bytes at once don't go by it.) -/
section
variable {P : Program} {ops : Array Oper} {rest : List Oper} {o : Oper} {a : Act} {Q : Exit → Act → World → Prop}
end
/-! ### 23. KINDS: what a value's cells say, read (K) and made (M), kind by kind; every mover proved once -/
/-- ok: which blocks the rows inside may be ('not the row that is being written'). -/
structure Kd (α : Type) where
  sz : Nat
  E : List Nat
  K : World → α → List Value → Prop
  M : World → Nat → (Nat → Prop) → α → List Value → Prop
  K_len : ∀ {w x cs}, K w x cs → cs.length = sz
  K_one : ∀ {w x cs}, K w x cs → ∀ u ∈ cs, u.oneCell' = true
  K_below : ∀ {w w1 : World} {x cs}, Below w.heap.size w w1 → K w x cs → K w1 x cs
  K_of_M : ∀ {w base ok x cs}, M w base ok x cs → K w x cs
  M_mono : ∀ {w base ok ok' x cs}, (∀ k, ok k → ok' k) → M w base ok x cs → M w base ok' x cs
  M_bound : ∀ {w : World} {base ok x cs}, M w base ok x cs → M w base (fun k => ok k ∧ base ≤ k ∧ k < w.heap.size ∧ ∃ q, q ∈ E ∧ ∃ cells, w.heap[k]? = some (.cells cells q (0, 0))) x cs
  M_move : ∀ {w w1 : World} {base ok x cs}, (∀ k, ok k → w1.heap[k]? = w.heap[k]?) → M w base ok x cs → M w1 base ok x cs
  M_lower : ∀ {w base base' ok x cs}, base' ≤ base → M w base ok x cs → M w base' ok x cs

theorem own_move {w w1 : World} {base : Nat} {e : TypeId} {size n : Nat} {v : Value} {xs : List Value} (h : w.ownsRow base e size v n xs) (hm : ∀ k, v.ownBlock = some k → w1.heap[k]? = w.heap[k]?) : w1.ownsRow base e size v n xs := by
  obtain ⟨h1, h2⟩ := h
  refine ⟨h1, ?_⟩
  rcases h2 with h2 | ⟨g, cap, cur, rfl, hg, hh, r⟩
  · exact .inl h2
  · exact .inr ⟨g, cap, cur, rfl, hg, (hm g (by simp [Value.ownBlock])).trans hh, r⟩
theorem own_typed {w : World} {base : Nat} {e : TypeId} {size n : Nat} {v : Value} {xs : List Value} (h : w.ownsRow base e size v n xs) (k : Nat) (hk : v.ownBlock = some k) : ∃ cells, w.heap[k]? = some (.cells cells e (0, 0)) := by
  rcases h.2 with ⟨rfl, _⟩ | ⟨g, cap, cur, rfl, hg, hh, r⟩
  · simp [Value.ownBlock] at hk
  · have : g = k := by simpa [Value.ownBlock] using hk
    subst this
    exact ⟨cur, hh⟩

namespace Kd
/-- A row of elements that is read. -/
def C {α : Type} (d : Kd α) (w : World) (A : Option Addr) (n : Nat) (xs : List α) : Prop := ReadsRow (d.K w) d.sz w A n xs
/-- A row of elements (type e) of the call's own; the elements' rows are not this one. -/
def R {α : Type} (d : Kd α) (e : Nat) (w : World) (base : Nat) (ok : Nat → Prop) (v : Value) (xs : List α) : Prop :=
  (∀ k, v.ownBlock = some k → ok k) ∧ OwnRow (d.M w base (fun k => ok k ∧ some k ≠ v.ownBlock)) e d.sz w base v xs
section
variable {α : Type} {d : Kd α} {e : Nat} {w w1 : World} {base : Nat} {ok ok' : Nat → Prop} {v : Value} {xs : List α}
theorem C_below {A : Option Addr} {n : Nat} (h : d.C w A n xs) (hb : Below w.heap.size w w1) : d.C w1 A n xs := ReadsRow.imp_ h hb (fun _ _ hp => d.K_below hb hp)
theorem R_nil (d : Kd α) (e : Nat) (w : World) (base : Nat) (ok : Nat → Prop) : d.R e w base ok (.slice none 0 0) [] := ⟨fun k hk => by simp [Value.ownBlock] at hk, OwnRow.none_ _ _ _ _ _⟩
theorem R_mono (h : d.R e w base ok v xs) (hok : ∀ k, ok k → ok' k) : d.R e w base ok' v xs := ⟨fun k hk => hok k (h.1 k hk), h.2.imp_ (fun _ _ hp => d.M_mono (fun k hk => ⟨hok k hk.1, hk.2⟩) hp)⟩
theorem R_bound (h : d.R e w base ok v xs) : d.R e w base (fun k => ok k ∧ base ≤ k ∧ k < w.heap.size ∧ ∃ q, q ∈ e :: d.E ∧ ∃ cells, w.heap[k]? = some (.cells cells q (0, 0))) v xs := by
  obtain ⟨h0, inner, ho, hr⟩ := h
  refine ⟨fun k hk => ?_, inner, ho, hr.imp_ (fun _ _ hp => d.M_mono (fun k hk => ?_) (d.M_bound hp))⟩
  · obtain ⟨cells, hc⟩ := own_typed ho k hk
    exact ⟨h0 k hk, own_base ho k hk, own_lt ho k hk, e, List.mem_cons_self, cells, hc⟩
  · obtain ⟨⟨h1, h2⟩, h3, h4, q, hq, hc⟩ := hk
    exact ⟨⟨h1, h3, h4, q, List.mem_cons_of_mem _ hq, hc⟩, h2⟩
theorem R_move (h : d.R e w base ok v xs) (hm : ∀ k, ok k → w1.heap[k]? = w.heap[k]?) : d.R e w1 base ok v xs := by
  obtain ⟨h0, inner, ho, hr⟩ := h
  exact ⟨h0, inner, own_move ho (fun k hk => hm k (h0 k hk)), hr.imp_ (fun _ _ hp => d.M_move (fun k hk => hm k hk.1) hp)⟩
theorem R_lower {base' : Nat} (h : d.R e w base ok v xs) (hb : base' ≤ base) : d.R e w base' ok v xs := by
  obtain ⟨h0, inner, ho, hr⟩ := h
  exact ⟨h0, inner, own_weaken ho hb, hr.imp_ (fun _ _ hp => d.M_lower hb hp)⟩
/-- Any mover: what is ok, and a block of w's, stays. -/
theorem R_step (h : d.R e w base ok v xs) (hm : ∀ k, ok k → k < w.heap.size → w1.heap[k]? = w.heap[k]?) : d.R e w1 base ok v xs :=
  R_mono (R_move (R_bound h) (fun k hk => hm k hk.1 hk.2.2.1)) (fun _ hk => hk.1)
theorem M_step {x : α} {cs : List Value} (h : d.M w base ok x cs) (hm : ∀ k, ok k → k < w.heap.size → w1.heap[k]? = w.heap[k]?) : d.M w1 base ok x cs :=
  d.M_mono (fun _ hk => hk.1) (d.M_move (fun k hk => hm k hk.1 hk.2.2.1) (d.M_bound h))
theorem R_below (h : d.R e w base ok v xs) (hb : Below w.heap.size w w1) : d.R e w1 base ok v xs := R_step h (fun k _ hk => hb.block k hk)
theorem M_below {x : α} {cs : List Value} (h : d.M w base ok x cs) (hb : Below w.heap.size w w1) : d.M w1 base ok x cs := M_step h (fun k _ hk => hb.block k hk)
/-- A store into another block. -/
theorem R_far (h : d.R e w base ok v xs) {p : Addr} (hok : ∀ k, ok k → k ≠ p.block) (u : Value) : d.R e (w.setCell p u) base ok v xs := R_step h (fun k ho _ => Below.heap_setCell w p u k (hok k ho))
/-- By types alone: the rows inside are none of a block of type t. -/
theorem R_types (h : d.R e w base ok v xs) {g t : Nat} {cells : Array Value} (hb : w.heap[g]? = some (.cells cells t (0, 0))) (ht : ∀ q, q ∈ e :: d.E → q ≠ t) : d.R e w base (fun k => ok k ∧ k ≠ g) v xs :=
  R_mono (R_bound h) (fun k hk => ⟨hk.1, by
    obtain ⟨_, _, _, q, hq, cells', hc⟩ := hk
    rintro rfl
    rw [hc] at hb
    injection hb with hb
    injection hb with _ hb
    exact ht q hq hb⟩)
theorem R_set (h : d.R e w base ok v xs) {g t : Nat} {cells : Array Value} (hb : w.heap[g]? = some (.cells cells t (0, 0))) (ht : ∀ q, q ∈ e :: d.E → q ≠ t) (j : Nat) (u : Value) : d.R e (w.setCell ⟨g, j, none⟩ u) base ok v xs :=
  R_mono (R_far (p := ⟨g, j, none⟩) (R_types h hb ht) (fun _ hk => hk.2) u) (fun _ hk => hk.1)
theorem R_reads (h : d.R e w base ok v xs) : ∃ A c, v = .slice A xs.length c ∧ xs.length ≤ c ∧ d.C w A xs.length xs := by
  obtain ⟨A, c, he, hl, hr⟩ := OwnRow.reads h.2
  exact ⟨A, c, he, hl, hr.imp_ (Below.refl _ _) (fun _ _ hp => d.K_of_M hp)⟩
theorem R_slice (h : d.R e w base ok v xs) : ∃ A c, v = .slice A xs.length c := by
  obtain ⟨A, c, he, _⟩ := R_reads h
  exact ⟨A, c, he⟩
theorem R_own (h : d.R e w base ok v xs) : ∃ inner, w.ownsRow base e d.sz v xs.length inner := by
  obtain ⟨_, inner, ho, _⟩ := h
  exact ⟨inner, ho⟩
theorem R_ne (h : d.R e w base ok v xs) {g t : Nat} {cells : Array Value} (hb : w.heap[g]? = some (.cells cells t (0, 0))) (ht : e ≠ t) : some g ≠ v.ownBlock := OwnRow.ne_block h.2 hb ht
end

/-! #### the kinds -/
def scalar {α : Type} (enc : α → Value) (h1 : ∀ x, (enc x).oneCell' = true) : Kd α where
  sz := 1
  E := []
  K := fun _ x cs => cs = [enc x]
  M := fun _ _ _ x cs => cs = [enc x]
  K_len := fun h => by rw [h]; rfl
  K_one := fun h u hu => by
    rw [h] at hu
    rw [List.mem_singleton.1 hu]
    exact h1 _
  K_below := fun _ h => h
  K_of_M := fun h => h
  M_mono := fun _ h => h
  M_bound := fun h => h
  M_move := fun _ h => h
  M_lower := fun _ h => h
def int (k : IntKind) : Kd Int := scalar (Value.int k) (fun _ => rfl)
def bool : Kd Bool := scalar Value.bool (fun _ => rfl)
def string : Kd ByteArray := scalar Value.string (fun _ => rfl)
def slice {α : Type} (e : Nat) (d : Kd α) : Kd (List α) where
  sz := 1
  E := e :: d.E
  K := fun w xs cs => ∃ A c, cs = [.slice A xs.length c] ∧ xs.length ≤ c ∧ d.C w A xs.length xs
  M := fun w base ok xs cs => ∃ v, cs = [v] ∧ d.R e w base ok v xs
  K_len := by
    rintro w x cs ⟨A, c, rfl, _⟩
    rfl
  K_one := by
    rintro w x cs ⟨A, c, rfl, _⟩ u hu
    rw [List.mem_singleton.1 hu]
    rfl
  K_below := by
    rintro w w1 x cs hb ⟨A, c, rfl, hl, hr⟩
    exact ⟨A, c, rfl, hl, C_below hr hb⟩
  K_of_M := by
    rintro w base ok x cs ⟨v, rfl, h⟩
    obtain ⟨A, c, rfl, hl, hr⟩ := R_reads h
    exact ⟨A, c, rfl, hl, hr⟩
  M_mono := by
    rintro w base ok ok' x cs hok ⟨v, rfl, h⟩
    exact ⟨v, rfl, R_mono h hok⟩
  M_bound := by
    rintro w base ok x cs ⟨v, rfl, h⟩
    exact ⟨v, rfl, R_bound h⟩
  M_move := by
    rintro w w1 base ok x cs hm ⟨v, rfl, h⟩
    exact ⟨v, rfl, R_move h hm⟩
  M_lower := by
    rintro w base base' ok x cs hb ⟨v, rfl, h⟩
    exact ⟨v, rfl, R_lower h hb⟩
/-- Two in line. -/
def pair {α β : Type} (a : Kd α) (b : Kd β) : Kd (α × β) where
  sz := a.sz + b.sz
  E := a.E ++ b.E
  K := fun w x cs => ∃ c0 c1, cs = c0 ++ c1 ∧ a.K w x.1 c0 ∧ b.K w x.2 c1
  M := fun w base ok x cs => ∃ c0 c1, cs = c0 ++ c1 ∧ a.M w base ok x.1 c0 ∧ b.M w base ok x.2 c1
  K_len := by
    rintro w x cs ⟨c0, c1, rfl, h0, h1⟩
    rw [List.length_append, a.K_len h0, b.K_len h1]
  K_one := by
    rintro w x cs ⟨c0, c1, rfl, h0, h1⟩ u hu
    rcases List.mem_append.1 hu with hu | hu
    · exact a.K_one h0 u hu
    · exact b.K_one h1 u hu
  K_below := by
    rintro w w1 x cs hb ⟨c0, c1, rfl, h0, h1⟩
    exact ⟨c0, c1, rfl, a.K_below hb h0, b.K_below hb h1⟩
  K_of_M := by
    rintro w base ok x cs ⟨c0, c1, rfl, h0, h1⟩
    exact ⟨c0, c1, rfl, a.K_of_M h0, b.K_of_M h1⟩
  M_mono := by
    rintro w base ok ok' x cs hok ⟨c0, c1, rfl, h0, h1⟩
    exact ⟨c0, c1, rfl, a.M_mono hok h0, b.M_mono hok h1⟩
  M_bound := by
    rintro w base ok x cs ⟨c0, c1, rfl, h0, h1⟩
    refine ⟨c0, c1, rfl, a.M_mono ?_ (a.M_bound h0), b.M_mono ?_ (b.M_bound h1)⟩
    · rintro k ⟨h2, h3, h4, q, hq, hc⟩
      exact ⟨h2, h3, h4, q, List.mem_append_left _ hq, hc⟩
    · rintro k ⟨h2, h3, h4, q, hq, hc⟩
      exact ⟨h2, h3, h4, q, List.mem_append_right _ hq, hc⟩
  M_move := by
    rintro w w1 base ok x cs hm ⟨c0, c1, rfl, h0, h1⟩
    exact ⟨c0, c1, rfl, a.M_move hm h0, b.M_move hm h1⟩
  M_lower := by
    rintro w base base' ok x cs hb ⟨c0, c1, rfl, h0, h1⟩
    exact ⟨c0, c1, rfl, a.M_lower hb h0, b.M_lower hb h1⟩
/-- A Lean structure by its fields. -/
def iso {α β : Type} (d : Kd α) (f : β → α) : Kd β where
  sz := d.sz
  E := d.E
  K := fun w x cs => d.K w (f x) cs
  M := fun w base ok x cs => d.M w base ok (f x) cs
  K_len := d.K_len
  K_one := d.K_one
  K_below := d.K_below
  K_of_M := d.K_of_M
  M_mono := d.M_mono
  M_bound := d.M_bound
  M_move := d.M_move
  M_lower := d.M_lower
/-- Nothing is of this kind: where the nesting's depth is used up. -/
def bot {α : Type} (sz : Nat) (E : List Nat) : Kd α where
  sz := sz
  E := E
  K := fun _ _ _ => False
  M := fun _ _ _ _ _ => False
  K_len := fun h => h.elim
  K_one := fun h => h.elim
  K_below := fun _ h => h
  K_of_M := fun h => h
  M_mono := fun _ h => h
  M_bound := fun h => h
  M_move := fun _ h => h
  M_lower := fun _ h => h
/-- A type nested in itself: nested at most n deep .. -/
def upto {α : Type} (F : Kd α → Kd α) (sz : Nat) (E : List Nat) : Nat → Kd α
  | 0 => bot sz E
  | n + 1 => F (upto F sz E n)
/-! #### an element of a row that is read; an element appended -/
theorem C_get {α : Type} {d : Kd α} {w : World} {A : Option Addr} {n : Nat} {xs : List α} (h : d.C w A n xs) (z : α) (i : Int) (h0 : 0 ≤ i) (h1 : i < n) :
    ∃ ad c, A = some ad ∧ c.length = d.sz ∧ d.K w (xs.getD i.toNat z) c ∧ ∀ j u, c[j]? = some u → w.cell? (ad.add (i.toNat * d.sz + j)) = some u := ReadsRow.get_ h z i h0 h1
/-- What an append leaves: the old elements' rows and the new one's are not the new row's block. -/
theorem R_appended {α : Type} {d : Kd α} {e base : Nat} {ok okp : Nat → Prop} {W w1 : World} {v v1 : Value} {xs : List α} {p : α} {inner cs : List Value} (h0 : ∀ k, v.ownBlock = some k → ok k) (hr : Reps (d.M W base (fun k => ok k ∧ some k ≠ v.ownBlock)) d.sz xs inner) (hp : d.M W base okp p cs) (hokp : ∀ k, okp k → ok k ∧ some k ≠ v.ownBlock) (hfresh : ∀ k, W.heap.size ≤ k → ok k)
    (hown : w1.ownsRow base e d.sz v1 (xs.length + 1) (inner ++ cs)) (hg : W.grownBy w1 v.ownBlock) (hat : v1.ownBlock = v.ownBlock ∨ ∃ b, v1.ownBlock = some b ∧ W.heap.size ≤ b) : d.R e w1 base ok v1 (xs ++ [p]) := by
  have hne : ∀ k, some k ≠ v.ownBlock → k < W.heap.size → some k ≠ v1.ownBlock := by
    intro k hk hlt
    rcases hat with hat | ⟨b, hb, hle⟩
    · rw [hat]; exact hk
    · rw [hb]
      intro he
      injection he with he
      omega
  have step : ∀ {q : α} {c : List Value} {o : Nat → Prop}, d.M W base o q c → (∀ k, o k → ok k ∧ some k ≠ v.ownBlock) → d.M w1 base (fun k => ok k ∧ some k ≠ v1.ownBlock) q c := by
    intro q c o hq ho
    have h1 := d.M_move (w1 := w1) (fun k hk => hg.block k hk.2.2.1 (ho k hk.1).2) (d.M_bound hq)
    exact d.M_mono (fun k hk => ⟨(ho k hk.1).1, hne k (ho k hk.1).2 hk.2.2.1⟩) h1
  refine ⟨fun k hk => ?_, inner ++ cs, by rw [List.length_append, List.length_singleton]; exact hown, ?_⟩
  · rcases hat with hat | ⟨b, hb, hle⟩
    · exact h0 k (hat ▸ hk)
    · rw [hb] at hk
      injection hk with hk
      exact hfresh k (by omega)
  · exact (hr.imp_ (fun _ _ hq => step hq (fun _ hk => hk))).snoc (step hp hokp) (d.K_len (d.K_of_M hp))
section
variable {P : Program} {ops : Array Oper} {rest : List Oper} {o : Oper} {a : Act} {Q : Exit → Act → World → Prop} {α : Type}
/-- append(v, x), behind 'at_builtin'; the goal's world is 'W.alloc' of the variadic's box; x's cells are cs, made (its rows satisfy okp). hfresh: a block that is new at W is ok. -/
theorem R_append (d : Kd α) {w0 W : World} (base : Nat) (hgd : o.guard = none) (s x : Operand) (t e : TypeId) (z : Value) (bytes : Nat)
    (ho : o.op = .call { callee := .builtin .append, args := #[s, x], argTypes := #[t, t] })
    (ht : P.underlying t = some (.slice e)) (hinfo : (P.info? e).map (fun i => (i.zero, i.size, i.bytes)) = some (some z, d.sz, bytes)) (hz : z.cells.size = d.sz) (hs0 : 0 < d.sz) (hb0 : 0 < bytes)
    (v : Value) (xs : List α) (p : α) (cs : List Value) (ok okp : Nat → Prop) (hs : a.eval s = v) (hx : a.eval x = .slice (some ⟨W.heap.size, 0, none⟩) 1 1) (hp : d.M W base okp p cs) (hokp : ∀ k, okp k → ok k ∧ some k ≠ v.ownBlock) (hfresh : ∀ k, W.heap.size ≤ k → ok k)
    (HO : d.R e W base ok v xs) (HB : Below base w0 W) (hbase : base ≤ W.heap.size) (hl : (xs.length + 1) * bytes ≤ 140737488355328)
    (h : ∀ v1 w1, d.R e w1 base ok v1 (xs ++ [p]) → Below base w0 w1 → W.grownBy w1 v.ownBlock → (v1.ownBlock = v.ownBlock ∨ ∃ b, v1.ownBlock = some b ∧ W.heap.size ≤ b) → wpList P ops Q rest (a.put o.dst v1) w1) :
    wpList P ops Q (o :: rest) a (W.alloc (.cells cs.toArray e)) := by
  obtain ⟨h0, inner, hown, hr⟩ := HO
  refine print_append_cells base hgd s x t e z d.sz bytes ho ht hinfo hz hs0 hb0 v xs.length inner cs hs hx (d.K_len (d.K_of_M hp)) (d.K_one (d.K_of_M hp)) hown HB hbase hl ?_
  intro v1 w1 hown1 hb1 hg1 hat1
  exact h v1 w1 (R_appended h0 hr hp hokp hfresh hown1 hg1 hat1) hb1 hg1 hat1
end
section
variable {P : Program} {ops : Array Oper} {o : Oper} {a : Act} {Q : Exit → Act → World → Prop} {Kc : Act → World → Prop} {α : Type}
theorem R_append_step (d : Kd α) {w0 W : World} (base : Nat) (hw : Region.wanted o (yielded ops a.tmps) = true) (s x : Operand) (t e : TypeId) (z : Value) (bytes : Nat)
    (ho : o.op = .call { callee := .builtin .append, args := #[s, x], argTypes := #[t, t] })
    (ht : P.underlying t = some (.slice e)) (hinfo : (P.info? e).map (fun i => (i.zero, i.size, i.bytes)) = some (some z, d.sz, bytes)) (hz : z.cells.size = d.sz) (hs0 : 0 < d.sz) (hb0 : 0 < bytes)
    (v : Value) (xs : List α) (p : α) (cs : List Value) (ok okp : Nat → Prop) (hs : a.eval s = v) (hx : a.eval x = .slice (some ⟨W.heap.size, 0, none⟩) 1 1) (hp : d.M W base okp p cs) (hokp : ∀ k, okp k → ok k ∧ some k ≠ v.ownBlock) (hfresh : ∀ k, W.heap.size ≤ k → ok k)
    (HO : d.R e W base ok v xs) (HB : Below base w0 W) (hbase : base ≤ W.heap.size) (hl : (xs.length + 1) * bytes ≤ 140737488355328)
    (h : ∀ v1 w1, d.R e w1 base ok v1 (xs ++ [p]) → Below base w0 w1 → W.grownBy w1 v.ownBlock → (v1.ownBlock = v.ownBlock ∨ ∃ b, v1.ownBlock = some b ∧ W.heap.size ≤ b) → Kc (a.put o.dst v1) w1) :
    if Region.wanted o (yielded ops a.tmps) = true then Oper.wp P o a (W.alloc (.cells cs.toArray e)) Kc Q else Kc (a.put o.dst undef) (W.alloc (.cells cs.toArray e)) := by
  obtain ⟨h0, inner, hown, hr⟩ := HO
  refine step_append_cells base hw s x t e z d.sz bytes ho ht hinfo hz hs0 hb0 v xs.length inner cs hs hx (d.K_len (d.K_of_M hp)) (d.K_one (d.K_of_M hp)) hown HB hbase hl ?_
  intro v1 w1 hown1 hb1 hg1 hat1
  exact h v1 w1 (R_appended h0 hr hp hokp hfresh hown1 hg1 hat1) hb1 hg1 hat1
end
/-- A row of scalars is the elder form. -/
theorem reps_scalar {α : Type} {enc : α → Value} (xs : List α) : Reps (fun (x : α) (cs : List Value) => cs = [enc x]) 1 xs (encs enc xs) := by
  refine ⟨by simp [encs], fun j p hj => ?_⟩
  obtain ⟨hl, hp⟩ := List.getElem?_eq_some_iff.1 hj
  have hl' : j < (encs enc xs).length := by rw [encs_length]; exact hl
  rw [Nat.mul_one, List.drop_eq_getElem_cons hl']
  simp [encs, hp]
theorem R_of_own {α : Type} {enc : α → Value} {h1 : ∀ x, (enc x).oneCell' = true} {e : Nat} {w : World} {base : Nat} {ok : Nat → Prop} {v : Value} {xs : List α} (ho : w.ownsRow base e 1 v xs.length (encs enc xs)) (hok : ∀ k, v.ownBlock = some k → ok k) : (scalar enc h1).R e w base ok v xs := ⟨hok, encs enc xs, ho, reps_scalar xs⟩
theorem own_of_R {α : Type} {enc : α → Value} {h1 : ∀ x, (enc x).oneCell' = true} {e : Nat} {w : World} {base : Nat} {ok : Nat → Prop} {v : Value} {xs : List α} (h : (scalar enc h1).R e w base ok v xs) : w.ownsRow base e 1 v xs.length (encs enc xs) := by
  obtain ⟨_, inner, ho, hr⟩ := h
  have : inner = encs enc xs := by
    apply List.ext_getElem?
    intro j
    rcases Nat.lt_or_ge j xs.length with hj | hj
    · have h2 := hr.2 j _ (List.getElem?_eq_getElem hj)
      have hl : j < inner.length := by have := hr.1; simp [scalar] at this; omega
      have h3 : (inner.drop (j * 1)).take 1 = [enc xs[j]] := h2
      rw [Nat.mul_one, List.drop_eq_getElem_cons hl] at h3
      have h4 : inner[j] = enc xs[j] := by
        have h5 := congrArg List.head? h3
        rw [List.take_succ_cons] at h5
        exact Option.some.inj h5
      rw [List.getElem?_eq_getElem hl, h4]
      simp [encs, List.getElem?_eq_getElem hj]
    · have h3 : inner.length = xs.length := by have := hr.1; simp [scalar] at this; omega
      rw [List.getElem?_eq_none (by omega), List.getElem?_eq_none (by rw [encs_length]; omega)]
  rw [← this]
  exact ho
theorem reads_of_C {α : Type} {enc : α → Value} {d : α} {h1 : ∀ x, (enc x).oneCell' = true} {w : World} {A : Option Addr} {n : Nat} {xs : List α} (h : (scalar enc h1).C w A n xs) : ReadsOf enc d w A n xs := by
  refine ⟨h.1, h.2.1, fun hn => ?_⟩
  obtain ⟨ad, e, hc⟩ := h.2.2 hn
  refine ⟨ad, e, fun j hj => ?_⟩
  have hl : j < xs.length := by have := h.1; omega
  obtain ⟨c, _, hK, hcell⟩ := hc j _ (List.getElem?_eq_getElem hl)
  have hK' : c = [enc xs[j]] := hK
  subst hK'
  have := hcell 0 _ rfl
  simpa [scalar, List.getD_eq_getElem?_getD, List.getElem?_eq_getElem hl] using this
end Kd
/-! ### 24. Kinds nested in themselves -/
namespace Kd
section
variable {α : Type} {F : Kd α → Kd α} {sz : Nat} {E : List Nat} {hs : ∀ n, (upto F sz E n).sz = sz} {hE : ∀ n q, q ∈ (upto F sz E n).E → q ∈ E}
end
end Kd
/-! ### 25. What is held while another row is written: 'ok' says that its rows are none of that row's block -/
namespace Kd
end Kd
/-! ### 26. Words for a printer that takes every slice by its kind -/
namespace Kd
section
variable {α β : Type} {d : Kd α} {d' : Kd β} {e e' : Nat} {w w1 W : World} {base b b' : Nat} {ok ok' okv oku : Nat → Prop} {v u : Value} {xs : List α} {ys : List β}
theorem R_drew (h : d.R e w base ok v xs) : d.R e w.drew base ok v xs := R_below h (below_drew (Below.refl _ _))
theorem C_drew {A : Option Addr} {n : Nat} (h : d.C w A n xs) : d.C w.drew A n xs := C_below h (below_drew (Below.refl _ _))
theorem C_drewN {A : Option Addr} {n : Nat} (h : d.C w A n xs) (m : Nat) : d.C (w.drewN m) A n xs := C_below h (pw_below_drewN (Below.refl _ _) m)
theorem C_nil (d : Kd α) (w : World) : d.C w none ([] : List α).length [] := ⟨rfl, by simp, fun h => absurd h (Nat.lt_irrefl 0)⟩
theorem R_reads' {A : Option Addr} {n c : Nat} (h : d.R e w base ok (.slice A n c) xs) : n = xs.length ∧ n ≤ c ∧ d.C w A xs.length xs := by
  obtain ⟨A', c', he, hl, hr⟩ := R_reads h
  injection he with h1 h2 h3
  subst h1
  exact ⟨h2, by omega, hr⟩
theorem R_lt (h : d.R e w base ok v xs) : ∀ k, v.ownBlock = some k → k < w.heap.size := by
  obtain ⟨inner, ho⟩ := R_own h
  exact own_lt ho
theorem R_base (h : d.R e w base ok v xs) : ∀ k, v.ownBlock = some k → base ≤ k := by
  obtain ⟨inner, ho⟩ := R_own h
  exact own_base ho
theorem R_form (h : d.R e w base ok v xs) (hp : 0 < xs.length) : ∃ g cap, v = .slice (some ⟨g, 0, none⟩) xs.length cap ∧ base ≤ g ∧ g < w.heap.size ∧ ∃ cells, w.heap[g]? = some (.cells cells e (0, 0)) := by
  obtain ⟨inner, ho⟩ := R_own h
  obtain ⟨g, cap, he, hb, hl⟩ := ho.form hp
  obtain ⟨cells, hc⟩ := own_typed ho g (by rw [he]; simp [Value.ownBlock])
  exact ⟨g, cap, he, hb, hl, cells, hc⟩
end
/-! #### scalars -/
section
variable {w W : World} {A : Option Addr} {n : Nat}
variable {α : Type} {enc : α → Value} {h1 : ∀ x, (enc x).oneCell' = true} {e base g cap : Nat} {ok : Nat → Prop} {xs : List α}
theorem R_put (h : (scalar enc h1).R e W base ok (.slice (some ⟨g, 0, none⟩) xs.length cap) xs) (i : Int) (x : α) : (scalar enc h1).R e (W.setCell ⟨g, i.toNat, none⟩ (enc x)) base ok (.slice (some ⟨g, 0, none⟩) xs.length cap) (xs.set i.toNat x) ∧ W.grownBy (W.setCell ⟨g, i.toNat, none⟩ (enc x)) (some g) := by
  obtain ⟨ho, hg⟩ := own_store_of (own_of_R h) i x
  exact ⟨R_of_own (by rw [List.length_set]; exact ho) h.1, hg⟩
end

/-! #### events: a letter for what make and a literal leave -/
section
variable {P : Program} {ops : Array Oper} {rest : List Oper} {o : Oper} {a : Act} {Q : Exit → Act → World → Prop}
theorem event_run {W w1 : World} {v : Value} (hgd : o.guard = none) (hrun : (execOp a.eval o).run P W = .ok (.value v) w1) (h : wpList P ops Q rest (a.put o.dst v) w1) : wpList P ops Q (o :: rest) a W := by
  refine wpList_plain hgd fun K hK => ?_
  unfold Oper.wp
  rw [hrun]
  exact hK _ _ h
variable {α : Type}
/-- A literal '[]T{..}': inner its cells. 'hd' picks the operation; 'hrun' by '(by go_simp; rfl)'. -/
theorem R_lit (d : Kd α) {w0 W : World} (base e : Nat) (hgd : o.guard = none) {N : Tmp} (_hd : o.dst = some N) {xs : List α} {inner : List Value} {ok okp : Nat → Prop}
    (hrun : (execOp a.eval o).run P W = .ok (.value (.slice (some ⟨W.heap.size, 0, none⟩) xs.length xs.length)) (W.alloc (.cells inner.toArray e)))
    (hrep : Reps (d.M W base okp) d.sz xs inner) (hok : ∀ k, okp k → ok k) (hfresh : ok W.heap.size) (HB : Below base w0 W) (hbase : base ≤ W.heap.size) (hm : xs.length ≤ 9223372036854775807)
    (h : ∀ v1 w1, d.R e w1 base ok v1 xs → Below base w0 w1 → W.grownBy w1 none → (∃ b, v1.ownBlock = some b ∧ W.heap.size ≤ b) → wpList P ops Q rest (a.put o.dst v1) w1) : wpList P ops Q (o :: rest) a W := by
  refine event_run hgd hrun (h _ _ ⟨fun k hk => ?_, inner, ?_, ?_⟩ (HB.alloc hbase _) (World.grownBy_alloc W _ none) ⟨W.heap.size, by simp [Value.ownBlock], Nat.le_refl _⟩)
  · have : W.heap.size = k := by simpa [Value.ownBlock] using hk
    subst this
    exact hfresh
  · have h2 := World.ownsRow_lit (base := base) (e := e) (size := d.sz) W inner.toArray xs.length hbase (by simpa [maxLen] using hm) (by simpa using hrep.1)
    simpa using h2
  · refine hrep.imp_ (fun p c hp => d.M_mono (fun k hk => ⟨hok k hk.1, fun he => ?_⟩) (M_below (d.M_bound hp) (below_alloc (Below.refl _ _) _)))
    have h3 : k = W.heap.size := by simpa [Value.ownBlock] using he
    have := hk.2.2.1
    omega
theorem reps_made {α : Type} {R : α → List Value → Prop} {z : Value} {size : Nat} {z0 : α} (hz : z.cells.size = size) (hs : 0 < size) (h0 : R z0 z.cells.toList) (m : Nat) : Reps R size (List.replicate m z0) (madeCells z.cells (m * size)).toList := by
  refine ⟨by simp [size_madeCells], fun j p hj => ?_⟩
  obtain ⟨hjl, hp⟩ := List.getElem?_eq_some_iff.1 hj
  have hjm : j < m := by simpa using hjl
  have hp' : z0 = p := by simpa using hp
  subst hp'
  have hle : j * size + size ≤ m * size := by rw [← Nat.succ_mul]; exact Nat.mul_le_mul_right _ hjm
  have : ((madeCells z.cells (m * size)).toList.drop (j * size)).take size = z.cells.toList := by
    apply List.ext_getElem
    · simp [size_madeCells, hz]
      omega
    · intro i h1 h2
      have hi : i < size := by rw [Array.length_toList, hz] at h2; exact h2
      have hmod : (j * size + i) % size = i := by
        rw [Nat.mul_comm, Nat.mul_add_mod]
        exact Nat.mod_eq_of_lt hi
      simp [madeCells, hz, hmod]
      rw [getElem!_pos z.cells i (by omega)]
  rw [this]
  exact h0
/-- make([]T, n): every element is z0, whose cells are the type's zero's. -/
theorem R_make (d : Kd α) {w0 W : World} (base e : Nat) (hgd : o.guard = none) {N : Tmp} (hd : o.dst = some N) (t : TypeId) (x y : Operand) (ho : o.op = .makeSlice t x y) (n : Int) (hx : a.eval x = .int .i64 n) (hy : a.eval y = .int .i64 n)
    (ht : P.underlying t = some (.slice e)) (z : Value) (bytes : Nat) (hinfo : (P.info? e).map (fun i => (i.zero, i.size, i.bytes)) = some (some z, d.sz, bytes)) (hz : z.cells.size = d.sz) (hs0 : 0 < d.sz) (hb0 : 0 < bytes)
    (z0 : α) {ok okp : Nat → Prop} (hzero : d.M W base okp z0 z.cells.toList) (hok : ∀ k, okp k → ok k) (hfresh : ok W.heap.size) (h0 : 0 ≤ n) (hl : n.toNat * bytes ≤ 281474976710656) (HB : Below base w0 W) (hbase : base ≤ W.heap.size)
    (h : ∀ v1 w1, d.R e w1 base ok v1 (List.replicate n.toNat z0) → Below base w0 w1 → W.grownBy w1 none → (∃ b, v1.ownBlock = some b ∧ W.heap.size ≤ b) → wpList P ops Q rest (a.put o.dst v1) w1) : wpList P ops Q (o :: rest) a W := by
  obtain ⟨m, rfl⟩ := Int.eq_ofNat_of_zero_le h0
  simp only [Int.toNat_natCast] at hl h
  obtain ⟨i0, hi, hzz⟩ := Option.map_eq_some_iff.1 hinfo
  simp only [Prod.mk.injEq] at hzz
  obtain ⟨hz0, hz1, hz2⟩ := hzz
  have hm : m ≤ 281474976710656 := Nat.le_trans (Nat.le_mul_of_pos_right _ hb0) hl
  have hr := run_make (P := P) W t e i0 z ht hi hz0 .i64 .i64 (m : Int) (m : Int) (by omega) (by omega)
    (by
      have h3 : ((i0.bytes * m : Nat) : Int) ≤ 281474976710656 := by rw [hz2, Nat.mul_comm]; omega
      rwa [Int.natCast_mul] at h3) (by omega)
  simp only [Int.toNat_natCast] at hr
  rw [hz1] at hr
  refine R_lit d base e hgd hd (xs := List.replicate m z0) (inner := (madeCells z.cells (m * d.sz)).toList) (okp := okp) (ok := ok) ?_ (reps_made hz hs0 hzero m) hok hfresh HB hbase (by simp; omega) h
  simp [execOp, ho, hx, hy, hr]
end
end Kd
/-! ### 27. Cuts of a row of one's own: 'xs = xs[:n]' stays a row (R_take); 'xs = xs[k:]' is a row that begins inside its block (Kd.Q), append goes on it too -/
theorem own_take {w : World} {base n m c size : Nat} {e : TypeId} {A : Option Addr} {xs : List Value} (h : w.ownsRow base e size (.slice A n c) n xs) (hm : m ≤ n) : w.ownsRow base e size (.slice A m c) m (xs.take (m * size)) := by
  obtain ⟨h1, h2⟩ := h
  refine ⟨by rw [List.length_take, h1]; exact Nat.min_eq_left (Nat.mul_le_mul_right _ hm), ?_⟩
  rcases h2 with ⟨he, h0⟩ | ⟨g, cap, cur, he, hb, hh, hnc, hcm, hcs, ht⟩
  · injection he with ha _ hc
    subst ha; subst hc
    exact .inl ⟨by rw [show m = 0 by omega], by omega⟩
  · injection he with ha _ hc
    subst ha; subst hc
    refine .inr ⟨g, c, cur, rfl, hb, hh, by omega, hcm, hcs, ?_⟩
    rw [← ht, List.take_take, Nat.min_eq_left (Nat.mul_le_mul_right _ hm)]
section
variable {P : Program}
end
/-- A row of one's own that may begin inside its block. -/
def QRow (w : World) (base : Nat) (e : TypeId) (size : Nat) (v : Value) (n : Nat) (xs : List Value) : Prop :=
  xs.length = n * size ∧
  ((n = 0 ∧ ∃ A, v = .slice A 0 0 ∧ ∀ a, A = some a → base ≤ a.block ∧ ∃ cur, w.heap[a.block]? = some (.cells cur e (0, 0))) ∨
   ∃ g off cap cur, v = .slice (some ⟨g, off * size, none⟩) n cap ∧ base ≤ g ∧ w.heap[g]? = some (.cells cur e (0, 0)) ∧ n ≤ cap ∧ off + cap ≤ maxLen ∧ cur.size = (off + cap) * size ∧ (cur.toList.drop (off * size)).take (n * size) = xs)
section
variable {w w1 : World} {base n size : Nat} {e : TypeId} {v : Value} {xs : List Value}
/-- What a run of cells written leaves. -/
theorem setCells_far {g : Nat} : ∀ (vs : List Value) (o : Nat) {w : World} (k : Nat), k ≠ g → (w.setCells g o vs).heap[k]? = w.heap[k]?
  | [], _, _, _, _ => rfl
  | v :: r, o, w, k, hk => by
    rw [World.setCells, setCells_far r (o + 1) k hk]
    exact Below.heap_setCell w ⟨g, o, none⟩ v k hk
theorem setCells_same (g : Nat) : ∀ (vs : List Value) (o : Nat) (w : World), (w.setCells g o vs).os = w.os ∧ (w.setCells g o vs).tape = w.tape ∧ (w.setCells g o vs).output = w.output ∧ (w.setCells g o vs).heap.size = w.heap.size
  | [], _, _ => ⟨rfl, rfl, rfl, rfl⟩
  | v :: r, o, w => by
    obtain ⟨h1, h2, h3, h4⟩ := setCells_same g r (o + 1) (w.setCell ⟨g, o, none⟩ v)
    rw [World.setCells]
    exact ⟨h1, h2, h3, by rw [h4]; simp [World.setCell]⟩
theorem setCells_row {g : Nat} {e : TypeId} : ∀ (vs : List Value) (o : Nat) (w : World) (cur : Array Value), w.heap[g]? = some (.cells cur e (0, 0)) → o + vs.length ≤ cur.size →
    ∃ cur', (w.setCells g o vs).heap[g]? = some (.cells cur' e (0, 0)) ∧ cur'.size = cur.size ∧ cur'.toList = cur.toList.take o ++ vs ++ cur.toList.drop (o + vs.length)
  | [], o, w, cur, h, _ => ⟨cur, h, rfl, by simp⟩
  | v :: r, o, w, cur, h, hl => by
    have h2 := blk_set h o v
    simp only [List.length_cons] at hl
    obtain ⟨cur', h3, h4, h5⟩ := setCells_row r (o + 1) (w.setCell ⟨g, o, none⟩ v) _ h2 (by simp; omega)
    refine ⟨cur', h3, by rw [h4]; simp, ?_⟩
    rw [h5, Array.toList_setIfInBounds]
    have ho : o < cur.toList.length := by rw [Array.length_toList]; omega
    rw [List.take_set, List.drop_set_of_lt (by omega)]
    simp only [List.length_cons]
    rw [show o + 1 + r.length = o + (r.length + 1) by omega]
    congr 1
    rw [List.take_succ_eq_append_getElem ho, List.set_append_right _ _ (by rw [List.length_take]; omega)]
    have ho' : o < cur.size := by omega
    simp [Nat.min_eq_left (Nat.le_of_lt ho')]
end
section
variable {P : Program}
end
/-! ### 28. The kinds' words for cuts: R_take; Q (a row that may begin inside its block) with all of R's movers -/
namespace Kd
theorem reps_take {α : Type} {R : α → List Value → Prop} {size m : Nat} {ps : List α} {cs : List Value} (h : Reps R size ps cs) (hm : m ≤ ps.length) : Reps R size (ps.take m) (cs.take (m * size)) := by
  refine ⟨by rw [List.length_take, List.length_take, h.1, Nat.min_eq_left hm, Nat.min_eq_left (Nat.mul_le_mul_right _ hm)], fun j p hj => ?_⟩
  rw [List.getElem?_take] at hj
  split at hj
  · rename_i hjm
    have := h.2 j p hj
    have hle : j * size + size ≤ m * size := by rw [← Nat.succ_mul]; exact Nat.mul_le_mul_right _ hjm
    rw [List.drop_take, List.take_take, Nat.min_eq_left (by omega)]
    exact this
  · cases hj
theorem R_take {α : Type} {d : Kd α} {e m n c : Nat} {w : World} {base : Nat} {ok : Nat → Prop} {A : Option Addr} {xs : List α} (h : d.R e w base ok (.slice A n c) xs) (hm : m ≤ xs.length) : d.R e w base ok (.slice A m c) (xs.take m) := by
  obtain ⟨h0, inner, ho, hr⟩ := h
  have hn : n = xs.length := by
    obtain ⟨A', c', he⟩ := own_slice ho
    injection he
  subst hn
  have hb : ∀ x y : Nat, (Value.slice A x c).ownBlock = (Value.slice A y c).ownBlock := by
    intro x y
    cases A <;> rfl
  refine ⟨fun k hk => h0 k (by rw [hb _ m]; exact hk), inner.take (m * d.sz), ?_, ?_⟩
  · rw [List.length_take, Nat.min_eq_left hm]
    exact own_take ho hm
  · rw [hb m xs.length]
    exact reps_take hr hm
def Q {α : Type} (d : Kd α) (e : Nat) (w : World) (base : Nat) (ok : Nat → Prop) (v : Value) (xs : List α) : Prop :=
  (∀ k, v.ownBlock = some k → ok k) ∧ ∃ inner, QRow w base e d.sz v xs.length inner ∧ Reps (d.M w base (fun k => ok k ∧ some k ≠ v.ownBlock)) d.sz xs inner
section
variable {α : Type} {d : Kd α} {e : Nat} {w w1 W : World} {base : Nat} {ok ok' : Nat → Prop} {v : Value} {xs : List α}
end
section
variable {P : Program} {ops : Array Oper} {rest : List Oper} {o : Oper} {a : Act} {Q' : Exit → Act → World → Prop} {Kc : Act → World → Prop} {α : Type}
end
end Kd
/-! ### 29. Movers that ask of another row no more than they need: for R and for Q -/
namespace Kd
section
variable {α : Type} {d : Kd α} {e e' : Nat} {w w1 W : World} {base : Nat} {ok : Nat → Prop} {u v : Value} {xs : List α}
end
end Kd
/-! ### 30. Elements written: x[i] = T{..}, x[i].f = v, swaps, in a row of elements of any kind -/
theorem seg_get {α : Type} (a seg : List α) (o : Nat) (h : o + seg.length ≤ a.length) (q : Nat) :
    (a.take o ++ seg ++ a.drop (o + seg.length))[q]? = if q < o then a[q]? else if q < o + seg.length then seg[q - o]? else a[q]? := by
  have hl : (a.take o).length = o := by rw [List.length_take]; omega
  rw [List.append_assoc]
  by_cases h1 : q < o
  · rw [if_pos h1, List.getElem?_append_left (by omega), List.getElem?_take, if_pos h1]
  · rw [if_neg h1, List.getElem?_append_right (by omega), hl]
    by_cases h2 : q < o + seg.length
    · rw [if_pos h2, List.getElem?_append_left (by omega)]
    · rw [if_neg h2, List.getElem?_append_right (by omega), List.getElem?_drop]
      congr 1
      omega
namespace Kd
section
variable {α : Type} {d : Kd α} {e base g n cap : Nat} {ok okp : Nat → Prop} {W : World} {xs : List α}
/-- Element i of a row of one's own: its cells. -/
theorem R_elem (h : d.R e W base ok (.slice (some ⟨g, 0, none⟩) n cap) xs) (z : α) (i : Int) (h0 : 0 ≤ i) (h1 : i < n) :
    ∃ c, c.length = d.sz ∧ d.M W base (fun k => ok k ∧ k ≠ g) (xs.getD i.toNat z) c ∧ (∀ j u, c[j]? = some u → W.cell? ⟨g, i.toNat * d.sz + j, none⟩ = some u) ∧ ∀ j, W.frozen? ⟨g, i.toNat * d.sz + j, none⟩ = false := by
  obtain ⟨hn, hnc, hC⟩ := R_reads' h
  obtain ⟨_, inner, ho, hr⟩ := h
  have hil : i.toNat < xs.length := by omega
  have hseg : i.toNat * d.sz + d.sz ≤ inner.length := by rw [hr.1, ← Nat.succ_mul]; exact Nat.mul_le_mul_right _ hil
  have hM := hr.2 i.toNat _ (List.getElem?_eq_getElem hil)
  refine ⟨(inner.drop (i.toNat * d.sz)).take d.sz, by rw [List.length_take, List.length_drop]; omega, ?_, fun j u hu => ?_, fun j => ?_⟩
  · rw [List.getD_eq_getElem?_getD, List.getElem?_eq_getElem hil]
    exact d.M_mono (fun k hk => ⟨hk.1, fun he => hk.2 (by rw [he]; simp [Value.ownBlock])⟩) hM
  · rw [List.getElem?_take] at hu
    split at hu
    · rw [List.getElem?_drop] at hu
      have := ho.cells (g := g) (by simp [Value.ownBlock]) _ u hu
      rwa [add_plain] at this
    · cases hu
  · obtain ⟨cells, hc⟩ := own_typed ho g (by simp [Value.ownBlock])
    exact blk_frozen hc _
/-- A run of cells of element i is written: element i is x' then. c: the element's cells before (R_elem). -/
theorem R_seg (h : d.R e W base ok (.slice (some ⟨g, 0, none⟩) n cap) xs) (i : Int) (h0 : 0 ≤ i) (h1 : i < n) {c seg : List Value} {j : Nat} (hcl : c.length = d.sz) (hcc : ∀ j u, c[j]? = some u → W.cell? ⟨g, i.toNat * d.sz + j, none⟩ = some u)
    (hj : j + seg.length ≤ d.sz) {x' : α} (hM : d.M W base okp x' (c.take j ++ seg ++ c.drop (j + seg.length))) (hokp : ∀ k, okp k → ok k ∧ k ≠ g) :
    d.R e (W.setCells g (i.toNat * d.sz + j) seg) base ok (.slice (some ⟨g, 0, none⟩) n cap) (xs.set i.toNat x') ∧ W.grownBy (W.setCells g (i.toNat * d.sz + j) seg) (some g) := by
  obtain ⟨hn, hnc, _⟩ := R_reads' h
  obtain ⟨hok, inner, ho, hr⟩ := h
  have hil : i.toNat < xs.length := by omega
  have hseg : i.toNat * d.sz + d.sz ≤ inner.length := by rw [hr.1, ← Nat.succ_mul]; exact Nat.mul_le_mul_right _ hil
  have hin : inner.length = n * d.sz := by rw [hr.1, hn]
  obtain ⟨ho1, ho2⟩ := ho
  rcases ho2 with ⟨hv, _⟩ | ⟨g', cap', cur, hv, hb, hh, hnc', hcm, hcs, ht⟩
  · cases hv
  injection hv with ha _ hc
  injection ha with ha
  injection ha with hg
  subst hg; subst hc
  have hfit : i.toNat * d.sz + j + seg.length ≤ cur.size := by
    have : n * d.sz ≤ cap * d.sz := Nat.mul_le_mul_right _ hnc
    omega
  obtain ⟨cur', h3, h4, h5⟩ := setCells_row seg (i.toNat * d.sz + j) W cur hh hfit
  obtain ⟨s1, s2, s3, s4⟩ := setCells_same g seg (i.toNat * d.sz + j) W
  have hfar : ∀ k, k ≠ g → (W.setCells g (i.toNat * d.sz + j) seg).heap[k]? = W.heap[k]? := fun k hk => setCells_far seg _ k hk
  -- the element's cells before are what was read
  have hcin : ∀ q, q < d.sz → c[q]? = inner[i.toNat * d.sz + q]? := by
    intro q hq
    have hq' : q < c.length := by omega
    have h6 := hcc q _ (List.getElem?_eq_getElem hq')
    rw [cell_of_row W g _ cur e (0, 0) hh] at h6
    rw [List.getElem?_eq_getElem hq', ← h6, ← ht, List.getElem?_take, if_pos (by rw [← hn]; omega), Array.getElem?_toList]
  refine ⟨⟨hok, inner.take (i.toNat * d.sz + j) ++ seg ++ inner.drop (i.toNat * d.sz + j + seg.length), ⟨?_, .inr ⟨g, cap, cur', by rw [List.length_set, hn], hb, h3, by rw [List.length_set, ← hn]; exact hnc, hcm, by rw [h4, hcs], ?_⟩⟩, ?_⟩,
    ⟨s1, s2, s3, by rw [s4]; exact Nat.le_refl _, fun k _ hk => hfar k (fun he => hk (by rw [he]))⟩⟩
  · rw [List.length_set]
    simp only [List.length_append, List.length_take, List.length_drop]
    rw [hr.1] at hseg ⊢
    omega
  · rw [List.length_set, ← hn]
    apply List.ext_getElem?
    intro q
    rw [List.getElem?_take, h5]
    rw [seg_get cur.toList seg (i.toNat * d.sz + j) (by rw [Array.length_toList]; omega) q, seg_get inner seg (i.toNat * d.sz + j) (by omega) q]
    have hcur : ∀ q, q < n * d.sz → cur.toList[q]? = inner[q]? := by
      intro q hq
      rw [← ht, List.getElem?_take, if_pos (by rw [← hn]; exact hq)]
    by_cases hq : q < n * d.sz
    · rw [if_pos hq, hcur q hq]
    · rw [if_neg hq, if_neg (by omega), if_neg (by omega), List.getElem?_eq_none (by omega)]
  · refine ⟨?_, fun m p hm => ?_⟩
    · rw [List.length_set]
      simp only [List.length_append, List.length_take, List.length_drop]
      rw [hr.1] at hseg ⊢
      omega
    · have hml : m < xs.length := by
        have := (List.getElem?_eq_some_iff.1 hm).1
        rwa [List.length_set] at this
      have hmfit : m * d.sz + d.sz ≤ inner.length := by rw [hr.1, ← Nat.succ_mul]; exact Nat.mul_le_mul_right _ hml
      have hgo : some g = (Value.slice (some ⟨g, 0, none⟩) n cap).ownBlock := by simp [Value.ownBlock]
      by_cases hmi : m = i.toNat
      · subst hmi
        rw [List.getElem?_set_self (by omega)] at hm
        injection hm with hm
        subst hm
        have hcells : ((inner.take (i.toNat * d.sz + j) ++ seg ++ inner.drop (i.toNat * d.sz + j + seg.length)).drop (i.toNat * d.sz)).take d.sz = c.take j ++ seg ++ c.drop (j + seg.length) := by
          apply List.ext_getElem?
          intro q
          rw [List.getElem?_take, List.getElem?_drop, seg_get inner seg _ (by omega), seg_get c seg j (by omega) q]
          by_cases hq : q < d.sz
          · rw [if_pos hq, hcin q hq]
            by_cases hq1 : q < j
            · rw [if_pos (by omega), if_pos hq1]
            · rw [if_neg (by omega), if_neg hq1]
              by_cases hq2 : q < j + seg.length
              · rw [if_pos (by omega), if_pos hq2]
                congr 1
                omega
              · rw [if_neg (by omega), if_neg hq2]
          · rw [if_neg hq, if_neg (by omega), if_neg (by omega), List.getElem?_eq_none (by omega)]
        rw [hcells]
        refine d.M_mono (fun k hk => ?_) (d.M_move (w1 := W.setCells g (i.toNat * d.sz + j) seg) (fun k hk => hfar k (hokp k hk).2) hM)
        exact ⟨(hokp k hk).1, fun he => (hokp k hk).2 (by rw [← hgo] at he; injection he)⟩
      · rw [List.getElem?_set_ne (by omega)] at hm
        have hold := hr.2 m p hm
        have hcells : ((inner.take (i.toNat * d.sz + j) ++ seg ++ inner.drop (i.toNat * d.sz + j + seg.length)).drop (m * d.sz)).take d.sz = (inner.drop (m * d.sz)).take d.sz := by
          apply List.ext_getElem?
          intro q
          rw [List.getElem?_take, List.getElem?_take, List.getElem?_drop, List.getElem?_drop, seg_get inner seg _ (by omega)]
          by_cases hq : q < d.sz
          · rw [if_pos hq, if_pos hq]
            rcases Nat.lt_or_gt_of_ne hmi with hlt | hgt
            · have : m * d.sz + d.sz ≤ i.toNat * d.sz := by rw [← Nat.succ_mul]; exact Nat.mul_le_mul_right _ hlt
              rw [if_pos (by omega)]
            · have : i.toNat * d.sz + d.sz ≤ m * d.sz := by rw [← Nat.succ_mul]; exact Nat.mul_le_mul_right _ hgt
              rw [if_neg (by omega), if_neg (by omega)]
          · rw [if_neg hq, if_neg hq]
        rw [hcells]
        refine d.M_move (fun k hk => hfar k (fun he => hk.2 (by rw [he]; exact hgo))) hold
end
end Kd
/-! ### 31. What came in, put into what is made: 'fixed d w0' (read in w0, whatever happens since), 'or_ a b', 'mix' (a slice that came in, or one that is made) -/
namespace Kd
section
variable {α : Type} {F : Kd α → Kd α} {sz : Nat} {E : List Nat} {hs : ∀ n, (upto F sz E n).sz = sz} {hE : ∀ n q, q ∈ (upto F sz E n).E → q ∈ E}
end
end Kd
/-! ### 32. A whole row appended, of elements of any kind; copy onto a row of scalars of one's own -/
namespace Kd
theorem reps_append {α : Type} {R : α → List Value → Prop} {size : Nat} {ps qs : List α} {cs ds : List Value} (h : Reps R size ps cs) (h' : Reps R size qs ds) : Reps R size (ps ++ qs) (cs ++ ds) := by
  refine ⟨by rw [List.length_append, List.length_append, h.1, h'.1, Nat.add_mul], fun j p hj => ?_⟩
  rcases Nat.lt_or_ge j ps.length with hlt | hge
  · rw [List.getElem?_append_left hlt] at hj
    have hle : j * size + size ≤ cs.length := by rw [h.1, ← Nat.succ_mul]; exact Nat.mul_le_mul_right _ hlt
    rw [List.drop_append_of_le_length (by omega), List.take_append_of_le_length (by rw [List.length_drop]; omega)]
    exact h.2 j p hj
  · rw [List.getElem?_append_right hge] at hj
    have h2 := h'.2 (j - ps.length) p hj
    have hle : ps.length * size ≤ j * size := Nat.mul_le_mul_right _ hge
    rw [List.drop_append, List.drop_eq_nil_of_le (by rw [h.1]; exact hle), List.nil_append, h.1, ← Nat.sub_mul]
    exact h2
section
variable {P : Program} {ops : Array Oper} {rest : List Oper} {o : Oper} {a : Act} {Q : Exit → Act → World → Prop} {α : Type}
/-- append(v, ys...): Rr is what is known of a read element's cells (d.K W; or k<T>.K w0 for a row that came in), hKM: it may stand as_ made. -/
theorem R_append_rows (d : Kd α) {Rr : α → List Value → Prop} {w0 W : World} (base : Nat) (hgd : o.guard = none) (s x : Operand) (t e : TypeId) (z : Value) (bytes : Nat)
    (ho : o.op = .call { callee := .builtin .append, args := #[s, x], argTypes := #[t, t] })
    (ht : P.underlying t = some (.slice e)) (hinfo : (P.info? e).map (fun i => (i.zero, i.size, i.bytes)) = some (some z, d.sz, bytes)) (hz : z.cells.size = d.sz) (hs0 : 0 < d.sz) (hb0 : 0 < bytes)
    (v : Value) (xs ys : List α) (A : Option Addr) (m c : Nat) (ok okp : Nat → Prop) (hs : a.eval s = v) (hx : a.eval x = .slice A m c)
    (HO : d.R e W base ok v xs) (HR : ReadsRow Rr d.sz W A m ys) (hKM : ∀ x cs, Rr x cs → d.M W base okp x cs) (hokp : ∀ k, okp k → ok k ∧ some k ≠ v.ownBlock) (hfresh : ∀ k, W.heap.size ≤ k → ok k)
    (HB : Below base w0 W) (hbase : base ≤ W.heap.size) (hl : (xs.length + m) * bytes ≤ 140737488355328)
    (h : ∀ v1 w1, d.R e w1 base ok v1 (xs ++ ys) → Below base w0 w1 → W.grownBy w1 v.ownBlock → (v1.ownBlock = v.ownBlock ∨ ∃ b, v1.ownBlock = some b ∧ W.heap.size ≤ b) → wpList P ops Q rest (a.put o.dst v1) w1) :
    wpList P ops Q (o :: rest) a W := by
  obtain ⟨i0, hi, hzz⟩ := Option.map_eq_some_iff.1 hinfo
  simp only [Prod.mk.injEq] at hzz
  obtain ⟨hz0, hz1, hz2⟩ := hzz
  have hm : ys.length = m := HR.1
  have hlen : xs.length + m ≤ 140737488355328 := Nat.le_trans (Nat.le_mul_of_pos_right _ hb0) hl
  obtain ⟨hok, inner, hown, hr⟩ := HO
  have hrun : ∃ v1 w1, (Builtin.append_ #[t, t] o.type #[v, .slice A m c]).run P W = .ok v1 w1 ∧ d.R e w1 base ok v1 (xs ++ ys) ∧ W.grownBy w1 v.ownBlock ∧ (v1.ownBlock = v.ownBlock ∨ ∃ b, v1.ownBlock = some b ∧ W.heap.size ≤ b) := by
    rcases A with _ | ad
    · have h0 : m = 0 := by
        rcases Nat.eq_zero_or_pos m with h0 | h0
        · exact h0
        · obtain ⟨ad, h, _⟩ := HR.2.2 h0
          cases h
      subst h0
      obtain rfl : ys = [] := List.eq_nil_of_length_eq_zero hm
      refine ⟨v, W, ?_, by rw [List.append_nil]; exact ⟨hok, inner, hown, hr⟩, World.grownBy.refl W _, .inl rfl⟩
      rcases hown.2 with ⟨rfl, hn⟩ | ⟨g, cap, cur, rfl, _, _, hnc, _⟩
      · simp [Builtin.append_, run_underlying ht, sizeOf, typeInfo, hi, Builtin.lenOf, Builtin.firstCells]
      · simp [Builtin.append_, run_underlying ht, sizeOf, typeInfo, hi, Builtin.lenOf, Builtin.firstCells, hnc, storeCells]
    · obtain ⟨news, hnr, hnc⟩ := ReadsRow.inner_ HR
      have hnM : Reps (d.M W base okp) d.sz ys news := hnr.imp_ (fun p c hp => hKM p c hp)
      have hone : ∀ u ∈ news, u.oneCell' = true := by
        intro u hu
        obtain ⟨q, hq, rfl⟩ := List.mem_iff_getElem.1 hu
        have hql : q / d.sz < ys.length := by
          rw [Nat.div_lt_iff_lt_mul hs0]
          rw [← hnM.1]
          exact hq
        have hc := hnM.2 (q / d.sz) _ (List.getElem?_eq_getElem hql)
        refine d.K_one (d.K_of_M hc) _ ?_
        rw [List.mem_iff_getElem?]
        refine ⟨q % d.sz, ?_⟩
        rw [List.getElem?_take, if_pos (Nat.mod_lt _ hs0), List.getElem?_drop, Nat.mul_comm, Nat.div_add_mod, List.getElem?_eq_getElem hq]
      obtain ⟨v1, w1, hrun, h2, hg, _, hat⟩ := run_append_own_at (P := P) W base t o.type e i0 z d.sz bytes ht hi hz0 hz1 hz2 hz hs0 v xs.length inner hown ad m c news (by rw [hnM.1, hm]) hnc hone (by simp only [maxLen]; omega) hl hbase
      have hat' : v1.ownBlock = v.ownBlock ∨ ∃ b, v1.ownBlock = some b ∧ W.heap.size ≤ b := by
        rcases hat with hat | hat
        · exact .inl hat
        · exact .inr ⟨_, hat, Nat.le_refl _⟩
      have hne : ∀ k, some k ≠ v.ownBlock → k < W.heap.size → some k ≠ v1.ownBlock := by
        intro k hk hlt
        rcases hat' with hat | ⟨b, hb, hle⟩
        · rw [hat]; exact hk
        · rw [hb]
          intro he
          injection he with he
          omega
      have step : ∀ {q : α} {c : List Value} {o : Nat → Prop}, d.M W base o q c → (∀ k, o k → ok k ∧ some k ≠ v.ownBlock) → d.M w1 base (fun k => ok k ∧ some k ≠ v1.ownBlock) q c := by
        intro q c o hq ho
        have h1 := d.M_move (w1 := w1) (fun k hk => hg.block k hk.2.2.1 (ho k hk.1).2) (d.M_bound hq)
        exact d.M_mono (fun k hk => ⟨(ho k hk.1).1, hne k (ho k hk.1).2 hk.2.2.1⟩) h1
      refine ⟨v1, w1, hrun, ⟨fun k hk => ?_, inner ++ news, by rw [List.length_append, hm]; exact h2, reps_append (hr.imp_ (fun _ _ hq => step hq (fun _ hk => hk))) (hnM.imp_ (fun _ _ hq => step hq hokp))⟩, hg, hat'⟩
      rcases hat' with hat | ⟨b, hb, hle⟩
      · exact hok k (hat ▸ hk)
      · rw [hb] at hk
        injection hk with hk
        exact hfresh k (by omega)
  obtain ⟨v1, w1, hr1, h1, hg, hat⟩ := hrun
  refine wpList_plain hgd fun K hK => ?_
  unfold Oper.wp execOp
  simp only [ho, resolve, invoke, builtin, Sem.run_bind, Sem.run_pure, Result.andThen_ok, List.map_toArray, List.map_cons, List.map_nil, hs, hx, hr1]
  exact hK _ _ (h v1 w1 h1 (HB.grown hg hbase (own_base hown)) hg hat)
end
end Kd
/-! ### 33. A store into a row of one's own, as_ an event: no go_simp -/
theorem run_store_run {P : Program} {w : World} {g o : Nat} {e : TypeId} {cur : Array Value} (t : TypeId) (u : Value) (seg : List Value) (hh : w.heap[g]? = some (.cells cur e (0, 0))) (hu : u.cells.toList = seg) (ht : (P.info? t).map (·.size) = some seg.length)
    (hfit : o + seg.length ≤ cur.size) (h1 : ∀ q ∈ seg, q.oneCell' = true) : (Instr.storeAt t (.pointer (some ⟨g, o, none⟩)) u).run P w = .ok () (w.setCells g o seg) := by
  obtain ⟨i, hi, hsz⟩ := Option.map_eq_some_iff.1 ht
  have hc : u.cells.size = i.size := by rw [hsz, ← hu, Array.length_toList]
  have hst := run_storeCells_cells (P := P) g o seg 0 w (fun j hj => by rw [cell_of_row w g _ cur e (0, 0) hh]; simp; omega) (fun j _ => blk_frozen hh _) h1
  simp only [Nat.add_zero] at hst
  simp [Instr.storeAt, Instr.sureAddr, storeVar, sizeOf, typeInfo, hi, hc, hu, hst]
namespace Kd
section
variable {P : Program} {ops : Array Oper} {rest : List Oper} {o : Oper} {a : Act} {Q : Exit → Act → World → Prop} {α : Type}
/-- out[i].f = u, out[i] = T{..}: the cells from j on of element i are written. The row, its neighbours, the world as_ letters. -/
theorem R_store (d : Kd α) {w0 W : World} (base : Nat) (hN : o.dst = none) (hgd : o.guard = none) (t : TypeId) (p x : Operand) (ho : o.op = .store t p x) (e : TypeId) {g n cap o' : Nat} (i : Int) (j : Nat) (xs : List α) (x' : α) (u : Value) (seg c : List Value) (ok okp : Nat → Prop)
    (haddr : a.eval p = .pointer (some ⟨g, o', none⟩)) (hoff : o' = i.toNat * d.sz + j) (hx : a.eval x = u) (hu : u.cells.toList = seg) (ht : (P.info? t).map (·.size) = some seg.length) (h1 : ∀ q ∈ seg, q.oneCell' = true)
    (HO : d.R e W base ok (.slice (some ⟨g, 0, none⟩) n cap) xs) (h0 : 0 ≤ i) (hi : i < n) (hcl : c.length = d.sz) (hcc : ∀ j u, c[j]? = some u → W.cell? ⟨g, i.toNat * d.sz + j, none⟩ = some u)
    (hj : j + seg.length ≤ d.sz) (hM : d.M W base okp x' (c.take j ++ seg ++ c.drop (j + seg.length))) (hokp : ∀ k, okp k → ok k ∧ k ≠ g) (HB : Below base w0 W)
    (h : ∀ w1, d.R e w1 base ok (.slice (some ⟨g, 0, none⟩) n cap) (xs.set i.toNat x') → Below base w0 w1 → W.grownBy w1 (some g) → wpList P ops Q rest a w1) : wpList P ops Q (o :: rest) a W := by
  subst hoff
  obtain ⟨hrow, hg⟩ := R_seg HO i h0 hi hcl hcc hj hM hokp
  have hbg : base ≤ g := R_base HO g (by simp [Value.ownBlock])
  have hnx : n = xs.length := (R_reads' HO).1
  obtain ⟨_, inner, hown, hr⟩ := HO
  have hil : i.toNat < n := by omega
  have hB : Below base w0 (W.setCells g (i.toNat * d.sz + j) seg) := HB.trans ⟨hg.os, hg.tape, hg.output, hg.size, fun k hk => by
    have hlt : k < W.heap.size ∨ W.heap.size ≤ k := Nat.lt_or_ge _ _
    rcases hlt with hlt | hge
    · exact hg.block k hlt (fun he => by injection he with he; omega)
    · exact setCells_far seg _ k (by omega)⟩
  refine wpList_plain hgd fun K hK => ?_
  have hrun : (Instr.storeAt t (.pointer (some ⟨g, i.toNat * d.sz + j, none⟩)) u).run P W = .ok () (W.setCells g (i.toNat * d.sz + j) seg) := by
    rcases hown.2 with ⟨hv, _⟩ | ⟨g', cap', cur, hv, hb, hh, hnc, hcm, hcs, _⟩
    · cases hv
    injection hv with ha _ hc
    injection ha with ha
    injection ha with hg'
    subst hg'; subst hc
    refine run_store_run t u seg hh hu ht ?_ h1
    have h2 : i.toNat * d.sz + d.sz ≤ n * d.sz := by rw [← Nat.succ_mul]; exact Nat.mul_le_mul_right _ hil
    have h3 : n * d.sz ≤ cap * d.sz := Nat.mul_le_mul_right _ (by omega)
    omega
  unfold Oper.wp execOp
  simp only [ho, haddr, hx, Sem.run_bind, Sem.run_pure, Result.andThen_ok, hrun]
  show K (a.put o.dst undef) _
  rw [hN]
  exact hK a _ (h _ hrow hB hg)
end
end Kd
/-! ### 34. Cuts that are only read, of any row -/
theorem add_add (a : Addr) (i j : Nat) : (a.add i).add j = a.add (i + j) := by
  unfold Addr.add
  by_cases h1 : i = 0 <;> by_cases h2 : j = 0 <;> simp [h1, h2, Nat.add_assoc]
namespace Kd
section
variable {α : Type} {k : Kd α} {w : World} {A : Option Addr} {xs : List α} {m c : Nat}
theorem C_take (h : k.C w A xs.length xs) (hm : m ≤ xs.length) : k.C w A (xs.take m).length (xs.take m) := by
  have hl : (xs.take m).length = m := by rw [List.length_take]; omega
  refine ⟨rfl, by rw [hl]; have := h.2.1; omega, fun hp => ?_⟩
  obtain ⟨ad, e, hc⟩ := h.2.2 (by omega)
  refine ⟨ad, e, fun j p hj => hc j p ?_⟩
  rw [List.getElem?_take] at hj
  split at hj
  · exact hj
  · cases hj
theorem C_drop (h : k.C w A xs.length xs) (hm : m ≤ xs.length) (hc : xs.length ≤ c) : k.C w (if c = m then A else A.map (·.add (m * k.sz))) (xs.drop m).length (xs.drop m) := by
  have hl : (xs.drop m).length = xs.length - m := List.length_drop
  refine ⟨rfl, by rw [hl]; have := h.2.1; omega, fun hp => ?_⟩
  rw [hl] at hp
  obtain ⟨ad, rfl, hcell⟩ := h.2.2 (by omega)
  rw [if_neg (by omega)]
  refine ⟨ad.add (m * k.sz), rfl, fun j p hj => ?_⟩
  rw [List.getElem?_drop] at hj
  obtain ⟨cs, h1, h2, h3⟩ := hcell (m + j) p hj
  refine ⟨cs, h1, h2, fun i u hu => ?_⟩
  rw [add_add, show m * k.sz + (j * k.sz + i) = (m + j) * k.sz + i by rw [Nat.add_mul]; omega]
  exact h3 i u hu
end
end Kd
section
variable {P : Program}
end
/-! ### 35. string(b), b read (a cut too) -/
theorem string_of_reads {P : Program} {w : World} {src dst e : TypeId} {A : Option Addr} {n c : Nat} {xs : List Int} (hs : P.underlying src = some (.slice e)) (he : P.underlying e = some (.int .u8)) (hd : P.underlying dst = some .string)
    (h : ReadsInt w .u8 A n xs) : (convert src dst (.slice A n c)).run P w = .ok (.string (strOfNums xs)) w := by
  have hn : xs.length = n := h.1
  rcases A with _ | ad
  · have h0 : n = 0 := by
      rcases Nat.eq_zero_or_pos n with h0 | h0
      · exact h0
      · obtain ⟨ad, h', _⟩ := h.2.2 h0
        cases h'
    subst h0
    obtain rfl : xs = [] := List.eq_nil_of_length_eq_zero hn
    exact run_convert_bytes_nil w src e hs he 0 c dst hd
  · have hl : (loadCells ad n).run P w = .ok (xs.map (Value.int .u8)).toArray w := by
      have := run_loadCells_list (P := P) w ad (xs.map (Value.int .u8)) (fun j v hj => by
        have hjl : j < xs.length := by
          rcases Nat.lt_or_ge j xs.length with h' | h'
          · exact h'
          · rw [List.getElem?_eq_none (by rw [List.length_map]; exact h')] at hj
            cases hj
        obtain ⟨ad', he', hc⟩ := h.2.2 (by omega)
        injection he' with he'
        subst he'
        rw [hc j (by omega)]
        rw [List.getElem?_map, List.getElem?_eq_getElem hjl] at hj
        simp at hj
        subst hj
        simp [List.getD_eq_getElem?_getD, List.getElem?_eq_getElem hjl])
      simpa [hn] using this
    rw [run_convert_bytes_string w src dst e _ n c hs he hd, run_bytesToString w ad n c xs hl, foldl_push_bytes]
    simp [strOfNums, ByteArray.empty, ByteArray.emptyWithCapacity]
    rfl
theorem Kd.C_string {P : Program} {w : World} {src dst e : TypeId} {A : Option Addr} {n c : Nat} {xs : List Int} (hs : P.underlying src = some (.slice e)) (he : P.underlying e = some (.int .u8)) (hd : P.underlying dst = some .string)
    (h : (Kd.int .u8).C w A n xs) : (convert src dst (.slice A n c)).run P w = .ok (.string (strOfNums xs)) w :=
  string_of_reads hs he hd (Kd.reads_of_C (enc := Value.int .u8) (d := (0 : Int)) (h1 := fun _ => rfl) h)
/-! ### 6. What the printer adds -/
theorem below_size {w W : World} (h : Below w.heap.size w W) : w.heap.size ≤ W.heap.size := h.size
namespace Kd
section
variable {α β : Type} {d : Kd α} {d' : Kd β} {e e' base base' n : Nat} {ok ok' : Nat → Prop} {w W w1 W1 : World} {v u : Value} {xs : List α} {ys : List β} {A : Option Addr} {c : Nat}
end
section
variable {α : Type} {enc : α → Value} {h1 : ∀ x, (enc x).oneCell' = true} {w W : World} {A : Option Addr} {n g : Nat} {xs : List α}
end
end Kd
namespace Kd
section
variable {α : Type} {d : Kd α} {e base g : Nat} {ok : Nat → Prop} {w w1 : World} {v : Value} {xs : List α} {o : Obj}
end
end Kd
section
variable {P : Program} {ops : Array Oper} {rest : List Oper} {o : Oper} {a : Act} {Q : Exit → Act → World → Prop}
end
namespace Kd
section
variable {α : Type} {enc : α → Value} {h1 : ∀ x, (enc x).oneCell' = true} {e base g n cap : Nat} {ok : Nat → Prop} {W : World} {xs : List α}
theorem R_putn (h : (scalar enc h1).R e W base ok (.slice (some ⟨g, 0, none⟩) n cap) xs) (i : Int) (x : α) : (scalar enc h1).R e (W.setCell ⟨g, i.toNat, none⟩ (enc x)) base ok (.slice (some ⟨g, 0, none⟩) n cap) (xs.set i.toNat x) := by
  obtain ⟨rfl, _⟩ := R_reads' h
  exact (R_put h i x).1
end
end Kd
section
variable {P : Program} {ops : Array Oper} {rest : List Oper} {o : Oper} {a : Act} {Q : Exit → Act → World → Prop}
end
namespace Kd
section
variable {α : Type} {enc : α → Value} {h1 : ∀ x, (enc x).oneCell' = true} {e base g n cap : Nat} {ok : Nat → Prop} {W : World} {xs : List α}
end
end Kd
section
variable {P : Program} {ops : Array Oper} {rest : List Oper} {o : Oper} {a : Act} {Q : Exit → Act → World → Prop} {W : World}
end
/-! ### 36. Events as_ one step of a region that draws (for one_, two_, three_) -/
section
variable {P : Program} {ops : Array Oper} {o : Oper} {a : Act} {Q : Exit → Act → World → Prop} {Kc : Act → World → Prop}
namespace Kd
variable {α : Type}
theorem R_append_rows_step (d : Kd α) {Rr : α → List Value → Prop} {w0 W : World} (base : Nat) (hw : Region.wanted o (yielded ops a.tmps) = true) (s x : Operand) (t e : TypeId) (z : Value) (bytes : Nat)
    (ho : o.op = .call { callee := .builtin .append, args := #[s, x], argTypes := #[t, t] })
    (ht : P.underlying t = some (.slice e)) (hinfo : (P.info? e).map (fun i => (i.zero, i.size, i.bytes)) = some (some z, d.sz, bytes)) (hz : z.cells.size = d.sz) (hs0 : 0 < d.sz) (hb0 : 0 < bytes)
    (v : Value) (xs ys : List α) (A : Option Addr) (m c : Nat) (ok okp : Nat → Prop) (hs : a.eval s = v) (hx : a.eval x = .slice A m c)
    (HO : d.R e W base ok v xs) (HR : ReadsRow Rr d.sz W A m ys) (hKM : ∀ x cs, Rr x cs → d.M W base okp x cs) (hokp : ∀ k, okp k → ok k ∧ some k ≠ v.ownBlock) (hfresh : ∀ k, W.heap.size ≤ k → ok k)
    (HB : Below base w0 W) (hbase : base ≤ W.heap.size) (hl : (xs.length + m) * bytes ≤ 140737488355328)
    (h : ∀ v1 w1, d.R e w1 base ok v1 (xs ++ ys) → Below base w0 w1 → W.grownBy w1 v.ownBlock → (v1.ownBlock = v.ownBlock ∨ ∃ b, v1.ownBlock = some b ∧ W.heap.size ≤ b) → Kc (a.put o.dst v1) w1) :
    if Region.wanted o (yielded ops a.tmps) = true then Oper.wp P o a W Kc Q else Kc (a.put o.dst undef) W := by
  obtain ⟨i0, hi, hzz⟩ := Option.map_eq_some_iff.1 hinfo
  simp only [Prod.mk.injEq] at hzz
  obtain ⟨hz0, hz1, hz2⟩ := hzz
  have hm : ys.length = m := HR.1
  have hlen : xs.length + m ≤ 140737488355328 := Nat.le_trans (Nat.le_mul_of_pos_right _ hb0) hl
  obtain ⟨hok, inner, hown, hr⟩ := HO
  have hrun : ∃ v1 w1, (Builtin.append_ #[t, t] o.type #[v, .slice A m c]).run P W = .ok v1 w1 ∧ d.R e w1 base ok v1 (xs ++ ys) ∧ W.grownBy w1 v.ownBlock ∧ (v1.ownBlock = v.ownBlock ∨ ∃ b, v1.ownBlock = some b ∧ W.heap.size ≤ b) := by
    rcases A with _ | ad
    · have h0 : m = 0 := by
        rcases Nat.eq_zero_or_pos m with h0 | h0
        · exact h0
        · obtain ⟨ad, h, _⟩ := HR.2.2 h0
          cases h
      subst h0
      obtain rfl : ys = [] := List.eq_nil_of_length_eq_zero hm
      refine ⟨v, W, ?_, by rw [List.append_nil]; exact ⟨hok, inner, hown, hr⟩, World.grownBy.refl W _, .inl rfl⟩
      rcases hown.2 with ⟨rfl, hn⟩ | ⟨g, cap, cur, rfl, _, _, hnc, _⟩
      · simp [Builtin.append_, run_underlying ht, sizeOf, typeInfo, hi, Builtin.lenOf, Builtin.firstCells]
      · simp [Builtin.append_, run_underlying ht, sizeOf, typeInfo, hi, Builtin.lenOf, Builtin.firstCells, hnc, storeCells]
    · obtain ⟨news, hnr, hnc⟩ := ReadsRow.inner_ HR
      have hnM : Reps (d.M W base okp) d.sz ys news := hnr.imp_ (fun p c hp => hKM p c hp)
      have hone : ∀ u ∈ news, u.oneCell' = true := by
        intro u hu
        obtain ⟨q, hq, rfl⟩ := List.mem_iff_getElem.1 hu
        have hql : q / d.sz < ys.length := by
          rw [Nat.div_lt_iff_lt_mul hs0]
          rw [← hnM.1]
          exact hq
        have hc := hnM.2 (q / d.sz) _ (List.getElem?_eq_getElem hql)
        refine d.K_one (d.K_of_M hc) _ ?_
        rw [List.mem_iff_getElem?]
        refine ⟨q % d.sz, ?_⟩
        rw [List.getElem?_take, if_pos (Nat.mod_lt _ hs0), List.getElem?_drop, Nat.mul_comm, Nat.div_add_mod, List.getElem?_eq_getElem hq]
      obtain ⟨v1, w1, hrun, h2, hg, _, hat⟩ := run_append_own_at (P := P) W base t o.type e i0 z d.sz bytes ht hi hz0 hz1 hz2 hz hs0 v xs.length inner hown ad m c news (by rw [hnM.1, hm]) hnc hone (by simp only [maxLen]; omega) hl hbase
      have hat' : v1.ownBlock = v.ownBlock ∨ ∃ b, v1.ownBlock = some b ∧ W.heap.size ≤ b := by
        rcases hat with hat | hat
        · exact .inl hat
        · exact .inr ⟨_, hat, Nat.le_refl _⟩
      have hne : ∀ k, some k ≠ v.ownBlock → k < W.heap.size → some k ≠ v1.ownBlock := by
        intro k hk hlt
        rcases hat' with hat | ⟨b, hb, hle⟩
        · rw [hat]; exact hk
        · rw [hb]
          intro he
          injection he with he
          omega
      have step : ∀ {q : α} {c : List Value} {o : Nat → Prop}, d.M W base o q c → (∀ k, o k → ok k ∧ some k ≠ v.ownBlock) → d.M w1 base (fun k => ok k ∧ some k ≠ v1.ownBlock) q c := by
        intro q c o hq ho
        have h1 := d.M_move (w1 := w1) (fun k hk => hg.block k hk.2.2.1 (ho k hk.1).2) (d.M_bound hq)
        exact d.M_mono (fun k hk => ⟨(ho k hk.1).1, hne k (ho k hk.1).2 hk.2.2.1⟩) h1
      refine ⟨v1, w1, hrun, ⟨fun k hk => ?_, inner ++ news, by rw [List.length_append, hm]; exact h2, reps_append (hr.imp_ (fun _ _ hq => step hq (fun _ hk => hk))) (hnM.imp_ (fun _ _ hq => step hq hokp))⟩, hg, hat'⟩
      rcases hat' with hat | ⟨b, hb, hle⟩
      · exact hok k (hat ▸ hk)
      · rw [hb] at hk
        injection hk with hk
        exact hfresh k (by omega)
  obtain ⟨v1, w1, hr1, h1, hg, hat⟩ := hrun
  rw [if_pos hw]
  unfold Oper.wp execOp
  simp only [ho, resolve, invoke, builtin, Sem.run_bind, Sem.run_pure, Result.andThen_ok, List.map_toArray, List.map_cons, List.map_nil, hs, hx, hr1]
  exact h v1 w1 h1 (HB.grown hg hbase (own_base hown)) hg hat
end Kd
end
/-! ### 37. Results of any shape -/
section
variable {P : Program} {tmps : Array Value} {w : World}
end
/-! ### 38. 'out = append(out[:k], out[k+1:]...)': an element taken out of a row of one's own, in place -/
namespace Kd
section
variable {P : Program} {α : Type}
end
section
variable {P : Program} {ops : Array Oper} {rest : List Oper} {o : Oper} {a : Act} {Q : Exit → Act → World → Prop} {Kc : Act → World → Prop} {α : Type}
end
end Kd

end Go.Proofs.YtfpfnolpoklefaaGreatDoorW.PrintWords
/-
  PRINTED WORDS, second file: A REGION THAT DRAWS ITS ORDER, WALKED BY HAND, where its last store writes what its own loads read ('x.f = append(x.f, f(i))'). Plain theorems; no macro, no elab. A claim may hold it (turn the namespace's name).
  A load may be taken first in every world that meets S; behind the operations of ds nothing is shown; sound because each of ds waits for what is taken (Region.lastB). The kernel checks it.
  By an AI agent of Go's test side, Mon Nov 16 2026. No person has read it.
-/
namespace Go.Proofs.YtfpfnolpoklefaaGreatDoorW.PrintLast

section
variable {P : Program} {ops : Array Oper} {Q : Exit → Act → World → Prop} {md : Region.Mode} {S : World → Prop} {ds : List Nat}

/-- Operation d waits for operation i, by a chain of at most 'fuel' edges. -/
def Region.reachB (md : Region.Mode) (ops : Array Oper) (i : Nat) : Nat → Nat → Bool
  | 0, _ => false
  | fuel + 1, d => match ops[d]? with
    | some o => o.after.any fun e => Region.binds md e && (e.on == i || Region.reachB md ops i fuel e.on)
    | none => false

/-- What is listed is closed under the edges. -/
def Region.closedB (md : Region.Mode) (ops : Array Oper) (listed : Array Bool) : Bool :=
  (List.range ops.size).all fun j => !listed.getD j false || match ops[j]? with
    | some o => o.after.all fun e => !Region.binds md e || listed.getD e.on false
    | none => true

/-- Each of ds that has not come up yet waits for number i. -/
def Region.lastB (md : Region.Mode) (ops : Array Oper) (listed : Array Bool) (ds : List Nat) (i : Nat) : Bool :=
  ds.all fun d => listed.getD d true || Region.reachB md ops i ops.size d

def ListedClosed (md : Region.Mode) (ops : Array Oper) (listed : Array Bool) : Prop :=
  ∀ j oj, ops[j]? = some oj → listed.getD j false = true → ∀ e ∈ oj.after, Region.binds md e = true → listed.getD e.on false = true

theorem Region.closedB_spec {listed : Array Bool} (h : Region.closedB md ops listed = true) : ListedClosed md ops listed := by
  intro j oj hj hl e he hb
  have hlt : j < ops.size := (Array.getElem?_eq_some_iff.1 hj).1
  have h1 := List.all_eq_true.1 h j (List.mem_range.2 hlt)
  simp only [hl, hj, Bool.not_true, Bool.false_or] at h1
  have h2 := Array.all_eq_true_iff_forall_mem.1 h1 e he
  simpa [hb] using h2

theorem ListedClosed.set {listed : Array Bool} {i : Nat} (h : ListedClosed md ops listed) (hi : i ∈ Region.ready md ops listed) : ListedClosed md ops (listed.setIfInBounds i true) := by
  obtain ⟨_, oi, hoi, hall⟩ := mem_ready.1 hi
  intro j oj hj hl e he hb
  by_cases hij : i = j
  · subst hij
    have : oj = oi := Option.some.inj (hj.symm.trans hoi)
    subst this
    exact getD_set_true (hall e he hb)
  · rw [getD_set_ne false hij] at hl
    exact getD_set_true (h j oj hj hl e he hb)

theorem Region.reach_listed {listed : Array Bool} {i : Nat} (hc : ListedClosed md ops listed) : ∀ (fuel d : Nat), Region.reachB md ops i fuel d = true → listed.getD d false = true → listed.getD i false = true
  | 0, _, h, _ => by simp [Region.reachB] at h
  | fuel + 1, d, h, hl => by
    unfold Region.reachB at h
    cases ho : ops[d]? with
    | none => rw [ho] at h; simp at h
    | some o =>
      rw [ho] at h
      obtain ⟨e, he, h1⟩ := Array.any_eq_true'.1 h
      simp only [Bool.and_eq_true, Bool.or_eq_true, beq_iff_eq] at h1
      have hle := hc d o ho hl e he h1.1
      rcases h1.2 with h2 | h2
      · rw [← h2]; exact hle
      · exact Region.reach_listed hc fuel e.on h2 hle

/-- What waits for i cannot come up before i is listed. -/
theorem Region.reach_not_ready {listed : Array Bool} {i d fuel : Nat} (hc : ListedClosed md ops listed) (hr : Region.reachB md ops i fuel d = true) (hun : listed.getD i true = false) : d ∉ Region.ready md ops listed := by
  intro hd
  obtain ⟨_, o, ho, hall⟩ := mem_ready.1 hd
  have hi : listed.getD i false = true := by
    cases fuel with
    | zero => simp [Region.reachB] at hr
    | succ n =>
      unfold Region.reachB at hr
      rw [ho] at hr
      obtain ⟨e, he, h1⟩ := Array.any_eq_true'.1 hr
      simp only [Bool.and_eq_true, Bool.or_eq_true, beq_iff_eq] at h1
      have hle := hall e he h1.1
      rcases h1.2 with h2 | h2
      · rw [← h2]; exact hle
      · exact Region.reach_listed hc n e.on h2 hle
  rcases Nat.lt_or_ge i listed.size with h' | h'
  · simp [h'] at hun hi
    rw [hun] at hi
    cases hi
  · simp [Array.getElem?_eq_none h'] at hun

/-- Whatever order is picked from here on, AND 'S' HOLDS BEHIND EVERY OPERATION THAT IS CARRIED OUT, those of ds apart. -/
def wpAnyLast (P : Program) (md : Region.Mode) (ops : Array Oper) (Q : Exit → Act → World → Prop) (S : World → Prop) (ds : List Nat) : Nat → Array Bool → Act → World → Prop
  | 0, listed, a, w => Region.ready md ops listed = [] ∧ Q .normal a w
  | fuel + 1, listed, a, w =>
    (Region.ready md ops listed = [] → Q .normal a w) ∧
    ∀ i ∈ Region.ready md ops listed, wpOp P ops Q i (fun a' w' => (i ∉ ds → S w → S w') ∧ wpAnyLast P md ops Q S ds fuel (listed.setIfInBounds i true) a' w') a w

theorem wpAny_of_last : ∀ (fuel : Nat) (listed : Array Bool) (a : Act) (w : World), wpAnyLast P md ops Q S ds fuel listed a w → wpAny P md ops Q fuel listed a w
  | 0, _, _, _, h => h
  | fuel + 1, _, _, _, h => ⟨h.1, fun i hi => wpOp_mono (fun a' w' h' => wpAny_of_last fuel _ a' w' h'.2) (h.2 i hi)⟩

theorem wpAnyLast_first {i : Nat} {oi : Oper} {v : Value} (hi : ops[i]? = some oi) (hsel : ∀ (j : Nat) (o : Oper) cs b, ops[j]? = some o → o.op ≠ .select cs b)
    (hQ : ∀ c a w, Q (.panic c) (a.put oi.dst v) w → Q (.panic c) a w) (n : Nat) :
    ∀ (fuel : Nat) (listed : Array Bool) (a : Act) (w : World),
      (∀ j oj, ops[j]? = some oj → j ≠ i → listed.getD j true = false → (∀ e ∈ oj.after, Region.binds md e = true → e.on ≠ i) → oi.apart ops oj = true) →
      ListedClosed md ops listed → (∀ d ∈ ds, listed.getD d true = false → Region.reachB md ops i n d = true) →
      i ∈ Region.ready md ops listed → YieldsIf P ops S oi v a → S w →
      wpAnyLast P md ops Q S ds fuel (listed.setIfInBounds i true) (a.put oi.dst v) w → wpAnyLast P md ops Q S ds (fuel + 1) listed a w := by
  intro fuel
  induction fuel with
  | zero =>
    intro listed a w _ _ _ hr hy hS H
    refine ⟨fun h => (by rw [h] at hr; cases hr), fun j hj => ?_⟩
    by_cases hji : j = i
    · subst hji; exact hy.wpOp hi hS ⟨fun _ h => h, H⟩
    · have := ready_mono hj hji
      rw [H.1] at this
      cases this
  | succ fuel ih =>
    intro listed a w hfree hc hd hr hy hS H
    refine ⟨fun h => (by rw [h] at hr; cases hr), fun j hj => ?_⟩
    by_cases hji : j = i
    · subst hji; exact hy.wpOp hi hS ⟨fun _ h => h, H⟩
    · have h1 := H.2 j (ready_mono hj hji)
      obtain ⟨hjun, oj, hoj, hall⟩ := mem_ready.1 hj
      have hiun := (mem_ready.1 hr).1
      have hnot : ∀ e ∈ oj.after, Region.binds md e = true → e.on ≠ i := fun e he hb heq => by
        have h1 := hall e he hb
        rw [heq] at h1
        rcases Nat.lt_or_ge i listed.size with h' | h'
        · simp [h'] at hiun h1; rw [hiun] at h1; cases h1
        · simp [Array.getElem?_eq_none h'] at h1
      have hjd : j ∉ ds := fun hm => Region.reach_not_ready hc (hd j hm hjun) hiun hj
      have h2 := wpOp_putIf hoj (hfree j oj hoj hji hjun hnot) (fun cs b => hsel i oi cs b hi) (fun cs b => hsel j oj cs b hoj) hQ hy h1
      have hfree' : ∀ k ok, ops[k]? = some ok → k ≠ i → (listed.setIfInBounds j true).getD k true = false →
          (∀ e ∈ ok.after, Region.binds md e = true → e.on ≠ i) → oi.apart ops ok = true := fun k ok hk hki hun hno => by
        refine hfree k ok hk hki ?_ hno
        by_cases hjk : j = k
        · subst hjk; exact hjun
        · rw [getD_set_ne true hjk] at hun; exact hun
      have hd' : ∀ d ∈ ds, (listed.setIfInBounds j true).getD d true = false → Region.reachB md ops i n d = true := fun d hm hun => by
        refine hd d hm ?_
        by_cases hjk : j = d
        · subst hjk; exact hjun
        · rw [getD_set_ne true hjk] at hun; exact hun
      refine wpOp_mono (fun a' w' h3 => ⟨h3.2.1, ih (listed.setIfInBounds j true) a' w' hfree' (hc.set hj) hd' (ready_mono hr (Ne.symm hji)) h3.1 (h3.2.1 hjd hS) ?_⟩) h2
      rw [Array.setIfInBounds_comm _ _ hji]
      exact h3.2.2

/-- Take number 'i' first, which yields whatever the world: no S is asked for, nor that anything waits for it. -/
theorem wpAnyLast_any {i : Nat} {oi : Oper} {v : Value} (hi : ops[i]? = some oi) (hsel : ∀ (j : Nat) (o : Oper) cs b, ops[j]? = some o → o.op ≠ .select cs b)
    (hQ : ∀ c a w, Q (.panic c) (a.put oi.dst v) w → Q (.panic c) a w) :
    ∀ (fuel : Nat) (listed : Array Bool) (a : Act) (w : World),
      (∀ j oj, ops[j]? = some oj → j ≠ i → listed.getD j true = false → (∀ e ∈ oj.after, Region.binds md e = true → e.on ≠ i) → oi.apart ops oj = true) →
      i ∈ Region.ready md ops listed → Yields P ops oi v a →
      wpAnyLast P md ops Q S ds fuel (listed.setIfInBounds i true) (a.put oi.dst v) w → wpAnyLast P md ops Q S ds (fuel + 1) listed a w := by
  intro fuel
  induction fuel with
  | zero =>
    intro listed a w _ hr hy H
    refine ⟨fun h => (by rw [h] at hr; cases hr), fun j hj => ?_⟩
    by_cases hji : j = i
    · subst hji; exact (hy.yieldsIf (S := fun _ => True)).wpOp hi trivial ⟨fun _ h => h, H⟩
    · have := ready_mono hj hji
      rw [H.1] at this
      cases this
  | succ fuel ih =>
    intro listed a w hfree hr hy H
    refine ⟨fun h => (by rw [h] at hr; cases hr), fun j hj => ?_⟩
    by_cases hji : j = i
    · subst hji; exact (hy.yieldsIf (S := fun _ => True)).wpOp hi trivial ⟨fun _ h => h, H⟩
    · have h1 := H.2 j (ready_mono hj hji)
      obtain ⟨hjun, oj, hoj, hall⟩ := mem_ready.1 hj
      have hiun := (mem_ready.1 hr).1
      have hnot : ∀ e ∈ oj.after, Region.binds md e = true → e.on ≠ i := fun e he hb heq => by
        have h1 := hall e he hb
        rw [heq] at h1
        rcases Nat.lt_or_ge i listed.size with h' | h'
        · simp [h'] at hiun h1; rw [hiun] at h1; cases h1
        · simp [Array.getElem?_eq_none h'] at h1
      have h2 := wpOp_put hoj (hfree j oj hoj hji hjun hnot) (fun cs b => hsel i oi cs b hi) (fun cs b => hsel j oj cs b hoj) hQ hy h1
      have hfree' : ∀ k ok, ops[k]? = some ok → k ≠ i → (listed.setIfInBounds j true).getD k true = false →
          (∀ e ∈ ok.after, Region.binds md e = true → e.on ≠ i) → oi.apart ops ok = true := fun k ok hk hki hun hno => by
        refine hfree k ok hk hki ?_ hno
        by_cases hjk : j = k
        · subst hjk; exact hjun
        · rw [getD_set_ne true hjk] at hun; exact hun
      refine wpOp_mono (fun a' w' h3 => ⟨h3.2.1, ih (listed.setIfInBounds j true) a' w' hfree' (ready_mono hr (Ne.symm hji)) h3.1 ?_⟩) h2
      rw [Array.setIfInBounds_comm _ _ hji]
      exact h3.2.2

/-- Take number 'i' first. -/
theorem wpAnyLast_take {i : Nat} {oi : Oper} {v : Value} {fuel : Nat} {listed : Array Bool} {a : Act} {w : World} (hi : ops[i]? = some oi)
    (hs : Region.noSelect ops = true) (hf : Region.free md ops listed i = true) (hr : (Region.ready md ops listed).contains i = true)
    (hc : Region.closedB md ops listed = true) (hl : Region.lastB md ops listed ds i = true)
    (hQ : ∀ c a w, Q (.panic c) (a.put oi.dst v) w → Q (.panic c) a w) (hy : YieldsIf P ops S oi v a) (hS : S w)
    (h : wpAnyLast P md ops Q S ds fuel (listed.setIfInBounds i true) (a.put oi.dst v) w) : wpAnyLast P md ops Q S ds (fuel + 1) listed a w :=
  wpAnyLast_first hi (Region.noSelect_spec hs) hQ ops.size fuel listed a w (Region.free_spec hi hf) (Region.closedB_spec hc)
    (fun d hm hun => by have := List.all_eq_true.1 hl d hm; rw [hun] at this; simpa using this) (by simpa using hr) hy hS h

theorem wpAnyLast_all {rs : List Nat} {fuel : Nat} {listed : Array Bool} {a : Act} {w : World} (hr : Region.ready md ops listed = rs) (hne : rs ≠ [])
    (h : ∀ i ∈ rs, wpOp P ops Q i (fun a' w' => (i ∉ ds → S w → S w') ∧ wpAnyLast P md ops Q S ds fuel (listed.setIfInBounds i true) a' w') a w) : wpAnyLast P md ops Q S ds (fuel + 1) listed a w :=
  ⟨fun h0 => absurd (hr ▸ h0) hne, hr ▸ h⟩

theorem wpAnyLast_done {listed : Array Bool} {a : Act} {w : World} (hr : Region.ready md ops listed = []) (h : Q .normal a w) :
    ∀ fuel, wpAnyLast P md ops Q S ds fuel listed a w
  | 0 => ⟨hr, h⟩
  | _ + 1 => ⟨fun _ => h, by rw [hr]; simp⟩

theorem wp_region_last {id : Nat} {a : Act} {w : World} (hm : P.follows .mixedOrders = true)
    (h : wpAnyLast P .any ops Q S ds ops.size (Array.replicate ops.size false) a { w with drawn := w.drawn + 1 }) : (Code.region id ops true).wp P Q a w :=
  wp_region_any hm (wpAny_of_last _ _ _ _ h)

end

section
variable {P : Program} {ops : Array Oper} {Q : Exit → Act → World → Prop} {md : Region.Mode} {S : World → Prop} {ds : List Nat}

def AllReadyL (P : Program) (md : Region.Mode) (ops : Array Oper) (Q : Exit → Act → World → Prop) (S : World → Prop) (ds : List Nat) (fuel : Nat) (listed : Array Bool) (a : Act) (w : World) (rs : List Nat) : Prop :=
  ∀ i ∈ rs, wpOp P ops Q i (fun a' w' => (i ∉ ds → S w → S w') ∧ wpAnyLast P md ops Q S ds fuel (listed.setIfInBounds i true) a' w') a w
theorem AllReadyL.nil {fuel : Nat} {listed : Array Bool} {a : Act} {w : World} : AllReadyL P md ops Q S ds fuel listed a w [] := fun _ h => by cases h
theorem AllReadyL.cons {fuel : Nat} {listed : Array Bool} {a : Act} {w : World} {i : Nat} {o : Oper} {rs : List Nat} (ho : ops[i]? = some o) (hd : i ∉ ds)
    (h : ∀ K' : Act → World → Prop, Shut (∀ a w, S w → (S w → wpAnyLast P md ops Q S ds fuel (listed.setIfInBounds i true) a w) → K' a w) → if Region.wanted o (yielded ops a.tmps) = true then Oper.wp P o a w K' Q else K' (a.put o.dst undef) w)
    (hs : AllReadyL P md ops Q S ds fuel listed a w rs) : AllReadyL P md ops Q S ds fuel listed a w (i :: rs) := fun j hj => by
  rcases List.mem_cons.1 hj with rfl | hj
  · exact wpOp_step ho (fun K' hK => h K' (fun a w hS hW => hK a w ⟨fun _ _ => hS, hW hS⟩))
  · exact hs j hj
/-- Behind an operation of ds nothing is shown. -/
theorem AllReadyL.cons_last {fuel : Nat} {listed : Array Bool} {a : Act} {w : World} {i : Nat} {o : Oper} {rs : List Nat} (ho : ops[i]? = some o) (hd : i ∈ ds)
    (h : ∀ K' : Act → World → Prop, Shut (∀ a w, wpAnyLast P md ops Q S ds fuel (listed.setIfInBounds i true) a w → K' a w) → if Region.wanted o (yielded ops a.tmps) = true then Oper.wp P o a w K' Q else K' (a.put o.dst undef) w)
    (hs : AllReadyL P md ops Q S ds fuel listed a w rs) : AllReadyL P md ops Q S ds fuel listed a w (i :: rs) := fun j hj => by
  rcases List.mem_cons.1 hj with rfl | hj
  · exact wpOp_step ho (fun K' hK => h K' (fun a w hW => hK a w ⟨fun hn => absurd hd hn, hW⟩))
  · exact hs j hj
theorem wpAnyLast_ready {rs : List Nat} {fuel : Nat} {listed : Array Bool} {a : Act} {w : World} (hr : Region.ready md ops listed = rs) (hne : rs ≠ [])
    (h : AllReadyL P md ops Q S ds fuel listed a w rs) : wpAnyLast P md ops Q S ds (fuel + 1) listed a w := wpAnyLast_all hr hne h
/-- THE SAME STEPS WITH WHAT HAS COME UP WRITTEN OUT (a literal array of Bools) and one check a step: quicker, and what is printed stays short. -/
theorem start_ {id n : Nat} {a : Act} {w : World} (l : Array Bool) (hm : P.follows .mixedOrders = true) (hn : ops.size = n) (hl : Array.replicate n false = l) (hS : S w.drew)
    (h : S w.drew → wpAnyLast P .any ops Q S ds n l a w.drew) : (Code.region id ops true).wp P Q a w := by
  subst hn
  subst hl
  exact wp_region_last hm (h hS)
def takeB (md : Region.Mode) (ops : Array Oper) (ds : List Nat) (l l' : Array Bool) (i : Nat) : Bool :=
  Region.noSelect ops && Region.free md ops l i && (Region.ready md ops l).contains i && Region.closedB md ops l && Region.lastB md ops l ds i && (l.setIfInBounds i true == l')
theorem take_ {i : Nat} {N : Option Tmp} {oi : Oper} {v : Value} {fuel : Nat} {l : Array Bool} {a : Act} {w : World} (l' : Array Bool) (hi : ops[i]? = some oi) (hN : oi.dst = N) (hc : takeB md ops ds l l' i = true)
    (hQ : ∀ c a w, Q (.panic c) (a.put oi.dst v) w → Q (.panic c) a w) (hy : YieldsIf P ops S oi v a) (hS : S w) {a' : Act} (ha : a.put N v = a')
    (h : wpAnyLast P md ops Q S ds fuel l' a' w) : wpAnyLast P md ops Q S ds (fuel + 1) l a w := by
  subst ha
  subst hN
  simp only [takeB, Bool.and_eq_true, beq_iff_eq] at hc
  obtain ⟨⟨⟨⟨⟨h1, h2⟩, h3⟩, h4⟩, h5⟩, h6⟩ := hc
  subst h6
  exact wpAnyLast_take hi h1 h2 h3 h4 h5 hQ hy hS h
def anyB (md : Region.Mode) (ops : Array Oper) (l l' : Array Bool) (i : Nat) : Bool :=
  Region.noSelect ops && Region.free md ops l i && (Region.ready md ops l).contains i && (l.setIfInBounds i true == l')
/-- An operation that yields in every world (a move, a number, an address): taken first wherever it may come up, behind a store too. -/
theorem pure_ {i : Nat} {N : Option Tmp} {oi : Oper} {v : Value} {fuel : Nat} {l : Array Bool} {a : Act} {w : World} (l' : Array Bool) (hi : ops[i]? = some oi) (hN : oi.dst = N) (hc : anyB md ops l l' i = true)
    (hQ : ∀ c a w, Q (.panic c) (a.put oi.dst v) w → Q (.panic c) a w) (hy : Yields P ops oi v a) {a' : Act} (ha : a.put N v = a')
    (h : wpAnyLast P md ops Q S ds fuel l' a' w) : wpAnyLast P md ops Q S ds (fuel + 1) l a w := by
  subst ha
  subst hN
  simp only [anyB, Bool.and_eq_true, beq_iff_eq] at hc
  obtain ⟨⟨⟨h1, h2⟩, h3⟩, h6⟩ := hc
  subst h6
  exact wpAnyLast_any hi (Region.noSelect_spec h1) hQ fuel l a w (Region.free_spec hi h2) (by simpa using h3) hy h
def readyB (md : Region.Mode) (ops : Array Oper) (l l' : Array Bool) (i : Nat) : Bool := (Region.ready md ops l == [i]) && (l.setIfInBounds i true == l')
/-- One operation alone may come up now (a call, a build, an append ..): it is run, S is shown behind it. -/
theorem one_ {i : Nat} {N : Option Tmp} {oi : Oper} {fuel : Nat} {l : Array Bool} {a : Act} {w : World} (l' : Array Bool) (hi : ops[i]? = some oi) (hN : oi.dst = N) (hc : readyB md ops l l' i = true) (hd : i ∉ ds)
    (h : ∀ K : Act → World → Prop, Shut (∀ a' w', S w' → (S w' → wpAnyLast P md ops Q S ds fuel l' a' w') → K a' w') → if Region.wanted oi (yielded ops a.tmps) = true then Oper.wp P oi a w K Q else K (a.put N undef) w) :
    wpAnyLast P md ops Q S ds (fuel + 1) l a w := by
  subst hN
  simp only [readyB, Bool.and_eq_true, beq_iff_eq] at hc
  obtain ⟨h1, h2⟩ := hc
  subst h2
  exact wpAnyLast_ready h1 (by simp) (AllReadyL.cons hi hd (fun K hK => h K hK) AllReadyL.nil)
/-- The same for one of ds: nothing is shown behind it. -/
theorem last_ {i : Nat} {N : Option Tmp} {oi : Oper} {fuel : Nat} {l : Array Bool} {a : Act} {w : World} (l' : Array Bool) (hi : ops[i]? = some oi) (hN : oi.dst = N) (hc : readyB md ops l l' i = true) (hd : i ∈ ds)
    (h : ∀ K : Act → World → Prop, Shut (∀ a' w', wpAnyLast P md ops Q S ds fuel l' a' w' → K a' w') → if Region.wanted oi (yielded ops a.tmps) = true then Oper.wp P oi a w K Q else K (a.put N undef) w) :
    wpAnyLast P md ops Q S ds (fuel + 1) l a w := by
  subst hN
  simp only [readyB, Bool.and_eq_true, beq_iff_eq] at hc
  obtain ⟨h1, h2⟩ := hc
  subst h2
  exact wpAnyLast_ready h1 (by simp) (AllReadyL.cons_last hi hd (fun K hK => h K hK) AllReadyL.nil)
theorem done_ {l : Array Bool} {a : Act} {w : World} {n : Nat} (hr : (Region.ready md ops l == []) = true) (h : Q .normal a w) : wpAnyLast P md ops Q S ds n l a w := wpAnyLast_done (by simpa using hr) h n
/-! ### Several operations that write or call may come up: each order is walked, what follows is shown once (join_) -/
/-- The act written out. -/
theorem norm_ {fuel : Nat} {l : Array Bool} {a a' : Act} {w : World} (ha : a = a') (h : wpAnyLast P md ops Q S ds fuel l a' w) : wpAnyLast P md ops Q S ds fuel l a w := by
  subst ha
  exact h
/-- A call of a Go function, by its contract. -/
theorem call_ {oi : Oper} {N : Option Tmp} {a : Act} {w : World} {K : Act → World → Prop} (f : FuncId) (args : Array Value) (hw : Region.wanted oi (yielded ops a.tmps) = true) (hN : oi.dst = N) (hrun : (execOp a.eval oi).run P w = .ok (.enter f args) w)
    (h : Calls P f args w fun e w' => ∃ v, e = .returned v ∧ K (a.put N v) w') : if Region.wanted oi (yielded ops a.tmps) = true then Oper.wp P oi a w K Q else K (a.put N undef) w := by
  rw [if_pos hw]
  subst hN
  unfold Oper.wp
  rw [hrun, Oper.upon_enter]
  refine h.mono fun e w'' hh => ?_
  obtain ⟨v, rfl, hk⟩ := hh
  exact hk
theorem enters_ {f : FuncId} {fn : Func} (hf : P.funcs[f]? = some fn) (hname : (fn.name == "runtime.NumGoroutine") = false) (hb : fn.body.isSome = true) (args : Array Value) (w : World) : (callFunc f args).run P w = .ok (.enter f args) w := by
  have h1 : fn.name ≠ "runtime.NumGoroutine" := by simpa using hname
  obtain ⟨c, hc⟩ := Option.isSome_iff_exists.1 hb
  simp [callFunc, hf, h1, hc]
/-- The same, the operation's run shown here: 'goes_ A.func3 (by kernel_rfl) rfl #[..] (by rfl) rfl rfl (by rfl) ?_'. -/
theorem goes_ {oi : Oper} {N : Option Tmp} {a : Act} {w : World} {K : Act → World → Prop} {f : FuncId} {fn : Func} {as0 : Array Operand} {ts : Array TypeId} (hf : P.funcs[f]? = some fn) (hname : (fn.name == "runtime.NumGoroutine") = false) (hb : fn.body.isSome = true) (args : Array Value)
    (hw : Region.wanted oi (yielded ops a.tmps) = true) (hN : oi.dst = N) (hop : oi.op = .call { callee := .value (.func f), args := as0, argTypes := ts }) (hargs : as0.map a.eval = args)
    (h : Calls P f args w fun e w' => ∃ v, e = .returned v ∧ K (a.put N v) w') : if Region.wanted oi (yielded ops a.tmps) = true then Oper.wp P oi a w K Q else K (a.put N undef) w := by
  refine call_ f args hw hN ?_ h
  have he := enters_ hf hname hb args w
  unfold execOp
  simp [hop, resolve, Deferred.ofValue, invoke, Act.eval, hargs, he]
/-- An operation that yields a value (and may make memory). -/
theorem value_ {oi : Oper} {N : Option Tmp} {a : Act} {w w1 : World} {v : Value} {K : Act → World → Prop} (hw : Region.wanted oi (yielded ops a.tmps) = true) (hN : oi.dst = N) (hrun : (execOp a.eval oi).run P w = .ok (.value v) w1)
    (h : K (a.put N v) w1) : if Region.wanted oi (yielded ops a.tmps) = true then Oper.wp P oi a w K Q else K (a.put N undef) w := by
  rw [if_pos hw]
  subst hN
  unfold Oper.wp
  rw [hrun]
  exact h
/-- A store. -/
theorem skip_ {oi : Oper} {a : Act} {w w1 : World} {K : Act → World → Prop} (hw : Region.wanted oi (yielded ops a.tmps) = true) (hN : oi.dst = none) (hrun : (execOp a.eval oi).run P w = .ok .skip w1)
    (h : K a w1) : if Region.wanted oi (yielded ops a.tmps) = true then Oper.wp P oi a w K Q else K (a.put none undef) w := by
  rw [if_pos hw]
  unfold Oper.wp
  rw [hrun]
  show K (a.put oi.dst undef) w1
  rw [hN]
  exact h
theorem i64_w (n : Int) : IntKind.i64.wrap n = Go.RowKit.wrap64 n := by unfold Go.RowKit.wrap64; exact IntKind.wrap_i64 n
theorem i32_w (n : Int) : IntKind.i32.wrap n = Go.RowKit.wrap32 n := by unfold Go.RowKit.wrap32; exact IntKind.wrap_i32 n
end
end Go.Proofs.YtfpfnolpoklefaaGreatDoorW.PrintLast

/-! ### The same steps, what every step shows alike laid to the lemma; and what has come up as a number -/
namespace Go.Proofs.YtfpfnolpoklefaaGreatDoorW.PrintLast
section
variable {P : Program} {ops : Array Oper} {Q : Exit → Act → World → Prop} {md : Region.Mode} {S : World → Prop} {ds : List Nat}
def bz (n k : Nat) : Array Bool := ((List.range n).map fun i => k.testBit i).toArray
theorem pz {oi : Oper} {v : Value} {fuel : Nat} {l : Array Bool} {a a' : Act} {w : World} (i : Nat) (N : Option Tmp) (l' : Array Bool) (h : wpAnyLast P md ops Q S ds fuel l' a' w) (hi : ops[i]? = some oi := by rfl) (hN : oi.dst = N := by rfl) (hc : anyB md ops l l' i = true := by kernel_rfl) (hQ : ∀ c a w, Q (.panic c) (a.put oi.dst v) w → Q (.panic c) a w := by exact fun _ _ _ h => h) (hw : Region.wanted oi (yielded ops a.tmps) = true := by rfl) (hy : ∀ w' : World, (execOp a.eval oi).run P w' = .ok (.value v) w' := by (intro w'; go_simp; with_reducible rfl)) (ha : a.put N v = a' := by simp only [Act.put, List.setIfInBounds_toArray, List.set_cons_zero, List.set_cons_succ, i64_w, i32_w]; rfl) : wpAnyLast P md ops Q S ds (fuel + 1) l a w := pure_ l' hi hN hc hQ (Or.inl ⟨hw, hy⟩) ha h
theorem pu {oi : Oper} {fuel : Nat} {l : Array Bool} {a a' : Act} {w : World} (i : Nat) (N : Option Tmp) (l' : Array Bool) (h : wpAnyLast P md ops Q S ds fuel l' a' w) (hi : ops[i]? = some oi := by rfl) (hN : oi.dst = N := by rfl) (hc : anyB md ops l l' i = true := by kernel_rfl) (hQ : ∀ c a w, Q (.panic c) (a.put oi.dst undef) w → Q (.panic c) a w := by exact fun _ _ _ h => h) (hw : Region.wanted oi (yielded ops a.tmps) = false := by rfl) (ha : a.put N undef = a' := by simp only [Act.put, List.setIfInBounds_toArray, List.set_cons_zero, List.set_cons_succ, i64_w, i32_w]; rfl) : wpAnyLast P md ops Q S ds (fuel + 1) l a w := pure_ l' hi hN hc hQ (Or.inr ⟨hw, rfl⟩) ha h
theorem tz1 {oi : Oper} {v : Value} {fuel : Nat} {l : Array Bool} {a a' : Act} {w : World} (i : Nat) (N : Option Tmp) (l' : Array Bool) (hS : S w) (h : wpAnyLast P md ops Q S ds fuel l' a' w) (hi : ops[i]? = some oi := by rfl) (hN : oi.dst = N := by rfl) (hc : takeB md ops ds l l' i = true := by kernel_rfl) (hQ : ∀ c a w, Q (.panic c) (a.put oi.dst v) w → Q (.panic c) a w := by exact fun _ _ _ h => h) (hw : Region.wanted oi (yielded ops a.tmps) = true := by rfl) (hy : ∀ w' : World, S w' → (execOp a.eval oi).run P w' = .ok (.value v) w' := by (intro w' s0; go_simp; with_reducible rfl)) (ha : a.put N v = a' := by simp only [Act.put, List.setIfInBounds_toArray, List.set_cons_zero, List.set_cons_succ, i64_w, i32_w]; rfl) : wpAnyLast P md ops Q S ds (fuel + 1) l a w := take_ l' hi hN hc hQ (Or.inl ⟨hw, hy⟩) hS ha h
theorem tz2 {oi : Oper} {v : Value} {fuel : Nat} {l : Array Bool} {a a' : Act} {w : World} (i : Nat) (N : Option Tmp) (l' : Array Bool) (hS : S w) (h : wpAnyLast P md ops Q S ds fuel l' a' w) (hi : ops[i]? = some oi := by rfl) (hN : oi.dst = N := by rfl) (hc : takeB md ops ds l l' i = true := by kernel_rfl) (hQ : ∀ c a w, Q (.panic c) (a.put oi.dst v) w → Q (.panic c) a w := by exact fun _ _ _ h => h) (hw : Region.wanted oi (yielded ops a.tmps) = true := by rfl) (hy : ∀ w' : World, S w' → (execOp a.eval oi).run P w' = .ok (.value v) w' := by (rintro w' ⟨s0, s1⟩; go_simp; with_reducible rfl)) (ha : a.put N v = a' := by simp only [Act.put, List.setIfInBounds_toArray, List.set_cons_zero, List.set_cons_succ, i64_w, i32_w]; rfl) : wpAnyLast P md ops Q S ds (fuel + 1) l a w := take_ l' hi hN hc hQ (Or.inl ⟨hw, hy⟩) hS ha h
theorem tz3 {oi : Oper} {v : Value} {fuel : Nat} {l : Array Bool} {a a' : Act} {w : World} (i : Nat) (N : Option Tmp) (l' : Array Bool) (hS : S w) (h : wpAnyLast P md ops Q S ds fuel l' a' w) (hi : ops[i]? = some oi := by rfl) (hN : oi.dst = N := by rfl) (hc : takeB md ops ds l l' i = true := by kernel_rfl) (hQ : ∀ c a w, Q (.panic c) (a.put oi.dst v) w → Q (.panic c) a w := by exact fun _ _ _ h => h) (hw : Region.wanted oi (yielded ops a.tmps) = true := by rfl) (hy : ∀ w' : World, S w' → (execOp a.eval oi).run P w' = .ok (.value v) w' := by (rintro w' ⟨s0, s1, s2⟩; go_simp; with_reducible rfl)) (ha : a.put N v = a' := by simp only [Act.put, List.setIfInBounds_toArray, List.set_cons_zero, List.set_cons_succ, i64_w, i32_w]; rfl) : wpAnyLast P md ops Q S ds (fuel + 1) l a w := take_ l' hi hN hc hQ (Or.inl ⟨hw, hy⟩) hS ha h
theorem tz6 {oi : Oper} {v : Value} {fuel : Nat} {l : Array Bool} {a a' : Act} {w : World} (i : Nat) (N : Option Tmp) (l' : Array Bool) (hS : S w) (h : wpAnyLast P md ops Q S ds fuel l' a' w) (hi : ops[i]? = some oi := by rfl) (hN : oi.dst = N := by rfl) (hc : takeB md ops ds l l' i = true := by kernel_rfl) (hQ : ∀ c a w, Q (.panic c) (a.put oi.dst v) w → Q (.panic c) a w := by exact fun _ _ _ h => h) (hw : Region.wanted oi (yielded ops a.tmps) = true := by rfl) (hy : ∀ w' : World, S w' → (execOp a.eval oi).run P w' = .ok (.value v) w' := by (rintro w' ⟨s0, s1, s2, s3, s4, s5⟩; go_simp; with_reducible rfl)) (ha : a.put N v = a' := by simp only [Act.put, List.setIfInBounds_toArray, List.set_cons_zero, List.set_cons_succ, i64_w, i32_w]; rfl) : wpAnyLast P md ops Q S ds (fuel + 1) l a w := take_ l' hi hN hc hQ (Or.inl ⟨hw, hy⟩) hS ha h
theorem tz9 {oi : Oper} {v : Value} {fuel : Nat} {l : Array Bool} {a a' : Act} {w : World} (i : Nat) (N : Option Tmp) (l' : Array Bool) (hS : S w) (h : wpAnyLast P md ops Q S ds fuel l' a' w) (hi : ops[i]? = some oi := by rfl) (hN : oi.dst = N := by rfl) (hc : takeB md ops ds l l' i = true := by kernel_rfl) (hQ : ∀ c a w, Q (.panic c) (a.put oi.dst v) w → Q (.panic c) a w := by exact fun _ _ _ h => h) (hw : Region.wanted oi (yielded ops a.tmps) = true := by rfl) (hy : ∀ w' : World, S w' → (execOp a.eval oi).run P w' = .ok (.value v) w' := by (rintro w' ⟨s0, s1, s2, s3, s4, s5, s6, s7, s8⟩; go_simp; with_reducible rfl)) (ha : a.put N v = a' := by simp only [Act.put, List.setIfInBounds_toArray, List.set_cons_zero, List.set_cons_succ, i64_w, i32_w]; rfl) : wpAnyLast P md ops Q S ds (fuel + 1) l a w := take_ l' hi hN hc hQ (Or.inl ⟨hw, hy⟩) hS ha h
theorem tz11 {oi : Oper} {v : Value} {fuel : Nat} {l : Array Bool} {a a' : Act} {w : World} (i : Nat) (N : Option Tmp) (l' : Array Bool) (hS : S w) (h : wpAnyLast P md ops Q S ds fuel l' a' w) (hi : ops[i]? = some oi := by rfl) (hN : oi.dst = N := by rfl) (hc : takeB md ops ds l l' i = true := by kernel_rfl) (hQ : ∀ c a w, Q (.panic c) (a.put oi.dst v) w → Q (.panic c) a w := by exact fun _ _ _ h => h) (hw : Region.wanted oi (yielded ops a.tmps) = true := by rfl) (hy : ∀ w' : World, S w' → (execOp a.eval oi).run P w' = .ok (.value v) w' := by (rintro w' ⟨s0, s1, s2, s3, s4, s5, s6, s7, s8, s9, s10⟩; go_simp; with_reducible rfl)) (ha : a.put N v = a' := by simp only [Act.put, List.setIfInBounds_toArray, List.set_cons_zero, List.set_cons_succ, i64_w, i32_w]; rfl) : wpAnyLast P md ops Q S ds (fuel + 1) l a w := take_ l' hi hN hc hQ (Or.inl ⟨hw, hy⟩) hS ha h
theorem xpz {oi : Oper} {v : Value} {fuel : Nat} {l : Array Bool} {a a' : Act} {w : World} (i : Nat) (N : Option Tmp) (l' : Array Bool) (hc : anyB md ops l l' i = true) (h : wpAnyLast P md ops Q S ds fuel l' a' w) (hi : ops[i]? = some oi := by rfl) (hN : oi.dst = N := by rfl) (hQ : ∀ c a w, Q (.panic c) (a.put oi.dst v) w → Q (.panic c) a w := by exact fun _ _ _ h => h) (hw : Region.wanted oi (yielded ops a.tmps) = true := by rfl) (hy : ∀ w' : World, (execOp a.eval oi).run P w' = .ok (.value v) w' := by (intro w'; go_simp; with_reducible rfl)) (ha : a.put N v = a' := by simp only [Act.put, List.setIfInBounds_toArray, List.set_cons_zero, List.set_cons_succ, i64_w, i32_w]; rfl) : wpAnyLast P md ops Q S ds (fuel + 1) l a w := pure_ l' hi hN hc hQ (Or.inl ⟨hw, hy⟩) ha h
theorem xpu {oi : Oper} {fuel : Nat} {l : Array Bool} {a a' : Act} {w : World} (i : Nat) (N : Option Tmp) (l' : Array Bool) (hc : anyB md ops l l' i = true) (h : wpAnyLast P md ops Q S ds fuel l' a' w) (hi : ops[i]? = some oi := by rfl) (hN : oi.dst = N := by rfl) (hQ : ∀ c a w, Q (.panic c) (a.put oi.dst undef) w → Q (.panic c) a w := by exact fun _ _ _ h => h) (hw : Region.wanted oi (yielded ops a.tmps) = false := by rfl) (ha : a.put N undef = a' := by simp only [Act.put, List.setIfInBounds_toArray, List.set_cons_zero, List.set_cons_succ, i64_w, i32_w]; rfl) : wpAnyLast P md ops Q S ds (fuel + 1) l a w := pure_ l' hi hN hc hQ (Or.inr ⟨hw, rfl⟩) ha h
theorem xtz1 {oi : Oper} {v : Value} {fuel : Nat} {l : Array Bool} {a a' : Act} {w : World} (i : Nat) (N : Option Tmp) (l' : Array Bool) (hc : takeB md ops ds l l' i = true) (hS : S w) (h : wpAnyLast P md ops Q S ds fuel l' a' w) (hi : ops[i]? = some oi := by rfl) (hN : oi.dst = N := by rfl) (hQ : ∀ c a w, Q (.panic c) (a.put oi.dst v) w → Q (.panic c) a w := by exact fun _ _ _ h => h) (hw : Region.wanted oi (yielded ops a.tmps) = true := by rfl) (hy : ∀ w' : World, S w' → (execOp a.eval oi).run P w' = .ok (.value v) w' := by (intro w' s0; go_simp; with_reducible rfl)) (ha : a.put N v = a' := by simp only [Act.put, List.setIfInBounds_toArray, List.set_cons_zero, List.set_cons_succ, i64_w, i32_w]; rfl) : wpAnyLast P md ops Q S ds (fuel + 1) l a w := take_ l' hi hN hc hQ (Or.inl ⟨hw, hy⟩) hS ha h
theorem xtz2 {oi : Oper} {v : Value} {fuel : Nat} {l : Array Bool} {a a' : Act} {w : World} (i : Nat) (N : Option Tmp) (l' : Array Bool) (hc : takeB md ops ds l l' i = true) (hS : S w) (h : wpAnyLast P md ops Q S ds fuel l' a' w) (hi : ops[i]? = some oi := by rfl) (hN : oi.dst = N := by rfl) (hQ : ∀ c a w, Q (.panic c) (a.put oi.dst v) w → Q (.panic c) a w := by exact fun _ _ _ h => h) (hw : Region.wanted oi (yielded ops a.tmps) = true := by rfl) (hy : ∀ w' : World, S w' → (execOp a.eval oi).run P w' = .ok (.value v) w' := by (rintro w' ⟨s0, s1⟩; go_simp; with_reducible rfl)) (ha : a.put N v = a' := by simp only [Act.put, List.setIfInBounds_toArray, List.set_cons_zero, List.set_cons_succ, i64_w, i32_w]; rfl) : wpAnyLast P md ops Q S ds (fuel + 1) l a w := take_ l' hi hN hc hQ (Or.inl ⟨hw, hy⟩) hS ha h
theorem xtz3 {oi : Oper} {v : Value} {fuel : Nat} {l : Array Bool} {a a' : Act} {w : World} (i : Nat) (N : Option Tmp) (l' : Array Bool) (hc : takeB md ops ds l l' i = true) (hS : S w) (h : wpAnyLast P md ops Q S ds fuel l' a' w) (hi : ops[i]? = some oi := by rfl) (hN : oi.dst = N := by rfl) (hQ : ∀ c a w, Q (.panic c) (a.put oi.dst v) w → Q (.panic c) a w := by exact fun _ _ _ h => h) (hw : Region.wanted oi (yielded ops a.tmps) = true := by rfl) (hy : ∀ w' : World, S w' → (execOp a.eval oi).run P w' = .ok (.value v) w' := by (rintro w' ⟨s0, s1, s2⟩; go_simp; with_reducible rfl)) (ha : a.put N v = a' := by simp only [Act.put, List.setIfInBounds_toArray, List.set_cons_zero, List.set_cons_succ, i64_w, i32_w]; rfl) : wpAnyLast P md ops Q S ds (fuel + 1) l a w := take_ l' hi hN hc hQ (Or.inl ⟨hw, hy⟩) hS ha h
theorem xtz6 {oi : Oper} {v : Value} {fuel : Nat} {l : Array Bool} {a a' : Act} {w : World} (i : Nat) (N : Option Tmp) (l' : Array Bool) (hc : takeB md ops ds l l' i = true) (hS : S w) (h : wpAnyLast P md ops Q S ds fuel l' a' w) (hi : ops[i]? = some oi := by rfl) (hN : oi.dst = N := by rfl) (hQ : ∀ c a w, Q (.panic c) (a.put oi.dst v) w → Q (.panic c) a w := by exact fun _ _ _ h => h) (hw : Region.wanted oi (yielded ops a.tmps) = true := by rfl) (hy : ∀ w' : World, S w' → (execOp a.eval oi).run P w' = .ok (.value v) w' := by (rintro w' ⟨s0, s1, s2, s3, s4, s5⟩; go_simp; with_reducible rfl)) (ha : a.put N v = a' := by simp only [Act.put, List.setIfInBounds_toArray, List.set_cons_zero, List.set_cons_succ, i64_w, i32_w]; rfl) : wpAnyLast P md ops Q S ds (fuel + 1) l a w := take_ l' hi hN hc hQ (Or.inl ⟨hw, hy⟩) hS ha h
theorem xtz9 {oi : Oper} {v : Value} {fuel : Nat} {l : Array Bool} {a a' : Act} {w : World} (i : Nat) (N : Option Tmp) (l' : Array Bool) (hc : takeB md ops ds l l' i = true) (hS : S w) (h : wpAnyLast P md ops Q S ds fuel l' a' w) (hi : ops[i]? = some oi := by rfl) (hN : oi.dst = N := by rfl) (hQ : ∀ c a w, Q (.panic c) (a.put oi.dst v) w → Q (.panic c) a w := by exact fun _ _ _ h => h) (hw : Region.wanted oi (yielded ops a.tmps) = true := by rfl) (hy : ∀ w' : World, S w' → (execOp a.eval oi).run P w' = .ok (.value v) w' := by (rintro w' ⟨s0, s1, s2, s3, s4, s5, s6, s7, s8⟩; go_simp; with_reducible rfl)) (ha : a.put N v = a' := by simp only [Act.put, List.setIfInBounds_toArray, List.set_cons_zero, List.set_cons_succ, i64_w, i32_w]; rfl) : wpAnyLast P md ops Q S ds (fuel + 1) l a w := take_ l' hi hN hc hQ (Or.inl ⟨hw, hy⟩) hS ha h
theorem xtz11 {oi : Oper} {v : Value} {fuel : Nat} {l : Array Bool} {a a' : Act} {w : World} (i : Nat) (N : Option Tmp) (l' : Array Bool) (hc : takeB md ops ds l l' i = true) (hS : S w) (h : wpAnyLast P md ops Q S ds fuel l' a' w) (hi : ops[i]? = some oi := by rfl) (hN : oi.dst = N := by rfl) (hQ : ∀ c a w, Q (.panic c) (a.put oi.dst v) w → Q (.panic c) a w := by exact fun _ _ _ h => h) (hw : Region.wanted oi (yielded ops a.tmps) = true := by rfl) (hy : ∀ w' : World, S w' → (execOp a.eval oi).run P w' = .ok (.value v) w' := by (rintro w' ⟨s0, s1, s2, s3, s4, s5, s6, s7, s8, s9, s10⟩; go_simp; with_reducible rfl)) (ha : a.put N v = a' := by simp only [Act.put, List.setIfInBounds_toArray, List.set_cons_zero, List.set_cons_succ, i64_w, i32_w]; rfl) : wpAnyLast P md ops Q S ds (fuel + 1) l a w := take_ l' hi hN hc hQ (Or.inl ⟨hw, hy⟩) hS ha h
end
end Go.Proofs.YtfpfnolpoklefaaGreatDoorW.PrintLast
/-! ### 39. Stores into a row that may begin inside its block (Q): Q_form, Q_elem, Q_seg; scalars: Q_cell, Q_putg -/
namespace Go.Proofs.YtfpfnolpoklefaaGreatDoorW.PrintWords
open Go.RowKit
namespace Kd
section
variable {α : Type} {d : Kd α} {e base g o n cap : Nat} {ok okp : Nat → Prop} {w W : World} {v : Value} {xs : List α}
end
section
variable {α : Type} {enc : α → Value} {h1 : ∀ x, (enc x).oneCell' = true} {e base g o n cap : Nat} {ok : Nat → Prop} {W : World} {xs : List α}
end
end Kd
end Go.Proofs.YtfpfnolpoklefaaGreatDoorW.PrintWords
/-! ### 40. Elements whose inner rows lie apart: what is stored into one says nothing of the others.
   S: as R, with an owner function f (block to element's index). H: as S with a hole: of element i its cells alone are told, its blocks are oki. -/
namespace Go.Proofs.YtfpfnolpoklefaaGreatDoorW.PrintWords
open Go.RowKit
namespace Kd
/-- An element with its index: its blocks are those that f gives to it. -/
def tag {α : Type} (f : Nat → Nat) (d : Kd α) : Kd (α × Nat) where
  sz := d.sz
  E := d.E
  K := fun w x cs => d.K w x.1 cs
  M := fun w base ok x cs => d.M w base (fun k => ok k ∧ f k = x.2) x.1 cs
  K_len := fun h => d.K_len h
  K_one := fun h => d.K_one h
  K_below := fun hb h => d.K_below hb h
  K_of_M := fun h => d.K_of_M h
  M_mono := fun hok h => d.M_mono (fun k hk => ⟨hok k hk.1, hk.2⟩) h
  M_bound := fun h => d.M_mono (fun _ hk => ⟨⟨hk.1.1, hk.2⟩, hk.1.2⟩) (d.M_bound h)
  M_move := fun hm h => d.M_move (fun k hk => hm k hk.1) h
  M_lower := fun hb h => d.M_lower hb h
/-- The cells themselves. -/
def raw (sz : Nat) : Kd (List Value) where
  sz := sz
  E := []
  K := fun _ x cs => cs = x ∧ cs.length = sz ∧ ∀ u ∈ cs, u.oneCell' = true
  M := fun _ _ _ x cs => cs = x ∧ cs.length = sz ∧ ∀ u ∈ cs, u.oneCell' = true
  K_len := fun h => h.2.1
  K_one := fun h => h.2.2
  K_below := fun _ h => h
  K_of_M := fun h => h
  M_mono := fun _ h => h
  M_bound := fun h => h
  M_move := fun _ h => h
  M_lower := fun _ h => h
/-- A row of elements (type e) of the call's own, no two of which lead to one block. -/
def S {α : Type} (d : Kd α) (e : Nat) (w : World) (base : Nat) (ok : Nat → Prop) (v : Value) (xs : List α) : Prop := ∃ f, (tag f d).R e w base ok v xs.zipIdx
section
variable {α β : Type} {d : Kd α} {d' : Kd β} {e e' : Nat} {w w1 W : World} {base b : Nat} {ok ok' okv oku : Nat → Prop} {u v : Value} {xs : List α} {ys : List β}
/-- A row whose elements lead to nothing: its blocks are its own one. -/
theorem R_tight (hE : d.E = []) (h : d.R e w base ok v xs) : d.R e w base (fun k => some k = v.ownBlock) v xs := by
  obtain ⟨h0, inner, ho, hr⟩ := h
  refine ⟨fun k hk => hk.symm, inner, ho, hr.imp_ (fun p c hp => d.M_mono (fun k hk => ?_) (d.M_bound hp))⟩
  obtain ⟨_, _, _, q, hq, _⟩ := hk
  rw [hE] at hq
  cases hq
end
section
variable {α β : Type} {d : Kd α} {d' : Kd β} {e e' g : Nat} {w w1 W : World} {base b : Nat} {ok ok' okv oku : Nat → Prop} {u v : Value} {xs : List α} {ys : List β}
end
/-! #### append, make, literals: the new element's blocks are none of the elder ones' -/
section
variable {P : Program} {ops : Array Oper} {rest : List Oper} {o : Oper} {a : Act} {Q : Exit → Act → World → Prop} {Kc : Act → World → Prop} {α : Type}
end
/-! #### a row with a hole: element i is lent, its blocks are oki; of it the row says its cells alone -/
/-- Element i is these cells; the others are d's. -/
def gap {α : Type} (f : Nat → Nat) (d : Kd α) (i : Nat) (c : List Value) : Kd (α × Nat) where
  sz := d.sz
  E := d.E
  K := fun w x cs => (x.2 = i → cs = c ∧ cs.length = d.sz ∧ ∀ u ∈ cs, u.oneCell' = true) ∧ (x.2 ≠ i → d.K w x.1 cs)
  M := fun w base ok x cs => (x.2 = i → cs = c ∧ cs.length = d.sz ∧ ∀ u ∈ cs, u.oneCell' = true) ∧ (x.2 ≠ i → d.M w base (fun k => ok k ∧ f k = x.2) x.1 cs)
  K_len := fun {w x cs} h => by
    by_cases hx : x.2 = i
    · exact (h.1 hx).2.1
    · exact d.K_len (h.2 hx)
  K_one := fun {w x cs} h => by
    by_cases hx : x.2 = i
    · exact (h.1 hx).2.2
    · exact d.K_one (h.2 hx)
  K_below := fun hb h => ⟨h.1, fun hx => d.K_below hb (h.2 hx)⟩
  K_of_M := fun h => ⟨h.1, fun hx => d.K_of_M (h.2 hx)⟩
  M_mono := fun hok h => ⟨h.1, fun hx => d.M_mono (fun k hk => ⟨hok k hk.1, hk.2⟩) (h.2 hx)⟩
  M_bound := fun h => ⟨h.1, fun hx => d.M_mono (fun _ hk => ⟨⟨hk.1.1, hk.2⟩, hk.1.2⟩) (d.M_bound (h.2 hx))⟩
  M_move := fun hm h => ⟨h.1, fun hx => d.M_move (fun k hk => hm k hk.1) (h.2 hx)⟩
  M_lower := fun hb h => ⟨h.1, fun hx => d.M_lower hb (h.2 hx)⟩
def H {α : Type} (d : Kd α) (e : Nat) (w : World) (base : Nat) (ok : Nat → Prop) (v : Value) (xs : List α) (i : Int) (oki : Nat → Prop) (c : List Value) : Prop :=
  (∀ k, oki k → ok k) ∧ ∃ f, (gap f d i.toNat c).R e w base (fun k => ok k ∧ ¬ oki k) v xs.zipIdx
section
variable {α β : Type} {d : Kd α} {e e' g n cap : Nat} {w w1 W : World} {base : Nat} {ok ok' oki okp : Nat → Prop} {u v : Value} {xs : List α} {i : Int} {c : List Value}
end
section
variable {P : Program} {ops : Array Oper} {rest : List Oper} {o : Oper} {a : Act} {Q : Exit → Act → World → Prop} {α : Type}
end
end Kd
end Go.Proofs.YtfpfnolpoklefaaGreatDoorW.PrintWords
/-! ### 41. Arrays '[n]T' as_ values: a kind (a field, an element of a row), an element read, an element set -/
namespace Go.Proofs.YtfpfnolpoklefaaGreatDoorW.PrintWords
open Go.RowKit
namespace Kd
section
variable {α : Type} {n : Nat} {d : Kd α} {hs : 0 < d.sz} {w : World} {base : Nat} {ok : Nat → Prop} {xs : List α} {cs : List Value}
end
section
variable {α : Type} {n : Nat} {enc : α → Value} {h1 : ∀ x, (enc x).oneCell' = true} {hs : 0 < (scalar enc h1).sz} {w : World} {base : Nat} {ok : Nat → Prop} {xs : List α} {cs : List Value}
end
end Kd
end Go.Proofs.YtfpfnolpoklefaaGreatDoorW.PrintWords
/-! ### 42. append(v, make([]T, n)...): the operation comes as_ append with the number in the second place -/
namespace Go.Proofs.YtfpfnolpoklefaaGreatDoorW.PrintWords
open Go.RowKit
section
variable {P : Program}
end
namespace Kd
section
variable {P : Program} {ops : Array Oper} {rest : List Oper} {o : Oper} {a : Act} {Q : Exit → Act → World → Prop} {Kc : Act → World → Prop} {α : Type}
end
/-! #### the same for rows whose elements lie apart -/
section
variable {α : Type} {d : Kd α} {e : Nat} {w : World} {base : Nat} {ok : Nat → Prop} {v : Value} {xs : List α}
end
section
variable {P : Program} {ops : Array Oper} {rest : List Oper} {o : Oper} {a : Act} {Q : Exit → Act → World → Prop} {Kc : Act → World → Prop} {α : Type}
end
end Kd
end Go.Proofs.YtfpfnolpoklefaaGreatDoorW.PrintWords
/-! ### 43. What is read beside a state: it stays read whatever the state's calls turn ('∀ W', KeepBut w W' g none → d.C W' A n xs') -/
namespace Go.Proofs.YtfpfnolpoklefaaGreatDoorW.PrintWords
open Go.RowKit
namespace Kd
/-- What a kind reads lies in the blocks: nothing else of the world is looked at. -/
structure Heap {α : Type} (d : Kd α) : Prop where
  K : ∀ {w w1 : World} {x : α} {cs : List Value}, (∀ k, k < w.heap.size → w1.heap[k]? = w.heap[k]?) → d.K w x cs → d.K w1 x cs
theorem cell_heap {w w1 : World} (hb : ∀ k, k < w.heap.size → w1.heap[k]? = w.heap[k]?) {a : Addr} {v : Value} (h : w.cell? a = some v) : w1.cell? a = some v := by
  have := hb a.block (World.block_lt_of_cell? w a h)
  simpa [World.cell?, this] using h
theorem Heap.C {α : Type} {d : Kd α} (hd : Heap d) {w w1 : World} {A : Option Addr} {n : Nat} {xs : List α} (hb : ∀ k, k < w.heap.size → w1.heap[k]? = w.heap[k]?) (h : d.C w A n xs) : d.C w1 A n xs :=
  ⟨h.1, h.2.1, fun hn => by
    obtain ⟨ad, e, hc⟩ := h.2.2 hn
    refine ⟨ad, e, fun j p hj => ?_⟩
    obtain ⟨c, hs, hr, hcell⟩ := hc j p hj
    exact ⟨c, hs, hd.K hb hr, fun i u hu => cell_heap hb (hcell i u hu)⟩⟩
theorem heap_int (k : IntKind) : Heap (Kd.int k) := ⟨fun _ h => h⟩
section
variable {α : Type} {d : Kd α} {e base g n c : Nat} {ok : Nat → Prop} {w w0 W : World} {A : Option Addr} {xs : List α}
end
end Kd
end Go.Proofs.YtfpfnolpoklefaaGreatDoorW.PrintWords
/-! ### 45. What a call keeps: all but the blocks of S (the rows that it was given to write) and what is new since -/
namespace Go.Proofs.YtfpfnolpoklefaaGreatDoorW.PrintWords
open Go.RowKit
def Kept (w W : World) (S : Nat → Prop) : Prop := w.heap.size ≤ W.heap.size ∧ ∀ i, i < w.heap.size → ¬ S i → W.heap[i]? = w.heap[i]?
section
variable {w W W2 : World} {S S2 S' : Nat → Prop}
end
namespace Kd
section
variable {α : Type} {d : Kd α} {e base n c : Nat} {ok oki S S2 : Nat → Prop} {w w0 W W1 W2 : World} {v : Value} {A : Option Addr} {xs : List α} {i : Int} {cs : List Value}
theorem R_kept (h : d.R e W base ok v xs) (hk : Kept W W2 S) (hne : ∀ k, ok k → ¬ S k) : d.R e W2 base ok v xs := R_step h (fun k ho hlt => hk.2 k hlt (hne k ho))
end
end Kd
end Go.Proofs.YtfpfnolpoklefaaGreatDoorW.PrintWords
/-! ### 46. Values that share: what is only read, with the blocks it lies in (its footprint 'ok'): Foot, F (a row that is read), FK (an element's cells) -/
namespace Go.Proofs.YtfpfnolpoklefaaGreatDoorW.PrintWords
open Go.RowKit
/-- P holds in W and in every world that has W's blocks of ok. -/
def Foot (P : World → Prop) (W : World) (ok : Nat → Prop) : Prop := ∀ W' : World, (∀ k, ok k → k < W.heap.size → W'.heap[k]? = W.heap[k]?) → P W'
theorem heap_lt {W W1 : World} {k : Nat} (h : W1.heap[k]? = W.heap[k]?) (hlt : k < W.heap.size) : k < W1.heap.size := by
  rw [Array.getElem?_eq_getElem hlt] at h
  exact (Array.getElem?_eq_some_iff.1 h).1
namespace Foot
variable {P Q : World → Prop} {W W1 : World} {ok ok' : Nat → Prop}
theorem now (h : Foot P W ok) : P W := h W (fun _ _ _ => rfl)
theorem mono (h : Foot P W ok) (hok : ∀ k, ok k → ok' k) : Foot P W ok' := fun W' hW => h W' (fun k hk hlt => hW k (hok k hk) hlt)
theorem bound (h : Foot P W ok) : Foot P W (fun k => ok k ∧ k < W.heap.size) := fun W' hW => h W' (fun k hk hlt => hW k ⟨hk, hlt⟩ hlt)
theorem step (h : Foot P W ok) (hm : ∀ k, ok k → k < W.heap.size → W1.heap[k]? = W.heap[k]?) : Foot P W1 ok := fun W' hW => h W' (fun k hk hlt => (hW k hk (heap_lt (hm k hk hlt) hlt)).trans (hm k hk hlt))
theorem imp (h : Foot P W ok) (hi : ∀ W', P W' → Q W') : Foot Q W ok := fun W' hW => hi W' (h W' hW)
/-- Moved, and still elder than what is new since W. -/
theorem old (h : Foot P W ok) (hb : Below W.heap.size W W1) : Foot P W1 (fun k => ok k ∧ k < W.heap.size) := (h.bound).step (fun k _ hlt => hb.block k hlt)
end Foot
namespace Kd
/-- A row that is only read: what it leads to lies in ok. -/
def F {α : Type} (d : Kd α) (W : World) (ok : Nat → Prop) (A : Option Addr) (n : Nat) (xs : List α) : Prop := Foot (fun W => d.C W A n xs) W ok
/-- An element's cells: what they lead to lies in ok. -/
def FK {α : Type} (d : Kd α) (W : World) (ok : Nat → Prop) (x : α) (c : List Value) : Prop := Foot (fun W => d.K W x c) W ok
section
variable {α β : Type} {d : Kd α} {e base n n' cc g N : Nat} {ok ok' okp S : Nat → Prop} {w w0 w1 W W1 : World} {A A' : Option Addr} {u v v1 : Value} {xs : List α} {xs' : List β} {d' : Kd β} {x : α} {c : List Value}
/-- The same of an element's cells. -/
theorem FK_now (h : FK d W ok x c) : d.K W x c := Foot.now h
theorem FK_mono (h : FK d W ok x c) (hok : ∀ k, ok k → ok' k) : FK d W ok' x c := Foot.mono h hok
theorem FK_bound (h : FK d W ok x c) : FK d W (fun k => ok k ∧ k < W.heap.size) x c := Foot.bound h
theorem FK_step (h : FK d W ok x c) (hm : ∀ k, ok k → k < W.heap.size → W1.heap[k]? = W.heap[k]?) : FK d W1 ok x c := Foot.step h hm
theorem FK_of_M (h : d.M W base ok x c) : FK d W ok x c := fun _ hW => d.K_of_M (M_step h hW)
end
end Kd
end Go.Proofs.YtfpfnolpoklefaaGreatDoorW.PrintWords
/-! ### 47. N: a row of the call's own whose elements share (what they lead to is only read) -/
namespace Go.Proofs.YtfpfnolpoklefaaGreatDoorW.PrintWords
open Go.RowKit
namespace Kd
/-- The cells one behind the other, element by element. -/
def chunks (sz : Nat) (n : Nat) (inner : List Value) : List (List Value) := (List.range n).map fun j => (inner.drop (j * sz)).take sz
theorem chunks_length (sz n : Nat) (inner : List Value) : (chunks sz n inner).length = n := by simp [chunks]
theorem chunks_at {sz n : Nat} {inner : List Value} {j : Nat} (hj : j < n) : (chunks sz n inner)[j]? = some ((inner.drop (j * sz)).take sz) := by simp [chunks, hj]
theorem chunks_get {sz n : Nat} {inner : List Value} {j : Nat} {c : List Value} (h : (chunks sz n inner)[j]? = some c) : c = (inner.drop (j * sz)).take sz := by
  have hj : j < n := by have := (List.getElem?_eq_some_iff.1 h).1; rwa [chunks_length] at this
  rw [chunks_at hj] at h
  injection h with h
  exact h.symm
theorem reps_raw {α : Type} {Rr : α → List Value → Prop} {sz : Nat} {xs : List α} {inner : List Value} (h : Reps Rr sz xs inner) (hR : ∀ x c, Rr x c → c.length = sz ∧ ∀ u ∈ c, u.oneCell' = true) : Reps (fun x cs => cs = x ∧ cs.length = sz ∧ ∀ u ∈ cs, u.oneCell' = true) sz (chunks sz xs.length inner) inner := by
  refine ⟨by rw [chunks_length]; exact h.1, fun j p hj => ?_⟩
  have hjl : j < xs.length := by have := (List.getElem?_eq_some_iff.1 hj).1; rwa [chunks_length] at this
  have hp := chunks_get hj
  exact ⟨hp.symm, hR _ _ (h.2 j _ (List.getElem?_eq_getElem hjl))⟩
section
variable {α : Type} {d : Kd α} {e base n cc g : Nat} {ok ok' okp S : Nat → Prop} {w w1 W W1 : World} {A : Option Addr} {u v v1 : Value} {xs : List α} {x : α} {c : List Value}
/-- A row of elements (type e) of the call's own; what the elements lead to is only read, and is not this row. -/
def N {α : Type} (d : Kd α) (e : Nat) (w : World) (base : Nat) (ok : Nat → Prop) (v : Value) (xs : List α) : Prop :=
  (∀ k, v.ownBlock = some k → ok k) ∧ ∃ rows : List (List Value), rows.length = xs.length ∧ (raw d.sz).R e w base (fun k => some k = v.ownBlock) v rows ∧ ∀ (j : Nat) (x : α) (c : List Value), xs[j]? = some x → rows[j]? = some c → FK d w (fun k => ok k ∧ some k ≠ v.ownBlock) x c
theorem raw_tight {sz : Nat} {rows : List (List Value)} (h : (raw sz).R e w base ok v rows) : (raw sz).R e w base (fun k => some k = v.ownBlock) v rows := R_tight rfl h
theorem raw_any {sz : Nat} {rows : List (List Value)} (h : (raw sz).R e w base ok v rows) : (raw sz).R e w base (fun _ => True) v rows := R_mono h (fun _ _ => trivial)
theorem R_N (h : d.R e w base ok v xs) : N d e w base ok v xs := by
  obtain ⟨h0, inner, ho, hr⟩ := h
  refine ⟨h0, chunks d.sz xs.length inner, chunks_length _ _ _, ⟨fun k hk => hk.symm, inner, by rw [chunks_length]; exact ho, reps_raw hr (fun x c hp => ⟨d.K_len (d.K_of_M hp), d.K_one (d.K_of_M hp)⟩)⟩, fun j x c hx hc => ?_⟩
  rw [chunks_get hc]
  exact FK_of_M (hr.2 j x hx)
theorem N_nil (d : Kd α) (e : Nat) (w : World) (base : Nat) (ok : Nat → Prop) : N d e w base ok (.slice none 0 0) [] := R_N (R_nil _ _ _ _ _)
theorem N_slice (h : N d e w base ok v xs) : ∃ A c, v = .slice A xs.length c := by
  obtain ⟨_, rows, hl, hR, _⟩ := h
  obtain ⟨A, c, he⟩ := R_slice hR
  exact ⟨A, c, by rw [he, hl]⟩
theorem N_reads' {n c : Nat} (h : N d e w base ok (.slice A n c) xs) : n = xs.length ∧ n ≤ c ∧ d.C w A xs.length xs := by
  obtain ⟨_, rows, hl, hR, hf⟩ := h
  obtain ⟨hn, hc, hC⟩ := R_reads' hR
  refine ⟨by omega, hc, ?_⟩
  rw [hl] at hC
  refine ⟨rfl, hC.2.1, fun hp => ?_⟩
  obtain ⟨ad, he, hcell⟩ := hC.2.2 hp
  refine ⟨ad, he, fun j p hj => ?_⟩
  have hjl : j < rows.length := by have := (List.getElem?_eq_some_iff.1 hj).1; omega
  obtain ⟨c', hcl, hK, hcc⟩ := hcell j _ (List.getElem?_eq_getElem hjl)
  have hk := FK_now (hf j p _ hj (List.getElem?_eq_getElem hjl))
  refine ⟨c', hcl, ?_, hcc⟩
  rw [show c' = rows[j] from hK.1]
  exact hk
theorem N_reads (h : N d e w base ok v xs) : ∃ A c, v = .slice A xs.length c ∧ xs.length ≤ c ∧ d.C w A xs.length xs := by
  obtain ⟨A, c, rfl⟩ := N_slice h
  exact ⟨A, c, rfl, (N_reads' h).2⟩
end
end Kd
end Go.Proofs.YtfpfnolpoklefaaGreatDoorW.PrintWords
/-! ### 48. N's events: append, a whole row appended, zeros appended, literals, make, stores, cuts, an element taken out -/
namespace Go.Proofs.YtfpfnolpoklefaaGreatDoorW.PrintWords
open Go.RowKit
namespace Kd
section
variable {α : Type} {d : Kd α} {e base n cap g : Nat} {ok ok' okp : Nat → Prop} {w w1 W : World} {v v1 : Value} {xs ys : List α}
/-- Behind an append: the old elements and the new ones, moved. -/
theorem N_appended {rows news : List (List Value)} (h0 : ∀ k, v.ownBlock = some k → ok k) (hl : rows.length = xs.length) (hf : ∀ (j : Nat) (x : α) (c : List Value), xs[j]? = some x → rows[j]? = some c → FK d W (fun k => ok k ∧ some k ≠ v.ownBlock) x c)
    (hl2 : news.length = ys.length) (hf2 : ∀ (j : Nat) (x : α) (c : List Value), ys[j]? = some x → news[j]? = some c → FK d W okp x c) (hokp : ∀ k, okp k → ok k ∧ some k ≠ v.ownBlock) (hfresh : ∀ k, W.heap.size ≤ k → ok k)
    (hR : (raw d.sz).R e w1 base (fun _ => True) v1 (rows ++ news)) (hg : W.grownBy w1 v.ownBlock) (hat : v1.ownBlock = v.ownBlock ∨ ∃ b, v1.ownBlock = some b ∧ W.heap.size ≤ b) : N d e w1 base ok v1 (xs ++ ys) := by
  have hne : ∀ k, some k ≠ v.ownBlock → k < W.heap.size → some k ≠ v1.ownBlock := by
    intro k hk hlt
    rcases hat with hat | ⟨b, hb, hle⟩
    · rw [hat]; exact hk
    · rw [hb]
      intro he
      injection he with he
      omega
  have step : ∀ {x : α} {c : List Value} {o : Nat → Prop}, FK d W o x c → (∀ k, o k → ok k ∧ some k ≠ v.ownBlock) → FK d w1 (fun k => ok k ∧ some k ≠ v1.ownBlock) x c := by
    intro x c o hq ho
    exact FK_mono (FK_step (FK_bound hq) (fun k hk hlt => hg.block k hlt (ho k hk.1).2)) (fun k hk => ⟨(ho k hk.1).1, hne k (ho k hk.1).2 hk.2⟩)
  refine ⟨fun k hk => ?_, rows ++ news, by rw [List.length_append, List.length_append, hl, hl2], raw_tight hR, fun j x c hx hc => ?_⟩
  · rcases hat with hat | ⟨b, hb, hle⟩
    · exact h0 k (hat ▸ hk)
    · rw [hb] at hk
      injection hk with hk
      exact hfresh k (by omega)
  · rcases Nat.lt_or_ge j xs.length with hlt | hge
    · rw [List.getElem?_append_left hlt] at hx
      rw [List.getElem?_append_left (by omega)] at hc
      exact step (hf j x c hx hc) (fun _ hk => hk)
    · rw [List.getElem?_append_right hge] at hx
      rw [List.getElem?_append_right (by omega), hl] at hc
      exact step (hf2 _ x c hx hc) hokp
theorem FK_raw {x : α} {c : List Value} (h : FK d W ok x c) : c = c ∧ c.length = d.sz ∧ ∀ u ∈ c, u.oneCell' = true := ⟨rfl, d.K_len (FK_now h), d.K_one (FK_now h)⟩
end
section
variable {P : Program} {ops : Array Oper} {rest : List Oper} {o : Oper} {a : Act} {Q : Exit → Act → World → Prop} {Kc : Act → World → Prop} {α : Type}
/-- append(v, x), behind 'at_builtin': x's cells are cs. -/
theorem N_append (d : Kd α) {w0 W : World} (base : Nat) (hgd : o.guard = none) (s x : Operand) (t e : TypeId) (z : Value) (bytes : Nat)
    (ho : o.op = .call { callee := .builtin .append, args := #[s, x], argTypes := #[t, t] })
    (ht : P.underlying t = some (.slice e)) (hinfo : (P.info? e).map (fun i => (i.zero, i.size, i.bytes)) = some (some z, d.sz, bytes)) (hz : z.cells.size = d.sz) (hs0 : 0 < d.sz) (hb0 : 0 < bytes)
    (v : Value) (xs : List α) (p : α) (cs : List Value) (ok okp : Nat → Prop) (hs : a.eval s = v) (hx : a.eval x = .slice (some ⟨W.heap.size, 0, none⟩) 1 1) (hp : FK d W okp p cs) (hokp : ∀ k, okp k → ok k ∧ some k ≠ v.ownBlock) (hfresh : ∀ k, W.heap.size ≤ k → ok k)
    (HO : N d e W base ok v xs) (HB : Below base w0 W) (hbase : base ≤ W.heap.size) (hl : (xs.length + 1) * bytes ≤ 140737488355328)
    (h : ∀ v1 w1, N d e w1 base ok v1 (xs ++ [p]) → Below base w0 w1 → W.grownBy w1 v.ownBlock → (v1.ownBlock = v.ownBlock ∨ ∃ b, v1.ownBlock = some b ∧ W.heap.size ≤ b) → wpList P ops Q rest (a.put o.dst v1) w1) :
    wpList P ops Q (o :: rest) a (W.alloc (.cells cs.toArray e)) := by
  obtain ⟨h0, rows, hlr, hR, hf⟩ := HO
  refine R_append (raw d.sz) base hgd s x t e z bytes ho ht hinfo hz hs0 hb0 v rows cs cs (fun _ => True) (fun _ => False) hs hx (FK_raw hp) (fun _ hk => hk.elim) (fun _ _ => trivial) (raw_any hR) HB hbase (by rw [hlr]; exact hl) ?_
  intro v1 w1 hr hb hg hat
  exact h v1 w1 (N_appended h0 hlr hf (ys := [p]) (news := [cs]) rfl (fun j y c hy hc => by
    rcases j with _ | j
    · simp only [List.getElem?_cons_zero, Option.some.injEq] at hy hc
      rw [← hy, ← hc]; exact hp
    · simp at hy) hokp hfresh hr hg hat) hb hg hat
end
end Kd
end Go.Proofs.YtfpfnolpoklefaaGreatDoorW.PrintWords
-- PRINTED WORDS (module Derived/Print/More.lean): go-gate-2's additions: an AI agent of Go's test side, Tue Nov 17 2026; no person has read it. Lean checks it.
namespace Go.Proofs.YtfpfnolpoklefaaGreatDoorW.PrintMore
open Go.RowKit Go.Proofs.YtfpfnolpoklefaaGreatDoorW.PrintWords
namespace Kd
open Go.Proofs.YtfpfnolpoklefaaGreatDoorW.PrintWords.Kd
end Kd

namespace Kd
open Go.Proofs.YtfpfnolpoklefaaGreatDoorW.PrintWords.Kd
section
variable {α : Type} {d : Kd α} {e base g N : Nat} {ok : Nat → Prop} {W w1 : World} {u v : Value} {xs : List α}
end
end Kd
/-- 'max' and 'min' of two whole numbers. -/
theorem max2_int (k k' : IntKind) (x y : Int) : Builtin.max2 (.int k x) (.int k' y) = pure (.int k (if x < y then y else x)) := by simp only [Builtin.max2, gt_iff_lt]
theorem min2_int (k k' : IntKind) (x y : Int) : Builtin.min2 (.int k x) (.int k' y) = pure (.int k (if y < x then y else x)) := by simp only [Builtin.min2]
theorem max_two (ats : Array TypeId) (ty : TypeId) (a b : Value) : Builtin.max_ ats ty #[a, b] = (Builtin.max2 a b >>= fun s => pure s) := by simp only [Builtin.max_, List.foldlM_cons, List.foldlM_nil]
theorem min_two (ats : Array TypeId) (ty : TypeId) (a b : Value) : Builtin.min_ ats ty #[a, b] = (Builtin.min2 a b >>= fun s => pure s) := by simp only [Builtin.min_, List.foldlM_cons, List.foldlM_nil]
theorem max_three (ats : Array TypeId) (ty : TypeId) (a b c : Value) : Builtin.max_ ats ty #[a, b, c] = (Builtin.max2 a b >>= fun s => Builtin.max2 s c >>= fun s => pure s) := by simp only [Builtin.max_, List.foldlM_cons, List.foldlM_nil]
theorem min_three (ats : Array TypeId) (ty : TypeId) (a b c : Value) : Builtin.min_ ats ty #[a, b, c] = (Builtin.min2 a b >>= fun s => Builtin.min2 s c >>= fun s => pure s) := by simp only [Builtin.min_, List.foldlM_cons, List.foldlM_nil]
theorem max_four (ats : Array TypeId) (ty : TypeId) (a b c d : Value) : Builtin.max_ ats ty #[a, b, c, d] = (Builtin.max2 a b >>= fun s => Builtin.max2 s c >>= fun s => Builtin.max2 s d >>= fun s => pure s) := by simp only [Builtin.max_, List.foldlM_cons, List.foldlM_nil]
theorem min_four (ats : Array TypeId) (ty : TypeId) (a b c d : Value) : Builtin.min_ ats ty #[a, b, c, d] = (Builtin.min2 a b >>= fun s => Builtin.min2 s c >>= fun s => Builtin.min2 s d >>= fun s => pure s) := by simp only [Builtin.min_, List.foldlM_cons, List.foldlM_nil]
end Go.Proofs.YtfpfnolpoklefaaGreatDoorW.PrintMore
namespace Go.Proofs.YtfpfnolpoklefaaGreatDoorW.PrintWords
open Go.RowKit
section
variable {P : Program} {ops : Array Oper} {rest : List Oper} {o : Oper} {a : Act} {Q : Exit → Act → World → Prop} {W : World}
/-- The operation is a builtin over these places. -/
theorem gate_builtin {b : Builtin} {xs : Array Operand} {ts : Array TypeId} (_ho : o.op = .call { callee := .builtin b, args := xs, argTypes := ts }) (h : wpList P ops Q (o :: rest) a W) : wpList P ops Q (o :: rest) a W := h
end
/-- A shift to the left, as Go tells it: a count beyond the width leaves nothing. -/
def shl (k : IntKind) (x y : Int) : Int := k.wrap (x * 2 ^ min y.toNat k.bits)
/-- A shift to the right: a count beyond the width leaves the sign. -/
def shr (k : IntKind) (x y : Int) : Int := x / 2 ^ min y.toNat k.bits
theorem shl_small {k : IntKind} {x y j : Int} (h : shl k x y = j) (hy : y ≤ k.bits) : k.wrap (x * 2 ^ y.toNat) = j := by rw [← h]; unfold shl; rw [Nat.min_eq_left (by omega)]
theorem shr_small {k : IntKind} {x y j : Int} (h : shr k x y = j) (hy : y ≤ k.bits) : x / 2 ^ y.toNat = j := by rw [← h]; unfold shr; rw [Nat.min_eq_left (by omega)]
namespace Kd
section
variable {α : Type} {d : Kd α} {e base : Nat} {ok : Nat → Prop} {W w1 : World} {v : Value} {xs : List α}
end
section
variable {α : Type} {d : Kd α} {e base g n cap : Nat} {ok oki okp : Nat → Prop} {W : World} {xs : List α} {i : Int} {c : List Value}
end
section
variable {α : Type} {d : Kd α} {e base b b' g N : Nat} {ok ok1 : Nat → Prop} {W W2 w1 : World} {u v : Value} {xs ys : List α} {S : Nat → Prop}
end
end Kd
end Go.Proofs.YtfpfnolpoklefaaGreatDoorW.PrintWords
namespace Go.Proofs.YtfpfnolpoklefaaGreatDoorW.PrintWords
open Go.RowKit
namespace Kd
section
variable {α β : Type} {d : Kd α} {e base base' n m c g N' lo hi : Nat} {ok ok' S : Nat → Prop} {w W w1 : World} {A : Option Addr} {ad : Addr} {u v v1 : Value} {xs : List α}
theorem FK_slice_mk {l : List α} (hl : l.length ≤ c) (hf : F d W ok A l.length l) : FK (Kd.slice e d) W ok l [.slice A l.length c] := fun W' hW => ⟨A, c, rfl, hl, hf W' hW⟩
end
end Kd
end Go.Proofs.YtfpfnolpoklefaaGreatDoorW.PrintWords
-- PRINTED WORDS (module Derived/Print/Sized.lean): go-gate-2's, for the rows of laws over slices: an AI agent of Go's test side, Tue Nov 17 2026; no person has read it. Lean checks it.
namespace Go.Proofs.YtfpfnolpoklefaaGreatDoorW.PrintWords
open Go.ChangeShapes Go.WideShapes
end Go.Proofs.YtfpfnolpoklefaaGreatDoorW.PrintWords
/- What a disk of the program is in memory, and what its calls leave as it was: words for the contracts of package disk. -/
namespace Go.Proofs.YtfpfnolpoklefaaGreatDoor.Dk
open Go.RowKit Go.Proofs.YtfpfnolpoklefaaGreatDoorW.PrintWords Go.Proofs.YtfpfnolpoklefaaGreatDoorW.PrintLast Go.Proofs.YtfpfnolpoklefaaGreatDoorW.PrintMore
set_option linter.unusedVariables false
set_option linter.unusedSimpArgs false
set_option maxRecDepth 30000

/-- All blocks but those of F are as they were. -/
structure Upd (w w' : World) (F : Nat → Prop) : Prop where
  os : w'.os = w.os
  tape : w'.tape = w.tape
  output : w'.output = w.output
  size : w.heap.size ≤ w'.heap.size
  block : ∀ k, k < w.heap.size → ¬ F k → w'.heap[k]? = w.heap[k]?
/-- F, and what was made between two worlds. -/
def Grow (F : Nat → Prop) (w w' : World) (k : Nat) : Prop := F k ∨ (w.heap.size ≤ k ∧ k < w'.heap.size)
section
variable {w w1 w2 : World} {F G : Nat → Prop}
theorem Upd.refl (w : World) (F : Nat → Prop) : Upd w w F := ⟨rfl, rfl, rfl, Nat.le_refl _, fun _ _ _ => rfl⟩
theorem Upd.trans (h : Upd w w1 F) (k : Upd w1 w2 G) (hs : ∀ k, G k → F k ∨ w.heap.size ≤ k) : Upd w w2 F :=
  ⟨k.os.trans h.os, k.tape.trans h.tape, k.output.trans h.output, Nat.le_trans h.size k.size, fun i hi hn => (k.block i (Nat.lt_of_lt_of_le hi h.size) (fun hg => (hs i hg).elim hn (fun h3 => by omega))).trans (h.block i hi hn)⟩
theorem Upd.of_below (h : Below w.heap.size w w1) : Upd w w1 F := ⟨h.os, h.tape, h.output, h.size, fun i hi _ => h.block i hi⟩
theorem Upd.below (h : Upd w w1 F) (hF : ∀ k, F k → w.heap.size ≤ k) : Below w.heap.size w w1 := ⟨h.os, h.tape, h.output, h.size, fun i hi => h.block i hi (fun hf => by have := hF i hf; omega)⟩
theorem Upd.of_grown {row : Option Nat} (h : w.grownBy w1 row) (hr : ∀ k, row = some k → F k) : Upd w w1 F := ⟨h.os, h.tape, h.output, h.size, fun i hi hn => h.block i hi (fun he => hn (hr i he.symm))⟩
theorem Upd.drew (h : Upd w w1 F) : Upd w w1.drew F := ⟨h.os, h.tape, h.output, h.size, h.block⟩
theorem Upd.setCell (h : Upd w w1 F) {p : Addr} (hp : F p.block ∨ w.heap.size ≤ p.block) (u : Value) : Upd w (w1.setCell p u) F :=
  h.trans (G := fun k => k = p.block) ⟨rfl, rfl, rfl, by simp [World.setCell], fun i _ hn => Below.heap_setCell w1 p u i hn⟩ (fun k hk => by rw [hk]; exact hp)
theorem Upd.kept (h : Upd w w1 F) : Kept w w1 F := ⟨h.size, h.block⟩
end

/-- A sector's 64 cells. -/
def kSec : Kd (List Int) where
  sz := 64
  E := []
  K := fun _ x cs => cs = nums .u8 x ∧ x.length = 64
  M := fun _ _ _ x cs => cs = nums .u8 x ∧ x.length = 64
  K_len := fun h => by rw [h.1, nums_length, h.2]
  K_one := fun h u hu => by
    rw [h.1] at hu
    simp only [nums, List.mem_map] at hu
    obtain ⟨_, _, rfl⟩ := hu
    rfl
  K_below := fun _ h => h
  K_of_M := fun h => h
  M_mono := fun _ h => h
  M_bound := fun h => h
  M_move := fun _ h => h
  M_lower := fun _ h => h
/-- A held write's 65 cells. -/
def kHeld : Kd (Int × List Int) where
  sz := 65
  E := []
  K := fun _ x cs => cs = .int .i64 x.1 :: nums .u8 x.2 ∧ x.2.length = 64
  M := fun _ _ _ x cs => cs = .int .i64 x.1 :: nums .u8 x.2 ∧ x.2.length = 64
  K_len := fun h => by rw [h.1, List.length_cons, nums_length, h.2]
  K_one := fun h u hu => by
    rw [h.1] at hu
    simp only [nums, List.mem_cons, List.mem_map] at hu
    rcases hu with rfl | ⟨_, _, rfl⟩ <;> rfl
  K_below := fun _ h => h
  K_of_M := fun h => h
  M_mono := fun _ h => h
  M_bound := fun h => h
  M_move := fun _ h => h
  M_lower := fun _ h => h

/-- A disk, as plain data. -/
structure DM where
  sec : List (List Int)
  held : List (Int × List Int)
  down : Bool
  strokes : Int
  left : Int
  set : Bool
  choice : List Bool

/-- A disk in memory: its struct in block g, its rows in blocks of F, all from B on. -/
structure DAt (w : World) (B g : Nat) (F : Nat → Prop) (D : DM) (vs vh vc : Value) : Prop where
  blk : w.heap[g]? = some (.cells #[vs, vh, .bool D.down, .int .i64 D.strokes, .int .i64 D.left, .bool D.set, vc] 73 (0, 0))
  sec : Kd.R kSec 75 w B F vs D.sec
  held : Kd.R kHeld 97 w B F vh D.held
  choice : Kd.R Kd.bool 4 w B F vc D.choice
  own : F g
  lt : ∀ k, F k → B ≤ k ∧ k < w.heap.size
def DiskAt (w : World) (B g : Nat) (F : Nat → Prop) (D : DM) : Prop := ∃ vs vh vc, DAt w B g F D vs vh vc
section
variable {w w1 : World} {B g : Nat} {F G : Nat → Prop} {D : DM} {vs vh vc : Value}
theorem DAt.cell (h : DAt w B g F D vs vh vc) (j : Nat) : w.cell? ⟨g, j, none⟩ = #[vs, vh, .bool D.down, .int .i64 D.strokes, .int .i64 D.left, .bool D.set, vc][j]? := by simp [World.cell?, h.blk]
theorem DAt.free (h : DAt w B g F D vs vh vc) (j : Nat) : w.frozen? ⟨g, j, none⟩ = false := by simp [World.frozen?, h.blk]
theorem DAt.c0 (h : DAt w B g F D vs vh vc) : w.cell? ⟨g, 0, none⟩ = some vs := h.cell 0
theorem DAt.c1 (h : DAt w B g F D vs vh vc) : w.cell? ⟨g, 1, none⟩ = some vh := h.cell 1
theorem DAt.c2 (h : DAt w B g F D vs vh vc) : w.cell? ⟨g, 2, none⟩ = some (.bool D.down) := h.cell 2
theorem DAt.c3 (h : DAt w B g F D vs vh vc) : w.cell? ⟨g, 3, none⟩ = some (.int .i64 D.strokes) := h.cell 3
theorem DAt.c4 (h : DAt w B g F D vs vh vc) : w.cell? ⟨g, 4, none⟩ = some (.int .i64 D.left) := h.cell 4
theorem DAt.c5 (h : DAt w B g F D vs vh vc) : w.cell? ⟨g, 5, none⟩ = some (.bool D.set) := h.cell 5
theorem DAt.c6 (h : DAt w B g F D vs vh vc) : w.cell? ⟨g, 6, none⟩ = some vc := h.cell 6
/-- Another object was written. -/
theorem DAt.frame (h : DAt w B g F D vs vh vc) (hu : Upd w w1 G) (hd : ∀ k, F k → ¬ G k) : DAt w1 B g F D vs vh vc where
  blk := (hu.block g (h.lt g h.own).2 (hd g h.own)).trans h.blk
  sec := Kd.R_kept h.sec hu.kept hd
  held := Kd.R_kept h.held hu.kept hd
  choice := Kd.R_kept h.choice hu.kept hd
  own := h.own
  lt := fun k hk => ⟨(h.lt k hk).1, Nat.lt_of_lt_of_le (h.lt k hk).2 hu.size⟩
theorem DAt.mono (h : DAt w B g F D vs vh vc) (hs : ∀ k, F k → G k) (hl : ∀ k, G k → B ≤ k ∧ k < w.heap.size) : DAt w B g G D vs vh vc :=
  ⟨h.blk, Kd.R_mono h.sec hs, Kd.R_mono h.held hs, Kd.R_mono h.choice hs, hs g h.own, hl⟩
theorem DAt.below (h : DAt w B g F D vs vh vc) (hb : Below w.heap.size w w1) : DAt w1 B g F D vs vh vc := h.frame (G := fun _ => False) (Upd.of_below hb) (fun _ _ h => h)
theorem R_setBlk {α : Type} {d : Kd α} {e : Nat} {v : Value} {xs : List α} {cs : Array Value} (h : d.R e w B F v xs) (hb : w.heap[g]? = some (.cells cs 73 (0, 0))) (ht : ∀ q, q ∈ e :: d.E → q ≠ 73) (j : Nat) (u : Value) : d.R e (w.setCell ⟨g, j, none⟩ u) B F v xs := Kd.R_set h hb ht j u
/-- A store into one of the struct's fields. -/
theorem DAt.put (h : DAt w B g F D vs vh vc) (j : Nat) (u : Value) (D' : DM) (vs' vh' vc' : Value) (hc : (#[vs, vh, .bool D.down, .int .i64 D.strokes, .int .i64 D.left, .bool D.set, vc] : Array Value).setIfInBounds j u = #[vs', vh', .bool D'.down, .int .i64 D'.strokes, .int .i64 D'.left, .bool D'.set, vc'])
    (hs : Kd.R kSec 75 w B F vs' D'.sec) (hh : Kd.R kHeld 97 w B F vh' D'.held) (hch : Kd.R Kd.bool 4 w B F vc' D'.choice) : DAt (w.setCell ⟨g, j, none⟩ u) B g F D' vs' vh' vc' where
  blk := by rw [heap_setCell_same w g j _ 73 u h.blk, hc]
  sec := R_setBlk hs h.blk (by simp [kSec]) j u
  held := R_setBlk hh h.blk (by simp [kHeld]) j u
  choice := R_setBlk hch h.blk (by simp [Kd.bool, Kd.scalar]) j u
  own := h.own
  lt := fun k hk => ⟨(h.lt k hk).1, by simpa [World.setCell] using (h.lt k hk).2⟩
theorem DAt.putDown (h : DAt w B g F D vs vh vc) (b : Bool) : DAt (w.setCell ⟨g, 2, none⟩ (.bool b)) B g F { D with down := b } vs vh vc := h.put 2 (.bool b) { D with down := b } vs vh vc rfl h.sec h.held h.choice
theorem DAt.putStrokes (h : DAt w B g F D vs vh vc) (n : Int) : DAt (w.setCell ⟨g, 3, none⟩ (.int .i64 n)) B g F { D with strokes := n } vs vh vc := h.put 3 (.int .i64 n) { D with strokes := n } vs vh vc rfl h.sec h.held h.choice
theorem DAt.putLeft (h : DAt w B g F D vs vh vc) (n : Int) : DAt (w.setCell ⟨g, 4, none⟩ (.int .i64 n)) B g F { D with left := n } vs vh vc := h.put 4 (.int .i64 n) { D with left := n } vs vh vc rfl h.sec h.held h.choice
theorem DAt.putSet (h : DAt w B g F D vs vh vc) (b : Bool) : DAt (w.setCell ⟨g, 5, none⟩ (.bool b)) B g F { D with set := b } vs vh vc := h.put 5 (.bool b) { D with set := b } vs vh vc rfl h.sec h.held h.choice
theorem DAt.putChoice (h : DAt w B g F D vs vh vc) (vc' : Value) (l : List Bool) (hc : Kd.R Kd.bool 4 w B F vc' l) : DAt (w.setCell ⟨g, 6, none⟩ vc') B g F { D with choice := l } vs vh vc' := h.put 6 vc' { D with choice := l } vs vh vc' rfl h.sec h.held hc
theorem DAt.upd (h : DAt w B g F D vs vh vc) (j : Nat) (u : Value) : Upd w (w.setCell ⟨g, j, none⟩ u) F := (Upd.refl w F).setCell (.inl h.own) u
theorem DAt.mk_put (hb : w.heap[g]? = some (.cells #[vs, vh, .bool D.down, .int .i64 D.strokes, .int .i64 D.left, .bool D.set, vc] 73 (0, 0))) (j : Nat) (u : Value) (D' : DM) (vs' vh' vc' : Value) (hc : (#[vs, vh, .bool D.down, .int .i64 D.strokes, .int .i64 D.left, .bool D.set, vc] : Array Value).setIfInBounds j u = #[vs', vh', .bool D'.down, .int .i64 D'.strokes, .int .i64 D'.left, .bool D'.set, vc'])
    (hs : Kd.R kSec 75 w B F vs' D'.sec) (hh : Kd.R kHeld 97 w B F vh' D'.held) (hch : Kd.R Kd.bool 4 w B F vc' D'.choice) (ho : F g) (hl : ∀ k, F k → B ≤ k ∧ k < w.heap.size) : DAt (w.setCell ⟨g, j, none⟩ u) B g F D' vs' vh' vc' where
  blk := by rw [heap_setCell_same w g j _ 73 u hb, hc]
  sec := R_setBlk hs hb (by simp [kSec]) j u
  held := R_setBlk hh hb (by simp [kHeld]) j u
  choice := R_setBlk hch hb (by simp [Kd.bool, Kd.scalar]) j u
  own := ho
  lt := fun k hk => ⟨(hl k hk).1, by simpa [World.setCell] using (hl k hk).2⟩
/-- Rows of another element type than one that was written. -/
theorem R_other {α β : Type} {d : Kd α} {d2 : Kd β} {e e2 : Nat} {v v2 : Value} {xs : List α} {ys : List β} (h : d.R e w B F v xs) (h2 : d2.R e2 w B F v2 ys) (hE : d.E = []) (hne : e ≠ e2) (hg : w.grownBy w1 v2.ownBlock) : d.R e w1 B F v xs := by
  refine Kd.R_mono (Kd.R_move (Kd.R_bound h) (fun k hk => ?_)) (fun k hk => hk.1)
  obtain ⟨_, _, hlt, q, hq, cells, hc⟩ := hk
  refine hg.block k hlt (fun he => ?_)
  obtain ⟨inner, ho⟩ := Kd.R_own h2
  obtain ⟨cells2, hc2⟩ := own_typed ho k he.symm
  rw [hc] at hc2
  injection hc2 with hc2
  injection hc2 with _ hc2 _
  rw [hE] at hq
  simp only [List.mem_cons, List.not_mem_nil, or_false] at hq
  exact hne (hq ▸ hc2)
theorem blk_other {β : Type} {d2 : Kd β} {e e2 : Nat} {v2 : Value} {ys : List β} {cs : Array Value} (hb : w.heap[g]? = some (.cells cs e (0, 0))) (h2 : d2.R e2 w B F v2 ys) (hne : e ≠ e2) (hg : w.grownBy w1 v2.ownBlock) : w1.heap[g]? = some (.cells cs e (0, 0)) := by
  have hlt : g < w.heap.size := blk_lt hb
  refine (hg.block g hlt (fun he => ?_)).trans hb
  obtain ⟨inner, ho⟩ := Kd.R_own h2
  obtain ⟨cells2, hc2⟩ := own_typed ho g he.symm
  rw [hb] at hc2
  injection hc2 with hc2
  injection hc2 with _ hc2 _
  exact hne hc2
theorem Upd.of_row {β : Type} {d2 : Kd β} {e2 : Nat} {v2 : Value} {ys : List β} (h2 : d2.R e2 w B F v2 ys) (hg : w.grownBy w1 v2.ownBlock) : Upd w w1 F := Upd.of_grown hg (fun k hk => h2.1 k hk)
end
/-- A whole struct or array is read: its cells, one behind the other. -/
theorem run_loadAt_cells {P : Program} {w : World} (ty : TypeId) {d : TypeDesc} (hu : P.underlying ty = some d) (hd : (match d with | .struct _ | .array _ _ => true | _ => false) = true) (g o : Nat) (c : List Value) (hi : (P.info? ty).map (·.size) = some c.length)
    (hc : ∀ j u, c[j]? = some u → w.cell? ⟨g, o + j, none⟩ = some u) : (Instr.loadAt ty (.pointer (some ⟨g, o, none⟩))).run P w = .ok (.agg c.toArray) w := by
  have hl : (loadCells ⟨g, o, none⟩ c.length).run P w = .ok c.toArray w := run_loadCells_list (P := P) w ⟨g, o, none⟩ c (fun j v hv => by
    have hadd : (⟨g, o, none⟩ : Addr).add j = ⟨g, o + j, none⟩ := by unfold Addr.add; split <;> simp_all
    rw [hadd]; exact hc j v hv)
  obtain ⟨i, hi1, hi2⟩ := Option.map_eq_some_iff.1 hi
  have ha : (isAgg ty).run P w = .ok true w := by
    unfold isAgg
    cases d <;> simp_all [run_underlying hu]
  have hs : (sizeOf ty).run P w = .ok c.length w := by simp [sizeOf, typeInfo, hi1, hi2]
  simp [Instr.loadAt, Instr.sureAddr, loadVar, ha, hs, hl]
theorem wpStill_load {P : Program} {ops : Array Oper} {w : World} {Q : Act → Prop} {a : Act} {o : Oper} {rest : List Oper} (hgd : o.guard = none) (ty : TypeId) (x : Operand) (ho : o.op = .load ty x) (v : Value) (hrun : (Instr.loadAt ty (a.eval x)).run P w = .ok v w)
    (h : wpStill P ops w Q rest (a.put o.dst v)) : wpStill P ops w Q (o :: rest) a := by
  refine wpStill_step fun K hK => ?_
  have hw : Region.wanted o (yielded ops a.tmps) = true := by simp [Region.wanted, hgd]
  rw [if_pos hw]
  have he : (execOp a.eval o).run P w = .ok (.value v) w := by
    unfold execOp
    simp [ho, hrun]
  unfold Oper.still
  rw [he, Oper.stillUpon_value]
  exact hK _ h
theorem wpList_load {P : Program} {ops : Array Oper} {w : World} {Q : Exit → Act → World → Prop} {a : Act} {o : Oper} {rest : List Oper} (hgd : o.guard = none) (ty : TypeId) (x : Operand) (ho : o.op = .load ty x) (v : Value) (hrun : (Instr.loadAt ty (a.eval x)).run P w = .ok v w)
    (h : wpList P ops Q rest (a.put o.dst v) w) : wpList P ops Q (o :: rest) a w := by
  refine wpList_plain hgd fun K hK => ?_
  have he : (execOp a.eval o).run P w = .ok (.value v) w := by
    unfold execOp
    simp [ho, hrun]
  unfold Oper.wp
  rw [he, Oper.upon_value]
  exact hK _ _ h
theorem wpList_store {P : Program} {ops : Array Oper} {w w1 : World} {Q : Exit → Act → World → Prop} {a : Act} {o : Oper} {rest : List Oper} (hN : o.dst = none) (hgd : o.guard = none) (ty : TypeId) (p x : Operand) (ho : o.op = .store ty p x) (hrun : (Instr.storeAt ty (a.eval p) (a.eval x)).run P w = .ok () w1)
    (h : wpList P ops Q rest a w1) : wpList P ops Q (o :: rest) a w := by
  refine wpList_plain hgd fun K hK => ?_
  unfold Oper.wp execOp
  simp only [ho, Sem.run_bind, Sem.run_pure, Result.andThen_ok, hrun]
  show K (a.put o.dst undef) _
  rw [hN]
  exact hK a _ h
theorem size64 : (Tryz.prog.info? 75).map (·.size) = some 64 := by kernel_rfl
theorem size67 : (Tryz.prog.info? 97).map (·.size) = some 65 := by kernel_rfl
theorem one_zero (z : Array Value) (hz : ∀ q ∈ z.toList, q.oneCell' = true) (hs : 0 < z.size) (n : Nat) : ∀ q ∈ (Builtin.zeroCells z n).toList, q.oneCell' = true := by
  intro q hq
  simp only [Builtin.zeroCells, Array.toList_map, List.mem_map] at hq
  obtain ⟨i, _, rfl⟩ := hq
  have hi : i % z.size < z.size := Nat.mod_lt _ hs
  rw [getElem!_pos z _ hi]
  exact hz _ (by simp)
/-- 'clear(v)', v a row of one's own: its cells are other ones; the row as an empty one stays. -/
theorem run_clear_row {P : Program} {α : Type} {d : Kd α} {e : Nat} {w : World} {B : Nat} {F : Nat → Prop} {A : Option Addr} {n c : Nat} {xs : List α} (t ty : TypeId) (z : Value) (ht : P.underlying t = some (.slice e)) (hz : ∀ w, (zeroValue e).run P w = .ok z w) (hzs : z.cells.size = d.sz) (hsz : 0 < d.sz) (hz1 : ∀ q ∈ z.cells.toList, q.oneCell' = true)
    (h : d.R e w B F (.slice A n c) xs) : ∃ w1, (Builtin.clear_ #[t] ty #[.slice A n c]).run P w = .ok (.tuple #[]) w1 ∧ w.grownBy w1 (Value.slice A n c).ownBlock ∧ d.R e w1 B F (.slice A 0 c) [] := by
  obtain ⟨h0, inner, ho, hr⟩ := h
  rcases ho.2 with hv | ⟨g, cap, cur, hv, hg, hh, hn, hc, hcs, htk⟩
  · obtain ⟨hv, hn0⟩ := hv
    injection hv with h1 h2 h3
    subst h1; subst h2; subst h3
    refine ⟨w, ?_, ⟨rfl, rfl, rfl, Nat.le_refl _, fun _ _ _ => rfl⟩, Kd.R_nil _ _ _ _ _⟩
    simp [Builtin.clear_, run_underlying ht]
  · injection hv with h1 h2 h3
    subst h1; subst h2; subst h3
    by_cases hz0 : xs.length = 0
    · refine ⟨w, ?_, ⟨rfl, rfl, rfl, Nat.le_refl _, fun _ _ _ => rfl⟩, fun k hk => h0 k hk, [], ⟨by simp, .inr ⟨g, c, cur, rfl, hg, hh, Nat.zero_le _, hc, hcs, by simp⟩⟩, Reps.none _ _⟩
      rw [hz0]
      simp [Builtin.clear_, run_underlying ht]
    · obtain ⟨zs, hzs'⟩ : ∃ zs, zs = (Builtin.zeroCells z.cells xs.length).toList := ⟨_, rfl⟩
      have hlen : zs.length = xs.length * d.sz := by rw [hzs', Array.length_toList, size_zeroCells, hzs]
      have h1 : ∀ q ∈ zs, q.oneCell' = true := by rw [hzs']; exact one_zero _ hz1 (by omega) _
      have hle : xs.length * d.sz ≤ c * d.sz := Nat.mul_le_mul_right _ hn
      have hst := run_storeCells_cells (P := P) g 0 zs 0 w (fun j hj => by rw [cell_of_row w g _ cur e (0, 0) hh]; simp; omega) (fun j _ => blk_frozen hh _) h1
      simp only [Nat.add_zero] at hst
      obtain ⟨cur', h3, h4, h5⟩ := setCells_row zs 0 w cur hh (by omega)
      obtain ⟨s1, s2, s3, s4⟩ := setCells_same g zs 0 w
      refine ⟨w.setCells g 0 zs, ?_, ⟨s1, s2, s3, by rw [s4]; exact Nat.le_refl _, fun k _ hk => setCells_far _ _ k (fun he => hk (by rw [he]; simp [Value.ownBlock]))⟩, fun k hk => h0 k hk, [], ⟨by simp, .inr ⟨g, c, cur', rfl, hg, h3, Nat.zero_le _, hc, by rw [h4, hcs], by simp⟩⟩, Reps.none _ _⟩
      obtain ⟨m, hm⟩ : ∃ m, xs.length = m + 1 := ⟨xs.length - 1, by omega⟩
      rw [hzs', hm] at hst ⊢
      simp [Builtin.clear_, run_underlying ht, hz, hst]
theorem zero67 (w : World) : (zeroValue 97).run Tryz.prog w = .ok (.agg (.int .i64 0 :: List.replicate 64 (.int .u8 0)).toArray) w := by kernel_rfl
end Go.Proofs.YtfpfnolpoklefaaGreatDoor.Dk
/- Contracts of package disk's small methods: Up, Strokes, Held, Size, ready, at, Start, goes. -/
namespace Go.Proofs.YtfpfnolpoklefaaGreatDoor.Dk
open Go.RowKit Go.Proofs.YtfpfnolpoklefaaGreatDoorW.PrintWords Go.Proofs.YtfpfnolpoklefaaGreatDoorW.PrintLast Go.Proofs.YtfpfnolpoklefaaGreatDoorW.PrintMore
set_option linter.unusedVariables false
set_option linter.unusedSimpArgs false
set_option maxRecDepth 30000
variable {w : World} {B g : Nat} {F : Nat → Prop} {D : DM} {vs vh vc : Value}

theorem Up_calls (h : DAt w B g F D vs vh vc) : Calls Tryz.prog 25 #[.pointer (some ⟨g, 0, none⟩)] w fun e w' => e = .returned (.bool (!D.down)) ∧ w = w' := by
  have h2 := h.c2
  clear h
  go_enter Tryz.func25, Tryz.ntmps25
  go_wp2
  go_ret
  exact ⟨rfl, rfl⟩
theorem Size_calls (h : DAt w B g F D vs vh vc) : Calls Tryz.prog 32 #[.pointer (some ⟨g, 0, none⟩)] w fun e w' => e = .returned (.int .i64 (D.sec.length : Int)) ∧ w = w' := by
  obtain ⟨A, c, rfl, _⟩ := Kd.R_reads h.sec
  have h2 := h.c0
  clear h
  go_enter Tryz.func32, Tryz.ntmps32
  go_wp2
  go_ret
  exact ⟨rfl, rfl⟩
def readyM (D : DM) : Int := if D.down = true then 60 else 0
theorem ready_calls (h : DAt w B g F D vs vh vc) : Calls Tryz.prog 40 #[.pointer (some ⟨g, 0, none⟩)] w fun e w' => e = .returned (.int .i64 (readyM D)) ∧ w = w' := by
  have h2 := h.c2
  clear h
  cases hd : D.down with
  | true =>
    rw [hd] at h2
    have hr := Lib.hid (show readyM D = 60 by simp [readyM, hd])
    clear hd
    go_enter Tryz.func40, Tryz.ntmps40
    go_wp2
    go_ret
    exact ⟨by rw [hr.out] <;> rfl, rfl⟩
  | false =>
    rw [hd] at h2
    have hr := Lib.hid (show readyM D = 0 by simp [readyM, hd])
    clear hd
    go_enter Tryz.func40, Tryz.ntmps40
    go_wp2
    go_ret
    exact ⟨by rw [hr.out] <;> rfl, rfl⟩
def atM (D : DM) (k : Int) : Int := if D.down = true then 60 else if k < 0 ∨ (D.sec.length : Int) ≤ k then 61 else 0
theorem at_calls (h : DAt w B g F D vs vh vc) (k : Int) : Calls Tryz.prog 51 #[.pointer (some ⟨g, 0, none⟩), .int .i64 k] w fun e w' => e = .returned (.int .i64 (atM D k)) ∧ w = w' := by
  have H := Aside0.mk h
  obtain ⟨A, c, rfl, _⟩ := Kd.R_reads h.sec
  have h2 := h.c0
  clear h
  cases hd : D.down with
  | true =>
    have hr := Lib.hid (show atM D k = 60 by simp [atM, hd])
    have hq := Lib.hid (show readyM D = 60 by simp [readyM, hd])
    clear hd
    go_enter Tryz.func51, Tryz.ntmps51
    go_wp2_with (first | (go_at_call 40; refine (ready_calls H.out).mono ?_; rintro e w' ⟨rfl, rfl⟩; rw [hq.out]))
    go_ret
    exact ⟨by rw [hr.out] <;> rfl, rfl⟩
  | false =>
    have hq := Lib.hid (show readyM D = 0 by simp [readyM, hd])
    by_cases hk : k < 0
    · have hr := Lib.hid (show atM D k = 61 by simp [atM, hd, hk])
      clear hd
      go_enter Tryz.func51, Tryz.ntmps51
      go_wp2_with (first | (go_at_call 40; refine (ready_calls H.out).mono ?_; rintro e w' ⟨rfl, rfl⟩; rw [hq.out]))
      go_ret
      exact ⟨by rw [hr.out] <;> rfl, rfl⟩
    · by_cases hk2 : (D.sec.length : Int) ≤ k
      · have hr := Lib.hid (show atM D k = 61 by simp [atM, hd, hk2])
        clear hd
        go_enter Tryz.func51, Tryz.ntmps51
        go_wp2_with (first | (go_at_call 40; refine (ready_calls H.out).mono ?_; rintro e w' ⟨rfl, rfl⟩; rw [hq.out]))
        go_ret
        exact ⟨by rw [hr.out] <;> rfl, rfl⟩
      · have hr := Lib.hid (show atM D k = 0 by simp [atM, hd, hk, hk2])
        clear hd
        go_enter Tryz.func51, Tryz.ntmps51
        go_wp2_with (first | (go_at_call 40; refine (ready_calls H.out).mono ?_; rintro e w' ⟨rfl, rfl⟩; rw [hq.out]))
        go_ret
        exact ⟨by rw [hr.out] <;> rfl, rfl⟩
def goesM (D : DM) : DM × Bool :=
  if D.set = false then ({ D with strokes := wrap64 (D.strokes + 1) }, false) else if D.left > 0 then ({ D with strokes := wrap64 (D.strokes + 1), left := D.left - 1 }, false) else ({ D with strokes := wrap64 (D.strokes + 1) }, true)
theorem goes_calls (h : DAt w B g F D vs vh vc) (hl : D.left ≤ 9223372036854775807) : Calls Tryz.prog 64 #[.pointer (some ⟨g, 0, none⟩)] w fun e w' => e = .returned (.bool (goesM D).2) ∧ DAt w' B g F (goesM D).1 vs vh vc ∧ Upd w w' F := by
  have H := Aside0.mk h
  have hf := h.free
  have h3 := h.c3
  have h4 := h.c4
  have h5 := h.c5
  have H1 := Aside0.mk (h.putStrokes (wrap64 (D.strokes + 1)))
  have HU := Aside0.mk (h.upd 3 (.int .i64 (wrap64 (D.strokes + 1))))
  clear h
  cases hs : D.set with
  | false =>
    rw [hs] at h5
    have hq := Lib.hid (show goesM D = ({ D with strokes := wrap64 (D.strokes + 1) }, false) by simp [goesM, hs])
    clear hs
    go_enter Tryz.func64, Tryz.ntmps64
    go_wp2
    go_ret
    exact ⟨by rw [hq.out] <;> rfl, by rw [hq.out]; exact H1.out, HU.out⟩
  | true =>
    rw [hs] at h5
    by_cases h0 : D.left > 0
    · have hq := Lib.hid (show goesM D = ({ D with strokes := wrap64 (D.strokes + 1), left := D.left - 1 }, false) by simp [goesM, hs, h0])
      clear hs
      have H2 := Aside0.mk (H1.out.putLeft (D.left - 1))
      have HU2 := Aside0.mk (HU.out.trans (H1.out.upd 4 (.int .i64 (D.left - 1))) (fun _ h => .inl h))
      go_enter Tryz.func64, Tryz.ntmps64
      go_wp2
      go_ret
      exact ⟨by rw [hq.out] <;> rfl, by rw [hq.out]; exact H2.out, HU2.out⟩
    · have hq := Lib.hid (show goesM D = ({ D with strokes := wrap64 (D.strokes + 1) }, true) by simp [goesM, hs, h0])
      clear hs
      go_enter Tryz.func64, Tryz.ntmps64
      go_wp2
      go_ret
      exact ⟨by rw [hq.out] <;> rfl, by rw [hq.out]; exact H1.out, HU.out⟩
end Go.Proofs.YtfpfnolpoklefaaGreatDoor.Dk
/- Contracts of package disk: what is held is put into its sectors. -/
namespace Go.Proofs.YtfpfnolpoklefaaGreatDoor.Dk
open Go.RowKit Go.Proofs.YtfpfnolpoklefaaGreatDoorW.PrintWords Go.Proofs.YtfpfnolpoklefaaGreatDoorW.PrintLast Go.Proofs.YtfpfnolpoklefaaGreatDoorW.PrintMore
set_option linter.unusedVariables false
set_option linter.unusedSimpArgs false
set_option maxRecDepth 30000
variable {w : World} {B g : Nat} {F : Nat → Prop} {D : DM} {vs vh vc : Value}

theorem Flush1_calls (i : Int) (w : World) : Calls Tryz.prog 65 #[.int .i64 i] w fun e w' => e = .returned (.bool true) ∧ w = w' := by
  go_enter Tryz.func65, Tryz.ntmps65
  go_wp2
  go_ret
  exact ⟨rfl, rfl⟩
/-- A row of one's own: nil, or from the head of a block on. -/
theorem R_cases {α : Type} {d : Kd α} {e : Nat} {w : World} {base : Nat} {ok : Nat → Prop} {v : Value} {xs : List α} (h : d.R e w base ok v xs) : (v = .slice none 0 0 ∧ xs = []) ∨ ∃ g cap, v = .slice (some ⟨g, 0, none⟩) xs.length cap ∧ base ≤ g := by
  obtain ⟨_, inner, ho, hr⟩ := h
  rcases ho.2 with hz | ⟨g, cap, cur, hv, hg, _⟩
  · exact .inl ⟨hz.1, List.eq_nil_of_length_eq_zero hz.2⟩
  · exact .inr ⟨g, cap, hv, hg⟩
theorem add0 (g n : Nat) : (⟨g, 0, none⟩ : Addr).add n = ⟨g, n, none⟩ := by
  unfold Addr.add
  by_cases h : n = 0 <;> simp [h]
def chB (l : List Bool) (i : Nat) : Bool := l.getD i false
theorem Lose1_calls (i : Nat) (g3 : Nat) (A : Option Addr) (c : Nat) (l : List Bool) (w : World) (hi : i ≤ 1000000000) (h3 : w.cell? ⟨g3, 0, none⟩ = some (.slice A l.length c)) (hC : Kd.C Kd.bool w A l.length l) :
    Calls Tryz.prog 34 #[.int .i64 i, .pointer (some ⟨g3, 0, none⟩)] w fun e w' => e = .returned (.bool (chB l i)) ∧ w = w' := by
  by_cases hl : i < l.length
  · obtain ⟨ad, c1, rfl, hsz, hK, hx⟩ := Kd.C_get hC false (i : Int) (by omega) (by omega)
    have hcell : w.cell? (ad.add i) = some (.bool (chB l i)) := by
      have e : c1 = [.bool (l.getD i false)] := by simpa [Kd.bool, Kd.scalar] using hK
      have := hx 0 (.bool (l.getD i false)) (by rw [e]; rfl)
      simpa [Kd.bool, Kd.scalar, chB] using this
    clear hK hx hsz
    have t1 : decide ((i : Int) < (l.length : Int)) = true := decide_eq_true (by omega)
    go_enter Tryz.func34, Tryz.ntmps34
    go_wp2
    go_ret
    exact ⟨rfl, rfl⟩
  · have t1 : decide ((i : Int) < (l.length : Int)) = false := decide_eq_false (by omega)
    have hz := Lib.hid (show chB l i = false by simp [chB, List.getD_eq_getElem?_getD, List.getElem?_eq_none (Nat.le_of_not_lt hl)])
    have t2 : decide (i < l.length) = false := decide_eq_false hl
    go_enter Tryz.func34, Tryz.ntmps34
    go_wp2
    go_ret
    exact ⟨by rw [hz.out] <;> rfl, rfl⟩
/-- The sectors when the first n held writes were put where keep says so. -/
def putsTo (keep : Nat → Bool) (held : List (Int × List Int)) (sec : List (List Int)) : Nat → List (List Int)
  | 0 => sec
  | n + 1 => if keep n = true then (putsTo keep held sec n).set (held.getD n (0, [])).1.toNat (held.getD n (0, [])).2 else putsTo keep held sec n
theorem putsTo_length (keep : Nat → Bool) (held : List (Int × List Int)) (sec : List (List Int)) : ∀ n, (putsTo keep held sec n).length = sec.length
  | 0 => rfl
  | n + 1 => by
    unfold putsTo
    split
    · rw [List.length_set, putsTo_length]
    · exact putsTo_length keep held sec n
def putsM (keep : Nat → Bool) (D : DM) : DM := { D with sec := putsTo keep D.held D.sec D.held.length, held := [] }
/-- A disk's held writes lie on it, and nothing on it is too long. -/
structure DOk (D : DM) : Prop where
  at_ : ∀ h ∈ D.held, 0 ≤ h.1 ∧ h.1 < (D.sec.length : Int)
  n1 : D.sec.length ≤ 16384
  n2 : D.held.length ≤ 10000000
  n3 : D.choice.length ≤ 4096
  l1 : D.left ≤ 9223372036854775807
set_option maxHeartbeats 1000000 in
theorem puts_calls (h : DAt w B g F D vs vh vc) (hok : DOk D) (fid : Nat) (caps : Array Value) (keep : Nat → Bool) (Inv : World → Prop) (hInv : ∀ W W', Inv W → Upd W W' F → Kd.R Kd.bool 4 W' B F vc D.choice → Inv W') (hw : Inv w)
    (hcf : ∀ (i : Int) (W : World), (callFunc fid (#[Value.int .i64 i] ++ caps)).run Tryz.prog W = .ok (.enter fid (#[Value.int .i64 i] ++ caps)) W)
    (hk : ∀ (i : Nat) (W : World), Inv W → i < D.held.length → Calls Tryz.prog fid (#[Value.int .i64 i] ++ caps) W fun e W' => e = .returned (.bool (keep i)) ∧ W = W') :
    Calls Tryz.prog 33 #[.pointer (some ⟨g, 0, none⟩), .func (.func fid) #[] caps] w fun e w' => e = .returned (.tuple #[]) ∧ DiskAt w' B g F (putsM keep D) ∧ Upd w w' F := by
  have H := Aside0.mk h
  obtain ⟨As, cs, rfl, hsl, _⟩ := Kd.R_reads h.sec
  obtain ⟨Ah, ch, rfl, hhl, _⟩ := Kd.R_reads h.held
  have h1 := h.c1
  have HI := Aside0.mk hInv
  have HW := Aside0.mk hw
  have HK := Aside0.mk hk
  have HOK := Aside0.mk hok
  clear h hInv hw hk hok
  go_enter Tryz.func33, Tryz.ntmps33
  go_wp2
  go_loopw [4, 10] (fun v4 v10 w' => ∃ i : Nat, v10 = .int .i64 i ∧ i ≤ D.held.length ∧ Aside0 (DAt w' B g F { D with sec := putsTo keep D.held D.sec i } (.slice As D.sec.length cs) (.slice Ah D.held.length ch) vc) ∧ Aside0 (Upd w w' F) ∧ Aside0 (Inv w')) (fun _ v10 _ => D.held.length - (intOf v10).toNat)
  case atStart => exact ⟨0, rfl, Nat.zero_le _, H, ⟨Upd.refl _ _⟩, HW⟩
  case round =>
    obtain ⟨i, rfl, hi, HD, HU, HV⟩ := hrel
    clear h1
    have hn2 := HOK.out.n2
    by_cases hlt : i < D.held.length
    · cases hkp : keep i with
      | false =>
        have HP := Aside0.mk (show putsTo keep D.held D.sec (i + 1) = putsTo keep D.held D.sec i by simp [putsTo, hkp])
        have HKI := Aside0.mk (HK.out i wr HV.out hlt)
        clear HK
        go_wp2_with fail
        refine HKI.out.mono ?_
        rintro e w2 ⟨rfl, rfl⟩
        rw [hkp]
        go_wp2
        go_roundw
        case rel => exact ⟨i + 1, by go_num, by omega, ⟨by rw [HP.out]; exact HD.out⟩, HU, HV⟩
        case measure => simp [intOf]; omega
      | true =>
        have HP := Aside0.mk (show putsTo keep D.held D.sec (i + 1) = (putsTo keep D.held D.sec i).set (D.held.getD i (0, [])).1.toNat (D.held.getD i (0, [])).2 by simp [putsTo, hkp])
        have HKI := Aside0.mk (HK.out i wr HV.out hlt)
        obtain ⟨ha0, ha1⟩ := HOK.out.at_ (D.held.getD i (0, [])) (by rw [List.getD_eq_getElem?_getD, List.getElem?_eq_getElem hlt]; exact List.getElem_mem hlt)
        obtain ⟨a, b, hab⟩ : ∃ a b, D.held.getD i (0, []) = (a, b) := ⟨_, _, rfl⟩
        rw [hab] at HP ha0 ha1
        dsimp only at HP ha0 ha1
        rcases R_cases HD.out.held with ⟨_, hz⟩ | ⟨gh, caph, eh, hgh⟩
        · have : D.held.length = 0 := by rw [hz]; rfl
          omega
        rcases R_cases HD.out.sec with ⟨_, hz⟩ | ⟨gs, caps', es, hgs⟩
        · have : (putsTo keep D.held D.sec i).length = 0 := congrArg List.length hz
          rw [putsTo_length] at this
          omega
        injection eh with eh1 eh2 eh3
        injection es with es1 es2 es3
        subst eh1; subst es1
        clear eh2 eh3 es2 es3
        obtain ⟨ad, c1, e1, hsz1, hK1, hx1⟩ := Kd.C_get (Kd.R_reads' HD.out.held).2.2 (0, []) (i : Int) (by omega) (by show (i : Int) < (D.held.length : Int); omega)
        injection e1 with e1
        subst e1
        rw [Int.toNat_natCast, hab] at hK1
        obtain ⟨hK1, hb64⟩ := hK1
        have hca : wr.cell? ⟨gh, i * 65, none⟩ = some (.int .i64 a) := by
          have := hx1 0 (.int .i64 a) (by rw [hK1]; rfl)
          have e : (⟨gh, 0, none⟩ : Addr).add ((i : Int).toNat * kHeld.sz + 0) = ⟨gh, i * 65, none⟩ := by rw [add0]; simp [kHeld]
          rwa [e] at this
        have hlb : (Instr.loadAt 75 (.pointer (some ⟨gh, i * 65 + 1, none⟩))).run Tryz.prog wr.drew = .ok (.agg (nums .u8 b).toArray) wr.drew := by
          refine run_loadAt_cells 75 Tryz.underlying75 rfl gh (i * 65 + 1) (nums .u8 b) (by rw [nums_length, hb64]; exact size64) (fun j u hu => ?_)
          have := hx1 (j + 1) u (by rw [hK1]; simpa using hu)
          have e : (⟨gh, 0, none⟩ : Addr).add ((i : Int).toNat * kHeld.sz + (j + 1)) = ⟨gh, i * 65 + 1 + j, none⟩ := by rw [add0]; simp [kHeld]; omega
          rw [e] at this
          exact this
        have h0 := HD.out.c0
        have h1 := HD.out.c1
        have hf := HD.out.free
        have HLB := Aside0.mk hlb
        clear hlb hx1 hK1 hsz1
        go_wp2_with fail
        refine HKI.out.mono ?_
        rintro e w2 ⟨rfl, rfl⟩
        rw [hkp]
        go_wp2
        refine wp_region_still_tail 21 (by kernel_rfl) (by kernel_rfl) ?_
        simp only [List.take_succ_cons, List.take_zero, List.drop_succ_cons, List.drop_zero]
        change wpStill _ _ wr.drew _ _ _
        repeat (first | (refine wpStill_load rfl 75 (.tmp 34) rfl _ HLB.out ?_) | still_step)
        refine wpStill_nil ?_
        change wpList _ _ _ _ _ wr.drew
        obtain ⟨ad2, c2, e2, hsz2, hK2, hx2⟩ := Kd.C_get (Kd.R_reads' HD.out.sec).2.2 [] a (by omega) (by show a < ((putsTo keep D.held D.sec i).length : Int); rw [putsTo_length]; omega)
        injection e2 with e2
        subst e2
        refine Kd.R_store kSec (w0 := wr.drew) B rfl rfl 75 (.tmp 36) (.tmp 35) rfl 75 (g := gs) (n := D.sec.length) (cap := cs) (o' := a.toNat * 64) a 0 (putsTo keep D.held D.sec i) b (.agg (nums .u8 b).toArray) (nums .u8 b) c2 F (fun _ => False) rfl rfl rfl rfl (by rw [nums_length, hb64]; exact size64) (by intro q hq; simp only [nums, List.mem_map] at hq; obtain ⟨_, _, rfl⟩ := hq; rfl) HD.out.sec ha0 ha1 hsz2 ?hcc (by rw [nums_length, hb64]; decide) ?hM (fun _ h => h.elim) (Below.refl _ _) ?_
        case hcc =>
          intro j u hu
          have := hx2 j u hu
          rw [add0] at this
          exact this
        case hM => exact ⟨by rw [List.take_zero, List.nil_append, nums_length, hb64, Nat.zero_add, List.drop_of_length_le (show c2.length ≤ 64 from Nat.le_of_eq hsz2), List.append_nil], hb64⟩
        intro w5 hr5 hb5 hg5d
        have hg5 : wr.grownBy w5 (Value.slice (some ⟨gs, 0, none⟩) D.sec.length cs).ownBlock := ⟨hg5d.os, hg5d.tape, hg5d.output, hg5d.size, hg5d.block⟩
        clear hg5d
        have hD5 : DAt w5 B g F { D with sec := putsTo keep D.held D.sec (i + 1) } (.slice (some ⟨gs, 0, none⟩) D.sec.length cs) (.slice (some ⟨gh, 0, none⟩) D.held.length ch) vc := by
          rw [HP.out]
          exact ⟨blk_other HD.out.blk HD.out.sec (by decide) hg5, hr5, R_other HD.out.held HD.out.sec rfl (by decide) hg5, R_other HD.out.choice HD.out.sec rfl (by decide) hg5, HD.out.own, fun k hk => ⟨(HD.out.lt k hk).1, Nat.lt_of_lt_of_le (HD.out.lt k hk).2 hg5.size⟩⟩
        have HD5 := Aside0.mk hD5
        have HU5 := Aside0.mk (HU.out.trans (Upd.of_row (w := wr) HD.out.sec (w1 := w5) hg5) (fun _ h => .inl h))
        have HV5 := Aside0.mk (HI.out wr w5 HV.out (Upd.of_row (w := wr) HD.out.sec (w1 := w5) hg5) HD5.out.choice)
        clear hD5 hr5 hb5 hg5 hx2 hK2 hsz2
        go_wp2
        go_roundw
        case rel => exact ⟨i + 1, by go_num, by omega, HD5, HU5, HV5⟩
        case measure => simp [intOf]; omega
    · obtain rfl : i = D.held.length := by omega
      obtain ⟨w3, hclr, hg3, hr3⟩ := run_clear_row 71 0 _ Tryz.underlying71 zero67 rfl (by decide) (by decide) HD.out.held
      have h1 := HD.out.c1
      have hb3 := blk_other HD.out.blk HD.out.held (by decide) hg3
      have hs3 := R_other HD.out.sec HD.out.held rfl (by decide) hg3
      have hc3 := R_other HD.out.choice HD.out.held rfl (by decide) hg3
      have HU3 := Aside0.mk (HU.out.trans (Upd.of_row HD.out.held hg3) (fun _ h => .inl h))
      have h31 : w3.cell? ⟨g, 1, none⟩ = some (.slice Ah D.held.length ch) := by simp [World.cell?, hb3]
      have hf3 : ∀ j, w3.frozen? ⟨g, j, none⟩ = false := fun j => by simp [World.frozen?, hb3]
      have H4 := Aside0.mk (DAt.mk_put (D := { D with sec := putsTo keep D.held D.sec D.held.length }) hb3 1 (.slice Ah 0 ch) (putsM keep D) (.slice As D.sec.length cs) (.slice Ah 0 ch) vc rfl hs3 hr3 hc3 HD.out.own (fun k hk => ⟨(HD.out.lt k hk).1, Nat.lt_of_lt_of_le (HD.out.lt k hk).2 hg3.size⟩))
      clear hb3 hs3 hc3 hr3 hg3
      have HU4 := Aside0.mk (HU3.out.setCell (p := ⟨g, 1, none⟩) (.inl HD.out.own) (.slice Ah 0 ch))
      go_wp2
      go_end0
      exact ⟨rfl, ⟨_, _, _, H4.out⟩, HU4.out⟩
end Go.Proofs.YtfpfnolpoklefaaGreatDoor.Dk
/- Contracts of package disk: Lose, Flush, Set. -/
namespace Go.Proofs.YtfpfnolpoklefaaGreatDoor.Dk
open Go.RowKit Go.Proofs.YtfpfnolpoklefaaGreatDoorW.PrintWords Go.Proofs.YtfpfnolpoklefaaGreatDoorW.PrintLast Go.Proofs.YtfpfnolpoklefaaGreatDoorW.PrintMore
set_option linter.unusedVariables false
set_option linter.unusedSimpArgs false
set_option maxRecDepth 30000
variable {w : World} {B g : Nat} {F : Nat → Prop} {D : DM} {vs vh vc : Value}

theorem C_take {α : Type} {d : Kd α} {w : World} {A : Option Addr} {n : Nat} {xs : List α} (h : d.C w A n xs) (m : Nat) : d.C w A (xs.take m).length (xs.take m) := by
  obtain ⟨h1, h2, h3⟩ := h
  refine ⟨rfl, by simp; omega, fun hp => ?_⟩
  obtain ⟨ad, ha, hc⟩ := h3 (by simp at hp; omega)
  refine ⟨ad, ha, fun j p hj => hc j p ?_⟩
  have hj' := hj
  rw [List.getElem?_take] at hj'
  split at hj'
  · exact hj'
  · cases hj'
theorem l35 {caps : Array Value} (i : Int) (W : World) : (callFunc 34 (#[Value.int .i64 i] ++ caps)).run Tryz.prog W = .ok (.enter 34 (#[Value.int .i64 i] ++ caps)) W := by
  simp [callFunc, Tryz.func34, Tryz.f34]
def loseM (l : List Bool) (D : DM) : DM := if D.down = true then D else { putsM (chB (l.take 4096)) D with down := true }
/-- What Lose's closure reads. -/
structure LoseInv (w : World) (F : Nat → Prop) (A : Option Addr) (l : List Bool) (c : Nat) (W : World) : Prop where
  upd : Upd w W F
  box : W.heap[w.heap.size]? = some (.cells #[.slice A (l.take 4096).length c] 59 (0, 0))
  ch : Kd.C Kd.bool W A (l.take 4096).length (l.take 4096)
def loseInv := LoseInv
theorem loseInv_step {A : Option Addr} {c : Nat} {l : List Bool} (h : DAt w B g F D vs vh vc) (hC : ∀ W', Upd w W' F → Kd.R Kd.bool 4 W' B F vc D.choice → Kd.C Kd.bool W' A l.length l) :
    ∀ W W', loseInv w F A l c W → Upd W W' F → Kd.R Kd.bool 4 W' B F vc D.choice → loseInv w F A l c W' := fun W W' hi hu hr => by
  have hU := hi.upd.trans hu (fun _ h => .inl h)
  exact ⟨hU, (hu.block _ (blk_lt hi.box) (fun hf => by have := (h.lt _ hf).2; omega)).trans hi.box, C_take (hC W' hU hr) 4096⟩
theorem loseInv_call {A : Option Addr} {c : Nat} {l : List Bool} {W : World} (hi : loseInv w F A l c W) (i : Nat) (hle : i ≤ 1000000000) :
    Calls Tryz.prog 34 (#[Value.int .i64 i] ++ #[.pointer (some ⟨w.heap.size, 0, none⟩)]) W fun e W' => e = .returned (.bool (chB (l.take 4096) i)) ∧ W = W' :=
  Lose1_calls i w.heap.size A c (l.take 4096) W hle (cell_of_one hi.box) hi.ch
theorem loseInv_start {A : Option Addr} {m : Nat} {l : List Bool} (h : DAt w B g F D vs vh vc) (hC : ∀ W', Upd w W' F → Kd.R Kd.bool 4 W' B F vc D.choice → Kd.C Kd.bool W' A l.length l) (n : Nat) (hn : n = (l.take 4096).length) :
    loseInv w F A l m (w.alloc (.cells #[.slice A n m] 59)) := by
  subst hn
  have hu' : Upd w (w.alloc (.cells #[.slice A (l.take 4096).length m] 59)) F := Upd.of_below (below_alloc (Below.refl _ _) _)
  exact ⟨hu', heap_alloc_new w _, C_take (hC _ hu' (h.below (below_alloc (Below.refl _ _) _)).choice) 4096⟩
set_option maxHeartbeats 1000000 in
theorem Lose_calls (h : DAt w B g F D vs vh vc) (hok : DOk D) (A : Option Addr) (c : Nat) (l : List Bool) (hc : l.length ≤ c)
    (hC : ∀ W', Upd w W' F → Kd.R Kd.bool 4 W' B F vc D.choice → Kd.C Kd.bool W' A l.length l) :
    Calls Tryz.prog 11 #[.pointer (some ⟨g, 0, none⟩), .slice A l.length c] w fun e w' => e = .returned (.tuple #[]) ∧ DiskAt w' B g F (loseM l D) ∧ Upd w w' F := by
  have H := Aside0.mk h
  have HC := Aside0.mk hC
  have HOK := Aside0.mk hok
  have HL := Aside0.mk hc
  have H1 := Aside0.mk (h.below (below_alloc (Below.refl _ _) (.cells #[.slice A l.length c] 59)))
  have HUA := Aside0.mk (Upd.of_below (F := F) (below_alloc (Below.refl w.heap.size w) (.cells #[.slice A l.length c] 59)))
  clear h hC hok hc
  cases hd : D.down with
  | true =>
    have hq := Lib.hid (show loseM l D = D by simp [loseM, hd])
    have hdn := Lib.hid hd
    clear hd
    go_enter Tryz.func11, Tryz.ntmps11
    go_wp2_with (first | (go_at_call 25; refine (Up_calls H1.out).mono ?_; rintro e w' ⟨rfl, rfl⟩; rw [hdn.out]))
    refine bodyPost_ret (results_none rfl _ _ _) rfl ?_
    exact ⟨rfl, by rw [hq.out]; exact ⟨_, _, _, H1.out⟩, HUA.out⟩
  | false =>
    have hdn := Lib.hid hd
    have hq := Lib.hid (show loseM l D = { putsM (chB (l.take 4096)) D with down := true } by simp [loseM, hd])
    clear hd
    have hlc := HL.out
    by_cases h4 : l.length ≤ 4096
    · have e4 : (l.take 4096).length = l.length := by rw [List.take_of_length_le h4]
      have I2 := Aside0.mk (loseInv_start H.out HC.out (m := c) l.length e4.symm)
      clear e4
      go_enter Tryz.func11, Tryz.ntmps11
      go_wp2_with (first | (go_at_call 25; refine (Up_calls H1.out).mono ?_; rintro e w' ⟨rfl, rfl⟩; rw [hdn.out]))
      refine (puts_calls H1.out HOK.out 34 #[.pointer (some ⟨w.heap.size, 0, none⟩)] (chB (l.take 4096)) (loseInv w F A l c) (loseInv_step H.out HC.out) ?i2 l35 ?i3).mono ?_
      case i2 => exact I2.out
      case i3 => exact fun i W hW hi => loseInv_call hW i (by have := HOK.out.n2; omega)
      rintro e w3 ⟨rfl, ⟨vs', vh', vc', H3⟩, HU3⟩
      have H3' := Aside0.mk (H3.putDown true)
      have HU3' := Aside0.mk ((HUA.out.trans HU3 (fun _ h => .inl h)).trans (H3.upd 2 (.bool true)) (fun _ h => .inl h))
      have h2 := H3.c2
      have hf := H3.free
      clear H3 HU3
      go_wp2
      go_end0
      exact ⟨rfl, by rw [hq.out]; exact ⟨_, _, _, H3'.out⟩, HU3'.out⟩
    · have e4 : (l.take 4096).length = 4096 := by simp; omega
      have hc4 : 4096 ≤ c := by omega
      have hl4 : 4096 < l.length := by omega
      have H1b := Aside0.mk (H.out.below (below_alloc (Below.refl _ _) (.cells #[.slice A 4096 c] 59)))
      have HUAb := Aside0.mk (Upd.of_below (F := F) (below_alloc (Below.refl w.heap.size w) (.cells #[.slice A 4096 c] 59)))
      have I2 := Aside0.mk (loseInv_start H.out HC.out (m := c) 4096 e4.symm)
      clear e4
      go_enter Tryz.func11, Tryz.ntmps11
      go_wp2_with (first | (go_at_call 25; refine (Up_calls H1.out).mono ?_; rintro e w' ⟨rfl, rfl⟩; rw [hdn.out]))
      refine (puts_calls H1b.out HOK.out 34 #[.pointer (some ⟨w.heap.size, 0, none⟩)] (chB (l.take 4096)) (loseInv w F A l c) (loseInv_step H.out HC.out) ?i2 l35 ?i3).mono ?_
      case i2 => exact I2.out
      case i3 => exact fun i W hW hi => loseInv_call hW i (by have := HOK.out.n2; omega)
      rintro e w3 ⟨rfl, ⟨vs', vh', vc', H3⟩, HU3⟩
      have H3' := Aside0.mk (H3.putDown true)
      have HU3' := Aside0.mk ((HUAb.out.trans HU3 (fun _ h => .inl h)).trans (H3.upd 2 (.bool true)) (fun _ h => .inl h))
      have h2 := H3.c2
      have hf := H3.free
      clear H3 HU3
      go_wp2
      go_end0
      exact ⟨rfl, by rw [hq.out]; exact ⟨_, _, _, H3'.out⟩, HU3'.out⟩
theorem putsM_ok (keep : Nat → Bool) {D : DM} (h : DOk D) : DOk (putsM keep D) :=
  ⟨fun x hx => by simp [putsM] at hx, by simp only [putsM, putsTo_length]; exact h.n1, Nat.zero_le _, h.n3, h.l1⟩
theorem loseM_ok (l : List Bool) {D : DM} (h : DOk D) : DOk (loseM l D) := by
  unfold loseM
  split
  · exact h
  · have := putsM_ok (chB (l.take 4096)) h
    exact ⟨this.at_, this.n1, this.n2, this.n3, this.l1⟩
theorem goesM_ok {D : DM} (h : DOk D) : DOk (goesM D).1 := by
  unfold goesM
  split
  · exact ⟨h.at_, h.n1, h.n2, h.n3, h.l1⟩
  · split
    · exact ⟨h.at_, h.n1, h.n2, h.n3, by have := h.l1; simp only; omega⟩
    · exact ⟨h.at_, h.n1, h.n2, h.n3, h.l1⟩
/-- The choice of one's own, handed over. -/
theorem own_choice {A : Option Addr} {c : Nat} (h : DAt w B g F D vs vh (.slice A D.choice.length c)) : ∀ W', Upd w W' F → Kd.R Kd.bool 4 W' B F (.slice A D.choice.length c) D.choice → Kd.C Kd.bool W' A D.choice.length D.choice := fun W' _ hr => (Kd.R_reads' hr).2.2
def flushM (D : DM) : DM × Int :=
  if D.down = true then (D, 60) else if (goesM D).2 = true then (loseM (goesM D).1.choice (goesM D).1, 60) else (putsM (fun _ => true) (goesM D).1, 0)
theorem f34 (i : Int) (W : World) : (callFunc 65 (#[Value.int .i64 i] ++ #[])).run Tryz.prog W = .ok (.enter 65 (#[Value.int .i64 i] ++ #[])) W := by
  simp [callFunc, Tryz.func65, Tryz.f65]
set_option maxHeartbeats 1000000 in
theorem Flush_calls (h : DAt w B g F D vs vh vc) (hok : DOk D) :
    Calls Tryz.prog 50 #[.pointer (some ⟨g, 0, none⟩)] w fun e w' => e = .returned (.int .i64 (flushM D).2) ∧ DiskAt w' B g F (flushM D).1 ∧ Upd w w' F := by
  have H := Aside0.mk h
  have HOK := Aside0.mk hok
  clear h hok
  cases hd : D.down with
  | true =>
    have hq := Lib.hid (show flushM D = (D, 60) by simp [flushM, hd])
    have hr := Lib.hid (show readyM D = 60 by simp [readyM, hd])
    clear hd
    go_enter Tryz.func50, Tryz.ntmps50
    go_wp2_with (first | (go_at_call 40; refine (ready_calls H.out).mono ?_; rintro e w' ⟨rfl, rfl⟩; rw [hr.out]))
    go_ret
    exact ⟨by rw [hq.out] <;> rfl, by rw [hq.out]; exact ⟨_, _, _, H.out⟩, Upd.refl _ _⟩
  | false =>
    have hr := Lib.hid (show readyM D = 0 by simp [readyM, hd])
    cases hg : (goesM D).2 with
    | true =>
      have hq := Lib.hid (show flushM D = (loseM (goesM D).1.choice (goesM D).1, 60) by simp [flushM, hd, hg])
      have hg' := Lib.hid hg
      clear hd hg
      go_enter Tryz.func50, Tryz.ntmps50
      go_wp2_with (first | (go_at_call 40; refine (ready_calls H.out).mono ?_; rintro e w' ⟨rfl, rfl⟩; rw [hr.out]) | (go_at_call 64; refine (goes_calls H.out HOK.out.l1).mono ?_; rintro e w1 ⟨rfl, h1, hu1⟩; rw [hg'.out]; obtain ⟨Ac, cc, rfl, hlc, _⟩ := Kd.R_reads h1.choice; have H1 := Aside0.mk h1; have HU1 := Aside0.mk hu1; have HLC := Aside0.mk hlc; have hc6 := h1.c6; clear h1 hu1 hlc) | (go_at_call 11; refine (Lose_calls H1.out (goesM_ok HOK.out) Ac cc _ HLC.out (own_choice H1.out)).mono ?_; rintro e w2 ⟨rfl, h2, hu2⟩; have H2 := Aside0.mk h2; have HU2 := Aside0.mk hu2; clear h2 hu2))
      go_ret
      exact ⟨by rw [hq.out] <;> rfl, by rw [hq.out]; exact H2.out, HU1.out.trans HU2.out (fun _ h => .inl h)⟩
    | false =>
      have hq := Lib.hid (show flushM D = (putsM (fun _ => true) (goesM D).1, 0) by simp [flushM, hd, hg])
      have hg' := Lib.hid hg
      clear hd hg
      go_enter Tryz.func50, Tryz.ntmps50
      go_wp2_with (first | (go_at_call 40; refine (ready_calls H.out).mono ?_; rintro e w' ⟨rfl, rfl⟩; rw [hr.out]) | (go_at_call 64; refine (goes_calls H.out HOK.out.l1).mono ?_; rintro e w1 ⟨rfl, h1, hu1⟩; rw [hg'.out]; have H1 := Aside0.mk h1; have HU1 := Aside0.mk hu1; clear h1 hu1) | (go_at_call 33; refine (puts_calls H1.out (goesM_ok HOK.out) 65 #[] (fun _ => true) (fun _ => True) (fun _ _ _ _ _ => trivial) trivial f34 (fun i W _ _ => Flush1_calls i W)).mono ?_; rintro e w2 ⟨rfl, h2, hu2⟩; have H2 := Aside0.mk h2; have HU2 := Aside0.mk hu2; clear h2 hu2))
      go_ret
      exact ⟨by rw [hq.out] <;> rfl, by rw [hq.out]; exact H2.out, HU1.out.trans HU2.out (fun _ h => .inl h)⟩
theorem flushM_ok {D : DM} (h : DOk D) : DOk (flushM D).1 := by
  unfold flushM
  split
  · exact h
  · split
    · exact loseM_ok _ (goesM_ok h)
    · exact putsM_ok _ (goesM_ok h)
end Go.Proofs.YtfpfnolpoklefaaGreatDoor.Dk
/- Contracts of package disk: Set, Write. -/
namespace Go.Proofs.YtfpfnolpoklefaaGreatDoor.Dk
open Go.RowKit Go.Proofs.YtfpfnolpoklefaaGreatDoorW.PrintWords Go.Proofs.YtfpfnolpoklefaaGreatDoorW.PrintLast Go.Proofs.YtfpfnolpoklefaaGreatDoorW.PrintMore
set_option linter.unusedVariables false
set_option linter.unusedSimpArgs false
set_option maxRecDepth 30000
section
variable {w w1 : World} {B g : Nat} {F : Nat → Prop} {D : DM} {vs vh vc : Value}
theorem R_grow {α : Type} {d : Kd α} {e : Nat} {v : Value} {xs : List α} (h : d.R e w1 B (fun k => F k ∨ w.heap.size ≤ k) v xs) : d.R e w1 B (Grow F w w1) v xs :=
  Kd.R_mono (Kd.R_bound h) (fun k hk => hk.1.imp id (fun h => ⟨h, hk.2.2.1⟩))
theorem DAt.grow (h : DAt w1 B g F D vs vh vc) (hB : B ≤ w.heap.size) : DAt w1 B g (Grow F w w1) D vs vh vc :=
  h.mono (fun _ h => .inl h) (fun k hk => by
    rcases hk with hk | hk
    · exact h.lt k hk
    · exact ⟨by omega, hk.2⟩)
theorem DAt.regrow {w2 : World} (h : DAt w2 B g (Grow F w w1) D vs vh vc) (hs : w1.heap.size = w2.heap.size) : DAt w2 B g (Grow F w w2) D vs vh vc := by
  have e : Grow F w w1 = Grow F w w2 := by funext k; simp [Grow, hs]
  rw [← e]; exact h
theorem DAt.hB (h : DAt w B g F D vs vh vc) : B ≤ w.heap.size := by
  have := h.lt g h.own
  omega
theorem info4 : (Tryz.prog.info? 4).map (fun i => (i.zero, i.size, i.bytes)) = some (some (.bool false), 1, 1) := by kernel_rfl
theorem info5 : (Tryz.prog.info? 5).map (fun i => (i.zero, i.size, i.bytes)) = some (some (.int .u8 0), 1, 1) := by kernel_rfl
theorem info67' : (Tryz.prog.info? 97).map (fun i => (i.zero, i.size, i.bytes)) = some (some (.agg (.int .i64 0 :: List.replicate 64 (.int .u8 0)).toArray), 65, 72) := by kernel_rfl
theorem info64' : (Tryz.prog.info? 75).map (fun i => (i.zero, i.size, i.bytes)) = some (some (.agg (List.replicate 64 (.int .u8 0)).toArray), 64, 64) := by kernel_rfl
def setM (D : DM) (n : Int) (l : List Bool) : DM × Int := if n < 0 then (D, 1) else if (l.length : Int) > 4096 then (D, 2) else ({ D with set := true, left := n, choice := l }, 0)
set_option maxHeartbeats 1000000 in
theorem Set_calls (h : DAt w B g F D vs vh vc) (n : Int) (A : Option Addr) (c : Nat) (l : List Bool) (hC : Kd.C Kd.bool w A l.length l) :
    Calls Tryz.prog 23 #[.pointer (some ⟨g, 0, none⟩), .int .i64 n, .slice A l.length c] w fun e w' => e = .returned (.int .i64 (setM D n l).2) ∧ DiskAt w' B g (Grow F w w') (setM D n l).1 ∧ Upd w w' F := by
  have H := Aside0.mk h
  have HC := Aside0.mk hC
  have hB := h.hB
  clear h hC
  by_cases hn : n < 0
  · have hq := Lib.hid (show setM D n l = (D, 1) by simp [setM, hn])
    go_enter Tryz.func23, Tryz.ntmps23
    go_wp2
    go_ret
    exact ⟨by rw [hq.out] <;> rfl, by rw [hq.out]; exact ⟨_, _, _, H.out.grow hB⟩, Upd.refl _ _⟩
  · by_cases hl : (l.length : Int) > 4096
    · have hq := Lib.hid (show setM D n l = (D, 2) by simp [setM, hn, hl])
      go_enter Tryz.func23, Tryz.ntmps23
      go_wp2
      go_ret
      exact ⟨by rw [hq.out] <;> rfl, by rw [hq.out]; exact ⟨_, _, _, H.out.grow hB⟩, Upd.refl _ _⟩
    · have hq := Lib.hid (show setM D n l = ({ D with set := true, left := n, choice := l }, 0) by simp [setM, hn, hl])
      have hl2 := Lib.hid hl
      go_enter Tryz.func23, Tryz.ntmps23
      go_wp2_with (first | ((with_reducible refine gate_builtin (b := .append) (xs := #[.const (.slice none 0 0), .tmp 21]) rfl ?_); at_builtin; refine Kd.R_append_rows Kd.bool (Rr := Kd.bool.K w) (w0 := w) B rfl (.const (.slice none 0 0)) (.tmp 21) 59 4 (.bool false) 1 rfl Tryz.underlying59 info4 rfl (by decide) (by omega) (.slice none 0 0) [] l A l.length c (fun k => F k ∨ w.heap.size ≤ k) (fun _ => False) rfl rfl (Kd.R_nil _ _ _ _ _) HC.out (fun _ _ h => h) (fun _ h => h.elim) (fun _ h => .inr h) (Below.refl _ _) hB ?aL ?_; (case aL => have := hl2.out; simp; omega); intro v1 w1 hr1 hb1 hg1 _; simp only [List.nil_append] at hr1; obtain ⟨A1, c1, rfl⟩ := Kd.R_slice hr1; have H1 := Aside0.mk (H.out.below (Below.mono (B := w.heap.size) ⟨hg1.os, hg1.tape, hg1.output, hg1.size, fun k hk => hg1.block k hk (by simp [Value.ownBlock])⟩ (Nat.le_refl _))); have HU1 := Aside0.mk (Upd.of_grown (F := F) hg1 (by simp [Value.ownBlock])); have HR1 := Aside0.mk (R_grow hr1); clear hr1 hb1 hg1; have H1g := Aside0.mk (H1.out.grow hB); have hf := H1.out.free; have h4 := H1.out.c4; have h5 := H1.out.c5; have h6 := H1.out.c6))
      have H2 := H1g.out.putSet true
      have H3 := H2.putLeft n
      have H4 := H3.putChoice (.slice A1 l.length c1) l (R_setBlk (R_setBlk HR1.out H1.out.blk (by simp [Kd.bool, Kd.scalar]) 5 (.bool true)) H2.blk (by simp [Kd.bool, Kd.scalar]) 4 (.int .i64 n))
      have HU := ((HU1.out.trans (H1.out.upd 5 (.bool true)) (fun _ h => .inl h)).setCell (p := ⟨g, 4, none⟩) (.inl H.out.own) (.int .i64 n)).setCell (p := ⟨g, 6, none⟩) (.inl H.out.own) (.slice A1 l.length c1)
      go_ret
      refine ⟨by rw [hq.out] <;> rfl, ?_, HU⟩
      rw [hq.out]
      exact ⟨_, _, _, H4.regrow (by simp [World.setCell])⟩
end
end Go.Proofs.YtfpfnolpoklefaaGreatDoor.Dk
/- Contracts of package disk: Write. -/
namespace Go.Proofs.YtfpfnolpoklefaaGreatDoor.Dk
open Go.RowKit Go.Proofs.YtfpfnolpoklefaaGreatDoorW.PrintWords Go.Proofs.YtfpfnolpoklefaaGreatDoorW.PrintLast Go.Proofs.YtfpfnolpoklefaaGreatDoorW.PrintMore
set_option linter.unusedVariables false
set_option linter.unusedSimpArgs false
set_option maxRecDepth 30000
section
variable {P : Program} {ops : Array Oper} {Q : Exit → Act → World → Prop}
theorem load_ {oi : Oper} {N : Option Tmp} {a : Act} {w : World} {v : Value} {K : Act → World → Prop} (hw : Region.wanted oi (yielded ops a.tmps) = true) (hN : oi.dst = N) (ty : TypeId) (x : Operand) (ho : oi.op = .load ty x) (hrun : (Instr.loadAt ty (a.eval x)).run P w = .ok v w)
    (h : K (a.put N v) w) : if Region.wanted oi (yielded ops a.tmps) = true then Oper.wp P oi a w K Q else K (a.put N undef) w := by
  refine value_ hw hN ?_ h
  unfold execOp
  simp [ho, hrun]
/-- A whole array is read, from wherever it lies. -/
theorem run_loadAt_at {P : Program} {w : World} (ty : TypeId) {d : TypeDesc} (hu : P.underlying ty = some d) (hd : (match d with | .struct _ | .array _ _ => true | _ => false) = true) (ad : Addr) (c : List Value) (hi : (P.info? ty).map (·.size) = some c.length)
    (hc : ∀ j u, c[j]? = some u → w.cell? (ad.add j) = some u) : (Instr.loadAt ty (.pointer (some ad))).run P w = .ok (.agg c.toArray) w := by
  have hl : (loadCells ad c.length).run P w = .ok c.toArray w := run_loadCells_list (P := P) w ad c hc
  obtain ⟨i, hi1, hi2⟩ := Option.map_eq_some_iff.1 hi
  have ha : (isAgg ty).run P w = .ok true w := by
    unfold isAgg
    cases d <;> simp_all [run_underlying hu]
  have hs : (sizeOf ty).run P w = .ok c.length w := by simp [sizeOf, typeInfo, hi1, hi2]
  simp [Instr.loadAt, Instr.sureAddr, loadVar, ha, hs, hl]
end
variable {w : World} {B g : Nat} {F : Nat → Prop} {D : DM} {vs vh vc : Value}
/-- 64 bytes somewhere, read as a whole. -/
theorem load_sector {A : Option Addr} {x : List Int} (h : Kd.C (Kd.int .u8) w A x.length x) (hx : x.length = 64) : ∃ ad, A = some ad ∧ (Instr.loadAt 75 (.pointer (some ad))).run Tryz.prog w = .ok (.agg (nums .u8 x).toArray) w := by
  obtain ⟨h1, h2, h3⟩ := h
  obtain ⟨ad, ha, hc⟩ := h3 (by omega)
  refine ⟨ad, ha, run_loadAt_at 75 Tryz.underlying75 rfl ad _ (by rw [nums_length, hx]; exact size64) (fun j u hu => ?_)⟩
  simp only [nums, List.getElem?_map, Option.map_eq_some_iff] at hu
  obtain ⟨n, hn, rfl⟩ := hu
  obtain ⟨c, hsz, hK, hx1⟩ := hc j n hn
  have := hx1 0 (.int .u8 n) (by rw [hK]; rfl)
  simpa [Kd.int, Kd.scalar] using this
theorem arr64 (a : Option Addr) (c : Nat) (w : World) : (Instr.arrayAt 75 (.slice a 64 c)).run Tryz.prog w = .ok (.pointer a) w := by
  simp [Instr.arrayAt, run_underlying Tryz.underlying75]
attribute [local simp] arr64
theorem fold_all (off : Nat) (l : List Value) (cs : Array Value) (hs : cs.size = off + l.length) :
    (l.toArray.zipIdx.foldl (fun cs (x : Value × Nat) => cs.setIfInBounds (off + x.2) x.1) cs) = (cs.toList.take off ++ l).toArray := by
  have hz : (l.toArray.zipIdx.foldl (fun cs (x : Value × Nat) => cs.setIfInBounds (off + x.2) x.1) cs) = ((l.zipIdx 0).foldl (fun cs (x : Value × Nat) => cs.setIfInBounds (off + x.2) x.1) cs) := by
    rw [← Array.foldl_toList]; simp
  rw [hz]
  obtain ⟨h1, h2⟩ := Great.foldl_set off l 0 cs
  apply Array.ext_getElem?
  intro k
  rw [h2 k]
  by_cases hk : k < off
  · rw [if_neg (by omega)]
    simp [List.getElem?_append, hk, List.getElem?_take]
    omega
  · by_cases hk2 : k < off + l.length
    · rw [if_pos ⟨by omega, by omega, by omega⟩]
      simp [List.getElem?_append]
      rw [if_neg (by omega)]
      congr 1
      omega
    · rw [if_neg (by omega)]
      simp [List.getElem?_append]
      rw [if_neg (by omega), List.getElem?_eq_none (by omega), Array.getElem?_eq_none (by omega)]
theorem built67 (parts : List (Nat × Value)) : Tryz.prog.built 97 parts = Instr.fill ((#[(0, 1), (1, 64)] : Array (Nat × Nat))[·]?) (.int .i64 0 :: List.replicate 64 (.int .u8 0)).toArray parts := by kernel_rfl
theorem build67 (k : Int) (x : List Int) (hx : x.length = 64) (w : World) : (Instr.build 97 #[(0, .int .i64 k), (1, .agg (nums .u8 x).toArray)]).run Tryz.prog w = .ok (.agg (.int .i64 k :: nums .u8 x).toArray) w := by
  refine run_build w 97 _ _ ?_
  rw [built67]
  have hl : (nums .u8 x).length = 64 := by rw [nums_length, hx]
  obtain ⟨Z, hZ, hZl⟩ : ∃ Z : List Value, Z = List.replicate 64 (.int .u8 0) ∧ Z.length = 64 := ⟨_, rfl, rfl⟩
  rw [← hZ]
  clear hZ
  obtain ⟨l, hl'⟩ : ∃ l, l = nums .u8 x := ⟨_, rfl⟩
  rw [← hl'] at hl ⊢
  clear hl'
  have hf := fold_all 1 l (.int .i64 k :: Z).toArray (by simp [hl, hZl])
  simp only [Instr.fill]
  simp [Value.cells, hl, hZl]
  simpa using hf
theorem buildSlice58 (cs : List Value) (hl : cs.length = 65) (w : World) : (Instr.buildSlice 71 1 #[(0, .agg cs.toArray)]).run Tryz.prog w = .ok (.slice (some ⟨w.heap.size, 0, none⟩) 1 1) (w.alloc (.cells cs.toArray 97)) := by
  obtain ⟨ie, hie, hz⟩ := Option.map_eq_some_iff.1 info67'
  injection hz with hz1 hz2
  injection hz2 with hz2 hz3
  refine run_buildSlice w 71 97 1 _ _ ie _ Tryz.underlying71 hie hz1 (by rw [hz2]; decide) (by rw [hz2]; decide) ?_
  rw [hz2]
  have := Great.fill_whole (s := 65) (by decide) [.agg cs.toArray] ((Array.range (1 * 65)).map (fun i => (Value.agg (.int .i64 0 :: List.replicate 64 (.int .u8 0)).toArray).cells[i % (Value.agg (.int .i64 0 :: List.replicate 64 (.int .u8 0)).toArray).cells.size]!)) (by simp [Value.cells, hl]) (by simp)
  simpa [Value.cells] using this
theorem exec_build {P : Program} {ρ : Operand → Value} {o : Oper} {t : TypeId} {parts : Array (Nat × Operand)} {args : Array (Nat × Value)} {v : Value} {w : World} (ho : o.op = .build t parts) (he : parts.map (fun x => (x.1, ρ x.2)) = args) (hrun : (Instr.build t args).run P w = .ok v w) : (execOp ρ o).run P w = .ok (.value v) w := by
  subst he
  unfold execOp
  simp [ho, hrun]
theorem exec_buildSlice {P : Program} {ρ : Operand → Value} {o : Oper} {t : TypeId} {n : Nat} {parts : Array (Nat × Operand)} {args : Array (Nat × Value)} {v : Value} {w w1 : World} (ho : o.op = .buildSlice t n parts) (he : parts.map (fun x => (x.1, ρ x.2)) = args) (hrun : (Instr.buildSlice t n args).run P w = .ok v w1) : (execOp ρ o).run P w = .ok (.value v) w1 := by
  subst he
  unfold execOp
  simp [ho, hrun]
theorem Grow.out {w1 : World} {k : Nat} (h : Grow F w w1 k) : F k ∨ w.heap.size ≤ k := h.imp id (·.1)
theorem DiskAt.grow_to {w1 w2 : World} (h : DiskAt w2 B g (Grow F w w1) D) (hB : B ≤ w.heap.size) (hs : w1.heap.size ≤ w2.heap.size) (hl : ∀ k, F k → B ≤ k ∧ k < w.heap.size) : DiskAt w2 B g (Grow F w w2) D := by
  obtain ⟨a, b, c, h⟩ := h
  refine ⟨a, b, c, h.mono (fun k hk => hk.imp id (fun hk => ⟨hk.1, by omega⟩)) (fun k hk => ?_)⟩
  rcases hk with hk | hk
  · exact h.lt k (.inl hk)
  · exact ⟨by omega, hk.2⟩
def holdM (D : DM) (k : Int) (x : List Int) : DM := { D with held := D.held ++ [(k, x)] }
def writeM (D : DM) (k : Int) (x : List Int) : DM × Int :=
  if atM D k ≠ 0 then (D, atM D k) else if x.length ≠ 64 then (D, 1) else
  if (goesM (holdM D k x)).2 = true then (loseM (goesM (holdM D k x)).1.choice (goesM (holdM D k x)).1, 60) else ((goesM (holdM D k x)).1, 0)
theorem holdM_ok {k : Int} {x : List Int} (h : DOk D) (hk : atM D k = 0) (hn : D.held.length < 10000000) : DOk (holdM D k x) := by
  refine ⟨fun y hy => ?_, h.n1, by simp [holdM]; omega, h.n3, h.l1⟩
  simp only [holdM, List.mem_append, List.mem_singleton] at hy
  rcases hy with hy | rfl
  · exact h.at_ y hy
  · unfold atM at hk
    split at hk
    · omega
    · split at hk
      · omega
      · constructor <;> simp only [holdM] <;> omega
set_option maxHeartbeats 1000000 in
theorem Write_calls (h : DAt w B g F D vs vh vc) (hok : DOk D) (hn : D.held.length < 10000000) (k : Int) (A : Option Addr) (c : Nat) (x : List Int) (hC : Kd.C (Kd.int .u8) w A x.length x) :
    Calls Tryz.prog 49 #[.pointer (some ⟨g, 0, none⟩), .int .i64 k, .slice A x.length c] w fun e w' => e = .returned (.int .i64 (writeM D k x).2) ∧ DiskAt w' B g (Grow F w w') (writeM D k x).1 ∧ Upd w w' F := by
  have H := Aside0.mk h
  have HC := Aside0.mk hC
  have HOK := Aside0.mk hok
  have HN := Aside0.mk hn
  have HB := Aside0.mk h.hB
  obtain ⟨Ah, ch, rfl, hhl, _⟩ := Kd.R_reads h.held
  have h1 := h.c1
  clear h hC hok hn hhl
  by_cases ha : atM D k = 0
  · have HA := Aside0.mk ha
    clear ha
    by_cases h64 : x.length = 64
    · obtain ⟨ad, hA, hlb⟩ := load_sector (Kd.C_below HC.out (below_drew (Below.refl _ _))) h64
      subst hA
      have HLB := Aside0.mk hlb
      have H64 := Aside0.mk h64
      clear hlb
      have HBS := Aside0.mk (show (Instr.buildSlice 71 1 #[(0, .agg (.int .i64 k :: nums .u8 x).toArray)]).run Tryz.prog w.drew = .ok (.slice (some ⟨w.heap.size, 0, none⟩) 1 1) (w.drew.alloc (.cells (.int .i64 k :: nums .u8 x).toArray 97)) from buildSlice58 (.int .i64 k :: nums .u8 x) (by rw [List.length_cons, nums_length, h64]) w.drew)
      have HRH := Aside0.mk (Kd.R_mono (Kd.R_drew H.out.held) (fun _ h => .inl h) (ok' := fun k => F k ∨ w.heap.size ≤ k))
      have H1A := Aside0.mk (H.out.below (below_alloc (below_drew (Below.refl w.heap.size w)) (.cells (.int .i64 k :: nums .u8 x).toArray 97)))
      go_enter Tryz.func49, Tryz.ntmps49
      go_wp2_with (first | (go_at_call 51; refine (at_calls H.out k).mono ?_; rintro e w' ⟨rfl, rfl⟩; rw [HA.out]))
      refine start_ (n := 15) (S := fun w' => w'.cell? ⟨g, 1, none⟩ = some (.slice Ah D.held.length ch)) (ds := [14]) (bz 15 0) (by kernel_rfl) rfl rfl (h1) (fun hHeld => ?_)
      refine pz 0 (some 17) (bz 15 1) ?_
      refine pz 1 (some 18) (bz 15 3) ?_
      refine pz 2 (some 19) (bz 15 7) ?_
      refine pz 3 (some 20) (bz 15 15) ?_
      refine pz 5 (some 22) (bz 15 47) ?_
      refine pz 6 (some 23) (bz 15 111) ?_
      refine pz 7 (some 24) (bz 15 239) ?_
      refine tz1 4 (some 21) (bz 15 255) hHeld ?_
      refine one_ (i := 8) (N := some 25) (bz 15 511) rfl rfl (by kernel_rfl) (by decide) (fun K hK => ?_)
      refine load_ (by rfl) rfl 75 (.tmp 24) rfl HLB.out ?_
      refine hK.out _ _ (h1) (fun hHeld => ?_)
      clear hK K
      refine norm_ (a' := ?_) ?_ ?_
      rotate_left
      · show Act.put _ (some 25) _ = _
        simp only [Act.put, List.setIfInBounds_toArray, List.set_cons_zero, List.set_cons_succ, i64_w, i32_w]
        rfl
      refine pure_ (i := 9) (N := some 26) (v := .agg (.int .i64 k :: nums .u8 x).toArray) (a' := ?_) (bz 15 1023) rfl rfl (by kernel_rfl) (fun _ _ _ h => h) (Or.inl ⟨by rfl, ?_⟩) ?_ ?_
      · intro w'
        exact exec_build (args := #[(0, .int .i64 k), (1, .agg (nums .u8 x).toArray)]) rfl (by kernel_rfl) (build67 k x H64.out w')
      rotate_left
      · simp only [Act.put, List.setIfInBounds_toArray, List.set_cons_zero, List.set_cons_succ, i64_w, i32_w]
        rfl
      refine one_ (i := 10) (N := some 27) (bz 15 2047) rfl rfl (by kernel_rfl) (by decide) (fun K hK => ?_)
      refine value_ (w1 := w.drew.alloc (.cells (.int .i64 k :: nums .u8 x).toArray 97)) (v := .slice (some ⟨w.heap.size, 0, none⟩) 1 1) (by rfl) rfl ?hbs ?_
      case hbs =>
        refine exec_buildSlice (t := 71) (n := 1) (parts := #[(0, .tmp 26)]) (args := #[(0, .agg (.int .i64 k :: nums .u8 x).toArray)]) ?ho ?he ?hr
        case ho => rfl
        case he => kernel_rfl
        case hr => exact HBS.out
      refine hK.out _ _ ((H1A.out.c1)) (fun hHeld => ?_)
      clear hK K
      refine norm_ (a' := ?_) ?_ ?_
      rotate_left
      · show Act.put _ (some 27) _ = _
        simp only [Act.put, List.setIfInBounds_toArray, List.set_cons_zero, List.set_cons_succ, i64_w, i32_w]
        rfl
      refine one_ (i := 11) (N := some 28) (bz 15 4095) rfl rfl (by kernel_rfl) (by decide) (fun K hK => ?_)
      refine Kd.R_append_step kHeld (w0 := w) (W := w.drew) B (by rfl) (.tmp 21) (.tmp 27) 71 97 (.agg (.int .i64 0 :: List.replicate 64 (.int .u8 0)).toArray) 72 rfl Tryz.underlying71 info67' rfl (by decide) (by decide) (.slice Ah D.held.length ch) D.held (k, x) (.int .i64 k :: nums .u8 x) (fun k => F k ∨ w.heap.size ≤ k) (fun _ => False) rfl rfl ⟨rfl, H64.out⟩ (fun _ h => h.elim) (fun _ h => .inr h) HRH.out (below_drew (Below.mono (Below.refl _ _) HB.out)) HB.out (by have := HN.out; omega) ?_
      intro v1 w1 hr1 hb1 hg1d _
      have hg1 : w.grownBy w1 (Value.slice Ah D.held.length ch).ownBlock := ⟨hg1d.os, hg1d.tape, hg1d.output, hg1d.size, hg1d.block⟩
      obtain ⟨A1, c1, rfl⟩ := Kd.R_slice hr1
      have HR1 := Aside0.mk (R_grow hr1)
      have HG1 := Aside0.mk hg1
      have hb1k := blk_other H.out.blk H.out.held (by decide) hg1
      have h1b : w1.cell? ⟨g, 1, none⟩ = some (.slice Ah D.held.length ch) := by simp [World.cell?, hb1k]
      have hf1 : ∀ j, w1.frozen? ⟨g, j, none⟩ = false := fun j => by simp [World.frozen?, hb1k]
      have HBK := Aside0.mk hb1k
      clear hr1 hb1 hg1d hg1 hb1k
      refine hK.out _ _ ((h1b)) (fun hHeld => ?_)
      clear hK K
      refine norm_ (a' := ?_) ?_ ?_
      rotate_left
      · show Act.put _ (some 28) _ = _
        simp only [Act.put, List.setIfInBounds_toArray, List.set_cons_zero, List.set_cons_succ, i64_w, i32_w]
        rfl
      refine pz 12 (some 29) (bz 15 8191) ?_
      refine pz 13 (some 30) (bz 15 16383) ?_
      refine last_ (i := 14) (N := none) (bz 15 32767) rfl rfl (by kernel_rfl) (by decide) (fun K hK => ?_)
      refine skip_ (w1 := ?_) (by rfl) rfl ?_ ?_
      rotate_left
      · go_simp
        rfl
      refine hK.out _ _ ?_
      clear hK K
      refine done_ (by kernel_rfl) ?_

      have H2 := Aside0.mk (DAt.mk_put (F := Grow F w w1) (D := D) HBK.out 1 (.slice A1 (D.held ++ [(k, x)]).length c1) (holdM D k x) vs (.slice A1 (D.held ++ [(k, x)]).length c1) vc rfl (Kd.R_mono (R_other H.out.sec H.out.held rfl (by decide) HG1.out) (fun _ h => .inl h)) HR1.out (Kd.R_mono (R_other H.out.choice H.out.held rfl (by decide) HG1.out) (fun _ h => .inl h)) (.inl H.out.own) (fun k hk => by
        rcases hk with hk | hk
        · exact ⟨(H.out.lt k hk).1, Nat.lt_of_lt_of_le (H.out.lt k hk).2 HG1.out.size⟩
        · exact ⟨by have := HB.out; omega, hk.2⟩))
      have HU2 := Aside0.mk ((Upd.of_row H.out.held HG1.out).setCell (p := ⟨g, 1, none⟩) (.inl H.out.own) (.slice A1 (D.held ++ [(k, x)]).length c1))
      rw [show (D.held ++ [(k, x)]).length = D.held.length + 1 by simp] at H2 HU2
      have HOK2 := Aside0.mk (holdM_ok (x := x) HOK.out HA.out HN.out)
      clear hf1 h1b HBK HR1
      cases hg : (goesM (holdM D k x)).2 with
      | true =>
        have hq := Lib.hid (show writeM D k x = (loseM (goesM (holdM D k x)).1.choice (goesM (holdM D k x)).1, 60) by simp [writeM, HA.out, H64.out, hg])
        have hg' := Lib.hid hg
        clear hg
        go_wp2_with (first | (go_at_call 64; refine (goes_calls H2.out HOK2.out.l1).mono ?_; rintro e w3 ⟨rfl, h3, hu3⟩; rw [hg'.out]; obtain ⟨Ac, cc, rfl, hlc, _⟩ := Kd.R_reads h3.choice; have H3 := Aside0.mk h3; have HU3 := Aside0.mk hu3; have HLC := Aside0.mk hlc; have hc6 := h3.c6; clear h3 hu3 hlc) | (go_at_call 11; refine (Lose_calls H3.out (goesM_ok HOK2.out) Ac cc _ HLC.out (own_choice H3.out)).mono ?_; rintro e w4 ⟨rfl, h4, hu4⟩; have H4 := Aside0.mk h4; have HU4 := Aside0.mk hu4; clear h4 hu4))
        go_ret
        refine ⟨by rw [hq.out] <;> rfl, ?_, (HU2.out.trans HU3.out (fun _ => Grow.out)).trans HU4.out (fun _ => Grow.out)⟩
        rw [hq.out]
        exact H4.out.grow_to HB.out (Nat.le_trans (Nat.le_of_eq (by simp [World.setCell])) (Nat.le_trans HU3.out.size HU4.out.size)) H.out.lt
      | false =>
        have hq := Lib.hid (show writeM D k x = ((goesM (holdM D k x)).1, 0) by simp [writeM, HA.out, H64.out, hg])
        have hg' := Lib.hid hg
        clear hg
        go_wp2_with (first | (go_at_call 64; refine (goes_calls H2.out HOK2.out.l1).mono ?_; rintro e w3 ⟨rfl, h3, hu3⟩; rw [hg'.out]; have H3 := Aside0.mk h3; have HU3 := Aside0.mk hu3; clear h3 hu3))
        go_ret
        refine ⟨by rw [hq.out] <;> rfl, ?_, HU2.out.trans HU3.out (fun _ => Grow.out)⟩
        rw [hq.out]
        exact DiskAt.grow_to ⟨_, _, _, H3.out⟩ HB.out (Nat.le_trans (Nat.le_of_eq (by simp [World.setCell])) HU3.out.size) H.out.lt
    · have hq := Lib.hid (show writeM D k x = (D, 1) by simp [writeM, HA.out, h64])
      have t64 : decide ((x.length : Int) = 64) = false := by simp; omega
      go_enter Tryz.func49, Tryz.ntmps49
      go_wp2_with (first | (go_at_call 51; refine (at_calls H.out k).mono ?_; rintro e w' ⟨rfl, rfl⟩; rw [HA.out]))
      go_ret
      exact ⟨by rw [hq.out] <;> rfl, by rw [hq.out]; exact ⟨_, _, _, H.out.grow HB.out⟩, Upd.refl _ _⟩
  · have hq := Lib.hid (show writeM D k x = (D, atM D k) by simp [writeM, ha])
    obtain ⟨q, hq0⟩ : ∃ q, atM D k = q := ⟨_, rfl⟩
    have HA := Lib.hid hq0
    rw [hq0] at ha
    clear hq0
    go_enter Tryz.func49, Tryz.ntmps49
    go_wp2_with (first | (go_at_call 51; refine (at_calls H.out k).mono ?_; rintro e w' ⟨rfl, rfl⟩; rw [HA.out]))
    go_ret
    exact ⟨by rw [hq.out, HA.out] <;> rfl, by rw [hq.out]; exact ⟨_, _, _, H.out.grow HB.out⟩, Upd.refl _ _⟩
theorem writeM_ok {k : Int} {x : List Int} (h : DOk D) (hn : D.held.length < 10000000) : DOk (writeM D k x).1 := by
  unfold writeM
  split
  · exact h
  · rename_i ha
    split
    · exact h
    · have := goesM_ok (holdM_ok (x := x) h (by simpa using ha) hn)
      split
      · exact loseM_ok _ this
      · exact this
end Go.Proofs.YtfpfnolpoklefaaGreatDoor.Dk
/- Contracts of package disk: Read. -/
namespace Go.Proofs.YtfpfnolpoklefaaGreatDoor.Dk
open Go.RowKit Go.Proofs.YtfpfnolpoklefaaGreatDoorW.PrintWords Go.Proofs.YtfpfnolpoklefaaGreatDoorW.PrintLast Go.Proofs.YtfpfnolpoklefaaGreatDoorW.PrintMore
set_option linter.unusedVariables false
set_option linter.unusedSimpArgs false
set_option maxRecDepth 30000
def zs64 : Array Value := (List.replicate 64 (.int .u8 0)).toArray
def zs67 : Array Value := (.int .i64 0 :: List.replicate 64 (.int .u8 0)).toArray
theorem run_alloc64 (w : World) : (Instr.alloc 75 true (.tuple #[])).run Tryz.prog w = .ok (.pointer (some ⟨w.heap.size, 0, none⟩)) (w.alloc (.cells zs64 75)) := by kernel_rfl
theorem run_alloc67 (w : World) : (Instr.alloc 97 true (.tuple #[])).run Tryz.prog w = .ok (.pointer (some ⟨w.heap.size, 0, none⟩)) (w.alloc (.cells zs67 97)) := by kernel_rfl
theorem zs64_size : zs64.size = 64 := by simp [zs64]
theorem zs67_size : zs67.size = 65 := by simp [zs67]
attribute [irreducible] zs64 zs67
theorem nums_one (x : List Int) : ((nums .u8 x).toArray : Array Value).all (·.oneCell') = true := by
  simp [nums, List.all_eq_true]
  intro a _
  rfl
section
variable {P : Program} {ops : Array Oper} {o : Oper} {rest : List Oper} {a : Act} {w w1 : World} {Q : Exit → Act → World → Prop}
theorem wpList_alloc {e : TypeId} (hg : o.guard = none) (ho : o.op = .alloc e) (dst : Option Tmp) (hdst : o.dst = dst) (cs : Array Value) (hrun : (Instr.alloc e true (.tuple #[])).run P w = .ok (.pointer (some ⟨w.heap.size, 0, none⟩)) (w.alloc (.cells cs e)))
    (h : wpList P ops Q rest (a.put dst (.pointer (some ⟨w.heap.size, 0, none⟩))) (w.alloc (.cells cs e))) : wpList P ops Q (o :: rest) a w := by
  refine wpList_plain hg fun K hK => ?_
  have he : (execOp a.eval o).run P w = .ok (.value (.pointer (some ⟨w.heap.size, 0, none⟩))) (w.alloc (.cells cs e)) := by
    unfold execOp
    simp [ho, hrun]
  unfold Oper.wp
  rw [he, Oper.upon_value, hdst]
  exact hK _ _ h
/-- The same two, the operation seen first, the operands' values behind. -/
theorem load_at {ty : TypeId} {p v : Value} (x : Operand) (hgd : o.guard = none) (ho : o.op = .load ty x) (hrun : (Instr.loadAt ty p).run P w = .ok v w) (hx : a.eval x = p)
    (h : wpList P ops Q rest (a.put o.dst v) w) : wpList P ops Q (o :: rest) a w := wpList_load hgd ty x ho v (by rw [hx]; exact hrun) h
theorem store_at {ty : TypeId} {p v : Value} (x y : Operand) (hgd : o.guard = none) (hN : o.dst = none) (ho : o.op = .store ty x y) (hrun : (Instr.storeAt ty p v).run P w = .ok () w1) (hx : a.eval x = p) (hy : a.eval y = v)
    (h : wpList P ops Q rest a w1) : wpList P ops Q (o :: rest) a w := wpList_store hN hgd ty x y ho (by rw [hx, hy]; exact hrun) h
end
/-- A whole block is written. -/
theorem run_store_block {P : Program} {w : World} (g : Nat) (ty : TypeId) (old cells : Array Value) (e : TypeId) (hg : w.heap[g]? = some (.cells old e (0, 0))) (hi : (P.info? ty).map (·.size) = some cells.size) (ho : old.size = cells.size) (h1 : cells.all (·.oneCell') = true) :
    (Instr.storeAt ty (.pointer (some ⟨g, 0, none⟩)) (.agg cells)).run P w = .ok () (w.setRow g cells) := by
  simp only [Instr.storeAt, Instr.sureAddr, Sem.run_bind, Sem.run_pure, Result.andThen, run_storeVar_row w g e ty old cells hg hi ho h1]
theorem upd_setRow (w : World) (g : Nat) (cells : Array Value) : Upd w (w.setRow g cells) (· = g) := ⟨rfl, rfl, rfl, by simp, fun k _ hk => setRow_other w g k cells hk⟩
theorem below_setR {w W : World} (h : Below w.heap.size w W) (cs : Array Value) : Below w.heap.size w (W.setRow w.heap.size cs) := ⟨h.os, h.tape, h.output, by rw [setRow_size]; exact h.size, fun i hi => (setRow_other _ _ _ _ (Nat.ne_of_lt hi)).trans (h.block i hi)⟩
variable {w : World} {B g : Nat} {F : Nat → Prop} {D : DM} {vs vh vc : Value}
/-- A sector out of the sectors' row. -/
theorem sec_load {As : Option Addr} {cs : Nat} {L : List (List Int)} (h : Kd.R kSec 75 w B F (.slice As L.length cs) L) (i : Nat) (hi : i < L.length) : ∃ gs, As = some ⟨gs, 0, none⟩ ∧ (L.getD i []).length = 64 ∧
    (Instr.loadAt 75 (.pointer (some ⟨gs, i * 64, none⟩))).run Tryz.prog w = .ok (.agg (nums .u8 (L.getD i [])).toArray) w := by
  rcases R_cases h with ⟨_, hz⟩ | ⟨gs, cap, es, hgs⟩
  · rw [hz] at hi; exact absurd hi (Nat.not_lt_zero _)
  injection es with e1 e2 e3
  subst e1
  obtain ⟨ad, c, e, hsz, hK, hx⟩ := Kd.C_get (Kd.R_reads' h).2.2 [] (i : Int) (by omega) (by show (i : Int) < (L.length : Int); omega)
  injection e with e
  subst e
  rw [Int.toNat_natCast] at hK
  obtain ⟨hK, h64⟩ := hK
  refine ⟨gs, rfl, h64, run_loadAt_cells 75 Tryz.underlying75 rfl gs (i * 64) _ (by rw [nums_length, h64]; exact size64) (fun j u hu => ?_)⟩
  have := hx j u (by rw [hK]; exact hu)
  have e : (⟨gs, 0, none⟩ : Addr).add ((i : Int).toNat * kSec.sz + j) = ⟨gs, i * 64 + j, none⟩ := by rw [add0]; simp [kSec]
  rwa [e] at this
/-- A held write out of the row of the held ones. -/
theorem held_load {Ah : Option Addr} {ch : Nat} {L : List (Int × List Int)} (h : Kd.R kHeld 97 w B F (.slice Ah L.length ch) L) (i : Nat) (hi : i < L.length) : ∃ gh, Ah = some ⟨gh, 0, none⟩ ∧ (L.getD i (0, [])).2.length = 64 ∧
    (Instr.loadAt 97 (.pointer (some ⟨gh, i * 65, none⟩))).run Tryz.prog w = .ok (.agg (.int .i64 (L.getD i (0, [])).1 :: nums .u8 (L.getD i (0, [])).2).toArray) w := by
  rcases R_cases h with ⟨_, hz⟩ | ⟨gs, cap, es, hgs⟩
  · rw [hz] at hi; exact absurd hi (Nat.not_lt_zero _)
  injection es with e1 e2 e3
  subst e1
  obtain ⟨ad, c, e, hsz, hK, hx⟩ := Kd.C_get (Kd.R_reads' h).2.2 (0, []) (i : Int) (by omega) (by show (i : Int) < (L.length : Int); omega)
  injection e with e
  subst e
  rw [Int.toNat_natCast] at hK
  obtain ⟨hK, h64⟩ := hK
  refine ⟨gs, rfl, h64, run_loadAt_cells 97 Tryz.underlying97 rfl gs (i * 65) _ (by rw [List.length_cons, nums_length, h64]; exact size67) (fun j u hu => ?_)⟩
  have := hx j u (by rw [hK]; exact hu)
  have e : (⟨gs, 0, none⟩ : Addr).add ((i : Int).toNat * kHeld.sz + j) = ⟨gs, i * 65 + j, none⟩ := by rw [add0]; simp [kHeld]
  rwa [e] at this
/-- What a read of sector k tells, the first n held writes seen. -/
def readTo (k : Int) (held : List (Int × List Int)) (s : List Int) : Nat → List Int
  | 0 => s
  | n + 1 => if (held.getD n (0, [])).1 = k then (held.getD n (0, [])).2 else readTo k held s n
theorem readTo_length {k : Int} {held : List (Int × List Int)} {s : List Int} (hs : s.length = 64) (hh : ∀ i, i < held.length → (held.getD i (0, [])).2.length = 64) : ∀ n, n ≤ held.length → (readTo k held s n).length = 64
  | 0, _ => hs
  | n + 1, hn => by
    unfold readTo
    split
    · exact hh n (by omega)
    · exact readTo_length hs hh n (by omega)
def readM (D : DM) (k : Int) : List Int := readTo k D.held (D.sec.getD k.toNat []) D.held.length
set_option maxHeartbeats 8000000 in
theorem Read_calls (h : DAt w B g F D vs vh vc) (hok : DOk D) (k : Int) (hk : atM D k = 0) :
    Calls Tryz.prog 43 #[.pointer (some ⟨g, 0, none⟩), .int .i64 k] w fun e w' => e = .returned (.tuple #[.slice (some ⟨w.heap.size, 0, none⟩) 64 64, .int .i64 0]) ∧ (readM D k).length = 64 ∧ w'.heap[w.heap.size]? = some (.cells (nums .u8 (readM D k)).toArray 75 (0, 0)) ∧ Below w.heap.size w w' := by
  have H := Aside0.mk h
  have HOK := Aside0.mk hok
  have HA := Aside0.mk hk
  obtain ⟨As, cs, rfl, hsl, _⟩ := Kd.R_reads h.sec
  obtain ⟨Ah, ch, rfl, hhl, _⟩ := Kd.R_reads h.held
  have hkb : 0 ≤ k ∧ k < (D.sec.length : Int) := by
    unfold atM at hk
    split at hk
    · omega
    · split at hk
      · omega
      · omega
  obtain ⟨k0, rfl⟩ : ∃ n : Nat, k = n := ⟨k.toNat, by omega⟩
  have hk1 : k0 < D.sec.length := by omega
  obtain ⟨gs, rfl, hs64, hls⟩ := sec_load h.sec k0 hk1
  obtain ⟨s0, hs0⟩ : ∃ s0, s0 = D.sec.getD k0 [] := ⟨_, rfl⟩
  rw [← hs0] at hls hs64
  have h0 := h.c0
  have h1 := h.c1
  have HLS := Aside0.mk hls
  have HS64 := Aside0.mk hs64
  have HS0 := Aside0.mk hs0
  have HST := Aside0.mk (run_storeAt_new (P := Tryz.prog) w 75 zs64 (nums .u8 s0).toArray (by simp only [List.size_toArray, nums_length, hs64]; exact size64) (by simp [zs64_size, nums_length, hs64]) (nums_one s0))
  have hb1 := Below.refl w.heap.size w
  have HB1 := Aside0.mk (below_alloc (Below.refl w.heap.size w) (.cells (nums .u8 s0).toArray 75))
  have hB1 := HB1.out
  have h11 : (w.alloc (.cells (nums .u8 s0).toArray 75)).cell? ⟨g, 1, none⟩ = some (.slice Ah D.held.length ch) := (H.out.below HB1.out).c1
  clear hB1 hb1
  clear h hok hk hls hs64 hs0 hkb
  go_enter Tryz.func43, Tryz.ntmps43
  go_wp2_with (first | (go_at_call 51; refine (at_calls H.out k0).mono ?_; rintro e w' ⟨rfl, rfl⟩; rw [HA.out]) | (refine load_at (ty := 75) (.tmp 21) rfl rfl HLS.out rfl ?_) | (refine wpList_alloc rfl rfl _ rfl zs64 (run_alloc64 _) ?_) | (refine store_at (ty := 75) (.tmp 7) (.tmp 22) rfl rfl rfl HST.out rfl rfl ?_))
  go_loopw [9, 28] (fun v9 v28 w' => ∃ i : Nat, v28 = .int .i64 i ∧ i ≤ D.held.length ∧ Aside0 (w'.heap[w.heap.size]? = some (.cells (nums .u8 (readTo k0 D.held s0 i)).toArray 75 (0, 0))) ∧ Aside0 (Below w.heap.size w w')) (fun _ v28 _ => D.held.length - (intOf v28).toNat)
  case atStart => exact ⟨0, rfl, Nat.zero_le _, ⟨heap_alloc_new w _⟩, HB1⟩
  case round =>
    obtain ⟨i, rfl, hi, HG, HV⟩ := hrel
    clear h0 h1 h11
    have hn2 := HOK.out.n2
    by_cases hlt : i < D.held.length
    · have HD := Aside0.mk (H.out.below HV.out)
      obtain ⟨gh, hAh, h64, hll⟩ := held_load HD.out.held i hlt
      obtain ⟨a, b, hab⟩ : ∃ a b, D.held.getD i (0, []) = (a, b) := ⟨_, _, rfl⟩
      rw [hab] at h64 hll
      dsimp only at h64 hll
      subst hAh
      have HLL := Aside0.mk hll
      have HST2 := Aside0.mk (run_storeAt_new (P := Tryz.prog) wr 97 zs67 (.int .i64 a :: nums .u8 b).toArray (by simp only [List.size_toArray, List.length_cons, nums_length, h64]; exact size67) (by simp [zs67_size, nums_length, h64]) (by simp [nums, List.all_eq_true]; exact ⟨rfl, fun _ _ => rfl⟩))
      have hW := heap_alloc_new wr (.cells (.int .i64 a :: nums .u8 b).toArray 97)
      have hca : (wr.alloc (.cells (.int .i64 a :: nums .u8 b).toArray 97)).cell? ⟨wr.heap.size, 0, none⟩ = some (.int .i64 a) := by rw [cell_of_row _ _ 0 _ _ _ hW]; rfl
      have HBW := Aside0.mk (below_alloc HV.out (.cells (.int .i64 a :: nums .u8 b).toArray 97))
      have hg7 : (wr.alloc (.cells (.int .i64 a :: nums .u8 b).toArray 97)).heap[w.heap.size]? = some (.cells (nums .u8 (readTo k0 D.held s0 i)).toArray 75 (0, 0)) := ((below_alloc (Below.refl wr.heap.size wr) (.cells (.int .i64 a :: nums .u8 b).toArray 97)).block _ (blk_lt HG.out)).trans HG.out
      have HG7 := Aside0.mk hg7
      have HLB := Aside0.mk (run_loadAt_cells (P := Tryz.prog) (w := wr.alloc (.cells (.int .i64 a :: nums .u8 b).toArray 97)) 75 Tryz.underlying75 rfl wr.heap.size 1 (nums .u8 b) (by rw [nums_length, h64]; exact size64) (fun j u hu => by rw [cell_of_row _ _ (1 + j) _ _ _ hW, Nat.add_comm]; simpa using hu))
      have hlr := readTo_length (k := k0) HS64.out (fun j hj => (held_load HD.out.held j hj).elim fun _ h => h.2.1) i (Nat.le_of_lt hlt)
      have HST7 := Aside0.mk (run_store_block (P := Tryz.prog) w.heap.size 75 _ (nums .u8 b).toArray 75 hg7 (by simp only [List.size_toArray, nums_length, h64]; exact size64) (by simp [nums_length, h64, hlr]) (nums_one b))
      have HSR := Aside0.mk (setRow_heap _ _ _ (nums .u8 b).toArray _ _ hg7)
      have HBR := Aside0.mk (below_setR HBW.out (nums .u8 b).toArray)
      clear hll hg7 hlr h64 hW
      by_cases hak : a = (k0 : Int)
      · have HP := Aside0.mk (show readTo k0 D.held s0 (i + 1) = b by rw [readTo, hab]; exact if_pos hak)
        subst hak
        clear hab
        go_wp2_with (first | (refine load_at (ty := 97) (.tmp 30) rfl rfl HLL.out rfl ?_) | (refine load_at (ty := 75) (.tmp 36) rfl rfl HLB.out rfl ?_) | (refine wpList_alloc rfl rfl _ rfl zs67 (run_alloc67 _) ?_) | (refine store_at (ty := 97) (.tmp 9) (.tmp 31) rfl rfl rfl HST2.out rfl rfl ?_) | (refine store_at (ty := 75) (.tmp 7) (.tmp 37) rfl rfl rfl HST7.out rfl rfl ?_))
        go_roundw
        case rel => exact ⟨i + 1, by go_num, by omega, ⟨by rw [HP.out]; exact HSR.out⟩, HBR⟩
        case measure => simp [intOf]; omega
      · have HP := Aside0.mk (show readTo k0 D.held s0 (i + 1) = readTo k0 D.held s0 i by rw [readTo, hab]; exact if_neg hak)
        have tak : decide (a = (k0 : Int)) = false := decide_eq_false hak
        clear hab
        go_wp2_with (first | (refine load_at (ty := 97) (.tmp 30) rfl rfl HLL.out rfl ?_) | (refine wpList_alloc rfl rfl _ rfl zs67 (run_alloc67 _) ?_) | (refine store_at (ty := 97) (.tmp 9) (.tmp 31) rfl rfl rfl HST2.out rfl rfl ?_))
        go_roundw
        case rel => exact ⟨i + 1, by go_num, by omega, ⟨by rw [HP.out]; exact HG7.out⟩, HBW⟩
        case measure => simp [intOf]; omega
    · obtain rfl : i = D.held.length := by omega
      have HR := Aside0.mk (show readM D k0 = readTo k0 D.held s0 D.held.length by simp [readM, HS0.out])
      have hlr := readTo_length (k := k0) HS64.out (fun j hj => (held_load (H.out.below HV.out).held j hj).elim fun _ h => h.2.1) D.held.length (Nat.le_refl _)
      have HLR := Aside0.mk hlr
      clear hlr
      go_wp2
      refine bodyPost_ret (results_tmp2 rfl _ _ _) rfl ?_
      exact ⟨rfl, by rw [HR.out]; exact HLR.out, by rw [HR.out]; exact HG.out, HV.out⟩
end Go.Proofs.YtfpfnolpoklefaaGreatDoor.Dk
/- Contracts of package sha2: narrow, wide, of, block, turn, small, big. -/
namespace Go.Proofs.YtfpfnolpoklefaaGreatDoor.Sh
open Go.Proofs.YtfpfnolpoklefaaGreatDoor.Dk
open Go.RowKit Go.Proofs.YtfpfnolpoklefaaGreatDoorW.PrintWords Go.Proofs.YtfpfnolpoklefaaGreatDoorW.PrintLast Go.Proofs.YtfpfnolpoklefaaGreatDoorW.PrintMore
set_option linter.unusedVariables false
set_option linter.unusedSimpArgs false
set_option maxRecDepth 30000
/-- The shapes' cells. -/
def narrowA : Array Value := #[.int .i64 4, .int .i64 32, .int .i64 64, .int .i64 7, .int .i64 18, .int .i64 3, .int .i64 17, .int .i64 19, .int .i64 10, .int .i64 2, .int .i64 13, .int .i64 22, .int .i64 6, .int .i64 11, .int .i64 25]
def narrowV : Value := .agg narrowA
def wideA : Array Value := #[.int .i64 8, .int .i64 64, .int .i64 80, .int .i64 1, .int .i64 8, .int .i64 7, .int .i64 19, .int .i64 61, .int .i64 6, .int .i64 28, .int .i64 34, .int .i64 39, .int .i64 14, .int .i64 18, .int .i64 41]
def wideV : Value := .agg wideA
theorem narrowA_one : narrowA.all (·.oneCell') = true := by kernel_rfl
theorem info120 : (Tryz.prog.info? 154).map (·.size) = some narrowA.size := by kernel_rfl
def zeros15 : Array Value := (List.replicate 15 (.int .i64 0)).toArray
theorem run_alloc120 (w : World) : (Instr.alloc 154 true (.tuple #[])).run Tryz.prog w = .ok (.pointer (some ⟨w.heap.size, 0, none⟩)) (w.alloc (.cells zeros15 154)) := by kernel_rfl
theorem narrow_calls (w : World) : Calls Tryz.prog 96 #[] w fun e w' => e = .returned narrowV ∧ Below w.heap.size w w' := by
  have hb := Below.refl w.heap.size w
  go_enter Tryz.func96, Tryz.ntmps96
  go_wp2
  refine bodyPost_ret (results_cell_row rfl _ _ _ _ _ _ _ rfl (heap_alloc_new _ _) Tryz.underlying154 rfl (by kernel_rfl)) rfl ?_
  exact ⟨rfl, below_alloc hb _⟩
theorem wide_calls (w : World) : Calls Tryz.prog 97 #[] w fun e w' => e = .returned wideV ∧ Below w.heap.size w w' := by
  have hb := Below.refl w.heap.size w
  go_enter Tryz.func97, Tryz.ntmps97
  go_wp2
  refine bodyPost_ret (results_cell_row rfl _ _ _ _ _ _ _ rfl (heap_alloc_new _ _) Tryz.underlying154 rfl (by kernel_rfl)) rfl ?_
  exact ⟨rfl, below_alloc hb _⟩
theorem block_calls (w : World) : Calls Tryz.prog 100 #[narrowV] w fun e w' => e = .returned (.int .i64 64) ∧ Below w.heap.size w w' := by
  have hb := Below.refl w.heap.size w
  unfold narrowV narrowA
  go_enter Tryz.func100, Tryz.ntmps100
  go_wp2
  go_ret
  exact ⟨rfl, below_alloc hb _⟩
theorem zeros15_size : zeros15.size = 15 := by simp [zeros15]
attribute [irreducible] zeros15
theorem of_calls (w : World) : Calls Tryz.prog 81 #[.int .i64 256] w fun e w' => e = .returned (.tuple #[narrowV, .bool true]) ∧ Below w.heap.size w w' := by
  have hb := Below.refl w.heap.size w
  go_enter Tryz.func81, Tryz.ntmps81
  go_wp2_with (first | (refine wpList_alloc rfl rfl _ rfl zeros15 (run_alloc120 _) ?_) | (go_at_call 96; (with_reducible refine (narrow_calls _).mono ?_); rintro e w1 ⟨rfl, hb1⟩; have HK := Aside0.mk ((hb1.block w.heap.size (blk_lt (heap_alloc_new w (.cells zeros15 154)))).trans (heap_alloc_new w (.cells zeros15 154))); have HB1 := Aside0.mk (Below.trans (below_alloc hb (.cells zeros15 154)) (hb1.mono (Nat.le_of_lt (blk_lt (heap_alloc_new w (.cells zeros15 154)))))); unfold narrowV; clear hb1; have HST := Aside0.mk (run_store_block (P := Tryz.prog) w.heap.size 154 zeros15 narrowA 154 HK.out info120 (by simp [zeros15_size, narrowA]) narrowA_one)) | (refine store_at (ty := 154) (.tmp 2) (.tmp 7) rfl rfl rfl HST.out rfl rfl ?_))
  refine bodyPost_ret (results_ct rfl _ _ _ _ _ _ _ rfl (setRow_heap _ _ _ narrowA _ _ HK.out) Tryz.underlying154 rfl (by kernel_rfl)) rfl ?_
  exact ⟨rfl, below_setR HB1.out _⟩
def turnM (x b : Int) : Int := Go.bits .or .u32 (shr .u32 x b) (shl .u32 x (32 - b))
set_option maxHeartbeats 8000000 in
theorem turn_calls (x b : Int) (h0 : 0 ≤ b) (h1 : b ≤ 32) (w : World) : Calls Tryz.prog 119 #[.int .u32 x, .int .i64 b, .int .i64 32] w fun e w' => e = .returned (.int .u32 (turnM x b)) ∧ Drawn0 w w' := by
  have hw : wrap64 (32 - b) = 32 - b := by unfold wrap64; omega
  obtain ⟨c, hc⟩ : ∃ c, c = 32 - b := ⟨_, rfl⟩
  have hc0 : 0 ≤ c := by omega
  have hc1 : c ≤ 32 := by omega
  obtain ⟨j1, hj1⟩ : ∃ j, shr .u32 x b = j := ⟨_, rfl⟩
  obtain ⟨j2, hj2⟩ : ∃ j, shl .u32 x c = j := ⟨_, rfl⟩
  have HT := Lib.hid (show turnM x b = Go.bits .or .u32 j1 j2 by rw [turnM, ← hj1, ← hj2, hc])
  have h1z : (x / 2 ^ min b.toNat 32) = j1 := hj1
  have h1y : (x / 2 ^ b.toNat) = j1 := shr_small hj1 h1
  have h2z : (IntKind.u32.wrap (x * 2 ^ min c.toNat 32)) = j2 := hj2
  have h2y : (IntKind.u32.wrap (x * 2 ^ c.toNat)) = j2 := shl_small hj2 hc1
  have hw2 : (IntKind.i64.wrap (32 - b)) = c := (i64_w _).trans (hw.trans hc.symm)
  have hw3 : wrap64 (32 - b) = c := hw.trans hc.symm
  clear hj1 hj2 hc hw
  go_enter Tryz.func119, Tryz.ntmps119
  go_wp2
  repeat (go_quiet (fail); try go_wp2)
  go_ret
  exact ⟨by rw [HT.out] <;> rfl, by repeat (first | exact Drawn0.refl _ | apply Drawn0.step)⟩

theorem cellB3 {w : World} {b t : Nat} {cs : Array Value} {m : Nat × Nat} (h : w.heap[b]? = some (.cells cs t m)) (j : Nat) (v : Value) (hj : cs[j]? = some v) : w.cell? ⟨b, j, none⟩ = some v := by simp [World.cell?, h, hj]
def bigM (x b0 b1 b2 : Int) : Int := Go.bits .xor .u32 (Go.bits .xor .u32 (turnM x b0) (turnM x b1)) (turnM x b2)
def smallM (x b0 b1 b2 : Int) : Int := Go.bits .xor .u32 (Go.bits .xor .u32 (turnM x b0) (turnM x b1)) (shr .u32 x b2)
set_option maxHeartbeats 8000000 in
theorem big_calls (x b0 b1 b2 : Int) (h0a : 0 ≤ b0) (h0b : b0 ≤ 32) (h1a : 0 ≤ b1) (h1b : b1 ≤ 32) (h2a : 0 ≤ b2) (h2b : b2 ≤ 32) (w : World) : Calls Tryz.prog 112 #[.int .u32 x, .agg #[.int .i64 b0, .int .i64 b1, .int .i64 b2], .int .i64 32] w fun e w' => e = .returned (.int .u32 (bigM x b0 b1 b2)) ∧ Below w.heap.size w w' := by
  have HK := Aside0.mk (show (w.alloc (.cells #[.int .i64 b0, .int .i64 b1, .int .i64 b2] 152)).drew.heap[w.heap.size]? = some (.cells #[.int .i64 b0, .int .i64 b1, .int .i64 b2] 152 (0, 0)) from heap_alloc_new w _)
  have HB := Aside0.mk (show Below w.heap.size w (w.alloc (.cells #[.int .i64 b0, .int .i64 b1, .int .i64 b2] 152)).drew from below_drew (below_alloc (Below.refl w.heap.size w) _))
  go_enter Tryz.func112, Tryz.ntmps112
  go_wp2
  refine start_ (n := 18) (S := fun w' => w'.cell? ⟨w.heap.size, 0, none⟩ = some (.int .i64 b0) ∧ w'.cell? ⟨w.heap.size, 1, none⟩ = some (.int .i64 b1) ∧ w'.cell? ⟨w.heap.size, 2, none⟩ = some (.int .i64 b2)) (ds := []) (bz 18 0) (by kernel_rfl) rfl rfl ⟨(cellB3 HK.out 0 _ rfl), (cellB3 HK.out 1 _ rfl), (cellB3 HK.out 2 _ rfl)⟩ (fun hHeld => ?_)
  refine pz 0 (some 7) (bz 18 1) ?_
  refine pz 1 (some 8) (bz 18 3) ?_
  refine pz 3 (some 10) (bz 18 11) ?_
  refine pz 5 (some 12) (bz 18 43) ?_
  refine pz 6 (some 13) (bz 18 107) ?_
  refine pz 8 (some 15) (bz 18 363) ?_
  refine pz 11 (some 18) (bz 18 2411) ?_
  refine pz 12 (some 19) (bz 18 6507) ?_
  refine pz 14 (some 21) (bz 18 22891) ?_
  refine tz3 2 (some 9) (bz 18 22895) hHeld ?_
  refine tz3 7 (some 14) (bz 18 23023) hHeld ?_
  refine tz3 13 (some 20) (bz 18 31215) hHeld ?_
  refine one_ (i := 4) (N := some 11) (bz 18 31231) rfl rfl (by kernel_rfl) (by decide) (fun K hK => ?_)
  refine goes_ Tryz.func119 (by kernel_rfl) rfl #[.int .u32 x, .int .i64 b0, .int .i64 32] (by rfl) rfl rfl (by simp only [List.map_toArray, List.map_cons, List.map_nil]; rfl) ?_
  with_reducible refine (turn_calls x b0 h0a h0b _).mono ?_
  rintro e w1 ⟨rfl, hd⟩
  refine ⟨_, rfl, ?_⟩
  have HK1 := Aside0.mk ((hd.below.block w.heap.size (blk_lt HK.out)).trans HK.out)
  have HB1 := Aside0.mk (Below.trans HB.out (hd.below.mono HB.out.size))
  clear hd
  refine hK.out _ _ ⟨(cellB3 HK1.out 0 _ rfl), (cellB3 HK1.out 1 _ rfl), (cellB3 HK1.out 2 _ rfl)⟩ (fun hHeld => ?_)
  clear hK K
  refine norm_ (a' := ?_) ?_ ?_
  rotate_left
  · show Act.put _ (some 11) _ = _
    simp only [Act.put, List.setIfInBounds_toArray, List.set_cons_zero, List.set_cons_succ, i64_w, i32_w]
    rfl
  refine one_ (i := 9) (N := some 16) (bz 18 31743) rfl rfl (by kernel_rfl) (by decide) (fun K hK => ?_)
  refine goes_ Tryz.func119 (by kernel_rfl) rfl #[.int .u32 x, .int .i64 b1, .int .i64 32] (by rfl) rfl rfl (by simp only [List.map_toArray, List.map_cons, List.map_nil]; rfl) ?_
  with_reducible refine (turn_calls x b1 h1a h1b _).mono ?_
  rintro e w2 ⟨rfl, hd⟩
  refine ⟨_, rfl, ?_⟩
  have HK2 := Aside0.mk ((hd.below.block w.heap.size (blk_lt HK1.out)).trans HK1.out)
  have HB2 := Aside0.mk (Below.trans HB1.out (hd.below.mono HB1.out.size))
  clear hd
  refine hK.out _ _ ⟨(cellB3 HK2.out 0 _ rfl), (cellB3 HK2.out 1 _ rfl), (cellB3 HK2.out 2 _ rfl)⟩ (fun hHeld => ?_)
  clear hK K
  refine norm_ (a' := ?_) ?_ ?_
  rotate_left
  · show Act.put _ (some 16) _ = _
    simp only [Act.put, List.setIfInBounds_toArray, List.set_cons_zero, List.set_cons_succ, i64_w, i32_w]
    rfl
  refine pz 10 (some 17) (bz 18 32767) ?_
  refine one_ (i := 15) (N := some 22) (bz 18 65535) rfl rfl (by kernel_rfl) (by decide) (fun K hK => ?_)
  refine goes_ Tryz.func119 (by kernel_rfl) rfl #[.int .u32 x, .int .i64 b2, .int .i64 32] (by rfl) rfl rfl (by simp only [List.map_toArray, List.map_cons, List.map_nil]; rfl) ?_
  with_reducible refine (turn_calls x b2 h2a h2b _).mono ?_
  rintro e w3 ⟨rfl, hd⟩
  refine ⟨_, rfl, ?_⟩
  have HK3 := Aside0.mk ((hd.below.block w.heap.size (blk_lt HK2.out)).trans HK2.out)
  have HB3 := Aside0.mk (Below.trans HB2.out (hd.below.mono HB2.out.size))
  clear hd
  refine hK.out _ _ ⟨(cellB3 HK3.out 0 _ rfl), (cellB3 HK3.out 1 _ rfl), (cellB3 HK3.out 2 _ rfl)⟩ (fun hHeld => ?_)
  clear hK K
  refine norm_ (a' := ?_) ?_ ?_
  rotate_left
  · show Act.put _ (some 22) _ = _
    simp only [Act.put, List.setIfInBounds_toArray, List.set_cons_zero, List.set_cons_succ, i64_w, i32_w]
    rfl
  refine pz 16 (some 23) (bz 18 131071) ?_
  refine pz 17 (some 6) (bz 18 262143) ?_
  refine done_ (by kernel_rfl) ?_
  clear hHeld
  go_wp2
  go_ret
  exact ⟨by first | rfl | (unfold bigM; rw [HJ.out] <;> rfl), HB3.out⟩
set_option maxHeartbeats 8000000 in
theorem small_calls (x b0 b1 b2 : Int) (h0a : 0 ≤ b0) (h0b : b0 ≤ 32) (h1a : 0 ≤ b1) (h1b : b1 ≤ 32) (h2a : 0 ≤ b2) (h2b : b2 ≤ 32) (w : World) : Calls Tryz.prog 118 #[.int .u32 x, .agg #[.int .i64 b0, .int .i64 b1, .int .i64 b2], .int .i64 32] w fun e w' => e = .returned (.int .u32 (smallM x b0 b1 b2)) ∧ Below w.heap.size w w' := by
  have HK := Aside0.mk (show (w.alloc (.cells #[.int .i64 b0, .int .i64 b1, .int .i64 b2] 152)).drew.heap[w.heap.size]? = some (.cells #[.int .i64 b0, .int .i64 b1, .int .i64 b2] 152 (0, 0)) from heap_alloc_new w _)
  have HB := Aside0.mk (show Below w.heap.size w (w.alloc (.cells #[.int .i64 b0, .int .i64 b1, .int .i64 b2] 152)).drew from below_drew (below_alloc (Below.refl w.heap.size w) _))
  obtain ⟨j3, hj3⟩ : ∃ j, shr .u32 x b2 = j := ⟨_, rfl⟩
  have h3z : (x / 2 ^ min b2.toNat 32) = j3 := hj3
  have h3y : (x / 2 ^ b2.toNat) = j3 := shr_small hj3 h2b
  have HJ := Lib.hid hj3
  clear hj3
  go_enter Tryz.func118, Tryz.ntmps118
  go_wp2
  refine start_ (n := 17) (S := fun w' => w'.cell? ⟨w.heap.size, 0, none⟩ = some (.int .i64 b0) ∧ w'.cell? ⟨w.heap.size, 1, none⟩ = some (.int .i64 b1) ∧ w'.cell? ⟨w.heap.size, 2, none⟩ = some (.int .i64 b2)) (ds := []) (bz 17 0) (by kernel_rfl) rfl rfl ⟨(cellB3 HK.out 0 _ rfl), (cellB3 HK.out 1 _ rfl), (cellB3 HK.out 2 _ rfl)⟩ (fun hHeld => ?_)
  refine pz 0 (some 7) (bz 17 1) ?_
  refine pz 1 (some 8) (bz 17 3) ?_
  refine pz 3 (some 10) (bz 17 11) ?_
  refine pz 5 (some 12) (bz 17 43) ?_
  refine pz 6 (some 13) (bz 17 107) ?_
  refine pz 8 (some 15) (bz 17 363) ?_
  refine pz 11 (some 18) (bz 17 2411) ?_
  refine pz 12 (some 19) (bz 17 6507) ?_
  refine tz3 2 (some 9) (bz 17 6511) hHeld ?_
  refine tz3 7 (some 14) (bz 17 6639) hHeld ?_
  refine tz3 13 (some 20) (bz 17 14831) hHeld ?_
  refine pz 14 (some 21) (bz 17 31215) ?_
  refine one_ (i := 4) (N := some 11) (bz 17 31231) rfl rfl (by kernel_rfl) (by decide) (fun K hK => ?_)
  refine goes_ Tryz.func119 (by kernel_rfl) rfl #[.int .u32 x, .int .i64 b0, .int .i64 32] (by rfl) rfl rfl (by simp only [List.map_toArray, List.map_cons, List.map_nil]; rfl) ?_
  with_reducible refine (turn_calls x b0 h0a h0b _).mono ?_
  rintro e w1 ⟨rfl, hd⟩
  refine ⟨_, rfl, ?_⟩
  have HK1 := Aside0.mk ((hd.below.block w.heap.size (blk_lt HK.out)).trans HK.out)
  have HB1 := Aside0.mk (Below.trans HB.out (hd.below.mono HB.out.size))
  clear hd
  refine hK.out _ _ ⟨(cellB3 HK1.out 0 _ rfl), (cellB3 HK1.out 1 _ rfl), (cellB3 HK1.out 2 _ rfl)⟩ (fun hHeld => ?_)
  clear hK K
  refine norm_ (a' := ?_) ?_ ?_
  rotate_left
  · show Act.put _ (some 11) _ = _
    simp only [Act.put, List.setIfInBounds_toArray, List.set_cons_zero, List.set_cons_succ, i64_w, i32_w]
    rfl
  refine one_ (i := 9) (N := some 16) (bz 17 31743) rfl rfl (by kernel_rfl) (by decide) (fun K hK => ?_)
  refine goes_ Tryz.func119 (by kernel_rfl) rfl #[.int .u32 x, .int .i64 b1, .int .i64 32] (by rfl) rfl rfl (by simp only [List.map_toArray, List.map_cons, List.map_nil]; rfl) ?_
  with_reducible refine (turn_calls x b1 h1a h1b _).mono ?_
  rintro e w2 ⟨rfl, hd⟩
  refine ⟨_, rfl, ?_⟩
  have HK2 := Aside0.mk ((hd.below.block w.heap.size (blk_lt HK1.out)).trans HK1.out)
  have HB2 := Aside0.mk (Below.trans HB1.out (hd.below.mono HB1.out.size))
  clear hd
  refine hK.out _ _ ⟨(cellB3 HK2.out 0 _ rfl), (cellB3 HK2.out 1 _ rfl), (cellB3 HK2.out 2 _ rfl)⟩ (fun hHeld => ?_)
  clear hK K
  refine norm_ (a' := ?_) ?_ ?_
  rotate_left
  · show Act.put _ (some 16) _ = _
    simp only [Act.put, List.setIfInBounds_toArray, List.set_cons_zero, List.set_cons_succ, i64_w, i32_w]
    rfl
  refine pz 10 (some 17) (bz 17 32767) ?_
  refine pz 15 (some 22) (bz 17 65535) ?_
  refine pz 16 (some 6) (bz 17 131071) ?_
  refine done_ (by kernel_rfl) ?_
  clear hHeld
  go_wp2
  go_ret
  exact ⟨by first | rfl | (unfold smallM; rw [HJ.out] <;> rfl), HB2.out⟩
end Go.Proofs.YtfpfnolpoklefaaGreatDoor.Sh
/- Contracts of package sha2: the tables, begin. -/
namespace Go.Proofs.YtfpfnolpoklefaaGreatDoor.Sh
open Go.Proofs.YtfpfnolpoklefaaGreatDoor.Dk
open Go.RowKit Go.Proofs.YtfpfnolpoklefaaGreatDoorW.PrintWords Go.Proofs.YtfpfnolpoklefaaGreatDoorW.PrintLast Go.Proofs.YtfpfnolpoklefaaGreatDoorW.PrintMore
set_option linter.unusedVariables false
set_option linter.unusedSimpArgs false
set_option maxRecDepth 30000
def startsL : List Int := [7640891576956012808, 13503953896175478587, 4354685564936845355, 11912009170470909681, 5840696475078001361, 11170449401992604703, 2270897969802886507, 6620516959819538809]
def constsL : List Int := [4794697086780616226, 8158064640168781261, 13096744586834688815, 16840607885511220156, 4131703408338449720, 6480981068601479193, 10538285296894168987, 12329834152419229976, 15566598209576043074, 1334009975649890238, 2608012711638119052, 6128411473006802146, 8268148722764581231, 9286055187155687089, 11230858885718282805, 13951009754708518548, 16472876342353939154, 17275323862435702243, 1135362057144423861, 2597628984639134821, 3308224258029322869, 5365058923640841347, 6679025012923562964, 8573033837759648693, 10970295158949994411, 12119686244451234320, 12683024718118986047, 13788192230050041572, 14330467153632333762, 15395433587784984357, 489312712824947311, 1452737877330783856, 2861767655752347644, 3322285676063803686, 5560940570517711597, 5996557281743188959, 7280758554555802590, 8532644243296465576, 9350256976987008742, 10552545826968843579, 11727347734174303076, 12113106623233404929, 14000437183269869457, 14369950271660146224, 15101387698204529176, 15463397548674623760, 17586052441742319658, 1182934255886127544, 1847814050463011016, 2177327727835720531, 2830643537854262169, 3796741975233480872, 4115178125766777443, 5681478168544905931, 6601373596472566643, 7507060721942968483, 8399075790359081724, 8693463985226723168, 9568029438360202098, 10144078919501101548, 10430055236837252648, 11840083180663258601, 13761210420658862357, 14299343276471374635, 14566680578165727644, 15097957966210449927, 16922976911328602910, 17689382322260857208, 500013540394364858, 748580250866718886, 1242879168328830382, 1977374033974150939, 2944078676154940804, 3659926193048069267, 4368137639120453308, 4836135668995329356, 5532061633213252278, 6448918945643986474, 6902733635092675308, 7801388544844847127]
/-- The two tables, as the program's text lays them. -/
structure Glob (w : World) : Prop where
  s : ∀ i, i < 8 → w.cell? ⟨0, i, none⟩ = some (.int .u64 (startsL.getD i 0))
  c : ∀ i, i < 80 → w.cell? ⟨1, i, none⟩ = some (.int .u64 (constsL.getD i 0))
  lt : 0 < w.heap.size ∧ 1 < w.heap.size
variable {w w1 w2 wr : World}
theorem cell_block {w w1 : World} {k : Nat} (h : w1.heap[k]? = w.heap[k]?) (j : Nat) : w1.cell? ⟨k, j, none⟩ = w.cell? ⟨k, j, none⟩ := by simp [World.cell?, h]
theorem Glob.upd {F : Nat → Prop} (h : Glob w) (hu : Upd w w1 F) (h0 : ¬ F 0) (h1 : ¬ F 1) : Glob w1 where
  s := fun i hi => (cell_block (hu.block 0 (by have := h.lt; omega) h0) i).trans (h.s i hi)
  c := fun i hi => (cell_block (hu.block 1 (by have := h.lt; omega) h1) i).trans (h.c i hi)
  lt := ⟨Nat.lt_of_lt_of_le h.lt.1 hu.size, Nat.lt_of_lt_of_le h.lt.2 hu.size⟩
theorem Glob.below (h : Glob w) (hb : Below w.heap.size w w1) : Glob w1 := h.upd (F := fun _ => False) (Upd.of_below hb) id id
theorem put_cell {g t : Nat} {cs : Array Value} (hb : w.heap[g]? = some (.cells cs t (0, 0))) (i : Nat) (u : Value) : (w.setCell ⟨g, i, none⟩ u).heap[g]? = some (.cells (cs.setIfInBounds i u) t (0, 0)) := by rw [heap_setCell_same w g i _ t u hb]
theorem put_other {g k : Nat} {o : Obj} (i : Nat) (u : Value) (hk : k ≠ g) (hb : w.heap[k]? = some o) : (w.setCell ⟨g, i, none⟩ u).heap[k]? = some o := (Below.heap_setCell w ⟨g, i, none⟩ u k hk).trans hb
theorem nums_set (k : IntKind) (xs : List Int) (i : Nat) (v : Int) : (nums k xs).toArray.setIfInBounds i (.int k v) = (nums k (xs.set i v)).toArray := by simp [nums, List.map_set]
theorem nums_getD {k : IntKind} {xs : List Int} {i : Nat} (h : i < xs.length) : (nums k xs).toArray[i]? = some (.int k (xs.getD i 0)) := by simp [nums, h]
theorem cell_nums {g t : Nat} {k : IntKind} {xs : List Int} (hb : w.heap[g]? = some (.cells (nums k xs).toArray t (0, 0))) {i : Nat} (h : i < xs.length) : w.cell? ⟨g, i, none⟩ = some (.int k (xs.getD i 0)) := by rw [cell_of_row w g i _ _ _ hb, nums_getD h]
theorem free_row {g t : Nat} {cs : Array Value} (hb : w.heap[g]? = some (.cells cs t (0, 0))) (i : Nat) : w.frozen? ⟨g, i, none⟩ = false := by simp [World.frozen?, hb]
def z8 (k : IntKind) : Array Value := (nums k (List.replicate 8 0)).toArray
theorem run_alloc124 (w : World) : (Instr.alloc 158 true (.tuple #[])).run Tryz.prog w = .ok (.pointer (some ⟨w.heap.size, 0, none⟩)) (w.alloc (.cells (z8 .u32) 158)) := by kernel_rfl
theorem run_alloc125 (w : World) : (Instr.alloc 159 true (.tuple #[])).run Tryz.prog w = .ok (.pointer (some ⟨w.heap.size, 0, none⟩)) (w.alloc (.cells (z8 .u64) 159)) := by kernel_rfl
theorem info124 (x : List Int) (h : x.length = 8) : (Tryz.prog.info? 158).map (·.size) = some (nums .u32 x).toArray.size := by rw [List.size_toArray, nums_length, h]; kernel_rfl
theorem info125 (x : List Int) (h : x.length = 8) : (Tryz.prog.info? 159).map (·.size) = some (nums .u64 x).toArray.size := by rw [List.size_toArray, nums_length, h]; kernel_rfl
def begR (f : Nat → Int) : Nat → List Int
  | 0 => List.replicate 8 0
  | i + 1 => (begR f i).set i (f i)
theorem begR_length (f : Nat → Int) : ∀ i, (begR f i).length = 8
  | 0 => rfl
  | i + 1 => by rw [begR, List.length_set]; exact begR_length f i
def beg32 (i : Nat) : Int := startsL.getD i 0 / 4294967296 % 4294967296
def beg64 (i : Nat) : Int := startsL.getD i 0
def begin32L : List Int := begR beg32 8
def begin64L : List Int := begR beg64 8
attribute [irreducible] beg32 beg64

theorem nth3_2 (w : World) (a b c : Obj) : (((w.alloc a).alloc b).alloc c).heap[w.heap.size + 1 + 1]? = some c := by
  have h := heap_alloc_new ((w.alloc a).alloc b) c
  have e : ((w.alloc a).alloc b).heap.size = w.heap.size + 1 + 1 := by simp [World.size_alloc]
  rwa [e] at h
theorem nth2_1 (w : World) (a b : Obj) : ((w.alloc a).alloc b).heap[w.heap.size + 1]? = some b := by
  have h := heap_alloc_new (w.alloc a) b
  have e : (w.alloc a).heap.size = w.heap.size + 1 := by simp [World.size_alloc]
  rwa [e] at h
theorem nth3_1 (w : World) (a b c : Obj) : (((w.alloc a).alloc b).alloc c).heap[w.heap.size + 1]? = some b := blk_below (nth2_1 w a b) (below_alloc (Below.refl _ _) c)
theorem nth3_0 (w : World) (a b c : Obj) : (((w.alloc a).alloc b).alloc c).heap[w.heap.size]? = some a := blk_below (blk_below (heap_alloc_new w a) (below_alloc (Below.refl _ _) b)) (below_alloc (Below.refl _ _) c)
theorem below3 (w : World) (a b c : Obj) : Below w.heap.size w (((w.alloc a).alloc b).alloc c) := below_alloc (below_alloc (below_alloc (Below.refl w.heap.size w) a) b) c
theorem below_row {B : Nat} (h : Below B w w1) {g : Nat} (hg : B ≤ g) (cs : Array Value) : Below B w (w1.setRow g cs) := ⟨h.os, h.tape, h.output, by rw [setRow_size]; exact h.size, fun i hi => (setRow_other _ _ _ _ (by omega)).trans (h.block i hi)⟩
theorem below_put {B : Nat} (h : Below B w w1) {g : Nat} (hg : B ≤ g) (j : Nat) (u : Value) : Below B w (w1.setCell ⟨g, j, none⟩ u) := ⟨h.os, h.tape, h.output, by simpa [World.setCell] using h.size, fun i hi => (Below.heap_setCell w1 ⟨g, j, none⟩ u i (by show i ≠ g; omega)).trans (h.block i hi)⟩

set_option maxHeartbeats 8000000 in
theorem begin64_calls (hg : Glob w) : Calls Tryz.prog 99 #[.agg wideA] w fun e w' => e = .returned (.agg (nums .u64 begin64L).toArray) ∧ Below w.heap.size w w' := by
  have HG := Aside0.mk hg
  have HB0 := Aside0.mk (below3 w (.cells wideA 154) (.cells (z8 .u64) 159) (.cells (z8 .u64) 159))
  have HK0 := Aside0.mk (nth3_0 w (.cells wideA 154) (.cells (z8 .u64) 159) (.cells (z8 .u64) 159))
  have HK1 := Aside0.mk (nth3_1 w (.cells wideA 154) (.cells (z8 .u64) 159) (.cells (z8 .u64) 159))
  have HK2 := Aside0.mk (nth3_2 w (.cells wideA 154) (.cells (z8 .u64) 159) (.cells (z8 .u64) 159))
  clear hg
  go_enter Tryz.func99, Tryz.ntmps99
  go_wp2_with (first | (refine wpList_alloc rfl rfl _ rfl (z8 .u64) (run_alloc125 _) ?_))
  go_loopw [4, 5] (fun v4 v5 w' => ∃ i : Nat, v5 = .int .i64 i ∧ i ≤ 8 ∧ Aside0 (w'.heap[w.heap.size]? = some (.cells wideA 154 (0, 0))) ∧ Aside0 (w'.heap[w.heap.size + 1]? = some (.cells (z8 .u64) 159 (0, 0))) ∧ Aside0 (w'.heap[w.heap.size + 1 + 1]? = some (.cells (nums .u64 (begR beg64 i)).toArray 159 (0, 0))) ∧ Aside0 (Below w.heap.size w w')) (fun v4 v5 _ => 8 - (intOf v5).toNat)
  case atStart => exact ⟨0, rfl, Nat.zero_le _, HK0, HK1, HK2, HB0⟩
  case round =>
    clear HK0 HK1 HK2 HB0
    obtain ⟨i, rfl, hi, HK0, HK1, HK2, HB0⟩ := hrel
    by_cases hlt : i < 8
    · obtain ⟨s, hs⟩ : ∃ s, startsL.getD i 0 = s := ⟨_, rfl⟩
      have HS := Aside0.mk (show wr.drew.cell? ⟨0, i, none⟩ = some (.int .u64 s) from by rw [← hs]; exact (HG.out.below HB0.out).s i hlt)
      have HF := Aside0.mk (show wr.drew.cell? ⟨w.heap.size, 1, none⟩ = some (.int .i64 64) from cellB3 HK0.out 1 _ rfl)
      have HN := Aside0.mk (show beg64 i = s by rw [← hs]; unfold beg64; rfl)
      have HC := Aside0.mk (show (wr.drew.setCell ⟨w.heap.size + 1 + 1, i, none⟩ (.int .u64 (s))).heap[w.heap.size + 1 + 1]? = some (.cells (nums .u64 (begR beg64 (i + 1))).toArray 159 (0, 0)) from by have h := put_cell (w := wr.drew) HK2.out i (.int .u64 (s)); rw [nums_set] at h; rw [begR, HN.out]; exact h)
      have hc : wr.drew.cell? ⟨w.heap.size + 1 + 1, i, none⟩ = some (.int .u64 ((begR beg64 i).getD i 0)) := cell_nums (w := wr.drew) HK2.out (by rw [begR_length]; exact hlt)
      have hf := free_row (w := wr.drew) HK2.out i
      have HC0 := Aside0.mk (put_other (w := wr.drew) (g := w.heap.size + 1 + 1) i (.int .u64 (s)) (by omega) HK0.out)
      have HC1 := Aside0.mk (put_other (w := wr.drew) (g := w.heap.size + 1 + 1) i (.int .u64 (s)) (by omega) HK1.out)
      have HCB := Aside0.mk (below_put (below_drew HB0.out) (g := w.heap.size + 1 + 1) (by omega) i (.int .u64 (s)))
      clear hs
      have hw32 : wrap64 32 = 32 := by simp [wrap64]
      have hw0 : wrap64 0 = 0 := by simp [wrap64]
      go_wp2
      refine start_ (n := 10) (S := fun w' => w'.cell? ⟨0, i, none⟩ = some (.int .u64 s) ∧ w'.cell? ⟨w.heap.size, 1, none⟩ = some (.int .i64 64)) (ds := [9]) (bz 10 0) (by kernel_rfl) rfl rfl ⟨HS.out, HF.out⟩ (fun hHeld => ?_)
      refine pz 0 (some 8) (bz 10 1) ?_
      refine pz 1 (some 9) (bz 10 3) ?_
      refine pz 2 (some 10) (bz 10 7) ?_
      refine pz 4 (some 12) (bz 10 23) ?_
      refine tz2 3 (some 11) (bz 10 31) hHeld ?_
      refine tz2 5 (some 13) (bz 10 63) hHeld ?_
      refine pz 6 (some 14) (bz 10 127) ?_
      refine pz 7 (some 15) (bz 10 255) ?_
      refine pz 8 (some 16) (bz 10 511) ?_
      refine last_ (i := 9) (N := none) (bz 10 1023) rfl rfl (by kernel_rfl) (by decide) (fun K hK => ?_)
      refine skip_ (w1 := ?_) (by rfl) rfl ?_ ?_
      rotate_left
      · go_simp
        rfl
      refine hK.out _ _ ?_
      clear hK K
      refine done_ (by kernel_rfl) ?_
      clear hHeld
      go_wp2
      go_roundw
      case rel => exact ⟨i + 1, by go_num, by omega, HC0, HC1, HC, HCB⟩
      case measure => simp [intOf]; omega
    · obtain rfl : i = 8 := by omega
      have HL := Aside0.mk (run_loadAt_cells (P := Tryz.prog) (w := wr) 159 Tryz.underlying159 rfl (w.heap.size + 1 + 1) 0 (nums .u64 (begR beg64 8)) (by rw [nums_length, begR_length]; kernel_rfl) (fun j u hu => by rw [Nat.zero_add, cell_of_row _ _ j _ _ _ HK2.out]; simpa using hu))
      have HST := Aside0.mk (run_store_block (P := Tryz.prog) (w.heap.size + 1) 159 (z8 .u64) (nums .u64 (begR beg64 8)).toArray 159 HK1.out (info125 _ (begR_length _ _)) (by simp [z8, nums_length, begR_length]) (by simp [nums, List.all_eq_true]; intros; rfl))
      go_wp2_with (first | (refine load_at (ty := 159) (.tmp 3) rfl rfl HL.out rfl ?_) | (refine store_at (ty := 159) (.tmp 2) (.tmp 18) rfl rfl rfl HST.out rfl rfl ?_))
      refine bodyPost_ret (results_cell_row rfl _ _ _ _ (nums .u64 (begR beg64 8)).toArray _ _ rfl (setRow_heap _ _ _ _ _ _ HK1.out) Tryz.underlying159 rfl (info125 _ (begR_length _ _))) rfl ?_
      exact ⟨rfl, below_row HB0.out (by omega) _⟩

set_option maxHeartbeats 8000000 in
theorem begin32_calls (hg : Glob w) : Calls Tryz.prog 98 #[.agg narrowA] w fun e w' => e = .returned (.agg (nums .u32 begin32L).toArray) ∧ Below w.heap.size w w' := by
  have HG := Aside0.mk hg
  have HB0 := Aside0.mk (below3 w (.cells narrowA 154) (.cells (z8 .u32) 158) (.cells (z8 .u32) 158))
  have HK0 := Aside0.mk (nth3_0 w (.cells narrowA 154) (.cells (z8 .u32) 158) (.cells (z8 .u32) 158))
  have HK1 := Aside0.mk (nth3_1 w (.cells narrowA 154) (.cells (z8 .u32) 158) (.cells (z8 .u32) 158))
  have HK2 := Aside0.mk (nth3_2 w (.cells narrowA 154) (.cells (z8 .u32) 158) (.cells (z8 .u32) 158))
  clear hg
  go_enter Tryz.func98, Tryz.ntmps98
  go_wp2_with (first | (refine wpList_alloc rfl rfl _ rfl (z8 .u32) (run_alloc124 _) ?_))
  go_loopw [4, 5] (fun v4 v5 w' => ∃ i : Nat, v5 = .int .i64 i ∧ i ≤ 8 ∧ Aside0 (w'.heap[w.heap.size]? = some (.cells narrowA 154 (0, 0))) ∧ Aside0 (w'.heap[w.heap.size + 1]? = some (.cells (z8 .u32) 158 (0, 0))) ∧ Aside0 (w'.heap[w.heap.size + 1 + 1]? = some (.cells (nums .u32 (begR beg32 i)).toArray 158 (0, 0))) ∧ Aside0 (Below w.heap.size w w')) (fun v4 v5 _ => 8 - (intOf v5).toNat)
  case atStart => exact ⟨0, rfl, Nat.zero_le _, HK0, HK1, HK2, HB0⟩
  case round =>
    clear HK0 HK1 HK2 HB0
    obtain ⟨i, rfl, hi, HK0, HK1, HK2, HB0⟩ := hrel
    by_cases hlt : i < 8
    · obtain ⟨s, hs⟩ : ∃ s, startsL.getD i 0 = s := ⟨_, rfl⟩
      have HS := Aside0.mk (show wr.drew.cell? ⟨0, i, none⟩ = some (.int .u64 s) from by rw [← hs]; exact (HG.out.below HB0.out).s i hlt)
      have HF := Aside0.mk (show wr.drew.cell? ⟨w.heap.size, 1, none⟩ = some (.int .i64 32) from cellB3 HK0.out 1 _ rfl)
      have HN := Aside0.mk (show beg32 i = s / 4294967296 % 4294967296 by rw [← hs]; unfold beg32; rfl)
      have HC := Aside0.mk (show (wr.drew.setCell ⟨w.heap.size + 1 + 1, i, none⟩ (.int .u32 (s / 4294967296 % 4294967296))).heap[w.heap.size + 1 + 1]? = some (.cells (nums .u32 (begR beg32 (i + 1))).toArray 158 (0, 0)) from by have h := put_cell (w := wr.drew) HK2.out i (.int .u32 (s / 4294967296 % 4294967296)); rw [nums_set] at h; rw [begR, HN.out]; exact h)
      have hc : wr.drew.cell? ⟨w.heap.size + 1 + 1, i, none⟩ = some (.int .u32 ((begR beg32 i).getD i 0)) := cell_nums (w := wr.drew) HK2.out (by rw [begR_length]; exact hlt)
      have hf := free_row (w := wr.drew) HK2.out i
      have HC0 := Aside0.mk (put_other (w := wr.drew) (g := w.heap.size + 1 + 1) i (.int .u32 (s / 4294967296 % 4294967296)) (by omega) HK0.out)
      have HC1 := Aside0.mk (put_other (w := wr.drew) (g := w.heap.size + 1 + 1) i (.int .u32 (s / 4294967296 % 4294967296)) (by omega) HK1.out)
      have HCB := Aside0.mk (below_put (below_drew HB0.out) (g := w.heap.size + 1 + 1) (by omega) i (.int .u32 (s / 4294967296 % 4294967296)))
      clear hs
      have hw32 : wrap64 32 = 32 := by simp [wrap64]
      have hw0 : wrap64 0 = 0 := by simp [wrap64]
      go_wp2
      refine start_ (n := 11) (S := fun w' => w'.cell? ⟨0, i, none⟩ = some (.int .u64 s) ∧ w'.cell? ⟨w.heap.size, 1, none⟩ = some (.int .i64 32)) (ds := [10]) (bz 11 0) (by kernel_rfl) rfl rfl ⟨HS.out, HF.out⟩ (fun hHeld => ?_)
      refine pz 0 (some 8) (bz 11 1) ?_
      refine pz 1 (some 9) (bz 11 3) ?_
      refine pz 2 (some 10) (bz 11 7) ?_
      refine pz 4 (some 12) (bz 11 23) ?_
      refine tz2 3 (some 11) (bz 11 31) hHeld ?_
      refine tz2 5 (some 13) (bz 11 63) hHeld ?_
      refine pz 6 (some 14) (bz 11 127) ?_
      refine pz 7 (some 15) (bz 11 255) ?_
      refine pz 8 (some 16) (bz 11 511) ?_
      refine pz 9 (some 17) (bz 11 1023) ?_
      refine last_ (i := 10) (N := none) (bz 11 2047) rfl rfl (by kernel_rfl) (by decide) (fun K hK => ?_)
      refine skip_ (w1 := ?_) (by rfl) rfl ?_ ?_
      rotate_left
      · go_simp
        rfl
      refine hK.out _ _ ?_
      clear hK K
      refine done_ (by kernel_rfl) ?_
      clear hHeld
      go_wp2
      go_roundw
      case rel => exact ⟨i + 1, by go_num, by omega, HC0, HC1, HC, HCB⟩
      case measure => simp [intOf]; omega
    · obtain rfl : i = 8 := by omega
      have HL := Aside0.mk (run_loadAt_cells (P := Tryz.prog) (w := wr) 158 Tryz.underlying158 rfl (w.heap.size + 1 + 1) 0 (nums .u32 (begR beg32 8)) (by rw [nums_length, begR_length]; kernel_rfl) (fun j u hu => by rw [Nat.zero_add, cell_of_row _ _ j _ _ _ HK2.out]; simpa using hu))
      have HST := Aside0.mk (run_store_block (P := Tryz.prog) (w.heap.size + 1) 158 (z8 .u32) (nums .u32 (begR beg32 8)).toArray 158 HK1.out (info124 _ (begR_length _ _)) (by simp [z8, nums_length, begR_length]) (by simp [nums, List.all_eq_true]; intros; rfl))
      go_wp2_with (first | (refine load_at (ty := 158) (.tmp 3) rfl rfl HL.out rfl ?_) | (refine store_at (ty := 158) (.tmp 2) (.tmp 19) rfl rfl rfl HST.out rfl rfl ?_))
      refine bodyPost_ret (results_cell_row rfl _ _ _ _ (nums .u32 (begR beg32 8)).toArray _ _ rfl (setRow_heap _ _ _ _ _ _ HK1.out) Tryz.underlying158 rfl (info124 _ (begR_length _ _))) rfl ?_
      exact ⟨rfl, below_row HB0.out (by omega) _⟩

end Go.Proofs.YtfpfnolpoklefaaGreatDoor.Sh
