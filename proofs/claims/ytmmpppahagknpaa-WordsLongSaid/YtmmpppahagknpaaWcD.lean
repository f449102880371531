/- words.Counts: what it tells. -/
import Derived.Test.YtmmpppahagknpaaWcC
import Derived.Maps.OwnSet
namespace Go.Proofs.Ytmmpppahagknpaa.Wc
open Go.RowKit Go.Proofs.Ytmmpppahagknpaa.P Go.Proofs.Ytmmpppahagknpaa.Pure Go.Proofs.YtmmpppahagknpaaW.PrintWords Go.Proofs.YtmmpppahagknpaaW.PrintLast Go.Proofs.YtmmpppahagknpaaW.PrintMore
open Go.Maps (Keyed string_keyed)
set_option linter.unusedVariables false
set_option linter.unusedSimpArgs false
set_option maxRecDepth 30000
/-! ### The map of the words met -/
theorem law9 : Keyed Try.prog 9 := string_keyed Try.underlying9
theorem zero3' (w : World) : (zeroValue 3).run Try.prog w = .ok (.int .i64 0) w := by kernel_rfl
theorem info45 : (Try.prog.info? 45).map (fun i => (i.zero, i.size, i.bytes)) = some (some (.agg #[(.slice none 0 0), (.int .i64 0)]), 2, 32) := by kernel_rfl
def kL (x : List Int) : Lit := .string (x.map fun n => UInt8.ofNat n.toNat)
theorem kL_ne {x y : List Int} (hx : Byts x) (hy : Byts y) (h : x ≠ y) : kL x ≠ kL y := fun e => h (str_inj hx hy (by injection e))
theorem kL_key {x : List Int} (hl : x.length ≤ 16384) : keyOf Try.prog 9 (.string (strOfNums x)) = some (kL x) := by
  have e : (strOfNums x).size = x.length := by simp [strOfNums, ByteArray.size]
  rw [WideMaps.keyOf_string_mk Try.underlying9 (by rw [e]; unfold maxLen; omega)]
  simp [kL, strOfNums]
/-- Block B: the map that tells each word met its number in the row. -/
structure Mp (w : World) (B : Nat) (ks : List (List Int)) : Prop where
  ex : ∃ D : DataW Unit, w.ownsMap Try.prog 9 (plainElem Try.prog 3) B ks.length D ∧ (∀ x, Byts x → Maps.has D (kL x) = decide (x ∈ ks)) ∧ ∀ (j : Nat) (x : List Int), ks[j]? = some x → D.atKey (kL x) (.lit (.int .i64 0)) = .lit (.int .i64 j)
section
variable {w w' w1 w2 : World} {B : Nat} {ks : List (List Int)} {x : List Int}
theorem Mp.made (w : World) : Mp (w.alloc (.map #[] 0)) w.heap.size [] := ⟨.map [], World.ownsMap_made _ _ _ _, fun x _ => by rw [decide_eq_false (by simp)]; rfl, fun j x h => by simp at h⟩
theorem Mp.block (h : Mp w B ks) (e : w'.heap[B]? = w.heap[B]?) : Mp w' B ks := by
  obtain ⟨D, ⟨es, clock, hb, r⟩, h1, h2⟩ := h.ex
  exact ⟨D, ⟨es, clock, e.trans hb, r⟩, h1, h2⟩
theorem Mp.form (h : Mp w B ks) : ∃ es clock, w.heap[B]? = some (.map es clock) := by
  obtain ⟨D, ⟨es, clock, hb, r⟩, h1, h2⟩ := h.ex
  exact ⟨es, clock, hb⟩
theorem Mp.lt (h : Mp w B ks) : B < w.heap.size := by
  obtain ⟨D, ho, _⟩ := h.ex
  exact ho.lt
theorem Mp.below (h : Mp w B ks) (hb : Below w.heap.size w w') : Mp w' B ks := h.block (hb.block B h.lt)
theorem Mp.put (h : Mp w B ks) (hx : Byts x) (hB : ∀ y ∈ ks, Byts y) (hn : x ∉ ks) {D : DataW Unit} (h1 : ∀ x, Byts x → Maps.has D (kL x) = decide (x ∈ ks)) (h2 : ∀ (j : Nat) (x : List Int), ks[j]? = some x → D.atKey (kL x) (.lit (.int .i64 0)) = .lit (.int .i64 j)) (hD : Maps.IsMap D)
    (ho : w'.ownsMap Try.prog 9 (plainElem Try.prog 3) B (ks.length + 1) (D.put (kL x) (.lit (.int .i64 ks.length)))) : Mp w' B (ks ++ [x]) := by
  refine ⟨_, by rw [List.length_append]; exact ho, fun y hy => ?_, fun j y hj => ?_⟩
  · by_cases e : y = x
    · subst e
      rw [Maps.has_put_same hD (show WideAt.IsKeyLit (kL y) from trivial), decide_eq_true (by simp)]
    · rw [Maps.has_put_other (kL_ne hy hx e), h1 y hy]
      simp [e]
  · rcases Nat.lt_or_ge j ks.length with hlt | hge
    · rw [List.getElem?_append_left hlt] at hj
      have hm := List.mem_of_getElem? hj
      rw [Maps.atKey_put_other (kL_ne (hB y hm) hx (fun e => hn (e ▸ hm))), h2 j y hj]
    · obtain rfl : j = ks.length := by
        have := (List.getElem?_eq_some_iff.1 hj).1
        simp at this; omega
      rw [List.getElem?_append_right (Nat.le_refl _), Nat.sub_self, List.getElem?_cons_zero] at hj
      injection hj with hj
      subst hj
      exact Maps.atKey_put_same hD (show WideAt.IsKeyLit (kL x) from trivial) _ _
/-! ### At the operations -/
variable {ops : Array Oper} {rest : List Oper} {o : Oper} {a : Act} {Q : Exit → Act → World → Prop}
theorem look_in (hg : o.guard = none) (m y : Operand) (hop : o.op = Op.lookup 57 m y true) (h : Mp w B ks) (hm : a.eval m = .map (some B)) (hl : x.length ≤ 16384) (hx : Byts x) (hk : a.eval y = .string (strOfNums x)) {j : Nat} (hj : ks[j]? = some x)
    (hK : wpList Try.prog ops Q rest (a.put o.dst (.tuple #[.int .i64 j, .bool true])) w) : wpList Try.prog ops Q (o :: rest) a w := by
  obtain ⟨D, ho, h1, h2⟩ := h.ex
  refine wpList_lookup_own_ok_int w hg m y 57 hop 9 3 .i64 law9 Try.underlying57 Try.underlying3 (zero3' _) B ks.length D hm ho _ _ hk (kL_key hl) (fun c hat _ => ?_)
  rw [h2 j x hj] at hat
  injection hat with hat
  injection hat with _ hat
  subst hat
  rw [h1 x hx, decide_eq_true (List.mem_of_getElem? hj)]
  exact hK
theorem look_out (hg : o.guard = none) (m y : Operand) (hop : o.op = Op.lookup 57 m y true) (h : Mp w B ks) (hm : a.eval m = .map (some B)) (hl : x.length ≤ 16384) (hx : Byts x) (hk : a.eval y = .string (strOfNums x)) (hj : x ∉ ks)
    (hK : wpList Try.prog ops Q rest (a.put o.dst (.tuple #[.int .i64 0, .bool false])) w) : wpList Try.prog ops Q (o :: rest) a w := by
  obtain ⟨D, ho, h1, h2⟩ := h.ex
  refine wpList_lookup_own_ok_int w hg m y 57 hop 9 3 .i64 law9 Try.underlying57 Try.underlying3 (zero3' _) B ks.length D hm ho _ _ hk (kL_key hl) (fun c hat _ => ?_)
  have hh : Maps.has D (kL x) = false := by rw [h1 x hx, decide_eq_false hj]
  rw [Maps.atKey_of_not_has hh] at hat
  injection hat with hat
  injection hat with _ hat
  subst hat
  rw [hh]
  exact hK
theorem put_new (hg : o.guard = none) (m y z : Operand) (hop : o.op = Op.mapUpdate 57 m y z) (h : Mp w B ks) (hm : a.eval m = .map (some B)) (hl : x.length ≤ 16384) (hx : Byts x) (hB : ∀ y ∈ ks, Byts y) (hk : a.eval y = .string (strOfNums x)) (hj : x ∉ ks) (hn : ks.length ≤ 1000000) {n : Nat} (hz : a.eval z = .int .i64 n) (hnn : n = ks.length)
    (hK : ∀ w', Mp w' B (ks ++ [x]) → w.grownBy w' (some B) → wpList Try.prog ops Q rest (a.put o.dst undef) w') : wpList Try.prog ops Q (o :: rest) a w := by
  subst hnn
  obtain ⟨D, ho, h1, h2⟩ := h.ex
  refine wpList_mapUpdate_own w hg m y z 57 hop 9 3 law9 Try.underlying57 _ B ks.length D hm ho (by unfold maxLen; omega) _ _ _ hk hz (kL_key hl) (.lit (.int .i64 ks.length)) [] (plainElem_int Try.underlying3 (WalkArith.wf_i64 (by omega))) (fun w' ho' hg' => ?_)
  exact hK w' (h.put hx hB hj h1 h2 ho.isMap ho') hg'
end
/-! ### The row beside the map -/
section
variable {w w1 w2 w' : World} {e : TypeId} {Z : Nat → Prop} {v v1 v2 : Value} {cs : List CE} {l : List Cn} {x y : CE} {B : Nat} {ks : List (List Int)}
theorem Ct.notB (h : Ct w w1 e Z v cs l) (hm : Mp w1 B ks) : some B ≠ v.ownBlock := fun he => by
  obtain ⟨es, clock, hb⟩ := hm.form
  obtain ⟨hr0, inner, ⟨ho1, ho2⟩, hr⟩ := h.row
  rcases ho2 with ⟨hv, _⟩ | ⟨g, cap, cur, hv, hg, hh, _⟩
  · rw [hv] at he; cases he
  · rw [hv] at he
    injection he with he
    subst he
    rw [hb] at hh
    cases hh
theorem Ct.turned (h : Ct w w1 e Z v cs l) (hm : Mp w1 B ks) (hg : w1.grownBy w2 (some B)) (hB : w.heap.size ≤ B) (hz : ¬ Z B) : Ct w w2 e Z v cs l := by
  obtain ⟨es, clock, hb⟩ := hm.form
  obtain ⟨hr0, inner, ⟨ho1, ho2⟩, hr⟩ := h.row
  have hoth : ∀ k, k < w1.heap.size → k ≠ B → w2.heap[k]? = w1.heap[k]? := fun k hk hne => hg.block k hk (fun e => hne (Option.some.inj e))
  refine ⟨h.pr, ⟨hr0, inner, ⟨ho1, ?_⟩, hr⟩, fun x hx => Kd.V_step (h.el x hx) (fun k hk hlt => hoth k hlt (fun e => hz (e ▸ hk))), fun k hk => Nat.lt_of_lt_of_le (h.zl k hk) hg.size, h.zb, h.b.grown hg h.b.size (fun k hk => by injection hk with hk; omega)⟩
  rcases ho2 with h0 | ⟨g, cap, cur, hv, hgl, hh, hrest⟩
  · exact .inl h0
  · exact .inr ⟨g, cap, cur, hv, hgl, (hoth g (blk_lt hh) (fun e => by rw [e, hb] at hh; cases hh)).trans hh, hrest⟩
theorem Ct.appended (h : Ct w w1 e Z v cs l) (hr : Kd.R kE e w2 w.heap.size (fun k => w.heap.size ≤ k ∧ ¬ Z k) v2 (cs ++ [y])) (hb : Below w.heap.size w w2) (hg : w1.grownBy w2 v.ownBlock) (hy : y.Ok w1 Z) : Ct w w2 e Z v2 (cs ++ [y]) (l ++ [y.pr]) := by
  have hblk : ∀ k, Z k → k < w1.heap.size → w2.heap[k]? = w1.heap[k]? := fun k hk hlt => hg.block k hlt (fun e => (h.row.1 k e.symm).2 hk)
  refine ⟨by rw [List.map_append, h.pr]; rfl, hr, fun x hx => ?_, fun k hk => Nat.lt_of_lt_of_le (h.zl k hk) hg.size, h.zb, hb⟩
  rcases List.mem_append.1 hx with hx | hx
  · exact Kd.V_step (h.el x hx) hblk
  · rw [List.mem_singleton.1 hx]; exact Kd.V_step hy hblk
theorem Ct.last {g n c : Nat} (h : Ct w w1 e Z (.slice (some ⟨g, 0, none⟩) n c) (cs ++ [y]) l) : w1.cell? ⟨g, cs.length * 2, none⟩ = some (.slice y.A y.b.length y.c) ∧ w1.cell? ⟨g, cs.length * 2 + 1, none⟩ = some (.int .i64 y.n) := by
  have := h.cells (j := cs.length) (by simp)
  rwa [List.getElem_concat_length rfl] at this
theorem Ct.setLast {g n c : Nat} (h : Ct w w1 e Z (.slice (some ⟨g, 0, none⟩) n c) (cs ++ [y]) (l ++ [y.pr])) (m : Int) : Ct w (w1.setCell ⟨g, cs.length * 2 + 1, none⟩ (.int .i64 m)) e Z (.slice (some ⟨g, 0, none⟩) n c) (cs ++ [⟨y.A, y.c, y.b, m⟩]) (l ++ [(y.b, m)]) := by
  have h1 := h.set (j := cs.length) (by simp) m
  have hl : cs.length = l.length := by have := h.len; simpa using this
  rw [List.getElem_concat_length rfl, List.set_append_right _ _ (Nat.le_refl _), Nat.sub_self, hl, List.set_append_right _ _ (Nat.le_refl _), Nat.sub_self] at h1
  rw [hl]
  exact h1
theorem Ct.formLast (h : Ct w w1 e Z v (cs ++ [y]) l) : ∃ g c, v = .slice (some ⟨g, 0, none⟩) (cs.length + 1) c ∧ g < w1.heap.size ∧ ¬ Z g ∧ cs.length + 1 ≤ c ∧ w1.frozen? ⟨g, cs.length * 2 + 1, none⟩ = false := by
  obtain ⟨g, c, rfl, h1, h2, h3, h4, cells, h5⟩ := h.form (by simp)
  have e1 : (cs ++ [y]).length = cs.length + 1 := by simp
  rw [e1] at h4 ⊢
  exact ⟨g, c, rfl, h2, h3, h4, blk_frozen h5 _⟩
end
theorem build45 (A : Option Addr) (n c : Nat) (w : World) : (Instr.buildSlice 36 1 #[(0, .agg #[.slice A n c, .int .i64 0])]).run Try.prog w = .ok (.slice (some ⟨w.heap.size, 0, none⟩) 1 1) (w.alloc (.cells #[.slice A n c, .int .i64 0] 45)) := by kernel_rfl
def tot (T : List (List Int)) : Nat := (T.map List.length).sum
theorem tot_snoc {T : List (List Int)} {i : Nat} (h : i < T.length) : tot (T.take (i + 1)) = tot (T.take i) + T[i].length := by
  unfold tot
  rw [List.take_succ_eq_append_getElem h]
  simp only [List.map_append, List.sum_append, List.map_cons, List.map_nil, List.sum_cons, List.sum_nil]
  omega
theorem tot_take (T : List (List Int)) (i : Nat) : tot (T.take i) ≤ tot T := by
  conv => rhs; rw [← List.take_append_drop i T]
  unfold tot
  simp only [List.map_append, List.sum_append]
  omega
theorem tot_mem {T : List (List Int)} {t : List Int} (h : t ∈ T) : t.length ≤ tot T := by
  obtain ⟨i, hi, rfl⟩ := List.mem_iff_getElem.1 h
  have := tot_take T (i + 1)
  rw [tot_snoc hi] at this
  omega
theorem wordsOf_tot {T : List (List Int)} (hB : ∀ t ∈ T, Byts t) (hl : tot T ≤ 100000) : (wordsOf T).length ≤ tot T := by
  have : ∀ i, i ≤ T.length → (wordsOf (T.take i)).length ≤ tot (T.take i) := by
    intro i
    induction i with
    | zero => intro _; simp [wordsOf, tot]
    | succ i ih =>
      intro hi
      have h1 := tot_mem (List.getElem_mem (l := T) (n := i) (by omega))
      rw [wordsOf_snoc (by omega), tot_snoc (by omega), List.length_append]
      have := (cutM_whole T[i] (hB _ (List.getElem_mem (by omega))) (by omega)).2.2
      have := ih (by omega)
      omega
  have h := this T.length (Nat.le_refl _)
  rwa [List.take_length] at h
theorem cut_len {t x : List Int} (ht : Byts t) (hl : t.length ≤ 100000) (hx : x ∈ cutM t) : x.length ≤ t.length := by
  have := (List.sublist_flatten_of_mem hx).length_le
  rwa [(cutM_whole t ht hl).1] at this
theorem pcut_eq (l : List Int) (hb : Byts l) (hl : l.length ≤ 16384) (k : Nat) (hk : l.length + 30 ≤ k) : words_cut.f k l = some (cutM l) := by
  have h := Cut_eq l hb hl k hk
  unfold words_Cut.f at h
  rw [if_neg (by omega)] at h
  cases hc : words_cut.f k l with
  | none => rw [hc] at h; cases h
  | some r => rw [hc] at h; simp at h; rw [h]
end Go.Proofs.Ytmmpppahagknpaa.Wc
