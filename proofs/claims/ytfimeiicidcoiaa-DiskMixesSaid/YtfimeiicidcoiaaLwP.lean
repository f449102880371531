/- A disk and its copy, beside each other. -/
import Derived.Test.YtfimeiicidcoiaaLwG
namespace Go.Proofs.Ytfimeiicidcoiaa.Dk
open Go.RowKit Go.Proofs.YtfimeiicidcoiaaW.PrintWords Go.Proofs.YtfimeiicidcoiaaW.PrintLast Go.Proofs.YtfimeiicidcoiaaW.PrintMore
set_option linter.unusedVariables false
set_option linter.unusedSimpArgs false
section
variable {P : Program} {ops : Array Oper} {Q : Exit → Act → World → Prop} {a : Act} {w w1 : World} {rest : List Oper} {o : Oper}
/-- A load under a guard that says yes. -/
theorem load_atG {ty : TypeId} {p v : Value} (x : Operand) (hw : Region.wanted o (yielded ops a.tmps) = true) (ho : o.op = .load ty x) (hrun : (Instr.loadAt ty p).run P w = .ok v w) (hx : a.eval x = p)
    (h : wpList P ops Q rest (a.put o.dst v) w) : wpList P ops Q (o :: rest) a w := by
  refine BigFrame.wpList_want hw fun K hK => ?_
  have he : (execOp a.eval o).run P w = .ok (.value v) w := by
    unfold execOp
    simp [ho, hx, hrun]
  unfold Oper.wp
  rw [he, Oper.upon_value]
  exact hK _ _ h
/-- A slice that is built, under a guard that says yes or under none. -/
theorem buildS_atG {t : TypeId} {n : Nat} {parts : Array (Nat × Operand)} {args : Array (Nat × Value)} {v : Value} (hw : Region.wanted o (yielded ops a.tmps) = true) (ho : o.op = .buildSlice t n parts) (he : parts.map (fun x => (x.1, a.eval x.2)) = args) (hrun : (Instr.buildSlice t n args).run P w = .ok v w1)
    (h : wpList P ops Q rest (a.put o.dst v) w1) : wpList P ops Q (o :: rest) a w := by
  refine BigFrame.wpList_want hw fun K hK => ?_
  have he2 := exec_buildSlice (P := P) ho he hrun
  unfold Oper.wp
  rw [he2, Oper.upon_value]
  exact hK _ _ h
end
theorem info37 : (Try.prog.info? 37).map (fun i => (i.zero, i.size, i.bytes)) = some (some (.agg #[.int .i64 0, .int .i64 0, .int .i64 0, .slice none 0 0, .slice none 0 0]), 5, 72) := by kernel_rfl
theorem buildSlice23 (v0 v1 v2 v3 v4 : Value) (w : World) : (Instr.buildSlice 23 1 #[(0, .agg #[v0, v1, v2, v3, v4])]).run Try.prog w = .ok (.slice (some ⟨w.heap.size, 0, none⟩) 1 1) (w.alloc (.cells #[v0, v1, v2, v3, v4] 37)) := by
  obtain ⟨ie, hie, hz⟩ := Option.map_eq_some_iff.1 info37
  injection hz with hz1 hz2
  injection hz2 with hz2 hz3
  refine run_buildSlice w 23 37 1 _ _ ie _ Try.underlying23 hie hz1 (by rw [hz2]; decide) (by rw [hz2]; decide) ?_
  rw [hz2]
  have := Great.fill_whole (s := 5) (by decide) [.agg #[v0, v1, v2, v3, v4]] ((Array.range (1 * 5)).map (fun i => (Value.agg #[.int .i64 0, .int .i64 0, .int .i64 0, .slice none 0 0, .slice none 0 0]).cells[i % (Value.agg #[.int .i64 0, .int .i64 0, .int .i64 0, .slice none 0 0, .slice none 0 0]).cells.size]!)) (by simp [Value.cells]) (by simp)
  simpa [Value.cells] using this
variable {w0 w w' W W' w1 w2 : World} {B B' g gc : Nat} {F F' Fc : Nat → Prop} {D D' C C' : DM}
theorem DiskAt.lower (h : DiskAt w B g F D) (hb : B' ≤ B) : DiskAt w B' g F D := by
  obtain ⟨a, b, c, h⟩ := h
  exact ⟨a, b, c, h.blk, Kd.R_lower h.sec hb, Kd.R_lower h.held hb, Kd.R_lower h.choice hb, h.own, fun k hk => ⟨Nat.le_trans hb (h.lt k hk).1, (h.lt k hk).2⟩⟩
structure Pr (w0 w : World) (g : Nat) (F : Nat → Prop) (D : DM) (gc : Nat) (Fc : Nat → Prop) (C : DM) : Prop where
  d : St w0 w g F D
  c : St w0 w gc Fc C
  ap : ∀ k, F k → ¬ Fc k
theorem Pr.swap (h : Pr w0 w g F D gc Fc C) : Pr w0 w gc Fc C g F D := ⟨h.c, h.d, fun k h1 h2 => h.ap k h2 h1⟩
theorem Pr.onD (h : Pr w0 w g F D gc Fc C) (hp : DPost w w' w0.heap.size g F D') : ∃ F', Pr w0 w' g F' D' gc Fc C := by
  obtain ⟨F', hF, hd, hu⟩ := hp
  refine ⟨F', ⟨hd, below_upd h.d.b hu h.d.d.lo⟩, ⟨h.c.d.frame hu (fun k _ h1 h2 => h.ap k h2 h1), below_upd h.d.b hu h.d.d.lo⟩, fun k h1 h2 => ?_⟩
  rcases hF k h1 with h1 | h1
  · exact h.ap k h1 h2
  · have := h.c.d.lt k h2
    omega
theorem Pr.below (h : Pr w0 w g F D gc Fc C) (hb : Below w.heap.size w w') : Pr w0 w' g F D gc Fc C := ⟨h.d.below hb, h.c.below hb, h.ap⟩
theorem sCopy (h : St w0 w g F D) (hok : DOk D) : Calls Try.prog 24 #[.pointer (some ⟨g, 0, none⟩)] w fun e w' => ∃ gc Fc, e = .returned (.pointer (some ⟨gc, 0, none⟩)) ∧ Pr w0 w' g F D gc Fc D ∧ (∀ k, Fc k → w.heap.size ≤ k) ∧ Below w.heap.size w w' := by
  have hs := h
  have hlt := h.d.lt
  obtain ⟨⟨_, _, _, h⟩, hb0⟩ := h
  refine (Copy_calls h hok).mono ?_
  rintro e w' ⟨rfl, hd, hb⟩
  exact ⟨w.heap.size, _, rfl, ⟨hs.below hb, ⟨hd.lower hb0.size, below_trans hb0 hb⟩, fun k h1 h2 => by have := hlt k h1; omega⟩, fun k hk => hk.1, hb⟩
/-- The choice that the laws lose with. -/
def lits4 : List Bool := [true, true, false, true]
theorem C_lits4 {b : Nat} (h : W.heap[b]? = some (.cells #[.bool true, .bool true, .bool false, .bool true] 4 (0, 0))) : Kd.C Kd.bool W (some ⟨b, 0, none⟩) 4 lits4 := by
  refine ⟨rfl, by decide, fun _ => ⟨_, rfl, fun j p hj => ⟨[.bool p], rfl, rfl, fun i u hu => ?_⟩⟩⟩
  cases i with
  | succ i => simp at hu
  | zero =>
    simp only [List.getElem?_cons_zero, Option.some.injEq] at hu
    subst hu
    have e : ∀ j, (⟨b, 0, none⟩ : Addr).add (j * Kd.bool.sz + 0) = ⟨b, j, none⟩ := fun j => by
      simp only [Kd.bool, Kd.scalar, Nat.mul_one, Nat.add_zero, Addr.add]
      split
      · rename_i h0; rw [h0]
      · simp
    rw [e, World.cell?, h]
    match j, hj with
    | 0, hj => injection hj with hj; subst hj; rfl
    | 1, hj => injection hj with hj; subst hj; rfl
    | 2, hj => injection hj with hj; subst hj; rfl
    | 3, hj => injection hj with hj; subst hj; rfl
    | j + 4, hj => simp [lits4] at hj
theorem prLose (h : Pr w0 w g F D gc Fc C) (hok : DOk D) :
    Calls Try.prog 15 #[.pointer (some ⟨g, 0, none⟩), .slice (some ⟨w.heap.size, 0, none⟩) 4 4] (w.alloc (.cells #[.bool true, .bool true, .bool false, .bool true] 4)) fun e w' => e = .returned (.tuple #[]) ∧ ∃ F', Pr w0 w' g F' (loseM lits4 D) gc Fc C := by
  have hn := heap_alloc_new w (.cells #[.bool true, .bool true, .bool false, .bool true] 4)
  have h1 := h.below (below_alloc (Below.refl w.heap.size w) (.cells #[.bool true, .bool true, .bool false, .bool true] 4))
  refine (dLose h1.d.d hok (some ⟨w.heap.size, 0, none⟩) 4 lits4 (by decide) (fun W hW => C_lits4 ((hW.block _ (blk_lt hn) (fun hf => ?_)).trans hn))).mono ?_
  · have := h.d.d.lt _ hf
    omega
  · rintro e w' ⟨rfl, hp⟩
    exact ⟨rfl, h1.onD hp⟩
theorem prLoseC (h : Pr w0 w g F D gc Fc C) (hok : DOk C) :
    Calls Try.prog 15 #[.pointer (some ⟨gc, 0, none⟩), .slice (some ⟨w.heap.size, 0, none⟩) 4 4] (w.alloc (.cells #[.bool true, .bool true, .bool false, .bool true] 4)) fun e w' => e = .returned (.tuple #[]) ∧ ∃ Fc', Pr w0 w' g F D gc Fc' (loseM lits4 C) :=
  (prLose h.swap hok).mono fun e w' ⟨he, F', hp⟩ => ⟨he, F', hp.swap⟩
theorem Ops.one {b : Nat} {o : OpM} {ab ac : Option Addr} {cb cc : Nat} (h : W.heap[b]? = some (.cells #[.int .i64 o.kind, .int .i64 o.at_, .int .i64 o.n, .slice ab o.b.length cb, .slice ac o.ch.length cc] 37 (0, 0))) (hO : OpIs W o [.int .i64 o.kind, .int .i64 o.at_, .int .i64 o.n, .slice ab o.b.length cb, .slice ac o.ch.length cc]) : Ops W (some ⟨b, 0, none⟩) [o] := by
  refine ⟨rfl, by simp, fun _ => ⟨_, rfl, fun j p hj => ?_⟩⟩
  match j, hj with
  | 0, hj =>
    injection hj with hj
    subst hj
    refine ⟨_, rfl, hO, fun i u hu => ?_⟩
    have e : (⟨b, 0, none⟩ : Addr).add (0 * 5 + i) = ⟨b, i, none⟩ := by
      simp only [Nat.zero_mul, Nat.zero_add, Addr.add]
      split
      · rename_i h0; rw [h0]
      · rfl
    rw [e]
    refine cellB h i u ?_
    simpa using hu
  | j + 1, hj => simp at hj
/-- What is refused changes nothing, if the power did not go at it. -/
def Idle (D : DM) (r : DM × Int) : Prop := r.2 = 0 ∨ (r.2 = 60 ∧ D.down = false) ∨ r.1 = D
theorem idle_write (k : Int) (x : List Int) : Idle D (writeM D k x) := by
  unfold writeM
  split
  · exact .inr (.inr rfl)
  · rename_i ha
    split
    · exact .inr (.inr rfl)
    · split
      · refine .inr (.inl ⟨rfl, ?_⟩)
        cases hd : D.down with
        | false => rfl
        | true => exact absurd (by simp [atM, hd]) ha
      · exact .inl rfl
theorem idle_set (n : Int) (l : List Bool) : Idle D (setM D n l) := by
  unfold setM
  split
  · exact .inr (.inr rfl)
  · split
    · exact .inr (.inr rfl)
    · exact .inl rfl
theorem idle_saveFrom (x : List Int) (k : Int) : ∀ (m i : Nat) (D : DM), D.down = false → 0 ≤ k → k + i + m ≤ (D.sec.length : Int) → (saveFrom x k m i D).2 = 0 ∨ (saveFrom x k m i D).2 = 60
  | 0, _, _, _, _, _ => .inl rfl
  | m + 1, i, D, hd, h0, h1 => by
    have ha : atM D (k + i) = 0 := by
      unfold atM
      rw [hd, if_neg (by decide), if_neg (by omega)]
    have hs := (writeM_hs (D := D) (k + i) (secAt x i)).2
    rw [saveFrom]
    by_cases hw : (writeM D (k + i) (secAt x i)).2 ≠ 0
    · rw [if_pos hw]
      rcases idle_write (D := D) (k + i) (secAt x i) with h | h | h
      · exact absurd h hw
      · exact .inr h.1
      · right
        unfold writeM at hw ⊢
        rw [ha] at hw ⊢
        rw [if_neg (by decide), if_neg (by rw [secAt_length]; decide)] at hw ⊢
        split at hw
        · rename_i hg; rw [if_pos hg]
        · exact absurd rfl hw
    · rw [if_neg hw]
      refine idle_saveFrom x k m (i + 1) _ ?_ h0 (by rw [hs]; omega)
      unfold writeM at hw ⊢
      rw [ha] at hw ⊢
      rw [if_neg (by decide), if_neg (by rw [secAt_length]; decide)] at hw ⊢
      split at hw
      · exact absurd (by decide : (60 : Int) ≠ 0) hw
      · rename_i hg
        rw [if_neg hg]
        unfold goesM
        split
        · exact hd
        · split <;> exact hd
theorem idle_save (k : Int) (x : List Int) : Idle D (saveM D k x) := by
  unfold saveM
  split
  · exact .inr (.inr rfl)
  · rename_i hs
    have hs : spanM D k x.length = 0 := by simpa using hs
    obtain ⟨hd, h0, h1, h2⟩ := spanM_zero hs
    rw [need_nat] at h2
    rcases idle_saveFrom x k ((x.length + 63) / 64) 0 D hd h0 (by omega) with h | h
    · exact .inl h
    · exact .inr (.inl ⟨h, hd⟩)
end Go.Proofs.Ytfimeiicidcoiaa.Dk
