/- StoreNil: the texts ShE ShF ShG ShH ShI StA DkH DkI DkJ DkK StB DkL DkM DkN DkO ReA ReB ReD ReE ReF ReG. -/
import Derived.Test.YtmblnflfklmmkaaDoorMStoreNil1
import Derived.Deep.MidRow
import Derived.Laws.CopyRow
import Derived.Lib.BufferWrite
import Derived.Great.BuildSlice
/- A digest under way in memory; take. -/
namespace Go.Proofs.YtmblnflfklmmkaaDoor.Sh
open Go.Proofs.YtmblnflfklmmkaaDoor.Dk
open Go.RowKit Go.Proofs.YtmblnflfklmmkaaDoorW.PrintWords Go.Proofs.YtmblnflfklmmkaaDoorW.PrintLast Go.Proofs.YtmblnflfklmmkaaDoorW.PrintMore
set_option linter.unusedVariables false
set_option linter.unusedSimpArgs false
set_option maxRecDepth 30000

variable {w w0 w1 w2 wr : World} {g : Nat} {n : Int} {r : Option (List Int)} {hv xs ys : List Int}
/-- A digest's cells: its shape, how many bytes, those that wait, the eight words, the other eight. -/
def hC (n : Int) (vr : Value) (hv h6 : List Int) : List Value := narrowA.toList ++ (.int .i64 n :: vr :: (nums .u32 hv ++ nums .u64 h6))
/-- r: what waits, if it is told. -/
structure HAt (w0 w : World) (g : Nat) (n : Int) (r : Option (List Int)) (hv : List Int) : Prop where
  blk : ∃ vr h6, w.heap[g]? = some (.cells (hC n vr hv h6).toArray 127 (0, 0)) ∧ ((∃ A m c, vr = .slice A m c) ∧ ∀ x, r = some x → Row8 w w0.heap.size vr x) ∧ h6.length = 8
  hl : hv.length = 8
  lo : w0.heap.size ≤ g
  b : Below w0.heap.size w0 w
theorem HAt.below (h : HAt w0 w g n r hv) (hb : Below w.heap.size w w1) : HAt w0 w1 g n r hv := by
  obtain ⟨vr, h6, h1, h2, h3⟩ := h.blk
  exact ⟨⟨vr, h6, blk_below h1 hb, ⟨h2.1, fun x hx => (h2.2 x hx).below hb⟩, h3⟩, h.hl, h.lo, h.b.trans (hb.mono h.b.size)⟩
theorem HAt.drew (h : HAt w0 w g n r hv) : HAt w0 w.drew g n r hv := h.below (below_drew (Below.refl _ _))
theorem HAt.lt (h : HAt w0 w g n r hv) : g < w.heap.size := by
  obtain ⟨vr, h6, h1, _⟩ := h.blk
  exact blk_lt h1
theorem HAt.rs (h : HAt w0 w g n r hv) : w.rangeAt g 0 narrowA.toList := fun j v hj => by
  obtain ⟨vr, h6, h1, _⟩ := h.blk
  rw [Nat.zero_add, cell_of_row _ _ j _ _ _ h1]
  have := List.getElem?_eq_some_iff.1 hj
  simp only [hC, List.getElem?_toArray]
  rw [List.getElem?_append_left this.1, hj]
theorem hC_mid {vr : Value} {h6 : List Int} {j : Nat} (hl : hv.length = 8) (hj : j < 8) : (hC n vr hv h6)[17 + j]? = (nums .u32 hv)[j]? := by
  simp only [hC]
  rw [List.getElem?_append_right (by simp [narrowA]; omega)]
  have e : 17 + j - narrowA.toList.length = j + 2 := by simp [narrowA]; omega
  rw [e, List.getElem?_cons_succ, List.getElem?_cons_succ, List.getElem?_append_left (by rw [nums_length, hl]; exact hj)]
theorem HAt.rh (h : HAt w0 w g n r hv) : w.rangeAt g 17 (nums .u32 hv) := fun j v hj => by
  obtain ⟨vr, h6, h1, _⟩ := h.blk
  have hlt := (List.getElem?_eq_some_iff.1 hj).1
  rw [nums_length, h.hl] at hlt
  rw [cell_of_row _ _ _ _ _ _ h1, List.getElem?_toArray, hC_mid h.hl hlt, hj]
theorem HAt.cn (h : HAt w0 w g n r hv) : w.cell? ⟨g, 15, none⟩ = some (.int .i64 n) := by
  obtain ⟨vr, h6, h1, _⟩ := h.blk
  rw [cell_of_row _ _ _ _ _ _ h1]; rfl
theorem HAt.c0 (h : HAt w0 w g n r hv) : w.cell? ⟨g, 0, none⟩ = some (.int .i64 4) := by
  obtain ⟨vr, h6, h1, _⟩ := h.blk
  rw [cell_of_row _ _ _ _ _ _ h1]; rfl
theorem HAt.free (h : HAt w0 w g n r hv) (j : Nat) : w.frozen? ⟨g, j, none⟩ = false := by
  obtain ⟨vr, h6, h1, _⟩ := h.blk
  exact free_row h1 j
/-- Another digest's words are laid. -/
theorem hC_len {vr : Value} {h6 : List Int} (hl : hv.length = 8) (h : h6.length = 8) : (hC n vr hv h6).length = 33 := by simp [hC, narrowA, nums_length, hl, h]
theorem hC_set {vr : Value} {h6 us : List Int} (hl : hv.length = 8) (hu : us.length = 8) : (hC n vr hv h6).take 17 ++ nums .u32 us ++ (hC n vr hv h6).drop (17 + (nums .u32 us).length) = hC n vr us h6 := by
  have e : (nums IntKind.u32 us).length = 8 := by rw [nums_length, hu]
  have e2 : (nums IntKind.u32 hv).length = 8 := by rw [nums_length, hl]
  rw [e]
  simp [hC, narrowA, List.drop_append, List.drop_of_length_le, e2]
theorem HAt.setH (h : HAt w0 w g n r hv) {us : List Int} (hu : us.length = 8) : HAt w0 (w.setCells g 17 (nums .u32 us)) g n r us := by
  obtain ⟨vr, h6, h1, h2, h3⟩ := h.blk
  obtain ⟨cur', c1, c2, c3⟩ := setCells_row (nums .u32 us) 17 w _ h1 (by simp [hC_len h.hl h3, nums_length, hu])
  obtain ⟨s1, s2, s3, s4⟩ := setCells_same g (nums .u32 us) 17 w
  have hup : Upd w (w.setCells g 17 (nums .u32 us)) (· = g) := ⟨s1, s2, s3, by rw [s4]; exact Nat.le_refl _, fun k _ hk => setCells_far _ _ k hk⟩
  refine ⟨⟨vr, h6, ?_, ?_, h3⟩, hu, h.lo, ?_⟩
  · rw [c1]
    congr 2
    apply Array.toList_inj.1
    rw [c3]
    exact hC_set h.hl hu
  · exact ⟨h2.1, fun x hx => (h2.2 x hx).type h1 (by decide) hup⟩
  · exact ⟨s1.trans h.b.os, s2.trans h.b.tape, s3.trans h.b.output, by rw [s4]; exact h.b.size, fun k hk => (setCells_far _ _ k (by have := h.lo; omega)).trans (h.b.block k hk)⟩
theorem HAt.there (h : HAt w0 w g n r hv) : w.there g 17 8 := fun j hj => by
  refine ⟨?_, h.free _⟩
  rw [h.rh j _ (by rw [List.getElem?_eq_getElem (by rw [nums_length, h.hl]; exact hj)])]
  rfl
theorem exec_store {P : Program} {ρ : Operand → Value} {o : Oper} {ty : TypeId} {x y : Operand} {q v : Value} {w w1 : World} (ho : o.op = .store ty x y) (hx : ρ x = q) (hy : ρ y = v) (hrun : (Instr.storeAt ty q v).run P w = .ok () w1) : (execOp ρ o).run P w = .ok .skip w1 := by
  subst hx; subst hy
  unfold execOp
  simp [ho, hrun]
/-- A slice that is empty, or bytes of a block beside g. -/
def RowAt (w : World) (g : Nat) (v : Value) (xs : List Int) : Prop := ∃ A c, v = .slice A xs.length c ∧ xs.length ≤ c ∧ (xs = [] ∨ ∃ gs o, A = some ⟨gs, o, none⟩ ∧ gs ≠ g ∧ gs < w.heap.size ∧ Bys w gs o xs)
theorem RowAt.upd {v : Value} (h : RowAt w g v xs) (hu : Upd w w1 (· = g)) : RowAt w1 g v xs := by
  obtain ⟨A, c, e, hc, h⟩ := h
  refine ⟨A, c, e, hc, h.imp_right ?_⟩
  rintro ⟨gs, o, e, hne, hlt, hb⟩
  exact ⟨gs, o, e, hne, Nat.lt_of_lt_of_le hlt hu.size, fun j hj => (cell_block (hu.block gs hlt hne) _).trans (hb j hj)⟩
theorem RowAt.below {v : Value} (h : RowAt w g v xs) (hb : Below w.heap.size w w1) : RowAt w1 g v xs := h.upd (Upd.of_below hb)
theorem setCells_upd (g o : Nat) (vs : List Value) (w : World) : Upd w (w.setCells g o vs) (· = g) := by
  obtain ⟨s1, s2, s3, s4⟩ := setCells_same g vs o w
  exact ⟨s1, s2, s3, by rw [s4]; exact Nat.le_refl _, fun k _ hk => setCells_far _ _ k hk⟩
theorem Bys.upd {gs o : Nat} {b : List Int} (h : Bys w gs o b) (hg : gs < w.heap.size) (hn : gs ≠ g) (hu : Upd w w1 (· = g)) : Bys w1 gs o b := fun j hj => (cell_block (hu.block gs hg hn) _).trans (h j hj)
theorem Bys.take {g o : Nat} {b : List Int} (h : Bys w g o b) (m : Nat) : Bys w g o (b.take m) := fun j hj => by
  rw [List.length_take] at hj
  rw [h j (by omega)]
  simp [List.getD_eq_getElem?_getD, List.getElem?_take, show j < m by omega]
theorem Bys.drop {g o : Nat} {b : List Int} (h : Bys w g o b) (m : Nat) : Bys w g (o + m) (b.drop m) := fun j hj => by
  rw [List.length_drop] at hj
  rw [Nat.add_assoc, h (m + j) (by omega)]
  simp [List.getD_eq_getElem?_getD]
theorem rowat_drop {gs o c : Nat} {ys : List Int} (h : Bys w gs o ys) (hn : gs ≠ g) (hl : gs < w.heap.size) (hd : (ys.drop 64).length = ys.length - 64) (hc : ys.length ≤ c) : ys.drop 64 = [] ∨ ∃ gs' o', (if c = 64 then some (⟨gs, o, none⟩ : Addr) else some ⟨gs, o + 64, none⟩) = some ⟨gs', o', none⟩ ∧ gs' ≠ g ∧ gs' < w.heap.size ∧ Bys w gs' o' (ys.drop 64) := by
  by_cases h64 : c = 64
  · exact .inl (List.eq_nil_of_length_eq_zero (by omega))
  · exact .inr ⟨gs, o + 64, by rw [if_neg h64], hn, hl, h.drop 64⟩
/-- Whole blocks go into the words; the rest is left. -/
def takeF (hv xs : List Int) : List Int × List Int := if 64 ≤ xs.length then takeF (mixM hv (xs.take 64)) (xs.drop 64) else (hv, xs)
termination_by xs.length
decreasing_by simp; omega
theorem takeF_ge {hv xs : List Int} (h : 64 ≤ xs.length) : takeF hv xs = takeF (mixM hv (xs.take 64)) (xs.drop 64) := by
  rw [takeF, if_pos h]
theorem takeF_lt {hv xs : List Int} (h : xs.length < 64) : takeF hv xs = (hv, xs) := by
  rw [takeF, if_neg (by omega)]
theorem block_callsA (w : World) : Calls Tryd.prog 92 #[.agg narrowA] w fun e w' => e = .returned (.int .i64 64) ∧ Below w.heap.size w w' := block_calls w
def TakePost (w0 w w' : World) (g : Nat) (n : Int) (r : Option (List Int)) (hv xs : List Int) (e : Ending) : Prop := ∃ v, e = .returned v ∧ RowAt w' g v (takeF hv xs).2 ∧ HAt w0 w' g n r (takeF hv xs).1 ∧ Upd w w' (· = g)

set_option maxHeartbeats 16000000 in
theorem take_calls (hg0 : Glob w0) (v : Value) (h : HAt w0 w g n r hv) (hr : RowAt w g v xs) (hx : xs.length ≤ 1000000000) : Calls Tryd.prog 79 #[.pointer (some ⟨g, 0, none⟩), v] w fun e w' => TakePost w0 w w' g n r hv xs e := by
  have hg := Aside0.mk hg0
  have HH := Aside0.mk h
  have HRR := Aside0.mk hr
  have LS := Aside0.mk (fun (W : World) (hv : List Int) (h : HAt w0 W g n r hv) => show (Instr.loadAt 120 (.pointer (some ⟨g, 0, none⟩))).run Tryd.prog W = .ok (.agg narrowA) W from run_loadAt_mid W g 0 120 narrowA.toList _ h.rs Tryd.underlying120 rfl (by kernel_rfl))
  obtain ⟨A, c, rfl, _⟩ := hr
  clear hg0 h
  go_enter Tryd.func79, Tryd.ntmps79
  go_wp2
  go_loopw [1] (fun v1 w' => ∃ ys hv', Aside0 (RowAt w' g v1 ys) ∧ Aside0 (HAt w0 w' g n r hv') ∧ Aside0 (takeF hv' ys = takeF hv xs) ∧ ys.length ≤ xs.length ∧ Aside0 (Upd w w' (· = g)) ∧ ∃ A c, v1 = .slice A ys.length c) (fun v1 _ => (match v1 with | .slice _ m _ => m | _ => 0))
  case atStart => exact ⟨xs, hv, HRR, HH, ⟨rfl⟩, Nat.le_refl _, ⟨Upd.refl _ _⟩, A, c, rfl⟩
  case round =>
    clear HRR HH
    obtain ⟨ys, hv', HR, HA, HE, hyl, HU, A, c, rfl⟩ := hrel
    have HLS := Aside0.mk (LS.out _ _ HA.out)
    by_cases h64 : 64 ≤ ys.length
    · have hq : decide ((64 : Int) ≤ (ys.length : Int)) = true := decide_eq_true (by omega)
      obtain ⟨A', c', e, hyc, hor⟩ := HR.out
      injection e with e1 e2 e3
      subst e1; subst e3
      rcases hor with hz | ⟨gs, o, rfl, hne, hgl, hbs⟩
      · rw [hz] at h64; exact absurd h64 (by decide)
      have HN := Aside0.mk hne
      have HG := Aside0.mk hgl
      have HB := Aside0.mk hbs
      have HL := Aside0.mk HA.out.hl
      have HT := Aside0.mk (show (ys.take 64).length = 64 by rw [List.length_take]; omega)
      have HC := Aside0.mk (show 64 ≤ c by omega)
      have HYC := Aside0.mk hyc
      have hcb : ((64 : Int) ≤ (c : Int)) = True := eq_true (by omega)
      have HE := Aside0.mk ((takeF_ge h64).symm.trans HE.out)
      have HLD := Aside0.mk (show (ys.drop 64).length = ys.length - 64 from List.length_drop)
      clear e2 hne hgl hbs HR
      go_wp2_with (first | ((with_reducible refine load_at (ty := 120) (.tmp 9) ?_ ?_ HLS.out ?_ ?_); exact rfl; exact rfl; exact rfl) | (go_at_call 92; (with_reducible refine (block_callsA _).mono ?_); rintro e w1 ⟨rfl, hb⟩; have HA := Aside0.mk (HA.out.below hb); have HU := Aside0.mk (HU.out.trans (Upd.of_below (F := (· = g)) hb) (fun _ h => .inl h)); have HB := Aside0.mk (HB.out.below HG.out hb); have HG := Aside0.mk (Nat.lt_of_lt_of_le HG.out hb.size); have hc0 := HA.out.c0; clear hb))
      have HA1 := Aside0.mk HA.out.drew
      have HB := Aside0.mk (show Bys w1.drew gs o ys from HB.out)
      have HG := Aside0.mk (show gs < w1.drew.heap.size from HG.out)
      have HU := Aside0.mk (HU.out.drew)
      repeat (first | go_step | go_guarded | go_upon)
      refine start_ (n := 20) (S := fun w' => w'.rangeAt g 0 narrowA.toList ∧ w'.rangeAt g 17 (nums .u32 hv')) (ds := [19]) #[false, false, false, false, false, false, false, false, false, false, false, false, false, false, false, false, false, false, false, false] (by kernel_rfl) rfl rfl ⟨HA1.out.rs, HA1.out.rh⟩ (fun hHeld => ?_)
      refine pure_ (i := 0) (N := some 19) (v := ?_) (a' := ?_) #[true, false, false, false, false, false, false, false, false, false, false, false, false, false, false, false, false, false, false, false] rfl rfl (by kernel_rfl) (fun _ _ _ h => h) (Or.inl ⟨by rfl, ?_⟩) ?_ ?_
      rotate_left
      · intro w'
        go_simp
        with_reducible rfl
      rotate_left
      · simp only [Act.put, List.setIfInBounds_toArray, List.set_cons_zero, List.set_cons_succ, i64_w, i32_w]
        rfl
      refine pure_ (i := 1) (N := some 20) (v := ?_) (a' := ?_) #[true, true, false, false, false, false, false, false, false, false, false, false, false, false, false, false, false, false, false, false] rfl rfl (by kernel_rfl) (fun _ _ _ h => h) (Or.inl ⟨by rfl, ?_⟩) ?_ ?_
      rotate_left
      · intro w'
        go_simp
        with_reducible rfl
      rotate_left
      · simp only [Act.put, List.setIfInBounds_toArray, List.set_cons_zero, List.set_cons_succ, i64_w, i32_w]
        rfl
      refine pure_ (i := 2) (N := some 21) (v := ?_) (a' := ?_) #[true, true, true, false, false, false, false, false, false, false, false, false, false, false, false, false, false, false, false, false] rfl rfl (by kernel_rfl) (fun _ _ _ h => h) (Or.inl ⟨by rfl, ?_⟩) ?_ ?_
      rotate_left
      · intro w'
        go_simp
        with_reducible rfl
      rotate_left
      · simp only [Act.put, List.setIfInBounds_toArray, List.set_cons_zero, List.set_cons_succ, i64_w, i32_w]
        rfl
      refine pure_ (i := 3) (N := some 22) (v := ?_) (a' := ?_) #[true, true, true, true, false, false, false, false, false, false, false, false, false, false, false, false, false, false, false, false] rfl rfl (by kernel_rfl) (fun _ _ _ h => h) (Or.inl ⟨by rfl, ?_⟩) ?_ ?_
      rotate_left
      · intro w'
        go_simp
        with_reducible rfl
      rotate_left
      · simp only [Act.put, List.setIfInBounds_toArray, List.set_cons_zero, List.set_cons_succ, i64_w, i32_w]
        rfl
      refine pure_ (i := 5) (N := some 24) (v := ?_) (a' := ?_) #[true, true, true, true, false, true, false, false, false, false, false, false, false, false, false, false, false, false, false, false] rfl rfl (by kernel_rfl) (fun _ _ _ h => h) (Or.inl ⟨by rfl, ?_⟩) ?_ ?_
      rotate_left
      · intro w'
        go_simp
        with_reducible rfl
      rotate_left
      · simp only [Act.put, List.setIfInBounds_toArray, List.set_cons_zero, List.set_cons_succ, i64_w, i32_w]
        rfl
      refine pure_ (i := 6) (N := some 25) (v := ?_) (a' := ?_) #[true, true, true, true, false, true, true, false, false, false, false, false, false, false, false, false, false, false, false, false] rfl rfl (by kernel_rfl) (fun _ _ _ h => h) (Or.inl ⟨by rfl, ?_⟩) ?_ ?_
      rotate_left
      · intro w'
        go_simp
        with_reducible rfl
      rotate_left
      · simp only [Act.put, List.setIfInBounds_toArray, List.set_cons_zero, List.set_cons_succ, i64_w, i32_w]
        rfl
      refine pure_ (i := 7) (N := some 26) (v := ?_) (a' := ?_) #[true, true, true, true, false, true, true, true, false, false, false, false, false, false, false, false, false, false, false, false] rfl rfl (by kernel_rfl) (fun _ _ _ h => h) (Or.inl ⟨by rfl, ?_⟩) ?_ ?_
      rotate_left
      · intro w'
        go_simp
        with_reducible rfl
      rotate_left
      · simp only [Act.put, List.setIfInBounds_toArray, List.set_cons_zero, List.set_cons_succ, i64_w, i32_w]
        rfl
      refine pure_ (i := 9) (N := some 28) (v := ?_) (a' := ?_) #[true, true, true, true, false, true, true, true, false, true, false, false, false, false, false, false, false, false, false, false] rfl rfl (by kernel_rfl) (fun _ _ _ h => h) (Or.inl ⟨by rfl, ?_⟩) ?_ ?_
      rotate_left
      · intro w'
        go_simp
        with_reducible rfl
      rotate_left
      · simp only [Act.put, List.setIfInBounds_toArray, List.set_cons_zero, List.set_cons_succ, i64_w, i32_w]
        rfl
      refine pure_ (i := 10) (N := some 29) (v := ?_) (a' := ?_) #[true, true, true, true, false, true, true, true, false, true, true, false, false, false, false, false, false, false, false, false] rfl rfl (by kernel_rfl) (fun _ _ _ h => h) (Or.inl ⟨by rfl, ?_⟩) ?_ ?_
      rotate_left
      · intro w'
        go_simp
        with_reducible rfl
      rotate_left
      · simp only [Act.put, List.setIfInBounds_toArray, List.set_cons_zero, List.set_cons_succ, i64_w, i32_w]
        rfl
      refine pure_ (i := 11) (N := some 30) (v := ?_) (a' := ?_) #[true, true, true, true, false, true, true, true, false, true, true, true, false, false, false, false, false, false, false, false] rfl rfl (by kernel_rfl) (fun _ _ _ h => h) (Or.inl ⟨by rfl, ?_⟩) ?_ ?_
      rotate_left
      · intro w'
        go_simp
        with_reducible rfl
      rotate_left
      · simp only [Act.put, List.setIfInBounds_toArray, List.set_cons_zero, List.set_cons_succ, i64_w, i32_w]
        rfl
      refine pure_ (i := 12) (N := some 31) (v := ?_) (a' := ?_) #[true, true, true, true, false, true, true, true, false, true, true, true, true, false, false, false, false, false, false, false] rfl rfl (by kernel_rfl) (fun _ _ _ h => h) (Or.inl ⟨by rfl, ?_⟩) ?_ ?_
      rotate_left
      · intro w'
        go_simp
        with_reducible rfl
      rotate_left
      · simp only [Act.put, List.setIfInBounds_toArray, List.set_cons_zero, List.set_cons_succ, i64_w, i32_w]
        rfl
      refine take_ (i := 4) (N := some 23) (v := .agg narrowA) (a' := ?_) #[true, true, true, true, true, true, true, true, false, true, true, true, true, false, false, false, false, false, false, false] rfl rfl (by kernel_rfl) (fun _ _ _ h => h) (yieldsIf_load_mid (by rfl) 120 (.tmp 22) rfl g 0 (by rfl) narrowA.toList _ (fun w' h => h.1) Tryd.underlying120 rfl (by kernel_rfl)) hHeld ?_ ?_
      rotate_left
      · simp only [Act.put, List.setIfInBounds_toArray, List.set_cons_zero, List.set_cons_succ, i64_w, i32_w]
        rfl
      refine take_ (i := 8) (N := some 27) (v := .agg (nums .u32 hv').toArray) (a' := ?_) #[true, true, true, true, true, true, true, true, true, true, true, true, true, false, false, false, false, false, false, false] rfl rfl (by kernel_rfl) (fun _ _ _ h => h) (yieldsIf_load_mid (by rfl) 124 (.tmp 26) rfl g 17 (by rfl) (nums .u32 hv') _ (fun w' h => h.2) Tryd.underlying124 rfl (by rw [nums_length, HL.out]; kernel_rfl)) hHeld ?_ ?_
      rotate_left
      · simp only [Act.put, List.setIfInBounds_toArray, List.set_cons_zero, List.set_cons_succ, i64_w, i32_w]
        rfl
      refine take_ (i := 13) (N := some 32) (v := .agg narrowA) (a' := ?_) #[true, true, true, true, true, true, true, true, true, true, true, true, true, true, false, false, false, false, false, false] rfl rfl (by kernel_rfl) (fun _ _ _ h => h) (yieldsIf_load_mid (by rfl) 120 (.tmp 31) rfl g 0 (by rfl) narrowA.toList _ (fun w' h => h.1) Tryd.underlying120 rfl (by kernel_rfl)) hHeld ?_ ?_
      rotate_left
      · simp only [Act.put, List.setIfInBounds_toArray, List.set_cons_zero, List.set_cons_succ, i64_w, i32_w]
        rfl
      refine one_ (i := 14) (N := some 33) #[true, true, true, true, true, true, true, true, true, true, true, true, true, true, true, false, false, false, false, false] rfl rfl (by kernel_rfl) (by decide) (fun K hK => ?_)
      refine goes_ Tryd.func92 (by kernel_rfl) rfl #[.agg narrowA] (by rfl) rfl rfl (by simp only [List.map_toArray, List.map_cons, List.map_nil]; rfl) ?_
      with_reducible refine (block_callsA _).mono ?_
      rintro e w2 ⟨rfl, hb⟩
      refine ⟨_, rfl, ?_⟩
      have HA2 := Aside0.mk (HA1.out.below hb)
      have HB2 := Aside0.mk (HB.out.below HG.out hb)
      have HW2 := Aside0.mk hb.size
      have HU2 := Aside0.mk (HU.out.trans (Upd.of_below (F := (· = g)) hb) (fun _ h => .inl h))
      clear hb
      refine hK.out _ _ ⟨HA2.out.rs, HA2.out.rh⟩ (fun hHeld => ?_)
      clear hK K
      refine norm_ (a' := ?_) ?_ ?_
      rotate_left
      · show Act.put _ (some 33) _ = _
        simp only [Act.put, List.setIfInBounds_toArray, List.set_cons_zero, List.set_cons_succ, i64_w, i32_w]
        rfl
      refine pure_ (i := 15) (N := some 34) (v := ?_) (a' := ?_) #[true, true, true, true, true, true, true, true, true, true, true, true, true, true, true, true, false, false, false, false] rfl rfl (by kernel_rfl) (fun _ _ _ h => h) (Or.inl ⟨by rfl, ?_⟩) ?_ ?_
      rotate_left
      · intro w'
        go_simp
        with_reducible rfl
      rotate_left
      · simp only [Act.put, List.setIfInBounds_toArray, List.set_cons_zero, List.set_cons_succ, i64_w, i32_w]
        rfl
      refine one_ (i := 16) (N := some 35) #[true, true, true, true, true, true, true, true, true, true, true, true, true, true, true, true, true, false, false, false] rfl rfl (by kernel_rfl) (by decide) (fun K hK => ?_)
      refine goes_ Tryd.func93 (by kernel_rfl) rfl #[.agg narrowA, .agg (nums .u32 hv').toArray, .slice (some ⟨gs, o, none⟩) 64 c] (by rfl) rfl rfl (by simp only [List.map_toArray, List.map_cons, List.map_nil]; rfl) ?_
      with_reducible refine (mix_calls (hg.out.below HA2.out.b) gs o c (ys.take 64) hv' HT.out HL.out HC.out (HB2.out.take 64) (Nat.lt_of_lt_of_le HG.out HW2.out)).mono ?_
      rintro e w3 ⟨rfl, hb⟩
      refine ⟨_, rfl, ?_⟩
      have HA3 := Aside0.mk (HA2.out.below hb)
      have HU3 := Aside0.mk (HU2.out.trans (Upd.of_below (F := (· = g)) hb) (fun _ h => .inl h))
      have HST := Aside0.mk (show (Instr.storeAt 124 (.pointer (some ⟨g, 17, none⟩)) (.agg (nums .u32 (mixM hv' (ys.take 64))).toArray)).run Tryd.prog w3 = .ok () (w3.setCells g 17 (nums .u32 (mixM hv' (ys.take 64)))) from run_storeAt_mid (P := Tryd.prog) w3 g 17 124 (nums .u32 (mixM hv' (ys.take 64))).toArray (by rw [List.size_toArray, nums_length, mixM_length HL.out]; exact HA3.out.there) (info124 _ (mixM_length HL.out)) (u32_one _))
      have HB3 := Aside0.mk (HB2.out.below (Nat.lt_of_lt_of_le HG.out HW2.out) hb)
      have HW3 := Aside0.mk (Nat.le_trans HW2.out hb.size)
      clear hb
      refine hK.out _ _ ⟨HA3.out.rs, HA3.out.rh⟩ (fun hHeld => ?_)
      clear hK K
      refine norm_ (a' := ?_) ?_ ?_
      rotate_left
      · show Act.put _ (some 35) _ = _
        simp only [Act.put, List.setIfInBounds_toArray, List.set_cons_zero, List.set_cons_succ, i64_w, i32_w]
        rfl
      refine pure_ (i := 17) (N := some 36) (v := ?_) (a' := ?_) #[true, true, true, true, true, true, true, true, true, true, true, true, true, true, true, true, true, true, false, false] rfl rfl (by kernel_rfl) (fun _ _ _ h => h) (Or.inl ⟨by rfl, ?_⟩) ?_ ?_
      rotate_left
      · intro w'
        go_simp
        with_reducible rfl
      rotate_left
      · simp only [Act.put, List.setIfInBounds_toArray, List.set_cons_zero, List.set_cons_succ, i64_w, i32_w]
        rfl
      refine pure_ (i := 18) (N := some 37) (v := ?_) (a' := ?_) #[true, true, true, true, true, true, true, true, true, true, true, true, true, true, true, true, true, true, true, false] rfl rfl (by kernel_rfl) (fun _ _ _ h => h) (Or.inl ⟨by rfl, ?_⟩) ?_ ?_
      rotate_left
      · intro w'
        go_simp
        with_reducible rfl
      rotate_left
      · simp only [Act.put, List.setIfInBounds_toArray, List.set_cons_zero, List.set_cons_succ, i64_w, i32_w]
        rfl
      refine last_ (i := 19) (N := none) #[true, true, true, true, true, true, true, true, true, true, true, true, true, true, true, true, true, true, true, true] rfl rfl (by kernel_rfl) (by decide) (fun K hK => ?_)
      refine skip_ (by rfl) rfl (exec_store (ty := 124) (x := .tmp 37) (y := .tmp 35) rfl (by rfl) (by rfl) HST.out) ?_
      refine hK.out _ _ ?_
      clear hK K
      refine done_ (by kernel_rfl) ?_
      clear hHeld
      have HA4 := Aside0.mk (HA3.out.setH (mixM_length HL.out (b := ys.take 64)))
      have HU4 := Aside0.mk (HU3.out.trans (setCells_upd g 17 (nums .u32 (mixM hv' (ys.take 64))) w3) (fun _ h => .inl h))
      have HB4 := Aside0.mk (show Bys (w3.setCells g 17 (nums .u32 (mixM hv' (ys.take 64)))) gs o ys from HB3.out.upd (Nat.lt_of_lt_of_le HG.out HW3.out) HN.out (setCells_upd g 17 _ w3))
      have HG4 := Aside0.mk (show gs < (w3.setCells g 17 (nums .u32 (mixM hv' (ys.take 64)))).heap.size from Nat.lt_of_lt_of_le (Nat.lt_of_lt_of_le HG.out HW3.out) (setCells_upd g 17 _ w3).size)
      generalize w3.setCells g 17 (nums .u32 (mixM hv' (ys.take 64))) = w4 at HA4 HU4 HB4 HG4 ⊢
      have HLS := Aside0.mk (LS.out _ _ HA4.out)
      clear hc0
      go_wp2_with (first | ((with_reducible refine load_at (ty := 120) (.tmp 60) ?_ ?_ HLS.out ?_ ?_); exact rfl; exact rfl; exact rfl) | (go_at_call 92; (with_reducible refine (block_callsA _).mono ?_); rintro e w5 ⟨rfl, hb⟩; have HA5 := Aside0.mk (HA4.out.below hb); have HU5 := Aside0.mk (HU4.out.trans (Upd.of_below (F := (· = g)) hb) (fun _ h => .inl h)); have HB5 := Aside0.mk (HB4.out.below HG4.out hb); have HG5 := Aside0.mk (Nat.lt_of_lt_of_le HG4.out hb.size); clear hb))
      go_roundw
      case rel => exact ⟨ys.drop 64, mixM hv' (ys.take 64), ⟨_, c - 64, by rw [HLD.out], by rw [HLD.out]; omega, rowat_drop HB5.out HN.out HG5.out HLD.out hyc⟩, HA5, HE, by rw [HLD.out]; omega, HU5, _, _, by rw [HLD.out]⟩
      case measure => simp; omega
    · have hq : decide ((64 : Int) ≤ (ys.length : Int)) = false := decide_eq_false (by omega)
      go_wp2_with (first | ((with_reducible refine load_at (ty := 120) (.tmp 9) ?_ ?_ HLS.out ?_ ?_); exact rfl; exact rfl; exact rfl) | (go_at_call 92; (with_reducible refine (block_callsA _).mono ?_); rintro e w1 ⟨rfl, hb⟩; have HA := Aside0.mk (HA.out.below hb); have HU := Aside0.mk (HU.out.trans (Upd.of_below (F := (· = g)) hb) (fun _ h => .inl h)); have HR := Aside0.mk (HR.out.below hb); clear hb))
      go_ret
      have HE2 := HE.out
      rw [takeF_lt (by omega)] at HE2
      exact ⟨_, rfl, by rw [← HE2]; exact HR.out, by rw [← HE2]; exact HA.out, HU.out⟩

end Go.Proofs.YtmblnflfklmmkaaDoor.Sh
/- Contracts of package sha2: tell. -/
namespace Go.Proofs.YtmblnflfklmmkaaDoor.Sh
open Go.Proofs.YtmblnflfklmmkaaDoor.Dk
open Go.RowKit Go.Proofs.YtmblnflfklmmkaaDoorW.PrintWords Go.Proofs.YtmblnflfklmmkaaDoorW.PrintLast Go.Proofs.YtmblnflfklmmkaaDoorW.PrintMore
set_option linter.unusedVariables false
set_option linter.unusedSimpArgs false
set_option maxRecDepth 30000

variable {w w0 w1 w2 wr : World} {g : Nat} {n : Int} {hv xs ys : List Int}
def tell1 (x : Int) : List Int := [x / 16777216 % 256, x / 65536 % 256, x / 256 % 256, x % 256]
def tellM (hv : List Int) : List Int := hv.flatMap tell1
structure Tl (w w' : World) (hv : List Int) (v : Value) (xs : List Int) : Prop where
  s : w'.heap[w.heap.size]? = some (.cells narrowA 120 (0, 0))
  r : Row8 w' (w.heap.size + 1 + 1) v xs
  b : Below w.heap.size w w'
  z : w.heap.size + 1 + 1 ≤ w'.heap.size
theorem tl_app {v v1 : Value} {ys : List Int} {o : Obj} (h : Tl w w1 hv v xs) (hr : Row8 w2 (w.heap.size + 1 + 1) v1 ys) (hb : Below (w.heap.size + 1 + 1) (w1.alloc o) w2) : Tl w w2 hv v1 ys := by
  have e : Below (w.heap.size + 1 + 1) w1 w2 := Below.trans ((below_alloc (Below.refl _ w1) o).mono h.z) hb
  exact ⟨(e.block _ (by omega)).trans h.s, hr, h.b.trans (e.mono (by omega)), Nat.le_trans h.z e.size⟩
set_option maxHeartbeats 16000000 in
theorem tell_calls (hv : List Int) (h8 : hv.length = 8) : Calls Tryd.prog 82 #[.agg narrowA, .agg (nums .u32 hv).toArray] w fun e w' => ∃ v, e = .returned v ∧ Row8 w' w.heap.size v (tellM hv) ∧ Below w.heap.size w w' := by
  have H8 := Aside0.mk h8
  have HB0 := Aside0.mk (show Below w.heap.size w ((w.alloc (.cells narrowA 120)).alloc (.cells (nums .u32 hv).toArray 124)) from below_alloc (below_alloc (Below.refl _ _) _) _)
  have HK0 := Aside0.mk (show ((w.alloc (.cells narrowA 120)).alloc (.cells (nums .u32 hv).toArray 124)).heap[w.heap.size]? = some (.cells narrowA 120 (0, 0)) from blk_below (heap_alloc_new w _) (below_alloc (Below.refl _ _) _))
  have HK1 := Aside0.mk (nth2_1 w (.cells narrowA 120) (.cells (nums .u32 hv).toArray 124))
  have hc0 := cellB3 HK0.out 0 (.int .i64 4) rfl
  clear h8
  obtain ⟨A2, w2, hmk, hr2, hb2⟩ := run_make8 (P := Tryd.prog) info5 Tryd.underlying22 ((w.alloc (.cells narrowA 120)).alloc (.cells (nums .u32 hv).toArray 124)) 0 32 (by decide) (by decide)
  have HMK := Aside0.mk (show (Instr.makeSlice 22 (.int .i64 0) (.int .i64 32)).run Tryd.prog _ = _ from hmk)
  have hsz : ((w.alloc (.cells narrowA 120)).alloc (.cells (nums .u32 hv).toArray 124)).heap.size = w.heap.size + 1 + 1 := by simp [World.size_alloc]
  have HK0 := Aside0.mk (blk_below HK0.out hb2)
  have HK1 := Aside0.mk (blk_below HK1.out hb2)
  have HT := Aside0.mk (show Tl w w2 hv (.slice A2 0 32) [] from ⟨HK0.out, by have := hr2; rw [hsz] at this; exact this, HB0.out.trans (hb2.mono HB0.out.size), by have := hb2.size; omega⟩)
  have HL := Aside0.mk (run_loadAt_cells (P := Tryd.prog) (w := w2) 124 Tryd.underlying124 rfl (w.heap.size + 1) 0 (nums .u32 hv) (by rw [nums_length, H8.out]; kernel_rfl) (fun j u hu => by rw [Nat.zero_add, cell_of_row _ _ j _ _ _ HK1.out]; simpa using hu))
  clear hmk hr2 hb2 hsz HK0 HK1 HB0
  go_enter Tryd.func82, Tryd.ntmps82
  go_wp2_with (first | ((with_reducible refine make_at (t := 22) (x := .const (.int .i64 0)) (y := .tmp 11) ?_ ?_ HMK.out ?_ ?_ ?_); exact rfl; exact rfl; exact rfl; exact rfl) | ((with_reducible refine load_at (ty := 124) (.tmp 3) ?_ ?_ HL.out ?_ ?_); exact rfl; exact rfl; exact rfl))
  go_loopw [5, 7, 8, 14] (fun v5 v7 v8 v14 w' => ∃ (i : Nat) (A : Option Addr) (c : Nat), v14 = .int .i64 i ∧ i ≤ 8 ∧ v5 = .slice A ((hv.take i).flatMap tell1).length c ∧ Aside0 (Tl w w' hv v5 ((hv.take i).flatMap tell1))) (fun v5 v7 v8 v14 _ => 8 - (intOf v14).toNat)
  case atStart => exact ⟨0, A2, 32, rfl, Nat.zero_le _, rfl, HT⟩
  case round =>
    clear HT hc0
    obtain ⟨i, A, c, rfl, hi, rfl, HT⟩ := hrel
    by_cases hlt : i < 8
    · have hq : decide ((i : Int) < 8) = true := decide_eq_true (by omega)
      have hc0 := cellB3 HT.out.s 0 (.int .i64 4) rfl
      obtain ⟨x, hx⟩ : ∃ x, hv.getD i 0 = x := ⟨_, rfl⟩
      have HIX := Aside0.mk (run_index_row (P := Tryd.prog) wr 124 123 .u32 8 (nums .u32 hv).toArray i (.int .u32 x) Tryd.underlying124 Tryd.underlying123 hlt (by rw [nums_getD (by rw [H8.out]; exact hlt), hx]) (by kernel_rfl))
      have HN := Aside0.mk (show (hv.take (i + 1)).flatMap tell1 = (hv.take i).flatMap tell1 ++ tell1 x by
        rw [← hx, List.take_succ_eq_append_getElem (by rw [H8.out]; exact hlt), List.flatMap_append]
        simp [List.getD_eq_getElem?_getD, List.getElem?_eq_getElem (show i < hv.length by rw [H8.out]; exact hlt)])
      have HPL := Aside0.mk (show ((hv.take i).flatMap tell1).length ≤ 28 from by
        have : ∀ l : List Int, (l.flatMap tell1).length = 4 * l.length := by intro l; induction l with | nil => rfl | cons a l ih => rw [List.flatMap_cons, List.length_append, ih]; simp [tell1]; omega
        rw [this, List.length_take]; omega)
      obtain ⟨pre, hpre⟩ : ∃ pre, (hv.take i).flatMap tell1 = pre := ⟨_, rfl⟩
      rw [hpre] at HT HN HPL ⊢
      clear hx hpre
      go_wp2_with (first | ((with_reducible refine index_at (t := 124) (x := .tmp 13) (y := .tmp 14) ?_ ?_ HIX.out ?_ ?_ ?_); exact rfl; exact rfl; exact rfl; exact rfl))
      clear hc0 hq
      go_loopw [5, 8] (fun v5 v8 w' => ∃ (j : Nat) (A : Option Addr) (c : Nat), v8 = .int .i64 (3 - (j : Int)) ∧ j ≤ 4 ∧ v5 = .slice A (pre ++ (tell1 x).take j).length c ∧ Aside0 (Tl w w' hv v5 (pre ++ (tell1 x).take j))) (fun v5 v8 _ => (4 + intOf v8).toNat)
      case atStart => exact ⟨0, A, c, rfl, Nat.zero_le _, by simp, by simpa using HT⟩
      case round =>
        clear HT
        obtain ⟨j, A, c, rfl, hj, rfl, HT⟩ := hrel
        obtain rfl | rfl | rfl | rfl | rfl : j = 0 ∨ j = 1 ∨ j = 2 ∨ j = 3 ∨ j = 4 := by omega
        · have HC := Aside0.mk (C_block (x := [x / 16777216 % 256]) (heap_alloc_new wr (.cells (nums .u8 [x / 16777216 % 256]).toArray 5)) (by simp))
          have HR := Aside0.mk (HT.out.r.below (below_alloc (Below.refl wr.heap.size wr) (.cells (nums .u8 [x / 16777216 % 256]).toArray 5)))
          have HZ := HT.out.z
          go_wp2_with (first | ((with_reducible refine gate_builtin (b := .append) (xs := #[.tmp 24, .tmp 30]) rfl ?_); at_builtin; refine app8 (q := (w.heap.size + 1 + 1)) info5 Tryd.underlying22 rfl (.tmp 24) (.tmp 30) rfl _ _ _ _ _ _ rfl rfl HR.out HC.out ?aQ ?aL ?_; (case aQ => simp [World.size_alloc]; omega); (case aL => simp [tell1]; have := HPL.out; omega); intro A1 c1 w1 hr1 hb1 hg1; have HT1 := Aside0.mk (tl_app HT.out hr1 hb1); clear hr1 hb1 hg1))
          go_roundw
          case rel => exact ⟨1, A1, c1, rfl, by decide, by simp [tell1], ⟨by simpa [tell1] using HT1.out⟩⟩
          case measure => simp [intOf]
        · have HC := Aside0.mk (C_block (x := [x / 65536 % 256]) (heap_alloc_new wr (.cells (nums .u8 [x / 65536 % 256]).toArray 5)) (by simp))
          have HR := Aside0.mk (HT.out.r.below (below_alloc (Below.refl wr.heap.size wr) (.cells (nums .u8 [x / 65536 % 256]).toArray 5)))
          have HZ := HT.out.z
          go_wp2_with (first | ((with_reducible refine gate_builtin (b := .append) (xs := #[.tmp 24, .tmp 30]) rfl ?_); at_builtin; refine app8 (q := (w.heap.size + 1 + 1)) info5 Tryd.underlying22 rfl (.tmp 24) (.tmp 30) rfl _ _ _ _ _ _ rfl rfl HR.out HC.out ?aQ ?aL ?_; (case aQ => simp [World.size_alloc]; omega); (case aL => simp [tell1]; have := HPL.out; omega); intro A1 c1 w1 hr1 hb1 hg1; have HT1 := Aside0.mk (tl_app HT.out hr1 hb1); clear hr1 hb1 hg1))
          go_roundw
          case rel => exact ⟨2, A1, c1, rfl, by decide, by simp [tell1], ⟨by simpa [tell1] using HT1.out⟩⟩
          case measure => simp [intOf]
        · have HC := Aside0.mk (C_block (x := [x / 256 % 256]) (heap_alloc_new wr (.cells (nums .u8 [x / 256 % 256]).toArray 5)) (by simp))
          have HR := Aside0.mk (HT.out.r.below (below_alloc (Below.refl wr.heap.size wr) (.cells (nums .u8 [x / 256 % 256]).toArray 5)))
          have HZ := HT.out.z
          go_wp2_with (first | ((with_reducible refine gate_builtin (b := .append) (xs := #[.tmp 24, .tmp 30]) rfl ?_); at_builtin; refine app8 (q := (w.heap.size + 1 + 1)) info5 Tryd.underlying22 rfl (.tmp 24) (.tmp 30) rfl _ _ _ _ _ _ rfl rfl HR.out HC.out ?aQ ?aL ?_; (case aQ => simp [World.size_alloc]; omega); (case aL => simp [tell1]; have := HPL.out; omega); intro A1 c1 w1 hr1 hb1 hg1; have HT1 := Aside0.mk (tl_app HT.out hr1 hb1); clear hr1 hb1 hg1))
          go_roundw
          case rel => exact ⟨3, A1, c1, rfl, by decide, by simp [tell1], ⟨by simpa [tell1] using HT1.out⟩⟩
          case measure => simp [intOf]
        · have HC := Aside0.mk (C_block (x := [x % 256]) (heap_alloc_new wr (.cells (nums .u8 [x % 256]).toArray 5)) (by simp))
          have HR := Aside0.mk (HT.out.r.below (below_alloc (Below.refl wr.heap.size wr) (.cells (nums .u8 [x % 256]).toArray 5)))
          have HZ := HT.out.z
          go_wp2_with (first | ((with_reducible refine gate_builtin (b := .append) (xs := #[.tmp 24, .tmp 30]) rfl ?_); at_builtin; refine app8 (q := (w.heap.size + 1 + 1)) info5 Tryd.underlying22 rfl (.tmp 24) (.tmp 30) rfl _ _ _ _ _ _ rfl rfl HR.out HC.out ?aQ ?aL ?_; (case aQ => simp [World.size_alloc]; omega); (case aL => simp [tell1]; have := HPL.out; omega); intro A1 c1 w1 hr1 hb1 hg1; have HT1 := Aside0.mk (tl_app HT.out hr1 hb1); clear hr1 hb1 hg1))
          go_roundw
          case rel => exact ⟨4, A1, c1, rfl, by decide, by simp [tell1], ⟨by simpa [tell1] using HT1.out⟩⟩
          case measure => simp [intOf]
        · go_wp2
          go_roundw
          case rel => exact ⟨i + 1, A, c, by go_num, by omega, by rw [HN.out]; rfl, by rw [HN.out]; exact HT⟩
          case measure => simp [intOf]; omega
    · obtain rfl : i = 8 := by omega
      have hq : decide ((8 : Int) < 8) = false := rfl
      have hp : (hv.take 8) = hv := List.take_of_length_le (by rw [H8.out]; decide)
      rw [hp] at HT ⊢
      go_wp2
      go_ret
      exact ⟨_, rfl, by have h := HT.out.r; rw [tellM]; exact h.lower (by omega), HT.out.b⟩

end Go.Proofs.YtmblnflfklmmkaaDoor.Sh
/- Contracts of package sha2: Pad. -/
namespace Go.Proofs.YtmblnflfklmmkaaDoor.Sh
open Go.Proofs.YtmblnflfklmmkaaDoor.Dk
open Go.RowKit Go.Proofs.YtmblnflfklmmkaaDoorW.PrintWords Go.Proofs.YtmblnflfklmmkaaDoorW.PrintLast Go.Proofs.YtmblnflfklmmkaaDoorW.PrintMore
set_option linter.unusedVariables false
set_option linter.unusedSimpArgs false
set_option maxRecDepth 30000

variable {w w0 w1 w2 wr : World} {g : Nat} {hv xs ys : List Int}
theorem of_callsA (w : World) : Calls Tryd.prog 77 #[.int .i64 256] w fun e w' => e = .returned (.tuple #[.agg narrowA, .bool true]) ∧ Below w.heap.size w w' := of_calls w
/-- How long the padding of n bytes is. -/
def padN (n : Nat) : Nat := 9 + (64 - (n + 9) % 64) % 64
def padB (n i : Nat) : Int := 8 * (n : Int) / 2 ^ (8 * i) % 256
def padR (n : Nat) : Nat → List Int
  | 0 => (List.replicate (padN n) (0 : Int)).set 0 128
  | i + 1 => (padR n i).set (padN n - 1 - i) (padB n i)
theorem padR_length (n : Nat) : ∀ i, (padR n i).length = padN n
  | 0 => by simp [padR]
  | i + 1 => by rw [padR, List.length_set]; exact padR_length n i
def padM (n : Nat) : List Int := padR n 8
structure Pd (w w' : World) (s : Nat) : Prop where
  bs : w'.heap[s]? = some (.cells narrowA 120 (0, 0))
  b : Below w.heap.size w w'
  lo : w.heap.size ≤ s
theorem Pd.below {s : Nat} (h : Pd w w1 s) (hb : Below w1.heap.size w1 w2) : Pd w w2 s := ⟨blk_below h.bs hb, h.b.trans (hb.mono h.b.size), h.lo⟩
theorem Pd.rs {s : Nat} (h : Pd w w1 s) : w1.rangeAt s 0 narrowA.toList := fun j v hj => by
  rw [Nat.zero_add, cell_of_row _ _ j _ _ _ h.bs]
  simpa using hj

set_option maxHeartbeats 16000000 in
theorem pad_calls (n : Nat) (hn : n ≤ 1048576) : Calls Tryd.prog 81 #[.int .i64 n, .int .i64 256] w fun e w' => ∃ v, e = .returned (.tuple #[v, .int .i64 0]) ∧ Row8 w' w.heap.size v (padM n) ∧ Below w.heap.size w w' := by
  have hq1 : decide ((n : Int) < 0) = false := decide_eq_false (by omega)
  have hq2 : decide ((1048576 : Int) < (n : Int)) = false := decide_eq_false (by omega)
  have LS := Aside0.mk (fun (W : World) (s : Nat) (h : Pd w W s) => show (Instr.loadAt 120 (.pointer (some ⟨s, 0, none⟩))).run Tryd.prog W = .ok (.agg narrowA) W from run_loadAt_mid W s 0 120 narrowA.toList _ h.rs Tryd.underlying120 rfl (by kernel_rfl))
  have HST := Aside0.mk (fun w1 : World => run_storeAt_new (P := Tryd.prog) w1 120 zeros15 narrowA info120 (by simp [zeros15_size, narrowA]) narrowA_one)
  go_enter Tryd.func81, Tryd.ntmps81
  go_wp2_with (first | ((with_reducible refine alloc_at (e := 120) ?_ ?_ (run_alloc120 _) ?_); exact rfl; exact rfl) | (go_at_call 77; (with_reducible refine (of_callsA _).mono ?_); rintro e w1 ⟨rfl, hb1⟩; have HP2 := Aside0.mk (show Pd w (w1.alloc (.cells narrowA 120)) w1.heap.size from ⟨heap_alloc_new w1 _, hb1.trans ((below_alloc (Below.refl _ _) _).mono hb1.size), hb1.size⟩); clear hb1) | ((with_reducible refine store_at (ty := 120) (.tmp 6) (.tmp 16) ?_ ?_ ?_ (HST.out _) ?_ ?_ ?_); exact rfl; exact rfl; exact rfl; exact rfl; exact rfl; generalize w1.alloc (.cells narrowA 120) = w2 at HP2 ⊢; generalize w1.heap.size = s at HP2 ⊢; have hc0 := cellB3 HP2.out.bs 0 (.int .i64 4) rfl; have HLS := Aside0.mk (LS.out _ _ HP2.out)) | ((with_reducible refine load_at (ty := 120) (.tmp 6) ?_ ?_ HLS.out ?_ ?_); exact rfl; exact rfl; exact rfl) | (go_at_call 92; (with_reducible refine (block_callsA _).mono ?_); rintro e w3 ⟨rfl, hb3⟩; have HP3 := Aside0.mk (HP2.out.below hb3); clear hb3))
  obtain ⟨r, hr⟩ : ∃ r : Nat, (n + 9) % 64 = r := ⟨_, rfl⟩
  have hri : ((n : Int) + 9) % 64 = (r : Int) := by omega
  rw [hri]
  obtain ⟨z, hz⟩ : ∃ z : Nat, z = 64 - r := ⟨_, rfl⟩
  obtain ⟨m, hm⟩ : ∃ m : Nat, m = z % 64 := ⟨_, rfl⟩
  obtain ⟨L, hL⟩ : ∃ L : Nat, L = 9 + m := ⟨_, rfl⟩
  have hL9 : 9 ≤ L := by omega
  have hL72 : L ≤ 72 := by omega
  have HLN := Aside0.mk (show padN n = L by rw [padN, hr, hL, hm, hz])
  have hz1 : wrap64 (64 - (r : Int)) = z := by unfold wrap64; omega
  have hz1' : IntKind.i64.wrap (64 - (r : Int)) = z := (i64_w _).trans hz1
  have hz2 : Int.tmod (z : Int) 64 = m := by rw [Int.tmod_eq_emod_of_nonneg (by omega)]; omega
  have hz3 : wrap64 (9 + (m : Int)) = L := by unfold wrap64; omega
  have hz3' : IntKind.i64.wrap (9 + (m : Int)) = L := (i64_w _).trans hz3
  have HP4 := Aside0.mk (HP3.out.below (below_drew (Below.refl _ _)))
  have HZW := Aside0.mk (show w.heap.size ≤ w3.heap.size from HP3.out.b.size)
  clear hc0 hri hr hz hm hL HST HLS
  repeat (first | go_step | go_guarded | go_upon)
  refine start_ (n := 11) (S := fun w' => w'.rangeAt s 0 narrowA.toList) (ds := []) #[false, false, false, false, false, false, false, false, false, false, false] (by kernel_rfl) rfl rfl (HP4.out.rs) (fun hHeld => ?_)
  refine pure_ (i := 0) (N := some 38) (v := ?_) (a' := ?_) #[true, false, false, false, false, false, false, false, false, false, false] rfl rfl (by kernel_rfl) (fun _ _ _ h => h) (Or.inl ⟨by rfl, ?_⟩) ?_ ?_
  rotate_left
  · intro w'
    go_simp
    with_reducible rfl
  rotate_left
  · simp only [Act.put, List.setIfInBounds_toArray, List.set_cons_zero, List.set_cons_succ, i64_w, i32_w]
    rfl
  refine pure_ (i := 3) (N := some 41) (v := ?_) (a' := ?_) #[true, false, false, true, false, false, false, false, false, false, false] rfl rfl (by kernel_rfl) (fun _ _ _ h => h) (Or.inl ⟨by rfl, ?_⟩) ?_ ?_
  rotate_left
  · intro w'
    go_simp
    with_reducible rfl
  rotate_left
  · simp only [Act.put, List.setIfInBounds_toArray, List.set_cons_zero, List.set_cons_succ, i64_w, i32_w]
    rfl
  refine take_ (i := 1) (N := some 39) (v := .agg narrowA) (a' := ?_) #[true, true, false, true, false, false, false, false, false, false, false] rfl rfl (by kernel_rfl) (fun _ _ _ h => h) (yieldsIf_load_mid (by rfl) 120 (.tmp 6) rfl s 0 (by rfl) narrowA.toList _ (fun w' h => h) Tryd.underlying120 rfl (by kernel_rfl)) hHeld ?_ ?_
  rotate_left
  · simp only [Act.put, List.setIfInBounds_toArray, List.set_cons_zero, List.set_cons_succ, i64_w, i32_w]
    rfl
  refine take_ (i := 5) (N := some 43) (v := .agg narrowA) (a' := ?_) #[true, true, false, true, false, true, false, false, false, false, false] rfl rfl (by kernel_rfl) (fun _ _ _ h => h) (yieldsIf_load_mid (by rfl) 120 (.tmp 6) rfl s 0 (by rfl) narrowA.toList _ (fun w' h => h) Tryd.underlying120 rfl (by kernel_rfl)) hHeld ?_ ?_
  rotate_left
  · simp only [Act.put, List.setIfInBounds_toArray, List.set_cons_zero, List.set_cons_succ, i64_w, i32_w]
    rfl
  refine one_ (i := 2) (N := some 40) #[true, true, true, true, false, true, false, false, false, false, false] rfl rfl (by kernel_rfl) (by decide) (fun K hK => ?_)
  refine goes_ Tryd.func92 (by kernel_rfl) rfl #[.agg narrowA] (by rfl) rfl rfl (by simp only [List.map_toArray, List.map_cons, List.map_nil]; rfl) ?_
  with_reducible refine (block_callsA _).mono ?_
  rintro e w5 ⟨rfl, hb⟩
  refine ⟨_, rfl, ?_⟩
  have HP5 := Aside0.mk (HP4.out.below hb)
  clear hb
  refine hK.out _ _ (HP5.out.rs) (fun hHeld => ?_)
  clear hK K
  refine norm_ (a' := ?_) ?_ ?_
  rotate_left
  · show Act.put _ (some 40) _ = _
    simp only [Act.put, List.setIfInBounds_toArray, List.set_cons_zero, List.set_cons_succ, i64_w, i32_w]
    rfl
  refine pure_ (i := 4) (N := some 42) (v := ?_) (a' := ?_) #[true, true, true, true, true, true, false, false, false, false, false] rfl rfl (by kernel_rfl) (fun _ _ _ h => h) (Or.inl ⟨by rfl, ?_⟩) ?_ ?_
  rotate_left
  · intro w'
    go_simp
    with_reducible rfl
  rotate_left
  · simp only [Act.put, List.setIfInBounds_toArray, List.set_cons_zero, List.set_cons_succ, i64_w, i32_w]
    rfl
  refine one_ (i := 6) (N := some 44) #[true, true, true, true, true, true, true, false, false, false, false] rfl rfl (by kernel_rfl) (by decide) (fun K hK => ?_)
  refine goes_ Tryd.func92 (by kernel_rfl) rfl #[.agg narrowA] (by rfl) rfl rfl (by simp only [List.map_toArray, List.map_cons, List.map_nil]; rfl) ?_
  with_reducible refine (block_callsA _).mono ?_
  rintro e w6 ⟨rfl, hb⟩
  refine ⟨_, rfl, ?_⟩
  have HP6 := Aside0.mk (HP5.out.below hb)
  clear hb
  refine hK.out _ _ (HP6.out.rs) (fun hHeld => ?_)
  clear hK K
  refine norm_ (a' := ?_) ?_ ?_
  rotate_left
  · show Act.put _ (some 44) _ = _
    simp only [Act.put, List.setIfInBounds_toArray, List.set_cons_zero, List.set_cons_succ, i64_w, i32_w]
    rfl
  refine pure_ (i := 7) (N := some 45) (v := ?_) (a' := ?_) #[true, true, true, true, true, true, true, true, false, false, false] rfl rfl (by kernel_rfl) (fun _ _ _ h => h) (Or.inl ⟨by rfl, ?_⟩) ?_ ?_
  rotate_left
  · intro w'
    go_simp
    with_reducible rfl
  rotate_left
  · simp only [Act.put, List.setIfInBounds_toArray, List.set_cons_zero, List.set_cons_succ, i64_w, i32_w]
    rfl
  refine pure_ (i := 8) (N := some 46) (v := ?_) (a' := ?_) #[true, true, true, true, true, true, true, true, true, false, false] rfl rfl (by kernel_rfl) (fun _ _ _ h => h) (Or.inl ⟨by rfl, ?_⟩) ?_ ?_
  rotate_left
  · intro w'
    go_simp
    with_reducible rfl
  rotate_left
  · simp only [Act.put, List.setIfInBounds_toArray, List.set_cons_zero, List.set_cons_succ, i64_w, i32_w]
    rfl
  refine one_ (i := 9) (N := some 47) #[true, true, true, true, true, true, true, true, true, true, false] rfl rfl (by kernel_rfl) (by decide) (fun K hK => ?_)
  obtain ⟨A7, w7, hmk, hr7, hb7⟩ := run_make8 (P := Tryd.prog) info5 Tryd.underlying22 w6 L L (Nat.le_refl _) (by omega)
  refine value_ (v := .slice A7 L L) (by rfl) rfl (exec_make (t := 22) rfl (by rfl) (by rfl) hmk) ?_
  have HP7 := Aside0.mk (HP6.out.below hb7)
  have HR7 := Aside0.mk hr7
  have HZ6 := Aside0.mk HP6.out.b.size
  clear hmk hr7 hb7
  refine hK.out _ _ (HP7.out.rs) (fun hHeld => ?_)
  clear hK K
  refine norm_ (a' := ?_) ?_ ?_
  rotate_left
  · show Act.put _ (some 47) _ = _
    simp only [Act.put, List.setIfInBounds_toArray, List.set_cons_zero, List.set_cons_succ, i64_w, i32_w]
    rfl
  refine pure_ (i := 10) (N := some 10) (v := ?_) (a' := ?_) #[true, true, true, true, true, true, true, true, true, true, true] rfl rfl (by kernel_rfl) (fun _ _ _ h => h) (Or.inl ⟨by rfl, ?_⟩) ?_ ?_
  rotate_left
  · intro w'
    go_simp
    with_reducible rfl
  rotate_left
  · simp only [Act.put, List.setIfInBounds_toArray, List.set_cons_zero, List.set_cons_succ, i64_w, i32_w]
    rfl
  refine done_ (by kernel_rfl) ?_
  clear hHeld hz1 hz1' hz2 hz3 hz3'
  have HQ := Aside0.mk (show ∃ gs, A7 = some ⟨gs, 0, none⟩ from by
    obtain ⟨gs, c, e, _⟩ := Row8.form HR7.out (by simp; omega)
    injection e with e
    exact ⟨gs, e⟩)
  obtain ⟨gs, rfl⟩ := HQ.out
  have HC := Aside0.mk (HR7.out.celln (i := 0) (by simp; omega))
  have hc := HC.out.1
  have hf := HC.out.2
  have HR8 := Aside0.mk (show Row8 _ _ _ (padR n 0) from by rw [padR, HLN.out]; exact HR7.out.put 0 128)
  have HB8 := Aside0.mk (show Below w.heap.size w (w7.setCell ⟨gs, 0, none⟩ (.int .u8 128)) from below_put HP7.out.b (by have h := Row8.own HR7.out gs rfl; have := HZ6.out; omega) 0 _)
  have h0L : (0 : Int) < L := by omega
  go_wp2_with (fail)
  have HRS := Aside0.mk (HR8.out.lower (p := w.heap.size) (by have := HZ6.out; have := HZW.out; omega))
  have HLO := Aside0.mk (show w.heap.size ≤ gs by have h := Row8.own HR7.out gs rfl; have := HZ6.out; have := HZW.out; omega)
  clear hc hf h0L
  go_loopw [11, 12] (fun v11 v12 w' => ∃ i : Nat, v11 = .int .i64 i ∧ v12 = .int .i64 ((L : Int) - 1 - i) ∧ i ≤ 8 ∧ Aside0 (Row8 w' w.heap.size (.slice (some ⟨gs, 0, none⟩) L L) (padR n i)) ∧ Aside0 (Below w.heap.size w w')) (fun v11 v12 _ => 8 - (intOf v11).toNat)
  case atStart => exact ⟨0, rfl, by simp, by decide, HRS, HB8⟩
  case round =>
    clear HRS HB8 HR8 HR7
    obtain ⟨i, rfl, rfl, hi, HR, HB⟩ := hrel
    have hPL := padR_length n i
    by_cases hlt : i < 8
    · obtain ⟨k, hk⟩ : ∃ k : Nat, k = L - 1 - i := ⟨_, rfl⟩
      have hki : (L : Int) - 1 - i = k := by omega
      have hkL : (k : Int) < L := by omega
      have HLK := Aside0.mk (show padN n - 1 - i = k by rw [HLN.out, hk])
      have HC := Aside0.mk (HR.out.celln (i := k) (by rw [hPL, HLN.out]; omega))
      have hc := HC.out.1
      have hf := HC.out.2
      have HPT := Aside0.mk (fun x : Int => Aside0.mk (below_put HB.out HLO.out k (.int .u8 x)))
      rw [hki]
      clear hPL hk
      have hki' : (k : Int) - 1 = (L : Int) - 1 - (i + 1 : Nat) := by omega
      clear hki
      obtain rfl | rfl | rfl | rfl | rfl | rfl | rfl | rfl : i = 0 ∨ i = 1 ∨ i = 2 ∨ i = 3 ∨ i = 4 ∨ i = 5 ∨ i = 6 ∨ i = 7 := by omega
      all_goals clear hlt hi
      all_goals (have HK := Lib.hid hki'; clear hki')
      · go_wp2_with (fail)
        go_roundw
        case rel => exact ⟨1, rfl, congrArg _ HK.out, by decide, ⟨by rw [padR, HLK.out, show padB n 0 = 8 * (n : Int) % 256 by simp [padB]]; exact HR.out.put k _⟩, HPT.out _⟩
        case measure => simp [intOf]
      · go_wp2_with (fail)
        go_roundw
        case rel => exact ⟨2, rfl, congrArg _ HK.out, by decide, ⟨by rw [padR, HLK.out, show padB n 1 = 8 * (n : Int) / 256 % 256 by simp [padB]]; exact HR.out.put k _⟩, HPT.out _⟩
        case measure => simp [intOf]
      · go_wp2_with (fail)
        go_roundw
        case rel => exact ⟨3, rfl, congrArg _ HK.out, by decide, ⟨by rw [padR, HLK.out, show padB n 2 = 8 * (n : Int) / 65536 by simp [padB]; omega]; exact HR.out.put k _⟩, HPT.out _⟩
        case measure => simp [intOf]
      · go_wp2_with (fail)
        go_roundw
        case rel => exact ⟨4, rfl, congrArg _ HK.out, by decide, ⟨by rw [padR, HLK.out, show padB n 3 = 8 * (n : Int) / 16777216 by simp [padB]; omega]; exact HR.out.put k _⟩, HPT.out _⟩
        case measure => simp [intOf]
      · go_wp2_with (fail)
        go_roundw
        case rel => exact ⟨5, rfl, congrArg _ HK.out, by decide, ⟨by rw [padR, HLK.out, show padB n 4 = 8 * (n : Int) / 4294967296 by simp [padB]; omega]; exact HR.out.put k _⟩, HPT.out _⟩
        case measure => simp [intOf]
      · go_wp2_with (fail)
        go_roundw
        case rel => exact ⟨6, rfl, congrArg _ HK.out, by decide, ⟨by rw [padR, HLK.out, show padB n 5 = 8 * (n : Int) / 1099511627776 by simp [padB]; omega]; exact HR.out.put k _⟩, HPT.out _⟩
        case measure => simp [intOf]
      · go_wp2_with (fail)
        go_roundw
        case rel => exact ⟨7, rfl, congrArg _ HK.out, by decide, ⟨by rw [padR, HLK.out, show padB n 6 = 8 * (n : Int) / 281474976710656 by simp [padB]; omega]; exact HR.out.put k _⟩, HPT.out _⟩
        case measure => simp [intOf]
      · go_wp2_with (fail)
        go_roundw
        case rel => exact ⟨8, rfl, congrArg _ HK.out, by decide, ⟨by rw [padR, HLK.out, show padB n 7 = 8 * (n : Int) / 72057594037927936 by simp [padB]; omega]; exact HR.out.put k _⟩, HPT.out _⟩
        case measure => simp [intOf]
    · obtain rfl : i = 8 := by omega
      go_wp2
      refine bodyPost_ret (results_tmp2 rfl _ _ _) rfl ?_
      exact ⟨_, rfl, HR.out, HB.out⟩

end Go.Proofs.YtmblnflfklmmkaaDoor.Sh
/- Contracts of package sha2: Copy, Reset, New. -/
namespace Go.Proofs.YtmblnflfklmmkaaDoor.Sh
open Go.Proofs.YtmblnflfklmmkaaDoor.Dk
open Go.RowKit Go.Proofs.YtmblnflfklmmkaaDoorW.PrintWords Go.Proofs.YtmblnflfklmmkaaDoorW.PrintLast Go.Proofs.YtmblnflfklmmkaaDoorW.PrintMore
set_option linter.unusedVariables false
set_option linter.unusedSimpArgs false
set_option maxRecDepth 30000

variable {w w0 w1 w2 wr : World} {g : Nat} {n : Int} {r : Option (List Int)} {hv xs ys : List Int}
theorem upd_cell (w : World) (g j : Nat) (u : Value) : Upd w (w.setCell ⟨g, j, none⟩ u) (· = g) := (Upd.refl w (fun k => k = g)).setCell (p := ⟨g, j, none⟩) (.inl rfl) u
theorem HAt.cr (h : HAt w0 w g n r hv) : ∃ A m c, w.cell? ⟨g, 16, none⟩ = some (.slice A m c) ∧ ∀ x, r = some x → Row8 w w0.heap.size (.slice A m c) x := by
  obtain ⟨vr, h6, h1, ⟨⟨A, m, c, rfl⟩, h2⟩, _⟩ := h.blk
  exact ⟨A, m, c, by rw [cell_of_row _ _ _ _ _ _ h1]; rfl, h2⟩
theorem HAt.weak (h : HAt w0 w g n r hv) : HAt w0 w g n none hv := by
  obtain ⟨vr, h6, h1, h2, h3⟩ := h.blk
  exact ⟨⟨vr, h6, h1, ⟨h2.1, fun x hx => by cases hx⟩, h3⟩, h.hl, h.lo, h.b⟩
theorem HAt.setN (h : HAt w0 w g n r hv) (k : Int) : HAt w0 (w.setCell ⟨g, 15, none⟩ (.int .i64 k)) g k r hv := by
  obtain ⟨vr, h6, h1, h2, h3⟩ := h.blk
  have hup : Upd w (w.setCell ⟨g, 15, none⟩ (.int .i64 k)) (· = g) := upd_cell w g _ _
  exact ⟨⟨vr, h6, by rw [heap_setCell_same w g 15 _ 127 _ h1]; simp [hC, narrowA], ⟨h2.1, fun x hx => (h2.2 x hx).type h1 (by decide) hup⟩, h3⟩, h.hl, h.lo, below_put h.b h.lo 15 _⟩
theorem HAt.setR (h : HAt w0 w g n r hv) {A : Option Addr} {m c : Nat} {x : List Int} (hr : Row8 w w0.heap.size (.slice A m c) x) : HAt w0 (w.setCell ⟨g, 16, none⟩ (.slice A m c)) g n (some x) hv := by
  obtain ⟨vr, h6, h1, h2, h3⟩ := h.blk
  have hup : Upd w (w.setCell ⟨g, 16, none⟩ (.slice A m c)) (· = g) := upd_cell w g _ _
  exact ⟨⟨.slice A m c, h6, by rw [heap_setCell_same w g 16 _ 127 _ h1]; simp [hC, narrowA], ⟨⟨_, _, _, rfl⟩, fun y hy => by injection hy with hy; subst hy; exact hr.type h1 (by decide) hup⟩, h3⟩, h.hl, h.lo, below_put h.b h.lo 16 _⟩
theorem hC_set6 {vr : Value} {h6 us : List Int} (hl : hv.length = 8) (h : h6.length = 8) (hu : us.length = 8) : (hC n vr hv h6).take 25 ++ nums .u64 us ++ (hC n vr hv h6).drop (25 + (nums .u64 us).length) = hC n vr hv us := by
  have e : (nums IntKind.u64 us).length = 8 := by rw [nums_length, hu]
  have e2 : (nums IntKind.u32 hv).length = 8 := by rw [nums_length, hl]
  have e3 : (nums IntKind.u64 h6).length = 8 := by rw [nums_length, h]
  rw [e]
  simp [hC, narrowA, List.drop_append, List.drop_of_length_le, List.take_append, List.take_of_length_le, e2, e3]
theorem HAt.set6 (h : HAt w0 w g n r hv) {us : List Int} (hu : us.length = 8) : HAt w0 (w.setCells g 25 (nums .u64 us)) g n r hv := by
  obtain ⟨vr, h6, h1, h2, h3⟩ := h.blk
  obtain ⟨cur', c1, c2, c3⟩ := setCells_row (nums .u64 us) 25 w _ h1 (by simp [hC_len h.hl h3, nums_length, hu])
  have hup := setCells_upd g 25 (nums .u64 us) w
  refine ⟨⟨vr, us, ?_, ⟨h2.1, fun x hx => (h2.2 x hx).type h1 (by decide) hup⟩, hu⟩, h.hl, h.lo, ?_⟩
  · rw [c1]
    congr 2
    apply Array.toList_inj.1
    rw [c3]
    exact hC_set6 h.hl h3 hu
  · obtain ⟨s1, s2, s3, s4⟩ := setCells_same g (nums .u64 us) 25 w
    exact ⟨s1.trans h.b.os, s2.trans h.b.tape, s3.trans h.b.output, by rw [s4]; exact h.b.size, fun k hk => (setCells_far _ _ k (by have := h.lo; omega)).trans (h.b.block k hk)⟩
theorem HAt.there6 (h : HAt w0 w g n r hv) : w.there g 25 8 := fun j hj => by
  refine ⟨?_, h.free _⟩
  obtain ⟨vr, h6, h1, h2, h3⟩ := h.blk
  rw [cell_of_row _ _ _ _ _ _ h1, List.getElem?_toArray, List.getElem?_eq_getElem (by rw [hC_len h.hl h3]; omega)]
  rfl
theorem u64_one (x : List Int) : ((nums .u64 x).toArray : Array Value).all (·.oneCell') = true := by
  simp [nums, List.all_eq_true]
  intro a _
  rfl
def z127 : List Value := (List.replicate 15 (.int .i64 0)) ++ (.int .i64 0 :: .slice none 0 0 :: (nums .u32 (List.replicate 8 0) ++ nums .u64 (List.replicate 8 0)))
theorem run_alloc127 (w : World) : (Instr.alloc 127 true (.tuple #[])).run Tryd.prog w = .ok (.pointer (some ⟨w.heap.size, 0, none⟩)) (w.alloc (.cells z127.toArray 127)) := by kernel_rfl
theorem hC_one {A : Option Addr} {m c : Nat} {h6 : List Int} : (hC n (.slice A m c) hv h6).toArray.all (·.oneCell') = true := by
  rw [Array.all_eq_true_iff_forall_mem]
  intro v hv'
  simp only [hC, narrowA, List.mem_toArray, List.mem_append, List.mem_cons, nums, List.mem_map] at hv'
  rcases hv' with h | rfl | rfl | ⟨_, _, rfl⟩ | ⟨_, _, rfl⟩
  · simp at h
    rcases h with h | h | h | h | h | h | h | h | h | h | h | h | h | h | h <;> subst h <;> rfl
  all_goals rfl
theorem info127 {vr : Value} {h6 : List Int} (hl : hv.length = 8) (h : h6.length = 8) : (Tryd.prog.info? 127).map (·.size) = some (hC n vr hv h6).length := by rw [hC_len hl h]; kernel_rfl
theorem z127_len : z127.length = 33 := by simp [z127, nums_length]
attribute [irreducible] z127
/-- A copy. -/
def CopyPost (w0 w w' : World) (n : Int) (x hv : List Int) (e : Ending) : Prop := ∃ g2, e = .returned (.pointer (some ⟨g2, 0, none⟩)) ∧ HAt w0 w' g2 n (some x) hv ∧ Below w.heap.size w w'
set_option maxHeartbeats 16000000 in
theorem copy_calls (h : HAt w0 w g n (some xs) hv) (hx : xs.length ≤ 1000) : Calls Tryd.prog 80 #[.pointer (some ⟨g, 0, none⟩)] w fun e w' => CopyPost w0 w w' n xs hv e := by
  obtain ⟨vr, h6, h1, ⟨⟨A, m, c, rfl⟩, h2⟩, h3⟩ := h.blk
  have HR := Aside0.mk (h2 xs rfl)
  obtain ⟨rfl, hmc, hC8⟩ := Row8.C (h2 xs rfl)
  have HL := Aside0.mk (run_loadAt_cells (P := Tryd.prog) (w := w) 127 Tryd.underlying127 rfl g 0 (hC n (.slice A xs.length c) hv h6) (info127 h.hl h3) (fun j u hu => by rw [Nat.zero_add, cell_of_row _ _ j _ _ _ h1]; simpa using hu))
  have HST := Aside0.mk (run_storeAt_new (P := Tryd.prog) w 127 z127.toArray (hC n (.slice A xs.length c) hv h6).toArray (by rw [List.size_toArray]; exact info127 h.hl h3) (by simp [z127_len, hC_len h.hl h3]) hC_one)
  have HB2 := Aside0.mk (below_alloc (Below.refl w.heap.size w) (.cells (hC n (.slice A xs.length c) hv h6).toArray 127))
  have HA2 := Aside0.mk (show HAt w0 (w.alloc (.cells (hC n (.slice A xs.length c) hv h6).toArray 127)) w.heap.size n none hv from ⟨⟨_, h6, heap_alloc_new w _, ⟨⟨_, _, _, rfl⟩, fun x hx => by cases hx⟩, h3⟩, h.hl, h.b.size, h.b.trans (HB2.out.mono h.b.size)⟩)
  have HC2 := Aside0.mk (Kd.C_below hC8 HB2.out)
  have hc16 : (w.alloc (.cells (hC n (.slice A xs.length c) hv h6).toArray 127)).cell? ⟨g, 16, none⟩ = some (.slice A xs.length c) := by
    rw [cell_of_row _ _ _ _ _ _ (blk_below h1 HB2.out)]
    rfl
  have HLO := Aside0.mk h.b.size
  clear h h1 h2 hC8
  go_enter Tryd.func80, Tryd.ntmps80
  go_wp2_with (first | ((with_reducible refine load_at (ty := 127) (.tmp 7) ?_ ?_ HL.out ?_ ?_); exact rfl; exact rfl; exact rfl) | ((with_reducible refine alloc_at (e := 127) ?_ ?_ (run_alloc127 _) ?_); exact rfl; exact rfl) | ((with_reducible refine store_at (ty := 127) (.tmp 3) (.tmp 8) ?_ ?_ ?_ HST.out ?_ ?_ ?_); exact rfl; exact rfl; exact rfl; exact rfl; exact rfl; generalize w.alloc (.cells (hC n (.slice A xs.length c) hv h6).toArray 127) = w2 at HB2 HA2 HC2 hc16 ⊢) | ((with_reducible refine gate_builtin (b := .append) (xs := #[.const (.slice none 0 0), .tmp 12]) rfl ?_); at_builtin; refine app8 (q := w2.heap.size) info5 Tryd.underlying22 rfl (.const (.slice none 0 0)) (.tmp 12) rfl _ _ xs _ _ _ rfl rfl (Row8.nil _ _) HC2.out ?aQ ?aL ?_; (case aQ => exact Nat.le_refl _); (case aL => simp; omega); intro A1 c1 w3 hr3 hb3 hg3; have HR3 := Aside0.mk hr3; have HB3 := Aside0.mk hb3; have HA3 := Aside0.mk (HA2.out.below hb3); have hf := HA3.out.free 16; obtain ⟨_, _, _, hc, _⟩ := HA3.out.cr; clear hr3 hb3 hg3))
  go_ret
  exact ⟨w.heap.size, rfl, HA3.out.setR (A := A1) (m := xs.length) (c := c1) (x := xs) ((show Row8 w3 w2.heap.size (.slice A1 xs.length c1) xs from HR3.out).lower HA2.out.b.size), below_put (HB2.out.trans (HB3.out.mono HB2.out.size)) (Nat.le_refl _) 16 _⟩

theorem HAt.st17 (h : HAt w0 w g n r hv) {us : List Int} (hu : us.length = 8) : (Instr.storeAt 124 (.pointer (some ⟨g, 17, none⟩)) (.agg (nums .u32 us).toArray)).run Tryd.prog w = .ok () (w.setCells g 17 (nums .u32 us)) :=
  run_storeAt_mid (P := Tryd.prog) w g 17 124 (nums .u32 us).toArray (by rw [List.size_toArray, nums_length, hu]; exact h.there) (info124 _ hu) (u32_one _)
theorem HAt.st25 (h : HAt w0 w g n r hv) {us : List Int} (hu : us.length = 8) : (Instr.storeAt 125 (.pointer (some ⟨g, 25, none⟩)) (.agg (nums .u64 us).toArray)).run Tryd.prog w = .ok () (w.setCells g 25 (nums .u64 us)) :=
  run_storeAt_mid (P := Tryd.prog) w g 25 125 (nums .u64 us).toArray (by rw [List.size_toArray, nums_length, hu]; exact h.there6) (info125 _ hu) (u64_one _)
theorem narrow_callsA (w : World) : Calls Tryd.prog 88 #[] w fun e w' => e = .returned (.agg narrowA) ∧ Below w.heap.size w w' := narrow_calls w
theorem wide_callsA (w : World) : Calls Tryd.prog 89 #[] w fun e w' => e = .returned (.agg wideA) ∧ Below w.heap.size w w' := wide_calls w
theorem begin32L_length : begin32L.length = 8 := begR_length _ 8
theorem begin64L_length : begin64L.length = 8 := begR_length _ 8
def ResetPost (w0 w w' : World) (g : Nat) (e : Ending) : Prop := e = .returned (.tuple #[]) ∧ HAt w0 w' g 0 (some []) begin32L ∧ Upd w w' (· = g)
set_option maxHeartbeats 16000000 in
theorem reset_calls (hg0 : Glob w0) (h : HAt w0 w g n r hv) : Calls Tryd.prog 78 #[.pointer (some ⟨g, 0, none⟩)] w fun e w' => ResetPost w0 w w' g e := by
  have hg := Aside0.mk hg0
  have HA0 := Aside0.mk h
  have hf15 := h.free 15
  have hc15 := h.cn
  have HA1 := Aside0.mk (h.setN 0)
  have HU1 := Aside0.mk (upd_cell w g 15 (.int .i64 0))
  obtain ⟨A, m, c, hc16, _⟩ := h.cr
  have hf16 := h.free 16
  clear h hg0
  have HA2 := Aside0.mk (HA1.out.setR (Row8.nil (w.setCell ⟨g, 15, none⟩ (.int .i64 0)) w0.heap.size))
  have HU2 := Aside0.mk (HU1.out.trans (upd_cell (w.setCell ⟨g, 15, none⟩ (.int .i64 0)) g 16 (.slice none 0 0)) (fun _ h => .inl h))
  go_enter Tryd.func78, Tryd.ntmps78
  go_wp2_with (first | (go_at_call 88; (with_reducible refine (narrow_callsA _).mono ?_); rintro e w3 ⟨rfl, hb⟩; have HA3 := Aside0.mk (HA2.out.below hb); have HU3 := Aside0.mk (HU2.out.trans (Upd.of_below (F := (· = g)) hb) (fun _ h => .inl h)); clear hb) | (go_at_call 90; (with_reducible refine (begin32_calls (hg.out.below HA3.out.b)).mono ?_); rintro e w4 ⟨rfl, hb⟩; have HA4 := Aside0.mk (HA3.out.below hb); have HU4 := Aside0.mk (HU3.out.trans (Upd.of_below (F := (· = g)) hb) (fun _ h => .inl h)); clear hb) | (go_at_call 89; (with_reducible refine (wide_callsA _).mono ?_); rintro e w5 ⟨rfl, hb⟩; have HA5 := Aside0.mk (HA4.out.below hb); have HU5 := Aside0.mk (HU4.out.trans (Upd.of_below (F := (· = g)) hb) (fun _ h => .inl h)); clear hb) | (go_at_call 91; (with_reducible refine (begin64_calls (hg.out.below HA5.out.b)).mono ?_); rintro e w6 ⟨rfl, hb⟩; have HA6 := Aside0.mk (HA5.out.below hb); have HU6 := Aside0.mk (HU5.out.trans (Upd.of_below (F := (· = g)) hb) (fun _ h => .inl h)); clear hb; have HST := Aside0.mk (HA6.out.st17 begin32L_length); have HA7 := Aside0.mk (HA6.out.setH begin32L_length); have HU7 := Aside0.mk (HU6.out.trans (setCells_upd g 17 (nums .u32 begin32L) w6) (fun _ h => .inl h))) | ((with_reducible refine store_at (ty := 124) (.tmp 17) (.tmp 13) ?_ ?_ ?_ HST.out ?_ ?_ ?_); exact rfl; exact rfl; exact rfl; exact rfl; exact rfl; generalize w6.setCells g 17 (nums .u32 begin32L) = w7 at HA7 HU7 ⊢; clear HST; have HST6 := Aside0.mk (HA7.out.st25 begin64L_length)) | ((with_reducible refine store_at (ty := 125) (.tmp 19) (.tmp 15) ?_ ?_ ?_ HST6.out ?_ ?_ ?_); exact rfl; exact rfl; exact rfl; exact rfl; exact rfl; have HA8 := Aside0.mk (HA7.out.set6 begin64L_length); have HU8 := Aside0.mk (HU7.out.trans (setCells_upd g 25 (nums .u64 begin64L) w7) (fun _ h => .inl h)); generalize w7.setCells g 25 (nums .u64 begin64L) = w8 at HA8 HU8 ⊢))
  go_end0
  exact ⟨rfl, HA8.out, HU8.out⟩
theorem build127 (w : World) : (Instr.build 127 #[(0, .agg narrowA)]).run Tryd.prog w = .ok (.agg (hC 0 (.slice none 0 0) [0, 0, 0, 0, 0, 0, 0, 0] [0, 0, 0, 0, 0, 0, 0, 0]).toArray) w := by kernel_rfl
def NewPost (w w' : World) (e : Ending) : Prop := ∃ g, e = .returned (.tuple #[.pointer (some ⟨g, 0, none⟩), .int .i64 0]) ∧ HAt w w' g 0 (some []) begin32L
set_option maxHeartbeats 16000000 in
theorem new_calls (hg0 : Glob w) : Calls Tryd.prog 61 #[.int .i64 256] w fun e w' => NewPost w w' e := by
  have hg := Aside0.mk hg0
  have HST := Aside0.mk (fun w1 : World => run_storeAt_new (P := Tryd.prog) w1 120 zeros15 narrowA info120 (by simp [zeros15_size, narrowA]) narrowA_one)
  clear hg0
  go_enter Tryd.func61, Tryd.ntmps61
  go_wp2_with (first | ((with_reducible refine alloc_at (e := 120) ?_ ?_ (run_alloc120 _) ?_); exact rfl; exact rfl) | (go_at_call 77; (with_reducible refine (of_callsA _).mono ?_); rintro e w1 ⟨rfl, hb1⟩; have HB2 := Aside0.mk (show Below w.heap.size w (w1.alloc (.cells narrowA 120)) from hb1.trans ((below_alloc (Below.refl _ _) _).mono hb1.size)); have HS2 := Aside0.mk (show (w1.alloc (.cells narrowA 120)).heap[w1.heap.size]? = some (.cells narrowA 120 (0, 0)) from heap_alloc_new w1 _); clear hb1) | ((with_reducible refine store_at (ty := 120) (.tmp 4) (.tmp 10) ?_ ?_ ?_ (HST.out _) ?_ ?_ ?_); exact rfl; exact rfl; exact rfl; exact rfl; exact rfl; generalize w1.alloc (.cells narrowA 120) = w2 at HB2 HS2 ⊢; generalize w1.heap.size = s at HS2 ⊢; have HLS := Aside0.mk (show (Instr.loadAt 120 (.pointer (some ⟨s, 0, none⟩))).run Tryd.prog w2 = .ok (.agg narrowA) w2 from run_loadAt_cells (P := Tryd.prog) (w := w2) 120 Tryd.underlying120 rfl s 0 narrowA.toList info120 (fun j u hu => by rw [Nat.zero_add, cell_of_row _ _ j _ _ _ HS2.out]; simpa using hu))) | ((with_reducible refine load_at (ty := 120) (.tmp 4) ?_ ?_ HLS.out ?_ ?_); exact rfl; exact rfl; exact rfl) | ((with_reducible refine build_at (t := 127) (parts := #[(0, .tmp 14)]) (args := #[(0, .agg narrowA)]) ?_ ?_ build127 ?_ ?_); exact rfl; exact rfl; (first | (with_reducible rfl) | kernel_rfl | (simp; done))) | (go_at_call 78; (with_reducible refine (reset_calls hg.out (show HAt w (w2.alloc (.cells (hC 0 (.slice none 0 0) [0, 0, 0, 0, 0, 0, 0, 0] [0, 0, 0, 0, 0, 0, 0, 0]).toArray 127)) w2.heap.size 0 none [0, 0, 0, 0, 0, 0, 0, 0] from ⟨⟨_, _, heap_alloc_new w2 _, ⟨⟨_, _, _, rfl⟩, fun x hx => by cases hx⟩, by simp⟩, by simp, HB2.out.size, HB2.out.trans ((below_alloc (Below.refl _ _) _).mono HB2.out.size)⟩)).mono ?_); rintro e w5 ⟨rfl, ha5, _⟩; have HA5 := Aside0.mk ha5; clear ha5))
  refine bodyPost_ret (results_tmp2 rfl _ _ _) rfl ?_
  exact ⟨w2.heap.size, rfl, HA5.out⟩

end Go.Proofs.YtmblnflfklmmkaaDoor.Sh
/- Contracts of package sha2: Write, Sum; of package store: digest. -/
namespace Go.Proofs.YtmblnflfklmmkaaDoor.Sh
open Go.Proofs.YtmblnflfklmmkaaDoor.Dk
open Go.RowKit Go.Proofs.YtmblnflfklmmkaaDoorW.PrintWords Go.Proofs.YtmblnflfklmmkaaDoorW.PrintLast Go.Proofs.YtmblnflfklmmkaaDoorW.PrintMore
set_option linter.unusedVariables false
set_option linter.unusedSimpArgs false
set_option maxRecDepth 30000

variable {w w0 w1 w2 wr : World} {g q : Nat} {n : Int} {r : Option (List Int)} {hv xs ys : List Int} {v : Value}
theorem C_bys {gs o : Nat} (h : Bys w gs o xs) (hx : xs.length ≤ 1000000000) : C8 w (some ⟨gs, o, none⟩) xs := by
  refine ⟨rfl, by omega, fun _ => ⟨_, rfl, fun j p hj => ⟨[.int .u8 p], rfl, rfl, fun i u hu => ?_⟩⟩⟩
  cases i with
  | succ i => simp at hu
  | zero =>
    simp only [List.getElem?_cons_zero, Option.some.injEq] at hu
    subst hu
    have hlt := (List.getElem?_eq_some_iff.1 hj).1
    have e : (⟨gs, o, none⟩ : Addr).add (j * (Kd.int .u8).sz + 0) = ⟨gs, o + j, none⟩ := by rw [Addr.add_mid]; simp [Kd.int, Kd.scalar]
    rw [e, h j hlt, List.getD_eq_getElem?_getD, hj]
    rfl
theorem RowAt.C (h : RowAt w g v xs) (hx : xs.length ≤ 1000000000) : ∃ A c, v = .slice A xs.length c ∧ C8 w A xs := by
  obtain ⟨A, c, rfl, hc, h⟩ := h
  refine ⟨A, c, rfl, ?_⟩
  rcases h with rfl | ⟨gs, o, rfl, _, _, hb⟩
  · exact ⟨rfl, by simp, fun h => absurd h (by simp)⟩
  · exact C_bys hb hx
theorem row8_at {cs : Array Value} {t : Nat} (h : Row8 w q v xs) (hb : w.heap[g]? = some (.cells cs t (0, 0))) (ht : 5 ≠ t) : RowAt w g v xs := by
  obtain ⟨A, c, rfl, hc, _⟩ := h.reads
  refine ⟨A, c, rfl, hc, ?_⟩
  by_cases h0 : 0 < xs.length
  · obtain ⟨gs, c', e, _, hlt, _, ⟨cells, hcl⟩, hx⟩ := h.form h0
    injection e with e
    refine .inr ⟨gs, 0, e, blk_ne hcl hb ht, hlt, fun j hj => by rw [Nat.zero_add]; exact hx j hj⟩
  · exact .inl (List.eq_nil_of_length_eq_zero (by omega))
theorem HAt.grown (h : HAt w0 w g n r hv) (hr : Row8 w q v xs) (hg : w.grownBy w1 v.ownBlock) (hb : Below w0.heap.size w w1) : HAt w0 w1 g n none hv := by
  obtain ⟨vr, h6, h1, h2, h3⟩ := h.blk
  have hne := Kd.R_ne hr h1 (by decide)
  exact ⟨⟨vr, h6, blk_grown h1 hg hne, ⟨h2.1, fun x hx => by cases hx⟩, h3⟩, h.hl, h.lo, h.b.trans hb⟩
theorem HAt.rowAt (h : HAt w0 w g n r hv) (hr : Row8 w q v xs) : RowAt w g v xs := by
  obtain ⟨vr, h6, h1, h2, h3⟩ := h.blk
  exact row8_at hr h1 (by decide)
theorem takeF_len (hv : List Int) : ∀ (k : Nat) (xs : List Int), xs.length ≤ k → (takeF hv xs).2.length ≤ xs.length ∧ (takeF hv xs).2.length < 64
  | k, xs, hk => by
    by_cases h : 64 ≤ xs.length
    · rw [takeF_ge h]
      cases k with
      | zero => omega
      | succ k =>
        have := takeF_len (mixM hv (xs.take 64)) k (xs.drop 64) (by simp; omega)
        simp at this
        omega
    · rw [takeF_lt (by omega)]
      exact ⟨Nat.le_refl _, by show xs.length < 64; omega⟩
def WritePost (w0 w w' : World) (g : Nat) (n : Int) (r hv b : List Int) (e : Ending) : Prop := e = .returned (.int .i64 0) ∧ HAt w0 w' g (n + b.length) (some (takeF hv (r ++ b)).2) (takeF hv (r ++ b)).1 ∧ w.heap.size ≤ w'.heap.size
set_option maxHeartbeats 16000000 in
theorem write_calls (hg0 : Glob w0) (h : HAt w0 w g n (some xs) hv) (hn : 0 ≤ n) (A : Option Addr) (c : Nat) (b : List Int) (hnb : n + b.length ≤ 1048576) (hx : xs.length ≤ 64) (hC : ∀ W, Upd w W (· = g) → C8 W A b) :
    Calls Tryd.prog 62 #[.pointer (some ⟨g, 0, none⟩), .slice A b.length c] w fun e w' => WritePost w0 w w' g n xs hv b e := by
  have hg := Aside0.mk hg0
  have hc15 := h.cn
  have hf15 := h.free 15
  have hf16 := h.free 16
  obtain ⟨A1, m1, c1, hc16, hr16⟩ := h.cr
  have hr := hr16 xs rfl
  have HA1 := Aside0.mk (h.setN (n + b.length))
  have HU1 := upd_cell w g 15 (.int .i64 (n + b.length))
  have HR1 := Aside0.mk (show Row8 (w.setCell ⟨g, 15, none⟩ (.int .i64 (n + b.length))) w0.heap.size (.slice A1 m1 c1) xs from by obtain ⟨vr, h6, h1, _⟩ := h.blk; exact hr.type h1 (by decide) HU1)
  have HC1 := Aside0.mk (hC _ HU1)
  have HZ := Aside0.mk (show w.heap.size ≤ (w.setCell ⟨g, 15, none⟩ (.int .i64 (n + b.length))).heap.size from HU1.size)
  have hq : decide (1048576 - n < (b.length : Int)) = false := decide_eq_false (by omega)
  obtain ⟨m, hm⟩ : ∃ m, m = n + b.length := ⟨_, rfl⟩
  have hm1 : m ≤ 1048576 := by omega
  have HM := Lib.hid hm
  rw [← hm] at HA1 HR1 HC1 HZ
  have hms : n + (b.length : Int) = m := hm.symm
  clear h hg0 hr hr16 HU1 hC hm
  have hbl : b.length ≤ 1048576 := by omega
  go_enter Tryd.func62, Tryd.ntmps62
  go_wp2_with (first | ((with_reducible refine gate_builtin (b := .append) (xs := #[.tmp 31, .tmp 32]) rfl ?_); at_builtin; refine app8 (q := w0.heap.size) info5 Tryd.underlying22 rfl (.tmp 31) (.tmp 32) rfl _ _ _ _ _ _ rfl rfl HR1.out HC1.out ?aQ ?aL ?_; (case aQ => have := HA1.out.b.size; omega); (case aL => omega); intro A3 c3 w3 hr3 hb3 hg3; have HA3 := Aside0.mk (HA1.out.grown HR1.out hg3 hb3); have HZ3 := Aside0.mk (Nat.le_trans HZ.out hg3.size); have HR3 := Aside0.mk (show RowAt w3 g (.slice A3 (xs.length + b.length) c3) (xs ++ b) from by have h := HA3.out.rowAt hr3; rwa [List.length_append] at h); clear hr3 hb3 hg3) | (go_at_call 79; (with_reducible refine (take_calls hg.out _ HA3.out HR3.out (by simp; omega)).mono ?_); rintro e w4 ⟨v4, rfl, hr4, ha4, hu4⟩; obtain ⟨A4, c4, rfl, hc4⟩ := RowAt.C hr4 (by have := takeF_len hv _ (xs ++ b) (Nat.le_refl _); omega); have HA4 := Aside0.mk ha4; have HC4 := Aside0.mk hc4; have HZ4 := Aside0.mk (Nat.le_trans HZ3.out hu4.size); clear hr4 ha4 hu4 hc4) | ((with_reducible refine gate_builtin (b := .append) (xs := #[.const (.slice none 0 0), .tmp 34]) rfl ?_); at_builtin; refine app8 (q := w4.heap.size) info5 Tryd.underlying22 rfl (.const (.slice none 0 0)) (.tmp 34) rfl _ _ _ _ _ _ rfl rfl (Row8.nil _ _) HC4.out ?aQ ?aL ?_; (case aQ => exact Nat.le_refl _); (case aL => have := takeF_len hv _ (xs ++ b) (Nat.le_refl _); simp; omega); intro A5 c5 w5 hr5 hb5 hg5; have HR5 := Aside0.mk hr5; have HA5 := Aside0.mk (HA4.out.below hb5); have HZ5 := Aside0.mk (Nat.le_trans HZ4.out hb5.size); have hf := HA5.out.free 16; obtain ⟨_, _, _, hc, _⟩ := HA5.out.cr; clear hr5 hb5 hg5))
  go_ret
  exact ⟨rfl, by rw [← HM.out]; exact HA5.out.setR (HR5.out.lower HA4.out.b.size), by have := HZ5.out; simpa [World.setCell] using this⟩

def sumM (hv r : List Int) (k : Nat) : List Int := tellM (takeF hv (r ++ padM k)).1
def SumPost (w0 w' : World) (x : List Int) (e : Ending) : Prop := ∃ v, e = .returned v ∧ Row8 w' w0.heap.size v x ∧ Below w0.heap.size w0 w'
theorem padN_le (k : Nat) : padN k ≤ 72 := by unfold padN; omega
theorem padM_length (k : Nat) : (padM k).length = padN k := padR_length k 8
set_option maxHeartbeats 16000000 in
theorem sum_calls (hg0 : Glob w0) (k : Nat) (hk : k ≤ 1048576) (h : HAt w0 w g k (some xs) hv) (hx : xs.length < 64) : Calls Tryd.prog 63 #[.pointer (some ⟨g, 0, none⟩)] w fun e w' => SumPost w0 w' (sumM hv xs k) e := by
  have hg := Aside0.mk hg0
  have HA1 := Aside0.mk h
  have HX := Aside0.mk hx
  clear h hg0 hx
  go_enter Tryd.func63, Tryd.ntmps63
  go_wp2_with (first | (go_at_call 80; (with_reducible refine (copy_calls HA1.out (by have := HX.out; omega)).mono ?_); rintro e w2 ⟨g2, rfl, ha2, hb2⟩; clear hb2))
  have HA2 := Aside0.mk ha2.drew
  have hw256 : wrap64 256 = 256 := by simp [wrap64]
  clear ha2
  repeat (first | go_step | go_guarded | go_upon)
  refine start_ (n := 16) (S := fun w' => w'.cell? ⟨g2, 15, none⟩ = some (.int .i64 k) ∧ w'.cell? ⟨g2, 0, none⟩ = some (.int .i64 4)) (ds := []) #[false, false, false, false, false, false, false, false, false, false, false, false, false, false, false, false] (by kernel_rfl) rfl rfl ⟨HA2.out.cn, HA2.out.c0⟩ (fun hHeld => ?_)
  refine pure_ (i := 0) (N := some 11) (v := ?_) (a' := ?_) #[true, false, false, false, false, false, false, false, false, false, false, false, false, false, false, false] rfl rfl (by kernel_rfl) (fun _ _ _ h => h) (Or.inl ⟨by rfl, ?_⟩) ?_ ?_
  rotate_left
  · intro w'
    go_simp
    with_reducible rfl
  rotate_left
  · simp only [Act.put, List.setIfInBounds_toArray, List.set_cons_zero, List.set_cons_succ, i64_w, i32_w]
    rfl
  refine pure_ (i := 1) (N := some 12) (v := ?_) (a' := ?_) #[true, true, false, false, false, false, false, false, false, false, false, false, false, false, false, false] rfl rfl (by kernel_rfl) (fun _ _ _ h => h) (Or.inl ⟨by rfl, ?_⟩) ?_ ?_
  rotate_left
  · intro w'
    go_simp
    with_reducible rfl
  rotate_left
  · simp only [Act.put, List.setIfInBounds_toArray, List.set_cons_zero, List.set_cons_succ, i64_w, i32_w]
    rfl
  refine pure_ (i := 2) (N := some 13) (v := ?_) (a' := ?_) #[true, true, true, false, false, false, false, false, false, false, false, false, false, false, false, false] rfl rfl (by kernel_rfl) (fun _ _ _ h => h) (Or.inl ⟨by rfl, ?_⟩) ?_ ?_
  rotate_left
  · intro w'
    go_simp
    with_reducible rfl
  rotate_left
  · simp only [Act.put, List.setIfInBounds_toArray, List.set_cons_zero, List.set_cons_succ, i64_w, i32_w]
    rfl
  refine pure_ (i := 4) (N := some 15) (v := ?_) (a' := ?_) #[true, true, true, false, true, false, false, false, false, false, false, false, false, false, false, false] rfl rfl (by kernel_rfl) (fun _ _ _ h => h) (Or.inl ⟨by rfl, ?_⟩) ?_ ?_
  rotate_left
  · intro w'
    go_simp
    with_reducible rfl
  rotate_left
  · simp only [Act.put, List.setIfInBounds_toArray, List.set_cons_zero, List.set_cons_succ, i64_w, i32_w]
    rfl
  refine pure_ (i := 5) (N := some 16) (v := ?_) (a' := ?_) #[true, true, true, false, true, true, false, false, false, false, false, false, false, false, false, false] rfl rfl (by kernel_rfl) (fun _ _ _ h => h) (Or.inl ⟨by rfl, ?_⟩) ?_ ?_
  rotate_left
  · intro w'
    go_simp
    with_reducible rfl
  rotate_left
  · simp only [Act.put, List.setIfInBounds_toArray, List.set_cons_zero, List.set_cons_succ, i64_w, i32_w]
    rfl
  refine pure_ (i := 6) (N := some 17) (v := ?_) (a' := ?_) #[true, true, true, false, true, true, true, false, false, false, false, false, false, false, false, false] rfl rfl (by kernel_rfl) (fun _ _ _ h => h) (Or.inl ⟨by rfl, ?_⟩) ?_ ?_
  rotate_left
  · intro w'
    go_simp
    with_reducible rfl
  rotate_left
  · simp only [Act.put, List.setIfInBounds_toArray, List.set_cons_zero, List.set_cons_succ, i64_w, i32_w]
    rfl
  refine pure_ (i := 7) (N := some 18) (v := ?_) (a' := ?_) #[true, true, true, false, true, true, true, true, false, false, false, false, false, false, false, false] rfl rfl (by kernel_rfl) (fun _ _ _ h => h) (Or.inl ⟨by rfl, ?_⟩) ?_ ?_
  rotate_left
  · intro w'
    go_simp
    with_reducible rfl
  rotate_left
  · simp only [Act.put, List.setIfInBounds_toArray, List.set_cons_zero, List.set_cons_succ, i64_w, i32_w]
    rfl
  refine take_ (i := 3) (N := some 14) (v := ?_) (a' := ?_) #[true, true, true, true, true, true, true, true, false, false, false, false, false, false, false, false] rfl rfl (by kernel_rfl) (fun _ _ _ h => h) (Or.inl ⟨by rfl, ?_⟩) hHeld ?_ ?_
  rotate_left
  · rintro w' ⟨s0, s1⟩
    go_simp
    with_reducible rfl
  rotate_left
  · simp only [Act.put, List.setIfInBounds_toArray, List.set_cons_zero, List.set_cons_succ, i64_w, i32_w]
    rfl
  refine take_ (i := 8) (N := some 19) (v := ?_) (a' := ?_) #[true, true, true, true, true, true, true, true, true, false, false, false, false, false, false, false] rfl rfl (by kernel_rfl) (fun _ _ _ h => h) (Or.inl ⟨by rfl, ?_⟩) hHeld ?_ ?_
  rotate_left
  · rintro w' ⟨s0, s1⟩
    go_simp
    with_reducible rfl
  rotate_left
  · simp only [Act.put, List.setIfInBounds_toArray, List.set_cons_zero, List.set_cons_succ, i64_w, i32_w]
    rfl
  refine pure_ (i := 9) (N := some 20) (v := ?_) (a' := ?_) #[true, true, true, true, true, true, true, true, true, true, false, false, false, false, false, false] rfl rfl (by kernel_rfl) (fun _ _ _ h => h) (Or.inl ⟨by rfl, ?_⟩) ?_ ?_
  rotate_left
  · intro w'
    go_simp
    with_reducible rfl
  rotate_left
  · simp only [Act.put, List.setIfInBounds_toArray, List.set_cons_zero, List.set_cons_succ, i64_w, i32_w]
    rfl
  refine one_ (i := 10) (N := some 21) #[true, true, true, true, true, true, true, true, true, true, true, false, false, false, false, false] rfl rfl (by kernel_rfl) (by decide) (fun K hK => ?_)
  refine goes_ Tryd.func81 (by kernel_rfl) rfl #[.int .i64 k, .int .i64 (wrap64 256)] (by rfl) rfl rfl (by simp only [List.map_toArray, List.map_cons, List.map_nil]; rfl) ?_
  rw [show wrap64 256 = 256 by simp [wrap64]]
  with_reducible refine (pad_calls k hk).mono ?_
  rintro e w3 ⟨vp, rfl, hr, hb⟩
  refine ⟨_, rfl, ?_⟩
  have HA3 := Aside0.mk (HA2.out.below hb)
  have HP3 := Aside0.mk hr
  have HZ3 := Aside0.mk (show w0.heap.size ≤ w3.heap.size from HA3.out.b.size)
  have HZ2 := Aside0.mk (show w0.heap.size ≤ w2.drew.heap.size from HA2.out.b.size)
  clear hr hb
  refine hK.out _ _ ⟨HA3.out.cn, HA3.out.c0⟩ (fun hHeld => ?_)
  clear hK K
  refine norm_ (a' := ?_) ?_ ?_
  rotate_left
  · show Act.put _ (some 21) _ = _
    simp only [Act.put, List.setIfInBounds_toArray, List.set_cons_zero, List.set_cons_succ, i64_w, i32_w]
    rfl
  refine pure_ (i := 11) (N := some 10) (v := ?_) (a' := ?_) #[true, true, true, true, true, true, true, true, true, true, true, true, false, false, false, false] rfl rfl (by kernel_rfl) (fun _ _ _ h => h) (Or.inl ⟨by rfl, ?_⟩) ?_ ?_
  rotate_left
  · intro w'
    go_simp
    with_reducible rfl
  rotate_left
  · simp only [Act.put, List.setIfInBounds_toArray, List.set_cons_zero, List.set_cons_succ, i64_w, i32_w]
    rfl
  refine pure_ (i := 12) (N := some 22) (v := ?_) (a' := ?_) #[true, true, true, true, true, true, true, true, true, true, true, true, true, false, false, false] rfl rfl (by kernel_rfl) (fun _ _ _ h => h) (Or.inl ⟨by rfl, ?_⟩) ?_ ?_
  rotate_left
  · intro w'
    go_simp
    with_reducible rfl
  rotate_left
  · simp only [Act.put, List.setIfInBounds_toArray, List.set_cons_zero, List.set_cons_succ, i64_w, i32_w]
    rfl
  refine pure_ (i := 13) (N := some 23) (v := ?_) (a' := ?_) #[true, true, true, true, true, true, true, true, true, true, true, true, true, true, false, false] rfl rfl (by kernel_rfl) (fun _ _ _ h => h) (Or.inl ⟨by rfl, ?_⟩) ?_ ?_
  rotate_left
  · intro w'
    go_simp
    with_reducible rfl
  rotate_left
  · simp only [Act.put, List.setIfInBounds_toArray, List.set_cons_zero, List.set_cons_succ, i64_w, i32_w]
    rfl
  refine pure_ (i := 14) (N := some 4) (v := ?_) (a' := ?_) #[true, true, true, true, true, true, true, true, true, true, true, true, true, true, true, false] rfl rfl (by kernel_rfl) (fun _ _ _ h => h) (Or.inl ⟨by rfl, ?_⟩) ?_ ?_
  rotate_left
  · intro w'
    go_simp
    with_reducible rfl
  rotate_left
  · simp only [Act.put, List.setIfInBounds_toArray, List.set_cons_zero, List.set_cons_succ, i64_w, i32_w]
    rfl
  refine pure_ (i := 15) (N := some 5) (v := ?_) (a' := ?_) #[true, true, true, true, true, true, true, true, true, true, true, true, true, true, true, true] rfl rfl (by kernel_rfl) (fun _ _ _ h => h) (Or.inl ⟨by rfl, ?_⟩) ?_ ?_
  rotate_left
  · intro w'
    go_simp
    with_reducible rfl
  rotate_left
  · simp only [Act.put, List.setIfInBounds_toArray, List.set_cons_zero, List.set_cons_succ, i64_w, i32_w]
    rfl
  refine done_ (by kernel_rfl) ?_
  clear hHeld hw256
  obtain ⟨A3, c3, rfl, hpc, hp8⟩ := HP3.out.reads
  obtain ⟨A2, m2, c2, hc16, hr16⟩ := HA3.out.cr
  have HR2 := Aside0.mk (hr16 xs rfl)
  have HP8 := Aside0.mk hp8
  have hpl : (padM k).length ≤ 72 := by rw [padM_length]; exact padN_le k
  have HPL := Aside0.mk hpl
  clear hpc hr16 hp8 HP3 hpl
  obtain ⟨h5, hh5⟩ : ∃ h5, (takeF hv (xs ++ padM k)).1 = h5 := ⟨_, rfl⟩
  have HH5 := Lib.hid hh5
  go_wp2_with (first | ((with_reducible refine gate_builtin (b := .append) (xs := #[.tmp 28, .tmp 29]) rfl ?_); at_builtin; refine app8 (q := w0.heap.size) info5 Tryd.underlying22 rfl (.tmp 28) (.tmp 29) rfl _ _ _ _ _ _ rfl rfl HR2.out HP8.out ?aQ ?aL ?_; (case aQ => exact HZ3.out); (case aL => have := HX.out; have := HPL.out; omega); intro A4 c4 w4 hr4 hb4 hg4; have HA4 := Aside0.mk (HA3.out.grown HR2.out hg4 hb4); have HR4 := Aside0.mk (show RowAt w4 g2 (.slice A4 (xs.length + (padM k).length) c4) (xs ++ padM k) from by have h := HA4.out.rowAt hr4; rwa [List.length_append] at h); clear hr4 hb4 hg4) | (go_at_call 79; (with_reducible refine (take_calls hg.out _ HA4.out HR4.out (by have := HX.out; have := HPL.out; simp; omega)).mono ?_); rintro e w5 ⟨v5, rfl, hr5, ha5, hu5⟩; rw [hh5] at ha5; have HA5 := Aside0.mk ha5; have hc0 := HA5.out.c0; clear hr5 ha5 hu5 hh5))
  have HL5 := Aside0.mk HA5.out.hl
  have HA6 := Aside0.mk HA5.out.drew
  repeat (first | go_step | go_guarded | go_upon)
  refine start_ (n := 10) (S := fun w' => w'.rangeAt g2 0 narrowA.toList ∧ w'.rangeAt g2 17 (nums .u32 h5)) (ds := []) #[false, false, false, false, false, false, false, false, false, false] (by kernel_rfl) rfl rfl ⟨HA6.out.rs, HA6.out.rh⟩ (fun hHeld => ?_)
  refine pure_ (i := 0) (N := some 38) (v := ?_) (a' := ?_) #[true, false, false, false, false, false, false, false, false, false] rfl rfl (by kernel_rfl) (fun _ _ _ h => h) (Or.inl ⟨by rfl, ?_⟩) ?_ ?_
  rotate_left
  · intro w'
    go_simp
    with_reducible rfl
  rotate_left
  · simp only [Act.put, List.setIfInBounds_toArray, List.set_cons_zero, List.set_cons_succ, i64_w, i32_w]
    rfl
  refine pure_ (i := 1) (N := some 39) (v := ?_) (a' := ?_) #[true, true, false, false, false, false, false, false, false, false] rfl rfl (by kernel_rfl) (fun _ _ _ h => h) (Or.inl ⟨by rfl, ?_⟩) ?_ ?_
  rotate_left
  · intro w'
    go_simp
    with_reducible rfl
  rotate_left
  · simp only [Act.put, List.setIfInBounds_toArray, List.set_cons_zero, List.set_cons_succ, i64_w, i32_w]
    rfl
  refine pure_ (i := 2) (N := some 40) (v := ?_) (a' := ?_) #[true, true, true, false, false, false, false, false, false, false] rfl rfl (by kernel_rfl) (fun _ _ _ h => h) (Or.inl ⟨by rfl, ?_⟩) ?_ ?_
  rotate_left
  · intro w'
    go_simp
    with_reducible rfl
  rotate_left
  · simp only [Act.put, List.setIfInBounds_toArray, List.set_cons_zero, List.set_cons_succ, i64_w, i32_w]
    rfl
  refine pure_ (i := 4) (N := some 42) (v := ?_) (a' := ?_) #[true, true, true, false, true, false, false, false, false, false] rfl rfl (by kernel_rfl) (fun _ _ _ h => h) (Or.inl ⟨by rfl, ?_⟩) ?_ ?_
  rotate_left
  · intro w'
    go_simp
    with_reducible rfl
  rotate_left
  · simp only [Act.put, List.setIfInBounds_toArray, List.set_cons_zero, List.set_cons_succ, i64_w, i32_w]
    rfl
  refine pure_ (i := 5) (N := some 43) (v := ?_) (a' := ?_) #[true, true, true, false, true, true, false, false, false, false] rfl rfl (by kernel_rfl) (fun _ _ _ h => h) (Or.inl ⟨by rfl, ?_⟩) ?_ ?_
  rotate_left
  · intro w'
    go_simp
    with_reducible rfl
  rotate_left
  · simp only [Act.put, List.setIfInBounds_toArray, List.set_cons_zero, List.set_cons_succ, i64_w, i32_w]
    rfl
  refine pure_ (i := 6) (N := some 44) (v := ?_) (a' := ?_) #[true, true, true, false, true, true, true, false, false, false] rfl rfl (by kernel_rfl) (fun _ _ _ h => h) (Or.inl ⟨by rfl, ?_⟩) ?_ ?_
  rotate_left
  · intro w'
    go_simp
    with_reducible rfl
  rotate_left
  · simp only [Act.put, List.setIfInBounds_toArray, List.set_cons_zero, List.set_cons_succ, i64_w, i32_w]
    rfl
  refine take_ (i := 3) (N := some 41) (v := .agg narrowA) (a' := ?_) #[true, true, true, true, true, true, true, false, false, false] rfl rfl (by kernel_rfl) (fun _ _ _ h => h) (yieldsIf_load_mid (by rfl) 120 (.tmp 40) rfl g2 0 (by rfl) narrowA.toList _ (fun w' h => h.1) Tryd.underlying120 rfl (by kernel_rfl)) hHeld ?_ ?_
  rotate_left
  · simp only [Act.put, List.setIfInBounds_toArray, List.set_cons_zero, List.set_cons_succ, i64_w, i32_w]
    rfl
  refine take_ (i := 7) (N := some 45) (v := .agg (nums .u32 h5).toArray) (a' := ?_) #[true, true, true, true, true, true, true, true, false, false] rfl rfl (by kernel_rfl) (fun _ _ _ h => h) (yieldsIf_load_mid (by rfl) 124 (.tmp 44) rfl g2 17 (by rfl) (nums .u32 h5) _ (fun w' h => h.2) Tryd.underlying124 rfl (by rw [nums_length, HL5.out]; kernel_rfl)) hHeld ?_ ?_
  rotate_left
  · simp only [Act.put, List.setIfInBounds_toArray, List.set_cons_zero, List.set_cons_succ, i64_w, i32_w]
    rfl
  refine one_ (i := 8) (N := some 46) #[true, true, true, true, true, true, true, true, true, false] rfl rfl (by kernel_rfl) (by decide) (fun K hK => ?_)
  refine goes_ Tryd.func82 (by kernel_rfl) rfl #[.agg narrowA, .agg (nums .u32 h5).toArray] (by rfl) rfl rfl (by simp only [List.map_toArray, List.map_cons, List.map_nil]; rfl) ?_
  with_reducible refine (tell_calls h5 HL5.out).mono ?_
  rintro e w7 ⟨v7, rfl, hr, hb⟩
  refine ⟨_, rfl, ?_⟩
  have HA7 := Aside0.mk (HA6.out.below hb)
  have HR7 := Aside0.mk (hr.lower HA6.out.b.size)
  clear hr hb
  refine hK.out _ _ ⟨HA7.out.rs, HA7.out.rh⟩ (fun hHeld => ?_)
  clear hK K
  refine norm_ (a' := ?_) ?_ ?_
  rotate_left
  · show Act.put _ (some 46) _ = _
    simp only [Act.put, List.setIfInBounds_toArray, List.set_cons_zero, List.set_cons_succ, i64_w, i32_w]
    rfl
  refine pure_ (i := 9) (N := some 2) (v := ?_) (a' := ?_) #[true, true, true, true, true, true, true, true, true, true] rfl rfl (by kernel_rfl) (fun _ _ _ h => h) (Or.inl ⟨by rfl, ?_⟩) ?_ ?_
  rotate_left
  · intro w'
    go_simp
    with_reducible rfl
  rotate_left
  · simp only [Act.put, List.setIfInBounds_toArray, List.set_cons_zero, List.set_cons_succ, i64_w, i32_w]
    rfl
  refine done_ (by kernel_rfl) ?_
  clear hHeld
  go_wp2_with (fail)
  go_ret
  exact ⟨v7, rfl, by rw [sumM, HH5.out]; exact HR7.out, HA7.out.b⟩

def digestM (x y : List Int) : List Int :=
  sumM (takeF (takeF begin32L x).1 ((takeF begin32L x).2 ++ y)).1 (takeF (takeF begin32L x).1 ((takeF begin32L x).2 ++ y)).2 (x.length + y.length)
theorem HAt.upd_below {W : World} (h : HAt w0 w g n r hv) (hu : Upd w W (· = g)) : Below w0.heap.size w0 W := Upd.below (F := fun k => w0.heap.size ≤ k) ((Upd.of_below (F := fun k => w0.heap.size ≤ k) h.b).trans hu (fun k hk => .inl (by rw [hk]; exact h.lo))) (fun k hk => hk)
set_option maxHeartbeats 16000000 in
theorem digest_calls (hg0 : Glob w) (A A2 : Option Addr) (c c2 : Nat) (x y : List Int) (hx : C8 w A x) (hy : C8 w A2 y) (hl : x.length + y.length ≤ 1048576) :
    Calls Tryd.prog 45 #[.slice A x.length c, .slice A2 y.length c2] w fun e w' => SumPost w w' (digestM x y) e := by
  have hg := Aside0.mk hg0
  have HX := Aside0.mk (fun W (hW : Below w.heap.size w W) => Kd.C_below hx hW)
  have HY := Aside0.mk (fun W (hW : Below w.heap.size w W) => Kd.C_below hy hW)
  have HL := Aside0.mk hl
  have HT := Aside0.mk (takeF_len begin32L _ x (Nat.le_refl _))
  have HT2 := Aside0.mk (takeF_len (takeF begin32L x).1 _ ((takeF begin32L x).2 ++ y) (Nat.le_refl _))
  clear hx hy hg0 hl
  go_enter Tryd.func45, Tryd.ntmps45
  go_wp2_with (first | (go_at_call 61; (with_reducible refine (new_calls hg.out).mono ?_); rintro e w1 ⟨g, rfl, ha1⟩; have HA1 := Aside0.mk ha1; clear ha1) | (go_at_call 62; (with_reducible refine (write_calls hg.out HA1.out (by decide) A c x (by have := HL.out; omega) (by decide) (fun W hW => HX.out W (HA1.out.upd_below hW))).mono ?_); rintro e w2 ⟨rfl, ha2, _⟩; have HA2 := Aside0.mk (show HAt w w2 g (x.length : Int) (some (takeF begin32L x).2) (takeF begin32L x).1 from by have h := ha2; rw [List.nil_append, Int.zero_add] at h; exact h); clear ha2) | (go_at_call 62; (with_reducible refine (write_calls hg.out HA2.out (by omega) A2 c2 y (by have := HL.out; omega) (by have := HT.out; omega) (fun W hW => HY.out W (HA2.out.upd_below hW))).mono ?_); rintro e w3 ⟨rfl, ha3, _⟩; have HA3 := Aside0.mk (show HAt w w3 g ((x.length + y.length : Nat) : Int) _ _ from by have h := ha3; rw [← Int.natCast_add] at h; exact h); clear ha3) | (go_at_call 63; (with_reducible refine (sum_calls hg.out (x.length + y.length) HL.out HA3.out HT2.out.2).mono ?_); rintro e w4 hs; rcases hs with ⟨v4, rfl, hr4, hb4⟩; have hs := (show SumPost w w4 (digestM x y) (.returned v4) from ⟨v4, rfl, hr4, hb4⟩); clear hr4 hb4))
  go_ret
  exact hs

end Go.Proofs.YtmblnflfklmmkaaDoor.Sh
/- Contracts of package store: number, put. -/
namespace Go.Proofs.YtmblnflfklmmkaaDoor.Sh
open Go.Proofs.YtmblnflfklmmkaaDoor.Dk
open Go.RowKit Go.Proofs.YtmblnflfklmmkaaDoorW.PrintWords Go.Proofs.YtmblnflfklmmkaaDoorW.PrintLast Go.Proofs.YtmblnflfklmmkaaDoorW.PrintMore
set_option linter.unusedVariables false
set_option linter.unusedSimpArgs false
set_option maxRecDepth 30000

variable {w w0 w1 w2 wr : World} {g o c : Nat} {n : Int} {xs : List Int}
/-- One more byte. -/
def num1 (n c : Int) : Int := Go.bits .or .u64 (IntKind.u64.wrap (n * 256)) (IntKind.u64.wrap c)
def numM (xs : List Int) : Int := xs.foldl num1 0
theorem numM_take {i : Nat} (h : i < xs.length) : numM (xs.take (i + 1)) = num1 (numM (xs.take i)) (xs.getD i 0) := by
  unfold numM
  rw [List.take_succ_eq_append_getElem h, List.foldl_append, List.getD_eq_getElem?_getD, List.getElem?_eq_getElem h]
  rfl
set_option maxHeartbeats 16000000 in
theorem number_calls (h : Bys w g o xs) (hx : xs.length ≤ 1000) (hc : xs.length ≤ c) : Calls Tryd.prog 57 #[.slice (some ⟨g, o, none⟩) xs.length c] w fun e w' => e = .returned (.int .u64 (numM xs)) ∧ w = w' := by
  have H := Aside0.mk h
  clear h
  go_enter Tryd.func57, Tryd.ntmps57
  go_wp2_with (fail)
  go_loop [3, 5, 8] (fun v3 v5 v8 => ∃ i : Nat, v8 = .int .i64 i ∧ i ≤ xs.length ∧ v3 = .int .u64 (numM (xs.take i))) (fun v3 v5 v8 => xs.length - (intOf v8).toNat)
  case atStart => exact ⟨0, rfl, Nat.zero_le _, rfl⟩
  case round =>
    obtain ⟨i, rfl, hi, rfl⟩ := hrel
    by_cases hlt : i < xs.length
    · have hq : decide ((i : Int) < (xs.length : Int)) = true := decide_eq_true (by omega)
      obtain ⟨y, hy⟩ : ∃ y, xs.getD i 0 = y := ⟨_, rfl⟩
      obtain ⟨a, ha⟩ : ∃ a, numM (xs.take i) = a := ⟨_, rfl⟩
      have hb := hy ▸ H.out i hlt
      have HN := Aside0.mk (show numM (xs.take (i + 1)) = num1 a y by rw [numM_take hlt, ha, hy])
      rw [ha]
      clear hy ha
      go_wp2_with (fail)
      go_round
      case rel => exact ⟨i + 1, by go_num, by omega, by rw [HN.out]; rfl⟩
      case measure => simp [intOf]; omega
    · obtain rfl : i = xs.length := by omega
      have hq : decide ((xs.length : Int) < (xs.length : Int)) = false := decide_eq_false (by omega)
      have hp : xs.take xs.length = xs := List.take_length
      rw [hp]
      clear hp
      go_wp2_with (fail)
      go_ret
      exact ⟨rfl, rfl⟩
/-- Bytes, the greatest first. -/
def beM : Nat → Int → List Int
  | 0, _ => []
  | m + 1, n => beM m (n / 256) ++ [n % 256]
theorem beM_length : ∀ (m : Nat) (n : Int), (beM m n).length = m
  | 0, _ => rfl
  | m + 1, n => by rw [beM, List.length_append, beM_length m]; rfl
def shN (n : Int) : Nat → Int
  | 0 => n
  | j + 1 => shN n j / 256
def putR (hs : List Int) (o m : Nat) (n : Int) : Nat → List Int
  | 0 => hs
  | j + 1 => (putR hs o m n j).set (o + (m - 1 - j)) (shN n j % 256)
theorem putR_length (hs : List Int) (o m : Nat) (n : Int) : ∀ j, (putR hs o m n j).length = hs.length
  | 0 => rfl
  | j + 1 => by rw [putR, List.length_set]; exact putR_length hs o m n j
theorem shN_nonneg {n : Int} (h : 0 ≤ n) : ∀ j, 0 ≤ shN n j ∧ shN n j ≤ n
  | 0 => ⟨h, Int.le_refl _⟩
  | j + 1 => by have := shN_nonneg h j; rw [shN]; omega
def PutPost (w w' : World) (g t : Nat) (hs : List Int) (e : Ending) : Prop := e = .returned (.tuple #[]) ∧ w'.heap[g]? = some (.cells (nums .u8 hs).toArray t (0, 0)) ∧ Upd w w' (· = g)
set_option maxHeartbeats 16000000 in
theorem put_calls {t : Nat} (hs : List Int) (m : Nat) (hb : w.heap[g]? = some (.cells (nums .u8 hs).toArray t (0, 0))) (hm : o + m ≤ hs.length) (hm1 : 1 ≤ m) (hm2 : m ≤ 1000) (hn : 0 ≤ n) (hn2 : n ≤ 18446744073709551615) :
    Calls Tryd.prog 44 #[.slice (some ⟨g, o, none⟩) m c, .int .u64 n] w fun e w' => PutPost w w' g t (putR hs o m n m) e := by
  have HB := Aside0.mk hb
  have HM := Aside0.mk hm
  have HN := Aside0.mk (shN_nonneg hn)
  have HN2 := Aside0.mk hn2
  clear hb hm hn2
  go_enter Tryd.func44, Tryd.ntmps44
  go_wp2_with (fail)
  go_loopw [1, 4] (fun v1 v4 w' => ∃ j : Nat, v1 = .int .u64 (shN n j) ∧ v4 = .int .i64 ((m : Int) - 1 - j) ∧ j ≤ m ∧ Aside0 (w'.heap[g]? = some (.cells (nums .u8 (putR hs o m n j)).toArray t (0, 0))) ∧ Aside0 (Upd w w' (· = g))) (fun v1 v4 _ => (1 + intOf v4).toNat)
  case atStart => exact ⟨0, rfl, by simp, Nat.zero_le _, HB, ⟨Upd.refl _ _⟩⟩
  case round =>
    clear HB
    obtain ⟨j, rfl, rfl, hj, HB, HU⟩ := hrel
    by_cases hlt : j < m
    · obtain ⟨k, hk⟩ : ∃ k : Nat, k = m - 1 - j := ⟨_, rfl⟩
      have hkj : (m : Int) - 1 - j = k := by omega
      have hkm : (k : Int) < m := by omega
      have HQ := Aside0.mk (show m - 1 - j = k from hk.symm)
      have hc := cell_nums HB.out (i := o + k) (by rw [putR_length]; have := HM.out; omega)
      have hf := free_row HB.out (o + k)
      have hx0 := (HN.out j).1
      have hx1 : shN n j ≤ 18446744073709551615 := by have := (HN.out j).2; have := HN2.out; omega
      obtain ⟨x, hx⟩ : ∃ x, shN n j = x := ⟨_, rfl⟩
      have HX := Lib.hid hx
      rw [hx] at hx0 hx1
      have HS := Aside0.mk (show (wr.setCell ⟨g, o + k, none⟩ (.int .u8 (x % 256))).heap[g]? = some (.cells (nums .u8 (putR hs o m n (j + 1))).toArray t (0, 0)) from by
        have h := put_cell HB.out (o + k) (.int .u8 (x % 256))
        rw [nums_set] at h
        rw [putR, HQ.out, hx]
        exact h)
      have HU2 := Aside0.mk (HU.out.trans (upd_cell wr g (o + k) (.int .u8 (x % 256))) (fun _ h => .inl h))
      have HK2 := Aside0.mk (show (k : Int) - 1 = (m : Int) - 1 - (j + 1 : Nat) by omega)
      rw [hkj, hx]
      clear hkj hk hx
      have h0k : (0 : Int) ≤ k := by omega
      go_wp2_with (fail)
      go_roundw
      case rel => exact ⟨j + 1, by rw [shN, HX.out], congrArg _ HK2.out, by omega, HS, HU2⟩
      case measure => simp [intOf]; omega
    · obtain rfl : j = m := by omega
      have hkj : (j : Int) - 1 - j = -1 := by omega
      rw [hkj]
      clear hkj
      go_wp2_with (fail)
      go_end0
      exact ⟨rfl, HB.out, HU.out⟩

end Go.Proofs.YtmblnflfklmmkaaDoor.Sh
/- Contracts of package disk: Copy. -/
namespace Go.Proofs.YtmblnflfklmmkaaDoor.Dk
open Go.RowKit Go.Proofs.YtmblnflfklmmkaaDoorW.PrintWords Go.Proofs.YtmblnflfklmmkaaDoorW.PrintLast Go.Proofs.YtmblnflfklmmkaaDoorW.PrintMore
set_option linter.unusedVariables false
set_option linter.unusedSimpArgs false
set_option maxRecDepth 30000
def zs60 : Array Value := #[.slice none 0 0, .slice none 0 0, .bool false, .int .i64 0, .int .i64 0, .bool false, .slice none 0 0]
theorem run_alloc60 (w : World) : (Instr.alloc 67 true (.tuple #[])).run Tryd.prog w = .ok (.pointer (some ⟨w.heap.size, 0, none⟩)) (w.alloc (.cells zs60 67)) := by kernel_rfl
theorem size60 : (Tryd.prog.info? 67).map (·.size) = some 7 := by kernel_rfl
theorem zs60_size : zs60.size = 7 := rfl
attribute [irreducible] zs60
variable {w W W1 : World} {B g N : Nat} {F : Nat → Prop} {D : DM} {vs vh vc : Value}
theorem Below.setN (h : Below w.heap.size w W) (j : Nat) (u : Value) : Below w.heap.size w (W.setCell ⟨w.heap.size, j, none⟩ u) :=
  ((Upd.of_below (F := fun _ => False) h).setCell (p := ⟨w.heap.size, j, none⟩) (.inr (Nat.le_refl _)) u).below (fun _ h => h.elim)
theorem blk_grown {cs : Array Value} (hb : W.heap[g]? = some (.cells cs 67 (0, 0))) (hg : W.grownBy W1 none) : W1.heap[g]? = some (.cells cs 67 (0, 0)) := (hg.block g (blk_lt hb) (by simp)).trans hb
theorem below_of_grown (hg : W.grownBy W1 none) : Below W.heap.size W W1 := ⟨hg.os, hg.tape, hg.output, hg.size, fun i hi => hg.block i hi (by simp)⟩
end Go.Proofs.YtmblnflfklmmkaaDoor.Dk
/- Contracts of package disk: need, span. -/
namespace Go.Proofs.YtmblnflfklmmkaaDoor.Dk
open Go.RowKit Go.Proofs.YtmblnflfklmmkaaDoorW.PrintWords Go.Proofs.YtmblnflfklmmkaaDoorW.PrintLast Go.Proofs.YtmblnflfklmmkaaDoorW.PrintMore
set_option linter.unusedVariables false
set_option linter.unusedSimpArgs false
set_option maxRecDepth 30000
variable {w W W1 : World} {B g N : Nat} {F : Nat → Prop} {D : DM} {vs vh vc : Value}
def needM (n : Int) : Int := if 0 < n.tmod 64 then n.tdiv 64 + 1 else n.tdiv 64
theorem tdiv_le (n : Int) (h1 : -9223372036854775808 ≤ n) (h2 : n ≤ 9223372036854775807) : -144115188075855872 ≤ n.tdiv 64 ∧ n.tdiv 64 ≤ 144115188075855871 := by
  rcases Int.lt_or_le n 0 with h | h
  · have : n.tdiv 64 = -((-n).tdiv 64) := by rw [Int.neg_tdiv, Int.neg_neg]
    rw [this, Int.tdiv_eq_ediv_of_nonneg (by omega)]
    omega
  · rw [Int.tdiv_eq_ediv_of_nonneg h]
    omega
set_option maxHeartbeats 2000000 in
theorem need_calls (n : Int) (h1 : -9223372036854775808 ≤ n) (h2 : n ≤ 9223372036854775807) : Calls Tryd.prog 60 #[.int .i64 n] w fun e w' => e = .returned (.int .i64 (needM n)) ∧ w = w' := by
  obtain ⟨t1, t2⟩ := tdiv_le n h1 h2
  by_cases hr : 0 < n.tmod 64
  · have hq := Lib.hid (show needM n = n.tdiv 64 + 1 by simp [needM, hr])
    go_enter Tryd.func60, Tryd.ntmps60
    go_wp2
    go_ret
    exact ⟨by rw [hq.out] <;> rfl, rfl⟩
  · have hq := Lib.hid (show needM n = n.tdiv 64 by simp [needM, hr])
    go_enter Tryd.func60, Tryd.ntmps60
    go_wp2
    go_ret
    exact ⟨by rw [hq.out] <;> rfl, rfl⟩
def spanM (D : DM) (k n : Int) : Int := if D.down = true then 60 else if k < 0 ∨ (D.sec.length : Int) < k ∨ (D.sec.length : Int) - k < needM n then 61 else 0
set_option maxHeartbeats 8000000 in
theorem span_calls (h : DAt w B g F D vs vh vc) (hok : DOk D) (k n : Int) (h1 : -9223372036854775808 ≤ n) (h2 : n ≤ 9223372036854775807) :
    Calls Tryd.prog 59 #[.pointer (some ⟨g, 0, none⟩), .int .i64 k, .int .i64 n] w fun e w' => e = .returned (.int .i64 (spanM D k n)) ∧ ∃ m, w' = w.drewN m := by
  have H := Aside0.mk h
  have N1 := Aside0.mk h1
  have N2 := Aside0.mk h2
  obtain ⟨As, cs, rfl, hsl, _⟩ := Kd.R_reads h.sec
  have h0 := h.c0
  have hn1 := hok.n1
  clear h hok h1 h2 hsl
  cases hd : D.down with
  | true =>
    have hq := Lib.hid (show spanM D k n = 60 by simp [spanM, hd])
    have hr := Lib.hid (show readyM D = 60 by simp [readyM, hd])
    clear hd
    go_enter Tryd.func59, Tryd.ntmps59
    go_wp2_with (first | (go_at_call 36; refine (ready_calls H.out).mono ?_; rintro e w' ⟨rfl, rfl⟩; rw [hr.out]))
    go_ret
    exact ⟨by rw [hq.out] <;> rfl, 0, rfl⟩
  | false =>
    have hr := Lib.hid (show readyM D = 0 by simp [readyM, hd])
    by_cases hk : k < 0
    · have hq := Lib.hid (show spanM D k n = 61 by simp [spanM, hd, hk])
      have tk : decide (k < 0) = true := decide_eq_true hk
      clear hd hk
      go_enter Tryd.func59, Tryd.ntmps59
      go_wp2_with (first | (go_at_call 36; refine (ready_calls H.out).mono ?_; rintro e w' ⟨rfl, rfl⟩; rw [hr.out]))
      refine start_ (n := 23) (S := fun w' => w'.cell? ⟨g, 0, none⟩ = some (.slice As D.sec.length cs)) (ds := []) #[false, false, false, false, false, false, false, false, false, false, false, false, false, false, false, false, false, false, false, false, false, false, false] (by kernel_rfl) rfl rfl (h0) (fun hHeld => ?_)
      refine pure_ (i := 0) (N := some 13) (v := ?_) (a' := ?_) #[true, false, false, false, false, false, false, false, false, false, false, false, false, false, false, false, false, false, false, false, false, false, false] rfl rfl (by kernel_rfl) (fun _ _ _ h => h) (Or.inl ⟨by rfl, ?_⟩) ?_ ?_
      rotate_left
      · intro w'
        go_simp
        with_reducible rfl
      rotate_left
      · simp only [Act.put, List.setIfInBounds_toArray, List.set_cons_zero, List.set_cons_succ, i64_w, i32_w]
        rfl
      refine pure_ (i := 1) (N := some 14) (v := ?_) (a' := ?_) #[true, true, false, false, false, false, false, false, false, false, false, false, false, false, false, false, false, false, false, false, false, false, false] rfl rfl (by kernel_rfl) (fun _ _ _ h => h) (Or.inl ⟨by rfl, ?_⟩) ?_ ?_
      rotate_left
      · intro w'
        go_simp
        with_reducible rfl
      rotate_left
      · simp only [Act.put, List.setIfInBounds_toArray, List.set_cons_zero, List.set_cons_succ, i64_w, i32_w]
        rfl
      refine pure_ (i := 2) (N := some 15) (v := ?_) (a' := ?_) #[true, true, true, false, false, false, false, false, false, false, false, false, false, false, false, false, false, false, false, false, false, false, false] rfl rfl (by kernel_rfl) (fun _ _ _ h => h) (Or.inl ⟨by rfl, ?_⟩) ?_ ?_
      rotate_left
      · intro w'
        go_simp
        with_reducible rfl
      rotate_left
      · simp only [Act.put, List.setIfInBounds_toArray, List.set_cons_zero, List.set_cons_succ, i64_w, i32_w]
        rfl
      refine pure_ (i := 3) (N := some 16) (v := undef) (a' := ?_) #[true, true, true, true, false, false, false, false, false, false, false, false, false, false, false, false, false, false, false, false, false, false, false] rfl rfl (by kernel_rfl) (fun _ _ _ h => h) (Or.inr ⟨by rfl, rfl⟩) ?_ ?_
      rotate_left
      · simp only [Act.put, List.setIfInBounds_toArray, List.set_cons_zero, List.set_cons_succ, i64_w, i32_w]
        rfl
      refine pure_ (i := 4) (N := some 17) (v := undef) (a' := ?_) #[true, true, true, true, true, false, false, false, false, false, false, false, false, false, false, false, false, false, false, false, false, false, false] rfl rfl (by kernel_rfl) (fun _ _ _ h => h) (Or.inr ⟨by rfl, rfl⟩) ?_ ?_
      rotate_left
      · simp only [Act.put, List.setIfInBounds_toArray, List.set_cons_zero, List.set_cons_succ, i64_w, i32_w]
        rfl
      refine pure_ (i := 5) (N := some 18) (v := undef) (a' := ?_) #[true, true, true, true, true, true, false, false, false, false, false, false, false, false, false, false, false, false, false, false, false, false, false] rfl rfl (by kernel_rfl) (fun _ _ _ h => h) (Or.inr ⟨by rfl, rfl⟩) ?_ ?_
      rotate_left
      · simp only [Act.put, List.setIfInBounds_toArray, List.set_cons_zero, List.set_cons_succ, i64_w, i32_w]
        rfl
      refine pure_ (i := 6) (N := some 19) (v := undef) (a' := ?_) #[true, true, true, true, true, true, true, false, false, false, false, false, false, false, false, false, false, false, false, false, false, false, false] rfl rfl (by kernel_rfl) (fun _ _ _ h => h) (Or.inr ⟨by rfl, rfl⟩) ?_ ?_
      rotate_left
      · simp only [Act.put, List.setIfInBounds_toArray, List.set_cons_zero, List.set_cons_succ, i64_w, i32_w]
        rfl
      refine pure_ (i := 7) (N := some 20) (v := undef) (a' := ?_) #[true, true, true, true, true, true, true, true, false, false, false, false, false, false, false, false, false, false, false, false, false, false, false] rfl rfl (by kernel_rfl) (fun _ _ _ h => h) (Or.inr ⟨by rfl, rfl⟩) ?_ ?_
      rotate_left
      · simp only [Act.put, List.setIfInBounds_toArray, List.set_cons_zero, List.set_cons_succ, i64_w, i32_w]
        rfl
      refine pure_ (i := 8) (N := some 21) (v := undef) (a' := ?_) #[true, true, true, true, true, true, true, true, true, false, false, false, false, false, false, false, false, false, false, false, false, false, false] rfl rfl (by kernel_rfl) (fun _ _ _ h => h) (Or.inr ⟨by rfl, rfl⟩) ?_ ?_
      rotate_left
      · simp only [Act.put, List.setIfInBounds_toArray, List.set_cons_zero, List.set_cons_succ, i64_w, i32_w]
        rfl
      refine pure_ (i := 9) (N := some 22) (v := undef) (a' := ?_) #[true, true, true, true, true, true, true, true, true, true, false, false, false, false, false, false, false, false, false, false, false, false, false] rfl rfl (by kernel_rfl) (fun _ _ _ h => h) (Or.inr ⟨by rfl, rfl⟩) ?_ ?_
      rotate_left
      · simp only [Act.put, List.setIfInBounds_toArray, List.set_cons_zero, List.set_cons_succ, i64_w, i32_w]
        rfl
      refine pure_ (i := 10) (N := some 23) (v := ?_) (a' := ?_) #[true, true, true, true, true, true, true, true, true, true, true, false, false, false, false, false, false, false, false, false, false, false, false] rfl rfl (by kernel_rfl) (fun _ _ _ h => h) (Or.inl ⟨by rfl, ?_⟩) ?_ ?_
      rotate_left
      · intro w'
        go_simp
        with_reducible rfl
      rotate_left
      · simp only [Act.put, List.setIfInBounds_toArray, List.set_cons_zero, List.set_cons_succ, i64_w, i32_w]
        rfl
      refine pure_ (i := 11) (N := some 24) (v := ?_) (a' := ?_) #[true, true, true, true, true, true, true, true, true, true, true, true, false, false, false, false, false, false, false, false, false, false, false] rfl rfl (by kernel_rfl) (fun _ _ _ h => h) (Or.inl ⟨by rfl, ?_⟩) ?_ ?_
      rotate_left
      · intro w'
        go_simp
        with_reducible rfl
      rotate_left
      · simp only [Act.put, List.setIfInBounds_toArray, List.set_cons_zero, List.set_cons_succ, i64_w, i32_w]
        rfl
      refine pure_ (i := 12) (N := some 25) (v := undef) (a' := ?_) #[true, true, true, true, true, true, true, true, true, true, true, true, true, false, false, false, false, false, false, false, false, false, false] rfl rfl (by kernel_rfl) (fun _ _ _ h => h) (Or.inr ⟨by rfl, rfl⟩) ?_ ?_
      rotate_left
      · simp only [Act.put, List.setIfInBounds_toArray, List.set_cons_zero, List.set_cons_succ, i64_w, i32_w]
        rfl
      refine pure_ (i := 13) (N := some 26) (v := undef) (a' := ?_) #[true, true, true, true, true, true, true, true, true, true, true, true, true, true, false, false, false, false, false, false, false, false, false] rfl rfl (by kernel_rfl) (fun _ _ _ h => h) (Or.inr ⟨by rfl, rfl⟩) ?_ ?_
      rotate_left
      · simp only [Act.put, List.setIfInBounds_toArray, List.set_cons_zero, List.set_cons_succ, i64_w, i32_w]
        rfl
      refine pure_ (i := 14) (N := some 27) (v := undef) (a' := ?_) #[true, true, true, true, true, true, true, true, true, true, true, true, true, true, true, false, false, false, false, false, false, false, false] rfl rfl (by kernel_rfl) (fun _ _ _ h => h) (Or.inr ⟨by rfl, rfl⟩) ?_ ?_
      rotate_left
      · simp only [Act.put, List.setIfInBounds_toArray, List.set_cons_zero, List.set_cons_succ, i64_w, i32_w]
        rfl
      refine pure_ (i := 15) (N := some 28) (v := undef) (a' := ?_) #[true, true, true, true, true, true, true, true, true, true, true, true, true, true, true, true, false, false, false, false, false, false, false] rfl rfl (by kernel_rfl) (fun _ _ _ h => h) (Or.inr ⟨by rfl, rfl⟩) ?_ ?_
      rotate_left
      · simp only [Act.put, List.setIfInBounds_toArray, List.set_cons_zero, List.set_cons_succ, i64_w, i32_w]
        rfl
      refine pure_ (i := 16) (N := some 29) (v := undef) (a' := ?_) #[true, true, true, true, true, true, true, true, true, true, true, true, true, true, true, true, true, false, false, false, false, false, false] rfl rfl (by kernel_rfl) (fun _ _ _ h => h) (Or.inr ⟨by rfl, rfl⟩) ?_ ?_
      rotate_left
      · simp only [Act.put, List.setIfInBounds_toArray, List.set_cons_zero, List.set_cons_succ, i64_w, i32_w]
        rfl
      refine pure_ (i := 17) (N := some 30) (v := undef) (a' := ?_) #[true, true, true, true, true, true, true, true, true, true, true, true, true, true, true, true, true, true, false, false, false, false, false] rfl rfl (by kernel_rfl) (fun _ _ _ h => h) (Or.inr ⟨by rfl, rfl⟩) ?_ ?_
      rotate_left
      · simp only [Act.put, List.setIfInBounds_toArray, List.set_cons_zero, List.set_cons_succ, i64_w, i32_w]
        rfl
      refine pure_ (i := 18) (N := some 31) (v := undef) (a' := ?_) #[true, true, true, true, true, true, true, true, true, true, true, true, true, true, true, true, true, true, true, false, false, false, false] rfl rfl (by kernel_rfl) (fun _ _ _ h => h) (Or.inr ⟨by rfl, rfl⟩) ?_ ?_
      rotate_left
      · simp only [Act.put, List.setIfInBounds_toArray, List.set_cons_zero, List.set_cons_succ, i64_w, i32_w]
        rfl
      refine pure_ (i := 19) (N := some 32) (v := undef) (a' := ?_) #[true, true, true, true, true, true, true, true, true, true, true, true, true, true, true, true, true, true, true, true, false, false, false] rfl rfl (by kernel_rfl) (fun _ _ _ h => h) (Or.inr ⟨by rfl, rfl⟩) ?_ ?_
      rotate_left
      · simp only [Act.put, List.setIfInBounds_toArray, List.set_cons_zero, List.set_cons_succ, i64_w, i32_w]
        rfl
      refine pure_ (i := 20) (N := some 33) (v := undef) (a' := ?_) #[true, true, true, true, true, true, true, true, true, true, true, true, true, true, true, true, true, true, true, true, true, false, false] rfl rfl (by kernel_rfl) (fun _ _ _ h => h) (Or.inr ⟨by rfl, rfl⟩) ?_ ?_
      rotate_left
      · simp only [Act.put, List.setIfInBounds_toArray, List.set_cons_zero, List.set_cons_succ, i64_w, i32_w]
        rfl
      refine pure_ (i := 21) (N := some 34) (v := undef) (a' := ?_) #[true, true, true, true, true, true, true, true, true, true, true, true, true, true, true, true, true, true, true, true, true, true, false] rfl rfl (by kernel_rfl) (fun _ _ _ h => h) (Or.inr ⟨by rfl, rfl⟩) ?_ ?_
      rotate_left
      · simp only [Act.put, List.setIfInBounds_toArray, List.set_cons_zero, List.set_cons_succ, i64_w, i32_w]
        rfl
      refine pure_ (i := 22) (N := some 35) (v := ?_) (a' := ?_) #[true, true, true, true, true, true, true, true, true, true, true, true, true, true, true, true, true, true, true, true, true, true, true] rfl rfl (by kernel_rfl) (fun _ _ _ h => h) (Or.inl ⟨by rfl, ?_⟩) ?_ ?_
      rotate_left
      · intro w'
        go_simp
        with_reducible rfl
      rotate_left
      · simp only [Act.put, List.setIfInBounds_toArray, List.set_cons_zero, List.set_cons_succ, i64_w, i32_w]
        rfl
      refine done_ (by kernel_rfl) ?_

      go_wp2
      go_ret
      exact ⟨by rw [hq.out] <;> rfl, 1, rfl⟩
    by_cases hk2 : (D.sec.length : Int) < k
    · have hq := Lib.hid (show spanM D k n = 61 by simp [spanM, hd, hk2])
      have tk : decide (k < 0) = false := decide_eq_false hk
      have tk2 : decide ((D.sec.length : Int) < k) = true := decide_eq_true hk2
      clear hd
      go_enter Tryd.func59, Tryd.ntmps59
      go_wp2_with (first | (go_at_call 36; refine (ready_calls H.out).mono ?_; rintro e w' ⟨rfl, rfl⟩; rw [hr.out]))
      refine start_ (n := 23) (S := fun w' => w'.cell? ⟨g, 0, none⟩ = some (.slice As D.sec.length cs)) (ds := []) #[false, false, false, false, false, false, false, false, false, false, false, false, false, false, false, false, false, false, false, false, false, false, false] (by kernel_rfl) rfl rfl (h0) (fun hHeld => ?_)
      refine pure_ (i := 0) (N := some 13) (v := ?_) (a' := ?_) #[true, false, false, false, false, false, false, false, false, false, false, false, false, false, false, false, false, false, false, false, false, false, false] rfl rfl (by kernel_rfl) (fun _ _ _ h => h) (Or.inl ⟨by rfl, ?_⟩) ?_ ?_
      rotate_left
      · intro w'
        go_simp
        with_reducible rfl
      rotate_left
      · simp only [Act.put, List.setIfInBounds_toArray, List.set_cons_zero, List.set_cons_succ, i64_w, i32_w]
        rfl
      refine pure_ (i := 1) (N := some 14) (v := ?_) (a' := ?_) #[true, true, false, false, false, false, false, false, false, false, false, false, false, false, false, false, false, false, false, false, false, false, false] rfl rfl (by kernel_rfl) (fun _ _ _ h => h) (Or.inl ⟨by rfl, ?_⟩) ?_ ?_
      rotate_left
      · intro w'
        go_simp
        with_reducible rfl
      rotate_left
      · simp only [Act.put, List.setIfInBounds_toArray, List.set_cons_zero, List.set_cons_succ, i64_w, i32_w]
        rfl
      refine pure_ (i := 2) (N := some 15) (v := ?_) (a' := ?_) #[true, true, true, false, false, false, false, false, false, false, false, false, false, false, false, false, false, false, false, false, false, false, false] rfl rfl (by kernel_rfl) (fun _ _ _ h => h) (Or.inl ⟨by rfl, ?_⟩) ?_ ?_
      rotate_left
      · intro w'
        go_simp
        with_reducible rfl
      rotate_left
      · simp only [Act.put, List.setIfInBounds_toArray, List.set_cons_zero, List.set_cons_succ, i64_w, i32_w]
        rfl
      refine pure_ (i := 3) (N := some 16) (v := ?_) (a' := ?_) #[true, true, true, true, false, false, false, false, false, false, false, false, false, false, false, false, false, false, false, false, false, false, false] rfl rfl (by kernel_rfl) (fun _ _ _ h => h) (Or.inl ⟨by rfl, ?_⟩) ?_ ?_
      rotate_left
      · intro w'
        go_simp
        with_reducible rfl
      rotate_left
      · simp only [Act.put, List.setIfInBounds_toArray, List.set_cons_zero, List.set_cons_succ, i64_w, i32_w]
        rfl
      refine pure_ (i := 4) (N := some 17) (v := ?_) (a' := ?_) #[true, true, true, true, true, false, false, false, false, false, false, false, false, false, false, false, false, false, false, false, false, false, false] rfl rfl (by kernel_rfl) (fun _ _ _ h => h) (Or.inl ⟨by rfl, ?_⟩) ?_ ?_
      rotate_left
      · intro w'
        go_simp
        with_reducible rfl
      rotate_left
      · simp only [Act.put, List.setIfInBounds_toArray, List.set_cons_zero, List.set_cons_succ, i64_w, i32_w]
        rfl
      refine pure_ (i := 5) (N := some 18) (v := ?_) (a' := ?_) #[true, true, true, true, true, true, false, false, false, false, false, false, false, false, false, false, false, false, false, false, false, false, false] rfl rfl (by kernel_rfl) (fun _ _ _ h => h) (Or.inl ⟨by rfl, ?_⟩) ?_ ?_
      rotate_left
      · intro w'
        go_simp
        with_reducible rfl
      rotate_left
      · simp only [Act.put, List.setIfInBounds_toArray, List.set_cons_zero, List.set_cons_succ, i64_w, i32_w]
        rfl
      refine pure_ (i := 6) (N := some 19) (v := ?_) (a' := ?_) #[true, true, true, true, true, true, true, false, false, false, false, false, false, false, false, false, false, false, false, false, false, false, false] rfl rfl (by kernel_rfl) (fun _ _ _ h => h) (Or.inl ⟨by rfl, ?_⟩) ?_ ?_
      rotate_left
      · intro w'
        go_simp
        with_reducible rfl
      rotate_left
      · simp only [Act.put, List.setIfInBounds_toArray, List.set_cons_zero, List.set_cons_succ, i64_w, i32_w]
        rfl
      refine take_ (i := 7) (N := some 20) (v := ?_) (a' := ?_) #[true, true, true, true, true, true, true, true, false, false, false, false, false, false, false, false, false, false, false, false, false, false, false] rfl rfl (by kernel_rfl) (fun _ _ _ h => h) (Or.inl ⟨by rfl, ?_⟩) hHeld ?_ ?_
      rotate_left
      · intro w' s0
        go_simp
        with_reducible rfl
      rotate_left
      · simp only [Act.put, List.setIfInBounds_toArray, List.set_cons_zero, List.set_cons_succ, i64_w, i32_w]
        rfl
      refine pure_ (i := 8) (N := some 21) (v := ?_) (a' := ?_) #[true, true, true, true, true, true, true, true, true, false, false, false, false, false, false, false, false, false, false, false, false, false, false] rfl rfl (by kernel_rfl) (fun _ _ _ h => h) (Or.inl ⟨by rfl, ?_⟩) ?_ ?_
      rotate_left
      · intro w'
        go_simp
        with_reducible rfl
      rotate_left
      · simp only [Act.put, List.setIfInBounds_toArray, List.set_cons_zero, List.set_cons_succ, i64_w, i32_w]
        rfl
      refine pure_ (i := 9) (N := some 22) (v := ?_) (a' := ?_) #[true, true, true, true, true, true, true, true, true, true, false, false, false, false, false, false, false, false, false, false, false, false, false] rfl rfl (by kernel_rfl) (fun _ _ _ h => h) (Or.inl ⟨by rfl, ?_⟩) ?_ ?_
      rotate_left
      · intro w'
        go_simp
        with_reducible rfl
      rotate_left
      · simp only [Act.put, List.setIfInBounds_toArray, List.set_cons_zero, List.set_cons_succ, i64_w, i32_w]
        rfl
      refine pure_ (i := 10) (N := some 23) (v := ?_) (a' := ?_) #[true, true, true, true, true, true, true, true, true, true, true, false, false, false, false, false, false, false, false, false, false, false, false] rfl rfl (by kernel_rfl) (fun _ _ _ h => h) (Or.inl ⟨by rfl, ?_⟩) ?_ ?_
      rotate_left
      · intro w'
        go_simp
        with_reducible rfl
      rotate_left
      · simp only [Act.put, List.setIfInBounds_toArray, List.set_cons_zero, List.set_cons_succ, i64_w, i32_w]
        rfl
      refine pure_ (i := 11) (N := some 24) (v := ?_) (a' := ?_) #[true, true, true, true, true, true, true, true, true, true, true, true, false, false, false, false, false, false, false, false, false, false, false] rfl rfl (by kernel_rfl) (fun _ _ _ h => h) (Or.inl ⟨by rfl, ?_⟩) ?_ ?_
      rotate_left
      · intro w'
        go_simp
        with_reducible rfl
      rotate_left
      · simp only [Act.put, List.setIfInBounds_toArray, List.set_cons_zero, List.set_cons_succ, i64_w, i32_w]
        rfl
      refine pure_ (i := 12) (N := some 25) (v := undef) (a' := ?_) #[true, true, true, true, true, true, true, true, true, true, true, true, true, false, false, false, false, false, false, false, false, false, false] rfl rfl (by kernel_rfl) (fun _ _ _ h => h) (Or.inr ⟨by rfl, rfl⟩) ?_ ?_
      rotate_left
      · simp only [Act.put, List.setIfInBounds_toArray, List.set_cons_zero, List.set_cons_succ, i64_w, i32_w]
        rfl
      refine pure_ (i := 13) (N := some 26) (v := undef) (a' := ?_) #[true, true, true, true, true, true, true, true, true, true, true, true, true, true, false, false, false, false, false, false, false, false, false] rfl rfl (by kernel_rfl) (fun _ _ _ h => h) (Or.inr ⟨by rfl, rfl⟩) ?_ ?_
      rotate_left
      · simp only [Act.put, List.setIfInBounds_toArray, List.set_cons_zero, List.set_cons_succ, i64_w, i32_w]
        rfl
      refine pure_ (i := 14) (N := some 27) (v := undef) (a' := ?_) #[true, true, true, true, true, true, true, true, true, true, true, true, true, true, true, false, false, false, false, false, false, false, false] rfl rfl (by kernel_rfl) (fun _ _ _ h => h) (Or.inr ⟨by rfl, rfl⟩) ?_ ?_
      rotate_left
      · simp only [Act.put, List.setIfInBounds_toArray, List.set_cons_zero, List.set_cons_succ, i64_w, i32_w]
        rfl
      refine pure_ (i := 15) (N := some 28) (v := undef) (a' := ?_) #[true, true, true, true, true, true, true, true, true, true, true, true, true, true, true, true, false, false, false, false, false, false, false] rfl rfl (by kernel_rfl) (fun _ _ _ h => h) (Or.inr ⟨by rfl, rfl⟩) ?_ ?_
      rotate_left
      · simp only [Act.put, List.setIfInBounds_toArray, List.set_cons_zero, List.set_cons_succ, i64_w, i32_w]
        rfl
      refine pure_ (i := 16) (N := some 29) (v := undef) (a' := ?_) #[true, true, true, true, true, true, true, true, true, true, true, true, true, true, true, true, true, false, false, false, false, false, false] rfl rfl (by kernel_rfl) (fun _ _ _ h => h) (Or.inr ⟨by rfl, rfl⟩) ?_ ?_
      rotate_left
      · simp only [Act.put, List.setIfInBounds_toArray, List.set_cons_zero, List.set_cons_succ, i64_w, i32_w]
        rfl
      refine pure_ (i := 17) (N := some 30) (v := undef) (a' := ?_) #[true, true, true, true, true, true, true, true, true, true, true, true, true, true, true, true, true, true, false, false, false, false, false] rfl rfl (by kernel_rfl) (fun _ _ _ h => h) (Or.inr ⟨by rfl, rfl⟩) ?_ ?_
      rotate_left
      · simp only [Act.put, List.setIfInBounds_toArray, List.set_cons_zero, List.set_cons_succ, i64_w, i32_w]
        rfl
      refine pure_ (i := 18) (N := some 31) (v := undef) (a' := ?_) #[true, true, true, true, true, true, true, true, true, true, true, true, true, true, true, true, true, true, true, false, false, false, false] rfl rfl (by kernel_rfl) (fun _ _ _ h => h) (Or.inr ⟨by rfl, rfl⟩) ?_ ?_
      rotate_left
      · simp only [Act.put, List.setIfInBounds_toArray, List.set_cons_zero, List.set_cons_succ, i64_w, i32_w]
        rfl
      refine pure_ (i := 19) (N := some 32) (v := undef) (a' := ?_) #[true, true, true, true, true, true, true, true, true, true, true, true, true, true, true, true, true, true, true, true, false, false, false] rfl rfl (by kernel_rfl) (fun _ _ _ h => h) (Or.inr ⟨by rfl, rfl⟩) ?_ ?_
      rotate_left
      · simp only [Act.put, List.setIfInBounds_toArray, List.set_cons_zero, List.set_cons_succ, i64_w, i32_w]
        rfl
      refine pure_ (i := 20) (N := some 33) (v := undef) (a' := ?_) #[true, true, true, true, true, true, true, true, true, true, true, true, true, true, true, true, true, true, true, true, true, false, false] rfl rfl (by kernel_rfl) (fun _ _ _ h => h) (Or.inr ⟨by rfl, rfl⟩) ?_ ?_
      rotate_left
      · simp only [Act.put, List.setIfInBounds_toArray, List.set_cons_zero, List.set_cons_succ, i64_w, i32_w]
        rfl
      refine pure_ (i := 21) (N := some 34) (v := undef) (a' := ?_) #[true, true, true, true, true, true, true, true, true, true, true, true, true, true, true, true, true, true, true, true, true, true, false] rfl rfl (by kernel_rfl) (fun _ _ _ h => h) (Or.inr ⟨by rfl, rfl⟩) ?_ ?_
      rotate_left
      · simp only [Act.put, List.setIfInBounds_toArray, List.set_cons_zero, List.set_cons_succ, i64_w, i32_w]
        rfl
      refine pure_ (i := 22) (N := some 35) (v := ?_) (a' := ?_) #[true, true, true, true, true, true, true, true, true, true, true, true, true, true, true, true, true, true, true, true, true, true, true] rfl rfl (by kernel_rfl) (fun _ _ _ h => h) (Or.inl ⟨by rfl, ?_⟩) ?_ ?_
      rotate_left
      · intro w'
        go_simp
        with_reducible rfl
      rotate_left
      · simp only [Act.put, List.setIfInBounds_toArray, List.set_cons_zero, List.set_cons_succ, i64_w, i32_w]
        rfl
      refine done_ (by kernel_rfl) ?_

      go_wp2
      go_ret
      exact ⟨by rw [hq.out] <;> rfl, 1, rfl⟩
    by_cases hk3 : (D.sec.length : Int) - k < needM n
    · have hq := Lib.hid (show spanM D k n = 61 by simp [spanM, hd, hk3])
      have tk : decide (k < 0) = false := decide_eq_false hk
      have tk2 : decide ((D.sec.length : Int) < k) = false := decide_eq_false hk2
      have tk3 : decide (wrap64 ((D.sec.length : Int) - k) < needM n) = true := by rw [show wrap64 ((D.sec.length : Int) - k) = D.sec.length - k by simp only [wrap64]; omega]; exact decide_eq_true hk3
      clear hd hk3
      go_enter Tryd.func59, Tryd.ntmps59
      go_wp2_with (first | (go_at_call 36; refine (ready_calls H.out).mono ?_; rintro e w' ⟨rfl, rfl⟩; rw [hr.out]))
      refine start_ (n := 23) (S := fun w' => w'.cell? ⟨g, 0, none⟩ = some (.slice As D.sec.length cs)) (ds := []) #[false, false, false, false, false, false, false, false, false, false, false, false, false, false, false, false, false, false, false, false, false, false, false] (by kernel_rfl) rfl rfl (h0) (fun hHeld => ?_)
      refine pure_ (i := 0) (N := some 13) (v := ?_) (a' := ?_) #[true, false, false, false, false, false, false, false, false, false, false, false, false, false, false, false, false, false, false, false, false, false, false] rfl rfl (by kernel_rfl) (fun _ _ _ h => h) (Or.inl ⟨by rfl, ?_⟩) ?_ ?_
      rotate_left
      · intro w'
        go_simp
        with_reducible rfl
      rotate_left
      · simp only [Act.put, List.setIfInBounds_toArray, List.set_cons_zero, List.set_cons_succ, i64_w, i32_w]
        rfl
      refine pure_ (i := 1) (N := some 14) (v := ?_) (a' := ?_) #[true, true, false, false, false, false, false, false, false, false, false, false, false, false, false, false, false, false, false, false, false, false, false] rfl rfl (by kernel_rfl) (fun _ _ _ h => h) (Or.inl ⟨by rfl, ?_⟩) ?_ ?_
      rotate_left
      · intro w'
        go_simp
        with_reducible rfl
      rotate_left
      · simp only [Act.put, List.setIfInBounds_toArray, List.set_cons_zero, List.set_cons_succ, i64_w, i32_w]
        rfl
      refine pure_ (i := 2) (N := some 15) (v := ?_) (a' := ?_) #[true, true, true, false, false, false, false, false, false, false, false, false, false, false, false, false, false, false, false, false, false, false, false] rfl rfl (by kernel_rfl) (fun _ _ _ h => h) (Or.inl ⟨by rfl, ?_⟩) ?_ ?_
      rotate_left
      · intro w'
        go_simp
        with_reducible rfl
      rotate_left
      · simp only [Act.put, List.setIfInBounds_toArray, List.set_cons_zero, List.set_cons_succ, i64_w, i32_w]
        rfl
      refine pure_ (i := 3) (N := some 16) (v := ?_) (a' := ?_) #[true, true, true, true, false, false, false, false, false, false, false, false, false, false, false, false, false, false, false, false, false, false, false] rfl rfl (by kernel_rfl) (fun _ _ _ h => h) (Or.inl ⟨by rfl, ?_⟩) ?_ ?_
      rotate_left
      · intro w'
        go_simp
        with_reducible rfl
      rotate_left
      · simp only [Act.put, List.setIfInBounds_toArray, List.set_cons_zero, List.set_cons_succ, i64_w, i32_w]
        rfl
      refine pure_ (i := 4) (N := some 17) (v := ?_) (a' := ?_) #[true, true, true, true, true, false, false, false, false, false, false, false, false, false, false, false, false, false, false, false, false, false, false] rfl rfl (by kernel_rfl) (fun _ _ _ h => h) (Or.inl ⟨by rfl, ?_⟩) ?_ ?_
      rotate_left
      · intro w'
        go_simp
        with_reducible rfl
      rotate_left
      · simp only [Act.put, List.setIfInBounds_toArray, List.set_cons_zero, List.set_cons_succ, i64_w, i32_w]
        rfl
      refine pure_ (i := 5) (N := some 18) (v := ?_) (a' := ?_) #[true, true, true, true, true, true, false, false, false, false, false, false, false, false, false, false, false, false, false, false, false, false, false] rfl rfl (by kernel_rfl) (fun _ _ _ h => h) (Or.inl ⟨by rfl, ?_⟩) ?_ ?_
      rotate_left
      · intro w'
        go_simp
        with_reducible rfl
      rotate_left
      · simp only [Act.put, List.setIfInBounds_toArray, List.set_cons_zero, List.set_cons_succ, i64_w, i32_w]
        rfl
      refine pure_ (i := 6) (N := some 19) (v := ?_) (a' := ?_) #[true, true, true, true, true, true, true, false, false, false, false, false, false, false, false, false, false, false, false, false, false, false, false] rfl rfl (by kernel_rfl) (fun _ _ _ h => h) (Or.inl ⟨by rfl, ?_⟩) ?_ ?_
      rotate_left
      · intro w'
        go_simp
        with_reducible rfl
      rotate_left
      · simp only [Act.put, List.setIfInBounds_toArray, List.set_cons_zero, List.set_cons_succ, i64_w, i32_w]
        rfl
      refine take_ (i := 7) (N := some 20) (v := ?_) (a' := ?_) #[true, true, true, true, true, true, true, true, false, false, false, false, false, false, false, false, false, false, false, false, false, false, false] rfl rfl (by kernel_rfl) (fun _ _ _ h => h) (Or.inl ⟨by rfl, ?_⟩) hHeld ?_ ?_
      rotate_left
      · intro w' s0
        go_simp
        with_reducible rfl
      rotate_left
      · simp only [Act.put, List.setIfInBounds_toArray, List.set_cons_zero, List.set_cons_succ, i64_w, i32_w]
        rfl
      refine pure_ (i := 8) (N := some 21) (v := ?_) (a' := ?_) #[true, true, true, true, true, true, true, true, true, false, false, false, false, false, false, false, false, false, false, false, false, false, false] rfl rfl (by kernel_rfl) (fun _ _ _ h => h) (Or.inl ⟨by rfl, ?_⟩) ?_ ?_
      rotate_left
      · intro w'
        go_simp
        with_reducible rfl
      rotate_left
      · simp only [Act.put, List.setIfInBounds_toArray, List.set_cons_zero, List.set_cons_succ, i64_w, i32_w]
        rfl
      refine pure_ (i := 9) (N := some 22) (v := ?_) (a' := ?_) #[true, true, true, true, true, true, true, true, true, true, false, false, false, false, false, false, false, false, false, false, false, false, false] rfl rfl (by kernel_rfl) (fun _ _ _ h => h) (Or.inl ⟨by rfl, ?_⟩) ?_ ?_
      rotate_left
      · intro w'
        go_simp
        with_reducible rfl
      rotate_left
      · simp only [Act.put, List.setIfInBounds_toArray, List.set_cons_zero, List.set_cons_succ, i64_w, i32_w]
        rfl
      refine pure_ (i := 10) (N := some 23) (v := ?_) (a' := ?_) #[true, true, true, true, true, true, true, true, true, true, true, false, false, false, false, false, false, false, false, false, false, false, false] rfl rfl (by kernel_rfl) (fun _ _ _ h => h) (Or.inl ⟨by rfl, ?_⟩) ?_ ?_
      rotate_left
      · intro w'
        go_simp
        with_reducible rfl
      rotate_left
      · simp only [Act.put, List.setIfInBounds_toArray, List.set_cons_zero, List.set_cons_succ, i64_w, i32_w]
        rfl
      refine pure_ (i := 11) (N := some 24) (v := ?_) (a' := ?_) #[true, true, true, true, true, true, true, true, true, true, true, true, false, false, false, false, false, false, false, false, false, false, false] rfl rfl (by kernel_rfl) (fun _ _ _ h => h) (Or.inl ⟨by rfl, ?_⟩) ?_ ?_
      rotate_left
      · intro w'
        go_simp
        with_reducible rfl
      rotate_left
      · simp only [Act.put, List.setIfInBounds_toArray, List.set_cons_zero, List.set_cons_succ, i64_w, i32_w]
        rfl
      refine pure_ (i := 12) (N := some 25) (v := ?_) (a' := ?_) #[true, true, true, true, true, true, true, true, true, true, true, true, true, false, false, false, false, false, false, false, false, false, false] rfl rfl (by kernel_rfl) (fun _ _ _ h => h) (Or.inl ⟨by rfl, ?_⟩) ?_ ?_
      rotate_left
      · intro w'
        go_simp
        with_reducible rfl
      rotate_left
      · simp only [Act.put, List.setIfInBounds_toArray, List.set_cons_zero, List.set_cons_succ, i64_w, i32_w]
        rfl
      refine pure_ (i := 14) (N := some 27) (v := ?_) (a' := ?_) #[true, true, true, true, true, true, true, true, true, true, true, true, true, false, true, false, false, false, false, false, false, false, false] rfl rfl (by kernel_rfl) (fun _ _ _ h => h) (Or.inl ⟨by rfl, ?_⟩) ?_ ?_
      rotate_left
      · intro w'
        go_simp
        with_reducible rfl
      rotate_left
      · simp only [Act.put, List.setIfInBounds_toArray, List.set_cons_zero, List.set_cons_succ, i64_w, i32_w]
        rfl
      refine pure_ (i := 15) (N := some 28) (v := ?_) (a' := ?_) #[true, true, true, true, true, true, true, true, true, true, true, true, true, false, true, true, false, false, false, false, false, false, false] rfl rfl (by kernel_rfl) (fun _ _ _ h => h) (Or.inl ⟨by rfl, ?_⟩) ?_ ?_
      rotate_left
      · intro w'
        go_simp
        with_reducible rfl
      rotate_left
      · simp only [Act.put, List.setIfInBounds_toArray, List.set_cons_zero, List.set_cons_succ, i64_w, i32_w]
        rfl
      refine pure_ (i := 16) (N := some 29) (v := ?_) (a' := ?_) #[true, true, true, true, true, true, true, true, true, true, true, true, true, false, true, true, true, false, false, false, false, false, false] rfl rfl (by kernel_rfl) (fun _ _ _ h => h) (Or.inl ⟨by rfl, ?_⟩) ?_ ?_
      rotate_left
      · intro w'
        go_simp
        with_reducible rfl
      rotate_left
      · simp only [Act.put, List.setIfInBounds_toArray, List.set_cons_zero, List.set_cons_succ, i64_w, i32_w]
        rfl
      refine pure_ (i := 19) (N := some 32) (v := ?_) (a' := ?_) #[true, true, true, true, true, true, true, true, true, true, true, true, true, false, true, true, true, false, false, true, false, false, false] rfl rfl (by kernel_rfl) (fun _ _ _ h => h) (Or.inl ⟨by rfl, ?_⟩) ?_ ?_
      rotate_left
      · intro w'
        go_simp
        with_reducible rfl
      rotate_left
      · simp only [Act.put, List.setIfInBounds_toArray, List.set_cons_zero, List.set_cons_succ, i64_w, i32_w]
        rfl
      refine take_ (i := 17) (N := some 30) (v := ?_) (a' := ?_) #[true, true, true, true, true, true, true, true, true, true, true, true, true, false, true, true, true, true, false, true, false, false, false] rfl rfl (by kernel_rfl) (fun _ _ _ h => h) (Or.inl ⟨by rfl, ?_⟩) hHeld ?_ ?_
      rotate_left
      · intro w' s0
        go_simp
        with_reducible rfl
      rotate_left
      · simp only [Act.put, List.setIfInBounds_toArray, List.set_cons_zero, List.set_cons_succ, i64_w, i32_w]
        rfl
      refine pure_ (i := 18) (N := some 31) (v := ?_) (a' := ?_) #[true, true, true, true, true, true, true, true, true, true, true, true, true, false, true, true, true, true, true, true, false, false, false] rfl rfl (by kernel_rfl) (fun _ _ _ h => h) (Or.inl ⟨by rfl, ?_⟩) ?_ ?_
      rotate_left
      · intro w'
        go_simp
        with_reducible rfl
      rotate_left
      · simp only [Act.put, List.setIfInBounds_toArray, List.set_cons_zero, List.set_cons_succ, i64_w, i32_w]
        rfl
      refine pure_ (i := 20) (N := some 33) (v := ?_) (a' := ?_) #[true, true, true, true, true, true, true, true, true, true, true, true, true, false, true, true, true, true, true, true, true, false, false] rfl rfl (by kernel_rfl) (fun _ _ _ h => h) (Or.inl ⟨by rfl, ?_⟩) ?_ ?_
      rotate_left
      · intro w'
        go_simp
        with_reducible rfl
      rotate_left
      · simp only [Act.put, List.setIfInBounds_toArray, List.set_cons_zero, List.set_cons_succ, i64_w, i32_w]
        rfl
      refine one_ (i := 13) (N := some 26) #[true, true, true, true, true, true, true, true, true, true, true, true, true, true, true, true, true, true, true, true, true, false, false] rfl rfl (by kernel_rfl) (by decide) (fun K hK => ?_)
      refine goes_ Tryd.func60 (by kernel_rfl) rfl #[.int .i64 n] (by rfl) rfl rfl (by simp only [List.map_toArray, List.map_cons, List.map_nil]; rfl) ?_
      with_reducible refine (need_calls (w := w.drew) n N1.out N2.out).mono ?_
      rintro e w3 ⟨rfl, rfl⟩
      refine ⟨_, rfl, ?_⟩
      refine hK.out _ _ (h0) (fun hHeld => ?_)
      clear hK K
      refine norm_ (a' := ?_) ?_ ?_
      rotate_left
      · show Act.put _ (some 26) _ = _
        simp only [Act.put, List.setIfInBounds_toArray, List.set_cons_zero, List.set_cons_succ, i64_w, i32_w]
        rfl
      refine pure_ (i := 21) (N := some 34) (v := ?_) (a' := ?_) #[true, true, true, true, true, true, true, true, true, true, true, true, true, true, true, true, true, true, true, true, true, true, false] rfl rfl (by kernel_rfl) (fun _ _ _ h => h) (Or.inl ⟨by rfl, ?_⟩) ?_ ?_
      rotate_left
      · intro w'
        go_simp
        with_reducible rfl
      rotate_left
      · simp only [Act.put, List.setIfInBounds_toArray, List.set_cons_zero, List.set_cons_succ, i64_w, i32_w]
        rfl
      refine pure_ (i := 22) (N := some 35) (v := ?_) (a' := ?_) #[true, true, true, true, true, true, true, true, true, true, true, true, true, true, true, true, true, true, true, true, true, true, true] rfl rfl (by kernel_rfl) (fun _ _ _ h => h) (Or.inl ⟨by rfl, ?_⟩) ?_ ?_
      rotate_left
      · intro w'
        go_simp
        with_reducible rfl
      rotate_left
      · simp only [Act.put, List.setIfInBounds_toArray, List.set_cons_zero, List.set_cons_succ, i64_w, i32_w]
        rfl
      refine done_ (by kernel_rfl) ?_

      go_wp2
      go_ret
      exact ⟨by rw [hq.out] <;> rfl, 1, rfl⟩
    · have hq := Lib.hid (show spanM D k n = 0 by simp [spanM, hd, hk, hk2, hk3])
      have tk : decide (k < 0) = false := decide_eq_false hk
      have tk2 : decide ((D.sec.length : Int) < k) = false := decide_eq_false hk2
      have tk3 : decide (wrap64 ((D.sec.length : Int) - k) < needM n) = false := by rw [show wrap64 ((D.sec.length : Int) - k) = D.sec.length - k by simp only [wrap64]; omega]; exact decide_eq_false hk3
      clear hd hk3
      go_enter Tryd.func59, Tryd.ntmps59
      go_wp2_with (first | (go_at_call 36; refine (ready_calls H.out).mono ?_; rintro e w' ⟨rfl, rfl⟩; rw [hr.out]))
      refine start_ (n := 23) (S := fun w' => w'.cell? ⟨g, 0, none⟩ = some (.slice As D.sec.length cs)) (ds := []) #[false, false, false, false, false, false, false, false, false, false, false, false, false, false, false, false, false, false, false, false, false, false, false] (by kernel_rfl) rfl rfl (h0) (fun hHeld => ?_)
      refine pure_ (i := 0) (N := some 13) (v := ?_) (a' := ?_) #[true, false, false, false, false, false, false, false, false, false, false, false, false, false, false, false, false, false, false, false, false, false, false] rfl rfl (by kernel_rfl) (fun _ _ _ h => h) (Or.inl ⟨by rfl, ?_⟩) ?_ ?_
      rotate_left
      · intro w'
        go_simp
        with_reducible rfl
      rotate_left
      · simp only [Act.put, List.setIfInBounds_toArray, List.set_cons_zero, List.set_cons_succ, i64_w, i32_w]
        rfl
      refine pure_ (i := 1) (N := some 14) (v := ?_) (a' := ?_) #[true, true, false, false, false, false, false, false, false, false, false, false, false, false, false, false, false, false, false, false, false, false, false] rfl rfl (by kernel_rfl) (fun _ _ _ h => h) (Or.inl ⟨by rfl, ?_⟩) ?_ ?_
      rotate_left
      · intro w'
        go_simp
        with_reducible rfl
      rotate_left
      · simp only [Act.put, List.setIfInBounds_toArray, List.set_cons_zero, List.set_cons_succ, i64_w, i32_w]
        rfl
      refine pure_ (i := 2) (N := some 15) (v := ?_) (a' := ?_) #[true, true, true, false, false, false, false, false, false, false, false, false, false, false, false, false, false, false, false, false, false, false, false] rfl rfl (by kernel_rfl) (fun _ _ _ h => h) (Or.inl ⟨by rfl, ?_⟩) ?_ ?_
      rotate_left
      · intro w'
        go_simp
        with_reducible rfl
      rotate_left
      · simp only [Act.put, List.setIfInBounds_toArray, List.set_cons_zero, List.set_cons_succ, i64_w, i32_w]
        rfl
      refine pure_ (i := 3) (N := some 16) (v := ?_) (a' := ?_) #[true, true, true, true, false, false, false, false, false, false, false, false, false, false, false, false, false, false, false, false, false, false, false] rfl rfl (by kernel_rfl) (fun _ _ _ h => h) (Or.inl ⟨by rfl, ?_⟩) ?_ ?_
      rotate_left
      · intro w'
        go_simp
        with_reducible rfl
      rotate_left
      · simp only [Act.put, List.setIfInBounds_toArray, List.set_cons_zero, List.set_cons_succ, i64_w, i32_w]
        rfl
      refine pure_ (i := 4) (N := some 17) (v := ?_) (a' := ?_) #[true, true, true, true, true, false, false, false, false, false, false, false, false, false, false, false, false, false, false, false, false, false, false] rfl rfl (by kernel_rfl) (fun _ _ _ h => h) (Or.inl ⟨by rfl, ?_⟩) ?_ ?_
      rotate_left
      · intro w'
        go_simp
        with_reducible rfl
      rotate_left
      · simp only [Act.put, List.setIfInBounds_toArray, List.set_cons_zero, List.set_cons_succ, i64_w, i32_w]
        rfl
      refine pure_ (i := 5) (N := some 18) (v := ?_) (a' := ?_) #[true, true, true, true, true, true, false, false, false, false, false, false, false, false, false, false, false, false, false, false, false, false, false] rfl rfl (by kernel_rfl) (fun _ _ _ h => h) (Or.inl ⟨by rfl, ?_⟩) ?_ ?_
      rotate_left
      · intro w'
        go_simp
        with_reducible rfl
      rotate_left
      · simp only [Act.put, List.setIfInBounds_toArray, List.set_cons_zero, List.set_cons_succ, i64_w, i32_w]
        rfl
      refine pure_ (i := 6) (N := some 19) (v := ?_) (a' := ?_) #[true, true, true, true, true, true, true, false, false, false, false, false, false, false, false, false, false, false, false, false, false, false, false] rfl rfl (by kernel_rfl) (fun _ _ _ h => h) (Or.inl ⟨by rfl, ?_⟩) ?_ ?_
      rotate_left
      · intro w'
        go_simp
        with_reducible rfl
      rotate_left
      · simp only [Act.put, List.setIfInBounds_toArray, List.set_cons_zero, List.set_cons_succ, i64_w, i32_w]
        rfl
      refine take_ (i := 7) (N := some 20) (v := ?_) (a' := ?_) #[true, true, true, true, true, true, true, true, false, false, false, false, false, false, false, false, false, false, false, false, false, false, false] rfl rfl (by kernel_rfl) (fun _ _ _ h => h) (Or.inl ⟨by rfl, ?_⟩) hHeld ?_ ?_
      rotate_left
      · intro w' s0
        go_simp
        with_reducible rfl
      rotate_left
      · simp only [Act.put, List.setIfInBounds_toArray, List.set_cons_zero, List.set_cons_succ, i64_w, i32_w]
        rfl
      refine pure_ (i := 8) (N := some 21) (v := ?_) (a' := ?_) #[true, true, true, true, true, true, true, true, true, false, false, false, false, false, false, false, false, false, false, false, false, false, false] rfl rfl (by kernel_rfl) (fun _ _ _ h => h) (Or.inl ⟨by rfl, ?_⟩) ?_ ?_
      rotate_left
      · intro w'
        go_simp
        with_reducible rfl
      rotate_left
      · simp only [Act.put, List.setIfInBounds_toArray, List.set_cons_zero, List.set_cons_succ, i64_w, i32_w]
        rfl
      refine pure_ (i := 9) (N := some 22) (v := ?_) (a' := ?_) #[true, true, true, true, true, true, true, true, true, true, false, false, false, false, false, false, false, false, false, false, false, false, false] rfl rfl (by kernel_rfl) (fun _ _ _ h => h) (Or.inl ⟨by rfl, ?_⟩) ?_ ?_
      rotate_left
      · intro w'
        go_simp
        with_reducible rfl
      rotate_left
      · simp only [Act.put, List.setIfInBounds_toArray, List.set_cons_zero, List.set_cons_succ, i64_w, i32_w]
        rfl
      refine pure_ (i := 10) (N := some 23) (v := ?_) (a' := ?_) #[true, true, true, true, true, true, true, true, true, true, true, false, false, false, false, false, false, false, false, false, false, false, false] rfl rfl (by kernel_rfl) (fun _ _ _ h => h) (Or.inl ⟨by rfl, ?_⟩) ?_ ?_
      rotate_left
      · intro w'
        go_simp
        with_reducible rfl
      rotate_left
      · simp only [Act.put, List.setIfInBounds_toArray, List.set_cons_zero, List.set_cons_succ, i64_w, i32_w]
        rfl
      refine pure_ (i := 11) (N := some 24) (v := ?_) (a' := ?_) #[true, true, true, true, true, true, true, true, true, true, true, true, false, false, false, false, false, false, false, false, false, false, false] rfl rfl (by kernel_rfl) (fun _ _ _ h => h) (Or.inl ⟨by rfl, ?_⟩) ?_ ?_
      rotate_left
      · intro w'
        go_simp
        with_reducible rfl
      rotate_left
      · simp only [Act.put, List.setIfInBounds_toArray, List.set_cons_zero, List.set_cons_succ, i64_w, i32_w]
        rfl
      refine pure_ (i := 12) (N := some 25) (v := ?_) (a' := ?_) #[true, true, true, true, true, true, true, true, true, true, true, true, true, false, false, false, false, false, false, false, false, false, false] rfl rfl (by kernel_rfl) (fun _ _ _ h => h) (Or.inl ⟨by rfl, ?_⟩) ?_ ?_
      rotate_left
      · intro w'
        go_simp
        with_reducible rfl
      rotate_left
      · simp only [Act.put, List.setIfInBounds_toArray, List.set_cons_zero, List.set_cons_succ, i64_w, i32_w]
        rfl
      refine pure_ (i := 14) (N := some 27) (v := ?_) (a' := ?_) #[true, true, true, true, true, true, true, true, true, true, true, true, true, false, true, false, false, false, false, false, false, false, false] rfl rfl (by kernel_rfl) (fun _ _ _ h => h) (Or.inl ⟨by rfl, ?_⟩) ?_ ?_
      rotate_left
      · intro w'
        go_simp
        with_reducible rfl
      rotate_left
      · simp only [Act.put, List.setIfInBounds_toArray, List.set_cons_zero, List.set_cons_succ, i64_w, i32_w]
        rfl
      refine pure_ (i := 15) (N := some 28) (v := ?_) (a' := ?_) #[true, true, true, true, true, true, true, true, true, true, true, true, true, false, true, true, false, false, false, false, false, false, false] rfl rfl (by kernel_rfl) (fun _ _ _ h => h) (Or.inl ⟨by rfl, ?_⟩) ?_ ?_
      rotate_left
      · intro w'
        go_simp
        with_reducible rfl
      rotate_left
      · simp only [Act.put, List.setIfInBounds_toArray, List.set_cons_zero, List.set_cons_succ, i64_w, i32_w]
        rfl
      refine pure_ (i := 16) (N := some 29) (v := ?_) (a' := ?_) #[true, true, true, true, true, true, true, true, true, true, true, true, true, false, true, true, true, false, false, false, false, false, false] rfl rfl (by kernel_rfl) (fun _ _ _ h => h) (Or.inl ⟨by rfl, ?_⟩) ?_ ?_
      rotate_left
      · intro w'
        go_simp
        with_reducible rfl
      rotate_left
      · simp only [Act.put, List.setIfInBounds_toArray, List.set_cons_zero, List.set_cons_succ, i64_w, i32_w]
        rfl
      refine pure_ (i := 19) (N := some 32) (v := ?_) (a' := ?_) #[true, true, true, true, true, true, true, true, true, true, true, true, true, false, true, true, true, false, false, true, false, false, false] rfl rfl (by kernel_rfl) (fun _ _ _ h => h) (Or.inl ⟨by rfl, ?_⟩) ?_ ?_
      rotate_left
      · intro w'
        go_simp
        with_reducible rfl
      rotate_left
      · simp only [Act.put, List.setIfInBounds_toArray, List.set_cons_zero, List.set_cons_succ, i64_w, i32_w]
        rfl
      refine take_ (i := 17) (N := some 30) (v := ?_) (a' := ?_) #[true, true, true, true, true, true, true, true, true, true, true, true, true, false, true, true, true, true, false, true, false, false, false] rfl rfl (by kernel_rfl) (fun _ _ _ h => h) (Or.inl ⟨by rfl, ?_⟩) hHeld ?_ ?_
      rotate_left
      · intro w' s0
        go_simp
        with_reducible rfl
      rotate_left
      · simp only [Act.put, List.setIfInBounds_toArray, List.set_cons_zero, List.set_cons_succ, i64_w, i32_w]
        rfl
      refine pure_ (i := 18) (N := some 31) (v := ?_) (a' := ?_) #[true, true, true, true, true, true, true, true, true, true, true, true, true, false, true, true, true, true, true, true, false, false, false] rfl rfl (by kernel_rfl) (fun _ _ _ h => h) (Or.inl ⟨by rfl, ?_⟩) ?_ ?_
      rotate_left
      · intro w'
        go_simp
        with_reducible rfl
      rotate_left
      · simp only [Act.put, List.setIfInBounds_toArray, List.set_cons_zero, List.set_cons_succ, i64_w, i32_w]
        rfl
      refine pure_ (i := 20) (N := some 33) (v := ?_) (a' := ?_) #[true, true, true, true, true, true, true, true, true, true, true, true, true, false, true, true, true, true, true, true, true, false, false] rfl rfl (by kernel_rfl) (fun _ _ _ h => h) (Or.inl ⟨by rfl, ?_⟩) ?_ ?_
      rotate_left
      · intro w'
        go_simp
        with_reducible rfl
      rotate_left
      · simp only [Act.put, List.setIfInBounds_toArray, List.set_cons_zero, List.set_cons_succ, i64_w, i32_w]
        rfl
      refine one_ (i := 13) (N := some 26) #[true, true, true, true, true, true, true, true, true, true, true, true, true, true, true, true, true, true, true, true, true, false, false] rfl rfl (by kernel_rfl) (by decide) (fun K hK => ?_)
      refine goes_ Tryd.func60 (by kernel_rfl) rfl #[.int .i64 n] (by rfl) rfl rfl (by simp only [List.map_toArray, List.map_cons, List.map_nil]; rfl) ?_
      with_reducible refine (need_calls (w := w.drew) n N1.out N2.out).mono ?_
      rintro e w3 ⟨rfl, rfl⟩
      refine ⟨_, rfl, ?_⟩
      refine hK.out _ _ (h0) (fun hHeld => ?_)
      clear hK K
      refine norm_ (a' := ?_) ?_ ?_
      rotate_left
      · show Act.put _ (some 26) _ = _
        simp only [Act.put, List.setIfInBounds_toArray, List.set_cons_zero, List.set_cons_succ, i64_w, i32_w]
        rfl
      refine pure_ (i := 21) (N := some 34) (v := ?_) (a' := ?_) #[true, true, true, true, true, true, true, true, true, true, true, true, true, true, true, true, true, true, true, true, true, true, false] rfl rfl (by kernel_rfl) (fun _ _ _ h => h) (Or.inl ⟨by rfl, ?_⟩) ?_ ?_
      rotate_left
      · intro w'
        go_simp
        with_reducible rfl
      rotate_left
      · simp only [Act.put, List.setIfInBounds_toArray, List.set_cons_zero, List.set_cons_succ, i64_w, i32_w]
        rfl
      refine pure_ (i := 22) (N := some 35) (v := ?_) (a' := ?_) #[true, true, true, true, true, true, true, true, true, true, true, true, true, true, true, true, true, true, true, true, true, true, true] rfl rfl (by kernel_rfl) (fun _ _ _ h => h) (Or.inl ⟨by rfl, ?_⟩) ?_ ?_
      rotate_left
      · intro w'
        go_simp
        with_reducible rfl
      rotate_left
      · simp only [Act.put, List.setIfInBounds_toArray, List.set_cons_zero, List.set_cons_succ, i64_w, i32_w]
        rfl
      refine done_ (by kernel_rfl) ?_

      go_wp2
      go_ret
      exact ⟨by rw [hq.out] <;> rfl, 1, rfl⟩
end Go.Proofs.YtmblnflfklmmkaaDoor.Dk
/- Contracts of package disk: Load. -/
namespace Go.Proofs.YtmblnflfklmmkaaDoor.Dk
open Go.RowKit Go.Proofs.YtmblnflfklmmkaaDoorW.PrintWords Go.Proofs.YtmblnflfklmmkaaDoorW.PrintLast Go.Proofs.YtmblnflfklmmkaaDoorW.PrintMore
set_option linter.unusedVariables false
set_option linter.unusedSimpArgs false
set_option maxRecDepth 30000
variable {w W W1 : World} {B g N : Nat} {F : Nat → Prop} {D : DM} {vs vh vc : Value}
def readsTo (D : DM) (k : Int) : Nat → List Int
  | 0 => []
  | i + 1 => readsTo D k i ++ readM D (k + i)
/-- Load's errno. -/
def loadE (D : DM) (k n : Int) : Int := if D.down = true then 60 else if n < 0 then 1 else spanM D k n
theorem need_nat (n0 : Nat) : needM n0 = ((n0 + 63) / 64 : Nat) := by
  unfold needM
  rw [Int.tmod_eq_emod_of_nonneg (by omega), Int.tdiv_eq_ediv_of_nonneg (by omega)]
  split <;> omega
theorem spanM_zero {k n : Int} (h : spanM D k n = 0) : D.down = false ∧ 0 ≤ k ∧ k ≤ (D.sec.length : Int) ∧ needM n ≤ (D.sec.length : Int) - k := by
  unfold spanM at h
  split at h
  · omega
  · rename_i hd
    split at h
    · omega
    · refine ⟨by simpa using hd, by omega, by omega, by omega⟩
theorem read_length (h : DAt w B g F D vs vh vc) (k : Int) (hk : atM D k = 0) : (readM D k).length = 64 := by
  obtain ⟨As, cs, rfl, hsl, _⟩ := Kd.R_reads h.sec
  obtain ⟨Ah, ch, rfl, hhl, _⟩ := Kd.R_reads h.held
  have hkb : 0 ≤ k ∧ k < (D.sec.length : Int) := by
    unfold atM at hk
    split at hk
    · omega
    · split at hk
      · omega
      · omega
  exact readTo_length ((sec_load h.sec k.toNat (by omega)).elim fun _ h => h.2.1) (fun j hj => (held_load h.held j hj).elim fun _ h => h.2.1) _ (Nat.le_refl _)
theorem readsTo_length (h : DAt w B g F D vs vh vc) (k : Int) (N : Nat) (hk : ∀ i : Nat, i < N → atM D (k + i) = 0) : ∀ i, i ≤ N → (readsTo D k i).length = i * 64
  | 0, _ => rfl
  | i + 1, hi => by
    rw [readsTo, List.length_append, readsTo_length h k N hk i (by omega), read_length h _ (hk i (by omega))]
    omega
set_option maxHeartbeats 8000000 in
theorem Load_fails (h : DAt w B g F D vs vh vc) (hok : DOk D) (k n : Int) (h1 : -9223372036854775808 ≤ n) (h2 : n ≤ 9223372036854775807) (he : loadE D k n ≠ 0) :
    Calls Tryd.prog 58 #[.pointer (some ⟨g, 0, none⟩), .int .i64 k, .int .i64 n] w fun e w' => e = .returned (.tuple #[.slice none 0 0, .int .i64 (loadE D k n)]) ∧ ∃ m, w' = w.drewN m := by
  have H := Aside0.mk h
  have HOK := Aside0.mk hok
  have N1 := Aside0.mk h1
  have N2 := Aside0.mk h2
  clear h hok h1 h2
  cases hd : D.down with
  | true =>
    have hq := Lib.hid (show loadE D k n = 60 by simp [loadE, hd])
    have hr := Lib.hid (show readyM D = 60 by simp [readyM, hd])
    clear hd he
    go_enter Tryd.func58, Tryd.ntmps58
    go_wp2_with (first | (go_at_call 36; refine (ready_calls H.out).mono ?_; rintro e w' ⟨rfl, rfl⟩; rw [hr.out]))
    refine bodyPost_ret (results_tmp2 rfl _ _ _) rfl ?_
    exact ⟨by rw [hq.out] <;> rfl, 0, rfl⟩
  | false =>
    have hr := Lib.hid (show readyM D = 0 by simp [readyM, hd])
    by_cases hn : n < 0
    · have hq := Lib.hid (show loadE D k n = 1 by simp [loadE, hd, hn])
      clear hd he
      go_enter Tryd.func58, Tryd.ntmps58
      go_wp2_with (first | (go_at_call 36; refine (ready_calls H.out).mono ?_; rintro e w' ⟨rfl, rfl⟩; rw [hr.out]))
      refine bodyPost_ret (results_tmp2 rfl _ _ _) rfl ?_
      exact ⟨by rw [hq.out] <;> rfl, 0, rfl⟩
    · have hq := Lib.hid (show loadE D k n = spanM D k n by simp [loadE, hd, hn])
      rw [hq.out] at he
      obtain ⟨q, hq0⟩ : ∃ q, spanM D k n = q := ⟨_, rfl⟩
      have HQ := Lib.hid hq0
      rw [hq0] at he
      clear hd hq0
      go_enter Tryd.func58, Tryd.ntmps58
      go_wp2_with (first | (go_at_call 36; refine (ready_calls H.out).mono ?_; rintro e w' ⟨rfl, rfl⟩; rw [hr.out]) | (go_at_call 59; refine (span_calls H.out HOK.out k n N1.out N2.out).mono ?_; rintro e w' ⟨rfl, m, rfl⟩; rw [HQ.out]))
      refine bodyPost_ret (results_tmp2 rfl _ _ _) rfl ?_
      exact ⟨by rw [hq.out, HQ.out] <;> rfl, _, rfl⟩
set_option maxHeartbeats 8000000 in
theorem Load_own (h : DAt w B g F D vs vh vc) (hok : DOk D) (k : Int) (n0 : Nat) (h2 : (n0 : Int) ≤ 9223372036854775807) (he : loadE D k n0 = 0) :
    Calls Tryd.prog 58 #[.pointer (some ⟨g, 0, none⟩), .int .i64 k, .int .i64 n0] w fun e w' => ∃ A, e = .returned (.tuple #[.slice A n0 n0, .int .i64 0]) ∧ Kd.C (Kd.int .u8) w' A n0 ((readsTo D k ((n0 + 63) / 64)).take n0) ∧ Below w.heap.size w w' ∧ ∀ a, A = some a → w.heap.size ≤ a.block ∧ a.block < w'.heap.size := by
  have H := Aside0.mk h
  have HOK := Aside0.mk hok
  have N2 := Aside0.mk h2
  have hd : D.down = false := by
    cases hd : D.down
    · rfl
    · simp [loadE, hd] at he
  have hsp : spanM D k n0 = 0 := by
    simp only [loadE, hd] at he
    rw [if_neg (by simp), if_neg (by omega)] at he
    exact he
  obtain ⟨_, hk0, hk1, hk2⟩ := spanM_zero hsp
  obtain ⟨k0, rfl⟩ : ∃ n : Nat, k = n := ⟨k.toNat, by omega⟩
  rw [need_nat] at hk2
  obtain ⟨M, hM⟩ : ∃ M, M = (n0 + 63) / 64 := ⟨_, rfl⟩
  rw [← hM] at hk2 ⊢
  have hn1 := hok.n1
  have hkM : k0 + M ≤ D.sec.length := by omega
  have hat : ∀ i : Nat, i < M → atM D ((k0 : Int) + i) = 0 := fun i hi => by
    unfold atM
    rw [if_neg (by simp [hd]), if_neg (by omega)]
  have HAT := Aside0.mk hat
  have hr := Lib.hid (show readyM D = 0 by simp [readyM, hd])
  have HSP := Lib.hid hsp
  have HND := Lib.hid (show needM n0 = (M : Int) by rw [need_nat, hM])
  have hM1 : n0 ≤ M * 64 := by omega
  have hM2 : M ≤ 16384 := by omega
  have hn0 : n0 ≤ 1048576 := by omega
  clear h hok h2 he hsp hat hk0 hk1 hk2 hd hM
  go_enter Tryd.func58, Tryd.ntmps58
  go_wp2_with (first | (go_at_call 36; refine (ready_calls H.out).mono ?_; rintro e w' ⟨rfl, rfl⟩; rw [hr.out]) | (go_at_call 59; refine (span_calls H.out HOK.out k0 n0 (by omega) N2.out).mono ?_; rintro e w' ⟨rfl, m, rfl⟩; rw [HSP.out]) | (go_at_call 60; refine (need_calls n0 (by omega) N2.out).mono ?_; rintro e w' ⟨rfl, rfl⟩; rw [HND.out]))
  go_loopw [10, 11, 12, 13, 30, 33] (fun v10 v11 v12 v13 v30 v33 w' => ∃ i : Nat, v30 = .int .i64 i ∧ i ≤ M ∧ Aside0 (Kd.R (Kd.int .u8) 5 w' w.heap.size (fun k => w.heap.size ≤ k) v10 (readsTo D k0 i)) ∧ Aside0 (Below w.heap.size w w')) (fun _ _ _ _ v30 _ _ => M - (intOf v30).toNat)
  case atStart => exact ⟨0, rfl, Nat.zero_le _, ⟨Kd.R_nil _ _ _ _ _⟩, ⟨pw_below_drewN (Below.refl _ _) _⟩⟩
  case round =>
    obtain ⟨i, rfl, hi, HR, HV⟩ := hrel
    by_cases hlt : i < M
    · have HD := Aside0.mk (H.out.below HV.out)
      have HATi := Aside0.mk (HAT.out i hlt)
      have HP := Aside0.mk (show readsTo D k0 (i + 1) = readsTo D k0 i ++ readM D ((k0 : Int) + i) by rw [readsTo])
      have HLR := Aside0.mk (readsTo_length HD.out k0 M HAT.out i hi)
      go_wp2_with (first | (go_at_call 56; refine (Read_calls HD.out HOK.out ((k0 : Int) + i) HATi.out).mono ?_; rintro e w3 ⟨rfl, h64, hb3, hB3⟩; have HB3 := Aside0.mk hB3; have HV3 := Aside0.mk (Below.trans HV.out (Below.mono HB3.out HV.out.size)); have HRW := Aside0.mk (Kd.R_below HR.out HB3.out); have HC := C_block hb3 (by omega); rw [h64] at HC; have HC' := Aside0.mk HC; clear h64 hb3 hB3 HC) | ((with_reducible refine gate_builtin (b := .append) (xs := #[.tmp 41, .tmp 42]) rfl ?_); at_builtin; refine Kd.R_append_rows (Kd.int .u8) (Rr := (Kd.int .u8).K wr) (w0 := w) w.heap.size rfl (.tmp 41) (.tmp 42) 22 5 (.int .u8 0) 1 rfl Tryd.underlying22 info5 rfl (by decide) (by omega) _ (readsTo D k0 i) (readM D ((k0 : Int) + i)) (some ⟨wr.heap.size, 0, none⟩) 64 64 (fun k => w.heap.size ≤ k) (fun _ => False) rfl rfl HRW.out HC'.out (fun _ _ h => h) (fun _ h => h.elim) (fun _ h => Nat.le_trans HV3.out.size h) HV3.out HV3.out.size ?aL ?_; (case aL => rw [HLR.out]; omega); intro v1 w1 hr1 hb1 hg1 _; have HR1 := Aside0.mk hr1; have HB1 := Aside0.mk hb1; clear hr1 hb1 hg1))
      go_roundw
      case rel => exact ⟨i + 1, by go_num, by omega, ⟨by rw [HP.out]; exact HR1.out⟩, HB1⟩
      case measure => simp [intOf]; omega
    · obtain rfl : i = M := by omega
      have HLR := readsTo_length (H.out.below HV.out) k0 i HAT.out i hi
      obtain ⟨A1, c1, rfl, hc1, hC1⟩ := Kd.R_reads HR.out
      rw [HLR] at hc1
      have HC1 := Aside0.mk hC1
      have HOW := Aside0.mk (show ∀ a, A1 = some a → w.heap.size ≤ a.block ∧ a.block < wr.heap.size from fun a ha => by
        subst ha
        exact ⟨HR.out.1 a.block rfl, Kd.R_lt HR.out a.block rfl⟩)
      have HL := Aside0.mk HLR
      clear hC1
      simp only [HLR]
      clear HLR
      go_wp2
      refine bodyPost_ret (results_tmp2 rfl _ _ _) rfl ?_
      have hC := C_take HC1.out n0
      rw [show ((readsTo D (k0 : Int) i).take n0).length = n0 by rw [List.length_take, HL.out]; omega] at hC
      exact ⟨A1, rfl, hC, HV.out, HOW.out⟩
theorem Load_calls (h : DAt w B g F D vs vh vc) (hok : DOk D) (k : Int) (n0 : Nat) (h2 : (n0 : Int) ≤ 9223372036854775807) (he : loadE D k n0 = 0) :
    Calls Tryd.prog 58 #[.pointer (some ⟨g, 0, none⟩), .int .i64 k, .int .i64 n0] w fun e w' => ∃ A, e = .returned (.tuple #[.slice A n0 n0, .int .i64 0]) ∧ Kd.C (Kd.int .u8) w' A n0 ((readsTo D k ((n0 + 63) / 64)).take n0) ∧ Below w.heap.size w w' :=
  (Load_own h hok k n0 h2 he).mono fun e w' ⟨A, h1, h2, h3, _⟩ => ⟨A, h1, h2, h3⟩
end Go.Proofs.YtmblnflfklmmkaaDoor.Dk
/- Contracts of package disk: Save. -/
namespace Go.Proofs.YtmblnflfklmmkaaDoor.Dk
open Go.RowKit Go.Proofs.YtmblnflfklmmkaaDoorW.PrintWords Go.Proofs.YtmblnflfklmmkaaDoorW.PrintLast Go.Proofs.YtmblnflfklmmkaaDoorW.PrintMore
set_option linter.unusedVariables false
set_option linter.unusedSimpArgs false
set_option maxRecDepth 30000
section
variable {P : Program} {ops : Array Oper} {Q : Exit → Act → World → Prop}
theorem copy_step {o : Oper} {N : Option Tmp} {a : Act} {w w1 : World} {v vs vx : Value} {K : Act → World → Prop} (hw : Region.wanted o (yielded ops a.tmps) = true) (hN : o.dst = N) (s x : Operand) (t t' : TypeId)
    (ho : o.op = .call { callee := .builtin .copy, args := #[s, x], argTypes := #[t, t'] }) (hs : a.eval s = vs) (hx : a.eval x = vx) (hr : ∀ ty, (Builtin.copy_ #[t, t'] ty #[vs, vx]).run P w = .ok v w1)
    (h : K (a.put N v) w1) : if Region.wanted o (yielded ops a.tmps) = true then Oper.wp P o a w K Q else K (a.put N undef) w := by
  rw [if_pos hw]
  unfold Oper.wp execOp
  simp only [ho, resolve, invoke, builtin, Sem.run_bind, Sem.run_pure, Result.andThen_ok, List.map_toArray, List.map_cons, List.map_nil, hs, hx, hr]
  show K (a.put o.dst v) w1
  rw [hN]
  exact h
end
variable {w W W1 : World} {B g N : Nat} {F : Nat → Prop} {D : DM} {vs vh vc : Value}
theorem Write_calls64 (h : DiskAt w B g F D) (hok : DOk D) (hn : D.held.length < 10000000) (k : Int) (A : Option Addr) (c : Nat) (x : List Int) (hx : x.length = 64) (hC : Kd.C (Kd.int .u8) w A 64 x) :
    Calls Tryd.prog 53 #[.pointer (some ⟨g, 0, none⟩), .int .i64 k, .slice A 64 c] w fun e w' => e = .returned (.int .i64 (writeM D k x).2) ∧ DiskAt w' B g (Grow F w w') (writeM D k x).1 ∧ Upd w w' F := by
  obtain ⟨vs, vh, vc, h⟩ := h
  have := Write_calls h hok hn k A c x (by rw [hx]; exact hC)
  rwa [hx] at this
theorem putsM_held (keep : Nat → Bool) : (putsM keep D).held.length = 0 := rfl
theorem loseM_held (l : List Bool) : (loseM l D).held.length ≤ D.held.length := by
  unfold loseM
  split
  · exact Nat.le_refl _
  · exact Nat.zero_le _
theorem goesM_held : (goesM D).1.held = D.held := by
  unfold goesM
  split
  · rfl
  · split <;> rfl
theorem writeM_held (k : Int) (x : List Int) : (writeM D k x).1.held.length ≤ D.held.length + 1 := by
  unfold writeM
  split
  · exact Nat.le_succ _
  · split
    · exact Nat.le_succ _
    · have h1 : (goesM (holdM D k x)).1.held.length = D.held.length + 1 := by rw [goesM_held]; simp [holdM]
      split
      · exact Nat.le_trans (loseM_held _) (Nat.le_of_eq h1)
      · exact Nat.le_of_eq h1
/-- The i-th piece of 64 bytes, the last one filled up. -/
def secAt (x : List Int) (i : Nat) : List Int := (x.drop (i * 64)).take 64 ++ List.replicate (64 - min (x.length - i * 64) 64) 0
theorem secAt_length (x : List Int) (i : Nat) : (secAt x i).length = 64 := by simp [secAt]; omega
def saveFrom (x : List Int) (k : Int) : Nat → Nat → DM → DM × Int
  | 0, _, D => (D, 0)
  | m + 1, i, D => if (writeM D (k + i) (secAt x i)).2 ≠ 0 then writeM D (k + i) (secAt x i) else saveFrom x k m (i + 1) (writeM D (k + i) (secAt x i)).1
def saveM (D : DM) (k : Int) (x : List Int) : DM × Int := if spanM D k x.length ≠ 0 then (D, spanM D k x.length) else saveFrom x k ((x.length + 63) / 64) 0 D
theorem run_copy_sector {w : World} {g9 : Nat} {ad : Addr} {x : List Int} (i c : Nat) (hi : i * 64 < x.length) (hg : w.heap[g9]? = some (.cells zs64 68 (0, 0))) (hC : ∀ j v, x[j]? = some v → w.cell? (ad.add j) = some (.int .u8 v)) (hadd : ∀ a b, (ad.add a).add b = ad.add (a + b)) (ty : TypeId) :
    (Builtin.copy_ #[22, 22] ty #[.slice (some ⟨g9, 0, none⟩) 64 64, .slice (some (ad.add (i * 64))) (x.length - i * 64) c]).run Tryd.prog w = .ok (goInt ((x.drop (i * 64)).take 64).length) (w.setRow g9 (nums .u8 (secAt x i)).toArray) := by
  have hz : zs64.toList = List.replicate 64 (.int .u8 0) := by
    unfold zs64
    simp
  have := run_copy_row (P := Tryd.prog) w 22 22 ty 5 g9 0 64 64 (ad.add (i * 64)) (x.length - i * 64) c zs64 68 (nums .u8 ((x.drop (i * 64)).take 64)) Tryd.underlying22 (by kernel_rfl) hg (by rw [nums_length, List.length_take, List.length_drop]; exact Nat.min_comm _ _) (fun j v hj => by
    simp only [nums, List.getElem?_map, Option.map_eq_some_iff] at hj
    obtain ⟨q, hq, rfl⟩ := hj
    rw [List.getElem?_take] at hq
    split at hq
    · rw [List.getElem?_drop] at hq
      rw [hadd]
      exact hC _ _ hq
    · cases hq) (by rw [nums_length, List.length_take, zs64_size]; omega) (fun v hv => by
    simp only [nums, List.mem_map] at hv
    obtain ⟨_, _, rfl⟩ := hv
    rfl)
  rw [nums_length] at this
  rw [this]
  congr 3
  rw [hz, List.drop_replicate]
  simp only [secAt, nums, List.map_append, List.map_replicate, List.take_zero, List.nil_append, List.length_take, List.length_drop, Nat.zero_add, Nat.min_comm]
theorem cell_kept {p : Addr} {v : Value} (h : w.cell? p = some v) (hb : Below w.heap.size w W) : W.cell? p = some v := by
  have hp : p.block < w.heap.size := by
    unfold World.cell? at h
    split at h
    · rename_i hq; exact blk_lt hq
    · cases h
  rw [hb.cell hp]
  exact h
theorem DiskAt.regrow2 {w0 w1 w2 w3 : World} (h : DiskAt w3 B g (Grow (Grow F w0 w1) w2 w3) D) (h1 : w1.heap.size ≤ w3.heap.size) (h2 : w0.heap.size ≤ w2.heap.size) (hB : B ≤ w0.heap.size) (hl : ∀ k, F k → B ≤ k ∧ k < w0.heap.size) (h03 : w0.heap.size ≤ w3.heap.size) : DiskAt w3 B g (Grow F w0 w3) D := by
  obtain ⟨a, b, c, h⟩ := h
  refine ⟨a, b, c, h.mono (fun k hk => ?_) (fun k hk => ?_)⟩
  · rcases hk with (hk | hk) | hk
    · exact .inl hk
    · exact .inr ⟨hk.1, by omega⟩
    · exact .inr ⟨by omega, hk.2⟩
  · rcases hk with hk | hk
    · exact ⟨(hl k hk).1, by have := (hl k hk).2; omega⟩
    · exact ⟨by omega, hk.2⟩
theorem upd_block (W : World) (cs cs' : Array Value) (e : TypeId) : Upd W ((W.alloc (.cells cs e)).drew.setRow W.heap.size cs') (· = W.heap.size) :=
  ((((Upd.refl W (· = W.heap.size)).alloc (.cells cs e)).drew).trans (upd_setRow _ W.heap.size cs') (fun k hk => .inl hk))
theorem DiskAt.frame {w1 : World} {G : Nat → Prop} (h : DiskAt w B g F D) (hu : Upd w w1 G) (hd : ∀ k, k < w.heap.size → F k → ¬ G k) : DiskAt w1 B g F D := by
  obtain ⟨a, b, c, h⟩ := h
  exact ⟨a, b, c, DAt.frame h hu (fun k hk => hd k (h.lt k hk).2 hk)⟩
set_option maxHeartbeats 8000000 in
theorem Save_calls (h : DAt w B g F D vs vh vc) (hok : DOk D) (hn : D.held.length + 20000 ≤ 10000000) (k : Int) (A : Option Addr) (c : Nat) (x : List Int) (hx : x.length ≤ 1000000000) (hxc : x.length ≤ c) (hC : ∀ W, Upd w W F → Kd.C (Kd.int .u8) W A x.length x) :
    Calls Tryd.prog 43 #[.pointer (some ⟨g, 0, none⟩), .int .i64 k, .slice A x.length c] w fun e w' => e = .returned (.int .i64 (saveM D k x).2) ∧ DiskAt w' B g (Grow F w w') (saveM D k x).1 ∧ Upd w w' F := by
  have H := Aside0.mk h
  have HOK := Aside0.mk hok
  have HC := Aside0.mk hC
  have HN := Aside0.mk hn
  have HB := Aside0.mk h.hB
  clear h hok hC hn
  by_cases hs : spanM D k x.length = 0
  · obtain ⟨hd, hk0, hk1, hk2⟩ := spanM_zero hs
    obtain ⟨k0, rfl⟩ : ∃ n : Nat, k = n := ⟨k.toNat, by omega⟩
    rw [need_nat] at hk2
    obtain ⟨M, hM⟩ : ∃ M, M = (x.length + 63) / 64 := ⟨_, rfl⟩
    rw [← hM] at hk2
    have hn1 := HOK.out.n1
    have hkM : k0 + M ≤ D.sec.length := by omega
    have hM2 : M ≤ 16384 := by omega
    have HND := Lib.hid (show needM x.length = (M : Int) by rw [need_nat, hM])
    have HS := Lib.hid hs
    have hq := Lib.hid (show saveM D k0 x = saveFrom x k0 M 0 D by simp [saveM, hs, hM])
    have HM := Aside0.mk hM
    clear hs hk0 hk1 hk2 hd hM
    go_enter Tryd.func43, Tryd.ntmps43
    go_wp2_with (first | (go_at_call 59; refine (span_calls H.out HOK.out k0 x.length (by omega) (by omega)).mono ?_; rintro e w' ⟨rfl, m, rfl⟩; rw [HS.out]) | (go_at_call 60; refine (need_calls x.length (by omega) (by omega)).mono ?_; rintro e w' ⟨rfl, rfl⟩; rw [HND.out]))
    go_loopw [8, 9, 10, 22] (fun v8 v9 v10 v22 w' => ∃ (i : Nat) (D' : DM), v22 = .int .i64 i ∧ i ≤ M ∧ Aside0 (saveFrom x k0 M 0 D = saveFrom x k0 (M - i) i D') ∧ Aside0 (DiskAt w' B g (Grow F w w') D') ∧ Aside0 (DOk D') ∧ Aside0 (D'.held.length ≤ D.held.length + i) ∧ Aside0 (Upd w w' F)) (fun _ _ _ v22 _ => M - (intOf v22).toNat)
    case atStart => exact ⟨0, D, rfl, Nat.zero_le _, ⟨rfl⟩, ⟨_, _, _, (H.out.drewN _).grow HB.out⟩, HOK, ⟨Nat.le_refl _⟩, ⟨(Upd.refl _ _).drewN _⟩⟩
    case round =>
      obtain ⟨i, D', rfl, hi, HE, HD, HO, HL, HU⟩ := hrel
      by_cases hlt : i < M
      · have hi64 : i * 64 < x.length := by have := HM.out; omega
        obtain ⟨c1, c2, c3⟩ := HC.out wr HU.out
        obtain ⟨ad, hA, hcc⟩ := c3 (by omega)
        subst hA
        have hw4 : wrap64 ((i : Int) * 64) = (i : Int) * 64 := by simp only [wrap64]; omega
        have htn : ((i : Int) * 64).toNat = i * 64 := by omega
        have HG9 := Aside0.mk (blk_drew (heap_alloc_new wr (.cells zs64 68)))
        have hcell : ∀ j v, x[j]? = some v → (wr.alloc (.cells zs64 68)).drew.cell? (ad.add j) = some (.int .u8 v) := fun j v hj => by
          obtain ⟨cs, _, hK, hx1⟩ := hcc j v hj
          have := hx1 0 (.int .u8 v) (by rw [hK]; rfl)
          have := cell_kept this (below_drew (below_alloc (Below.refl wr.heap.size wr) (.cells zs64 68)))
          simpa [Kd.int, Kd.scalar] using this
        have hif : (if c = i * 64 then some ad else some (ad.add (i * 64))) = some (ad.add (i * 64)) := if_neg (by omega)
        have HCP := Aside0.mk (run_copy_sector i (c - i * 64) hi64 HG9.out hcell (Addr.add_add ad))
        rw [← hif] at HCP
        clear hif
        have HU9 := Aside0.mk (upd_block wr zs64 (nums .u8 (secAt x i)).toArray 68)
        have HC9 := Aside0.mk (show Kd.C (Kd.int .u8) ((wr.alloc (.cells zs64 68)).drew.setRow wr.heap.size (nums .u8 (secAt x i)).toArray) (some ⟨wr.heap.size, 0, none⟩) 64 (secAt x i) by
          have := C_block (setRow_heap _ _ _ (nums .u8 (secAt x i)).toArray _ _ HG9.out) (by rw [secAt_length]; omega)
          rwa [secAt_length] at this)
        have HD9 := Aside0.mk (HD.out.frame HU9.out (fun k hk _ => by omega))
        have hL9 : D'.held.length < 10000000 := by have := HL.out; have := HN.out; omega
        have HL9 := Aside0.mk hL9
        obtain ⟨q, hq0⟩ : ∃ q, (writeM D' ((k0 : Int) + i) (secAt x i)).2 = q := ⟨_, rfl⟩
        have HQ := Lib.hid hq0
        have HU9' := Aside0.mk (HU.out.trans HU9.out (fun k hk => .inr (by rw [hk]; exact HU.out.size)))
        clear hcc c1 c2 c3 hcell hL9
        by_cases hqz : q = 0
        · subst hqz
          clear hq0
          have HE2 := Aside0.mk (show saveFrom x k0 M 0 D = saveFrom x k0 (M - (i + 1)) (i + 1) (writeM D' ((k0 : Int) + i) (secAt x i)).1 by rw [HE.out, show M - i = (M - (i + 1)) + 1 by omega, saveFrom, if_neg (by rw [HQ.out]; simp)])
          go_wp2_with (first | (refine wpList_alloc rfl rfl _ rfl zs64 (run_alloc64 _) ?_))
          refine start_ (n := 6) (S := fun w' => True) (ds := []) #[false, false, false, false, false, false] (by kernel_rfl) rfl rfl trivial (fun hHeld => ?_)
          refine pure_ (i := 0) (N := some 25) (v := ?_) (a' := ?_) #[true, false, false, false, false, false] rfl rfl (by kernel_rfl) (fun _ _ _ h => h) (Or.inl ⟨by rfl, ?_⟩) ?_ ?_
          rotate_left
          · intro w'
            go_simp
            with_reducible rfl
          rotate_left
          · simp only [Act.put, List.setIfInBounds_toArray, List.set_cons_zero, List.set_cons_succ, i64_w, i32_w]
            rfl
          refine pure_ (i := 1) (N := some 26) (v := ?_) (a' := ?_) #[true, true, false, false, false, false] rfl rfl (by kernel_rfl) (fun _ _ _ h => h) (Or.inl ⟨by rfl, ?_⟩) ?_ ?_
          rotate_left
          · intro w'
            go_simp
            with_reducible rfl
          rotate_left
          · simp only [Act.put, List.setIfInBounds_toArray, List.set_cons_zero, List.set_cons_succ, i64_w, i32_w]
            rfl
          refine pure_ (i := 2) (N := some 27) (v := ?_) (a' := ?_) #[true, true, true, false, false, false] rfl rfl (by kernel_rfl) (fun _ _ _ h => h) (Or.inl ⟨by rfl, ?_⟩) ?_ ?_
          rotate_left
          · intro w'
            go_simp
            with_reducible rfl
          rotate_left
          · simp only [Act.put, List.setIfInBounds_toArray, List.set_cons_zero, List.set_cons_succ, i64_w, i32_w]
            rfl
          refine pure_ (i := 3) (N := some 28) (v := ?_) (a' := ?_) #[true, true, true, true, false, false] rfl rfl (by kernel_rfl) (fun _ _ _ h => h) (Or.inl ⟨by rfl, ?_⟩) ?_ ?_
          rotate_left
          · intro w'
            go_simp
            (try rw [hw4])
            (try with_reducible rfl)
          rotate_left
          · simp only [Act.put, List.setIfInBounds_toArray, List.set_cons_zero, List.set_cons_succ, i64_w, i32_w]
            rfl
          refine pure_ (i := 4) (N := some 29) (v := ?_) (a' := ?_) #[true, true, true, true, true, false] rfl rfl (by kernel_rfl) (fun _ _ _ h => h) (Or.inl ⟨by rfl, ?_⟩) ?_ ?_
          rotate_left
          · intro w'
            go_simp
            (try simp only [htn])
            (try rw [if_pos ⟨by omega, by omega⟩])
            (try rw [if_neg (by omega)])
            (try with_reducible rfl)
          rotate_left
          · simp only [Act.put, List.setIfInBounds_toArray, List.set_cons_zero, List.set_cons_succ, i64_w, i32_w]
            rfl
          refine one_ (i := 5) (N := some 30) #[true, true, true, true, true, true] rfl rfl (by kernel_rfl) (by decide) (fun K hK => ?_)
          refine copy_step (by rfl) rfl (.tmp 25) (.tmp 29) 22 22 rfl rfl rfl HCP.out ?_
          refine hK.out _ _ trivial (fun hHeld => ?_)
          clear hK K
          refine norm_ (a' := ?_) ?_ ?_
          rotate_left
          · show Act.put _ (some 30) _ = _
            simp only [Act.put, List.setIfInBounds_toArray, List.set_cons_zero, List.set_cons_succ, i64_w, i32_w]
            rfl
          refine done_ (by kernel_rfl) ?_

          go_wp2_with (first | (go_at_call 53; refine (Write_calls64 HD9.out HO.out HL9.out ((k0 : Int) + i) _ 64 (secAt x i) (secAt_length x i) HC9.out).mono ?_; rintro e w5 ⟨rfl, h5, hu5⟩; rw [HQ.out]; have H5 := Aside0.mk h5; have HU5 := Aside0.mk hu5; clear h5 hu5))
          go_roundw
          case rel => exact ⟨i + 1, _, by go_num, by omega, HE2, ⟨H5.out.regrow2 (Nat.le_trans HU9.out.size HU5.out.size) HU9'.out.size HB.out H.out.lt (Nat.le_trans HU9'.out.size HU5.out.size)⟩, ⟨writeM_ok HO.out HL9.out⟩, ⟨by have := writeM_held (D := D') ((k0 : Int) + i) (secAt x i); have := HL.out; omega⟩, ⟨HU9'.out.trans HU5.out (fun k hk => hk.elim .inl (fun h => .inr h.1))⟩⟩
          case measure => simp [intOf]; omega
        · clear hq0
          have HE2 := Lib.hid (show saveM D k0 x = writeM D' ((k0 : Int) + i) (secAt x i) by rw [hq.out, HE.out, show M - i = (M - (i + 1)) + 1 by omega, saveFrom, if_pos (by rw [HQ.out]; exact hqz)])
          go_wp2_with (first | (refine wpList_alloc rfl rfl _ rfl zs64 (run_alloc64 _) ?_))
          refine start_ (n := 6) (S := fun w' => True) (ds := []) #[false, false, false, false, false, false] (by kernel_rfl) rfl rfl trivial (fun hHeld => ?_)
          refine pure_ (i := 0) (N := some 25) (v := ?_) (a' := ?_) #[true, false, false, false, false, false] rfl rfl (by kernel_rfl) (fun _ _ _ h => h) (Or.inl ⟨by rfl, ?_⟩) ?_ ?_
          rotate_left
          · intro w'
            go_simp
            with_reducible rfl
          rotate_left
          · simp only [Act.put, List.setIfInBounds_toArray, List.set_cons_zero, List.set_cons_succ, i64_w, i32_w]
            rfl
          refine pure_ (i := 1) (N := some 26) (v := ?_) (a' := ?_) #[true, true, false, false, false, false] rfl rfl (by kernel_rfl) (fun _ _ _ h => h) (Or.inl ⟨by rfl, ?_⟩) ?_ ?_
          rotate_left
          · intro w'
            go_simp
            with_reducible rfl
          rotate_left
          · simp only [Act.put, List.setIfInBounds_toArray, List.set_cons_zero, List.set_cons_succ, i64_w, i32_w]
            rfl
          refine pure_ (i := 2) (N := some 27) (v := ?_) (a' := ?_) #[true, true, true, false, false, false] rfl rfl (by kernel_rfl) (fun _ _ _ h => h) (Or.inl ⟨by rfl, ?_⟩) ?_ ?_
          rotate_left
          · intro w'
            go_simp
            with_reducible rfl
          rotate_left
          · simp only [Act.put, List.setIfInBounds_toArray, List.set_cons_zero, List.set_cons_succ, i64_w, i32_w]
            rfl
          refine pure_ (i := 3) (N := some 28) (v := ?_) (a' := ?_) #[true, true, true, true, false, false] rfl rfl (by kernel_rfl) (fun _ _ _ h => h) (Or.inl ⟨by rfl, ?_⟩) ?_ ?_
          rotate_left
          · intro w'
            go_simp
            (try rw [hw4])
            (try with_reducible rfl)
          rotate_left
          · simp only [Act.put, List.setIfInBounds_toArray, List.set_cons_zero, List.set_cons_succ, i64_w, i32_w]
            rfl
          refine pure_ (i := 4) (N := some 29) (v := ?_) (a' := ?_) #[true, true, true, true, true, false] rfl rfl (by kernel_rfl) (fun _ _ _ h => h) (Or.inl ⟨by rfl, ?_⟩) ?_ ?_
          rotate_left
          · intro w'
            go_simp
            (try simp only [htn])
            (try rw [if_pos ⟨by omega, by omega⟩])
            (try rw [if_neg (by omega)])
            (try with_reducible rfl)
          rotate_left
          · simp only [Act.put, List.setIfInBounds_toArray, List.set_cons_zero, List.set_cons_succ, i64_w, i32_w]
            rfl
          refine one_ (i := 5) (N := some 30) #[true, true, true, true, true, true] rfl rfl (by kernel_rfl) (by decide) (fun K hK => ?_)
          refine copy_step (by rfl) rfl (.tmp 25) (.tmp 29) 22 22 rfl rfl rfl HCP.out ?_
          refine hK.out _ _ trivial (fun hHeld => ?_)
          clear hK K
          refine norm_ (a' := ?_) ?_ ?_
          rotate_left
          · show Act.put _ (some 30) _ = _
            simp only [Act.put, List.setIfInBounds_toArray, List.set_cons_zero, List.set_cons_succ, i64_w, i32_w]
            rfl
          refine done_ (by kernel_rfl) ?_

          go_wp2_with (first | (go_at_call 53; refine (Write_calls64 HD9.out HO.out HL9.out ((k0 : Int) + i) _ 64 (secAt x i) (secAt_length x i) HC9.out).mono ?_; rintro e w5 ⟨rfl, h5, hu5⟩; rw [HQ.out]; have H5 := Aside0.mk h5; have HU5 := Aside0.mk hu5; clear h5 hu5))
          go_ret
          exact ⟨by rw [HE2.out, HQ.out] <;> rfl, by rw [HE2.out]; exact H5.out.regrow2 (Nat.le_trans HU9.out.size HU5.out.size) HU9'.out.size HB.out H.out.lt (Nat.le_trans HU9'.out.size HU5.out.size), HU9'.out.trans HU5.out (fun k hk => hk.elim .inl (fun h => .inr h.1))⟩
      · obtain rfl : i = M := by omega
        have HE' := Lib.hid (show saveM D k0 x = (D', 0) by rw [hq.out, HE.out, Nat.sub_self]; rfl)
        clear hq
        go_wp2
        go_ret
        exact ⟨by rw [HE'.out] <;> rfl, by rw [HE'.out]; exact HD.out, HU.out⟩
  · have hq := Lib.hid (show saveM D k x = (D, spanM D k x.length) by simp [saveM, hs])
    obtain ⟨q, hq0⟩ : ∃ q, spanM D k x.length = q := ⟨_, rfl⟩
    have HQ := Lib.hid hq0
    rw [hq0] at hs
    clear hq0
    go_enter Tryd.func43, Tryd.ntmps43
    go_wp2_with (first | (go_at_call 59; refine (span_calls H.out HOK.out k x.length (by omega) (by omega)).mono ?_; rintro e w' ⟨rfl, m, rfl⟩; rw [HQ.out]))
    go_ret
    refine ⟨by rw [hq.out, HQ.out] <;> rfl, ?_, (Upd.refl _ _).drewN _⟩
    rw [hq.out]
    exact ⟨_, _, _, (H.out.drewN _).grow HB.out⟩
end Go.Proofs.YtmblnflfklmmkaaDoor.Dk
/- Contracts of package store: headOf. -/
namespace Go.Proofs.YtmblnflfklmmkaaDoor.Sh
open Go.Proofs.YtmblnflfklmmkaaDoor.Dk
open Go.RowKit Go.Proofs.YtmblnflfklmmkaaDoorW.PrintWords Go.Proofs.YtmblnflfklmmkaaDoorW.PrintLast Go.Proofs.YtmblnflfklmmkaaDoorW.PrintMore
set_option linter.unusedVariables false
set_option linter.unusedSimpArgs false
set_option maxRecDepth 30000

variable {w w0 w1 w2 wr : World} {g q o c : Nat} {n : Int} {xs hs : List Int}
def z59 : Array Value := (nums .u8 (List.replicate 64 0)).toArray
theorem run_alloc59 (w : World) : (Instr.alloc 59 true (.tuple #[])).run Tryd.prog w = .ok (.pointer (some ⟨w.heap.size, 0, none⟩)) (w.alloc (.cells z59 59)) := by kernel_rfl
theorem info59 (x : List Int) (h : x.length = 64) : (Tryd.prog.info? 59).map (·.size) = some (nums .u8 x).toArray.size := by rw [List.size_toArray, nums_length, h]; kernel_rfl
theorem u8_one (x : List Int) : ((nums .u8 x).toArray : Array Value).all (·.oneCell') = true := by
  simp [nums, List.all_eq_true]
  intro a _
  rfl
theorem tellM_length {h : List Int} (hl : h.length = 8) : (tellM h).length = 32 := by
  have : ∀ l : List Int, (l.flatMap tell1).length = 4 * l.length := by
    intro l
    induction l with
    | nil => rfl
    | cons a l ih => rw [List.flatMap_cons, List.length_append, ih]; simp [tell1]; omega
  rw [tellM, this, hl]
theorem takeF_h (hv : List Int) (h8 : hv.length = 8) : ∀ (k : Nat) (xs : List Int), xs.length ≤ k → (takeF hv xs).1.length = 8 := by
  intro k
  induction k generalizing hv with
  | zero => intro xs hk; rw [takeF_lt (by omega)]; exact h8
  | succ k ih =>
    intro xs hk
    by_cases h : 64 ≤ xs.length
    · rw [takeF_ge h]
      exact ih _ (mixM_length h8) _ (by simp; omega)
    · rw [takeF_lt (by omega)]; exact h8
theorem digestM_length (x y : List Int) : (digestM x y).length = 32 := by
  have h1 := takeF_h begin32L begin32L_length _ x (Nat.le_refl _)
  have h2 := takeF_h _ h1 _ ((takeF begin32L x).2 ++ y) (Nat.le_refl _)
  exact tellM_length (takeF_h _ h2 _ _ (Nat.le_refl _))
structure Hd (w w' : World) (hs : List Int) : Prop where
  b0 : w'.heap[w.heap.size]? = some (.cells z59 59 (0, 0))
  b1 : w'.heap[w.heap.size + 1]? = some (.cells (nums .u8 hs).toArray 59 (0, 0))
  l : hs.length = 64
  b : Below w.heap.size w w'
theorem Hd.below (h : Hd w w1 hs) (hb : Below w1.heap.size w1 w2) : Hd w w2 hs := ⟨blk_below h.b0 hb, blk_below h.b1 hb, h.l, h.b.trans (hb.mono h.b.size)⟩
theorem Hd.upd {hs' : List Int} (h : Hd w w1 hs) (hb : w2.heap[w.heap.size + 1]? = some (.cells (nums .u8 hs').toArray 59 (0, 0))) (hl : hs'.length = 64) (hu : Upd w1 w2 (· = w.heap.size + 1)) : Hd w w2 hs' := by
  have hlt := blk_lt h.b0
  refine ⟨(hu.block _ hlt (by omega)).trans h.b0, hb, hl, ?_⟩
  exact Upd.below (F := fun k => w.heap.size ≤ k) ((Upd.of_below (F := fun k => w.heap.size ≤ k) h.b).trans hu (fun k hk => .inl (by rw [hk]; omega))) (fun k hk => hk)
theorem Hd.bys (h : Hd w w1 hs) {o m : Nat} (hm : o + m ≤ 64) : Bys w1 (w.heap.size + 1) o ((hs.drop o).take m) := fun j hj => by
  rw [List.length_take, List.length_drop, h.l] at hj
  rw [cell_nums h.b1 (i := o + j) (by rw [h.l]; omega)]
  simp [List.getD_eq_getElem?_getD, List.getElem?_take, show j < m by omega]
def mark60 : List Int := [73, 77, 80, 82] ++ List.replicate 60 0
theorem copy_mark (W : World) (h : W.heap[q]? = some (.cells z59 59 (0, 0))) (ty : TypeId) : (Builtin.copy_ #[22, 9] ty #[.slice (some ⟨q, 0, none⟩) 64 64, .string { data := #[73, 77, 80, 82] }]).run Tryd.prog W = .ok (.int .i64 4) (W.setRow q (nums .u8 mark60).toArray) := by
  have := Lib.run_copy_row_string (P := Tryd.prog) W 22 9 ty 5 q 0 64 64 { data := #[73, 77, 80, 82] } z59 59 Tryd.underlying22 (by kernel_rfl) h (show 4 ≤ 64 by decide) (show 0 + 4 ≤ z59.size by simp [z59, nums_length])
  rw [this]
  rfl
theorem upd_row (w : World) (g : Nat) (cs : Array Value) : Upd w (w.setRow g cs) (· = g) := upd_setRow w g cs
theorem copy_dig {d : List Int} {g5 c5 : Nat} {W : World} (h : Hd w W hs) (hd : d.length = 32) (hc : d.length ≤ c5) (hx : ∀ j, j < d.length → W.cell? ⟨g5, j, none⟩ = some (.int .u8 (d.getD j 0))) (ty : TypeId) :
    (Builtin.copy_ #[22, 22] ty #[.slice (some ⟨w.heap.size + 1, 16, none⟩) 32 48, .slice (some ⟨g5, 0, none⟩) d.length c5]).run Tryd.prog W = .ok (.int .i64 32) (W.setCells (w.heap.size + 1) 16 (nums .u8 d)) := by
  have hl : (nums IntKind.u8 d).length = 32 := by rw [nums_length, hd]
  have := run_copy_cells (P := Tryd.prog) W 22 22 ty 5 (w.heap.size + 1) 16 32 48 ⟨g5, 0, none⟩ d.length c5 (nums .u8 d) Tryd.underlying22 (by kernel_rfl) (by rw [hl, hd]; rfl)
    (fun j v hj => by
      have hlt := (List.getElem?_eq_some_iff.1 hj).1
      rw [nums_length] at hlt
      rw [add0, hx j hlt, ← hj]
      simp [nums, List.getD_eq_getElem?_getD, hlt])
    (fun j hj => by rw [cell_nums h.b1 (by rw [h.l]; omega)]; rfl) (fun j hj => free_row h.b1 _) (fun v hv => by
      simp only [nums, List.mem_map] at hv
      obtain ⟨_, _, rfl⟩ := hv
      rfl)
  rw [this, hl]
  rfl
theorem Hd.dig {d : List Int} {W : World} (h : Hd w W hs) (hd : d.length = 32) : Hd w (W.setCells (w.heap.size + 1) 16 (nums .u8 d)) (hs.take 16 ++ d ++ hs.drop 48) := by
  obtain ⟨cur', c1, c2, c3⟩ := setCells_row (nums .u8 d) 16 W _ h.b1 (by simp [nums_length, hd, h.l])
  refine h.upd ?_ (by simp [h.l, hd]) (setCells_upd _ 16 _ W)
  rw [c1]
  congr 2
  apply Array.toList_inj.1
  rw [c3]
  simp [nums, List.map_take, List.map_drop, hd]
def hgen (h : List Int) : List Int := (h.drop 4).take 8
def headR (g : Int) (y : List Int) : List Int := putR (putR mark60 4 8 g 8) 12 4 y.length 4
def headM (g : Int) (y : List Int) : List Int := (headR g y).take 16 ++ digestM (hgen (headR g y)) y ++ (headR g y).drop 48
theorem headR_length (g : Int) (y : List Int) : (headR g y).length = 64 := by rw [headR, putR_length, putR_length]; rfl
theorem headM_length (g : Int) (y : List Int) : (headM g y).length = 64 := by simp [headM, headR_length, digestM_length]
set_option maxHeartbeats 16000000 in
theorem headOf_calls (hg : Glob w) (gen : Int) (h0 : 0 ≤ gen) (h1 : gen ≤ 18446744073709551615) (A : Option Addr) (c : Nat) (y : List Int) (hy : C8 w A y) (hl : y.length ≤ 1000000) :
    Calls Tryd.prog 29 #[.int .u64 gen, .slice A y.length c] w fun e w' => e = .returned (.agg (nums .u8 (headM gen y)).toArray) ∧ Below w.heap.size w w' := by
  have HG := Aside0.mk hg
  have HY := Aside0.mk (fun W (hW : Below w.heap.size w W) => Kd.C_below hy hW)
  have HGN := Aside0.mk (And.intro h0 h1)
  have HYL := Aside0.mk hl
  have HD0 := Aside0.mk (show Hd w ((w.alloc (.cells z59 59)).alloc (.cells z59 59)) (List.replicate 64 0) from ⟨blk_below (heap_alloc_new w _) (below_alloc (Below.refl _ _) _), nth2_1 w _ _, by simp, below_alloc (below_alloc (Below.refl _ _) _) _⟩)
  have HCM := Aside0.mk (copy_mark (q := w.heap.size + 1) ((w.alloc (.cells z59 59)).alloc (.cells z59 59)) HD0.out.b1)
  have HD1 := Aside0.mk (HD0.out.upd (w2 := ((w.alloc (.cells z59 59)).alloc (.cells z59 59)).setRow (w.heap.size + 1) (nums .u8 mark60).toArray) (hs' := mark60) (setRow_heap _ _ _ _ _ _ HD0.out.b1) rfl (upd_row _ _ _))
  clear hg hy
  go_enter Tryd.func29, Tryd.ntmps29
  go_wp2_with (first | ((with_reducible refine alloc_at (e := 59) ?_ ?_ (run_alloc59 _) ?_); exact rfl; exact rfl) | ((with_reducible refine copy_at (s := .tmp 6) (x := .const (.string { data := #[73, 77, 80, 82] })) (t := 22) (t' := 9) ?_ ?_ HCM.out ?_ ?_ ?_); exact rfl; exact rfl; exact rfl; exact rfl; generalize ((w.alloc (.cells z59 59)).alloc (.cells z59 59)).setRow (w.heap.size + 1) (nums .u8 mark60).toArray = w1 at HD1 ⊢; clear HCM HD0) | (go_at_call 44; (with_reducible refine (put_calls (o := 4) (c := 60) mark60 8 HD1.out.b1 (by decide) (by decide) (by decide) HGN.out.1 HGN.out.2).mono ?_); rintro e w2 ⟨rfl, hb2, hu2⟩; have HD2 := Aside0.mk (HD1.out.upd hb2 (by rw [putR_length]; rfl) hu2); clear hb2 hu2) | (go_at_call 44; (with_reducible refine (put_calls (o := 12) (c := 52) (n := (y.length : Int)) (putR mark60 4 8 gen 8) 4 HD2.out.b1 (by rw [putR_length]; decide) (by decide) (by decide) (by omega) (by have := HYL.out; omega)).mono ?_); rintro e w3 ⟨rfl, hb3, hu3⟩; have HD3 := Aside0.mk (show Hd w w3 (headR gen y) from HD2.out.upd hb3 (headR_length _ _) hu3); clear hb3 hu3))
  obtain ⟨q, hq⟩ : ∃ q, w.heap.size + 1 = q := ⟨_, rfl⟩
  rw [hq]
  have HQ := Lib.hid hq
  have HD4 := Aside0.mk (show Hd w w3.drew (headR gen y) from HD3.out.below (below_drew (Below.refl _ _)))
  have HG5 := Aside0.mk (HG.out.below HD4.out.b)
  have HY5 := Aside0.mk (HY.out _ HD4.out.b)
  have HL8 := Aside0.mk (show (hgen (headR gen y)).length = 8 by rw [hgen, List.length_take, List.length_drop, headR_length]; rfl)
  have HC4 := Aside0.mk (show C8 w3.drew (some ⟨q, 4, none⟩) (hgen (headR gen y)) from by rw [← hq]; exact C_bys (HD4.out.bys (o := 4) (m := 8) (by decide)) (by show (hgen (headR gen y)).length ≤ _; rw [HL8.out]; decide))
  have hyl := HYL.out
  clear hq
  repeat (first | go_step | go_guarded | go_upon)
  refine start_ (n := 5) (S := fun w' => True) (ds := []) #[false, false, false, false, false] (by kernel_rfl) rfl rfl trivial (fun hHeld => ?_)
  refine pure_ (i := 0) (N := some 16) (v := ?_) (a' := ?_) #[true, false, false, false, false] rfl rfl (by kernel_rfl) (fun _ _ _ h => h) (Or.inl ⟨by rfl, ?_⟩) ?_ ?_
  rotate_left
  · intro w'
    go_simp
    with_reducible rfl
  rotate_left
  · simp only [Act.put, List.setIfInBounds_toArray, List.set_cons_zero, List.set_cons_succ, i64_w, i32_w]
    rfl
  refine pure_ (i := 1) (N := some 17) (v := ?_) (a' := ?_) #[true, true, false, false, false] rfl rfl (by kernel_rfl) (fun _ _ _ h => h) (Or.inl ⟨by rfl, ?_⟩) ?_ ?_
  rotate_left
  · intro w'
    go_simp
    with_reducible rfl
  rotate_left
  · simp only [Act.put, List.setIfInBounds_toArray, List.set_cons_zero, List.set_cons_succ, i64_w, i32_w]
    rfl
  refine pure_ (i := 2) (N := some 18) (v := ?_) (a' := ?_) #[true, true, true, false, false] rfl rfl (by kernel_rfl) (fun _ _ _ h => h) (Or.inl ⟨by rfl, ?_⟩) ?_ ?_
  rotate_left
  · intro w'
    go_simp
    with_reducible rfl
  rotate_left
  · simp only [Act.put, List.setIfInBounds_toArray, List.set_cons_zero, List.set_cons_succ, i64_w, i32_w]
    rfl
  refine one_ (i := 3) (N := some 19) #[true, true, true, true, false] rfl rfl (by kernel_rfl) (by decide) (fun K hK => ?_)
  refine goes_ Tryd.func45 (by kernel_rfl) rfl #[.slice (some ⟨q, 4, none⟩) 8 60, .slice A y.length c] (by rfl) rfl rfl (by simp only [List.map_toArray, List.map_cons, List.map_nil]; rfl) ?_
  with_reducible refine (calls_of_args (args' := #[.slice (some ⟨q, 4, none⟩) (hgen (headR gen y)).length 60, .slice A y.length c]) (by rw [HL8.out]) (digest_calls HG5.out (some ⟨q, 4, none⟩) A 60 c (hgen (headR gen y)) y HC4.out HY5.out (by rw [HL8.out]; omega))).mono ?_
  rintro e w5 ⟨v5, rfl, hr5, hb5⟩
  refine ⟨_, rfl, ?_⟩
  have HD5 := Aside0.mk (HD4.out.below hb5)
  obtain ⟨g5, c5, rfl, _, _, hc5, _, hx5⟩ := hr5.form (by rw [digestM_length]; decide)
  have HCP := Aside0.mk (HQ.out ▸ copy_dig HD5.out (digestM_length _ _) hc5 hx5)
  clear hr5 hb5
  refine hK.out _ _ trivial (fun hHeld => ?_)
  clear hK K
  refine norm_ (a' := ?_) ?_ ?_
  rotate_left
  · show Act.put _ (some 19) _ = _
    simp only [Act.put, List.setIfInBounds_toArray, List.set_cons_zero, List.set_cons_succ, i64_w, i32_w]
    rfl
  refine one_ (i := 4) (N := some 20) #[true, true, true, true, true] rfl rfl (by kernel_rfl) (by decide) (fun K hK => ?_)
  refine copy_step (by rfl) rfl (.tmp 16) (.tmp 19) 22 22 rfl rfl rfl HCP.out ?_
  refine hK.out _ _ trivial (fun hHeld => ?_)
  clear hK K
  refine norm_ (a' := ?_) ?_ ?_
  rotate_left
  · show Act.put _ (some 20) _ = _
    simp only [Act.put, List.setIfInBounds_toArray, List.set_cons_zero, List.set_cons_succ, i64_w, i32_w]
    rfl
  refine done_ (by kernel_rfl) ?_
  clear hHeld
  have HD6 := Aside0.mk (show Hd w (w5.setCells q 16 (nums .u8 (digestM (hgen (headR gen y)) y))) (headM gen y) from HQ.out ▸ HD5.out.dig (digestM_length _ _))
  generalize w5.setCells q 16 (nums .u8 (digestM (hgen (headR gen y)) y)) = w6 at HD6 ⊢
  have HL6 := Aside0.mk (run_loadAt_cells (P := Tryd.prog) (w := w6) 59 Tryd.underlying59 rfl q 0 (nums .u8 (headM gen y)) (by rw [nums_length, headM_length]; kernel_rfl) (fun j u hu => by rw [Nat.zero_add, ← HQ.out, cell_of_row _ _ j _ _ _ HD6.out.b1]; simpa using hu))
  have HST6 := Aside0.mk (run_store_block (P := Tryd.prog) (w := w6) w.heap.size 59 z59 (nums .u8 (headM gen y)).toArray 59 HD6.out.b0 (info59 _ (headM_length _ _)) (by simp [z59, nums_length, headM_length]) (u8_one _))
  go_wp2_with (first | ((with_reducible refine load_at (ty := 59) (.tmp 5) ?_ ?_ HL6.out ?_ ?_); exact rfl; exact rfl; exact rfl) | ((with_reducible refine store_at (ty := 59) (.tmp 4) (.tmp 21) ?_ ?_ ?_ HST6.out ?_ ?_ ?_); exact rfl; exact rfl; exact rfl; exact rfl; exact rfl))
  refine bodyPost_ret (results_cell_row rfl _ _ _ _ (nums .u8 (headM gen y)).toArray _ _ rfl (setRow_heap _ _ _ _ _ _ HD6.out.b0) Tryd.underlying59 rfl (info59 _ (headM_length _ _))) rfl ?_
  exact ⟨rfl, below_row HD6.out.b (Nat.le_refl _) _⟩

end Go.Proofs.YtmblnflfklmmkaaDoor.Sh
/- Contracts of package disk: New. -/
namespace Go.Proofs.YtmblnflfklmmkaaDoor.Dk
open Go.RowKit Go.Proofs.YtmblnflfklmmkaaDoorW.PrintWords Go.Proofs.YtmblnflfklmmkaaDoorW.PrintLast Go.Proofs.YtmblnflfklmmkaaDoorW.PrintMore
set_option linter.unusedVariables false
set_option linter.unusedSimpArgs false
set_option maxRecDepth 30000
variable {w W W1 : World} {B g N : Nat} {F : Nat → Prop} {D : DM} {vs vh vc : Value}
def newBad (x : List Int) (n : Int) : Prop := n < 1 ∨ 16384 < n ∨ n * 64 < (x.length : Int)
/-- The disk of n sectors, the first i of them filled. -/
def secTo (x : List Int) (n i : Nat) : List (List Int) := (List.range i).map (secAt x) ++ List.replicate (n - i) (List.replicate 64 0)
theorem secTo_length (x : List Int) (n i : Nat) (h : i ≤ n) : (secTo x n i).length = n := by simp only [secTo, List.length_append, List.length_map, List.length_range, List.length_replicate]; omega
theorem secTo_split (x : List Int) (n i : Nat) (h : i < n) : secTo x n i = (List.range i).map (secAt x) ++ List.replicate 64 0 :: List.replicate (n - (i + 1)) (List.replicate 64 0) := by
  unfold secTo
  rw [show n - i = (n - (i + 1)) + 1 by omega, List.replicate_succ]
theorem secTo_next (x : List Int) (n i : Nat) : secTo x n (i + 1) = (List.range i).map (secAt x) ++ secAt x i :: List.replicate (n - (i + 1)) (List.replicate 64 0) := by
  unfold secTo
  rw [List.range_succ, List.map_append, List.append_assoc]
  rfl
theorem secTo_get (x : List Int) (n i : Nat) (h : i < n) : (secTo x n i).getD i [] = List.replicate 64 0 := by
  rw [secTo_split x n i h, List.getD_eq_getElem?_getD, List.getElem?_append_right (by simp)]
  rw [List.length_map, List.length_range, Nat.sub_self]
  rfl
theorem secTo_set (x : List Int) (n i : Nat) (h : i < n) : (secTo x n i).set i (secAt x i) = secTo x n (i + 1) := by
  rw [secTo_split x n i h, secTo_next, List.set_append_right _ _ (by simp), List.length_map, List.length_range, Nat.sub_self]
  rfl
theorem secTo_skip (x : List Int) (n i : Nat) (h : i < n) (hx : x.length ≤ i * 64) : secTo x n (i + 1) = secTo x n i := by
  have e : secAt x i = List.replicate 64 0 := by
    unfold secAt
    rw [List.drop_of_length_le hx, List.take_nil, List.nil_append, show x.length - i * 64 = 0 by omega, Nat.zero_min, Nat.sub_zero]
  rw [secTo_next, e, secTo_split x n i h]
def newM (x : List Int) (n i : Nat) : DM := { sec := secTo x n i, held := [], down := false, strokes := 0, left := 0, set := false, choice := [] }
set_option maxHeartbeats 8000000 in
theorem New_calls (A : Option Addr) (c : Nat) (x : List Int) (n : Nat) (hx : x.length ≤ 1000000000) (hxc : x.length ≤ c) (hC : Kd.C (Kd.int .u8) w A x.length x) (hok : ¬ newBad x n) :
    Calls Tryd.prog 15 #[.slice A x.length c, .int .i64 n] w fun e w' => ∃ g, e = .returned (.tuple #[.pointer (some ⟨g, 0, none⟩), .int .i64 0]) ∧ DiskAt w' w.heap.size g (fun k => w.heap.size ≤ k ∧ k < w'.heap.size) (newM x n n) ∧ Below w.heap.size w w' := by
  have HC := Aside0.mk hC
  have hn1 : 1 ≤ n := by unfold newBad at hok; omega
  have hn2 : n ≤ 16384 := by unfold newBad at hok; omega
  have hn3 : x.length ≤ n * 64 := by unfold newBad at hok; omega
  clear hok hC
  go_enter Tryd.func15, Tryd.ntmps15
  go_wp2_with (first | (refine Kd.R_make kSec (w0 := w) w.heap.size 68 rfl (N := 23) rfl 64 (.tmp 22) (.tmp 22) rfl (n : Int) rfl rfl Tryd.underlying64 (.agg (List.replicate 64 (.int .u8 0)).toArray) 64 info64' rfl (by decide) (by decide) (List.replicate 64 0) (ok := fun k => w.heap.size ≤ k) (okp := fun _ => False) ⟨rfl, rfl⟩ (fun _ h => h.elim) (Nat.le_refl _) (by omega) (by simp; omega) (Below.refl _ _) (Nat.le_refl _) ?_; intro v1 w1 hr1 hb1 hg1 _; rw [Int.toNat_natCast] at hr1; obtain ⟨A1, c1, rfl⟩ := Kd.R_slice hr1; have HR1 := Aside0.mk hr1; have HB1 := Aside0.mk hb1; clear hr1 hb1 hg1))
  have HC0 := Aside0.mk (show DAt (w1.alloc (.cells #[.slice A1 n c1, .slice none 0 0, .bool false, .int .i64 0, .int .i64 0, .bool false, .slice none 0 0] 67)) w.heap.size w1.heap.size (fun k => w.heap.size ≤ k ∧ k < (w1.alloc (.cells #[.slice A1 n c1, .slice none 0 0, .bool false, .int .i64 0, .int .i64 0, .bool false, .slice none 0 0] 67)).heap.size) (newM x n 0) (.slice A1 n c1) (.slice none 0 0) (.slice none 0 0) from by
    have h1 := Kd.R_below HR1.out (below_alloc (Below.refl w1.heap.size w1) (.cells #[.slice A1 n c1, .slice none 0 0, .bool false, .int .i64 0, .int .i64 0, .bool false, .slice none 0 0] 67))
    have hb := heap_alloc_new w1 (.cells #[.slice A1 n c1, .slice none 0 0, .bool false, .int .i64 0, .int .i64 0, .bool false, .slice none 0 0] 67)
    refine ⟨hb, ?_, Kd.R_nil _ _ _ _ _, Kd.R_nil _ _ _ _ _, ⟨HB1.out.size, blk_lt hb⟩, fun k hk => hk⟩
    rw [List.length_replicate] at h1
    have e : (newM x n 0).sec = List.replicate n (List.replicate 64 0) := by simp only [newM, secTo, List.range_zero, List.map_nil, List.nil_append, Nat.sub_zero]
    rw [e]
    exact Kd.R_mono (Kd.R_bound h1) (fun k hk => ⟨hk.1, hk.2.2.1⟩))
  have HB2 := Aside0.mk (below_alloc HB1.out (.cells #[.slice A1 n c1, .slice none 0 0, .bool false, .int .i64 0, .int .i64 0, .bool false, .slice none 0 0] 67))
  go_loopw [7, 8, 27] (fun v7 v8 v27 w' => ∃ i : Nat, v27 = .int .i64 i ∧ i ≤ n ∧ Aside0 (DAt w' w.heap.size w1.heap.size (fun k => w.heap.size ≤ k ∧ k < w'.heap.size) (newM x n i) (.slice A1 n c1) (.slice none 0 0) (.slice none 0 0)) ∧ Aside0 (Below w.heap.size w w')) (fun _ _ v27 _ => n - (intOf v27).toNat)
  case atStart => exact ⟨0, rfl, Nat.zero_le _, HC0, HB2⟩
  case round =>
    obtain ⟨i, rfl, hi, HD, HV⟩ := hrel
    by_cases hlt : i < n
    · by_cases h64 : i * 64 < x.length
      · have HX := Aside0.mk (Kd.C_below HC.out HV.out)
        obtain ⟨_, _, c3⟩ := HX.out
        obtain ⟨ad, hA, hcc⟩ := c3 (by omega)
        have hl := secTo_length x n i hi
        rcases R_cases HD.out.sec with ⟨_, hz⟩ | ⟨gs, cap, es, hgs⟩
        · have h0 : (secTo x n i).length = 0 := congrArg List.length hz
          omega
        injection es with e1 e2 e3
        subst e1
        clear e2 e3
        have hA' := hA
        subst hA
        have hcell : ∀ j v, x[j]? = some v → wr.drew.cell? (ad.add j) = some (.int .u8 v) := fun j v hj => by
          obtain ⟨cs, _, hK, hx1⟩ := hcc j v hj
          have := hx1 0 (.int .u8 v) (by rw [hK]; rfl)
          simpa [Kd.int, Kd.scalar] using this
        obtain ⟨ad2, cz, ez, hszz, hKz, hxz⟩ := Kd.C_get (Kd.R_reads' HD.out.sec).2.2 [] (i : Int) (by omega) (by show (i : Int) < ((secTo x n i).length : Int); omega)
        injection ez with ez
        subst ez
        rw [Int.toNat_natCast] at hKz hxz
        have hKz' : cz = nums .u8 (List.replicate 64 0) := by
          have := hKz.1
          rwa [show ((newM x n i).sec.getD i []) = List.replicate 64 0 from secTo_get x n i hlt] at this
        have hcc2 : ∀ j u, cz[j]? = some u → wr.drew.cell? ⟨gs, i * 64 + j, none⟩ = some u := fun j u hj => by
          have := hxz j u hj
          rw [add0] at this
          exact this
        obtain ⟨m, hm⟩ : ∃ m, m = min (x.length - i * 64) 64 := ⟨_, rfl⟩
        have hpl : ((x.drop (i * 64)).take 64).length = m := by rw [List.length_take, List.length_drop, hm, Nat.min_comm]
        have hczl : cz.length = 64 := hszz
        have hseg := Kd.R_seg (W := wr.drew) (g := gs) (cap := c1) (n := n) HD.out.sec (i : Int) (by omega) (by omega) hszz (j := 0) (seg := nums .u8 ((x.drop (i * 64)).take 64)) (x' := secAt x i) (okp := fun _ => False) (by intro j u hj; rw [Int.toNat_natCast]; exact hcc2 j u hj) (by rw [nums_length, hpl]; show 0 + m ≤ 64; omega) ⟨by
            rw [hKz', nums_length, hpl, Nat.zero_add, List.take_zero, List.nil_append]
            simp only [secAt, nums, List.map_append, List.map_replicate, List.drop_replicate, ← hm], secAt_length x i⟩ (fun _ h => h.elim)
        rw [Int.toNat_natCast, Nat.add_zero] at hseg
        obtain ⟨hrow, hgr⟩ := hseg
        have hif : (if c = i * 64 then some ad else some (ad.add (i * 64))) = some (ad.add (i * 64)) := if_neg (by omega)
        have HCP := Aside0.mk (fun ty => run_copy_cells (P := Tryd.prog) wr.drew 22 22 ty 5 gs (i * 64) 64 64 (ad.add (i * 64)) (x.length - i * 64) (c - i * 64) (nums .u8 ((x.drop (i * 64)).take 64)) Tryd.underlying22 (by kernel_rfl) (by rw [nums_length, hpl, hm]) (fun j v hj => by
          simp only [nums, List.getElem?_map, Option.map_eq_some_iff] at hj
          obtain ⟨q, hq, rfl⟩ := hj
          rw [List.getElem?_take] at hq
          split at hq
          · rw [List.getElem?_drop] at hq
            rw [Addr.add_add]
            exact hcell _ _ hq
          · cases hq) (fun j hj => by
          rw [nums_length, hpl] at hj
          obtain ⟨u, hu⟩ : ∃ u, cz[j]? = some u := ⟨cz[j]'(by omega), List.getElem?_eq_getElem _⟩
          rw [hcc2 j u hu]
          rfl) (fun j hj => by
          obtain ⟨inner, ho⟩ := Kd.R_own HD.out.sec
          obtain ⟨cells2, hc2⟩ := own_typed ho gs rfl
          exact blk_frozen (w := wr.drew) hc2 _) (fun v hv => by
          simp only [nums, List.mem_map] at hv
          obtain ⟨_, _, rfl⟩ := hv
          rfl))
        rw [← hif] at HCP
        have hw4 : wrap64 ((i : Int) * 64) = (i : Int) * 64 := by simp only [wrap64]; omega
        have htn : ((i : Int) * 64).toNat = i * 64 := by omega
        have c0 : wr.drew.cell? ⟨w1.heap.size, 0, none⟩ = some (.slice (some ⟨gs, 0, none⟩) n c1) := HD.out.c0
        have hgr' : wr.grownBy (wr.drew.setCells gs (i * 64) (nums .u8 ((x.drop (i * 64)).take 64))) (Value.slice (some ⟨gs, 0, none⟩) n c1).ownBlock := ⟨hgr.os, hgr.tape, hgr.output, hgr.size, hgr.block⟩
        have HD2 := Aside0.mk (show DAt (wr.drew.setCells gs (i * 64) (nums .u8 ((x.drop (i * 64)).take 64))) w.heap.size w1.heap.size (fun k => w.heap.size ≤ k ∧ k < (wr.drew.setCells gs (i * 64) (nums .u8 ((x.drop (i * 64)).take 64))).heap.size) (newM x n (i + 1)) (.slice (some ⟨gs, 0, none⟩) n c1) (.slice none 0 0) (.slice none 0 0) from by
          have hs := secTo_set x n i hlt
          refine ⟨blk_other HD.out.blk HD.out.sec (by decide) hgr', ?_, Kd.R_nil _ _ _ _ _, Kd.R_nil _ _ _ _ _, ⟨HD.out.own.1, Nat.lt_of_lt_of_le HD.out.own.2 hgr'.size⟩, fun k hk => hk⟩
          show Kd.R kSec 68 _ _ _ _ (secTo x n (i + 1))
          rw [← hs]
          exact Kd.R_mono hrow (fun k hk => ⟨hk.1, Nat.lt_of_lt_of_le hk.2 hgr'.size⟩))
        have HB3 := Aside0.mk (HV.out.trans (show Below w.heap.size wr (wr.drew.setCells gs (i * 64) (nums .u8 ((x.drop (i * 64)).take 64))) from ⟨hgr'.os, hgr'.tape, hgr'.output, hgr'.size, fun k hk => hgr'.block k (Nat.lt_of_lt_of_le hk HV.out.size) (fun he => by simp [Value.ownBlock] at he; omega)⟩))
        clear hcc hcell hxz hKz hKz' hcc2 hrow hgr hgr' hif c3 hpl hczl hszz
        go_wp2
        refine start_ (n := 11) (S := fun w' => w'.cell? ⟨w1.heap.size, 0, none⟩ = some (.slice (some ⟨gs, 0, none⟩) n c1)) (ds := [10]) #[false, false, false, false, false, false, false, false, false, false, false] (by kernel_rfl) rfl rfl (c0) (fun hHeld => ?_)
        refine pure_ (i := 0) (N := some 36) (v := ?_) (a' := ?_) #[true, false, false, false, false, false, false, false, false, false, false] rfl rfl (by kernel_rfl) (fun _ _ _ h => h) (Or.inl ⟨by rfl, ?_⟩) ?_ ?_
        rotate_left
        · intro w'
          go_simp
          with_reducible rfl
        rotate_left
        · simp only [Act.put, List.setIfInBounds_toArray, List.set_cons_zero, List.set_cons_succ, i64_w, i32_w]
          rfl
        refine pure_ (i := 1) (N := some 37) (v := ?_) (a' := ?_) #[true, true, false, false, false, false, false, false, false, false, false] rfl rfl (by kernel_rfl) (fun _ _ _ h => h) (Or.inl ⟨by rfl, ?_⟩) ?_ ?_
        rotate_left
        · intro w'
          go_simp
          with_reducible rfl
        rotate_left
        · simp only [Act.put, List.setIfInBounds_toArray, List.set_cons_zero, List.set_cons_succ, i64_w, i32_w]
          rfl
        refine pure_ (i := 2) (N := some 38) (v := ?_) (a' := ?_) #[true, true, true, false, false, false, false, false, false, false, false] rfl rfl (by kernel_rfl) (fun _ _ _ h => h) (Or.inl ⟨by rfl, ?_⟩) ?_ ?_
        rotate_left
        · intro w'
          go_simp
          with_reducible rfl
        rotate_left
        · simp only [Act.put, List.setIfInBounds_toArray, List.set_cons_zero, List.set_cons_succ, i64_w, i32_w]
          rfl
        refine pure_ (i := 4) (N := some 40) (v := ?_) (a' := ?_) #[true, true, true, false, true, false, false, false, false, false, false] rfl rfl (by kernel_rfl) (fun _ _ _ h => h) (Or.inl ⟨by rfl, ?_⟩) ?_ ?_
        rotate_left
        · intro w'
          go_simp
          with_reducible rfl
        rotate_left
        · simp only [Act.put, List.setIfInBounds_toArray, List.set_cons_zero, List.set_cons_succ, i64_w, i32_w]
          rfl
        refine pure_ (i := 7) (N := some 43) (v := ?_) (a' := ?_) #[true, true, true, false, true, false, false, true, false, false, false] rfl rfl (by kernel_rfl) (fun _ _ _ h => h) (Or.inl ⟨by rfl, ?_⟩) ?_ ?_
        rotate_left
        · intro w'
          go_simp
          with_reducible rfl
        rotate_left
        · simp only [Act.put, List.setIfInBounds_toArray, List.set_cons_zero, List.set_cons_succ, i64_w, i32_w]
          rfl
        refine pure_ (i := 8) (N := some 44) (v := ?_) (a' := ?_) #[true, true, true, false, true, false, false, true, true, false, false] rfl rfl (by kernel_rfl) (fun _ _ _ h => h) (Or.inl ⟨by rfl, ?_⟩) ?_ ?_
        rotate_left
        · intro w'
          go_simp
          with_reducible rfl
        rotate_left
        · simp only [Act.put, List.setIfInBounds_toArray, List.set_cons_zero, List.set_cons_succ, i64_w, i32_w]
          rfl
        refine pure_ (i := 9) (N := some 45) (v := ?_) (a' := ?_) #[true, true, true, false, true, false, false, true, true, true, false] rfl rfl (by kernel_rfl) (fun _ _ _ h => h) (Or.inl ⟨by rfl, ?_⟩) ?_ ?_
        rotate_left
        · intro w'
          go_simp
          (try simp only [htn])
          (try rw [if_pos ⟨by omega, by omega⟩])
          (try rw [if_neg (by omega)])
          (try with_reducible rfl)
        rotate_left
        · simp only [Act.put, List.setIfInBounds_toArray, List.set_cons_zero, List.set_cons_succ, i64_w, i32_w]
          rfl
        refine take_ (i := 3) (N := some 39) (v := ?_) (a' := ?_) #[true, true, true, true, true, false, false, true, true, true, false] rfl rfl (by kernel_rfl) (fun _ _ _ h => h) (Or.inl ⟨by rfl, ?_⟩) hHeld ?_ ?_
        rotate_left
        · intro w' s0
          go_simp
          with_reducible rfl
        rotate_left
        · simp only [Act.put, List.setIfInBounds_toArray, List.set_cons_zero, List.set_cons_succ, i64_w, i32_w]
          rfl
        refine pure_ (i := 5) (N := some 41) (v := ?_) (a' := ?_) #[true, true, true, true, true, true, false, true, true, true, false] rfl rfl (by kernel_rfl) (fun _ _ _ h => h) (Or.inl ⟨by rfl, ?_⟩) ?_ ?_
        rotate_left
        · intro w'
          go_simp
          with_reducible rfl
        rotate_left
        · simp only [Act.put, List.setIfInBounds_toArray, List.set_cons_zero, List.set_cons_succ, i64_w, i32_w]
          rfl
        refine pure_ (i := 6) (N := some 42) (v := ?_) (a' := ?_) #[true, true, true, true, true, true, true, true, true, true, false] rfl rfl (by kernel_rfl) (fun _ _ _ h => h) (Or.inl ⟨by rfl, ?_⟩) ?_ ?_
        rotate_left
        · intro w'
          go_simp
          with_reducible rfl
        rotate_left
        · simp only [Act.put, List.setIfInBounds_toArray, List.set_cons_zero, List.set_cons_succ, i64_w, i32_w]
          rfl
        refine last_ (i := 10) (N := some 46) #[true, true, true, true, true, true, true, true, true, true, true] rfl rfl (by kernel_rfl) (by decide) (fun K hK => ?_)
        refine copy_step (by rfl) rfl (.tmp 42) (.tmp 45) 22 22 rfl rfl rfl HCP.out ?_
        refine hK.out _ _ ?_
        clear hK K
        refine norm_ (a' := ?_) ?_ ?_
        rotate_left
        · show Act.put _ (some 46) _ = _
          simp only [Act.put, List.setIfInBounds_toArray, List.set_cons_zero, List.set_cons_succ, i64_w, i32_w]
          rfl
        refine done_ (by kernel_rfl) ?_

        go_wp2
        go_roundw
        case rel => exact ⟨i + 1, by go_num, by omega, HD2, HB3⟩
        case measure => simp [intOf]; omega
      · have HD2 := Aside0.mk (show DAt wr w.heap.size w1.heap.size (fun k => w.heap.size ≤ k ∧ k < wr.heap.size) (newM x n (i + 1)) (.slice A1 n c1) (.slice none 0 0) (.slice none 0 0) by
          have := HD.out
          unfold newM at this ⊢
          rw [secTo_skip x n i hlt (by omega)]
          exact this)
        go_wp2
        go_roundw
        case rel => exact ⟨i + 1, by go_num, by omega, HD2, HV⟩
        case measure => simp [intOf]; omega
    · obtain rfl : i = n := by omega
      go_wp2
      refine bodyPost_ret (results_tmp2 rfl _ _ _) rfl ?_
      exact ⟨_, rfl, ⟨_, _, _, HD.out⟩, HV.out⟩
end Go.Proofs.YtmblnflfklmmkaaDoor.Dk
/- Contracts of package disk: New where it refuses; what is kept by all calls. -/
namespace Go.Proofs.YtmblnflfklmmkaaDoor.Dk
open Go.RowKit Go.Proofs.YtmblnflfklmmkaaDoorW.PrintWords Go.Proofs.YtmblnflfklmmkaaDoorW.PrintLast Go.Proofs.YtmblnflfklmmkaaDoorW.PrintMore
set_option linter.unusedVariables false
set_option linter.unusedSimpArgs false
set_option maxRecDepth 30000
variable {w W W1 : World} {B g N : Nat} {F : Nat → Prop} {D : DM} {vs vh vc : Value}
set_option maxHeartbeats 4000000 in
theorem New_fails (A : Option Addr) (c : Nat) (x : List Int) (n : Int) (hx : x.length ≤ 1000000000) (hbad : newBad x n) :
    Calls Tryd.prog 15 #[.slice A x.length c, .int .i64 n] w fun e w' => e = .returned (.tuple #[.pointer none, .int .i64 1]) ∧ w = w' := by
  by_cases h1 : n < 1
  · clear hbad
    go_enter Tryd.func15, Tryd.ntmps15
    go_wp2
    refine bodyPost_ret (results_tmp2 rfl _ _ _) rfl ?_
    exact ⟨rfl, rfl⟩
  · by_cases h2 : 16384 < n
    · clear hbad
      go_enter Tryd.func15, Tryd.ntmps15
      go_wp2
      refine bodyPost_ret (results_tmp2 rfl _ _ _) rfl ?_
      exact ⟨rfl, rfl⟩
    · have h3 : n * 64 < (x.length : Int) := by
        rcases hbad with h | h | h
        · exact absurd h h1
        · exact absurd h h2
        · exact h
      clear hbad
      go_enter Tryd.func15, Tryd.ntmps15
      go_wp2
      refine bodyPost_ret (results_tmp2 rfl _ _ _) rfl ?_
      exact ⟨rfl, rfl⟩
theorem newM_ok (x : List Int) (n : Nat) (h : n ≤ 16384) : DOk (newM x n n) := by
  refine ⟨fun y hy => by simp [newM] at hy, ?_, by simp [newM], by simp [newM], by simp [newM]⟩
  show (secTo x n n).length ≤ 16384
  rw [secTo_length x n n (Nat.le_refl _)]
  exact h
end Go.Proofs.YtmblnflfklmmkaaDoor.Dk
/- Contracts of package disk: Read where it refuses; rows beside a disk. -/
namespace Go.Proofs.YtmblnflfklmmkaaDoor.Dk
open Go.RowKit Go.Proofs.YtmblnflfklmmkaaDoorW.PrintWords Go.Proofs.YtmblnflfklmmkaaDoorW.PrintLast Go.Proofs.YtmblnflfklmmkaaDoorW.PrintMore
set_option linter.unusedVariables false
set_option linter.unusedSimpArgs false
set_option maxRecDepth 30000
variable {w W W' : World} {B g N : Nat} {F G : Nat → Prop} {D : DM} {vs vh vc : Value}
theorem Read_fails (h : DAt w B g F D vs vh vc) (k : Int) (hk : atM D k ≠ 0) :
    Calls Tryd.prog 56 #[.pointer (some ⟨g, 0, none⟩), .int .i64 k] w fun e w' => e = .returned (.tuple #[.slice none 0 0, .int .i64 (atM D k)]) ∧ w = w' := by
  have H := Aside0.mk h
  obtain ⟨q, hq0⟩ : ∃ q, atM D k = q := ⟨_, rfl⟩
  have HA := Lib.hid hq0
  rw [hq0] at hk
  clear h hq0
  go_enter Tryd.func56, Tryd.ntmps56
  go_wp2_with (first | (go_at_call 74; refine (at_calls H.out k).mono ?_; rintro e w' ⟨rfl, rfl⟩; rw [HA.out]))
  refine bodyPost_ret (results_tmp2 rfl _ _ _) rfl ?_
  exact ⟨by rw [HA.out] <;> rfl, rfl⟩
/-- A row of bytes beside a disk: what the disk's calls leave as it was. -/
structure Row (W : World) (F : Nat → Prop) (v : Value) (xs : List Int) : Prop where
  row : ∃ G, Kd.R (Kd.int .u8) 5 W 0 G v xs ∧ ∀ k, G k → k < W.heap.size ∧ ¬ F k
theorem Row.step {v : Value} {xs : List Int} (h : Row W F v xs) (hu : Upd W W' F) : Row W' (Grow F W W') v xs := by
  obtain ⟨G, h1, h2⟩ := h.row
  exact ⟨G, Kd.R_kept h1 hu.kept (fun k hk => (h2 k hk).2), fun k hk => ⟨Nat.lt_of_lt_of_le (h2 k hk).1 hu.size, fun hg => hg.elim (h2 k hk).2 (fun h => by have := (h2 k hk).1; omega)⟩⟩
theorem Row.same {v : Value} {xs : List Int} (h : Row W F v xs) (hu : Upd W W' F) : Row W' F v xs := by
  obtain ⟨G, h1, h2⟩ := h.row
  exact ⟨G, Kd.R_kept h1 hu.kept (fun k hk => (h2 k hk).2), fun k hk => ⟨Nat.lt_of_lt_of_le (h2 k hk).1 hu.size, (h2 k hk).2⟩⟩
theorem Row.reads {v : Value} {xs : List Int} (h : Row W F v xs) : ∃ A c, v = .slice A xs.length c ∧ xs.length ≤ c ∧ Kd.C (Kd.int .u8) W A xs.length xs := by
  obtain ⟨G, h1, _⟩ := h.row
  exact Kd.R_reads h1
/-- A row that is made beside a disk. -/
theorem Row.new {v : Value} {xs : List Int} {base : Nat} (h : Kd.R (Kd.int .u8) 5 W' base (fun k => base ≤ k) v xs) (hF : ∀ k, F k → k < base) : Row W' F v xs := by
  refine ⟨⟨fun k => base ≤ k ∧ k < W'.heap.size, ?_, fun k hk => ⟨hk.2, fun hf => by have := hF k hf; omega⟩⟩⟩
  have := Kd.R_mono (Kd.R_bound h) (ok' := fun k => base ≤ k ∧ k < W'.heap.size) (fun k hk => ⟨hk.1, hk.2.2.1⟩)
  exact Kd.R_lower this (Nat.zero_le _)
theorem DiskAt.lt (h : DiskAt w B g F D) : ∀ k, F k → k < w.heap.size := by
  obtain ⟨_, _, _, h⟩ := h
  exact fun k hk => (h.lt k hk).2
end Go.Proofs.YtmblnflfklmmkaaDoor.Dk
/- The law's known. -/
namespace Go.Proofs.YtmblnflfklmmkaaDoor.Dk
open Go.RowKit Go.Proofs.YtmblnflfklmmkaaDoorW.PrintWords Go.Proofs.YtmblnflfklmmkaaDoorW.PrintLast Go.Proofs.YtmblnflfklmmkaaDoorW.PrintMore
set_option linter.unusedVariables false
set_option linter.unusedSimpArgs false
set_option maxRecDepth 30000
variable {w W W' : World} {B g N : Nat} {F G : Nat → Prop} {D : DM} {vs vh vc : Value}
def kS : List Int := (List.replicate 64 0).set 0 7
def kD0 : DM := newM [] 2 2
def kD1 : DM := (writeM kD0 0 kS).1
def kD2 : DM := (flushM kD1).1
def kD3 : DM := (setM kD2 0 [true]).1
def kD4 : DM := (writeM kD3 1 kS).1
theorem k1 : (writeM kD0 0 kS).2 = 0 := by decide
theorem k2 : (flushM kD1).2 = 0 := by decide
theorem k3 : (setM kD2 0 [true]).2 = 0 := by decide
theorem k4 : (writeM kD3 1 kS).2 = 60 := by decide
theorem k5 : (bytesM kD1).length = 128 ∧ (bytesM kD1).getD 0 0 = 0 := by decide
theorem k6 : (bytesM kD2).length = 128 ∧ (bytesM kD2).getD 0 0 = 7 := by decide
theorem k7 : (bytesM kD4).length = 128 ∧ (bytesM kD4).getD 64 0 = 7 := by decide
theorem k8 : kD4.down = true ∧ kD4.strokes = 3 := ⟨by kernel_rfl, by kernel_rfl⟩
theorem New2 : Calls Tryd.prog 15 #[.slice none 0 0, .int .i64 2] w fun e w' => ∃ g, e = .returned (.tuple #[.pointer (some ⟨g, 0, none⟩), .int .i64 0]) ∧ DiskAt w' w.heap.size g (fun k => w.heap.size ≤ k ∧ k < w'.heap.size) kD0 ∧ Below w.heap.size w w' :=
  New_calls none 0 [] 2 (by decide) (by decide) ⟨rfl, by decide, fun h => absurd h (by decide)⟩ (by unfold newBad; decide)
theorem nat_row {v : Value} {xs : List Int} (h : Row W F v xs) (i : Nat) (hi : i < xs.length) : ∃ ad c, v = .slice (some ad) xs.length c ∧ W.cell? (ad.add i) = some (.int .u8 (xs.getD i 0)) := by
  obtain ⟨A, c, rfl, hc, h1, h2, h3⟩ := h.reads
  obtain ⟨ad, hA, hcc⟩ := h3 (by omega)
  subst hA
  refine ⟨ad, c, rfl, ?_⟩
  obtain ⟨cs, _, hK, hx1⟩ := hcc i (xs[i]) (List.getElem?_eq_getElem hi)
  have := hx1 0 (.int .u8 (xs[i])) (by rw [hK]; rfl)
  rw [List.getD_eq_getElem?_getD, List.getElem?_eq_getElem hi]
  simpa [Kd.int, Kd.scalar] using this
theorem made_cells {gs c2 b : Nat} {ok : Nat → Prop} (h : Kd.R (Kd.int .u8) 5 W b ok (.slice (some ⟨gs, 0, none⟩) 64 c2) (List.replicate 64 0)) : ∀ j u, ([.int .u8 0] : List Value)[j]? = some u → W.cell? ⟨gs, (0 : Int).toNat * (Kd.int .u8).sz + j, none⟩ = some u := fun j u hj => by
  obtain ⟨ad, c, e, hsz, hK, hx⟩ := Kd.C_get (Kd.R_reads' h).2.2 0 (0 : Int) (by decide) (by decide)
  injection e with e
  subst e
  have := hx j u (by rw [hK]; exact hj)
  rwa [add0] at this
theorem Row.C64 {A : Option Addr} {c : Nat} (h : Row W F (.slice A 64 c) kS) : Kd.C (Kd.int .u8) W A 64 kS := by
  obtain ⟨G, h1, _⟩ := h.row
  exact (Kd.R_reads' h1).2.2
theorem BytesD (h : DiskAt w B g F D) (hok : DOk D) :
    Calls Tryd.prog 17 #[.pointer (some ⟨g, 0, none⟩)] w fun e w' => ∃ v, e = .returned v ∧ DiskAt w' B g F D ∧ Row w' F v (bytesM D) ∧ Upd w w' F := by
  have hl := h.lt
  have hh := h
  obtain ⟨_, _, _, h⟩ := h
  refine (Bytes_calls h hok).mono ?_
  rintro e w' ⟨v, rfl, hr, hb⟩
  exact ⟨v, rfl, hh.frame (Upd.of_below (F := fun _ => False) hb) (fun _ _ _ h => h), Row.new hr hl, Upd.of_below hb⟩
theorem FlushD (h : DiskAt w B g F D) (hok : DOk D) :
    Calls Tryd.prog 19 #[.pointer (some ⟨g, 0, none⟩)] w fun e w' => e = .returned (.int .i64 (flushM D).2) ∧ DiskAt w' B g F (flushM D).1 ∧ Upd w w' F := by
  obtain ⟨_, _, _, h⟩ := h
  exact Flush_calls h hok
theorem SetD (h : DiskAt w B g F D) (n : Int) (A : Option Addr) (c : Nat) (l : List Bool) (hC : Kd.C Kd.bool w A l.length l) :
    Calls Tryd.prog 20 #[.pointer (some ⟨g, 0, none⟩), .int .i64 n, .slice A l.length c] w fun e w' => e = .returned (.int .i64 (setM D n l).2) ∧ DiskAt w' B g (Grow F w w') (setM D n l).1 ∧ Upd w w' F := by
  obtain ⟨_, _, _, h⟩ := h
  exact Set_calls h n A c l hC
theorem UpD (h : DiskAt w B g F D) : Calls Tryd.prog 40 #[.pointer (some ⟨g, 0, none⟩)] w fun e w' => e = .returned (.bool (!D.down)) ∧ w = w' := by
  obtain ⟨_, _, _, h⟩ := h
  exact Up_calls h
theorem DiskAt.lo (h : DiskAt w B g F D) : ∀ k, F k → B ≤ k := by
  obtain ⟨_, _, _, h⟩ := h
  exact fun k hk => (h.lt k hk).1
theorem C_true (h : W.heap[N]? = some (.cells #[.bool true] 4 (0, 0))) : Kd.C Kd.bool W (some ⟨N, 0, none⟩) 1 [true] := by
  refine ⟨rfl, by decide, fun _ => ⟨_, rfl, fun j p hj => ⟨[.bool p], rfl, rfl, fun i u hu => ?_⟩⟩⟩
  cases i with
  | succ i => simp at hu
  | zero =>
    cases j with
    | succ j => simp at hj
    | zero =>
      simp only [List.getElem?_cons_zero, Option.some.injEq] at hu hj
      subst hu; subst hj
      rw [add0, World.cell?, h]
      rfl
theorem setM_okT (h : DOk D) : DOk (setM D 0 [true]).1 := by
  have : (setM D 0 [true]).1 = { D with set := true, left := 0, choice := [true] } := by simp [setM]
  rw [this]
  exact ⟨h.at_, h.n1, h.n2, by simp, by simp⟩
theorem ok0 : DOk kD0 := newM_ok [] 2 (by decide)
theorem ok1 : DOk kD1 := writeM_ok ok0 (by decide)
theorem ok2 : DOk kD2 := flushM_ok ok1
theorem ok3 : DOk kD3 := setM_okT ok2
theorem ok4 : DOk kD4 := writeM_ok ok3 (by decide)
end Go.Proofs.YtmblnflfklmmkaaDoor.Dk
/- What a disk of the reference is in memory (its answers are of no account: only that its calls end and touch nothing else); there, stroke, Start. -/
namespace Go.Proofs.YtmblnflfklmmkaaDoor.Dk
open Go.RowKit Go.Proofs.YtmblnflfklmmkaaDoorW.PrintWords Go.Proofs.YtmblnflfklmmkaaDoorW.PrintLast Go.Proofs.YtmblnflfklmmkaaDoorW.PrintMore
set_option linter.unusedVariables false
set_option linter.unusedSimpArgs false
set_option maxRecDepth 30000
def kBy : Kd (List Int) := Kd.slice 5 (Kd.int .u8)
def kWa : Kd (Int × List Int) := Kd.pair (Kd.int .i64) kBy
structure RM where
  sec : List (List Int)
  wait : List (Int × List Int)
  down : Bool
  strokes : Int
  left : Int
  choice : List Bool
structure RAt (w : World) (B g : Nat) (F : Nat → Prop) (R : RM) (vs vh vc : Value) : Prop where
  blk : w.heap[g]? = some (.cells #[vs, vh, .bool R.down, .int .i64 R.strokes, .int .i64 R.left, vc] 113 (0, 0))
  sec : Kd.R kBy 22 w B F vs R.sec
  wait : Kd.R kWa 116 w B F vh R.wait
  choice : ∃ A c, vc = .slice A R.choice.length c ∧ R.choice.length ≤ c ∧ ∀ W, Upd w W (fun k => B ≤ k) → Kd.C Kd.bool W A R.choice.length R.choice
  own : F g
  lt : ∀ k, F k → B ≤ k ∧ k < w.heap.size
variable {w w1 : World} {B g : Nat} {F G : Nat → Prop} {R : RM} {vs vh vc : Value}
theorem RAt.cell (h : RAt w B g F R vs vh vc) (j : Nat) : w.cell? ⟨g, j, none⟩ = #[vs, vh, .bool R.down, .int .i64 R.strokes, .int .i64 R.left, vc][j]? := by simp [World.cell?, h.blk]
theorem RAt.free (h : RAt w B g F R vs vh vc) (j : Nat) : w.frozen? ⟨g, j, none⟩ = false := by simp [World.frozen?, h.blk]
theorem RAt.c0 (h : RAt w B g F R vs vh vc) : w.cell? ⟨g, 0, none⟩ = some vs := h.cell 0
theorem RAt.c1 (h : RAt w B g F R vs vh vc) : w.cell? ⟨g, 1, none⟩ = some vh := h.cell 1
theorem RAt.c2 (h : RAt w B g F R vs vh vc) : w.cell? ⟨g, 2, none⟩ = some (.bool R.down) := h.cell 2
theorem RAt.c3 (h : RAt w B g F R vs vh vc) : w.cell? ⟨g, 3, none⟩ = some (.int .i64 R.strokes) := h.cell 3
theorem RAt.c4 (h : RAt w B g F R vs vh vc) : w.cell? ⟨g, 4, none⟩ = some (.int .i64 R.left) := h.cell 4
theorem RAt.c5 (h : RAt w B g F R vs vh vc) : w.cell? ⟨g, 5, none⟩ = some vc := h.cell 5
/-- Another object was written, or new ones were made. -/
theorem RAt.frame (h : RAt w B g F R vs vh vc) (hu : Upd w w1 G) (hd : ∀ k, F k → ¬ G k) (hG : ∀ k, G k → B ≤ k) : RAt w1 B g F R vs vh vc where
  blk := (hu.block g (h.lt g h.own).2 (hd g h.own)).trans h.blk
  sec := Kd.R_kept h.sec hu.kept hd
  wait := Kd.R_kept h.wait hu.kept hd
  choice := by
    obtain ⟨A, c, h1, h2, h3⟩ := h.choice
    exact ⟨A, c, h1, h2, fun W hW => h3 W ((hu.mono hG).trans hW (fun _ h => .inl h))⟩
  own := h.own
  lt := fun k hk => ⟨(h.lt k hk).1, Nat.lt_of_lt_of_le (h.lt k hk).2 hu.size⟩
theorem RAt.below (h : RAt w B g F R vs vh vc) (hb : Below w.heap.size w w1) : RAt w1 B g F R vs vh vc where
  blk := (hb.block g (h.lt g h.own).2).trans h.blk
  sec := Kd.R_below h.sec hb
  wait := Kd.R_below h.wait hb
  choice := by
    obtain ⟨A, c, h1, h2, h3⟩ := h.choice
    exact ⟨A, c, h1, h2, fun W hW => h3 W ((Upd.of_below hb).trans hW (fun _ h => .inl h))⟩
  own := h.own
  lt := fun k hk => ⟨(h.lt k hk).1, Nat.lt_of_lt_of_le (h.lt k hk).2 hb.size⟩
/-- A store into one of the struct's fields. -/
theorem RAt.put (h : RAt w B g F R vs vh vc) (j : Nat) (u : Value) (R' : RM) (vs' vh' : Value) (hc : (#[vs, vh, .bool R.down, .int .i64 R.strokes, .int .i64 R.left, vc] : Array Value).setIfInBounds j u = #[vs', vh', .bool R'.down, .int .i64 R'.strokes, .int .i64 R'.left, vc])
    (hs : Kd.R kBy 22 w B F vs' R'.sec) (hh : Kd.R kWa 116 w B F vh' R'.wait) (hch : R'.choice = R.choice) : RAt (w.setCell ⟨g, j, none⟩ u) B g F R' vs' vh' vc where
  blk := by rw [heap_setCell_same w g j _ 113 u h.blk, hc]
  sec := Kd.R_set hs h.blk (by simp [kBy, Kd.slice, Kd.int, Kd.scalar]) j u
  wait := Kd.R_set hh h.blk (by simp [kWa, kBy, Kd.pair, Kd.slice, Kd.int, Kd.scalar]) j u
  choice := by
    obtain ⟨A, c, h1, h2, h3⟩ := h.choice
    rw [hch]
    exact ⟨A, c, h1, h2, fun W hW => h3 W (((Upd.refl w (fun k => B ≤ k)).setCell (p := ⟨g, j, none⟩) (.inl (h.lt g h.own).1) u).trans hW (fun _ h => .inl h))⟩
  own := h.own
  lt := fun k hk => ⟨(h.lt k hk).1, by simpa [World.setCell] using (h.lt k hk).2⟩
theorem RAt.upd (h : RAt w B g F R vs vh vc) (j : Nat) (u : Value) : Upd w (w.setCell ⟨g, j, none⟩ u) F := (Upd.refl w F).setCell (.inl h.own) u
def rstartM (R : RM) : RM := { R with down := false, left := -1 }
theorem rStart_calls (h : RAt w B g F R vs vh vc) : Calls Tryd.prog 52 #[.pointer (some ⟨g, 0, none⟩)] w fun e w' => e = .returned (.tuple #[]) ∧ RAt w' B g F (rstartM R) vs vh vc ∧ Upd w w' F := by
  have H := Aside0.mk h
  have hf := h.free
  have h2 := h.c2
  have h4 := h.c4
  clear h
  go_enter Tryd.func52, Tryd.ntmps52
  go_wp2
  have H1 := H.out.put 2 (.bool false) { R with down := false } vs vh rfl H.out.sec H.out.wait rfl
  have H2 := H1.put 4 (.int .i64 (-1)) (rstartM R) vs vh rfl H1.sec H1.wait rfl
  have HU := (H.out.upd 2 (.bool false)).trans (H1.upd 4 (.int .i64 (-1))) (fun _ h => .inl h)
  go_end0
  exact ⟨rfl, H2, HU⟩
def thereM (R : RM) (k : Int) : Int := if R.down = true then 60 else if k < 0 ∨ (R.sec.length : Int) ≤ k then 61 else 0
theorem there_calls (h : RAt w B g F R vs vh vc) (k : Int) : Calls Tryd.prog 75 #[.pointer (some ⟨g, 0, none⟩), .int .i64 k] w fun e w' => e = .returned (.int .i64 (thereM R k)) ∧ w = w' := by
  obtain ⟨A, c, rfl, _⟩ := Kd.R_reads h.sec
  have h0 := h.c0
  have h2 := h.c2
  clear h
  cases hd : R.down with
  | true =>
    rw [hd] at h2
    have hr := Lib.hid (show thereM R k = 60 by simp [thereM, hd])
    clear hd
    go_enter Tryd.func75, Tryd.ntmps75
    go_wp2
    go_ret
    exact ⟨by rw [hr.out] <;> rfl, rfl⟩
  | false =>
    rw [hd] at h2
    by_cases hk : k < 0
    · have hr := Lib.hid (show thereM R k = 61 by simp [thereM, hd, hk])
      clear hd
      go_enter Tryd.func75, Tryd.ntmps75
      go_wp2
      go_ret
      exact ⟨by rw [hr.out] <;> rfl, rfl⟩
    · by_cases hk2 : (R.sec.length : Int) ≤ k
      · have hr := Lib.hid (show thereM R k = 61 by simp [thereM, hd, hk2])
        clear hd
        go_enter Tryd.func75, Tryd.ntmps75
        go_wp2
        go_ret
        exact ⟨by rw [hr.out] <;> rfl, rfl⟩
      · have hr := Lib.hid (show thereM R k = 0 by simp [thereM, hd, hk, hk2])
        clear hd
        go_enter Tryd.func75, Tryd.ntmps75
        go_wp2
        go_ret
        exact ⟨by rw [hr.out] <;> rfl, rfl⟩
end Go.Proofs.YtmblnflfklmmkaaDoor.Dk
/- The reference's stroke and Set. -/
namespace Go.Proofs.YtmblnflfklmmkaaDoor.Dk
open Go.RowKit Go.Proofs.YtmblnflfklmmkaaDoorW.PrintWords Go.Proofs.YtmblnflfklmmkaaDoorW.PrintLast Go.Proofs.YtmblnflfklmmkaaDoorW.PrintMore
set_option linter.unusedVariables false
set_option linter.unusedSimpArgs false
set_option maxRecDepth 30000
variable {w w1 : World} {B g : Nat} {F G : Nat → Prop} {R : RM} {vs vh vc : Value}
def strokeM (R : RM) : RM × Bool :=
  if R.left - 1 = -1 then ({ R with strokes := wrap64 (R.strokes + 1), left := R.left - 1 }, true)
  else if R.left - 1 < -1 then ({ R with strokes := wrap64 (R.strokes + 1), left := -1 }, false) else ({ R with strokes := wrap64 (R.strokes + 1), left := R.left - 1 }, false)
set_option maxHeartbeats 2000000 in
theorem stroke_calls (h : RAt w B g F R vs vh vc) (hl : -1 ≤ R.left) (hl2 : R.left ≤ 9223372036854775807) : Calls Tryd.prog 76 #[.pointer (some ⟨g, 0, none⟩)] w fun e w' => e = .returned (.bool (strokeM R).2) ∧ RAt w' B g F (strokeM R).1 vs vh vc ∧ Upd w w' F := by
  have H := Aside0.mk h
  have hf := h.free
  have h3 := h.c3
  have h4 := h.c4
  have H1 := h.put 3 (.int .i64 (wrap64 (R.strokes + 1))) { R with strokes := wrap64 (R.strokes + 1) } vs vh rfl h.sec h.wait rfl
  have H2 := Aside0.mk (H1.put 4 (.int .i64 (R.left - 1)) { R with strokes := wrap64 (R.strokes + 1), left := R.left - 1 } vs vh rfl H1.sec H1.wait rfl)
  have HU2 := Aside0.mk ((h.upd 3 (.int .i64 (wrap64 (R.strokes + 1)))).trans (H1.upd 4 (.int .i64 (R.left - 1))) (fun _ h => .inl h))
  clear h H1
  by_cases ha : R.left - 1 = -1
  · have hq := Lib.hid (show strokeM R = ({ R with strokes := wrap64 (R.strokes + 1), left := R.left - 1 }, true) by simp [strokeM, ha])
    have ta : (R.left - 1 == -1) = true := by simpa using ha
    clear ha
    go_enter Tryd.func76, Tryd.ntmps76
    go_wp2
    go_ret
    exact ⟨by rw [hq.out] <;> rfl, by rw [hq.out]; exact H2.out, HU2.out⟩
  · by_cases hb : R.left - 1 < -1
    · have hq := Lib.hid (show strokeM R = ({ R with strokes := wrap64 (R.strokes + 1), left := -1 }, false) by simp [strokeM, ha, hb])
      have H3 := Aside0.mk (H2.out.put 4 (.int .i64 (-1)) { R with strokes := wrap64 (R.strokes + 1), left := -1 } vs vh rfl H2.out.sec H2.out.wait rfl)
      have HU3 := Aside0.mk (HU2.out.trans (H2.out.upd 4 (.int .i64 (-1))) (fun _ h => .inl h))
      go_enter Tryd.func76, Tryd.ntmps76
      go_wp2
      go_ret
      exact ⟨by rw [hq.out] <;> rfl, by rw [hq.out]; exact H3.out, HU3.out⟩
    · have hq := Lib.hid (show strokeM R = ({ R with strokes := wrap64 (R.strokes + 1), left := R.left - 1 }, false) by simp [strokeM, ha, hb])
      go_enter Tryd.func76, Tryd.ntmps76
      go_wp2
      go_ret
      exact ⟨by rw [hq.out] <;> rfl, by rw [hq.out]; exact H2.out, HU2.out⟩
def rsetM (R : RM) (n : Int) (l : List Bool) : RM := if n < 0 then R else if (l.length : Int) > 4096 then R else { R with left := n, choice := l }
def rsetE (n : Int) (l : List Bool) : Int := if n < 0 then 1 else if (l.length : Int) > 4096 then 2 else 0
theorem RAt.putChoice (h : RAt w B g F R vs vh vc) (A : Option Addr) (c : Nat) (l : List Bool) (hc : l.length ≤ c) (hC : ∀ W, Upd w W (fun k => B ≤ k) → Kd.C Kd.bool W A l.length l) : RAt (w.setCell ⟨g, 5, none⟩ (.slice A l.length c)) B g F { R with choice := l } vs vh (.slice A l.length c) where
  blk := by rw [heap_setCell_same w g 5 _ 113 _ h.blk]; rfl
  sec := Kd.R_set h.sec h.blk (by simp [kBy, Kd.slice, Kd.int, Kd.scalar]) 5 _
  wait := Kd.R_set h.wait h.blk (by simp [kWa, kBy, Kd.pair, Kd.slice, Kd.int, Kd.scalar]) 5 _
  choice := ⟨A, c, rfl, hc, fun W hW => hC W (((h.upd 5 _).mono (fun k hk => (h.lt k hk).1)).trans hW (fun _ h => .inl h))⟩
  own := h.own
  lt := fun k hk => ⟨(h.lt k hk).1, by simpa [World.setCell] using (h.lt k hk).2⟩
set_option maxHeartbeats 2000000 in
theorem rSet_calls (h : RAt w B g F R vs vh vc) (n : Int) (A : Option Addr) (c : Nat) (l : List Bool) (hc : l.length ≤ c) (hC : ∀ W, Upd w W (fun k => B ≤ k) → Kd.C Kd.bool W A l.length l) :
    Calls Tryd.prog 50 #[.pointer (some ⟨g, 0, none⟩), .int .i64 n, .slice A l.length c] w fun e w' => e = .returned (.int .i64 (rsetE n l)) ∧ (∃ vc', RAt w' B g F (rsetM R n l) vs vh vc') ∧ Upd w w' F := by
  have H := Aside0.mk h
  have hf := h.free
  have h4 := h.c4
  have h5 := h.c5
  have H1 := h.put 4 (.int .i64 n) { R with left := n } vs vh rfl h.sec h.wait rfl
  have H2 := Aside0.mk (H1.putChoice A c l hc (fun W hW => hC W (((h.upd 4 (.int .i64 n)).mono (fun k hk => (h.lt k hk).1)).trans hW (fun _ h => .inl h))))
  have HU2 := Aside0.mk ((h.upd 4 (.int .i64 n)).trans (H1.upd 5 (.slice A l.length c)) (fun _ h => .inl h))
  clear h H1 hC
  by_cases hn : n < 0
  · have hq := Lib.hid (show rsetM R n l = R by simp [rsetM, hn])
    have he := Lib.hid (show rsetE n l = 1 by simp [rsetE, hn])
    go_enter Tryd.func50, Tryd.ntmps50
    go_wp2
    go_ret
    exact ⟨by rw [he.out] <;> rfl, by rw [hq.out]; exact ⟨_, H.out⟩, Upd.refl _ _⟩
  · by_cases hl : (l.length : Int) > 4096
    · have hq := Lib.hid (show rsetM R n l = R by simp [rsetM, hn, hl])
      have he := Lib.hid (show rsetE n l = 2 by simp [rsetE, hn, hl])
      go_enter Tryd.func50, Tryd.ntmps50
      go_wp2
      go_ret
      exact ⟨by rw [he.out] <;> rfl, by rw [hq.out]; exact ⟨_, H.out⟩, Upd.refl _ _⟩
    · have hq := Lib.hid (show rsetM R n l = { R with left := n, choice := l } by simp [rsetM, hn, hl])
      have he := Lib.hid (show rsetE n l = 0 by simp [rsetE, hn, hl])
      go_enter Tryd.func50, Tryd.ntmps50
      go_wp2
      go_ret
      exact ⟨by rw [he.out] <;> rfl, by rw [hq.out]; exact ⟨_, H2.out⟩, HU2.out⟩
end Go.Proofs.YtmblnflfklmmkaaDoor.Dk
/- The reference's Lose. -/
namespace Go.Proofs.YtmblnflfklmmkaaDoor.Dk
open Go.RowKit Go.Proofs.YtmblnflfklmmkaaDoorW.PrintWords Go.Proofs.YtmblnflfklmmkaaDoorW.PrintLast Go.Proofs.YtmblnflfklmmkaaDoorW.PrintMore
set_option linter.unusedVariables false
set_option linter.unusedSimpArgs false
set_option maxRecDepth 30000
variable {w w1 : World} {B g : Nat} {F G : Nat → Prop} {R : RM} {vs vh vc : Value}
structure ROk (R : RM) : Prop where
  at_ : ∀ h ∈ R.wait, 0 ≤ h.1 ∧ h.1 < (R.sec.length : Int)
  s64 : ∀ s ∈ R.sec, s.length = 64
  w64 : ∀ h ∈ R.wait, h.2.length = 64
  n1 : R.sec.length ≤ 16384
  n2 : R.wait.length ≤ 10000000
  l0 : -1 ≤ R.left
  l1 : R.left ≤ 9223372036854775807
/-- The i-th waiting write: its two cells, and where its sector goes. -/
theorem wait_elem {gs gh : Nat} {ns cs nh ch : Nat} {L : List (List Int)} {K : List (Int × List Int)} (hs : Kd.R kBy 22 w B F (.slice (some ⟨gs, 0, none⟩) ns cs) L) (h : Kd.R kWa 116 w B F (.slice (some ⟨gh, 0, none⟩) nh ch) K) (i : Nat) (hi : i < nh) :
    ∃ u, w.cell? ⟨gh, i * 2, none⟩ = some (.int .i64 (K.getD i (0, [])).1) ∧ w.cell? ⟨gh, i * 2 + 1, none⟩ = some u ∧ Kd.R (Kd.int .u8) 5 w B (fun k => F k ∧ k ≠ gs) u (K.getD i (0, [])).2 := by
  obtain ⟨c, hl, hM, hx, _⟩ := Kd.R_elem h (0, []) (i : Int) (by omega) (by omega)
  rw [Int.toNat_natCast] at hM hx
  obtain ⟨c0, c1, rfl, h0, u, rfl, hr⟩ := hM
  have h0' : c0 = [.int .i64 (K.getD i (0, [])).1] := h0
  subst h0'
  refine ⟨u, hx 0 _ rfl, hx 1 _ rfl, ?_⟩
  refine Kd.R_mono (Kd.R_bound hr) (fun k hk => ⟨hk.1.1, fun he => ?_⟩)
  obtain ⟨_, _, hlt, q, hq, cells, hc⟩ := hk
  obtain ⟨inner, ho⟩ := Kd.R_own hs
  obtain ⟨cells2, hc2⟩ := own_typed ho gs rfl
  rw [he, hc2] at hc
  injection hc with hc
  injection hc with _ hc _
  simp only [Kd.int, Kd.scalar, List.mem_cons, List.not_mem_nil, or_false] at hq
  rw [hq] at hc
  exact absurd hc (by decide)
def rkeep (l : List Bool) (i : Nat) : Bool := decide (i < 4096) && chB l i
def rloseM (l : List Bool) (R : RM) : RM := if R.down = true then R else { R with sec := putsTo (rkeep l) R.wait R.sec R.wait.length, wait := [], down := true }
/-- The waiting writes' rows are of other types than the sectors' row. -/
theorem wait_kept {gs ns cs : Nat} {v : Value} {L : List (List Int)} {K : List (Int × List Int)} (hs : Kd.R kBy 22 w B F (.slice (some ⟨gs, 0, none⟩) ns cs) L) (h : Kd.R kWa 116 w B F v K) (hg : w.grownBy w1 (Value.slice (some ⟨gs, 0, none⟩) ns cs).ownBlock) : Kd.R kWa 116 w1 B F v K := by
  refine Kd.R_mono (Kd.R_move (Kd.R_bound h) (fun k hk => ?_)) (fun k hk => hk.1)
  obtain ⟨_, _, hlt, q, hq, cells, hc⟩ := hk
  refine hg.block k hlt (fun he => ?_)
  obtain ⟨inner, ho⟩ := Kd.R_own hs
  obtain ⟨cells2, hc2⟩ := own_typed ho k he.symm
  rw [hc] at hc2
  injection hc2 with hc2
  injection hc2 with _ hc2 _
  simp only [kWa, kBy, Kd.pair, Kd.slice, Kd.int, Kd.scalar, List.mem_cons, List.nil_append, List.not_mem_nil, or_false] at hq
  rcases hq with rfl | rfl
  · exact absurd hc2 (by decide)
  · exact absurd hc2 (by decide)
theorem RAt.sec_blk {gs ns cs : Nat} (h : RAt w B g F R (.slice (some ⟨gs, 0, none⟩) ns cs) vh vc) : g ≠ gs := by
  rintro rfl
  obtain ⟨inner, ho⟩ := Kd.R_own h.sec
  obtain ⟨cells2, hc2⟩ := own_typed ho g rfl
  have := h.blk
  rw [hc2] at this
  injection this with this
  injection this with _ this _
  exact absurd this (by decide)
set_option maxHeartbeats 8000000 in
theorem rLose_calls (h : RAt w B g F R vs vh vc) (hok : ROk R) (A : Option Addr) (c : Nat) (l : List Bool) (hC : ∀ W, Upd w W F → Kd.C Kd.bool W A l.length l) :
    Calls Tryd.prog 51 #[.pointer (some ⟨g, 0, none⟩), .slice A l.length c] w fun e w' => e = .returned (.tuple #[]) ∧ (∃ vh', RAt w' B g F (rloseM l R) vs vh' vc) ∧ Upd w w' F := by
  have H := Aside0.mk h
  have HOK := Aside0.mk hok
  have HC := Aside0.mk hC
  obtain ⟨As, cs, rfl, hsl, _⟩ := Kd.R_reads h.sec
  obtain ⟨Ah, ch, rfl, hhl, _⟩ := Kd.R_reads h.wait
  have h2 := h.c2
  have h1 := h.c1
  clear h hok hC
  cases hd : R.down with
  | true =>
    rw [hd] at h2
    have hq := Lib.hid (show rloseM l R = R by simp [rloseM, hd])
    clear hd
    go_enter Tryd.func51, Tryd.ntmps51
    go_wp2
    refine bodyPost_ret (results_none rfl _ _ _) rfl ?_
    exact ⟨rfl, by rw [hq.out]; exact ⟨_, H.out⟩, Upd.refl _ _⟩
  | false =>
    rw [hd] at h2
    have hq := Lib.hid (show rloseM l R = { R with sec := putsTo (rkeep l) R.wait R.sec R.wait.length, wait := [], down := true } by simp [rloseM, hd])
    clear hd
    go_enter Tryd.func51, Tryd.ntmps51
    go_wp2
    go_loopw [4] (fun v4 w' => ∃ i : Nat, v4 = .int .i64 i ∧ i ≤ R.wait.length ∧ Aside0 (RAt w' B g F { R with sec := putsTo (rkeep l) R.wait R.sec i } (.slice As R.sec.length cs) (.slice Ah R.wait.length ch) vc) ∧ Aside0 (Upd w w' F)) (fun v4 _ => R.wait.length - (intOf v4).toNat)
    case atStart => exact ⟨0, rfl, Nat.zero_le _, H, ⟨Upd.refl _ _⟩⟩
    case round =>
      obtain ⟨i, rfl, hi, HD, HU⟩ := hrel
      clear h1 h2
      have hn2 := HOK.out.n2
      have h1 := HD.out.c1
      by_cases hlt : i < R.wait.length
      · by_cases hil : i < l.length
        · by_cases hi4 : i < 4096
          · obtain ⟨_, _, c3⟩ := HC.out wr HU.out
            obtain ⟨ad, hA, hcc⟩ := c3 (by omega)
            subst hA
            have hcb : wr.cell? (ad.add i) = some (.bool (l[i])) := by
              obtain ⟨cs0, _, hK, hx1⟩ := hcc i (l[i]) (List.getElem?_eq_getElem hil)
              have := hx1 0 (.bool (l[i])) (by rw [hK]; rfl)
              simpa [Kd.bool, Kd.scalar] using this
            have hch : chB l i = l[i] := by simp [chB, hil]
            clear hcc c3
            cases hb : l[i] with
            | false =>
              rw [hb] at hcb hch
              have HP := Aside0.mk (show putsTo (rkeep l) R.wait R.sec (i + 1) = putsTo (rkeep l) R.wait R.sec i by simp [putsTo, rkeep, hch])
              have t4 : decide ((i : Int) < 4096) = true := decide_eq_true (by omega)
              clear hb hch hi4
              go_wp2
              go_roundw
              case rel => exact ⟨i + 1, by go_num, by omega, ⟨by rw [HP.out]; exact HD.out⟩, HU⟩
              case measure => simp [intOf]; omega
            | true =>
              rw [hb] at hcb hch
              have hk : rkeep l i = true := by simp [rkeep, hch, hi4]
              have t4 : decide ((i : Int) < 4096) = true := decide_eq_true (by omega)
              have HP := Aside0.mk (show putsTo (rkeep l) R.wait R.sec (i + 1) = (putsTo (rkeep l) R.wait R.sec i).set (R.wait.getD i (0, [])).1.toNat (R.wait.getD i (0, [])).2 by simp [putsTo, hk])
              clear hb hch hi4 hk
              obtain ⟨ha0, ha1⟩ := HOK.out.at_ (R.wait.getD i (0, [])) (by rw [List.getD_eq_getElem?_getD, List.getElem?_eq_getElem hlt]; exact List.getElem_mem hlt)
              rcases R_cases HD.out.wait with ⟨_, hz⟩ | ⟨gh, caph, eh, hgh⟩
              · have : R.wait.length = 0 := by rw [hz]; rfl
                omega
              rcases R_cases HD.out.sec with ⟨_, hz⟩ | ⟨gs, caps', es, hgs⟩
              · have : (putsTo (rkeep l) R.wait R.sec i).length = 0 := congrArg List.length hz
                rw [putsTo_length] at this
                omega
              injection eh with eh1 eh2 eh3
              injection es with es1 es2 es3
              subst eh1; subst es1
              clear eh2 eh3 es2 es3
              obtain ⟨u, hu1, hu2, hu3⟩ := wait_elem HD.out.sec HD.out.wait i hlt
              obtain ⟨a, b, hab⟩ : ∃ a b, R.wait.getD i (0, []) = (a, b) := ⟨_, _, rfl⟩
              have hu1' : wr.cell? ⟨gh, i * 2, none⟩ = some (.int .i64 (R.wait.getD i (0, [])).1) := hu1
              have hu3' : Kd.R (Kd.int .u8) 5 wr B (fun k => F k ∧ k ≠ gs) u (R.wait.getD i (0, [])).2 := hu3
              clear hu1 hu3
              rw [hab] at HP ha0 ha1 hu1' hu3'
              dsimp only at HP ha0 ha1 hu1' hu3'
              have HU3 := Aside0.mk hu3'
              obtain ⟨Au, cu, rfl⟩ := Kd.R_slice hu3'
              have h0 := HD.out.c0
              have hf := HD.out.free
              clear hab hu3'
              go_wp2
              refine wp_region_still_tail 21 (by kernel_rfl) (by kernel_rfl) ?_
              simp only [List.take_succ_cons, List.take_zero, List.drop_succ_cons, List.drop_zero]
              change wpStill _ _ wr.drew _ _ _
              repeat still_step
              refine wpStill_nil ?_
              change wpList _ _ _ _ _ wr.drew
              obtain ⟨c2, hsz2, hM2, hx2, _⟩ := Kd.R_elem HD.out.sec [] a ha0 ha1
              refine Kd.R_store kBy (w0 := wr.drew) B rfl rfl 22 (.tmp 52) (.tmp 51) rfl 22 (g := gs) (n := R.sec.length) (cap := cs) (o' := a.toNat) a 0 (putsTo (rkeep l) R.wait R.sec i) b (.slice Au b.length cu) [.slice Au b.length cu] c2 F (fun k => F k ∧ k ≠ gs) rfl (by show a.toNat = a.toNat * 1 + 0; omega) rfl rfl (by kernel_rfl) (by intro q hq; simp only [List.mem_singleton] at hq; rw [hq]; rfl) HD.out.sec ha0 ha1 hsz2 hx2 (Nat.le_refl 1) ⟨_, by rw [List.take_zero, List.nil_append, List.drop_of_length_le (show c2.length ≤ 0 + [Value.slice Au b.length cu].length from Nat.le_of_eq hsz2), List.append_nil], HU3.out⟩ (fun _ h => h) (Below.refl _ _) ?_
              intro w5 hr5 hb5 hg5d
              have hg5 : wr.grownBy w5 (Value.slice (some ⟨gs, 0, none⟩) R.sec.length cs).ownBlock := ⟨hg5d.os, hg5d.tape, hg5d.output, hg5d.size, hg5d.block⟩
              have hU5 : Upd wr w5 F := Upd.of_row HD.out.sec hg5
              have HD5 := Aside0.mk (show RAt w5 B g F { R with sec := putsTo (rkeep l) R.wait R.sec (i + 1) } (.slice (some ⟨gs, 0, none⟩) R.sec.length cs) (.slice (some ⟨gh, 0, none⟩) R.wait.length ch) vc from by
                rw [HP.out]
                refine ⟨blk_other HD.out.blk HD.out.sec (by decide) hg5, hr5, ?_, ?_, HD.out.own, fun k hk => ⟨(HD.out.lt k hk).1, Nat.lt_of_lt_of_le (HD.out.lt k hk).2 hg5.size⟩⟩
                · have hne : ∀ k, F k → True := fun _ _ => trivial
                  exact wait_kept HD.out.sec HD.out.wait hg5
                · obtain ⟨A', c', h1, h2, h3⟩ := HD.out.choice
                  exact ⟨A', c', h1, h2, fun W hW => h3 W ((hU5.mono (fun k hk => (HD.out.lt k hk).1)).trans hW (fun _ h => .inl h))⟩)
              have HU5 := Aside0.mk (HU.out.trans hU5 (fun _ h => .inl h))
              clear hg5d hg5 hU5 hr5 hb5
              go_wp2
              go_roundw
              case rel => exact ⟨i + 1, by go_num, by omega, HD5, HU5⟩
              case measure => simp [intOf]; omega
          · have HP := Aside0.mk (show putsTo (rkeep l) R.wait R.sec (i + 1) = putsTo (rkeep l) R.wait R.sec i by simp [putsTo, rkeep, hi4])
            have t4 : decide ((i : Int) < 4096) = false := decide_eq_false (by omega)
            clear hi4
            go_wp2
            go_roundw
            case rel => exact ⟨i + 1, by go_num, by omega, ⟨by rw [HP.out]; exact HD.out⟩, HU⟩
            case measure => simp [intOf]; omega
        · have HP := Aside0.mk (show putsTo (rkeep l) R.wait R.sec (i + 1) = putsTo (rkeep l) R.wait R.sec i by simp [putsTo, rkeep, chB, hil])
          go_wp2
          go_roundw
          case rel => exact ⟨i + 1, by go_num, by omega, ⟨by rw [HP.out]; exact HD.out⟩, HU⟩
          case measure => simp [intOf]; omega
      · obtain rfl : i = R.wait.length := by omega
        have h2 := HD.out.c2
        have hf := HD.out.free
        have H1 := HD.out.put 1 (.slice none 0 0) { R with sec := putsTo (rkeep l) R.wait R.sec R.wait.length, wait := [] } (.slice As R.sec.length cs) (.slice none 0 0) rfl HD.out.sec (Kd.R_nil _ _ _ _ _) rfl
        have H2 := Aside0.mk (H1.put 2 (.bool true) { R with sec := putsTo (rkeep l) R.wait R.sec R.wait.length, wait := [], down := true } (.slice As R.sec.length cs) (.slice none 0 0) rfl H1.sec H1.wait rfl)
        have HU2 := Aside0.mk ((HU.out.trans (HD.out.upd 1 (.slice none 0 0)) (fun _ h => .inl h)).trans (H1.upd 2 (.bool true)) (fun _ h => .inl h))
        clear H1
        go_wp2
        go_end0
        exact ⟨rfl, by rw [hq.out]; exact ⟨_, H2.out⟩, HU2.out⟩
end Go.Proofs.YtmblnflfklmmkaaDoor.Dk
/- The reference's full. -/
namespace Go.Proofs.YtmblnflfklmmkaaDoor.Dk
open Go.RowKit Go.Proofs.YtmblnflfklmmkaaDoorW.PrintWords Go.Proofs.YtmblnflfklmmkaaDoorW.PrintLast Go.Proofs.YtmblnflfklmmkaaDoorW.PrintMore
set_option linter.unusedVariables false
set_option linter.unusedSimpArgs false
set_option maxRecDepth 30000
variable {w w1 : World} {B g : Nat} {F G : Nat → Prop} {R : RM} {vs vh vc : Value}
set_option maxHeartbeats 8000000 in
theorem full_calls (A : Option Addr) (c : Nat) (x : List Int) (hx : x.length ≤ 1000000000) (hC : Kd.C (Kd.int .u8) w A x.length x) :
    Calls Tryd.prog 70 #[.slice A x.length c] w fun e w' => ∃ v xs, e = .returned v ∧ xs.length = 64 ∧ Kd.R (Kd.int .u8) 5 w' w.heap.size (fun k => w.heap.size ≤ k) v xs ∧ Below w.heap.size w w' := by
  have HC := Aside0.mk hC
  clear hC
  go_enter Tryd.func70, Tryd.ntmps70
  go_wp2_with (first | ((with_reducible refine gate_builtin (b := .append) (xs := #[.tmp 4, .tmp 5]) rfl ?_); at_builtin; refine Kd.R_append_rows (Kd.int .u8) (Rr := (Kd.int .u8).K w) (w0 := w) w.heap.size rfl (.tmp 4) (.tmp 5) 22 5 (.int .u8 0) 1 rfl Tryd.underlying22 info5 rfl (by decide) (by omega) (.slice none 0 0) [] x A x.length c (fun k => w.heap.size ≤ k) (fun _ => False) rfl rfl (Kd.R_nil _ _ _ _ _) HC.out (fun _ _ h => h) (fun _ h => h.elim) (fun _ h => h) (Below.refl _ _) (Nat.le_refl _) ?aL ?_; (case aL => simp; omega); intro v1 w1 hr1 hb1 hg1 _; simp only [List.nil_append] at hr1; have HR1 := Aside0.mk hr1; have HB1 := Aside0.mk hb1; clear hr1 hb1 hg1))
  go_loopw [3] (fun v3 w' => ∃ xs : List Int, xs.length ≤ 1000000064 ∧ Aside0 (Kd.R (Kd.int .u8) 5 w' w.heap.size (fun k => w.heap.size ≤ k) v3 xs) ∧ Aside0 (Below w.heap.size w w') ∧ ∃ A c, v3 = .slice A xs.length c) (fun v3 _ => 64 - (match v3 with | .slice _ n _ => n | _ => 0))
  case atStart => exact ⟨x, by omega, HR1, HB1, Kd.R_slice HR1.out⟩
  case round =>
    obtain ⟨xs, hl, HR, HB, A3, c3, rfl⟩ := hrel
    by_cases hlt : xs.length < 64
    · have HA := heap_alloc_new wr (.cells #[.int .u8 0] 5)
      have HC0 := Aside0.mk (show Kd.C (Kd.int .u8) (wr.alloc (.cells #[.int .u8 0] 5)) (some ⟨wr.heap.size, 0, none⟩) 1 [0] from C_block (x := [0]) HA (by decide))
      have HBA := Aside0.mk (below_alloc HB.out (.cells #[.int .u8 0] 5))
      have HRA := Aside0.mk (Kd.R_below HR.out (below_alloc (Below.refl wr.heap.size wr) (.cells #[.int .u8 0] 5)))
      clear HA
      go_wp2_with (first | ((with_reducible refine gate_builtin (b := .append) (xs := #[.tmp 10, .tmp 11]) rfl ?_); at_builtin; refine Kd.R_append_rows (Kd.int .u8) (Rr := (Kd.int .u8).K w) (w0 := w) w.heap.size rfl (.tmp 10) (.tmp 11) 22 5 (.int .u8 0) 1 rfl Tryd.underlying22 info5 rfl (by decide) (by omega) _ xs [0] (some ⟨wr.heap.size, 0, none⟩) 1 1 (fun k => w.heap.size ≤ k) (fun _ => False) rfl rfl HRA.out HC0.out (fun _ _ h => h) (fun _ h => h.elim) (fun _ h => Nat.le_trans HBA.out.size h) HBA.out HBA.out.size ?aL ?_; (case aL => omega); intro v1 w1 hr1 hb1 hg1 _; obtain ⟨A1, c1, rfl⟩ := Kd.R_slice hr1; have HR1 := Aside0.mk hr1; have HB1 := Aside0.mk hb1; clear hr1 hb1 hg1))
      go_roundw
      case rel => exact ⟨xs ++ [0], by rw [List.length_append]; show xs.length + 1 ≤ _; omega, ⟨by have := HR1.out; rw [List.length_append] at this; exact this⟩, HB1, _, _, by rw [List.length_append]; rfl⟩
      case measure => simp; omega
    · obtain ⟨_, _, e, hc, hC3⟩ := Kd.R_reads HR.out
      injection e with e1 e2 e3
      subst e1; subst e3
      clear e2 hC3
      have HT := Aside0.mk (Kd.R_take HR.out (m := 64) (by omega))
      go_wp2
      go_ret
      exact ⟨_, xs.take 64, rfl, by rw [List.length_take]; omega, HT.out, HB.out⟩
end Go.Proofs.YtmblnflfklmmkaaDoor.Dk
/- The reference's Write. -/
namespace Go.Proofs.YtmblnflfklmmkaaDoor.Dk
open Go.RowKit Go.Proofs.YtmblnflfklmmkaaDoorW.PrintWords Go.Proofs.YtmblnflfklmmkaaDoorW.PrintLast Go.Proofs.YtmblnflfklmmkaaDoorW.PrintMore
set_option linter.unusedVariables false
set_option linter.unusedSimpArgs false
set_option maxRecDepth 30000
variable {w w1 : World} {B g : Nat} {F G : Nat → Prop} {R : RM} {vs vh vc : Value}
theorem info77 : (Tryd.prog.info? 116).map (fun i => (i.zero, i.size, i.bytes)) = some (some (.agg #[.int .i64 0, .slice none 0 0]), 2, 32) := by kernel_rfl
theorem full64 (A : Option Addr) (c : Nat) (x : List Int) (hx : x.length = 64) (hC : Kd.C (Kd.int .u8) w A x.length x) :
    Calls Tryd.prog 70 #[.slice A 64 c] w fun e w' => ∃ v xs, e = .returned v ∧ xs.length = 64 ∧ Kd.R (Kd.int .u8) 5 w' w.heap.size (fun k => w.heap.size ≤ k) v xs ∧ Below w.heap.size w w' := by
  have h := full_calls A c x (by omega) hC
  rwa [hx] at h
/-- The block of a row of one type is not that of a row of another. -/
theorem row_ne {β : Type} {d2 : Kd β} {e e2 : Nat} {v2 : Value} {ys : List β} {k : Nat} (h2 : d2.R e2 w B F v2 ys) (hb : ∃ cells, w.heap[k]? = some (.cells cells e (0, 0))) (hne : e ≠ e2) : some k ≠ v2.ownBlock := by
  intro he
  obtain ⟨inner, ho⟩ := Kd.R_own h2
  obtain ⟨cells2, hc2⟩ := own_typed ho k he.symm
  obtain ⟨cells, hb⟩ := hb
  rw [hb] at hc2
  injection hc2 with hc2
  injection hc2 with _ hc2 _
  exact hne hc2
theorem slice_one {v : Value} {A : Option Addr} {n c : Nat} (h : v = .slice A n c) : v.cells = #[v] := by subst h; rfl
theorem buildSlice71 (k : Int) (v : Value) (w : World) (hv : ∃ A n c, v = .slice A n c) : (Instr.buildSlice 111 1 #[(0, .agg #[.int .i64 k, v])]).run Tryd.prog w = .ok (.slice (some ⟨w.heap.size, 0, none⟩) 1 1) (w.alloc (.cells #[.int .i64 k, v] 116)) := by
  obtain ⟨A, n, c, rfl⟩ := hv
  obtain ⟨ie, hie, hz⟩ := Option.map_eq_some_iff.1 info77
  injection hz with hz1 hz2
  injection hz2 with hz2 hz3
  refine run_buildSlice w 111 116 1 _ _ ie _ Tryd.underlying111 hie hz1 (by rw [hz2]; decide) (by rw [hz2]; decide) ?_
  rw [hz2]
  have := Great.fill_whole (s := 2) (by decide) [.agg #[.int .i64 k, .slice A n c]] ((Array.range (1 * 2)).map (fun i => (Value.agg #[.int .i64 0, .slice none 0 0]).cells[i % (Value.agg #[.int .i64 0, .slice none 0 0]).cells.size]!)) (by simp [Value.cells]) (by simp)
  simpa [Value.cells] using this
def RefAt (w : World) (B g : Nat) (F : Nat → Prop) (R : RM) : Prop := ∃ vs vh vc, RAt w B g F R vs vh vc
def rholdM (R : RM) (k : Int) (x : List Int) : RM := { R with wait := R.wait ++ [(k, x)] }
theorem RAt.grow_to {w1 w2 : World} (h : RAt w2 B g (Grow F w w1) R vs vh vc) (hB : B ≤ w.heap.size) (hs : w1.heap.size ≤ w2.heap.size) (hl : ∀ k, F k → B ≤ k ∧ k < w.heap.size) (hu : Upd w w2 F)
    (hc : ∃ A c, vc = .slice A R.choice.length c ∧ R.choice.length ≤ c ∧ ∀ W, Upd w W (fun k => B ≤ k) → Kd.C Kd.bool W A R.choice.length R.choice) : RAt w2 B g (Grow F w w2) R vs vh vc where
  blk := h.blk
  sec := Kd.R_mono h.sec (fun k hk => hk.imp id (fun hk => ⟨hk.1, by omega⟩))
  wait := Kd.R_mono h.wait (fun k hk => hk.imp id (fun hk => ⟨hk.1, by omega⟩))
  choice := by
    obtain ⟨A, c, h1, h2, h3⟩ := hc
    exact ⟨A, c, h1, h2, fun W hW => h3 W ((hu.mono (fun k hk => (hl k hk).1)).trans hW (fun _ h => .inl h))⟩
  own := h.own.imp id (fun hk => ⟨hk.1, by omega⟩)
  lt := fun k hk => by
    rcases hk with hk | hk
    · exact ⟨(hl k hk).1, Nat.lt_of_lt_of_le (hl k hk).2 hu.size⟩
    · exact ⟨by omega, hk.2⟩
theorem RAt.grow (h : RAt w B g F R vs vh vc) (hB : B ≤ w.heap.size) : RAt w B g (Grow F w w) R vs vh vc where
  blk := h.blk
  sec := Kd.R_mono h.sec (fun k hk => .inl hk)
  wait := Kd.R_mono h.wait (fun k hk => .inl hk)
  choice := by
    obtain ⟨A, c, h1, h2, h3⟩ := h.choice
    exact ⟨A, c, h1, h2, h3⟩
  own := .inl h.own
  lt := fun k hk => by
    rcases hk with hk | hk
    · exact h.lt k hk
    · exact ⟨by omega, hk.2⟩
theorem putsTo_mem (keep : Nat → Bool) (K : List (Int × List Int)) (L : List (List Int)) (hw : ∀ h ∈ K, h.2.length = 64) (hs : ∀ s ∈ L, s.length = 64) : ∀ n, n ≤ K.length → ∀ s ∈ putsTo keep K L n, s.length = 64
  | 0, _, s, h => hs s h
  | n + 1, hn, s, h => by
    unfold putsTo at h
    split at h
    · rcases List.mem_or_eq_of_mem_set h with h | rfl
      · exact putsTo_mem keep K L hw hs n (by omega) s h
      · refine hw _ ?_
        rw [List.getD_eq_getElem?_getD, List.getElem?_eq_getElem (by omega : n < K.length)]
        exact List.getElem_mem (by omega)
    · exact putsTo_mem keep K L hw hs n (by omega) s h
theorem rholdM_ok {k : Int} {x : List Int} (h : ROk R) (hk : thereM R k = 0) (hx : x.length = 64) (hn : R.wait.length < 9000000) : ROk (rholdM R k x) := by
  refine ⟨fun y hy => ?_, h.s64, fun y hy => ?_, h.n1, by simp [rholdM]; omega, h.l0, h.l1⟩
  · simp only [rholdM, List.mem_append, List.mem_singleton] at hy
    rcases hy with hy | rfl
    · exact h.at_ y hy
    · unfold thereM at hk
      split at hk
      · omega
      · split at hk
        · omega
        · constructor <;> simp only [rholdM] <;> omega
  · simp only [rholdM, List.mem_append, List.mem_singleton] at hy
    rcases hy with hy | rfl
    · exact h.w64 y hy
    · exact hx
theorem strokeM_same : (strokeM R).1.wait = R.wait ∧ (strokeM R).1.sec = R.sec ∧ (strokeM R).1.choice = R.choice := by
  unfold strokeM
  split
  · exact ⟨rfl, rfl, rfl⟩
  · split <;> exact ⟨rfl, rfl, rfl⟩
theorem strokeM_ok (h : ROk R) : ROk (strokeM R).1 := by
  unfold strokeM
  split
  · exact ⟨h.at_, h.s64, h.w64, h.n1, h.n2, by have := h.l0; simp only; omega, by have := h.l1; simp only; omega⟩
  · split
    · exact ⟨h.at_, h.s64, h.w64, h.n1, h.n2, by simp only; omega, by simp only; omega⟩
    · exact ⟨h.at_, h.s64, h.w64, h.n1, h.n2, by have := h.l0; simp only; omega, by have := h.l1; simp only; omega⟩
theorem rloseM_ok (l : List Bool) (h : ROk R) : ROk (rloseM l R) := by
  unfold rloseM
  split
  · exact h
  · exact ⟨fun y hy => by simp at hy, fun s hs => putsTo_mem _ _ _ h.w64 h.s64 _ (Nat.le_refl _) s hs, fun y hy => by simp at hy, by simp only [putsTo_length]; exact h.n1, Nat.zero_le _, h.l0, h.l1⟩
theorem rloseM_same (l : List Bool) : (rloseM l R).sec.length = R.sec.length ∧ (rloseM l R).wait.length ≤ R.wait.length ∧ (rloseM l R).choice = R.choice := by
  unfold rloseM
  split
  · exact ⟨rfl, Nat.le_refl _, rfl⟩
  · exact ⟨putsTo_length _ _ _ _, Nat.zero_le _, rfl⟩
set_option maxHeartbeats 8000000 in
theorem rWrite_calls (h : RAt w B g F R vs vh vc) (hok : ROk R) (hB : B ≤ w.heap.size) (hn : R.wait.length < 9000000) (k : Int) (A : Option Addr) (c : Nat) (x : List Int) (hC : Kd.C (Kd.int .u8) w A x.length x) :
    Calls Tryd.prog 54 #[.pointer (some ⟨g, 0, none⟩), .int .i64 k, .slice A x.length c] w fun e w' => ∃ n R', e = .returned (.int .i64 n) ∧ RefAt w' B g (Grow F w w') R' ∧ ROk R' ∧ R'.wait.length ≤ R.wait.length + 1 ∧ R'.sec.length = R.sec.length ∧ Upd w w' F := by
  have H := Aside0.mk h
  have HC := Aside0.mk hC
  have HOK := Aside0.mk hok
  have HN := Aside0.mk hn
  have HB := Aside0.mk hB
  obtain ⟨Ah, ch, rfl, hhl, _⟩ := Kd.R_reads h.wait
  have h1 := h.c1
  clear h hC hok hn hhl hB
  by_cases ha : thereM R k = 0
  · have HA := Aside0.mk ha
    clear ha
    by_cases h64 : x.length = 64
    · have H64 := Aside0.mk h64
      go_enter Tryd.func54, Tryd.ntmps54
      go_wp2_with (first | (go_at_call 75; refine (there_calls H.out k).mono ?_; rintro e w' ⟨rfl, rfl⟩; rw [HA.out]))
      refine start_ (n := 14) (S := fun w' => w'.cell? ⟨g, 1, none⟩ = some (.slice Ah R.wait.length ch)) (ds := [13]) #[false, false, false, false, false, false, false, false, false, false, false, false, false, false] (by kernel_rfl) rfl rfl (h1) (fun hHeld => ?_)
      refine pure_ (i := 0) (N := some 17) (v := ?_) (a' := ?_) #[true, false, false, false, false, false, false, false, false, false, false, false, false, false] rfl rfl (by kernel_rfl) (fun _ _ _ h => h) (Or.inl ⟨by rfl, ?_⟩) ?_ ?_
      rotate_left
      · intro w'
        go_simp
        with_reducible rfl
      rotate_left
      · simp only [Act.put, List.setIfInBounds_toArray, List.set_cons_zero, List.set_cons_succ, i64_w, i32_w]
        rfl
      refine pure_ (i := 1) (N := some 18) (v := ?_) (a' := ?_) #[true, true, false, false, false, false, false, false, false, false, false, false, false, false] rfl rfl (by kernel_rfl) (fun _ _ _ h => h) (Or.inl ⟨by rfl, ?_⟩) ?_ ?_
      rotate_left
      · intro w'
        go_simp
        with_reducible rfl
      rotate_left
      · simp only [Act.put, List.setIfInBounds_toArray, List.set_cons_zero, List.set_cons_succ, i64_w, i32_w]
        rfl
      refine pure_ (i := 2) (N := some 19) (v := ?_) (a' := ?_) #[true, true, true, false, false, false, false, false, false, false, false, false, false, false] rfl rfl (by kernel_rfl) (fun _ _ _ h => h) (Or.inl ⟨by rfl, ?_⟩) ?_ ?_
      rotate_left
      · intro w'
        go_simp
        with_reducible rfl
      rotate_left
      · simp only [Act.put, List.setIfInBounds_toArray, List.set_cons_zero, List.set_cons_succ, i64_w, i32_w]
        rfl
      refine pure_ (i := 3) (N := some 20) (v := ?_) (a' := ?_) #[true, true, true, true, false, false, false, false, false, false, false, false, false, false] rfl rfl (by kernel_rfl) (fun _ _ _ h => h) (Or.inl ⟨by rfl, ?_⟩) ?_ ?_
      rotate_left
      · intro w'
        go_simp
        with_reducible rfl
      rotate_left
      · simp only [Act.put, List.setIfInBounds_toArray, List.set_cons_zero, List.set_cons_succ, i64_w, i32_w]
        rfl
      refine pure_ (i := 5) (N := some 22) (v := ?_) (a' := ?_) #[true, true, true, true, false, true, false, false, false, false, false, false, false, false] rfl rfl (by kernel_rfl) (fun _ _ _ h => h) (Or.inl ⟨by rfl, ?_⟩) ?_ ?_
      rotate_left
      · intro w'
        go_simp
        with_reducible rfl
      rotate_left
      · simp only [Act.put, List.setIfInBounds_toArray, List.set_cons_zero, List.set_cons_succ, i64_w, i32_w]
        rfl
      refine pure_ (i := 6) (N := some 23) (v := ?_) (a' := ?_) #[true, true, true, true, false, true, true, false, false, false, false, false, false, false] rfl rfl (by kernel_rfl) (fun _ _ _ h => h) (Or.inl ⟨by rfl, ?_⟩) ?_ ?_
      rotate_left
      · intro w'
        go_simp
        with_reducible rfl
      rotate_left
      · simp only [Act.put, List.setIfInBounds_toArray, List.set_cons_zero, List.set_cons_succ, i64_w, i32_w]
        rfl
      refine take_ (i := 4) (N := some 21) (v := ?_) (a' := ?_) #[true, true, true, true, true, true, true, false, false, false, false, false, false, false] rfl rfl (by kernel_rfl) (fun _ _ _ h => h) (Or.inl ⟨by rfl, ?_⟩) hHeld ?_ ?_
      rotate_left
      · intro w' s0
        go_simp
        with_reducible rfl
      rotate_left
      · simp only [Act.put, List.setIfInBounds_toArray, List.set_cons_zero, List.set_cons_succ, i64_w, i32_w]
        rfl
      refine one_ (i := 7) (N := some 24) #[true, true, true, true, true, true, true, true, false, false, false, false, false, false] rfl rfl (by kernel_rfl) (by decide) (fun K hK => ?_)
      refine goes_ Tryd.func70 (by kernel_rfl) rfl #[.slice A 64 c] (by rfl) rfl rfl (by simp only [List.map_toArray, List.map_cons, List.map_nil]; rfl) ?_
      with_reducible refine (full64 (w := w.drew) A c x H64.out (Kd.C_below HC.out (below_drew (Below.refl _ _)))).mono ?_
      rintro e w3 ⟨v3, xs, rfl, hxl, hr3, hb3⟩
      refine ⟨_, rfl, ?_⟩
      obtain ⟨A3, c3, rfl⟩ := Kd.R_slice hr3
      have hbw3 : Below w.heap.size w w3 := ⟨hb3.os, hb3.tape, hb3.output, hb3.size, hb3.block⟩
      have HBW3 := Aside0.mk hbw3
      have H3A := Aside0.mk (H.out.below hbw3)
      have HXL := Aside0.mk hxl
      have HXS := Aside0.mk (Kd.R_mono (Kd.R_lower (Kd.R_bound hr3) (show B ≤ w.drew.heap.size from HB.out)) (ok' := fun k => w.heap.size ≤ k ∧ k < w3.heap.size ∧ ∃ cells, w3.heap[k]? = some (.cells cells 5 (0, 0))) (fun k hk => ⟨hk.1, hk.2.2.1, by obtain ⟨q, hq, hc⟩ := hk.2.2.2; simp only [Kd.int, Kd.scalar, List.mem_cons, List.not_mem_nil, or_false] at hq; rw [hq] at hc; exact hc⟩))
      clear hr3 hb3 hxl hbw3
      refine hK.out _ _ ((H3A.out.c1)) (fun hHeld => ?_)
      clear hK K
      refine norm_ (a' := ?_) ?_ ?_
      rotate_left
      · show Act.put _ (some 24) _ = _
        simp only [Act.put, List.setIfInBounds_toArray, List.set_cons_zero, List.set_cons_succ, i64_w, i32_w]
        rfl
      refine pure_ (i := 8) (N := some 25) (v := ?_) (a' := ?_) #[true, true, true, true, true, true, true, true, true, false, false, false, false, false] rfl rfl (by kernel_rfl) (fun _ _ _ h => h) (Or.inl ⟨by rfl, ?_⟩) ?_ ?_
      rotate_left
      · intro w'
        go_simp
        with_reducible rfl
      rotate_left
      · simp only [Act.put, List.setIfInBounds_toArray, List.set_cons_zero, List.set_cons_succ, i64_w, i32_w]
        rfl
      refine one_ (i := 9) (N := some 26) #[true, true, true, true, true, true, true, true, true, true, false, false, false, false] rfl rfl (by kernel_rfl) (by decide) (fun K hK => ?_)
      refine value_ (w1 := w3.alloc (.cells #[.int .i64 k, (.slice A3 xs.length c3)] 116)) (v := .slice (some ⟨w3.heap.size, 0, none⟩) 1 1) (by rfl) rfl ?hbs ?_
      case hbs =>
        refine exec_buildSlice (t := 111) (n := 1) (parts := #[(0, .tmp 25)]) (args := #[(0, .agg #[.int .i64 k, (.slice A3 xs.length c3)])]) ?ho ?he ?hr
        case ho => rfl
        case he => kernel_rfl
        case hr => exact buildSlice71 k (.slice A3 xs.length c3) w3 ⟨_, _, _, rfl⟩
      refine hK.out _ _ (((H3A.out.below (below_alloc (Below.refl _ _) _)).c1)) (fun hHeld => ?_)
      clear hK K
      refine norm_ (a' := ?_) ?_ ?_
      rotate_left
      · show Act.put _ (some 26) _ = _
        simp only [Act.put, List.setIfInBounds_toArray, List.set_cons_zero, List.set_cons_succ, i64_w, i32_w]
        rfl
      refine one_ (i := 10) (N := some 27) #[true, true, true, true, true, true, true, true, true, true, true, false, false, false] rfl rfl (by kernel_rfl) (by decide) (fun K hK => ?_)
      refine Kd.R_append_step kWa (w0 := w) (W := w3) B (by rfl) (.tmp 21) (.tmp 26) 111 116 (.agg #[.int .i64 0, .slice none 0 0]) 32 rfl Tryd.underlying111 info77 rfl (by decide) (by decide) (.slice Ah R.wait.length ch) R.wait (k, xs) [.int .i64 k, (.slice A3 xs.length c3)] (fun k => F k ∨ w.heap.size ≤ k) (fun k => w.heap.size ≤ k ∧ k < w3.heap.size ∧ ∃ cells, w3.heap[k]? = some (.cells cells 5 (0, 0))) rfl rfl ⟨[.int .i64 k], [(.slice A3 xs.length c3)], rfl, rfl, _, rfl, HXS.out⟩ (fun k hk => ⟨.inr hk.1, row_ne H3A.out.wait hk.2.2 (by decide)⟩) (fun k hk => .inr (Nat.le_trans HBW3.out.size hk)) (Kd.R_mono H3A.out.wait (fun _ h => .inl h)) (Below.mono HBW3.out HB.out) (Nat.le_trans HB.out HBW3.out.size) (by have := HN.out; omega) ?_
      intro v1 w1 hr1 hb1 hg1 _
      obtain ⟨A1, c1, rfl⟩ := Kd.R_slice hr1
      have HR1 := Aside0.mk (R_grow hr1)
      have HG1 := Aside0.mk hg1
      have hb1k := blk_other H3A.out.blk H3A.out.wait (by decide) hg1
      have h1b : w1.cell? ⟨g, 1, none⟩ = some (.slice Ah R.wait.length ch) := by simp [World.cell?, hb1k]
      have hf1 : ∀ j, w1.frozen? ⟨g, j, none⟩ = false := fun j => by simp [World.frozen?, hb1k]
      have HBK := Aside0.mk hb1k
      clear hr1 hb1 hg1 hb1k
      refine hK.out _ _ ((h1b)) (fun hHeld => ?_)
      clear hK K
      refine norm_ (a' := ?_) ?_ ?_
      rotate_left
      · show Act.put _ (some 27) _ = _
        simp only [Act.put, List.setIfInBounds_toArray, List.set_cons_zero, List.set_cons_succ, i64_w, i32_w]
        rfl
      refine pure_ (i := 11) (N := some 28) (v := ?_) (a' := ?_) #[true, true, true, true, true, true, true, true, true, true, true, true, false, false] rfl rfl (by kernel_rfl) (fun _ _ _ h => h) (Or.inl ⟨by rfl, ?_⟩) ?_ ?_
      rotate_left
      · intro w'
        go_simp
        with_reducible rfl
      rotate_left
      · simp only [Act.put, List.setIfInBounds_toArray, List.set_cons_zero, List.set_cons_succ, i64_w, i32_w]
        rfl
      refine pure_ (i := 12) (N := some 29) (v := ?_) (a' := ?_) #[true, true, true, true, true, true, true, true, true, true, true, true, true, false] rfl rfl (by kernel_rfl) (fun _ _ _ h => h) (Or.inl ⟨by rfl, ?_⟩) ?_ ?_
      rotate_left
      · intro w'
        go_simp
        with_reducible rfl
      rotate_left
      · simp only [Act.put, List.setIfInBounds_toArray, List.set_cons_zero, List.set_cons_succ, i64_w, i32_w]
        rfl
      refine last_ (i := 13) (N := none) #[true, true, true, true, true, true, true, true, true, true, true, true, true, true] rfl rfl (by kernel_rfl) (by decide) (fun K hK => ?_)
      refine skip_ (w1 := ?_) (by rfl) rfl ?_ ?_
      rotate_left
      · go_simp
        rfl
      refine hK.out _ _ ?_
      clear hK K
      refine done_ (by kernel_rfl) ?_
      have H2 := Aside0.mk (show RAt (w1.setCell ⟨g, 1, none⟩ (.slice A1 (R.wait ++ [(k, xs)]).length c1)) B g (Grow F w w1) (rholdM R k xs) vs (.slice A1 (R.wait ++ [(k, xs)]).length c1) vc from
        { blk := by rw [heap_setCell_same w1 g 1 _ 113 _ HBK.out]; rfl
          sec := Kd.R_set (Kd.R_mono (Kd.R_over H3A.out.sec H3A.out.wait (by simp [kBy, Kd.slice, Kd.int, Kd.scalar]) HG1.out) (fun _ h => .inl h)) HBK.out (by simp [kBy, Kd.slice, Kd.int, Kd.scalar]) 1 _
          wait := Kd.R_set HR1.out HBK.out (by simp [kWa, kBy, Kd.pair, Kd.slice, Kd.int, Kd.scalar]) 1 _
          choice := by
            obtain ⟨A, c, h1, h2, h3⟩ := H.out.choice
            exact ⟨A, c, h1, h2, fun W hW => h3 W (((((Upd.of_below (F := F) HBW3.out).trans (Upd.of_row H3A.out.wait HG1.out) (fun _ h => .inl h)).setCell (p := ⟨g, 1, none⟩) (.inl H.out.own) _).mono (fun k hk => (H.out.lt k hk).1)).trans hW (fun _ h => .inl h))⟩
          own := .inl H.out.own
          lt := fun k hk => by
            have s1 := HBW3.out.size
            have s2 := HG1.out.size
            have s3 := HB.out
            rw [show (w1.setCell ⟨g, 1, none⟩ _).heap.size = w1.heap.size by simp [World.setCell]]
            rcases hk with hk | hk
            · have := H.out.lt k hk
              exact ⟨this.1, by omega⟩
            · exact ⟨by omega, hk.2⟩ })
      have HU2 := Aside0.mk ((((Upd.of_below (F := F) HBW3.out).trans (Upd.of_row H3A.out.wait HG1.out) (fun _ h => .inl h)).setCell (p := ⟨g, 1, none⟩) (.inl H.out.own) (.slice A1 (R.wait ++ [(k, xs)]).length c1)))
      have HOK2 := Aside0.mk (rholdM_ok HOK.out HA.out HXL.out HN.out)
      have HS2 := Aside0.mk (show (rholdM R k xs).wait.length = R.wait.length + 1 by simp [rholdM])
      rw [show (R.wait ++ [(k, xs)]).length = R.wait.length + 1 by simp] at H2 HU2
      clear hf1 h1b HBK HR1 HXS
      cases hg : (strokeM (rholdM R k xs)).2 with
      | true =>
        have hg' := Lib.hid hg
        clear hg
        go_wp2_with (first | (go_at_call 76; refine (stroke_calls H2.out HOK2.out.l0 HOK2.out.l1).mono ?_; rintro e w4 ⟨rfl, h4, hu4⟩; rw [hg'.out]; obtain ⟨Ac, cc, rfl, hlc, hCc⟩ := h4.choice; have H4 := Aside0.mk h4; have HU4 := Aside0.mk hu4; have HCC := Aside0.mk hCc; have hc5 := h4.c5; clear h4 hu4 hCc hlc) | (go_at_call 51; refine (rLose_calls H4.out (strokeM_ok HOK2.out) Ac cc _ (fun W hW => HCC.out W (hW.mono (fun k hk => (H4.out.lt k hk).1)))).mono ?_; rintro e w5 ⟨rfl, ⟨vh5, h5⟩, hu5⟩; have H5 := Aside0.mk h5; have HU5 := Aside0.mk hu5; clear h5 hu5))
        go_ret
        have hu := (HU2.out.trans HU4.out (fun _ => Grow.out)).trans HU5.out (fun _ => Grow.out)
        refine ⟨_, rloseM _ (strokeM (rholdM R k xs)).1, rfl, ⟨_, _, _, RAt.grow_to H5.out HB.out (Nat.le_trans (Nat.le_of_eq (by simp [World.setCell])) (Nat.le_trans HU4.out.size HU5.out.size)) H.out.lt hu ?_⟩, rloseM_ok _ (strokeM_ok HOK2.out), ?_, ?_, hu⟩
        · have hch := H.out.choice
          have ech : (strokeM (rholdM R k xs)).1.choice = R.choice := strokeM_same.2.2
          rw [(rloseM_same _).2.2]
          rw [ech] at hch ⊢
          exact hch
        · have := (rloseM_same (R := (strokeM (rholdM R k xs)).1) (strokeM (rholdM R k xs)).1.choice).2.1
          rw [strokeM_same.1, HS2.out] at this
          exact this
        · rw [(rloseM_same _).1, strokeM_same.2.1]
          rfl
      | false =>
        have hg' := Lib.hid hg
        clear hg
        go_wp2_with (first | (go_at_call 76; refine (stroke_calls H2.out HOK2.out.l0 HOK2.out.l1).mono ?_; rintro e w4 ⟨rfl, h4, hu4⟩; rw [hg'.out]; have H4 := Aside0.mk h4; have HU4 := Aside0.mk hu4; clear h4 hu4))
        go_ret
        have hu := HU2.out.trans HU4.out (fun _ => Grow.out)
        refine ⟨_, (strokeM (rholdM R k xs)).1, rfl, ⟨_, _, _, RAt.grow_to H4.out HB.out (Nat.le_trans (Nat.le_of_eq (by simp [World.setCell])) HU4.out.size) H.out.lt hu ?_⟩, strokeM_ok HOK2.out, ?_, ?_, hu⟩
        · rw [strokeM_same.2.2]
          exact H.out.choice
        · rw [strokeM_same.1, HS2.out]
          exact Nat.le_refl _
        · rw [strokeM_same.2.1]
          rfl
    · have t64 : decide ((x.length : Int) = 64) = false := by simp; omega
      go_enter Tryd.func54, Tryd.ntmps54
      go_wp2_with (first | (go_at_call 75; refine (there_calls H.out k).mono ?_; rintro e w' ⟨rfl, rfl⟩; rw [HA.out]))
      go_ret
      exact ⟨1, R, rfl, ⟨_, _, _, H.out.grow HB.out⟩, HOK.out, by omega, rfl, Upd.refl _ _⟩
  · obtain ⟨q, hq0⟩ : ∃ q, thereM R k = q := ⟨_, rfl⟩
    have HA := Lib.hid hq0
    rw [hq0] at ha
    clear hq0
    go_enter Tryd.func54, Tryd.ntmps54
    go_wp2_with (first | (go_at_call 75; refine (there_calls H.out k).mono ?_; rintro e w' ⟨rfl, rfl⟩; rw [HA.out]))
    go_ret
    exact ⟨q, R, rfl, ⟨_, _, _, H.out.grow HB.out⟩, HOK.out, by omega, rfl, Upd.refl _ _⟩
end Go.Proofs.YtmblnflfklmmkaaDoor.Dk
/- The reference's Flush. -/
namespace Go.Proofs.YtmblnflfklmmkaaDoor.Dk
open Go.RowKit Go.Proofs.YtmblnflfklmmkaaDoorW.PrintWords Go.Proofs.YtmblnflfklmmkaaDoorW.PrintLast Go.Proofs.YtmblnflfklmmkaaDoorW.PrintMore
set_option linter.unusedVariables false
set_option linter.unusedSimpArgs false
set_option maxRecDepth 30000
variable {w w1 : World} {B g : Nat} {F G : Nat → Prop} {R : RM} {vs vh vc : Value}
def allT : Nat → Bool := fun _ => true
set_option maxHeartbeats 8000000 in
theorem rFlush_calls (h : RAt w B g F R vs vh vc) (hok : ROk R) :
    Calls Tryd.prog 55 #[.pointer (some ⟨g, 0, none⟩)] w fun e w' => ∃ n R', e = .returned (.int .i64 n) ∧ RefAt w' B g F R' ∧ ROk R' ∧ R'.wait.length ≤ R.wait.length ∧ R'.sec.length = R.sec.length ∧ Upd w w' F := by
  have H := Aside0.mk h
  have HOK := Aside0.mk hok
  have h2 := h.c2
  clear h hok
  cases hd : R.down with
  | true =>
    rw [hd] at h2
    clear hd
    go_enter Tryd.func55, Tryd.ntmps55
    go_wp2
    go_ret
    exact ⟨60, R, rfl, ⟨_, _, _, H.out⟩, HOK.out, Nat.le_refl _, rfl, Upd.refl _ _⟩
  | false =>
    rw [hd] at h2
    clear hd
    cases hg : (strokeM R).2 with
    | true =>
      have hg' := Lib.hid hg
      clear hg
      go_enter Tryd.func55, Tryd.ntmps55
      go_wp2_with (first | (go_at_call 76; refine (stroke_calls H.out HOK.out.l0 HOK.out.l1).mono ?_; rintro e w4 ⟨rfl, h4, hu4⟩; rw [hg'.out]; obtain ⟨Ac, cc, rfl, hlc, hCc⟩ := h4.choice; have H4 := Aside0.mk h4; have HU4 := Aside0.mk hu4; have HCC := Aside0.mk hCc; have hc5 := h4.c5; clear h4 hu4 hCc hlc) | (go_at_call 51; refine (rLose_calls H4.out (strokeM_ok HOK.out) Ac cc _ (fun W hW => HCC.out W (hW.mono (fun k hk => (H4.out.lt k hk).1)))).mono ?_; rintro e w5 ⟨rfl, ⟨vh5, h5⟩, hu5⟩; have H5 := Aside0.mk h5; have HU5 := Aside0.mk hu5; clear h5 hu5))
      go_ret
      refine ⟨60, rloseM _ (strokeM R).1, rfl, ⟨_, _, _, H5.out⟩, rloseM_ok _ (strokeM_ok HOK.out), ?_, ?_, HU4.out.trans HU5.out (fun _ h => .inl h)⟩
      · have := (rloseM_same (R := (strokeM R).1) (strokeM R).1.choice).2.1
        rw [strokeM_same.1] at this
        exact this
      · rw [(rloseM_same _).1, strokeM_same.2.1]
    | false =>
      have hg' := Lib.hid hg
      clear hg
      obtain ⟨R1, hR1⟩ : ∃ R1, R1 = (strokeM R).1 := ⟨_, rfl⟩
      have HOK1 := Aside0.mk (show ROk R1 by rw [hR1]; exact strokeM_ok HOK.out)
      have HE1 := Aside0.mk (show R1.wait = R.wait ∧ R1.sec = R.sec by rw [hR1]; exact ⟨strokeM_same.1, strokeM_same.2.1⟩)
      have HR1 := Lib.hid hR1
      clear hR1
      go_enter Tryd.func55, Tryd.ntmps55
      go_wp2_with (first | (go_at_call 76; refine (stroke_calls H.out HOK.out.l0 HOK.out.l1).mono ?_; rintro e w4 ⟨rfl, h4, hu4⟩; rw [hg'.out]; rw [← HR1.out] at h4; obtain ⟨As, cs, rfl, hsl, _⟩ := Kd.R_reads h4.sec; obtain ⟨Ah, ch, rfl, hhl, _⟩ := Kd.R_reads h4.wait; have H4 := Aside0.mk h4; have HU4 := Aside0.mk hu4; clear h4 hu4))
      go_loopw [3] (fun v3 w' => ∃ i : Nat, v3 = .int .i64 i ∧ i ≤ R1.wait.length ∧ Aside0 (RAt w' B g F { R1 with sec := putsTo allT R1.wait R1.sec i } (.slice As R1.sec.length cs) (.slice Ah R1.wait.length ch) vc) ∧ Aside0 (Upd w w' F)) (fun v3 _ => R1.wait.length - (intOf v3).toNat)
      case atStart => exact ⟨0, rfl, Nat.zero_le _, H4, HU4⟩
      case round =>
        obtain ⟨i, rfl, hi, HD, HU⟩ := hrel
        clear h2
        have hn2 := HOK1.out.n2
        have h1 := HD.out.c1
        by_cases hlt : i < R1.wait.length
        · have HP := Aside0.mk (show putsTo allT R1.wait R1.sec (i + 1) = (putsTo allT R1.wait R1.sec i).set (R1.wait.getD i (0, [])).1.toNat (R1.wait.getD i (0, [])).2 by simp [putsTo, allT])
          obtain ⟨ha0, ha1⟩ := HOK1.out.at_ (R1.wait.getD i (0, [])) (by rw [List.getD_eq_getElem?_getD, List.getElem?_eq_getElem hlt]; exact List.getElem_mem hlt)
          rcases R_cases HD.out.wait with ⟨_, hz⟩ | ⟨gh, caph, eh, hgh⟩
          · have : R1.wait.length = 0 := by rw [hz]; rfl
            omega
          rcases R_cases HD.out.sec with ⟨_, hz⟩ | ⟨gs, caps', es, hgs⟩
          · have : (putsTo allT R1.wait R1.sec i).length = 0 := congrArg List.length hz
            rw [putsTo_length] at this
            omega
          injection eh with eh1 eh2 eh3
          injection es with es1 es2 es3
          subst eh1; subst es1
          clear eh2 eh3 es2 es3
          obtain ⟨u, hu1, hu2, hu3⟩ := wait_elem HD.out.sec HD.out.wait i hlt
          obtain ⟨a, b, hab⟩ : ∃ a b, R1.wait.getD i (0, []) = (a, b) := ⟨_, _, rfl⟩
          have hu1' : wr.cell? ⟨gh, i * 2, none⟩ = some (.int .i64 (R1.wait.getD i (0, [])).1) := hu1
          have hu3' : Kd.R (Kd.int .u8) 5 wr B (fun k => F k ∧ k ≠ gs) u (R1.wait.getD i (0, [])).2 := hu3
          clear hu1 hu3
          rw [hab] at HP ha0 ha1 hu1' hu3'
          dsimp only at HP ha0 ha1 hu1' hu3'
          have HU3 := Aside0.mk hu3'
          obtain ⟨Au, cu, rfl⟩ := Kd.R_slice hu3'
          have h0 := HD.out.c0
          have hf := HD.out.free
          clear hab hu3'
          go_wp2
          refine wp_region_still_tail 21 (by kernel_rfl) (by kernel_rfl) ?_
          simp only [List.take_succ_cons, List.take_zero, List.drop_succ_cons, List.drop_zero]
          change wpStill _ _ wr.drew _ _ _
          repeat still_step
          refine wpStill_nil ?_
          change wpList _ _ _ _ _ wr.drew
          obtain ⟨c2, hsz2, hM2, hx2, _⟩ := Kd.R_elem HD.out.sec [] a ha0 ha1
          refine Kd.R_store kBy (w0 := wr.drew) B rfl rfl 22 (.tmp 45) (.tmp 44) rfl 22 (g := gs) (n := R1.sec.length) (cap := cs) (o' := a.toNat) a 0 (putsTo allT R1.wait R1.sec i) b (.slice Au b.length cu) [.slice Au b.length cu] c2 F (fun k => F k ∧ k ≠ gs) rfl (by show a.toNat = a.toNat * 1 + 0; omega) rfl rfl (by kernel_rfl) (by intro q hq; simp only [List.mem_singleton] at hq; rw [hq]; rfl) HD.out.sec ha0 ha1 hsz2 hx2 (Nat.le_refl 1) ⟨_, by rw [List.take_zero, List.nil_append, List.drop_of_length_le (show c2.length ≤ 0 + [Value.slice Au b.length cu].length from Nat.le_of_eq hsz2), List.append_nil], HU3.out⟩ (fun _ h => h) (Below.refl _ _) ?_
          intro w5 hr5 hb5 hg5d
          have hg5 : wr.grownBy w5 (Value.slice (some ⟨gs, 0, none⟩) R1.sec.length cs).ownBlock := ⟨hg5d.os, hg5d.tape, hg5d.output, hg5d.size, hg5d.block⟩
          have hU5 : Upd wr w5 F := Upd.of_row HD.out.sec hg5
          have HD5 := Aside0.mk (show RAt w5 B g F { R1 with sec := putsTo allT R1.wait R1.sec (i + 1) } (.slice (some ⟨gs, 0, none⟩) R1.sec.length cs) (.slice (some ⟨gh, 0, none⟩) R1.wait.length ch) vc from by
            rw [HP.out]
            refine ⟨blk_other HD.out.blk HD.out.sec (by decide) hg5, hr5, ?_, ?_, HD.out.own, fun k hk => ⟨(HD.out.lt k hk).1, Nat.lt_of_lt_of_le (HD.out.lt k hk).2 hg5.size⟩⟩
            · exact wait_kept HD.out.sec HD.out.wait hg5
            · obtain ⟨A', c', h1, h2, h3⟩ := HD.out.choice
              exact ⟨A', c', h1, h2, fun W hW => h3 W ((hU5.mono (fun k hk => (HD.out.lt k hk).1)).trans hW (fun _ h => .inl h))⟩)
          have HU5 := Aside0.mk (HU.out.trans hU5 (fun _ h => .inl h))
          clear hg5d hg5 hU5 hr5 hb5
          go_wp2
          go_roundw
          case rel => exact ⟨i + 1, by go_num, by omega, HD5, HU5⟩
          case measure => simp [intOf]; omega
        · obtain rfl : i = R1.wait.length := by omega
          have hf := HD.out.free
          have H1 := Aside0.mk (HD.out.put 1 (.slice none 0 0) { R1 with sec := putsTo allT R1.wait R1.sec R1.wait.length, wait := [] } (.slice As R1.sec.length cs) (.slice none 0 0) rfl HD.out.sec (Kd.R_nil _ _ _ _ _) rfl)
          have HU2 := Aside0.mk (HU.out.trans (HD.out.upd 1 (.slice none 0 0)) (fun _ h => .inl h))
          go_wp2
          go_ret
          have o := HOK1.out
          refine ⟨0, _, rfl, ⟨_, _, _, H1.out⟩, ⟨fun y hy => by simp at hy, fun s hs => putsTo_mem _ _ _ o.w64 o.s64 _ (Nat.le_refl _) s hs, fun y hy => by simp at hy, by simp only [putsTo_length]; exact o.n1, Nat.zero_le _, o.l0, o.l1⟩, Nat.zero_le _, ?_, HU2.out⟩
          show (putsTo _ _ _ _).length = _
          rw [putsTo_length, HE1.out.2]
end Go.Proofs.YtmblnflfklmmkaaDoor.Dk
