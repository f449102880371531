/- Plain facts about disks: what is written is read, flushed or not. -/
import Derived.Test.YtfimeiicidcoiaaLwG
namespace Go.Proofs.Ytfimeiicidcoiaa.Dk
open Go.RowKit Go.Proofs.YtfimeiicidcoiaaW.PrintWords Go.Proofs.YtfimeiicidcoiaaW.PrintLast Go.Proofs.YtfimeiicidcoiaaW.PrintMore
set_option linter.unusedVariables false
set_option linter.unusedSimpArgs false
variable {D D' : DM} {k : Int} {x : List Int}
/-- A disk whose power does not go. -/
structure Calm (D : DM) : Prop where
  set : D.set = false
  down : D.down = false
theorem calm_goes (h : Calm D) : goesM D = ({ D with strokes := wrap64 (D.strokes + 1) }, false) := by simp [goesM, h.set]
theorem calm_start (D : DM) : Calm (startM D) := ⟨rfl, rfl⟩
theorem calm_at (h : Calm D) (h0 : 0 ≤ k) (h1 : k < (D.sec.length : Int)) : atM D k = 0 := by
  unfold atM
  rw [h.down, if_neg (by decide), if_neg (by omega)]
theorem calm_write (h : Calm D) (h0 : 0 ≤ k) (h1 : k < (D.sec.length : Int)) (hx : x.length = 64) : (writeM D k x).2 = 0 ∧ (writeM D k x).1.held = D.held ++ [(k, x)] ∧ (writeM D k x).1.sec = D.sec ∧ Calm (writeM D k x).1 := by
  have hg := calm_goes (D := holdM D k x) ⟨h.set, h.down⟩
  have e : writeM D k x = ((goesM (holdM D k x)).1, 0) := by
    unfold writeM
    rw [if_neg (by rw [calm_at h h0 h1]; decide), if_neg (by omega), if_neg (by rw [hg]; exact Bool.false_ne_true)]
  rw [e, hg]
  exact ⟨rfl, rfl, rfl, h.set, h.down⟩
theorem calm_flush (h : Calm D) : (flushM D).2 = 0 ∧ (flushM D).1.held = [] ∧ (flushM D).1.sec = putsTo (fun _ => true) D.held D.sec D.held.length ∧ Calm (flushM D).1 := by
  have hg := calm_goes h
  have e : flushM D = (putsM (fun _ => true) (goesM D).1, 0) := by
    unfold flushM
    rw [h.down, if_neg (by decide), if_neg (by rw [hg]; exact Bool.false_ne_true)]
  rw [e, hg]
  exact ⟨rfl, rfl, rfl, h.set, h.down⟩
theorem calm_saveFrom (x : List Int) (k : Int) : ∀ (m i : Nat) (D : DM), Calm D → 0 ≤ k → k + i + m ≤ (D.sec.length : Int) →
    (saveFrom x k m i D).2 = 0 ∧ (saveFrom x k m i D).1.held = D.held ++ (List.range m).map (fun j => (k + ((i + j : Nat) : Int), secAt x (i + j))) ∧ (saveFrom x k m i D).1.sec = D.sec ∧ Calm (saveFrom x k m i D).1
  | 0, i, D, h, _, _ => ⟨rfl, by simp [saveFrom], rfl, h⟩
  | m + 1, i, D, h, h0, h1 => by
    obtain ⟨w1, w2, w3, w4⟩ := calm_write (k := k + i) (x := secAt x i) h (by omega) (by omega) (secAt_length x i)
    have e : saveFrom x k (m + 1) i D = saveFrom x k m (i + 1) (writeM D (k + i) (secAt x i)).1 := by
      rw [saveFrom, if_neg (by rw [w1]; decide)]
    obtain ⟨r1, r2, r3, r4⟩ := calm_saveFrom x k m (i + 1) _ w4 h0 (by rw [w3]; omega)
    rw [e]
    refine ⟨r1, ?_, r3.trans w3, r4⟩
    rw [r2, w2, List.range_succ_eq_map, List.map_cons, List.append_assoc]
    simp [List.map_map, Function.comp_def, Nat.add_assoc, Nat.add_comm 1]
theorem readTo_app (k0 : Int) (f : Nat → List Int) (H : List (Int × List Int)) (s : List Int) (M i : Nat) : ∀ n, n ≤ M → i < n → readTo (k0 + i) (H ++ (List.range M).map (fun j : Nat => (k0 + (j : Int), f j))) s (H.length + n) = f i
  | 0, _, h => absurd h (Nat.not_lt_zero _)
  | n + 1, hn, hi => by
    have e : (H ++ (List.range M).map (fun j : Nat => (k0 + (j : Int), f j))).getD (H.length + n) (0, []) = (k0 + (n : Int), f n) := by
      rw [List.getD_eq_getElem?_getD, List.getElem?_append_right (by omega)]
      simp [show n < M by omega]
    rw [← Nat.add_assoc, readTo, e]
    by_cases h : n = i
    · subst h
      rw [if_pos rfl]
    · rw [if_neg (by simp only; omega)]
      exact readTo_app k0 f H s M i n (by omega) (by omega)
theorem puts_read (H : List (Int × List Int)) (S : List (List Int)) (j : Nat) (hH : ∀ h ∈ H, 0 ≤ h.1 ∧ h.1 < (S.length : Int)) : ∀ n, n ≤ H.length → (putsTo (fun _ => true) H S n).getD j [] = readTo j H (S.getD j []) n
  | 0, _ => rfl
  | n + 1, hn => by
    obtain ⟨a0, a1⟩ := hH (H.getD n (0, [])) (by rw [List.getD_eq_getElem?_getD, List.getElem?_eq_getElem (by omega)]; exact List.getElem_mem (by omega))
    rw [putsTo, if_pos rfl, readTo]
    have hl := putsTo_length (fun _ => true) H S n
    by_cases h : (H.getD n (0, [])).1 = j
    · rw [if_pos h, List.getD_eq_getElem?_getD, List.getElem?_set, if_pos (by omega), if_pos (by omega)]
      rfl
    · rw [if_neg h, List.getD_eq_getElem?_getD, List.getElem?_set, if_neg (by omega), ← List.getD_eq_getElem?_getD]
      exact puts_read H S j hH n (by omega)
/-- A flush changes nothing of what is read. -/
theorem flush_read (h : Calm D) (hok : DOk D) (h0 : 0 ≤ k) : readM (flushM D).1 k = readM D k := by
  obtain ⟨_, f2, f3, _⟩ := calm_flush h
  unfold readM
  rw [f2, f3]
  show (putsTo _ _ _ _).getD k.toNat [] = _
  rw [puts_read D.held D.sec k.toNat hok.at_ _ (Nat.le_refl _), Int.toNat_of_nonneg h0]
theorem readsTo_congr (k : Int) : ∀ m : Nat, (∀ i, i < m → readM D' (k + (i : Nat)) = readM D (k + (i : Nat))) → readsTo D' k m = readsTo D k m
  | 0, _ => rfl
  | m + 1, h => by
    rw [readsTo, readsTo, readsTo_congr k m (fun i hi => h i (by omega)), h m (by omega)]
theorem reads_len (k : Int) (x : List Int) : ∀ m : Nat, (∀ i, i < m → readM D (k + (i : Nat)) = secAt x i) → (readsTo D k m).length = 64 * m
  | 0, _ => rfl
  | m + 1, h => by
    rw [readsTo, List.length_append, reads_len k x m (fun i hi => h i (by omega)), h m (by omega), secAt_length]
    omega
theorem reads_take (k : Int) (x : List Int) : ∀ m : Nat, (∀ i, i < m → readM D (k + (i : Nat)) = secAt x i) → 64 * m ≤ x.length + 63 → (readsTo D k m).take x.length = x.take (64 * m)
  | 0, _, _ => by simp [readsTo]
  | m + 1, h, hm => by
    have ih := reads_take k x m (fun i hi => h i (by omega)) (by omega)
    have hl := reads_len k x m (fun i hi => h i (by omega))
    rw [readsTo, h m (by omega), List.take_append, ih, hl, secAt, Nat.mul_comm m 64, show 64 * (m + 1) = 64 * m + 64 by omega, List.take_add]
    congr 1
    rw [List.take_append, List.take_take, List.length_take, List.length_drop, List.take_replicate]
    rw [show min (x.length - 64 * m - min 64 (x.length - 64 * m)) (64 - min (x.length - 64 * m) 64) = 0 by omega, List.replicate_zero, List.append_nil]
    by_cases h64 : x.length - 64 * m ≤ 64
    · rw [show min (x.length - 64 * m) 64 = x.length - 64 * m by omega, List.take_of_length_le (by rw [List.length_drop]; omega), List.take_of_length_le (by rw [List.length_drop]; omega)]
    · rw [show min (x.length - 64 * m) 64 = 64 by omega]
/-- A calm disk's Save: what comes of it. -/
theorem calm_save (h : Calm D) (h0 : 0 ≤ k) (h1 : k ≤ (D.sec.length : Int)) :
    (((saveM D k x).2 = 0 ∧ ((x.length + 63) / 64 : Nat) ≤ (D.sec.length : Int) - k) ∨ ((saveM D k x).2 = 61 ∧ 64 * ((D.sec.length : Int) - k) < (x.length : Int) ∧ (saveM D k x).1 = D)) := by
  have hsp : spanM D k x.length = if (D.sec.length : Int) - k < needM x.length then 61 else 0 := by
    unfold spanM
    rw [h.down, if_neg (by decide)]
    by_cases hc : (D.sec.length : Int) - k < needM x.length
    · rw [if_pos (.inr (.inr hc)), if_pos hc]
    · rw [if_neg (by omega), if_neg hc]
  rw [need_nat] at hsp
  by_cases hc : (D.sec.length : Int) - k < (((x.length + 63) / 64 : Nat) : Int)
  · rw [if_pos hc] at hsp
    right
    have e : saveM D k x = (D, 61) := by
      unfold saveM
      rw [hsp, if_pos (by decide)]
    rw [e]
    exact ⟨rfl, by omega, rfl⟩
  · rw [if_neg hc] at hsp
    left
    have e : saveM D k x = saveFrom x k ((x.length + 63) / 64) 0 D := by
      unfold saveM
      rw [hsp, if_neg (by decide)]
    rw [e]
    exact ⟨(calm_saveFrom x k _ 0 D h h0 (by omega)).1, by omega⟩
theorem calm_saved (h : Calm D) (h0 : 0 ≤ k) (h1 : k ≤ (D.sec.length : Int)) (hs : (saveM D k x).2 = 0) : Calm (saveM D k x).1 ∧ (saveM D k x).1.sec = D.sec ∧ spanM (saveM D k x).1 k x.length = 0 ∧ (∀ i, i < (x.length + 63) / 64 → readM (saveM D k x).1 (k + (i : Nat)) = secAt x i) := by
  rcases calm_save (x := x) h h0 h1 with ⟨_, hm⟩ | ⟨h2, _⟩
  · have hsp : ∀ D' : DM, D'.down = false → D'.sec = D.sec → spanM D' k x.length = 0 := fun D' hd hs' => by
      unfold spanM
      rw [hd, if_neg (by decide), hs', need_nat, if_neg (by omega)]
    have e : saveM D k x = saveFrom x k ((x.length + 63) / 64) 0 D := by
      unfold saveM
      rw [hsp D h.down rfl, if_neg (by decide)]
    obtain ⟨_, r2, r3, r4⟩ := calm_saveFrom x k ((x.length + 63) / 64) 0 D h h0 (by omega)
    rw [e]
    refine ⟨r4, r3, hsp _ r4.down r3, fun i hi => ?_⟩
    unfold readM
    rw [r2]
    have e2 : (List.range ((x.length + 63) / 64)).map (fun j => (k + ((0 + j : Nat) : Int), secAt x (0 + j))) = (List.range ((x.length + 63) / 64)).map (fun j : Nat => (k + (j : Int), secAt x j)) := by simp
    rw [e2, List.length_append, List.length_map, List.length_range]
    exact readTo_app k (secAt x) D.held _ _ i _ (Nat.le_refl _) hi
  · omega
/-- What was saved is loaded. -/
theorem saved_reads (hr : ∀ i, i < (x.length + 63) / 64 → readM D (k + (i : Nat)) = secAt x i) : (readsTo D k ((x.length + 63) / 64)).take x.length = x := by
  rw [reads_take k x _ hr (by omega), List.take_of_length_le (by omega)]
end Go.Proofs.Ytfimeiicidcoiaa.Dk
