/- Plain facts about disks: each sector is old or written. -/
import Derived.Test.YtfimeiicidcoiaaPlA
import Derived.Test.YtfimeiicidcoiaaLwX
namespace Go.Proofs.Ytfimeiicidcoiaa.Dk
open Go.RowKit Go.Proofs.YtfimeiicidcoiaaW.PrintWords Go.Proofs.YtfimeiicidcoiaaW.PrintLast Go.Proofs.YtfimeiicidcoiaaW.PrintMore
set_option linter.unusedVariables false
set_option linter.unusedSimpArgs false
variable {w0 w : World} {g : Nat} {F : Nat → Prop} {D : DM} {k : Int} {x : List Int}
theorem calm_write_or (h : Calm D) (k : Int) (x : List Int) : ((writeM D k x).2 = 0 ∧ (writeM D k x).1.held = D.held ++ [(k, x)] ∧ (writeM D k x).1.sec = D.sec ∧ Calm (writeM D k x).1) ∨ ((writeM D k x).2 ≠ 0 ∧ (writeM D k x).1 = D) := by
  by_cases hr : 0 ≤ k ∧ k < (D.sec.length : Int)
  · by_cases hx : x.length = 64
    · exact .inl (calm_write h hr.1 hr.2 hx)
    · right
      have e : writeM D k x = (D, 1) := by
        unfold writeM
        rw [if_neg (by rw [calm_at h hr.1 hr.2]; decide), if_pos hx]
      rw [e]
      exact ⟨(by decide : (1 : Int) ≠ 0), rfl⟩
  · right
    have ha : atM D k = 61 := by
      unfold atM
      rw [h.down, if_neg (by decide), if_pos (by omega)]
    have e : writeM D k x = (D, 61) := by
      unfold writeM
      rw [ha, if_pos (by decide)]
    rw [e]
    exact ⟨(by decide : (61 : Int) ≠ 0), rfl⟩
/-- A sector behind a loss. -/
theorem puts_at (keep : Nat → Bool) (H : List (Int × List Int)) (S : List (List Int)) (s : Nat) : ∀ n, n ≤ H.length → (putsTo keep H S n).getD s [] = S.getD s [] ∨ ∃ j, j < n ∧ (H.getD j (0, [])).1.toNat = s ∧ (putsTo keep H S n).getD s [] = (H.getD j (0, [])).2
  | 0, _ => .inl rfl
  | n + 1, hn => by
    have ih := puts_at keep H S s n (by omega)
    have hl := putsTo_length keep H S n
    by_cases hk : keep n = true
    · by_cases hs : (H.getD n (0, [])).1.toNat = s
      · by_cases hb : s < S.length
        · right
          refine ⟨n, by omega, hs, ?_⟩
          rw [putsTo, if_pos hk, hs, List.getD_eq_getElem?_getD, List.getElem?_set, if_pos rfl, if_pos (by omega)]
          rfl
        · left
          rw [putsTo, if_pos hk, List.getD_eq_getElem?_getD, List.getElem?_eq_none (by rw [List.length_set]; omega), List.getD_eq_getElem?_getD, List.getElem?_eq_none (by omega)]
      · have e : (putsTo keep H S (n + 1)).getD s [] = (putsTo keep H S n).getD s [] := by
          rw [putsTo, if_pos hk, List.getD_eq_getElem?_getD, List.getElem?_set, if_neg hs, ← List.getD_eq_getElem?_getD]
        rw [e]
        exact ih.imp id (fun ⟨j, h1, h2, h3⟩ => ⟨j, by omega, h2, h3⟩)
    · have e : putsTo keep H S (n + 1) = putsTo keep H S n := by rw [putsTo, if_neg hk]
      rw [e]
      exact ih.imp id (fun ⟨j, h1, h2, h3⟩ => ⟨j, by omega, h2, h3⟩)
theorem lose_at (l : List Bool) (s : Nat) (hH : ∀ h ∈ D.held, 0 ≤ h.1) : (loseM l D).sec.getD s [] = D.sec.getD s [] ∨ ∃ j, j < D.held.length ∧ (D.held.getD j (0, [])).1 = (s : Int) ∧ (loseM l D).sec.getD s [] = (D.held.getD j (0, [])).2 := by
  unfold loseM
  split
  · exact .inl rfl
  · rcases puts_at (chB (l.take 4096)) D.held D.sec s D.held.length (Nat.le_refl _) with h | ⟨j, h1, h2, h3⟩
    · exact .inl h
    · right
      refine ⟨j, h1, ?_, h3⟩
      have := hH (D.held.getD j (0, [])) (by rw [List.getD_eq_getElem?_getD, List.getElem?_eq_getElem h1]; exact List.getElem_mem h1)
      omega
/-- A sector's bytes, out of all. -/
theorem bytes_at {S : List (List Int)} (hh : ∀ i, i < S.length → (S.getD i []).length = 64) (s : Nat) : ∀ n, n ≤ S.length → s < n → ((bytesTo S n).take (64 * s + 64)).drop (64 * s) = S.getD s []
  | 0, _, h => absurd h (Nat.not_lt_zero _)
  | n + 1, hn, hs => by
    have hl := bytesTo_length hh n (by omega)
    rw [bytesTo]
    by_cases h : s < n
    · rw [List.take_append_of_le_length (by omega)]
      exact bytes_at hh s n (by omega) h
    · have hsn : s = n := by omega
      subst hsn
      have h64 := hh s (by omega)
      rw [List.take_of_length_le (by rw [List.length_append]; omega), List.drop_append_of_le_length (by omega), List.drop_of_length_le (by omega), List.nil_append]
theorem secs64 (h : St w0 w g F D) : ∀ i, i < D.sec.length → (D.sec.getD i []).length = 64 := by
  obtain ⟨⟨_, _, _, h⟩, _⟩ := h
  obtain ⟨As, cs, e, _⟩ := Kd.R_reads h.sec
  subst e
  exact fun i hi => (sec_load h.sec i hi).elim fun _ h => h.2.1
theorem bytes_len (h : St w0 w g F D) : (bytesM D).length = 64 * D.sec.length := by
  have := bytesTo_length (secs64 h) D.sec.length (Nat.le_refl _)
  rw [bytesM, this, Nat.mul_comm]
theorem bytes_sec (h : St w0 w g F D) (s : Nat) (hs : s < D.sec.length) : ((bytesM D).take (64 * s + 64)).drop (64 * s) = D.sec.getD s [] := bytes_at (secs64 h) s _ (Nat.le_refl _) hs
end Go.Proofs.Ytfimeiicidcoiaa.Dk
