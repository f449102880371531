/- The law WordsWhole, as a plain statement: the words of a text of up to 2000 bytes together are the text, and none is empty. No further condition. -/
import Derived.Test.YtmmpppahagknpaaPx7
import Derived.Test.YtmmpppahagknpaaCutM
namespace Go.Proofs.Ytmmpppahagknpaa.Pure
open Go.RowKit Go.Proofs.Ytmmpppahagknpaa.P Go.Proofs.YtmmpppahagknpaaW.PrintWords Go.Proofs.YtmmpppahagknpaaW.PrintLast

theorem whole_loop (l : List Int) (L : List (List Int)) (hL : L.length ≤ 2000) (hf : L.flatten = l) (h1 : ∀ w ∈ L, 1 ≤ w.length) (hl : l.length ≤ 2000) : ∀ (d i : Nat), L.length - i ≤ d → i ≤ L.length → ∀ k, d + 2 ≤ k →
    imprimaturlaw18_WordsWhole.l0 k l L 0 ((L.take i).flatten) i = some true := by
  intro d
  induction d with
  | zero =>
    intro i hd hi k hk
    obtain ⟨k, rfl⟩ : ∃ m, k = m + 1 := ⟨k - 1, by omega⟩
    obtain rfl : i = L.length := by omega
    simp only [imprimaturlaw18_WordsWhole.l0]
    rw [if_neg (by omega), List.take_length, hf]
    simp [imprimaturref01_SameBytes.f, imprimaturlaw18_known.f]
  | succ d ih =>
    intro i hd hi k hk
    obtain ⟨k, rfl⟩ : ∃ m, k = m + 1 := ⟨k - 1, by omega⟩
    simp only [imprimaturlaw18_WordsWhole.l0]
    by_cases h : i < L.length
    · have hr : rd_L1 L (i : Int) = L[i] := by simp [rd_L1, List.getD_eq_getElem?_getD, List.getElem?_eq_getElem h]
      have ht : (L.take (i + 1)).flatten = (L.take i).flatten ++ L[i] := by rw [List.take_succ_eq_append_getElem h, List.flatten_append]; simp
      have hle : (L.take (i + 1)).flatten.length ≤ l.length := by
        rw [← hf]
        conv => rhs; rw [← List.take_append_drop (i + 1) L, List.flatten_append, List.length_append]
        omega
      rw [ht, List.length_append] at hle
      have hpos := h1 L[i] (List.getElem_mem h)
      rw [if_pos (by omega), if_pos (by omega), hr, if_neg (by omega), if_pos (by omega), w64 (by omega) (by omega), ← ht]
      have := ih (i + 1) (by omega) (by omega) k (by omega)
      rw [← this]; congr 1
    · obtain rfl : i = L.length := by omega
      rw [if_neg (by omega), List.take_length, hf]
      simp [imprimaturref01_SameBytes.f, imprimaturlaw18_known.f]

theorem WordsWhole : imprimaturlaw18_WordsWhole.Pure := by
  intro l0 _ _ hwf
  have hb := byts_of_wf hwf
  obtain ⟨K, hK⟩ : ∃ K : Nat, K = 2050 := ⟨_, rfl⟩
  refine ⟨K, ?_⟩
  unfold imprimaturlaw18_WordsWhole.f imprimaturlaw18_long.f
  simp only [Option.bind_some]
  by_cases hl : (l0.length : Int) > 2000
  · simp [hl, imprimaturlaw18_known.f]
  · have hlen : l0.length ≤ 2000 := by omega
    obtain ⟨hf, h1, hw⟩ := cutM_whole l0 hb (by omega)
    rw [if_neg (by simpa using hl), Cut_eq l0 hb (by omega) K (by omega)]
    simp only [Option.bind_some]
    have h := whole_loop l0 (cutM l0) (by omega) hf h1 hlen (cutM l0).length 0 (by omega) (by omega) K (by omega)
    simpa using h

end Go.Proofs.Ytmmpppahagknpaa.Pure
