/- The law WordsLow, as a plain statement: of a text of up to 2000 bytes the low text is low already, and its words are the text's words made low. No further condition. -/
import Derived.Test.YtmmpppahagknpaaPx9
import Derived.Test.YtmmpppahagknpaaLowM
namespace Go.Proofs.Ytmmpppahagknpaa.Pure
open Go.RowKit Go.Proofs.Ytmmpppahagknpaa.P Go.Proofs.YtmmpppahagknpaaW.PrintWords Go.Proofs.YtmmpppahagknpaaW.PrintLast

theorem rd_map (L : List (List Int)) (i : Nat) : rd_L1 (L.map (List.map lowB)) (i : Int) = (rd_L1 L (i : Int)).map lowB := by
  unfold rd_L1
  simp only [Int.toNat_natCast, List.getD_eq_getElem?_getD, List.getElem?_map]
  cases L[i]? with
  | none => rfl
  | some x => rfl
theorem low_loop (L : List (List Int)) (hL : L.length ≤ 2000) (hb : ∀ w ∈ L, Byts w ∧ w.length ≤ 2000) : ∀ (d i : Nat), L.length - i ≤ d → i ≤ L.length → ∀ k, d + 2010 ≤ k → imprimaturlaw18_WordsLow.l0 k L (L.map (List.map lowB)) i = some true := by
  intro d
  induction d with
  | zero =>
    intro i hd hi k hk
    obtain ⟨k, rfl⟩ : ∃ m, k = m + 1 := ⟨k - 1, by omega⟩
    simp only [imprimaturlaw18_WordsLow.l0]
    rw [if_neg (by omega)]
    simp [imprimaturlaw18_known.f]
  | succ d ih =>
    intro i hd hi k hk
    obtain ⟨k, rfl⟩ : ∃ m, k = m + 1 := ⟨k - 1, by omega⟩
    simp only [imprimaturlaw18_WordsLow.l0]
    by_cases h : i < L.length
    · have hr : rd_L1 L (i : Int) = L[i] := by simp [rd_L1, List.getD_eq_getElem?_getD, List.getElem?_eq_getElem h]
      obtain ⟨b1, b2⟩ := hb L[i] (List.getElem_mem h)
      rw [if_pos (by omega), if_pos (by omega), rd_map, hr, RLow_eq _ b1 (by omega) k (by omega)]
      simp only [Option.bind_some, List.length_map]
      rw [if_pos (by omega), w64 (by omega) (by omega)]
      have := ih (i + 1) (by omega) (by omega) k (by omega)
      have e : ((i + 1 : Nat) : Int) = (i : Int) + 1 := by omega
      rw [e] at this
      simp only [imprimaturref01_SameBytes.f, Option.bind_some, beq_self_eq_true, if_true]
      exact this
    · rw [if_neg (by omega)]
      simp [imprimaturlaw18_known.f]

theorem WordsLow : imprimaturlaw18_WordsLow.Pure := by
  intro l0 _ _ hwf
  have hb := byts_of_wf hwf
  obtain ⟨K, hK⟩ : ∃ K : Nat, K = 5000 := ⟨_, rfl⟩
  refine ⟨K, ?_⟩
  unfold imprimaturlaw18_WordsLow.f imprimaturlaw18_long.f
  simp only [Option.bind_some]
  by_cases hl : (l0.length : Int) > 2000
  · simp [hl, imprimaturlaw18_known.f]
  · have hlen : l0.length ≤ 2000 := by omega
    obtain ⟨hf, h1, hw⟩ := cutM_whole l0 hb (by omega)
    rw [if_neg (by simpa using hl), Low_eq l0 (by omega)]
    simp only [Option.bind_some]
    rw [Cut_eq l0 hb (by omega) K (by omega), Cut_eq _ (low_byts hb) (by simp; omega) K (by simp; omega), cutM_low l0 hb (by omega)]
    simp only [Option.bind_some, List.length_map, if_true]
    rw [Low_eq _ (by simp; omega)]
    simp only [Option.bind_some, imprimaturref01_SameBytes.f]
    have e : (l0.map lowB).map lowB = l0.map lowB := by
      rw [List.map_map]; exact List.map_congr_left (fun x _ => lowB_idem x)
    rw [e]
    obtain ⟨K', rfl⟩ : ∃ m, K = m + 1 := ⟨K - 1, by omega⟩
    simp only [beq_self_eq_true, Bool.not_true, imprimaturlaw18_WordsLow.j0]
    rw [if_neg (by decide)]
    refine low_loop (cutM l0) (by omega) (fun w hw' => ⟨fun x hx => hb x ?_, ?_⟩) (cutM l0).length 0 (by omega) (by omega) K' (by omega)
    · rw [← hf]; exact List.mem_flatten.2 ⟨w, hw', hx⟩
    · have : w.length ≤ (cutM l0).flatten.length := by
        obtain ⟨s, t, hst⟩ := List.append_of_mem hw'
        rw [hst]; simp; omega
      rw [hf] at this; omega

end Go.Proofs.Ytmmpppahagknpaa.Pure
