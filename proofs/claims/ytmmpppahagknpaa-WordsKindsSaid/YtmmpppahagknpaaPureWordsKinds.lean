/- The law WordsKinds, as a plain statement: at every place of a text of up to 2000 bytes the first sign has the kind and the size that the document says, and the text has its low one. No further condition. -/
import Derived.Test.YtmmpppahagknpaaPx8
import Derived.Test.YtmmpppahagknpaaLowM
namespace Go.Proofs.Ytmmpppahagknpaa.Pure
open Go.RowKit Go.Proofs.Ytmmpppahagknpaa.P Go.Proofs.YtmmpppahagknpaaW.PrintWords Go.Proofs.YtmmpppahagknpaaW.PrintLast

theorem kinds_loop (l : List Int) (hb : Byts l) (hl : l.length ≤ 2000) : ∀ (d i : Nat), l.length + 1 - i ≤ d → i ≤ l.length + 1 → ∀ k, d + 2010 ≤ k → imprimaturlaw18_WordsKinds.l0 k l i = some true := by
  intro d
  induction d with
  | zero =>
    intro i hd hi k hk
    obtain ⟨k, rfl⟩ : ∃ m, k = m + 1 := ⟨k - 1, by omega⟩
    simp only [imprimaturlaw18_WordsKinds.l0]
    rw [if_neg (by omega), Low_eq l (by omega)]
    simp only [Option.bind_some]
    rw [RLow_eq l hb (by omega) k (by omega)]
    simp [imprimaturref01_SameBytes.f, imprimaturlaw18_known.f]
  | succ d ih =>
    intro i hd hi k hk
    obtain ⟨k, rfl⟩ : ∃ m, k = m + 1 := ⟨k - 1, by omega⟩
    simp only [imprimaturlaw18_WordsKinds.l0]
    by_cases h : i ≤ l.length
    · rw [if_pos (by omega), if_pos (by omega), Int.toNat_natCast, kind_at _ (hb.drop i) (by simp; omega) k (by omega), rkind_at _ (hb.drop i) (by simp; omega) k (by omega)]
      simp only [Option.bind_some, if_true]
      rw [w64 (by omega) (by omega)]
      have := ih (i + 1) (by omega) (by omega) k (by omega)
      have e : ((i + 1 : Nat) : Int) = (i : Int) + 1 := by omega
      rw [e] at this
      exact this
    · rw [if_neg (by omega), Low_eq l (by omega)]
      simp only [Option.bind_some]
      rw [RLow_eq l hb (by omega) k (by omega)]
      simp [imprimaturref01_SameBytes.f, imprimaturlaw18_known.f]

theorem WordsKinds : imprimaturlaw18_WordsKinds.Pure := by
  intro l0 _ _ hwf
  have hb := byts_of_wf hwf
  obtain ⟨K, hK⟩ : ∃ K : Nat, K = 5000 := ⟨_, rfl⟩
  refine ⟨K, ?_⟩
  unfold imprimaturlaw18_WordsKinds.f imprimaturlaw18_long.f
  simp only [Option.bind_some]
  by_cases hl : (l0.length : Int) > 2000
  · simp [hl, imprimaturlaw18_known.f]
  · rw [if_neg (by simpa using hl)]
    have h := kinds_loop l0 hb (by omega) (l0.length + 1) 0 (by omega) (by omega) K (by omega)
    exact h

end Go.Proofs.Ytmmpppahagknpaa.Pure
