/- The law WordsCuts, as a plain statement: any text of up to 2000 bytes is cut into the words that the document says; a longer one is not looked at. No further condition. -/
import Derived.Test.YtmmpppahagknpaaPx7
import Derived.Test.YtmmpppahagknpaaCutM
namespace Go.Proofs.Ytmmpppahagknpaa.Pure
open Go.RowKit Go.Proofs.Ytmmpppahagknpaa.P Go.Proofs.YtmmpppahagknpaaW.PrintWords Go.Proofs.YtmmpppahagknpaaW.PrintLast

theorem WordsCuts : imprimaturlaw18_WordsCuts.Pure := by
  intro l0 _ _ hwf
  have hb := byts_of_wf hwf
  obtain ⟨K, hK⟩ : ∃ K : Nat, K = 2050 := ⟨_, rfl⟩
  refine ⟨K, ?_⟩
  unfold imprimaturlaw18_WordsCuts.f imprimaturlaw18_long.f
  simp only [Option.bind_some]
  by_cases hl : (l0.length : Int) > 2000
  · simp [hl, imprimaturlaw18_known.f]
  · have hlen : l0.length ≤ 2000 := by omega
    have hw := (cutM_whole l0 hb (by omega)).2.2
    rw [if_neg (by simpa using hl), Cut_eq l0 hb (by omega) K (by omega)]
    simp only [Option.bind_some, if_true]
    rw [RCut_eq l0 hb (by omega) K (by omega)]
    simp only [Option.bind_some]
    rw [Same_self _ (by omega) K (by omega)]
    simp [imprimaturlaw18_known.f]

end Go.Proofs.Ytmmpppahagknpaa.Pure
