/-
  No cell of these rows narrows 'for every input' (looked for: loops, veiled, ifaces, maps, wideKeys, modest, calm, conditions, laid).
  DERIVED. THE GIVEN ROWS OF THIS SEAT. 8 by the template 'for every input the law returns true; each argument reads behind the call as it read before'; 0 by the template 'total and deterministic' (their statements: YtmmpppahagknpaaTotals.lean).
  GIVEN WITH THE SEED: the statements are not yours to turn. If you find one false, say at which input.
  Laid BY PROGRAM, IN A SANDBOX (cutbox-rows.mjs): the forced cells as the released guide's own fill.sh prints them over the translation 397af3a24eeeaa7f… (all of the seat's roots in one cut). By AI agents, Wed Nov 11 2026. No macro, syntax, notation, axiom, sorry.
-/
import Derived.Test.YtmmpppahagknpaaChecked
import GoSem.Claim
import GoSem.ClaimJoined
import GoSem.ClaimMapViews
import Derived.JoinedTies
import Derived.KernelRfl
namespace Go.Proofs.Ytmmpppahagknpaa
/- THE CELL 'sum', in the pinned program and in every row, IS THE sha256 OF THE DUMP (.gsa) THAT YtmmpppahagknpaaProg.lean LOADS. Nothing in Lean hashes anything: it is a label: what it is worth is what the hold of that sum in a sandbox is worth. -/
noncomputable def Try.pinned : Pinned := { name := "ytmmpppahagknpaa", sum := "397af3a24eeeaa7f11fa4fd03904d032905d821753e3d668d4fd704e03d3bc10", checked := Try.checked }
namespace Rows
def none {H : Type} : Left H := { results := [], args := [] }

/-- 'imprimaturlaw18.WordsCuts': WHATEVER THE INPUT: true; the input reads as it did. -/
def wordsCutsSpec : ChangeSpec := { name := "wordsCuts", fn := fun _ => fun
  | [d] => { results := [.lit (.bool true)], args := [d] }
  | _ => none }
def wordsCutsRow : OpenClaim := { program := "ytmmpppahagknpaa", sum := "397af3a24eeeaa7f11fa4fd03904d032905d821753e3d668d4fd704e03d3bc10", func := "imprimatur/imprimaturlaw18.WordsCuts", spec := "wordsCuts", unfollowed := true, recurses := true, apart := false }
def WordsCutsSaid : Prop := wordsCutsRow.holds Try.pinned (OpenSpec.ofChange wordsCutsSpec)

/-- ITS FALSE NEIGHBOUR: 'it returns false'. Refute it at one input. -/
def wordsCutsWrong : ChangeSpec := { name := "wordsCuts", fn := fun _ => fun
  | [d] => { results := [.lit (.bool false)], args := [d] }
  | _ => none }
def WordsCutsWrongFalsely : Prop := wordsCutsRow.holds Try.pinned (OpenSpec.ofChange wordsCutsWrong)

/-- 'imprimaturlaw18.WordsWhole': WHATEVER THE INPUT: true; the input reads as it did. -/
def wordsWholeSpec : ChangeSpec := { name := "wordsWhole", fn := fun _ => fun
  | [d] => { results := [.lit (.bool true)], args := [d] }
  | _ => none }
def wordsWholeRow : OpenClaim := { program := "ytmmpppahagknpaa", sum := "397af3a24eeeaa7f11fa4fd03904d032905d821753e3d668d4fd704e03d3bc10", func := "imprimatur/imprimaturlaw18.WordsWhole", spec := "wordsWhole", unfollowed := true, recurses := true, apart := false }
def WordsWholeSaid : Prop := wordsWholeRow.holds Try.pinned (OpenSpec.ofChange wordsWholeSpec)

/-- ITS FALSE NEIGHBOUR: 'it returns false'. Refute it at one input. -/
def wordsWholeWrong : ChangeSpec := { name := "wordsWhole", fn := fun _ => fun
  | [d] => { results := [.lit (.bool false)], args := [d] }
  | _ => none }
def WordsWholeWrongFalsely : Prop := wordsWholeRow.holds Try.pinned (OpenSpec.ofChange wordsWholeWrong)

/-- 'imprimaturlaw18.WordsOne': WHATEVER THE INPUT: true; the input reads as it did. -/
def wordsOneSpec : ChangeSpec := { name := "wordsOne", fn := fun _ => fun
  | [d] => { results := [.lit (.bool true)], args := [d] }
  | _ => none }
def wordsOneRow : OpenClaim := { program := "ytmmpppahagknpaa", sum := "397af3a24eeeaa7f11fa4fd03904d032905d821753e3d668d4fd704e03d3bc10", func := "imprimatur/imprimaturlaw18.WordsOne", spec := "wordsOne", unfollowed := true, recurses := true, apart := false }
def WordsOneSaid : Prop := wordsOneRow.holds Try.pinned (OpenSpec.ofChange wordsOneSpec)

/-- ITS FALSE NEIGHBOUR: 'it returns false'. Refute it at one input. -/
def wordsOneWrong : ChangeSpec := { name := "wordsOne", fn := fun _ => fun
  | [d] => { results := [.lit (.bool false)], args := [d] }
  | _ => none }
def WordsOneWrongFalsely : Prop := wordsOneRow.holds Try.pinned (OpenSpec.ofChange wordsOneWrong)

/-- 'imprimaturlaw18.WordsKinds': WHATEVER THE INPUT: true; the input reads as it did. -/
def wordsKindsSpec : ChangeSpec := { name := "wordsKinds", fn := fun _ => fun
  | [d] => { results := [.lit (.bool true)], args := [d] }
  | _ => none }
def wordsKindsRow : OpenClaim := { program := "ytmmpppahagknpaa", sum := "397af3a24eeeaa7f11fa4fd03904d032905d821753e3d668d4fd704e03d3bc10", func := "imprimatur/imprimaturlaw18.WordsKinds", spec := "wordsKinds", unfollowed := true, recurses := true, apart := false }
def WordsKindsSaid : Prop := wordsKindsRow.holds Try.pinned (OpenSpec.ofChange wordsKindsSpec)

/-- ITS FALSE NEIGHBOUR: 'it returns false'. Refute it at one input. -/
def wordsKindsWrong : ChangeSpec := { name := "wordsKinds", fn := fun _ => fun
  | [d] => { results := [.lit (.bool false)], args := [d] }
  | _ => none }
def WordsKindsWrongFalsely : Prop := wordsKindsRow.holds Try.pinned (OpenSpec.ofChange wordsKindsWrong)

/-- 'imprimaturlaw18.WordsLow': WHATEVER THE INPUT: true; the input reads as it did. -/
def wordsLowSpec : ChangeSpec := { name := "wordsLow", fn := fun _ => fun
  | [d] => { results := [.lit (.bool true)], args := [d] }
  | _ => none }
def wordsLowRow : OpenClaim := { program := "ytmmpppahagknpaa", sum := "397af3a24eeeaa7f11fa4fd03904d032905d821753e3d668d4fd704e03d3bc10", func := "imprimatur/imprimaturlaw18.WordsLow", spec := "wordsLow", unfollowed := true, recurses := true, apart := false }
def WordsLowSaid : Prop := wordsLowRow.holds Try.pinned (OpenSpec.ofChange wordsLowSpec)

/-- ITS FALSE NEIGHBOUR: 'it returns false'. Refute it at one input. -/
def wordsLowWrong : ChangeSpec := { name := "wordsLow", fn := fun _ => fun
  | [d] => { results := [.lit (.bool false)], args := [d] }
  | _ => none }
def WordsLowWrongFalsely : Prop := wordsLowRow.holds Try.pinned (OpenSpec.ofChange wordsLowWrong)

/-- 'imprimaturlaw18.WordsCounts': WHATEVER THE INPUT: true; the input reads as it did. -/
def wordsCountsSpec : ChangeSpec := { name := "wordsCounts", fn := fun _ => fun
  | [d] => { results := [.lit (.bool true)], args := [d] }
  | _ => none }
def wordsCountsRow : OpenClaim := { program := "ytmmpppahagknpaa", sum := "397af3a24eeeaa7f11fa4fd03904d032905d821753e3d668d4fd704e03d3bc10", func := "imprimatur/imprimaturlaw18.WordsCounts", spec := "wordsCounts", inPlace := ["internal/bytealg.Compare"], unfollowed := true, recurses := true, apart := false }
def WordsCountsSaid : Prop := wordsCountsRow.holds Try.pinned (OpenSpec.ofChange wordsCountsSpec)

/-- ITS FALSE NEIGHBOUR: 'it returns false'. Refute it at one input. -/
def wordsCountsWrong : ChangeSpec := { name := "wordsCounts", fn := fun _ => fun
  | [d] => { results := [.lit (.bool false)], args := [d] }
  | _ => none }
def WordsCountsWrongFalsely : Prop := wordsCountsRow.holds Try.pinned (OpenSpec.ofChange wordsCountsWrong)

/-- 'imprimaturlaw18.WordsAdds': WHATEVER THE INPUT: true; the input reads as it did. -/
def wordsAddsSpec : ChangeSpec := { name := "wordsAdds", fn := fun _ => fun
  | [d1, d2] => { results := [.lit (.bool true)], args := [d1, d2] }
  | _ => none }
def wordsAddsRow : OpenClaim := { program := "ytmmpppahagknpaa", sum := "397af3a24eeeaa7f11fa4fd03904d032905d821753e3d668d4fd704e03d3bc10", func := "imprimatur/imprimaturlaw18.WordsAdds", spec := "wordsAdds", inPlace := ["internal/bytealg.Compare"], unfollowed := true, recurses := true, apart := false }
def WordsAddsSaid : Prop := wordsAddsRow.holds Try.pinned (OpenSpec.ofChange wordsAddsSpec)

/-- ITS FALSE NEIGHBOUR: 'it returns false'. Refute it at one input. -/
def wordsAddsWrong : ChangeSpec := { name := "wordsAdds", fn := fun _ => fun
  | [d1, d2] => { results := [.lit (.bool false)], args := [d1, d2] }
  | _ => none }
def WordsAddsWrongFalsely : Prop := wordsAddsRow.holds Try.pinned (OpenSpec.ofChange wordsAddsWrong)

/-- 'imprimaturlaw18.WordsLong': WHATEVER THE INPUT: true; the input reads as it did. -/
def wordsLongSpec : ChangeSpec := { name := "wordsLong", fn := fun _ => fun
  | [d1, d2] => { results := [.lit (.bool true)], args := [d1, d2] }
  | _ => none }
def wordsLongRow : OpenClaim := { program := "ytmmpppahagknpaa", sum := "397af3a24eeeaa7f11fa4fd03904d032905d821753e3d668d4fd704e03d3bc10", func := "imprimatur/imprimaturlaw18.WordsLong", spec := "wordsLong", inPlace := ["internal/bytealg.Compare"], unfollowed := true, recurses := true, apart := false }
def WordsLongSaid : Prop := wordsLongRow.holds Try.pinned (OpenSpec.ofChange wordsLongSpec)

/-- ITS FALSE NEIGHBOUR: 'it returns false'. Refute it at one input. -/
def wordsLongWrong : ChangeSpec := { name := "wordsLong", fn := fun _ => fun
  | [d1, d2] => { results := [.lit (.bool false)], args := [d1, d2] }
  | _ => none }
def WordsLongWrongFalsely : Prop := wordsLongRow.holds Try.pinned (OpenSpec.ofChange wordsLongWrong)

/- THE SECOND FORM. 'bulk': how many values and letters a reading holds, each counted each time it is reached (what is shared counts as often as it is met; a slice's spare places count too). A statement '..UptoSaid' is the law's where the arguments, and the package variables that the reading takes, are together of bulk at most 1048576: NARROWER than '..Said'. Prove '..Said' where nothing that the law and all that it calls make is longer than what came in: it says more and counts as full. Else prove '..UptoSaid'. A law counts once. -/
mutual
def uptoBulk {H : Type} : DataW H → Nat
  | .lit (.string bytes) => bytes.length + 1
  | .lit _ => 1
  | .nil => 1
  | .ptr d => uptoBulk d + 1
  | .slice elems spare => uptoBulkAll elems + uptoBulkAll spare + 1
  | .agg parts => uptoBulkAll parts + 1
  | .iface _ d => uptoBulk d + 1
  | .map entries => uptoBulkEntries entries + 1
  | .held _ => 1
def uptoBulkAll {H : Type} : List (DataW H) → Nat
  | [] => 0
  | d :: r => uptoBulk d + uptoBulkAll r
def uptoBulkEntries {H : Type} : List (Lit × DataW H) → Nat
  | [] => 0
  | x :: r => uptoBulkEntry x + uptoBulkEntries r
def uptoBulkEntry {H : Type} : Lit × DataW H → Nat
  | (.string bytes, d) => bytes.length + uptoBulk d + 1
  | (_, d) => uptoBulk d + 1
 end
def uptoSmall : (H : Type) → List (DataW H) → Bool := fun _ ds => decide (uptoBulkAll ds ≤ 1048576)
def OpenSpec.upto (s : _root_.Go.ChangeSpec) : _root_.Go.OpenSpec := { _root_.Go.OpenSpec.ofChange s with cond := some uptoSmall }

/-- 'imprimaturlaw18.WordsCuts', WHERE WHAT IT READS IS OF BULK AT MOST 1048576: true; the input reads as it did. -/
def wordsCutsUptoRow : OpenClaim := { program := "ytmmpppahagknpaa", sum := "397af3a24eeeaa7f11fa4fd03904d032905d821753e3d668d4fd704e03d3bc10", func := "imprimatur/imprimaturlaw18.WordsCuts", spec := "wordsCuts", unfollowed := true, recurses := true, apart := false, narrowed := true }
def WordsCutsUptoSaid : Prop := wordsCutsUptoRow.holds Try.pinned (OpenSpec.upto wordsCutsSpec)

/-- 'imprimaturlaw18.WordsWhole', WHERE WHAT IT READS IS OF BULK AT MOST 1048576: true; the input reads as it did. -/
def wordsWholeUptoRow : OpenClaim := { program := "ytmmpppahagknpaa", sum := "397af3a24eeeaa7f11fa4fd03904d032905d821753e3d668d4fd704e03d3bc10", func := "imprimatur/imprimaturlaw18.WordsWhole", spec := "wordsWhole", unfollowed := true, recurses := true, apart := false, narrowed := true }
def WordsWholeUptoSaid : Prop := wordsWholeUptoRow.holds Try.pinned (OpenSpec.upto wordsWholeSpec)

/-- 'imprimaturlaw18.WordsOne', WHERE WHAT IT READS IS OF BULK AT MOST 1048576: true; the input reads as it did. -/
def wordsOneUptoRow : OpenClaim := { program := "ytmmpppahagknpaa", sum := "397af3a24eeeaa7f11fa4fd03904d032905d821753e3d668d4fd704e03d3bc10", func := "imprimatur/imprimaturlaw18.WordsOne", spec := "wordsOne", unfollowed := true, recurses := true, apart := false, narrowed := true }
def WordsOneUptoSaid : Prop := wordsOneUptoRow.holds Try.pinned (OpenSpec.upto wordsOneSpec)

/-- 'imprimaturlaw18.WordsKinds', WHERE WHAT IT READS IS OF BULK AT MOST 1048576: true; the input reads as it did. -/
def wordsKindsUptoRow : OpenClaim := { program := "ytmmpppahagknpaa", sum := "397af3a24eeeaa7f11fa4fd03904d032905d821753e3d668d4fd704e03d3bc10", func := "imprimatur/imprimaturlaw18.WordsKinds", spec := "wordsKinds", unfollowed := true, recurses := true, apart := false, narrowed := true }
def WordsKindsUptoSaid : Prop := wordsKindsUptoRow.holds Try.pinned (OpenSpec.upto wordsKindsSpec)

/-- 'imprimaturlaw18.WordsLow', WHERE WHAT IT READS IS OF BULK AT MOST 1048576: true; the input reads as it did. -/
def wordsLowUptoRow : OpenClaim := { program := "ytmmpppahagknpaa", sum := "397af3a24eeeaa7f11fa4fd03904d032905d821753e3d668d4fd704e03d3bc10", func := "imprimatur/imprimaturlaw18.WordsLow", spec := "wordsLow", unfollowed := true, recurses := true, apart := false, narrowed := true }
def WordsLowUptoSaid : Prop := wordsLowUptoRow.holds Try.pinned (OpenSpec.upto wordsLowSpec)

/-- 'imprimaturlaw18.WordsCounts', WHERE WHAT IT READS IS OF BULK AT MOST 1048576: true; the input reads as it did. -/
def wordsCountsUptoRow : OpenClaim := { program := "ytmmpppahagknpaa", sum := "397af3a24eeeaa7f11fa4fd03904d032905d821753e3d668d4fd704e03d3bc10", func := "imprimatur/imprimaturlaw18.WordsCounts", spec := "wordsCounts", inPlace := ["internal/bytealg.Compare"], unfollowed := true, recurses := true, apart := false, narrowed := true }
def WordsCountsUptoSaid : Prop := wordsCountsUptoRow.holds Try.pinned (OpenSpec.upto wordsCountsSpec)

/-- 'imprimaturlaw18.WordsAdds', WHERE WHAT IT READS IS OF BULK AT MOST 1048576: true; the input reads as it did. -/
def wordsAddsUptoRow : OpenClaim := { program := "ytmmpppahagknpaa", sum := "397af3a24eeeaa7f11fa4fd03904d032905d821753e3d668d4fd704e03d3bc10", func := "imprimatur/imprimaturlaw18.WordsAdds", spec := "wordsAdds", inPlace := ["internal/bytealg.Compare"], unfollowed := true, recurses := true, apart := false, narrowed := true }
def WordsAddsUptoSaid : Prop := wordsAddsUptoRow.holds Try.pinned (OpenSpec.upto wordsAddsSpec)

/-- 'imprimaturlaw18.WordsLong', WHERE WHAT IT READS IS OF BULK AT MOST 1048576: true; the input reads as it did. -/
def wordsLongUptoRow : OpenClaim := { program := "ytmmpppahagknpaa", sum := "397af3a24eeeaa7f11fa4fd03904d032905d821753e3d668d4fd704e03d3bc10", func := "imprimatur/imprimaturlaw18.WordsLong", spec := "wordsLong", inPlace := ["internal/bytealg.Compare"], unfollowed := true, recurses := true, apart := false, narrowed := true }
def WordsLongUptoSaid : Prop := wordsLongUptoRow.holds Try.pinned (OpenSpec.upto wordsLongSpec)

end Rows
end Go.Proofs.Ytmmpppahagknpaa
