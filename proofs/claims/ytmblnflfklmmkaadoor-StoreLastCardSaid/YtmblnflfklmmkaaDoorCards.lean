/-
  DERIVED. GIVEN WITH THE SEED: THE CARDS: each row of YtmblnflfklmmkaaDoorRows.lean that lists a variable, with what it lists TIED to the program's text (the seventh form; the later family's looks); each row that meets fmt, with fmt's text TOLD by the authors' own Lean function (tested against real Go, not proved from fmt's source: count such statements apart). THE CARD IS WHAT COUNTS. Prove the row's statement (the work); the ties are given (YtmblnflfklmmkaaDoorTie.lean); close each card by the builder's one call (the guide's Derived/Test/ToyasCard.lean, 'card_holds'). Laid BY PROGRAM, IN A SANDBOX (cutbox-door.mjs). By AI agents, Wed Nov 11 2026. No macro, syntax, notation, axiom, sorry.
-/
import Derived.Test.YtmblnflfklmmkaaDoorRows
import GoSem.ClaimSeven
namespace Go.Proofs.YtmblnflfklmmkaaDoor
namespace Rows

/-- THE TIED CARD OF 'imprimaturlaw08.StoreNil'. -/
def storeNilCard : Claim7 := { stood := { row := storeNilRow, standIns := [], harness := (true, "1bf893c75732d78a061eda9ea6a5001f97c392aa8da06d65870c8ce54a6f5033"), looks := false }, kinds := [], alts := [], laidByText := true, laidKinds := [.data, .data], laidTests := true, laidLooks := .later }
def StoreNilCardSaid : Prop := Claim7.holds Tryd.pinned (.plain (OpenSpec.ofChange storeNilSpec)) storeNilCard

/-- THE TIED CARD OF 'imprimaturlaw08.StoreLast'. -/
def storeLastCard : Claim7 := { stood := { row := storeLastRow, standIns := [], harness := (true, "1bf893c75732d78a061eda9ea6a5001f97c392aa8da06d65870c8ce54a6f5033"), looks := false }, kinds := [], alts := [], laidByText := true, laidKinds := [.data, .data], laidTests := true, laidLooks := .later }
def StoreLastCardSaid : Prop := Claim7.holds Tryd.pinned (.plain (OpenSpec.ofChange storeLastSpec)) storeLastCard

/-- THE TIED CARD OF 'imprimaturlaw08.StoreGets'. -/
def storeGetsCard : Claim7 := { stood := { row := storeGetsRow, standIns := [], harness := (true, "1bf893c75732d78a061eda9ea6a5001f97c392aa8da06d65870c8ce54a6f5033"), looks := false }, kinds := [], alts := [], laidByText := true, laidKinds := [.data, .data], laidTests := true, laidLooks := .later }
def StoreGetsCardSaid : Prop := Claim7.holds Tryd.pinned (.plain (OpenSpec.ofChange storeGetsSpec)) storeGetsCard

/-- THE TIED CARD OF 'imprimaturlaw08.StoreCrash'. -/
def storeCrashCard : Claim7 := { stood := { row := storeCrashRow, standIns := [], harness := (true, "1bf893c75732d78a061eda9ea6a5001f97c392aa8da06d65870c8ce54a6f5033"), looks := false }, kinds := [], alts := [], laidByText := true, laidKinds := [.data, .data], laidTests := true, laidLooks := .later }
def StoreCrashCardSaid : Prop := Claim7.holds Tryd.pinned (.plain (OpenSpec.ofChange storeCrashSpec)) storeCrashCard

/-- THE TIED CARD OF 'imprimaturlaw08.StoreApart'. -/
def storeApartCard : Claim7 := { stood := { row := storeApartRow, standIns := [], harness := (true, "1bf893c75732d78a061eda9ea6a5001f97c392aa8da06d65870c8ce54a6f5033"), looks := false }, kinds := [], alts := [], laidByText := true, laidKinds := [.data, .data], laidTests := true, laidLooks := .later }
def StoreApartCardSaid : Prop := Claim7.holds Tryd.pinned (.plain (OpenSpec.ofChange storeApartSpec)) storeApartCard

/-- THE SECOND FORM's CARD OF 'imprimaturlaw08.StoreNil'. -/
def storeNilUptoCard : Claim7 := { stood := { row := storeNilUptoRow, standIns := [], harness := (true, "1bf893c75732d78a061eda9ea6a5001f97c392aa8da06d65870c8ce54a6f5033"), looks := false }, kinds := [], alts := [], laidByText := true, laidKinds := [.data, .data], laidTests := true, laidLooks := .later }
def StoreNilUptoCardSaid : Prop := Claim7.holds Tryd.pinned (.plain (OpenSpec.upto storeNilSpec)) storeNilUptoCard

/-- THE SECOND FORM's CARD OF 'imprimaturlaw08.StoreLast'. -/
def storeLastUptoCard : Claim7 := { stood := { row := storeLastUptoRow, standIns := [], harness := (true, "1bf893c75732d78a061eda9ea6a5001f97c392aa8da06d65870c8ce54a6f5033"), looks := false }, kinds := [], alts := [], laidByText := true, laidKinds := [.data, .data], laidTests := true, laidLooks := .later }
def StoreLastUptoCardSaid : Prop := Claim7.holds Tryd.pinned (.plain (OpenSpec.upto storeLastSpec)) storeLastUptoCard

/-- THE SECOND FORM's CARD OF 'imprimaturlaw08.StoreGets'. -/
def storeGetsUptoCard : Claim7 := { stood := { row := storeGetsUptoRow, standIns := [], harness := (true, "1bf893c75732d78a061eda9ea6a5001f97c392aa8da06d65870c8ce54a6f5033"), looks := false }, kinds := [], alts := [], laidByText := true, laidKinds := [.data, .data], laidTests := true, laidLooks := .later }
def StoreGetsUptoCardSaid : Prop := Claim7.holds Tryd.pinned (.plain (OpenSpec.upto storeGetsSpec)) storeGetsUptoCard

/-- THE SECOND FORM's CARD OF 'imprimaturlaw08.StoreCrash'. -/
def storeCrashUptoCard : Claim7 := { stood := { row := storeCrashUptoRow, standIns := [], harness := (true, "1bf893c75732d78a061eda9ea6a5001f97c392aa8da06d65870c8ce54a6f5033"), looks := false }, kinds := [], alts := [], laidByText := true, laidKinds := [.data, .data], laidTests := true, laidLooks := .later }
def StoreCrashUptoCardSaid : Prop := Claim7.holds Tryd.pinned (.plain (OpenSpec.upto storeCrashSpec)) storeCrashUptoCard

/-- THE SECOND FORM's CARD OF 'imprimaturlaw08.StoreApart'. -/
def storeApartUptoCard : Claim7 := { stood := { row := storeApartUptoRow, standIns := [], harness := (true, "1bf893c75732d78a061eda9ea6a5001f97c392aa8da06d65870c8ce54a6f5033"), looks := false }, kinds := [], alts := [], laidByText := true, laidKinds := [.data, .data], laidTests := true, laidLooks := .later }
def StoreApartUptoCardSaid : Prop := Claim7.holds Tryd.pinned (.plain (OpenSpec.upto storeApartSpec)) storeApartUptoCard
end Rows
end Go.Proofs.YtmblnflfklmmkaaDoor
