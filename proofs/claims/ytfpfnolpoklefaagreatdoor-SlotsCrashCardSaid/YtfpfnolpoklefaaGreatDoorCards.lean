/-
  DERIVED. GIVEN WITH THE SEED: THE CARDS: each row of YtfpfnolpoklefaaGreatDoorRows.lean that lists a variable, with what it lists TIED to the program's text (the seventh form; the later family's looks); each row that meets fmt, with fmt's text TOLD by the authors' own Lean function (tested against real Go, not proved from fmt's source: count such statements apart). THE CARD IS WHAT COUNTS. Prove the row's statement (the work); the ties are given (YtfpfnolpoklefaaGreatDoorTie.lean); close each card by the builder's one call (the guide's Derived/Test/ToyasCard.lean, 'card_holds'). Laid BY PROGRAM, IN A SANDBOX (cutbox-door.mjs). By AI agents, Wed Nov 11 2026. No macro, syntax, notation, axiom, sorry.
-/
import Derived.Test.YtfpfnolpoklefaaGreatDoorRows
import GoSem.ClaimSeven
namespace Go.Proofs.YtfpfnolpoklefaaGreatDoor
namespace Rows

/-- THE TIED CARD OF 'imprimaturlaw13.SlotsNil'. -/
def slotsNilCard : Claim7 := { stood := { row := slotsNilRow, standIns := [], harness := (true, "df487efc2d3613f5b734570face83baf3bd35c42f6d88ae94063d0daad1ebbc4"), looks := true }, kinds := [], alts := [], laidByText := true, laidKinds := [.data, .data], laidTests := true, laidLooks := .later }
def SlotsNilCardSaid : Prop := Claim7.holds Tryz.pinned (.plain (OpenSpec.ofChange slotsNilSpec)) slotsNilCard

/-- THE TIED CARD OF 'imprimaturlaw13.SlotsApart'. -/
def slotsApartCard : Claim7 := { stood := { row := slotsApartRow, standIns := [], harness := (true, "df487efc2d3613f5b734570face83baf3bd35c42f6d88ae94063d0daad1ebbc4"), looks := true }, kinds := [], alts := [], laidByText := true, laidKinds := [.data, .data], laidTests := true, laidLooks := .later }
def SlotsApartCardSaid : Prop := Claim7.holds Tryz.pinned (.plain (OpenSpec.ofChange slotsApartSpec)) slotsApartCard

/-- THE TIED CARD OF 'imprimaturlaw13.SlotsPlays'. -/
def slotsPlaysCard : Claim7 := { stood := { row := slotsPlaysRow, standIns := [], harness := (true, "df487efc2d3613f5b734570face83baf3bd35c42f6d88ae94063d0daad1ebbc4"), looks := true }, kinds := [], alts := [], laidByText := true, laidKinds := [.data, .data], laidTests := true, laidLooks := .later }
def SlotsPlaysCardSaid : Prop := Claim7.holds Tryz.pinned (.plain (OpenSpec.ofChange slotsPlaysSpec)) slotsPlaysCard

/-- THE TIED CARD OF 'imprimaturlaw13.SlotsCrash'. -/
def slotsCrashCard : Claim7 := { stood := { row := slotsCrashRow, standIns := [], harness := (true, "df487efc2d3613f5b734570face83baf3bd35c42f6d88ae94063d0daad1ebbc4"), looks := true }, kinds := [], alts := [], laidByText := true, laidKinds := [.data, .data], laidTests := true, laidLooks := .later }
def SlotsCrashCardSaid : Prop := Claim7.holds Tryz.pinned (.plain (OpenSpec.ofChange slotsCrashSpec)) slotsCrashCard

/-- THE SECOND FORM's CARD OF 'imprimaturlaw13.SlotsNil'. -/
def slotsNilUptoCard : Claim7 := { stood := { row := slotsNilUptoRow, standIns := [], harness := (true, "df487efc2d3613f5b734570face83baf3bd35c42f6d88ae94063d0daad1ebbc4"), looks := true }, kinds := [], alts := [], laidByText := true, laidKinds := [.data, .data], laidTests := true, laidLooks := .later }
def SlotsNilUptoCardSaid : Prop := Claim7.holds Tryz.pinned (.plain (OpenSpec.upto slotsNilSpec)) slotsNilUptoCard

/-- THE SECOND FORM's CARD OF 'imprimaturlaw13.SlotsApart'. -/
def slotsApartUptoCard : Claim7 := { stood := { row := slotsApartUptoRow, standIns := [], harness := (true, "df487efc2d3613f5b734570face83baf3bd35c42f6d88ae94063d0daad1ebbc4"), looks := true }, kinds := [], alts := [], laidByText := true, laidKinds := [.data, .data], laidTests := true, laidLooks := .later }
def SlotsApartUptoCardSaid : Prop := Claim7.holds Tryz.pinned (.plain (OpenSpec.upto slotsApartSpec)) slotsApartUptoCard

/-- THE SECOND FORM's CARD OF 'imprimaturlaw13.SlotsPlays'. -/
def slotsPlaysUptoCard : Claim7 := { stood := { row := slotsPlaysUptoRow, standIns := [], harness := (true, "df487efc2d3613f5b734570face83baf3bd35c42f6d88ae94063d0daad1ebbc4"), looks := true }, kinds := [], alts := [], laidByText := true, laidKinds := [.data, .data], laidTests := true, laidLooks := .later }
def SlotsPlaysUptoCardSaid : Prop := Claim7.holds Tryz.pinned (.plain (OpenSpec.upto slotsPlaysSpec)) slotsPlaysUptoCard

/-- THE SECOND FORM's CARD OF 'imprimaturlaw13.SlotsCrash'. -/
def slotsCrashUptoCard : Claim7 := { stood := { row := slotsCrashUptoRow, standIns := [], harness := (true, "df487efc2d3613f5b734570face83baf3bd35c42f6d88ae94063d0daad1ebbc4"), looks := true }, kinds := [], alts := [], laidByText := true, laidKinds := [.data, .data], laidTests := true, laidLooks := .later }
def SlotsCrashUptoCardSaid : Prop := Claim7.holds Tryz.pinned (.plain (OpenSpec.upto slotsCrashSpec)) slotsCrashUptoCard
end Rows
end Go.Proofs.YtfpfnolpoklefaaGreatDoor
