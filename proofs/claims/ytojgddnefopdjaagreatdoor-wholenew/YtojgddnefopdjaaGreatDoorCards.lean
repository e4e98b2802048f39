/-
  DERIVED. GIVEN WITH THE SEED: THE CARDS: each row of YtojgddnefopdjaaGreatDoorRows.lean that lists a variable, with what it lists TIED to the program's text (the seventh form; the later family's looks); each row that meets fmt, with fmt's text TOLD by the authors' own Lean function (tested against real Go, not proved from fmt's source: count such statements apart). THE CARD IS WHAT COUNTS. Prove the row's statement (the work); the ties are given (YtojgddnefopdjaaGreatDoorTie.lean); close each card by the builder's one call (the guide's Derived/Test/ToyasCard.lean, 'card_holds'). Laid BY PROGRAM, IN A SANDBOX (cutbox-door.mjs). By AI agents, Wed Nov 11 2026. No macro, syntax, notation, axiom, sorry.
-/
import Derived.Test.YtojgddnefopdjaaGreatDoorRows
import GoSem.ClaimSeven
namespace Go.Proofs.YtojgddnefopdjaaGreatDoor
namespace Rows

/-- THE TIED CARD OF 'hermitagelaw14.WholeTells'. -/
def wholeTellsCard : Claim7 := { stood := { row := wholeTellsRow, standIns := [], harness := (true, "c9e38f7f286122c46498dcc69ecb030c6ca78241275d3fde01e751a66630a704"), looks := false }, kinds := [], alts := [], laidByText := true, laidKinds := [.data, .data, .pinned], laidTests := true, laidLooks := .later }
def WholeTellsCardSaid : Prop := Claim7.holds Tryz.pinned (.plain (OpenSpec.ofChange wholeTellsSpec)) wholeTellsCard

/-- THE TIED CARD OF 'hermitagelaw14.WholeStays'. -/
def wholeStaysCard : Claim7 := { stood := { row := wholeStaysRow, standIns := [], harness := (true, "c9e38f7f286122c46498dcc69ecb030c6ca78241275d3fde01e751a66630a704"), looks := false }, kinds := [], alts := [], laidByText := true, laidKinds := [.data, .data, .pinned], laidTests := true, laidLooks := .later }
def WholeStaysCardSaid : Prop := Claim7.holds Tryz.pinned (.plain (OpenSpec.ofChange wholeStaysSpec)) wholeStaysCard

/-- THE TIED CARD OF 'hermitagelaw14.WholeNew'. -/
def wholeNewCard : Claim7 := { stood := { row := wholeNewRow, standIns := [], harness := (true, "c9e38f7f286122c46498dcc69ecb030c6ca78241275d3fde01e751a66630a704"), looks := false }, kinds := [], alts := [], laidByText := true, laidKinds := [.data, .data, .pinned], laidTests := true, laidLooks := .later }
def WholeNewCardSaid : Prop := Claim7.holds Tryz.pinned (.plain (OpenSpec.ofChange wholeNewSpec)) wholeNewCard

/-- THE SECOND FORM's CARD OF 'hermitagelaw14.WholeTells'. -/
def wholeTellsUptoCard : Claim7 := { stood := { row := wholeTellsUptoRow, standIns := [], harness := (true, "c9e38f7f286122c46498dcc69ecb030c6ca78241275d3fde01e751a66630a704"), looks := false }, kinds := [], alts := [], laidByText := true, laidKinds := [.data, .data, .pinned], laidTests := true, laidLooks := .later }
def WholeTellsUptoCardSaid : Prop := Claim7.holds Tryz.pinned (.plain (OpenSpec.upto wholeTellsSpec)) wholeTellsUptoCard

/-- THE SECOND FORM's CARD OF 'hermitagelaw14.WholeStays'. -/
def wholeStaysUptoCard : Claim7 := { stood := { row := wholeStaysUptoRow, standIns := [], harness := (true, "c9e38f7f286122c46498dcc69ecb030c6ca78241275d3fde01e751a66630a704"), looks := false }, kinds := [], alts := [], laidByText := true, laidKinds := [.data, .data, .pinned], laidTests := true, laidLooks := .later }
def WholeStaysUptoCardSaid : Prop := Claim7.holds Tryz.pinned (.plain (OpenSpec.upto wholeStaysSpec)) wholeStaysUptoCard

/-- THE SECOND FORM's CARD OF 'hermitagelaw14.WholeNew'. -/
def wholeNewUptoCard : Claim7 := { stood := { row := wholeNewUptoRow, standIns := [], harness := (true, "c9e38f7f286122c46498dcc69ecb030c6ca78241275d3fde01e751a66630a704"), looks := false }, kinds := [], alts := [], laidByText := true, laidKinds := [.data, .data, .pinned], laidTests := true, laidLooks := .later }
def WholeNewUptoCardSaid : Prop := Claim7.holds Tryz.pinned (.plain (OpenSpec.upto wholeNewSpec)) wholeNewUptoCard
end Rows
end Go.Proofs.YtojgddnefopdjaaGreatDoor
