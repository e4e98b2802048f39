/-
  DERIVED. GIVEN WITH THE SEED: THE CARDS: each row of YtmnmcobpfpkibaaGreatDoorRows.lean that lists a variable, with what it lists TIED to the program's text (the seventh form; the later family's looks); each row that meets fmt, with fmt's text TOLD by the authors' own Lean function (tested against real Go, not proved from fmt's source: count such statements apart). THE CARD IS WHAT COUNTS. Prove the row's statement (the work); the ties are given (YtmnmcobpfpkibaaGreatDoorTie.lean); close each card by the builder's one call (the guide's Derived/Test/ToyasCard.lean, 'card_holds'). Laid BY PROGRAM, IN A SANDBOX (cutbox-door.mjs). By AI agents, Wed Nov 11 2026. No macro, syntax, notation, axiom, sorry.
-/
import Derived.Test.YtmnmcobpfpkibaaGreatDoorRows
import GoSem.ClaimSeven
namespace Go.Proofs.YtmnmcobpfpkibaaGreatDoor
namespace Rows

/-- THE TIED CARD OF 'hermitagelaw18.ImageBack'. -/
def imageBackCard : Claim7 := { stood := { row := imageBackRow, standIns := [], harness := (true, "5d30d3b13a8e98fd08fe7402f5d60b7f79a05d660e4e20eaf85c4ba457d0e630"), looks := false }, kinds := [], alts := [], laidByText := true, laidKinds := [.data, .pinned], laidTests := true, laidLooks := .later }
def ImageBackCardSaid : Prop := Claim7.holds Tryz.pinned (.plain (OpenSpec.ofChange imageBackSpec)) imageBackCard

/-- THE TIED CARD OF 'hermitagelaw18.ImageAny'. -/
def imageAnyCard : Claim7 := { stood := { row := imageAnyRow, standIns := [], harness := (true, "5d30d3b13a8e98fd08fe7402f5d60b7f79a05d660e4e20eaf85c4ba457d0e630"), looks := false }, kinds := [], alts := [], laidByText := true, laidKinds := [.data, .pinned], laidTests := true, laidLooks := .later }
def ImageAnyCardSaid : Prop := Claim7.holds Tryz.pinned (.plain (OpenSpec.ofChange imageAnySpec)) imageAnyCard

/-- THE TIED CARD OF 'hermitagelaw18.ImageNew'. -/
def imageNewCard : Claim7 := { stood := { row := imageNewRow, standIns := [], harness := (true, "5d30d3b13a8e98fd08fe7402f5d60b7f79a05d660e4e20eaf85c4ba457d0e630"), looks := false }, kinds := [], alts := [], laidByText := true, laidKinds := [.data, .pinned], laidTests := true, laidLooks := .later }
def ImageNewCardSaid : Prop := Claim7.holds Tryz.pinned (.plain (OpenSpec.ofChange imageNewSpec)) imageNewCard

/-- THE TIED CARD OF 'hermitagelaw18.ImageTexts'. -/
def imageTextsCard : Claim7 := { stood := { row := imageTextsRow, standIns := [], harness := (true, "5d30d3b13a8e98fd08fe7402f5d60b7f79a05d660e4e20eaf85c4ba457d0e630"), looks := false }, kinds := [], alts := [], laidByText := true, laidKinds := [.data, .pinned], laidTests := true, laidLooks := .later }
def ImageTextsCardSaid : Prop := Claim7.holds Tryz.pinned (.plain (OpenSpec.ofChange imageTextsSpec)) imageTextsCard

/-- THE SECOND FORM's CARD OF 'hermitagelaw18.ImageBack'. -/
def imageBackUptoCard : Claim7 := { stood := { row := imageBackUptoRow, standIns := [], harness := (true, "5d30d3b13a8e98fd08fe7402f5d60b7f79a05d660e4e20eaf85c4ba457d0e630"), looks := false }, kinds := [], alts := [], laidByText := true, laidKinds := [.data, .pinned], laidTests := true, laidLooks := .later }
def ImageBackUptoCardSaid : Prop := Claim7.holds Tryz.pinned (.plain (OpenSpec.upto imageBackSpec)) imageBackUptoCard

/-- THE SECOND FORM's CARD OF 'hermitagelaw18.ImageAny'. -/
def imageAnyUptoCard : Claim7 := { stood := { row := imageAnyUptoRow, standIns := [], harness := (true, "5d30d3b13a8e98fd08fe7402f5d60b7f79a05d660e4e20eaf85c4ba457d0e630"), looks := false }, kinds := [], alts := [], laidByText := true, laidKinds := [.data, .pinned], laidTests := true, laidLooks := .later }
def ImageAnyUptoCardSaid : Prop := Claim7.holds Tryz.pinned (.plain (OpenSpec.upto imageAnySpec)) imageAnyUptoCard

/-- THE SECOND FORM's CARD OF 'hermitagelaw18.ImageNew'. -/
def imageNewUptoCard : Claim7 := { stood := { row := imageNewUptoRow, standIns := [], harness := (true, "5d30d3b13a8e98fd08fe7402f5d60b7f79a05d660e4e20eaf85c4ba457d0e630"), looks := false }, kinds := [], alts := [], laidByText := true, laidKinds := [.data, .pinned], laidTests := true, laidLooks := .later }
def ImageNewUptoCardSaid : Prop := Claim7.holds Tryz.pinned (.plain (OpenSpec.upto imageNewSpec)) imageNewUptoCard

/-- THE SECOND FORM's CARD OF 'hermitagelaw18.ImageTexts'. -/
def imageTextsUptoCard : Claim7 := { stood := { row := imageTextsUptoRow, standIns := [], harness := (true, "5d30d3b13a8e98fd08fe7402f5d60b7f79a05d660e4e20eaf85c4ba457d0e630"), looks := false }, kinds := [], alts := [], laidByText := true, laidKinds := [.data, .pinned], laidTests := true, laidLooks := .later }
def ImageTextsUptoCardSaid : Prop := Claim7.holds Tryz.pinned (.plain (OpenSpec.upto imageTextsSpec)) imageTextsUptoCard
end Rows
end Go.Proofs.YtmnmcobpfpkibaaGreatDoor
