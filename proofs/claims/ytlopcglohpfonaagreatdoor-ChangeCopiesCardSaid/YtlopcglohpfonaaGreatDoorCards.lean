/-
  DERIVED. GIVEN WITH THE SEED: THE CARDS: each row of YtlopcglohpfonaaGreatDoorRows.lean that lists a variable, with what it lists TIED to the program's text (the seventh form; the later family's looks); each row that meets fmt, with fmt's text TOLD by the authors' own Lean function (tested against real Go, not proved from fmt's source: count such statements apart). THE CARD IS WHAT COUNTS. Prove the row's statement (the work); the ties are given (YtlopcglohpfonaaGreatDoorTie.lean); close each card by the builder's one call (the guide's Derived/Test/ToyasCard.lean, 'card_holds'). Laid BY PROGRAM, IN A SANDBOX (cutbox-door.mjs). By AI agents, Wed Nov 11 2026. No macro, syntax, notation, axiom, sorry.
-/
import Derived.Test.YtlopcglohpfonaaGreatDoorRows
import GoSem.ClaimSeven
namespace Go.Proofs.YtlopcglohpfonaaGreatDoor
namespace Rows

/-- THE TIED CARD OF 'prefectlaw13.ChangeTells'. -/
def changeTellsCard : Claim7 := { stood := { row := changeTellsRow, standIns := [], harness := (true, "43bcb5433d783b3630f1c9357336c8b905311fc2328e74813e0f83ecfb1b6b70"), looks := true }, kinds := [], alts := [], laidByText := true, laidKinds := [.data, .data, .data, .data, .sentinel, .sentinel, .pinned], laidTests := true, laidLooks := .later }
def ChangeTellsCardSaid : Prop := Claim7.holds Tryz.pinned (.plain (OpenSpec.ofChange changeTellsSpec)) changeTellsCard

/-- THE TIED CARD OF 'prefectlaw13.ChangeReads'. -/
def changeReadsCard : Claim7 := { stood := { row := changeReadsRow, standIns := [], harness := (true, "43bcb5433d783b3630f1c9357336c8b905311fc2328e74813e0f83ecfb1b6b70"), looks := true }, kinds := [], alts := [], laidByText := true, laidKinds := [.data, .data, .data, .data, .sentinel, .sentinel, .pinned], laidTests := true, laidLooks := .later }
def ChangeReadsCardSaid : Prop := Claim7.holds Tryz.pinned (.plain (OpenSpec.ofChange changeReadsSpec)) changeReadsCard

/-- THE TIED CARD OF 'prefectlaw13.ChangeCopies'. -/
def changeCopiesCard : Claim7 := { stood := { row := changeCopiesRow, standIns := [], harness := (true, "43bcb5433d783b3630f1c9357336c8b905311fc2328e74813e0f83ecfb1b6b70"), looks := true }, kinds := [], alts := [], laidByText := true, laidKinds := [.data, .data, .data, .data, .sentinel, .sentinel, .pinned], laidTests := true, laidLooks := .later }
def ChangeCopiesCardSaid : Prop := Claim7.holds Tryz.pinned (.plain (OpenSpec.ofChange changeCopiesSpec)) changeCopiesCard

/-- THE TIED CARD OF 'prefectlaw13.ChangeSpoils'. -/
def changeSpoilsCard : Claim7 := { stood := { row := changeSpoilsRow, standIns := [], harness := (true, "43bcb5433d783b3630f1c9357336c8b905311fc2328e74813e0f83ecfb1b6b70"), looks := true }, kinds := [], alts := [], laidByText := true, laidKinds := [.data, .data, .data, .data, .sentinel, .sentinel, .pinned], laidTests := true, laidLooks := .later }
def ChangeSpoilsCardSaid : Prop := Claim7.holds Tryz.pinned (.plain (OpenSpec.ofChange changeSpoilsSpec)) changeSpoilsCard

/-- THE SECOND FORM's CARD OF 'prefectlaw13.ChangeTells'. -/
def changeTellsUptoCard : Claim7 := { stood := { row := changeTellsUptoRow, standIns := [], harness := (true, "43bcb5433d783b3630f1c9357336c8b905311fc2328e74813e0f83ecfb1b6b70"), looks := true }, kinds := [], alts := [], laidByText := true, laidKinds := [.data, .data, .data, .data, .sentinel, .sentinel, .pinned], laidTests := true, laidLooks := .later }
def ChangeTellsUptoCardSaid : Prop := Claim7.holds Tryz.pinned (.plain (OpenSpec.upto changeTellsSpec)) changeTellsUptoCard

/-- THE SECOND FORM's CARD OF 'prefectlaw13.ChangeReads'. -/
def changeReadsUptoCard : Claim7 := { stood := { row := changeReadsUptoRow, standIns := [], harness := (true, "43bcb5433d783b3630f1c9357336c8b905311fc2328e74813e0f83ecfb1b6b70"), looks := true }, kinds := [], alts := [], laidByText := true, laidKinds := [.data, .data, .data, .data, .sentinel, .sentinel, .pinned], laidTests := true, laidLooks := .later }
def ChangeReadsUptoCardSaid : Prop := Claim7.holds Tryz.pinned (.plain (OpenSpec.upto changeReadsSpec)) changeReadsUptoCard

/-- THE SECOND FORM's CARD OF 'prefectlaw13.ChangeCopies'. -/
def changeCopiesUptoCard : Claim7 := { stood := { row := changeCopiesUptoRow, standIns := [], harness := (true, "43bcb5433d783b3630f1c9357336c8b905311fc2328e74813e0f83ecfb1b6b70"), looks := true }, kinds := [], alts := [], laidByText := true, laidKinds := [.data, .data, .data, .data, .sentinel, .sentinel, .pinned], laidTests := true, laidLooks := .later }
def ChangeCopiesUptoCardSaid : Prop := Claim7.holds Tryz.pinned (.plain (OpenSpec.upto changeCopiesSpec)) changeCopiesUptoCard

/-- THE SECOND FORM's CARD OF 'prefectlaw13.ChangeSpoils'. -/
def changeSpoilsUptoCard : Claim7 := { stood := { row := changeSpoilsUptoRow, standIns := [], harness := (true, "43bcb5433d783b3630f1c9357336c8b905311fc2328e74813e0f83ecfb1b6b70"), looks := true }, kinds := [], alts := [], laidByText := true, laidKinds := [.data, .data, .data, .data, .sentinel, .sentinel, .pinned], laidTests := true, laidLooks := .later }
def ChangeSpoilsUptoCardSaid : Prop := Claim7.holds Tryz.pinned (.plain (OpenSpec.upto changeSpoilsSpec)) changeSpoilsUptoCard
end Rows
end Go.Proofs.YtlopcglohpfonaaGreatDoor
