/-
  DERIVED. GIVEN WITH THE SEED: THE CARDS: each row of YtgjeiamilppafaaDoorRows.lean that lists a variable, with what it lists TIED to the program's text (the seventh form; the later family's looks); each row that meets fmt, with fmt's text TOLD by the authors' own Lean function (tested against real Go, not proved from fmt's source: count such statements apart). THE CARD IS WHAT COUNTS. Prove the row's statement (the work); the ties are given (YtgjeiamilppafaaDoorTie.lean); close each card by the builder's one call (the guide's Derived/Test/ToyasCard.lean, 'card_holds'). Laid BY PROGRAM, IN A SANDBOX (cutbox-door.mjs). By AI agents, Wed Nov 11 2026. No macro, syntax, notation, axiom, sorry.
-/
import Derived.Test.YtgjeiamilppafaaDoorRows
import GoSem.ClaimSeven
namespace Go.Proofs.YtgjeiamilppafaaDoor
namespace Rows

/-- THE TIED CARD OF 'prefectlaw10.CsnTells'. -/
def csnTellsCard : Claim7 := { stood := { row := csnTellsRow, standIns := [], harness := (true, "172030732d2c2c8c5d5b8d827ead5fd628dfcc9947eb23a186e2070c0f7ad929"), looks := true }, kinds := [], alts := [], laidByText := true, laidKinds := [.data, .data, .data, .data, .sentinel, .sentinel, .pinned], laidTests := true, laidLooks := .later }
def CsnTellsCardSaid : Prop := Claim7.holds Tryd.pinned (.plain (OpenSpec.ofChange csnTellsSpec)) csnTellsCard

/-- THE TIED CARD OF 'prefectlaw10.CsnRises'. -/
def csnRisesCard : Claim7 := { stood := { row := csnRisesRow, standIns := [], harness := (true, "172030732d2c2c8c5d5b8d827ead5fd628dfcc9947eb23a186e2070c0f7ad929"), looks := true }, kinds := [], alts := [], laidByText := true, laidKinds := [.data, .data, .data, .data, .sentinel, .sentinel, .pinned], laidTests := true, laidLooks := .later }
def CsnRisesCardSaid : Prop := Claim7.holds Tryd.pinned (.plain (OpenSpec.ofChange csnRisesSpec)) csnRisesCard

/-- THE TIED CARD OF 'prefectlaw10.CsnSpills'. -/
def csnSpillsCard : Claim7 := { stood := { row := csnSpillsRow, standIns := [], harness := (true, "172030732d2c2c8c5d5b8d827ead5fd628dfcc9947eb23a186e2070c0f7ad929"), looks := true }, kinds := [], alts := [], laidByText := true, laidKinds := [.data, .data, .data, .data, .sentinel, .sentinel, .pinned], laidTests := true, laidLooks := .later }
def CsnSpillsCardSaid : Prop := Claim7.holds Tryd.pinned (.plain (OpenSpec.ofChange csnSpillsSpec)) csnSpillsCard

/-- THE TIED CARD OF 'prefectlaw10.CsnPlays'. -/
def csnPlaysCard : Claim7 := { stood := { row := csnPlaysRow, standIns := [], harness := (true, "172030732d2c2c8c5d5b8d827ead5fd628dfcc9947eb23a186e2070c0f7ad929"), looks := true }, kinds := [], alts := [], laidByText := true, laidKinds := [.data, .data, .data, .data, .sentinel, .sentinel, .pinned], laidTests := true, laidLooks := .later }
def CsnPlaysCardSaid : Prop := Claim7.holds Tryd.pinned (.plain (OpenSpec.ofChange csnPlaysSpec)) csnPlaysCard

/-- THE SECOND FORM's CARD OF 'prefectlaw10.CsnTells'. -/
def csnTellsUptoCard : Claim7 := { stood := { row := csnTellsUptoRow, standIns := [], harness := (true, "172030732d2c2c8c5d5b8d827ead5fd628dfcc9947eb23a186e2070c0f7ad929"), looks := true }, kinds := [], alts := [], laidByText := true, laidKinds := [.data, .data, .data, .data, .sentinel, .sentinel, .pinned], laidTests := true, laidLooks := .later }
def CsnTellsUptoCardSaid : Prop := Claim7.holds Tryd.pinned (.plain (OpenSpec.upto csnTellsSpec)) csnTellsUptoCard

/-- THE SECOND FORM's CARD OF 'prefectlaw10.CsnRises'. -/
def csnRisesUptoCard : Claim7 := { stood := { row := csnRisesUptoRow, standIns := [], harness := (true, "172030732d2c2c8c5d5b8d827ead5fd628dfcc9947eb23a186e2070c0f7ad929"), looks := true }, kinds := [], alts := [], laidByText := true, laidKinds := [.data, .data, .data, .data, .sentinel, .sentinel, .pinned], laidTests := true, laidLooks := .later }
def CsnRisesUptoCardSaid : Prop := Claim7.holds Tryd.pinned (.plain (OpenSpec.upto csnRisesSpec)) csnRisesUptoCard

/-- THE SECOND FORM's CARD OF 'prefectlaw10.CsnSpills'. -/
def csnSpillsUptoCard : Claim7 := { stood := { row := csnSpillsUptoRow, standIns := [], harness := (true, "172030732d2c2c8c5d5b8d827ead5fd628dfcc9947eb23a186e2070c0f7ad929"), looks := true }, kinds := [], alts := [], laidByText := true, laidKinds := [.data, .data, .data, .data, .sentinel, .sentinel, .pinned], laidTests := true, laidLooks := .later }
def CsnSpillsUptoCardSaid : Prop := Claim7.holds Tryd.pinned (.plain (OpenSpec.upto csnSpillsSpec)) csnSpillsUptoCard

/-- THE SECOND FORM's CARD OF 'prefectlaw10.CsnPlays'. -/
def csnPlaysUptoCard : Claim7 := { stood := { row := csnPlaysUptoRow, standIns := [], harness := (true, "172030732d2c2c8c5d5b8d827ead5fd628dfcc9947eb23a186e2070c0f7ad929"), looks := true }, kinds := [], alts := [], laidByText := true, laidKinds := [.data, .data, .data, .data, .sentinel, .sentinel, .pinned], laidTests := true, laidLooks := .later }
def CsnPlaysUptoCardSaid : Prop := Claim7.holds Tryd.pinned (.plain (OpenSpec.upto csnPlaysSpec)) csnPlaysUptoCard
end Rows
end Go.Proofs.YtgjeiamilppafaaDoor
