/-
  DERIVED. GIVEN WITH THE SEED: THE CARDS: each row of YtbndinjjpafmjaaDoorRows.lean that lists a variable, with what it lists TIED to the program's text (the seventh form; the later family's looks); each row that meets fmt, with fmt's text TOLD by the authors' own Lean function (tested against real Go, not proved from fmt's source: count such statements apart). THE CARD IS WHAT COUNTS. Prove the row's statement (the work); the ties are given (YtbndinjjpafmjaaDoorTie.lean); close each card by the builder's one call (the guide's Derived/Test/ToyasCard.lean, 'card_holds'). Laid BY PROGRAM, IN A SANDBOX (cutbox-door.mjs). By AI agents, Wed Nov 11 2026. No macro, syntax, notation, axiom, sorry.
-/
import Derived.Test.YtbndinjjpafmjaaDoorRows
import GoSem.ClaimSeven
namespace Go.Proofs.YtbndinjjpafmjaaDoor
namespace Rows

/-- THE TIED CARD OF 'prefectlaw5.SchemaTells'. -/
def schemaTellsCard : Claim7 := { stood := { row := schemaTellsRow, standIns := [], harness := (true, "c1bbbffd4bd783031514a793929996bb4572e902e1b454edb797af885e61f8be"), looks := false }, kinds := [], alts := [], laidByText := true, laidKinds := [.data, .pinned], laidTests := true, laidLooks := .later }
def SchemaTellsCardSaid : Prop := Claim7.holds Tryd.pinned (.plain (OpenSpec.ofChange schemaTellsSpec)) schemaTellsCard

/-- THE TIED CARD OF 'prefectlaw5.SchemaAll'. -/
def schemaAllCard : Claim7 := { stood := { row := schemaAllRow, standIns := [], harness := (true, "c1bbbffd4bd783031514a793929996bb4572e902e1b454edb797af885e61f8be"), looks := false }, kinds := [], alts := [], laidByText := true, laidKinds := [.data, .pinned], laidTests := true, laidLooks := .later }
def SchemaAllCardSaid : Prop := Claim7.holds Tryd.pinned (.plain (OpenSpec.ofChange schemaAllSpec)) schemaAllCard

/-- THE TIED CARD OF 'prefectlaw5.SchemaKinds'. -/
def schemaKindsCard : Claim7 := { stood := { row := schemaKindsRow, standIns := [], harness := (true, "c1bbbffd4bd783031514a793929996bb4572e902e1b454edb797af885e61f8be"), looks := false }, kinds := [], alts := [], laidByText := true, laidKinds := [.data, .pinned], laidTests := true, laidLooks := .later }
def SchemaKindsCardSaid : Prop := Claim7.holds Tryd.pinned (.plain (OpenSpec.ofChange schemaKindsSpec)) schemaKindsCard

/-- THE TIED CARD OF 'prefectlaw18.RuleTells'. -/
def ruleTellsCard : Claim7 := { stood := { row := ruleTellsRow, standIns := [], harness := (true, "c1bbbffd4bd783031514a793929996bb4572e902e1b454edb797af885e61f8be"), looks := false }, kinds := [], alts := [], laidByText := true, laidKinds := [.data, .pinned], laidTests := true, laidLooks := .later }
def RuleTellsCardSaid : Prop := Claim7.holds Tryd.pinned (.plain (OpenSpec.ofChange ruleTellsSpec)) ruleTellsCard

/-- THE TIED CARD OF 'prefectlaw18.RuleBack'. -/
def ruleBackCard : Claim7 := { stood := { row := ruleBackRow, standIns := [], harness := (true, "c1bbbffd4bd783031514a793929996bb4572e902e1b454edb797af885e61f8be"), looks := false }, kinds := [], alts := [], laidByText := true, laidKinds := [.data, .pinned], laidTests := true, laidLooks := .later }
def RuleBackCardSaid : Prop := Claim7.holds Tryd.pinned (.plain (OpenSpec.ofChange ruleBackSpec)) ruleBackCard

/-- THE TIED CARD OF 'prefectlaw18.RuleLetters'. -/
def ruleLettersCard : Claim7 := { stood := { row := ruleLettersRow, standIns := [], harness := (true, "c1bbbffd4bd783031514a793929996bb4572e902e1b454edb797af885e61f8be"), looks := false }, kinds := [], alts := [], laidByText := true, laidKinds := [.data, .pinned], laidTests := true, laidLooks := .later }
def RuleLettersCardSaid : Prop := Claim7.holds Tryd.pinned (.plain (OpenSpec.ofChange ruleLettersSpec)) ruleLettersCard

/-- THE SECOND FORM's CARD OF 'prefectlaw5.SchemaTells'. -/
def schemaTellsUptoCard : Claim7 := { stood := { row := schemaTellsUptoRow, standIns := [], harness := (true, "c1bbbffd4bd783031514a793929996bb4572e902e1b454edb797af885e61f8be"), looks := false }, kinds := [], alts := [], laidByText := true, laidKinds := [.data, .pinned], laidTests := true, laidLooks := .later }
def SchemaTellsUptoCardSaid : Prop := Claim7.holds Tryd.pinned (.plain (OpenSpec.upto schemaTellsSpec)) schemaTellsUptoCard

/-- THE SECOND FORM's CARD OF 'prefectlaw5.SchemaAll'. -/
def schemaAllUptoCard : Claim7 := { stood := { row := schemaAllUptoRow, standIns := [], harness := (true, "c1bbbffd4bd783031514a793929996bb4572e902e1b454edb797af885e61f8be"), looks := false }, kinds := [], alts := [], laidByText := true, laidKinds := [.data, .pinned], laidTests := true, laidLooks := .later }
def SchemaAllUptoCardSaid : Prop := Claim7.holds Tryd.pinned (.plain (OpenSpec.upto schemaAllSpec)) schemaAllUptoCard

/-- THE SECOND FORM's CARD OF 'prefectlaw5.SchemaKinds'. -/
def schemaKindsUptoCard : Claim7 := { stood := { row := schemaKindsUptoRow, standIns := [], harness := (true, "c1bbbffd4bd783031514a793929996bb4572e902e1b454edb797af885e61f8be"), looks := false }, kinds := [], alts := [], laidByText := true, laidKinds := [.data, .pinned], laidTests := true, laidLooks := .later }
def SchemaKindsUptoCardSaid : Prop := Claim7.holds Tryd.pinned (.plain (OpenSpec.upto schemaKindsSpec)) schemaKindsUptoCard

/-- THE SECOND FORM's CARD OF 'prefectlaw18.RuleTells'. -/
def ruleTellsUptoCard : Claim7 := { stood := { row := ruleTellsUptoRow, standIns := [], harness := (true, "c1bbbffd4bd783031514a793929996bb4572e902e1b454edb797af885e61f8be"), looks := false }, kinds := [], alts := [], laidByText := true, laidKinds := [.data, .pinned], laidTests := true, laidLooks := .later }
def RuleTellsUptoCardSaid : Prop := Claim7.holds Tryd.pinned (.plain (OpenSpec.upto ruleTellsSpec)) ruleTellsUptoCard

/-- THE SECOND FORM's CARD OF 'prefectlaw18.RuleBack'. -/
def ruleBackUptoCard : Claim7 := { stood := { row := ruleBackUptoRow, standIns := [], harness := (true, "c1bbbffd4bd783031514a793929996bb4572e902e1b454edb797af885e61f8be"), looks := false }, kinds := [], alts := [], laidByText := true, laidKinds := [.data, .pinned], laidTests := true, laidLooks := .later }
def RuleBackUptoCardSaid : Prop := Claim7.holds Tryd.pinned (.plain (OpenSpec.upto ruleBackSpec)) ruleBackUptoCard

/-- THE SECOND FORM's CARD OF 'prefectlaw18.RuleLetters'. -/
def ruleLettersUptoCard : Claim7 := { stood := { row := ruleLettersUptoRow, standIns := [], harness := (true, "c1bbbffd4bd783031514a793929996bb4572e902e1b454edb797af885e61f8be"), looks := false }, kinds := [], alts := [], laidByText := true, laidKinds := [.data, .pinned], laidTests := true, laidLooks := .later }
def RuleLettersUptoCardSaid : Prop := Claim7.holds Tryd.pinned (.plain (OpenSpec.upto ruleLettersSpec)) ruleLettersUptoCard
end Rows
end Go.Proofs.YtbndinjjpafmjaaDoor
