/-
  DERIVED. GIVEN WITH THE SEED: THE CARDS: each row of YtnigadeohmlpiaaGreatDoorRows.lean that lists a variable, with what it lists TIED to the program's text (the seventh form; the later family's looks); each row that meets fmt, with fmt's text TOLD by the authors' own Lean function (tested against real Go, not proved from fmt's source: count such statements apart). THE CARD IS WHAT COUNTS. Prove the row's statement (the work); the ties are given (YtnigadeohmlpiaaGreatDoorTie.lean); close each card by the builder's one call (the guide's Derived/Test/ToyasCard.lean, 'card_holds'). Laid BY PROGRAM, IN A SANDBOX (cutbox-door.mjs). By AI agents, Wed Nov 11 2026. No macro, syntax, notation, axiom, sorry.
-/
import Derived.Test.YtnigadeohmlpiaaGreatDoorRows
import GoSem.ClaimSeven
namespace Go.Proofs.YtnigadeohmlpiaaGreatDoor
namespace Rows

/-- THE TIED CARD OF 'headstocklaw13.LitmusTells'. -/
def litmusTellsCard : Claim7 := { stood := { row := litmusTellsRow, standIns := [], harness := (true, "84c6ae65d637d7d28927206039deb1409d289b7669727125c805cfaa241b784c"), looks := false }, kinds := [], alts := [], laidByText := true, laidKinds := [.data, .data, .data], laidTests := true, laidLooks := .later }
def LitmusTellsCardSaid : Prop := Claim7.holds Tryz.pinned (.plain (OpenSpec.ofChange litmusTellsSpec)) litmusTellsCard

/-- THE TIED CARD OF 'headstocklaw13.LitmusSame'. -/
def litmusSameCard : Claim7 := { stood := { row := litmusSameRow, standIns := [], harness := (true, "84c6ae65d637d7d28927206039deb1409d289b7669727125c805cfaa241b784c"), looks := false }, kinds := [], alts := [], laidByText := true, laidKinds := [.data, .data, .data], laidTests := true, laidLooks := .later }
def LitmusSameCardSaid : Prop := Claim7.holds Tryz.pinned (.plain (OpenSpec.ofChange litmusSameSpec)) litmusSameCard

/-- THE TIED CARD OF 'headstocklaw13.LitmusScripts'. -/
def litmusScriptsCard : Claim7 := { stood := { row := litmusScriptsRow, standIns := [], harness := (true, "84c6ae65d637d7d28927206039deb1409d289b7669727125c805cfaa241b784c"), looks := false }, kinds := [], alts := [], laidByText := true, laidKinds := [.data, .data, .data], laidTests := true, laidLooks := .later }
def LitmusScriptsCardSaid : Prop := Claim7.holds Tryz.pinned (.plain (OpenSpec.ofChange litmusScriptsSpec)) litmusScriptsCard

/-- THE TIED CARD OF 'headstocklaw13.LitmusPlays'. -/
def litmusPlaysCard : Claim7 := { stood := { row := litmusPlaysRow, standIns := [], harness := (true, "84c6ae65d637d7d28927206039deb1409d289b7669727125c805cfaa241b784c"), looks := false }, kinds := [], alts := [], laidByText := true, laidKinds := [.data, .data, .data], laidTests := true, laidLooks := .later }
def LitmusPlaysCardSaid : Prop := Claim7.holds Tryz.pinned (.plain (OpenSpec.ofChange litmusPlaysSpec)) litmusPlaysCard

/-- THE TIED CARD OF 'headstocklaw13.LitmusSingly'. -/
def litmusSinglyCard : Claim7 := { stood := { row := litmusSinglyRow, standIns := [], harness := (true, "84c6ae65d637d7d28927206039deb1409d289b7669727125c805cfaa241b784c"), looks := false }, kinds := [], alts := [], laidByText := true, laidKinds := [.data, .data, .data], laidTests := true, laidLooks := .later }
def LitmusSinglyCardSaid : Prop := Claim7.holds Tryz.pinned (.plain (OpenSpec.ofChange litmusSinglySpec)) litmusSinglyCard

/-- THE TIED CARD OF 'headstocklaw13.LitmusFewer'. -/
def litmusFewerCard : Claim7 := { stood := { row := litmusFewerRow, standIns := [], harness := (true, "84c6ae65d637d7d28927206039deb1409d289b7669727125c805cfaa241b784c"), looks := false }, kinds := [], alts := [], laidByText := true, laidKinds := [.data, .data, .data], laidTests := true, laidLooks := .later }
def LitmusFewerCardSaid : Prop := Claim7.holds Tryz.pinned (.plain (OpenSpec.ofChange litmusFewerSpec)) litmusFewerCard

/-- THE TIED CARD OF 'headstocklaw13.LitmusAlone'. -/
def litmusAloneCard : Claim7 := { stood := { row := litmusAloneRow, standIns := [], harness := (true, "84c6ae65d637d7d28927206039deb1409d289b7669727125c805cfaa241b784c"), looks := false }, kinds := [], alts := [], laidByText := true, laidKinds := [.data, .data, .data], laidTests := true, laidLooks := .later }
def LitmusAloneCardSaid : Prop := Claim7.holds Tryz.pinned (.plain (OpenSpec.ofChange litmusAloneSpec)) litmusAloneCard

/-- THE SECOND FORM's CARD OF 'headstocklaw13.LitmusTells'. -/
def litmusTellsUptoCard : Claim7 := { stood := { row := litmusTellsUptoRow, standIns := [], harness := (true, "84c6ae65d637d7d28927206039deb1409d289b7669727125c805cfaa241b784c"), looks := false }, kinds := [], alts := [], laidByText := true, laidKinds := [.data, .data, .data], laidTests := true, laidLooks := .later }
def LitmusTellsUptoCardSaid : Prop := Claim7.holds Tryz.pinned (.plain (OpenSpec.upto litmusTellsSpec)) litmusTellsUptoCard

/-- THE SECOND FORM's CARD OF 'headstocklaw13.LitmusSame'. -/
def litmusSameUptoCard : Claim7 := { stood := { row := litmusSameUptoRow, standIns := [], harness := (true, "84c6ae65d637d7d28927206039deb1409d289b7669727125c805cfaa241b784c"), looks := false }, kinds := [], alts := [], laidByText := true, laidKinds := [.data, .data, .data], laidTests := true, laidLooks := .later }
def LitmusSameUptoCardSaid : Prop := Claim7.holds Tryz.pinned (.plain (OpenSpec.upto litmusSameSpec)) litmusSameUptoCard

/-- THE SECOND FORM's CARD OF 'headstocklaw13.LitmusScripts'. -/
def litmusScriptsUptoCard : Claim7 := { stood := { row := litmusScriptsUptoRow, standIns := [], harness := (true, "84c6ae65d637d7d28927206039deb1409d289b7669727125c805cfaa241b784c"), looks := false }, kinds := [], alts := [], laidByText := true, laidKinds := [.data, .data, .data], laidTests := true, laidLooks := .later }
def LitmusScriptsUptoCardSaid : Prop := Claim7.holds Tryz.pinned (.plain (OpenSpec.upto litmusScriptsSpec)) litmusScriptsUptoCard

/-- THE SECOND FORM's CARD OF 'headstocklaw13.LitmusPlays'. -/
def litmusPlaysUptoCard : Claim7 := { stood := { row := litmusPlaysUptoRow, standIns := [], harness := (true, "84c6ae65d637d7d28927206039deb1409d289b7669727125c805cfaa241b784c"), looks := false }, kinds := [], alts := [], laidByText := true, laidKinds := [.data, .data, .data], laidTests := true, laidLooks := .later }
def LitmusPlaysUptoCardSaid : Prop := Claim7.holds Tryz.pinned (.plain (OpenSpec.upto litmusPlaysSpec)) litmusPlaysUptoCard

/-- THE SECOND FORM's CARD OF 'headstocklaw13.LitmusSingly'. -/
def litmusSinglyUptoCard : Claim7 := { stood := { row := litmusSinglyUptoRow, standIns := [], harness := (true, "84c6ae65d637d7d28927206039deb1409d289b7669727125c805cfaa241b784c"), looks := false }, kinds := [], alts := [], laidByText := true, laidKinds := [.data, .data, .data], laidTests := true, laidLooks := .later }
def LitmusSinglyUptoCardSaid : Prop := Claim7.holds Tryz.pinned (.plain (OpenSpec.upto litmusSinglySpec)) litmusSinglyUptoCard

/-- THE SECOND FORM's CARD OF 'headstocklaw13.LitmusFewer'. -/
def litmusFewerUptoCard : Claim7 := { stood := { row := litmusFewerUptoRow, standIns := [], harness := (true, "84c6ae65d637d7d28927206039deb1409d289b7669727125c805cfaa241b784c"), looks := false }, kinds := [], alts := [], laidByText := true, laidKinds := [.data, .data, .data], laidTests := true, laidLooks := .later }
def LitmusFewerUptoCardSaid : Prop := Claim7.holds Tryz.pinned (.plain (OpenSpec.upto litmusFewerSpec)) litmusFewerUptoCard

/-- THE SECOND FORM's CARD OF 'headstocklaw13.LitmusAlone'. -/
def litmusAloneUptoCard : Claim7 := { stood := { row := litmusAloneUptoRow, standIns := [], harness := (true, "84c6ae65d637d7d28927206039deb1409d289b7669727125c805cfaa241b784c"), looks := false }, kinds := [], alts := [], laidByText := true, laidKinds := [.data, .data, .data], laidTests := true, laidLooks := .later }
def LitmusAloneUptoCardSaid : Prop := Claim7.holds Tryz.pinned (.plain (OpenSpec.upto litmusAloneSpec)) litmusAloneUptoCard
end Rows
end Go.Proofs.YtnigadeohmlpiaaGreatDoor
