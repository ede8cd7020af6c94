/-
  DERIVED. GIVEN WITH THE SEED: THE CARDS: each row of YtjhchgbeglhoaaaDoorRows.lean that lists a variable, with what it lists TIED to the program's text (the seventh form; the later family's looks); each row that meets fmt, with fmt's text TOLD by the authors' own Lean function (tested against real Go, not proved from fmt's source: count such statements apart). THE CARD IS WHAT COUNTS. Prove the row's statement (the work); the ties are given (YtjhchgbeglhoaaaDoorTie.lean); close each card by the builder's one call (the guide's Derived/Test/ToyasCard.lean, 'card_holds'). Laid BY PROGRAM, IN A SANDBOX (cutbox-door.mjs). By AI agents, Wed Nov 11 2026. No macro, syntax, notation, axiom, sorry.
-/
import Derived.Test.YtjhchgbeglhoaaaDoorRows
import GoSem.ClaimSeven
namespace Go.Proofs.YtjhchgbeglhoaaaDoor
namespace Rows

/-- THE TIED CARD OF 'pennantlaw01.IsaOps'. -/
def isaOpsCard : Claim7 := { stood := { row := isaOpsRow, standIns := [], harness := (true, "a3969be4abfae4b516aed701a480aed65ec4d6f2e5d7c5d1719268b3353af512"), looks := true }, kinds := [], alts := [], laidByText := true, laidKinds := [.data, .data, .data, .data, .sentinel, .sentinel, .pinned], laidTests := true, laidLooks := .later }
def IsaOpsCardSaid : Prop := Claim7.holds Tryd.pinned (.plain (OpenSpec.ofChange isaOpsSpec)) isaOpsCard

/-- THE TIED CARD OF 'pennantlaw01.IsaWords'. -/
def isaWordsCard : Claim7 := { stood := { row := isaWordsRow, standIns := [], harness := (true, "a3969be4abfae4b516aed701a480aed65ec4d6f2e5d7c5d1719268b3353af512"), looks := true }, kinds := [], alts := [], laidByText := true, laidKinds := [.data, .data, .data, .data, .sentinel, .sentinel, .pinned], laidTests := true, laidLooks := .later }
def IsaWordsCardSaid : Prop := Claim7.holds Tryd.pinned (.plain (OpenSpec.ofChange isaWordsSpec)) isaWordsCard

/-- THE TIED CARD OF 'pennantlaw01.IsaDecodes'. -/
def isaDecodesCard : Claim7 := { stood := { row := isaDecodesRow, standIns := [], harness := (true, "a3969be4abfae4b516aed701a480aed65ec4d6f2e5d7c5d1719268b3353af512"), looks := true }, kinds := [], alts := [], laidByText := true, laidKinds := [.data, .data, .data, .data, .sentinel, .sentinel, .pinned], laidTests := true, laidLooks := .later }
def IsaDecodesCardSaid : Prop := Claim7.holds Tryd.pinned (.plain (OpenSpec.ofChange isaDecodesSpec)) isaDecodesCard

/-- THE TIED CARD OF 'pennantlaw01.IsaTexts'. -/
def isaTextsCard : Claim7 := { stood := { row := isaTextsRow, standIns := [], harness := (true, "a3969be4abfae4b516aed701a480aed65ec4d6f2e5d7c5d1719268b3353af512"), looks := true }, kinds := [], alts := [], laidByText := true, laidKinds := [.data, .data, .data, .data, .sentinel, .sentinel, .pinned], laidTests := true, laidLooks := .later }
def IsaTextsCardSaid : Prop := Claim7.holds Tryd.pinned (.plain (OpenSpec.ofChange isaTextsSpec)) isaTextsCard

/-- THE TIED CARD OF 'pennantlaw01.IsaKnown'. -/
def isaKnownCard : Claim7 := { stood := { row := isaKnownRow, standIns := [], harness := (true, "a3969be4abfae4b516aed701a480aed65ec4d6f2e5d7c5d1719268b3353af512"), looks := true }, kinds := [], alts := [], laidByText := true, laidKinds := [.data, .data, .data, .data, .sentinel, .sentinel, .pinned], laidTests := true, laidLooks := .later }
def IsaKnownCardSaid : Prop := Claim7.holds Tryd.pinned (.plain (OpenSpec.ofChange isaKnownSpec)) isaKnownCard

/-- THE TIED CARD OF 'pennantlaw01.IsaOnce'. -/
def isaOnceCard : Claim7 := { stood := { row := isaOnceRow, standIns := [], harness := (true, "a3969be4abfae4b516aed701a480aed65ec4d6f2e5d7c5d1719268b3353af512"), looks := true }, kinds := [], alts := [], laidByText := true, laidKinds := [.data, .data, .data, .data, .sentinel, .sentinel, .pinned], laidTests := true, laidLooks := .later }
def IsaOnceCardSaid : Prop := Claim7.holds Tryd.pinned (.plain (OpenSpec.ofChange isaOnceSpec)) isaOnceCard

/-- THE TIED CARD OF 'pennantlaw01.IsaBack'. -/
def isaBackCard : Claim7 := { stood := { row := isaBackRow, standIns := [], harness := (true, "a3969be4abfae4b516aed701a480aed65ec4d6f2e5d7c5d1719268b3353af512"), looks := true }, kinds := [], alts := [], laidByText := true, laidKinds := [.data, .data, .data, .data, .sentinel, .sentinel, .pinned], laidTests := true, laidLooks := .later }
def IsaBackCardSaid : Prop := Claim7.holds Tryd.pinned (.plain (OpenSpec.ofChange isaBackSpec)) isaBackCard

/-- THE TIED CARD OF 'pennantlaw01.IsaApart'. -/
def isaApartCard : Claim7 := { stood := { row := isaApartRow, standIns := [], harness := (true, "a3969be4abfae4b516aed701a480aed65ec4d6f2e5d7c5d1719268b3353af512"), looks := true }, kinds := [], alts := [], laidByText := true, laidKinds := [.data, .data, .data, .data, .sentinel, .sentinel, .pinned], laidTests := true, laidLooks := .later }
def IsaApartCardSaid : Prop := Claim7.holds Tryd.pinned (.plain (OpenSpec.ofChange isaApartSpec)) isaApartCard

/-- THE SECOND FORM's CARD OF 'pennantlaw01.IsaOps'. -/
def isaOpsUptoCard : Claim7 := { stood := { row := isaOpsUptoRow, standIns := [], harness := (true, "a3969be4abfae4b516aed701a480aed65ec4d6f2e5d7c5d1719268b3353af512"), looks := true }, kinds := [], alts := [], laidByText := true, laidKinds := [.data, .data, .data, .data, .sentinel, .sentinel, .pinned], laidTests := true, laidLooks := .later }
def IsaOpsUptoCardSaid : Prop := Claim7.holds Tryd.pinned (.plain (OpenSpec.upto isaOpsSpec)) isaOpsUptoCard

/-- THE SECOND FORM's CARD OF 'pennantlaw01.IsaWords'. -/
def isaWordsUptoCard : Claim7 := { stood := { row := isaWordsUptoRow, standIns := [], harness := (true, "a3969be4abfae4b516aed701a480aed65ec4d6f2e5d7c5d1719268b3353af512"), looks := true }, kinds := [], alts := [], laidByText := true, laidKinds := [.data, .data, .data, .data, .sentinel, .sentinel, .pinned], laidTests := true, laidLooks := .later }
def IsaWordsUptoCardSaid : Prop := Claim7.holds Tryd.pinned (.plain (OpenSpec.upto isaWordsSpec)) isaWordsUptoCard

/-- THE SECOND FORM's CARD OF 'pennantlaw01.IsaDecodes'. -/
def isaDecodesUptoCard : Claim7 := { stood := { row := isaDecodesUptoRow, standIns := [], harness := (true, "a3969be4abfae4b516aed701a480aed65ec4d6f2e5d7c5d1719268b3353af512"), looks := true }, kinds := [], alts := [], laidByText := true, laidKinds := [.data, .data, .data, .data, .sentinel, .sentinel, .pinned], laidTests := true, laidLooks := .later }
def IsaDecodesUptoCardSaid : Prop := Claim7.holds Tryd.pinned (.plain (OpenSpec.upto isaDecodesSpec)) isaDecodesUptoCard

/-- THE SECOND FORM's CARD OF 'pennantlaw01.IsaTexts'. -/
def isaTextsUptoCard : Claim7 := { stood := { row := isaTextsUptoRow, standIns := [], harness := (true, "a3969be4abfae4b516aed701a480aed65ec4d6f2e5d7c5d1719268b3353af512"), looks := true }, kinds := [], alts := [], laidByText := true, laidKinds := [.data, .data, .data, .data, .sentinel, .sentinel, .pinned], laidTests := true, laidLooks := .later }
def IsaTextsUptoCardSaid : Prop := Claim7.holds Tryd.pinned (.plain (OpenSpec.upto isaTextsSpec)) isaTextsUptoCard

/-- THE SECOND FORM's CARD OF 'pennantlaw01.IsaKnown'. -/
def isaKnownUptoCard : Claim7 := { stood := { row := isaKnownUptoRow, standIns := [], harness := (true, "a3969be4abfae4b516aed701a480aed65ec4d6f2e5d7c5d1719268b3353af512"), looks := true }, kinds := [], alts := [], laidByText := true, laidKinds := [.data, .data, .data, .data, .sentinel, .sentinel, .pinned], laidTests := true, laidLooks := .later }
def IsaKnownUptoCardSaid : Prop := Claim7.holds Tryd.pinned (.plain (OpenSpec.upto isaKnownSpec)) isaKnownUptoCard

/-- THE SECOND FORM's CARD OF 'pennantlaw01.IsaOnce'. -/
def isaOnceUptoCard : Claim7 := { stood := { row := isaOnceUptoRow, standIns := [], harness := (true, "a3969be4abfae4b516aed701a480aed65ec4d6f2e5d7c5d1719268b3353af512"), looks := true }, kinds := [], alts := [], laidByText := true, laidKinds := [.data, .data, .data, .data, .sentinel, .sentinel, .pinned], laidTests := true, laidLooks := .later }
def IsaOnceUptoCardSaid : Prop := Claim7.holds Tryd.pinned (.plain (OpenSpec.upto isaOnceSpec)) isaOnceUptoCard

/-- THE SECOND FORM's CARD OF 'pennantlaw01.IsaBack'. -/
def isaBackUptoCard : Claim7 := { stood := { row := isaBackUptoRow, standIns := [], harness := (true, "a3969be4abfae4b516aed701a480aed65ec4d6f2e5d7c5d1719268b3353af512"), looks := true }, kinds := [], alts := [], laidByText := true, laidKinds := [.data, .data, .data, .data, .sentinel, .sentinel, .pinned], laidTests := true, laidLooks := .later }
def IsaBackUptoCardSaid : Prop := Claim7.holds Tryd.pinned (.plain (OpenSpec.upto isaBackSpec)) isaBackUptoCard

/-- THE SECOND FORM's CARD OF 'pennantlaw01.IsaApart'. -/
def isaApartUptoCard : Claim7 := { stood := { row := isaApartUptoRow, standIns := [], harness := (true, "a3969be4abfae4b516aed701a480aed65ec4d6f2e5d7c5d1719268b3353af512"), looks := true }, kinds := [], alts := [], laidByText := true, laidKinds := [.data, .data, .data, .data, .sentinel, .sentinel, .pinned], laidTests := true, laidLooks := .later }
def IsaApartUptoCardSaid : Prop := Claim7.holds Tryd.pinned (.plain (OpenSpec.upto isaApartSpec)) isaApartUptoCard
end Rows
end Go.Proofs.YtjhchgbeglhoaaaDoor
