/-
  DERIVED. GIVEN WITH THE SEED: THE CARDS: each row of YtkdalaiponchbaaDoorRows.lean that lists a variable, with what it lists TIED to the program's text (the seventh form; the later family's looks); each row that meets fmt, with fmt's text TOLD by the authors' own Lean function (tested against real Go, not proved from fmt's source: count such statements apart). THE CARD IS WHAT COUNTS. Prove the row's statement (the work); the ties are given (YtkdalaiponchbaaDoorTie.lean); close each card by the builder's one call (the guide's Derived/Test/ToyasCard.lean, 'card_holds'). Laid BY PROGRAM, IN A SANDBOX (cutbox-door.mjs). By AI agents, Wed Nov 11 2026. No macro, syntax, notation, axiom, sorry.
-/
import Derived.Test.YtkdalaiponchbaaDoorRows
import GoSem.ClaimSeven
namespace Go.Proofs.YtkdalaiponchbaaDoor
namespace Rows

/-- THE TIED CARD OF 'pennantlaw24.EmitItems'. -/
def emitItemsCard : Claim7 := { stood := { row := emitItemsRow, standIns := [], harness := (true, "625d8e0046cc26222e199f713f297f7bb78656ec8d156121d9edb1bfa8a1c668"), looks := false }, kinds := [], alts := [], laidByText := true, laidKinds := [.data, .data, .data], laidTests := true, laidLooks := .later }
def EmitItemsCardSaid : Prop := Claim7.holds Tryd.pinned (.plain (OpenSpec.ofChange emitItemsSpec)) emitItemsCard

/-- THE TIED CARD OF 'pennantlaw24.EmitLabels'. -/
def emitLabelsCard : Claim7 := { stood := { row := emitLabelsRow, standIns := [], harness := (true, "625d8e0046cc26222e199f713f297f7bb78656ec8d156121d9edb1bfa8a1c668"), looks := false }, kinds := [], alts := [], laidByText := true, laidKinds := [.data, .data, .data], laidTests := true, laidLooks := .later }
def EmitLabelsCardSaid : Prop := Claim7.holds Tryd.pinned (.plain (OpenSpec.ofChange emitLabelsSpec)) emitLabelsCard

/-- THE TIED CARD OF 'pennantlaw24.EmitMaps'. -/
def emitMapsCard : Claim7 := { stood := { row := emitMapsRow, standIns := [], harness := (true, "625d8e0046cc26222e199f713f297f7bb78656ec8d156121d9edb1bfa8a1c668"), looks := false }, kinds := [], alts := [], laidByText := true, laidKinds := [.data, .data, .data], laidTests := true, laidLooks := .later }
def EmitMapsCardSaid : Prop := Claim7.holds Tryd.pinned (.plain (OpenSpec.ofChange emitMapsSpec)) emitMapsCard

/-- THE TIED CARD OF 'pennantlaw24.EmitKnown'. -/
def emitKnownCard : Claim7 := { stood := { row := emitKnownRow, standIns := [], harness := (true, "625d8e0046cc26222e199f713f297f7bb78656ec8d156121d9edb1bfa8a1c668"), looks := false }, kinds := [], alts := [], laidByText := true, laidKinds := [.data, .data, .data], laidTests := true, laidLooks := .later }
def EmitKnownCardSaid : Prop := Claim7.holds Tryd.pinned (.plain (OpenSpec.ofChange emitKnownSpec)) emitKnownCard

/-- THE TIED CARD OF 'pennantlaw24.EmitLoads'. -/
def emitLoadsCard : Claim7 := { stood := { row := emitLoadsRow, standIns := [], harness := (true, "625d8e0046cc26222e199f713f297f7bb78656ec8d156121d9edb1bfa8a1c668"), looks := false }, kinds := [], alts := [], laidByText := true, laidKinds := [.data, .data, .data], laidTests := true, laidLooks := .later }
def EmitLoadsCardSaid : Prop := Claim7.holds Tryd.pinned (.plain (OpenSpec.ofChange emitLoadsSpec)) emitLoadsCard

/-- THE SECOND FORM's CARD OF 'pennantlaw24.EmitItems'. -/
def emitItemsUptoCard : Claim7 := { stood := { row := emitItemsUptoRow, standIns := [], harness := (true, "625d8e0046cc26222e199f713f297f7bb78656ec8d156121d9edb1bfa8a1c668"), looks := false }, kinds := [], alts := [], laidByText := true, laidKinds := [.data, .data, .data], laidTests := true, laidLooks := .later }
def EmitItemsUptoCardSaid : Prop := Claim7.holds Tryd.pinned (.plain (OpenSpec.upto emitItemsSpec)) emitItemsUptoCard

/-- THE SECOND FORM's CARD OF 'pennantlaw24.EmitLabels'. -/
def emitLabelsUptoCard : Claim7 := { stood := { row := emitLabelsUptoRow, standIns := [], harness := (true, "625d8e0046cc26222e199f713f297f7bb78656ec8d156121d9edb1bfa8a1c668"), looks := false }, kinds := [], alts := [], laidByText := true, laidKinds := [.data, .data, .data], laidTests := true, laidLooks := .later }
def EmitLabelsUptoCardSaid : Prop := Claim7.holds Tryd.pinned (.plain (OpenSpec.upto emitLabelsSpec)) emitLabelsUptoCard

/-- THE SECOND FORM's CARD OF 'pennantlaw24.EmitMaps'. -/
def emitMapsUptoCard : Claim7 := { stood := { row := emitMapsUptoRow, standIns := [], harness := (true, "625d8e0046cc26222e199f713f297f7bb78656ec8d156121d9edb1bfa8a1c668"), looks := false }, kinds := [], alts := [], laidByText := true, laidKinds := [.data, .data, .data], laidTests := true, laidLooks := .later }
def EmitMapsUptoCardSaid : Prop := Claim7.holds Tryd.pinned (.plain (OpenSpec.upto emitMapsSpec)) emitMapsUptoCard

/-- THE SECOND FORM's CARD OF 'pennantlaw24.EmitKnown'. -/
def emitKnownUptoCard : Claim7 := { stood := { row := emitKnownUptoRow, standIns := [], harness := (true, "625d8e0046cc26222e199f713f297f7bb78656ec8d156121d9edb1bfa8a1c668"), looks := false }, kinds := [], alts := [], laidByText := true, laidKinds := [.data, .data, .data], laidTests := true, laidLooks := .later }
def EmitKnownUptoCardSaid : Prop := Claim7.holds Tryd.pinned (.plain (OpenSpec.upto emitKnownSpec)) emitKnownUptoCard

/-- THE SECOND FORM's CARD OF 'pennantlaw24.EmitLoads'. -/
def emitLoadsUptoCard : Claim7 := { stood := { row := emitLoadsUptoRow, standIns := [], harness := (true, "625d8e0046cc26222e199f713f297f7bb78656ec8d156121d9edb1bfa8a1c668"), looks := false }, kinds := [], alts := [], laidByText := true, laidKinds := [.data, .data, .data], laidTests := true, laidLooks := .later }
def EmitLoadsUptoCardSaid : Prop := Claim7.holds Tryd.pinned (.plain (OpenSpec.upto emitLoadsSpec)) emitLoadsUptoCard
end Rows
end Go.Proofs.YtkdalaiponchbaaDoor
