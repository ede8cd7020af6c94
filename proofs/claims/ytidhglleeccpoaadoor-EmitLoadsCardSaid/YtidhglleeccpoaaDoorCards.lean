/-
  DERIVED. GIVEN WITH THE SEED: THE CARDS: each row of YtidhglleeccpoaaDoorRows.lean that lists a variable, with what it lists TIED to the program's text (the seventh form; the later family's looks); each row that meets fmt, with fmt's text TOLD by the authors' own Lean function (tested against real Go, not proved from fmt's source: count such statements apart). THE CARD IS WHAT COUNTS. Prove the row's statement (the work); the ties are given (YtidhglleeccpoaaDoorTie.lean); close each card by the builder's one call (the guide's Derived/Test/ToyasCard.lean, 'card_holds'). Laid BY PROGRAM, IN A SANDBOX (cutbox-door.mjs). By AI agents, Wed Nov 11 2026. No macro, syntax, notation, axiom, sorry.
-/
import Derived.Test.YtidhglleeccpoaaDoorRows
import GoSem.ClaimSeven
namespace Go.Proofs.YtidhglleeccpoaaDoor
namespace Rows

/-- THE TIED CARD OF 'pennantlaw24.EmitLoads'. -/
def emitLoadsCard : Claim7 := { stood := { row := emitLoadsRow, standIns := [], harness := (true, "19627867f0f57fcfcb30b83671dc1d905f6dcbad4b2e3c74c48391c6a58b1114"), looks := false }, kinds := [], alts := [], laidByText := true, laidKinds := [.data, .data, .data], laidTests := true, laidLooks := .later }
def EmitLoadsCardSaid : Prop := Claim7.holds Tryd.pinned (.plain (OpenSpec.ofChange emitLoadsSpec)) emitLoadsCard

/-- THE SECOND FORM's CARD OF 'pennantlaw24.EmitLoads'. -/
def emitLoadsUptoCard : Claim7 := { stood := { row := emitLoadsUptoRow, standIns := [], harness := (true, "19627867f0f57fcfcb30b83671dc1d905f6dcbad4b2e3c74c48391c6a58b1114"), looks := false }, kinds := [], alts := [], laidByText := true, laidKinds := [.data, .data, .data], laidTests := true, laidLooks := .later }
def EmitLoadsUptoCardSaid : Prop := Claim7.holds Tryd.pinned (.plain (OpenSpec.upto emitLoadsSpec)) emitLoadsUptoCard
end Rows
end Go.Proofs.YtidhglleeccpoaaDoor
