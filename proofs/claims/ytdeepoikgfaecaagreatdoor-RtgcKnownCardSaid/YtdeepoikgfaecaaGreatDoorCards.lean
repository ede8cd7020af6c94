/-
  DERIVED. GIVEN WITH THE SEED: THE CARDS: each row of YtdeepoikgfaecaaGreatDoorRows.lean that lists a variable, with what it lists TIED to the program's text (the seventh form; the later family's looks); each row that meets fmt, with fmt's text TOLD by the authors' own Lean function (tested against real Go, not proved from fmt's source: count such statements apart). THE CARD IS WHAT COUNTS. Prove the row's statement (the work); the ties are given (YtdeepoikgfaecaaGreatDoorTie.lean); close each card by the builder's one call (the guide's Derived/Test/ToyasCard.lean, 'card_holds'). Laid BY PROGRAM, IN A SANDBOX (cutbox-door.mjs). By AI agents, Wed Nov 11 2026. No macro, syntax, notation, axiom, sorry.
-/
import Derived.Test.YtdeepoikgfaecaaGreatDoorRows
import GoSem.ClaimSeven
namespace Go.Proofs.YtdeepoikgfaecaaGreatDoor
namespace Rows

/-- THE TIED CARD OF 'pennantlaw26.RtgcKnown'. -/
def rtgcKnownCard : Claim7 := { stood := { row := rtgcKnownRow, standIns := [], harness := (true, "83c6da6809276e56619d34eee8a24056a0ee52ddad881f34933912a843ebef18"), looks := false }, kinds := [], alts := [], laidByText := true, laidKinds := [.data, .data, .data], laidTests := true, laidLooks := .later }
def RtgcKnownCardSaid : Prop := Claim7.holds Tryz.pinned (.plain (OpenSpec.ofChange rtgcKnownSpec)) rtgcKnownCard

/-- THE TIED CARD OF 'pennantlaw27.RtnumKnown'. -/
def rtnumKnownCard : Claim7 := { stood := { row := rtnumKnownRow, standIns := [], harness := (true, "83c6da6809276e56619d34eee8a24056a0ee52ddad881f34933912a843ebef18"), looks := false }, kinds := [], alts := [], laidByText := true, laidKinds := [.data, .data, .data], laidTests := true, laidLooks := .later }
def RtnumKnownCardSaid : Prop := Claim7.holds Tryz.pinned (.plain (OpenSpec.ofChange rtnumKnownSpec)) rtnumKnownCard

/-- THE TIED CARD OF 'pennantlaw27.RtnumLabels'. -/
def rtnumLabelsCard : Claim7 := { stood := { row := rtnumLabelsRow, standIns := [], harness := (true, "83c6da6809276e56619d34eee8a24056a0ee52ddad881f34933912a843ebef18"), looks := false }, kinds := [], alts := [], laidByText := true, laidKinds := [.data, .data, .data], laidTests := true, laidLooks := .later }
def RtnumLabelsCardSaid : Prop := Claim7.holds Tryz.pinned (.plain (OpenSpec.ofChange rtnumLabelsSpec)) rtnumLabelsCard

/-- THE SECOND FORM's CARD OF 'pennantlaw26.RtgcKnown'. -/
def rtgcKnownUptoCard : Claim7 := { stood := { row := rtgcKnownUptoRow, standIns := [], harness := (true, "83c6da6809276e56619d34eee8a24056a0ee52ddad881f34933912a843ebef18"), looks := false }, kinds := [], alts := [], laidByText := true, laidKinds := [.data, .data, .data], laidTests := true, laidLooks := .later }
def RtgcKnownUptoCardSaid : Prop := Claim7.holds Tryz.pinned (.plain (OpenSpec.upto rtgcKnownSpec)) rtgcKnownUptoCard

/-- THE SECOND FORM's CARD OF 'pennantlaw27.RtnumKnown'. -/
def rtnumKnownUptoCard : Claim7 := { stood := { row := rtnumKnownUptoRow, standIns := [], harness := (true, "83c6da6809276e56619d34eee8a24056a0ee52ddad881f34933912a843ebef18"), looks := false }, kinds := [], alts := [], laidByText := true, laidKinds := [.data, .data, .data], laidTests := true, laidLooks := .later }
def RtnumKnownUptoCardSaid : Prop := Claim7.holds Tryz.pinned (.plain (OpenSpec.upto rtnumKnownSpec)) rtnumKnownUptoCard

/-- THE SECOND FORM's CARD OF 'pennantlaw27.RtnumLabels'. -/
def rtnumLabelsUptoCard : Claim7 := { stood := { row := rtnumLabelsUptoRow, standIns := [], harness := (true, "83c6da6809276e56619d34eee8a24056a0ee52ddad881f34933912a843ebef18"), looks := false }, kinds := [], alts := [], laidByText := true, laidKinds := [.data, .data, .data], laidTests := true, laidLooks := .later }
def RtnumLabelsUptoCardSaid : Prop := Claim7.holds Tryz.pinned (.plain (OpenSpec.upto rtnumLabelsSpec)) rtnumLabelsUptoCard
end Rows
end Go.Proofs.YtdeepoikgfaecaaGreatDoor
