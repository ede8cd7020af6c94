/-
  DERIVED. GIVEN WITH THE SEED: THE CARDS: each row of YtlldagdhlfpihaaGreatDoorRows.lean that lists a variable, with what it lists TIED to the program's text (the seventh form; the later family's looks); each row that meets fmt, with fmt's text TOLD by the authors' own Lean function (tested against real Go, not proved from fmt's source: count such statements apart). THE CARD IS WHAT COUNTS. Prove the row's statement (the work); the ties are given (YtlldagdhlfpihaaGreatDoorTie.lean); close each card by the builder's one call (the guide's Derived/Test/ToyasCard.lean, 'card_holds'). Laid BY PROGRAM, IN A SANDBOX (cutbox-door.mjs). By AI agents, Wed Nov 11 2026. No macro, syntax, notation, axiom, sorry.
-/
import Derived.Test.YtlldagdhlfpihaaGreatDoorRows
import GoSem.ClaimSeven
namespace Go.Proofs.YtlldagdhlfpihaaGreatDoor
namespace Rows

/-- THE TIED CARD OF 'pennantlaw25.BuildKnown'. -/
def buildKnownCard : Claim7 := { stood := { row := buildKnownRow, standIns := [], harness := (true, "5f3a59a55c2dca195d4a827f9e76bf9a8cacff10cfa04af228e7d22436f7e529"), looks := false }, kinds := [], alts := [], laidByText := true, laidKinds := [.data, .data, .data], laidTests := true, laidLooks := .later }
def BuildKnownCardSaid : Prop := Claim7.holds Tryz.pinned (.plain (OpenSpec.ofChange buildKnownSpec)) buildKnownCard

/-- THE TIED CARD OF 'pennantlaw25.BuildConst'. -/
def buildConstCard : Claim7 := { stood := { row := buildConstRow, standIns := [], harness := (true, "5f3a59a55c2dca195d4a827f9e76bf9a8cacff10cfa04af228e7d22436f7e529"), looks := false }, kinds := [], alts := [], laidByText := true, laidKinds := [.data, .data, .data], laidTests := true, laidLooks := .later }
def BuildConstCardSaid : Prop := Claim7.holds Tryz.pinned (.plain (OpenSpec.ofChange buildConstSpec)) buildConstCard

/-- THE TIED CARD OF 'pennantlaw26.RtgcCollects'. -/
def rtgcCollectsCard : Claim7 := { stood := { row := rtgcCollectsRow, standIns := [], harness := (true, "5f3a59a55c2dca195d4a827f9e76bf9a8cacff10cfa04af228e7d22436f7e529"), looks := false }, kinds := [], alts := [], laidByText := true, laidKinds := [.data, .data, .data], laidTests := true, laidLooks := .later }
def RtgcCollectsCardSaid : Prop := Claim7.holds Tryz.pinned (.plain (OpenSpec.ofChange rtgcCollectsSpec)) rtgcCollectsCard

/-- THE TIED CARD OF 'pennantlaw26.RtgcAgain'. -/
def rtgcAgainCard : Claim7 := { stood := { row := rtgcAgainRow, standIns := [], harness := (true, "5f3a59a55c2dca195d4a827f9e76bf9a8cacff10cfa04af228e7d22436f7e529"), looks := false }, kinds := [], alts := [], laidByText := true, laidKinds := [.data, .data, .data], laidTests := true, laidLooks := .later }
def RtgcAgainCardSaid : Prop := Claim7.holds Tryz.pinned (.plain (OpenSpec.ofChange rtgcAgainSpec)) rtgcAgainCard

/-- THE TIED CARD OF 'pennantlaw26.RtgcReserves'. -/
def rtgcReservesCard : Claim7 := { stood := { row := rtgcReservesRow, standIns := [], harness := (true, "5f3a59a55c2dca195d4a827f9e76bf9a8cacff10cfa04af228e7d22436f7e529"), looks := false }, kinds := [], alts := [], laidByText := true, laidKinds := [.data, .data, .data], laidTests := true, laidLooks := .later }
def RtgcReservesCardSaid : Prop := Claim7.holds Tryz.pinned (.plain (OpenSpec.ofChange rtgcReservesSpec)) rtgcReservesCard

/-- THE TIED CARD OF 'pennantlaw26.RtgcEnters'. -/
def rtgcEntersCard : Claim7 := { stood := { row := rtgcEntersRow, standIns := [], harness := (true, "5f3a59a55c2dca195d4a827f9e76bf9a8cacff10cfa04af228e7d22436f7e529"), looks := false }, kinds := [], alts := [], laidByText := true, laidKinds := [.data, .data, .data], laidTests := true, laidLooks := .later }
def RtgcEntersCardSaid : Prop := Claim7.holds Tryz.pinned (.plain (OpenSpec.ofChange rtgcEntersSpec)) rtgcEntersCard

/-- THE TIED CARD OF 'pennantlaw26.RtgcRests'. -/
def rtgcRestsCard : Claim7 := { stood := { row := rtgcRestsRow, standIns := [], harness := (true, "5f3a59a55c2dca195d4a827f9e76bf9a8cacff10cfa04af228e7d22436f7e529"), looks := false }, kinds := [], alts := [], laidByText := true, laidKinds := [.data, .data, .data], laidTests := true, laidLooks := .later }
def RtgcRestsCardSaid : Prop := Claim7.holds Tryz.pinned (.plain (OpenSpec.ofChange rtgcRestsSpec)) rtgcRestsCard

/-- THE TIED CARD OF 'pennantlaw26.RtgcApplies'. -/
def rtgcAppliesCard : Claim7 := { stood := { row := rtgcAppliesRow, standIns := [], harness := (true, "5f3a59a55c2dca195d4a827f9e76bf9a8cacff10cfa04af228e7d22436f7e529"), looks := false }, kinds := [], alts := [], laidByText := true, laidKinds := [.data, .data, .data], laidTests := true, laidLooks := .later }
def RtgcAppliesCardSaid : Prop := Claim7.holds Tryz.pinned (.plain (OpenSpec.ofChange rtgcAppliesSpec)) rtgcAppliesCard

/-- THE TIED CARD OF 'pennantlaw26.RtgcKnown'. -/
def rtgcKnownCard : Claim7 := { stood := { row := rtgcKnownRow, standIns := [], harness := (true, "5f3a59a55c2dca195d4a827f9e76bf9a8cacff10cfa04af228e7d22436f7e529"), looks := false }, kinds := [], alts := [], laidByText := true, laidKinds := [.data, .data, .data], laidTests := true, laidLooks := .later }
def RtgcKnownCardSaid : Prop := Claim7.holds Tryz.pinned (.plain (OpenSpec.ofChange rtgcKnownSpec)) rtgcKnownCard

/-- THE SECOND FORM's CARD OF 'pennantlaw25.BuildKnown'. -/
def buildKnownUptoCard : Claim7 := { stood := { row := buildKnownUptoRow, standIns := [], harness := (true, "5f3a59a55c2dca195d4a827f9e76bf9a8cacff10cfa04af228e7d22436f7e529"), looks := false }, kinds := [], alts := [], laidByText := true, laidKinds := [.data, .data, .data], laidTests := true, laidLooks := .later }
def BuildKnownUptoCardSaid : Prop := Claim7.holds Tryz.pinned (.plain (OpenSpec.upto buildKnownSpec)) buildKnownUptoCard

/-- THE SECOND FORM's CARD OF 'pennantlaw25.BuildConst'. -/
def buildConstUptoCard : Claim7 := { stood := { row := buildConstUptoRow, standIns := [], harness := (true, "5f3a59a55c2dca195d4a827f9e76bf9a8cacff10cfa04af228e7d22436f7e529"), looks := false }, kinds := [], alts := [], laidByText := true, laidKinds := [.data, .data, .data], laidTests := true, laidLooks := .later }
def BuildConstUptoCardSaid : Prop := Claim7.holds Tryz.pinned (.plain (OpenSpec.upto buildConstSpec)) buildConstUptoCard

/-- THE SECOND FORM's CARD OF 'pennantlaw26.RtgcCollects'. -/
def rtgcCollectsUptoCard : Claim7 := { stood := { row := rtgcCollectsUptoRow, standIns := [], harness := (true, "5f3a59a55c2dca195d4a827f9e76bf9a8cacff10cfa04af228e7d22436f7e529"), looks := false }, kinds := [], alts := [], laidByText := true, laidKinds := [.data, .data, .data], laidTests := true, laidLooks := .later }
def RtgcCollectsUptoCardSaid : Prop := Claim7.holds Tryz.pinned (.plain (OpenSpec.upto rtgcCollectsSpec)) rtgcCollectsUptoCard

/-- THE SECOND FORM's CARD OF 'pennantlaw26.RtgcAgain'. -/
def rtgcAgainUptoCard : Claim7 := { stood := { row := rtgcAgainUptoRow, standIns := [], harness := (true, "5f3a59a55c2dca195d4a827f9e76bf9a8cacff10cfa04af228e7d22436f7e529"), looks := false }, kinds := [], alts := [], laidByText := true, laidKinds := [.data, .data, .data], laidTests := true, laidLooks := .later }
def RtgcAgainUptoCardSaid : Prop := Claim7.holds Tryz.pinned (.plain (OpenSpec.upto rtgcAgainSpec)) rtgcAgainUptoCard

/-- THE SECOND FORM's CARD OF 'pennantlaw26.RtgcReserves'. -/
def rtgcReservesUptoCard : Claim7 := { stood := { row := rtgcReservesUptoRow, standIns := [], harness := (true, "5f3a59a55c2dca195d4a827f9e76bf9a8cacff10cfa04af228e7d22436f7e529"), looks := false }, kinds := [], alts := [], laidByText := true, laidKinds := [.data, .data, .data], laidTests := true, laidLooks := .later }
def RtgcReservesUptoCardSaid : Prop := Claim7.holds Tryz.pinned (.plain (OpenSpec.upto rtgcReservesSpec)) rtgcReservesUptoCard

/-- THE SECOND FORM's CARD OF 'pennantlaw26.RtgcEnters'. -/
def rtgcEntersUptoCard : Claim7 := { stood := { row := rtgcEntersUptoRow, standIns := [], harness := (true, "5f3a59a55c2dca195d4a827f9e76bf9a8cacff10cfa04af228e7d22436f7e529"), looks := false }, kinds := [], alts := [], laidByText := true, laidKinds := [.data, .data, .data], laidTests := true, laidLooks := .later }
def RtgcEntersUptoCardSaid : Prop := Claim7.holds Tryz.pinned (.plain (OpenSpec.upto rtgcEntersSpec)) rtgcEntersUptoCard

/-- THE SECOND FORM's CARD OF 'pennantlaw26.RtgcRests'. -/
def rtgcRestsUptoCard : Claim7 := { stood := { row := rtgcRestsUptoRow, standIns := [], harness := (true, "5f3a59a55c2dca195d4a827f9e76bf9a8cacff10cfa04af228e7d22436f7e529"), looks := false }, kinds := [], alts := [], laidByText := true, laidKinds := [.data, .data, .data], laidTests := true, laidLooks := .later }
def RtgcRestsUptoCardSaid : Prop := Claim7.holds Tryz.pinned (.plain (OpenSpec.upto rtgcRestsSpec)) rtgcRestsUptoCard

/-- THE SECOND FORM's CARD OF 'pennantlaw26.RtgcApplies'. -/
def rtgcAppliesUptoCard : Claim7 := { stood := { row := rtgcAppliesUptoRow, standIns := [], harness := (true, "5f3a59a55c2dca195d4a827f9e76bf9a8cacff10cfa04af228e7d22436f7e529"), looks := false }, kinds := [], alts := [], laidByText := true, laidKinds := [.data, .data, .data], laidTests := true, laidLooks := .later }
def RtgcAppliesUptoCardSaid : Prop := Claim7.holds Tryz.pinned (.plain (OpenSpec.upto rtgcAppliesSpec)) rtgcAppliesUptoCard

/-- THE SECOND FORM's CARD OF 'pennantlaw26.RtgcKnown'. -/
def rtgcKnownUptoCard : Claim7 := { stood := { row := rtgcKnownUptoRow, standIns := [], harness := (true, "5f3a59a55c2dca195d4a827f9e76bf9a8cacff10cfa04af228e7d22436f7e529"), looks := false }, kinds := [], alts := [], laidByText := true, laidKinds := [.data, .data, .data], laidTests := true, laidLooks := .later }
def RtgcKnownUptoCardSaid : Prop := Claim7.holds Tryz.pinned (.plain (OpenSpec.upto rtgcKnownSpec)) rtgcKnownUptoCard
end Rows
end Go.Proofs.YtlldagdhlfpihaaGreatDoor
