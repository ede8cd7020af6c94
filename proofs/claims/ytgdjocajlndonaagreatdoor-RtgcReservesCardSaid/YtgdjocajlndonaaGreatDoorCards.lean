/-
  DERIVED. GIVEN WITH THE SEED: THE CARDS: each row of YtgdjocajlndonaaGreatDoorRows.lean that lists a variable, with what it lists TIED to the program's text (the seventh form; the later family's looks); each row that meets fmt, with fmt's text TOLD by the authors' own Lean function (tested against real Go, not proved from fmt's source: count such statements apart). THE CARD IS WHAT COUNTS. Prove the row's statement (the work); the ties are given (YtgdjocajlndonaaGreatDoorTie.lean); close each card by the builder's one call (the guide's Derived/Test/ToyasCard.lean, 'card_holds'). Laid BY PROGRAM, IN A SANDBOX (cutbox-door.mjs). By AI agents, Wed Nov 11 2026. No macro, syntax, notation, axiom, sorry.
-/
import Derived.Test.YtgdjocajlndonaaGreatDoorRows
import GoSem.ClaimSeven
namespace Go.Proofs.YtgdjocajlndonaaGreatDoor
namespace Rows

/-- THE TIED CARD OF 'pennantlaw26.RtgcAgain'. -/
def rtgcAgainCard : Claim7 := { stood := { row := rtgcAgainRow, standIns := [], harness := (true, "01576247c6df12e962dc2c82da5104b0ef0f2ab50f9faa1c8d82de82f7ad6b6c"), looks := false }, kinds := [], alts := [], laidByText := true, laidKinds := [.data, .data, .data], laidTests := true, laidLooks := .later }
def RtgcAgainCardSaid : Prop := Claim7.holds Tryz.pinned (.plain (OpenSpec.ofChange rtgcAgainSpec)) rtgcAgainCard

/-- THE TIED CARD OF 'pennantlaw26.RtgcReserves'. -/
def rtgcReservesCard : Claim7 := { stood := { row := rtgcReservesRow, standIns := [], harness := (true, "01576247c6df12e962dc2c82da5104b0ef0f2ab50f9faa1c8d82de82f7ad6b6c"), looks := false }, kinds := [], alts := [], laidByText := true, laidKinds := [.data, .data, .data], laidTests := true, laidLooks := .later }
def RtgcReservesCardSaid : Prop := Claim7.holds Tryz.pinned (.plain (OpenSpec.ofChange rtgcReservesSpec)) rtgcReservesCard

/-- THE TIED CARD OF 'pennantlaw26.RtgcEnters'. -/
def rtgcEntersCard : Claim7 := { stood := { row := rtgcEntersRow, standIns := [], harness := (true, "01576247c6df12e962dc2c82da5104b0ef0f2ab50f9faa1c8d82de82f7ad6b6c"), looks := false }, kinds := [], alts := [], laidByText := true, laidKinds := [.data, .data, .data], laidTests := true, laidLooks := .later }
def RtgcEntersCardSaid : Prop := Claim7.holds Tryz.pinned (.plain (OpenSpec.ofChange rtgcEntersSpec)) rtgcEntersCard

/-- THE TIED CARD OF 'pennantlaw26.RtgcKnown'. -/
def rtgcKnownCard : Claim7 := { stood := { row := rtgcKnownRow, standIns := [], harness := (true, "01576247c6df12e962dc2c82da5104b0ef0f2ab50f9faa1c8d82de82f7ad6b6c"), looks := false }, kinds := [], alts := [], laidByText := true, laidKinds := [.data, .data, .data], laidTests := true, laidLooks := .later }
def RtgcKnownCardSaid : Prop := Claim7.holds Tryz.pinned (.plain (OpenSpec.ofChange rtgcKnownSpec)) rtgcKnownCard

/-- THE TIED CARD OF 'pennantlaw28.RtlibSymbols'. -/
def rtlibSymbolsCard : Claim7 := { stood := { row := rtlibSymbolsRow, standIns := [], harness := (true, "01576247c6df12e962dc2c82da5104b0ef0f2ab50f9faa1c8d82de82f7ad6b6c"), looks := false }, kinds := [], alts := [], laidByText := true, laidKinds := [.data, .data, .data], laidTests := true, laidLooks := .later }
def RtlibSymbolsCardSaid : Prop := Claim7.holds Tryz.pinned (.plain (OpenSpec.ofChange rtlibSymbolsSpec)) rtlibSymbolsCard

/-- THE TIED CARD OF 'pennantlaw28.RtlibKnown'. -/
def rtlibKnownCard : Claim7 := { stood := { row := rtlibKnownRow, standIns := [], harness := (true, "01576247c6df12e962dc2c82da5104b0ef0f2ab50f9faa1c8d82de82f7ad6b6c"), looks := false }, kinds := [], alts := [], laidByText := true, laidKinds := [.data, .data, .data], laidTests := true, laidLooks := .later }
def RtlibKnownCardSaid : Prop := Claim7.holds Tryz.pinned (.plain (OpenSpec.ofChange rtlibKnownSpec)) rtlibKnownCard

/-- THE TIED CARD OF 'pennantlaw27.RtnumMeans'. -/
def rtnumMeansCard : Claim7 := { stood := { row := rtnumMeansRow, standIns := [], harness := (true, "01576247c6df12e962dc2c82da5104b0ef0f2ab50f9faa1c8d82de82f7ad6b6c"), looks := false }, kinds := [], alts := [], laidByText := true, laidKinds := [.data, .data, .data], laidTests := true, laidLooks := .later }
def RtnumMeansCardSaid : Prop := Claim7.holds Tryz.pinned (.plain (OpenSpec.ofChange rtnumMeansSpec)) rtnumMeansCard

/-- THE TIED CARD OF 'pennantlaw27.RtnumKnown'. -/
def rtnumKnownCard : Claim7 := { stood := { row := rtnumKnownRow, standIns := [], harness := (true, "01576247c6df12e962dc2c82da5104b0ef0f2ab50f9faa1c8d82de82f7ad6b6c"), looks := false }, kinds := [], alts := [], laidByText := true, laidKinds := [.data, .data, .data], laidTests := true, laidLooks := .later }
def RtnumKnownCardSaid : Prop := Claim7.holds Tryz.pinned (.plain (OpenSpec.ofChange rtnumKnownSpec)) rtnumKnownCard

/-- THE TIED CARD OF 'pennantlaw27.RtnumLabels'. -/
def rtnumLabelsCard : Claim7 := { stood := { row := rtnumLabelsRow, standIns := [], harness := (true, "01576247c6df12e962dc2c82da5104b0ef0f2ab50f9faa1c8d82de82f7ad6b6c"), looks := false }, kinds := [], alts := [], laidByText := true, laidKinds := [.data, .data, .data], laidTests := true, laidLooks := .later }
def RtnumLabelsCardSaid : Prop := Claim7.holds Tryz.pinned (.plain (OpenSpec.ofChange rtnumLabelsSpec)) rtnumLabelsCard

/-- THE TIED CARD OF 'pennantlaw27.RtnumFolds'. -/
def rtnumFoldsCard : Claim7 := { stood := { row := rtnumFoldsRow, standIns := [], harness := (true, "01576247c6df12e962dc2c82da5104b0ef0f2ab50f9faa1c8d82de82f7ad6b6c"), looks := false }, kinds := [], alts := [], laidByText := true, laidKinds := [.data, .data, .data], laidTests := true, laidLooks := .later }
def RtnumFoldsCardSaid : Prop := Claim7.holds Tryz.pinned (.plain (OpenSpec.ofChange rtnumFoldsSpec)) rtnumFoldsCard

/-- THE SECOND FORM's CARD OF 'pennantlaw26.RtgcAgain'. -/
def rtgcAgainUptoCard : Claim7 := { stood := { row := rtgcAgainUptoRow, standIns := [], harness := (true, "01576247c6df12e962dc2c82da5104b0ef0f2ab50f9faa1c8d82de82f7ad6b6c"), looks := false }, kinds := [], alts := [], laidByText := true, laidKinds := [.data, .data, .data], laidTests := true, laidLooks := .later }
def RtgcAgainUptoCardSaid : Prop := Claim7.holds Tryz.pinned (.plain (OpenSpec.upto rtgcAgainSpec)) rtgcAgainUptoCard

/-- THE SECOND FORM's CARD OF 'pennantlaw26.RtgcReserves'. -/
def rtgcReservesUptoCard : Claim7 := { stood := { row := rtgcReservesUptoRow, standIns := [], harness := (true, "01576247c6df12e962dc2c82da5104b0ef0f2ab50f9faa1c8d82de82f7ad6b6c"), looks := false }, kinds := [], alts := [], laidByText := true, laidKinds := [.data, .data, .data], laidTests := true, laidLooks := .later }
def RtgcReservesUptoCardSaid : Prop := Claim7.holds Tryz.pinned (.plain (OpenSpec.upto rtgcReservesSpec)) rtgcReservesUptoCard

/-- THE SECOND FORM's CARD OF 'pennantlaw26.RtgcEnters'. -/
def rtgcEntersUptoCard : Claim7 := { stood := { row := rtgcEntersUptoRow, standIns := [], harness := (true, "01576247c6df12e962dc2c82da5104b0ef0f2ab50f9faa1c8d82de82f7ad6b6c"), looks := false }, kinds := [], alts := [], laidByText := true, laidKinds := [.data, .data, .data], laidTests := true, laidLooks := .later }
def RtgcEntersUptoCardSaid : Prop := Claim7.holds Tryz.pinned (.plain (OpenSpec.upto rtgcEntersSpec)) rtgcEntersUptoCard

/-- THE SECOND FORM's CARD OF 'pennantlaw26.RtgcKnown'. -/
def rtgcKnownUptoCard : Claim7 := { stood := { row := rtgcKnownUptoRow, standIns := [], harness := (true, "01576247c6df12e962dc2c82da5104b0ef0f2ab50f9faa1c8d82de82f7ad6b6c"), looks := false }, kinds := [], alts := [], laidByText := true, laidKinds := [.data, .data, .data], laidTests := true, laidLooks := .later }
def RtgcKnownUptoCardSaid : Prop := Claim7.holds Tryz.pinned (.plain (OpenSpec.upto rtgcKnownSpec)) rtgcKnownUptoCard

/-- THE SECOND FORM's CARD OF 'pennantlaw28.RtlibSymbols'. -/
def rtlibSymbolsUptoCard : Claim7 := { stood := { row := rtlibSymbolsUptoRow, standIns := [], harness := (true, "01576247c6df12e962dc2c82da5104b0ef0f2ab50f9faa1c8d82de82f7ad6b6c"), looks := false }, kinds := [], alts := [], laidByText := true, laidKinds := [.data, .data, .data], laidTests := true, laidLooks := .later }
def RtlibSymbolsUptoCardSaid : Prop := Claim7.holds Tryz.pinned (.plain (OpenSpec.upto rtlibSymbolsSpec)) rtlibSymbolsUptoCard

/-- THE SECOND FORM's CARD OF 'pennantlaw28.RtlibKnown'. -/
def rtlibKnownUptoCard : Claim7 := { stood := { row := rtlibKnownUptoRow, standIns := [], harness := (true, "01576247c6df12e962dc2c82da5104b0ef0f2ab50f9faa1c8d82de82f7ad6b6c"), looks := false }, kinds := [], alts := [], laidByText := true, laidKinds := [.data, .data, .data], laidTests := true, laidLooks := .later }
def RtlibKnownUptoCardSaid : Prop := Claim7.holds Tryz.pinned (.plain (OpenSpec.upto rtlibKnownSpec)) rtlibKnownUptoCard

/-- THE SECOND FORM's CARD OF 'pennantlaw27.RtnumMeans'. -/
def rtnumMeansUptoCard : Claim7 := { stood := { row := rtnumMeansUptoRow, standIns := [], harness := (true, "01576247c6df12e962dc2c82da5104b0ef0f2ab50f9faa1c8d82de82f7ad6b6c"), looks := false }, kinds := [], alts := [], laidByText := true, laidKinds := [.data, .data, .data], laidTests := true, laidLooks := .later }
def RtnumMeansUptoCardSaid : Prop := Claim7.holds Tryz.pinned (.plain (OpenSpec.upto rtnumMeansSpec)) rtnumMeansUptoCard

/-- THE SECOND FORM's CARD OF 'pennantlaw27.RtnumKnown'. -/
def rtnumKnownUptoCard : Claim7 := { stood := { row := rtnumKnownUptoRow, standIns := [], harness := (true, "01576247c6df12e962dc2c82da5104b0ef0f2ab50f9faa1c8d82de82f7ad6b6c"), looks := false }, kinds := [], alts := [], laidByText := true, laidKinds := [.data, .data, .data], laidTests := true, laidLooks := .later }
def RtnumKnownUptoCardSaid : Prop := Claim7.holds Tryz.pinned (.plain (OpenSpec.upto rtnumKnownSpec)) rtnumKnownUptoCard

/-- THE SECOND FORM's CARD OF 'pennantlaw27.RtnumLabels'. -/
def rtnumLabelsUptoCard : Claim7 := { stood := { row := rtnumLabelsUptoRow, standIns := [], harness := (true, "01576247c6df12e962dc2c82da5104b0ef0f2ab50f9faa1c8d82de82f7ad6b6c"), looks := false }, kinds := [], alts := [], laidByText := true, laidKinds := [.data, .data, .data], laidTests := true, laidLooks := .later }
def RtnumLabelsUptoCardSaid : Prop := Claim7.holds Tryz.pinned (.plain (OpenSpec.upto rtnumLabelsSpec)) rtnumLabelsUptoCard

/-- THE SECOND FORM's CARD OF 'pennantlaw27.RtnumFolds'. -/
def rtnumFoldsUptoCard : Claim7 := { stood := { row := rtnumFoldsUptoRow, standIns := [], harness := (true, "01576247c6df12e962dc2c82da5104b0ef0f2ab50f9faa1c8d82de82f7ad6b6c"), looks := false }, kinds := [], alts := [], laidByText := true, laidKinds := [.data, .data, .data], laidTests := true, laidLooks := .later }
def RtnumFoldsUptoCardSaid : Prop := Claim7.holds Tryz.pinned (.plain (OpenSpec.upto rtnumFoldsSpec)) rtnumFoldsUptoCard
end Rows
end Go.Proofs.YtgdjocajlndonaaGreatDoor
