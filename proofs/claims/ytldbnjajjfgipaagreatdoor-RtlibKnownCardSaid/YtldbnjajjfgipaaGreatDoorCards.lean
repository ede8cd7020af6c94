/-
  DERIVED. GIVEN WITH THE SEED: THE CARDS: each row of YtldbnjajjfgipaaGreatDoorRows.lean that lists a variable, with what it lists TIED to the program's text (the seventh form; the later family's looks); each row that meets fmt, with fmt's text TOLD by the authors' own Lean function (tested against real Go, not proved from fmt's source: count such statements apart). THE CARD IS WHAT COUNTS. Prove the row's statement (the work); the ties are given (YtldbnjajjfgipaaGreatDoorTie.lean); close each card by the builder's one call (the guide's Derived/Test/ToyasCard.lean, 'card_holds'). Laid BY PROGRAM, IN A SANDBOX (cutbox-door.mjs). By AI agents, Wed Nov 11 2026. No macro, syntax, notation, axiom, sorry.
-/
import Derived.Test.YtldbnjajjfgipaaGreatDoorRows
import GoSem.ClaimSeven
namespace Go.Proofs.YtldbnjajjfgipaaGreatDoor
namespace Rows

/-- THE TIED CARD OF 'pennantlaw28.RtlibSymbols'. -/
def rtlibSymbolsCard : Claim7 := { stood := { row := rtlibSymbolsRow, standIns := [], harness := (true, "b4dbe582085b324c99e19e9c41efde93567c66c57e03d618f0de7ce83b978820"), looks := false }, kinds := [], alts := [], laidByText := true, laidKinds := [.data, .data, .data], laidTests := true, laidLooks := .later }
def RtlibSymbolsCardSaid : Prop := Claim7.holds Tryz.pinned (.plain (OpenSpec.ofChange rtlibSymbolsSpec)) rtlibSymbolsCard

/-- THE TIED CARD OF 'pennantlaw28.RtlibKnown'. -/
def rtlibKnownCard : Claim7 := { stood := { row := rtlibKnownRow, standIns := [], harness := (true, "b4dbe582085b324c99e19e9c41efde93567c66c57e03d618f0de7ce83b978820"), looks := false }, kinds := [], alts := [], laidByText := true, laidKinds := [.data, .data, .data], laidTests := true, laidLooks := .later }
def RtlibKnownCardSaid : Prop := Claim7.holds Tryz.pinned (.plain (OpenSpec.ofChange rtlibKnownSpec)) rtlibKnownCard

/-- THE TIED CARD OF 'pennantlaw27.RtnumMeans'. -/
def rtnumMeansCard : Claim7 := { stood := { row := rtnumMeansRow, standIns := [], harness := (true, "b4dbe582085b324c99e19e9c41efde93567c66c57e03d618f0de7ce83b978820"), looks := false }, kinds := [], alts := [], laidByText := true, laidKinds := [.data, .data, .data], laidTests := true, laidLooks := .later }
def RtnumMeansCardSaid : Prop := Claim7.holds Tryz.pinned (.plain (OpenSpec.ofChange rtnumMeansSpec)) rtnumMeansCard

/-- THE SECOND FORM's CARD OF 'pennantlaw28.RtlibSymbols'. -/
def rtlibSymbolsUptoCard : Claim7 := { stood := { row := rtlibSymbolsUptoRow, standIns := [], harness := (true, "b4dbe582085b324c99e19e9c41efde93567c66c57e03d618f0de7ce83b978820"), looks := false }, kinds := [], alts := [], laidByText := true, laidKinds := [.data, .data, .data], laidTests := true, laidLooks := .later }
def RtlibSymbolsUptoCardSaid : Prop := Claim7.holds Tryz.pinned (.plain (OpenSpec.upto rtlibSymbolsSpec)) rtlibSymbolsUptoCard

/-- THE SECOND FORM's CARD OF 'pennantlaw28.RtlibKnown'. -/
def rtlibKnownUptoCard : Claim7 := { stood := { row := rtlibKnownUptoRow, standIns := [], harness := (true, "b4dbe582085b324c99e19e9c41efde93567c66c57e03d618f0de7ce83b978820"), looks := false }, kinds := [], alts := [], laidByText := true, laidKinds := [.data, .data, .data], laidTests := true, laidLooks := .later }
def RtlibKnownUptoCardSaid : Prop := Claim7.holds Tryz.pinned (.plain (OpenSpec.upto rtlibKnownSpec)) rtlibKnownUptoCard

/-- THE SECOND FORM's CARD OF 'pennantlaw27.RtnumMeans'. -/
def rtnumMeansUptoCard : Claim7 := { stood := { row := rtnumMeansUptoRow, standIns := [], harness := (true, "b4dbe582085b324c99e19e9c41efde93567c66c57e03d618f0de7ce83b978820"), looks := false }, kinds := [], alts := [], laidByText := true, laidKinds := [.data, .data, .data], laidTests := true, laidLooks := .later }
def RtnumMeansUptoCardSaid : Prop := Claim7.holds Tryz.pinned (.plain (OpenSpec.upto rtnumMeansSpec)) rtnumMeansUptoCard
end Rows
end Go.Proofs.YtldbnjajjfgipaaGreatDoor
