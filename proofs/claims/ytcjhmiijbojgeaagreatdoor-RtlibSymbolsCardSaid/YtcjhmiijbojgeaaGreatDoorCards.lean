/-
  DERIVED. GIVEN WITH THE SEED: THE CARDS: each row of YtcjhmiijbojgeaaGreatDoorRows.lean that lists a variable, with what it lists TIED to the program's text (the seventh form; the later family's looks); each row that meets fmt, with fmt's text TOLD by the authors' own Lean function (tested against real Go, not proved from fmt's source: count such statements apart). THE CARD IS WHAT COUNTS. Prove the row's statement (the work); the ties are given (YtcjhmiijbojgeaaGreatDoorTie.lean); close each card by the builder's one call (the guide's Derived/Test/ToyasCard.lean, 'card_holds'). Laid BY PROGRAM, IN A SANDBOX (cutbox-door.mjs). By AI agents, Wed Nov 11 2026. No macro, syntax, notation, axiom, sorry.
-/
import Derived.Test.YtcjhmiijbojgeaaGreatDoorRows
import GoSem.ClaimSeven
namespace Go.Proofs.YtcjhmiijbojgeaaGreatDoor
namespace Rows

/-- THE TIED CARD OF 'pennantlaw28.RtlibSymbols'. -/
def rtlibSymbolsCard : Claim7 := { stood := { row := rtlibSymbolsRow, standIns := [], harness := (true, "a48e699404748dd97ac144ae4259314df0a7002bc585a371793ce170f73e0414"), looks := false }, kinds := [], alts := [], laidByText := true, laidKinds := [.data, .data, .data], laidTests := true, laidLooks := .later }
def RtlibSymbolsCardSaid : Prop := Claim7.holds Tryz.pinned (.plain (OpenSpec.ofChange rtlibSymbolsSpec)) rtlibSymbolsCard

/-- THE SECOND FORM's CARD OF 'pennantlaw28.RtlibSymbols'. -/
def rtlibSymbolsUptoCard : Claim7 := { stood := { row := rtlibSymbolsUptoRow, standIns := [], harness := (true, "a48e699404748dd97ac144ae4259314df0a7002bc585a371793ce170f73e0414"), looks := false }, kinds := [], alts := [], laidByText := true, laidKinds := [.data, .data, .data], laidTests := true, laidLooks := .later }
def RtlibSymbolsUptoCardSaid : Prop := Claim7.holds Tryz.pinned (.plain (OpenSpec.upto rtlibSymbolsSpec)) rtlibSymbolsUptoCard
end Rows
end Go.Proofs.YtcjhmiijbojgeaaGreatDoor
