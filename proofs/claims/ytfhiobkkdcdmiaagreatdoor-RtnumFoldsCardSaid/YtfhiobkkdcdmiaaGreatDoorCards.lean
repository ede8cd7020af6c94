/-
  DERIVED. GIVEN WITH THE SEED: THE CARDS: each row of YtfhiobkkdcdmiaaGreatDoorRows.lean that lists a variable, with what it lists TIED to the program's text (the seventh form; the later family's looks); each row that meets fmt, with fmt's text TOLD by the authors' own Lean function (tested against real Go, not proved from fmt's source: count such statements apart). THE CARD IS WHAT COUNTS. Prove the row's statement (the work); the ties are given (YtfhiobkkdcdmiaaGreatDoorTie.lean); close each card by the builder's one call (the guide's Derived/Test/ToyasCard.lean, 'card_holds'). Laid BY PROGRAM, IN A SANDBOX (cutbox-door.mjs). By AI agents, Wed Nov 11 2026. No macro, syntax, notation, axiom, sorry.
-/
import Derived.Test.YtfhiobkkdcdmiaaGreatDoorRows
import GoSem.ClaimSeven
namespace Go.Proofs.YtfhiobkkdcdmiaaGreatDoor
namespace Rows

/-- THE TIED CARD OF 'pennantlaw27.RtnumMeans'. -/
def rtnumMeansCard : Claim7 := { stood := { row := rtnumMeansRow, standIns := [], harness := (true, "63b66b5b309a7833f75de0a989942fbf0168c637ea96c8b9811757f759807975"), looks := false }, kinds := [], alts := [], laidByText := true, laidKinds := [.data, .data, .data], laidTests := true, laidLooks := .later }
def RtnumMeansCardSaid : Prop := Claim7.holds Tryz.pinned (.plain (OpenSpec.ofChange rtnumMeansSpec)) rtnumMeansCard

/-- THE TIED CARD OF 'pennantlaw27.RtnumKnown'. -/
def rtnumKnownCard : Claim7 := { stood := { row := rtnumKnownRow, standIns := [], harness := (true, "63b66b5b309a7833f75de0a989942fbf0168c637ea96c8b9811757f759807975"), looks := false }, kinds := [], alts := [], laidByText := true, laidKinds := [.data, .data, .data], laidTests := true, laidLooks := .later }
def RtnumKnownCardSaid : Prop := Claim7.holds Tryz.pinned (.plain (OpenSpec.ofChange rtnumKnownSpec)) rtnumKnownCard

/-- THE TIED CARD OF 'pennantlaw27.RtnumLabels'. -/
def rtnumLabelsCard : Claim7 := { stood := { row := rtnumLabelsRow, standIns := [], harness := (true, "63b66b5b309a7833f75de0a989942fbf0168c637ea96c8b9811757f759807975"), looks := false }, kinds := [], alts := [], laidByText := true, laidKinds := [.data, .data, .data], laidTests := true, laidLooks := .later }
def RtnumLabelsCardSaid : Prop := Claim7.holds Tryz.pinned (.plain (OpenSpec.ofChange rtnumLabelsSpec)) rtnumLabelsCard

/-- THE TIED CARD OF 'pennantlaw27.RtnumFolds'. -/
def rtnumFoldsCard : Claim7 := { stood := { row := rtnumFoldsRow, standIns := [], harness := (true, "63b66b5b309a7833f75de0a989942fbf0168c637ea96c8b9811757f759807975"), looks := false }, kinds := [], alts := [], laidByText := true, laidKinds := [.data, .data, .data], laidTests := true, laidLooks := .later }
def RtnumFoldsCardSaid : Prop := Claim7.holds Tryz.pinned (.plain (OpenSpec.ofChange rtnumFoldsSpec)) rtnumFoldsCard

/-- THE SECOND FORM's CARD OF 'pennantlaw27.RtnumMeans'. -/
def rtnumMeansUptoCard : Claim7 := { stood := { row := rtnumMeansUptoRow, standIns := [], harness := (true, "63b66b5b309a7833f75de0a989942fbf0168c637ea96c8b9811757f759807975"), looks := false }, kinds := [], alts := [], laidByText := true, laidKinds := [.data, .data, .data], laidTests := true, laidLooks := .later }
def RtnumMeansUptoCardSaid : Prop := Claim7.holds Tryz.pinned (.plain (OpenSpec.upto rtnumMeansSpec)) rtnumMeansUptoCard

/-- THE SECOND FORM's CARD OF 'pennantlaw27.RtnumKnown'. -/
def rtnumKnownUptoCard : Claim7 := { stood := { row := rtnumKnownUptoRow, standIns := [], harness := (true, "63b66b5b309a7833f75de0a989942fbf0168c637ea96c8b9811757f759807975"), looks := false }, kinds := [], alts := [], laidByText := true, laidKinds := [.data, .data, .data], laidTests := true, laidLooks := .later }
def RtnumKnownUptoCardSaid : Prop := Claim7.holds Tryz.pinned (.plain (OpenSpec.upto rtnumKnownSpec)) rtnumKnownUptoCard

/-- THE SECOND FORM's CARD OF 'pennantlaw27.RtnumLabels'. -/
def rtnumLabelsUptoCard : Claim7 := { stood := { row := rtnumLabelsUptoRow, standIns := [], harness := (true, "63b66b5b309a7833f75de0a989942fbf0168c637ea96c8b9811757f759807975"), looks := false }, kinds := [], alts := [], laidByText := true, laidKinds := [.data, .data, .data], laidTests := true, laidLooks := .later }
def RtnumLabelsUptoCardSaid : Prop := Claim7.holds Tryz.pinned (.plain (OpenSpec.upto rtnumLabelsSpec)) rtnumLabelsUptoCard

/-- THE SECOND FORM's CARD OF 'pennantlaw27.RtnumFolds'. -/
def rtnumFoldsUptoCard : Claim7 := { stood := { row := rtnumFoldsUptoRow, standIns := [], harness := (true, "63b66b5b309a7833f75de0a989942fbf0168c637ea96c8b9811757f759807975"), looks := false }, kinds := [], alts := [], laidByText := true, laidKinds := [.data, .data, .data], laidTests := true, laidLooks := .later }
def RtnumFoldsUptoCardSaid : Prop := Claim7.holds Tryz.pinned (.plain (OpenSpec.upto rtnumFoldsSpec)) rtnumFoldsUptoCard
end Rows
end Go.Proofs.YtfhiobkkdcdmiaaGreatDoor
