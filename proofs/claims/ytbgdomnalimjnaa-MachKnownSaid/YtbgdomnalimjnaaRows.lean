/-
  No cell of these rows narrows 'for every input' (looked for: loops, veiled, ifaces, maps, wideKeys, modest, calm, conditions, laid).
  DERIVED. THE GIVEN ROWS OF THIS SEAT. 10 by the template 'for every input the law returns true; each argument reads behind the call as it read before'; 0 by the template 'total and deterministic' (their statements: YtbgdomnalimjnaaTotals.lean).
  GIVEN WITH THE SEED: the statements are not yours to turn. If you find one false, say at which input.
  Laid BY PROGRAM, IN A SANDBOX (cutbox-rows.mjs): the forced cells as the released guide's own fill.sh prints them over the translation 3681757c7b00807c… (all of the seat's roots in one cut). By AI agents, Wed Nov 11 2026. No macro, syntax, notation, axiom, sorry.
-/
import Derived.Test.YtbgdomnalimjnaaChecked
import GoSem.Claim
import GoSem.ClaimJoined
import GoSem.ClaimMapViews
import Derived.JoinedTies
import Derived.KernelRfl
namespace Go.Proofs.Ytbgdomnalimjnaa
/- THE CELL 'sum', in the pinned program and in every row, IS THE sha256 OF THE DUMP (.gsa) THAT YtbgdomnalimjnaaProg.lean LOADS. Nothing in Lean hashes anything: it is a label: what it is worth is what the hold of that sum in a sandbox is worth. -/
noncomputable def Try.pinned : Pinned := { name := "ytbgdomnalimjnaa", sum := "3681757c7b00807c18fb967ec7c88435fc2a8dcadca4ac50b65f6b4597a8bcad", checked := Try.checked }
namespace Rows
def none {H : Type} : Left H := { results := [], args := [] }

/-- 'pennantlaw02.MachSteps': WHATEVER THE INPUT: true; the input reads as it did. -/
def machStepsSpec : ChangeSpec := { name := "machSteps", fn := fun _ => fun
  | [d1, d2] => { results := [.lit (.bool true)], args := [d1, d2] }
  | _ => none }
def machStepsRow : OpenClaim := { program := "ytbgdomnalimjnaa", sum := "3681757c7b00807c18fb967ec7c88435fc2a8dcadca4ac50b65f6b4597a8bcad", func := "pennant/pennantlaw02.MachSteps", spec := "machSteps", unfollowed := true, recurses := true, apart := false }
def MachStepsSaid : Prop := machStepsRow.holds Try.pinned (OpenSpec.ofChange machStepsSpec)

/-- ITS FALSE NEIGHBOUR: 'it returns false'. Refute it at one input. -/
def machStepsWrong : ChangeSpec := { name := "machSteps", fn := fun _ => fun
  | [d1, d2] => { results := [.lit (.bool false)], args := [d1, d2] }
  | _ => none }
def MachStepsWrongFalsely : Prop := machStepsRow.holds Try.pinned (OpenSpec.ofChange machStepsWrong)

/-- 'pennantlaw02.MachInput': WHATEVER THE INPUT: true; the input reads as it did. -/
def machInputSpec : ChangeSpec := { name := "machInput", fn := fun _ => fun
  | [d1, d2, d3] => { results := [.lit (.bool true)], args := [d1, d2, d3] }
  | _ => none }
def machInputRow : OpenClaim := { program := "ytbgdomnalimjnaa", sum := "3681757c7b00807c18fb967ec7c88435fc2a8dcadca4ac50b65f6b4597a8bcad", func := "pennant/pennantlaw02.MachInput", spec := "machInput", unfollowed := true, recurses := true, apart := false }
def MachInputSaid : Prop := machInputRow.holds Try.pinned (OpenSpec.ofChange machInputSpec)

/-- ITS FALSE NEIGHBOUR: 'it returns false'. Refute it at one input. -/
def machInputWrong : ChangeSpec := { name := "machInput", fn := fun _ => fun
  | [d1, d2, d3] => { results := [.lit (.bool false)], args := [d1, d2, d3] }
  | _ => none }
def MachInputWrongFalsely : Prop := machInputRow.holds Try.pinned (OpenSpec.ofChange machInputWrong)

/-- 'pennantlaw04.LinkImages': WHATEVER THE INPUT: true; the input reads as it did. -/
def linkImagesSpec : ChangeSpec := { name := "linkImages", fn := fun _ => fun
  | [d1, d2] => { results := [.lit (.bool true)], args := [d1, d2] }
  | _ => none }
def linkImagesRow : OpenClaim := { program := "ytbgdomnalimjnaa", sum := "3681757c7b00807c18fb967ec7c88435fc2a8dcadca4ac50b65f6b4597a8bcad", func := "pennant/pennantlaw04.LinkImages", spec := "linkImages", apart := false }
def LinkImagesSaid : Prop := linkImagesRow.holds Try.pinned (OpenSpec.ofChange linkImagesSpec)

/-- ITS FALSE NEIGHBOUR: 'it returns false'. Refute it at one input. -/
def linkImagesWrong : ChangeSpec := { name := "linkImages", fn := fun _ => fun
  | [d1, d2] => { results := [.lit (.bool false)], args := [d1, d2] }
  | _ => none }
def LinkImagesWrongFalsely : Prop := linkImagesRow.holds Try.pinned (OpenSpec.ofChange linkImagesWrong)

/-- 'pennantlaw04.LinkFinds': WHATEVER THE INPUT: true; the input reads as it did. -/
def linkFindsSpec : ChangeSpec := { name := "linkFinds", fn := fun _ => fun
  | [d1, d2, d3] => { results := [.lit (.bool true)], args := [d1, d2, d3] }
  | _ => none }
def linkFindsRow : OpenClaim := { program := "ytbgdomnalimjnaa", sum := "3681757c7b00807c18fb967ec7c88435fc2a8dcadca4ac50b65f6b4597a8bcad", func := "pennant/pennantlaw04.LinkFinds", spec := "linkFinds", apart := false }
def LinkFindsSaid : Prop := linkFindsRow.holds Try.pinned (OpenSpec.ofChange linkFindsSpec)

/-- ITS FALSE NEIGHBOUR: 'it returns false'. Refute it at one input. -/
def linkFindsWrong : ChangeSpec := { name := "linkFinds", fn := fun _ => fun
  | [d1, d2, d3] => { results := [.lit (.bool false)], args := [d1, d2, d3] }
  | _ => none }
def LinkFindsWrongFalsely : Prop := linkFindsRow.holds Try.pinned (OpenSpec.ofChange linkFindsWrong)

/-- 'pennantlaw04.LinkMoved': WHATEVER THE INPUT: true; the input reads as it did. -/
def linkMovedSpec : ChangeSpec := { name := "linkMoved", fn := fun _ => fun
  | [d1, d2, d3] => { results := [.lit (.bool true)], args := [d1, d2, d3] }
  | _ => none }
def linkMovedRow : OpenClaim := { program := "ytbgdomnalimjnaa", sum := "3681757c7b00807c18fb967ec7c88435fc2a8dcadca4ac50b65f6b4597a8bcad", func := "pennant/pennantlaw04.LinkMoved", spec := "linkMoved", apart := false }
def LinkMovedSaid : Prop := linkMovedRow.holds Try.pinned (OpenSpec.ofChange linkMovedSpec)

/-- ITS FALSE NEIGHBOUR: 'it returns false'. Refute it at one input. -/
def linkMovedWrong : ChangeSpec := { name := "linkMoved", fn := fun _ => fun
  | [d1, d2, d3] => { results := [.lit (.bool false)], args := [d1, d2, d3] }
  | _ => none }
def LinkMovedWrongFalsely : Prop := linkMovedRow.holds Try.pinned (OpenSpec.ofChange linkMovedWrong)

/-- 'pennantlaw04.LinkOwn': WHATEVER THE INPUT: true; the input reads as it did. -/
def linkOwnSpec : ChangeSpec := { name := "linkOwn", fn := fun _ => fun
  | [d1, d2] => { results := [.lit (.bool true)], args := [d1, d2] }
  | _ => none }
def linkOwnRow : OpenClaim := { program := "ytbgdomnalimjnaa", sum := "3681757c7b00807c18fb967ec7c88435fc2a8dcadca4ac50b65f6b4597a8bcad", func := "pennant/pennantlaw04.LinkOwn", spec := "linkOwn", apart := false }
def LinkOwnSaid : Prop := linkOwnRow.holds Try.pinned (OpenSpec.ofChange linkOwnSpec)

/-- ITS FALSE NEIGHBOUR: 'it returns false'. Refute it at one input. -/
def linkOwnWrong : ChangeSpec := { name := "linkOwn", fn := fun _ => fun
  | [d1, d2] => { results := [.lit (.bool false)], args := [d1, d2] }
  | _ => none }
def LinkOwnWrongFalsely : Prop := linkOwnRow.holds Try.pinned (OpenSpec.ofChange linkOwnWrong)

/-- 'pennantlaw04.LinkKnown': WHATEVER THE INPUT: true; the input reads as it did. -/
def linkKnownSpec : ChangeSpec := { name := "linkKnown", fn := fun _ => fun
  | [] => { results := [.lit (.bool true)], args := [] }
  | _ => none }
def linkKnownRow : OpenClaim := { program := "ytbgdomnalimjnaa", sum := "3681757c7b00807c18fb967ec7c88435fc2a8dcadca4ac50b65f6b4597a8bcad", func := "pennant/pennantlaw04.LinkKnown", spec := "linkKnown", apart := false }
def LinkKnownSaid : Prop := linkKnownRow.holds Try.pinned (OpenSpec.ofChange linkKnownSpec)

/-- ITS FALSE NEIGHBOUR: 'it returns false'. Refute it at one input. -/
def linkKnownWrong : ChangeSpec := { name := "linkKnown", fn := fun _ => fun
  | [] => { results := [.lit (.bool false)], args := [] }
  | _ => none }
def LinkKnownWrongFalsely : Prop := linkKnownRow.holds Try.pinned (OpenSpec.ofChange linkKnownWrong)

/-- 'pennantlaw02.MachParts': WHATEVER THE INPUT: true; the input reads as it did. -/
def machPartsSpec : ChangeSpec := { name := "machParts", fn := fun _ => fun
  | [d1, d2, d3] => { results := [.lit (.bool true)], args := [d1, d2, d3] }
  | _ => none }
def machPartsRow : OpenClaim := { program := "ytbgdomnalimjnaa", sum := "3681757c7b00807c18fb967ec7c88435fc2a8dcadca4ac50b65f6b4597a8bcad", func := "pennant/pennantlaw02.MachParts", spec := "machParts", unfollowed := true, recurses := true, apart := false }
def MachPartsSaid : Prop := machPartsRow.holds Try.pinned (OpenSpec.ofChange machPartsSpec)

/-- ITS FALSE NEIGHBOUR: 'it returns false'. Refute it at one input. -/
def machPartsWrong : ChangeSpec := { name := "machParts", fn := fun _ => fun
  | [d1, d2, d3] => { results := [.lit (.bool false)], args := [d1, d2, d3] }
  | _ => none }
def MachPartsWrongFalsely : Prop := machPartsRow.holds Try.pinned (OpenSpec.ofChange machPartsWrong)

/-- 'pennantlaw02.MachRuns': WHATEVER THE INPUT: true; the input reads as it did. -/
def machRunsSpec : ChangeSpec := { name := "machRuns", fn := fun _ => fun
  | [d1, d2, d3] => { results := [.lit (.bool true)], args := [d1, d2, d3] }
  | _ => none }
def machRunsRow : OpenClaim := { program := "ytbgdomnalimjnaa", sum := "3681757c7b00807c18fb967ec7c88435fc2a8dcadca4ac50b65f6b4597a8bcad", func := "pennant/pennantlaw02.MachRuns", spec := "machRuns", unfollowed := true, recurses := true, apart := false }
def MachRunsSaid : Prop := machRunsRow.holds Try.pinned (OpenSpec.ofChange machRunsSpec)

/-- ITS FALSE NEIGHBOUR: 'it returns false'. Refute it at one input. -/
def machRunsWrong : ChangeSpec := { name := "machRuns", fn := fun _ => fun
  | [d1, d2, d3] => { results := [.lit (.bool false)], args := [d1, d2, d3] }
  | _ => none }
def MachRunsWrongFalsely : Prop := machRunsRow.holds Try.pinned (OpenSpec.ofChange machRunsWrong)

/-- 'pennantlaw02.MachKnown': WHATEVER THE INPUT: true; the input reads as it did. -/
def machKnownSpec : ChangeSpec := { name := "machKnown", fn := fun _ => fun
  | [] => { results := [.lit (.bool true)], args := [] }
  | _ => none }
def machKnownRow : OpenClaim := { program := "ytbgdomnalimjnaa", sum := "3681757c7b00807c18fb967ec7c88435fc2a8dcadca4ac50b65f6b4597a8bcad", func := "pennant/pennantlaw02.MachKnown", spec := "machKnown", unfollowed := true, recurses := true, apart := false }
def MachKnownSaid : Prop := machKnownRow.holds Try.pinned (OpenSpec.ofChange machKnownSpec)

/-- ITS FALSE NEIGHBOUR: 'it returns false'. Refute it at one input. -/
def machKnownWrong : ChangeSpec := { name := "machKnown", fn := fun _ => fun
  | [] => { results := [.lit (.bool false)], args := [] }
  | _ => none }
def MachKnownWrongFalsely : Prop := machKnownRow.holds Try.pinned (OpenSpec.ofChange machKnownWrong)

/- THE SECOND FORM. 'bulk': how many values and letters a reading holds, each counted each time it is reached (what is shared counts as often as it is met; a slice's spare places count too). A statement '..UptoSaid' is the law's where the arguments, and the package variables that the reading takes, are together of bulk at most 1048576: NARROWER than '..Said'. Prove '..Said' where nothing that the law and all that it calls make is longer than what came in: it says more and counts as full. Else prove '..UptoSaid'. A law counts once. -/
mutual
def uptoBulk {H : Type} : DataW H → Nat
  | .lit (.string bytes) => bytes.length + 1
  | .lit _ => 1
  | .nil => 1
  | .ptr d => uptoBulk d + 1
  | .slice elems spare => uptoBulkAll elems + uptoBulkAll spare + 1
  | .agg parts => uptoBulkAll parts + 1
  | .iface _ d => uptoBulk d + 1
  | .map entries => uptoBulkEntries entries + 1
  | .held _ => 1
def uptoBulkAll {H : Type} : List (DataW H) → Nat
  | [] => 0
  | d :: r => uptoBulk d + uptoBulkAll r
def uptoBulkEntries {H : Type} : List (Lit × DataW H) → Nat
  | [] => 0
  | x :: r => uptoBulkEntry x + uptoBulkEntries r
def uptoBulkEntry {H : Type} : Lit × DataW H → Nat
  | (.string bytes, d) => bytes.length + uptoBulk d + 1
  | (_, d) => uptoBulk d + 1
 end
def uptoSmall : (H : Type) → List (DataW H) → Bool := fun _ ds => decide (uptoBulkAll ds ≤ 1048576)
def OpenSpec.upto (s : _root_.Go.ChangeSpec) : _root_.Go.OpenSpec := { _root_.Go.OpenSpec.ofChange s with cond := some uptoSmall }

/-- 'pennantlaw02.MachSteps', WHERE WHAT IT READS IS OF BULK AT MOST 1048576: true; the input reads as it did. -/
def machStepsUptoRow : OpenClaim := { program := "ytbgdomnalimjnaa", sum := "3681757c7b00807c18fb967ec7c88435fc2a8dcadca4ac50b65f6b4597a8bcad", func := "pennant/pennantlaw02.MachSteps", spec := "machSteps", unfollowed := true, recurses := true, apart := false, narrowed := true }
def MachStepsUptoSaid : Prop := machStepsUptoRow.holds Try.pinned (OpenSpec.upto machStepsSpec)

/-- 'pennantlaw02.MachInput', WHERE WHAT IT READS IS OF BULK AT MOST 1048576: true; the input reads as it did. -/
def machInputUptoRow : OpenClaim := { program := "ytbgdomnalimjnaa", sum := "3681757c7b00807c18fb967ec7c88435fc2a8dcadca4ac50b65f6b4597a8bcad", func := "pennant/pennantlaw02.MachInput", spec := "machInput", unfollowed := true, recurses := true, apart := false, narrowed := true }
def MachInputUptoSaid : Prop := machInputUptoRow.holds Try.pinned (OpenSpec.upto machInputSpec)

/-- 'pennantlaw04.LinkImages', WHERE WHAT IT READS IS OF BULK AT MOST 1048576: true; the input reads as it did. -/
def linkImagesUptoRow : OpenClaim := { program := "ytbgdomnalimjnaa", sum := "3681757c7b00807c18fb967ec7c88435fc2a8dcadca4ac50b65f6b4597a8bcad", func := "pennant/pennantlaw04.LinkImages", spec := "linkImages", apart := false, narrowed := true }
def LinkImagesUptoSaid : Prop := linkImagesUptoRow.holds Try.pinned (OpenSpec.upto linkImagesSpec)

/-- 'pennantlaw04.LinkFinds', WHERE WHAT IT READS IS OF BULK AT MOST 1048576: true; the input reads as it did. -/
def linkFindsUptoRow : OpenClaim := { program := "ytbgdomnalimjnaa", sum := "3681757c7b00807c18fb967ec7c88435fc2a8dcadca4ac50b65f6b4597a8bcad", func := "pennant/pennantlaw04.LinkFinds", spec := "linkFinds", apart := false, narrowed := true }
def LinkFindsUptoSaid : Prop := linkFindsUptoRow.holds Try.pinned (OpenSpec.upto linkFindsSpec)

/-- 'pennantlaw04.LinkMoved', WHERE WHAT IT READS IS OF BULK AT MOST 1048576: true; the input reads as it did. -/
def linkMovedUptoRow : OpenClaim := { program := "ytbgdomnalimjnaa", sum := "3681757c7b00807c18fb967ec7c88435fc2a8dcadca4ac50b65f6b4597a8bcad", func := "pennant/pennantlaw04.LinkMoved", spec := "linkMoved", apart := false, narrowed := true }
def LinkMovedUptoSaid : Prop := linkMovedUptoRow.holds Try.pinned (OpenSpec.upto linkMovedSpec)

/-- 'pennantlaw04.LinkOwn', WHERE WHAT IT READS IS OF BULK AT MOST 1048576: true; the input reads as it did. -/
def linkOwnUptoRow : OpenClaim := { program := "ytbgdomnalimjnaa", sum := "3681757c7b00807c18fb967ec7c88435fc2a8dcadca4ac50b65f6b4597a8bcad", func := "pennant/pennantlaw04.LinkOwn", spec := "linkOwn", apart := false, narrowed := true }
def LinkOwnUptoSaid : Prop := linkOwnUptoRow.holds Try.pinned (OpenSpec.upto linkOwnSpec)

/-- 'pennantlaw04.LinkKnown', WHERE WHAT IT READS IS OF BULK AT MOST 1048576: true; the input reads as it did. -/
def linkKnownUptoRow : OpenClaim := { program := "ytbgdomnalimjnaa", sum := "3681757c7b00807c18fb967ec7c88435fc2a8dcadca4ac50b65f6b4597a8bcad", func := "pennant/pennantlaw04.LinkKnown", spec := "linkKnown", apart := false, narrowed := true }
def LinkKnownUptoSaid : Prop := linkKnownUptoRow.holds Try.pinned (OpenSpec.upto linkKnownSpec)

/-- 'pennantlaw02.MachParts', WHERE WHAT IT READS IS OF BULK AT MOST 1048576: true; the input reads as it did. -/
def machPartsUptoRow : OpenClaim := { program := "ytbgdomnalimjnaa", sum := "3681757c7b00807c18fb967ec7c88435fc2a8dcadca4ac50b65f6b4597a8bcad", func := "pennant/pennantlaw02.MachParts", spec := "machParts", unfollowed := true, recurses := true, apart := false, narrowed := true }
def MachPartsUptoSaid : Prop := machPartsUptoRow.holds Try.pinned (OpenSpec.upto machPartsSpec)

/-- 'pennantlaw02.MachRuns', WHERE WHAT IT READS IS OF BULK AT MOST 1048576: true; the input reads as it did. -/
def machRunsUptoRow : OpenClaim := { program := "ytbgdomnalimjnaa", sum := "3681757c7b00807c18fb967ec7c88435fc2a8dcadca4ac50b65f6b4597a8bcad", func := "pennant/pennantlaw02.MachRuns", spec := "machRuns", unfollowed := true, recurses := true, apart := false, narrowed := true }
def MachRunsUptoSaid : Prop := machRunsUptoRow.holds Try.pinned (OpenSpec.upto machRunsSpec)

/-- 'pennantlaw02.MachKnown', WHERE WHAT IT READS IS OF BULK AT MOST 1048576: true; the input reads as it did. -/
def machKnownUptoRow : OpenClaim := { program := "ytbgdomnalimjnaa", sum := "3681757c7b00807c18fb967ec7c88435fc2a8dcadca4ac50b65f6b4597a8bcad", func := "pennant/pennantlaw02.MachKnown", spec := "machKnown", unfollowed := true, recurses := true, apart := false, narrowed := true }
def MachKnownUptoSaid : Prop := machKnownUptoRow.holds Try.pinned (OpenSpec.upto machKnownSpec)

end Rows
end Go.Proofs.Ytbgdomnalimjnaa
