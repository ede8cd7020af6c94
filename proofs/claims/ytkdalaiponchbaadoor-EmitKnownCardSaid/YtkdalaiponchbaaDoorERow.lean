/- What the listed variables give, and a world that meets the list: for the rows of layer 24. -/
import Derived.Test.YtkdalaiponchbaaDoorRows
import Derived.Test.YtkdalaiponchbaaDoorELab
import Derived.Test.YtkdalaiponchbaaDoorRowEnd
import Derived.ProofKit
import Derived.OpenShut
import Derived.LaidMore
import Derived.LaidHandle
import Derived.MakeChecks
import Derived.Lib.LaidTab
import Derived.Stop.LaidErr
import Derived.Deep.DeepHandedRow
import Derived.Deep.DeepWitnessRowRef
set_option maxRecDepth 100000
set_option linter.unusedVariables false
set_option linter.unusedSimpArgs false
set_option linter.unusedSectionVars false
namespace Go.Proofs.YtkdalaiponchbaaDoor
open Go.ChangeShapes Go.WideShapes Go.ChangeAt Go.RowKit

theorem gPow : Tryd.prog.globalNamed "internal/strconv.uint64pow10" = some 0 := by kernel_rfl
theorem tPow : (Tryd.prog.globals[0]?).map (·.type) = some 153 := by kernel_rfl
theorem cPow : Tryd.prog.cellsOf 153 = 20 := by kernel_rfl
theorem cU64 : Tryd.prog.cellsOf 117 = 1 := by kernel_rfl
/-- What the rows list. -/
def laidL : List (String × DataW Unit) := Rows.emitItemsRow.laid
noncomputable def laidWorld (os : Os) : World := World.doorLaid Tryd.prog 100 os
theorem laid_met (os : Os) (args : Array Value) : laidMetH Tryd.prog laidL ((laidWorld os).forCall (fun _ _ => 0) ⟨#[], args, []⟩).memory :=
  laidMetH_of_parts3 (fuel := 8) (laidMet_of_run' 8 (by kernel_rfl) (by kernel_rfl)) (by kernel_rfl) (by kernel_rfl)

theorem lv_of {W : World} (h : laidMetH Tryd.prog laidL W) (hs : W.ShapedOpen Tryd.prog) : LVE W := by
  rw [MakeChecks.laidMetH_plain _ _ _ (by kernel_rfl)] at h
  have h3 := laidMet.tail (laidMet.tail h)
  have hsz : 3 ≤ W.heap.size := by
    obtain ⟨cs, ho, _⟩ := hs.1 2 (Array.replicate 64 (.int .u8 0)) 157 (of_decide_eq_true (by kernel_rfl)) (by kernel_rfl)
    rcases Nat.lt_or_ge 2 W.heap.size with h8 | h8
    · exact h8
    · simp [Array.getElem?_eq_none h8] at ho
  exact ⟨Lib.tabIs_of_head gPow tPow Tryd.underlying153 Tryd.underlying117 cU64 cPow h3, hsz⟩

theorem wf_i64 {y : Int} (h : (Lit.int .i64 y).wf = true) : I64 y := by
  simp [Lit.wf, IntKind.min, IntKind.max, IntKind.signed, IntKind.bits] at h
  unfold I64
  omega

end Go.Proofs.YtkdalaiponchbaaDoor
