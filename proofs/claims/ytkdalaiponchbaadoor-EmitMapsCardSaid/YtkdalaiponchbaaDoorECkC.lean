/- Walk of emit.Check. -/
import Derived.Test.YtkdalaiponchbaaDoorECkB
import Derived.Test.YtkdalaiponchbaaDoorEEnt
set_option linter.unusedVariables false
set_option linter.unusedSimpArgs false
set_option linter.unusedSectionVars false
namespace Go.Proofs.YtkdalaiponchbaaDoor
open Go.RowKit

def headOk (f : S.VFunc) : Prop := 0 ≤ f.slots ∧ f.slots ≤ 16777216 ∧ f.need ≤ 16777216 ∧ f.params ≤ 16777216 ∧ ¬(f.rest = true ∧ f.params < 1) ∧ 0 ≤ f.fn
theorem echk_bad {f : S.VFunc} (h : ¬ headOk f) : S.echk f = 2 := by
  unfold headOk at h
  unfold S.echk
  rw [if_neg]
  intro hh
  exact h (of_decide_eq_true ((Bool.and_eq_true _ _).mp hh).1)

set_option maxRecDepth 100000 in
set_option maxHeartbeats 4000000 in
theorem e_Check_bad (f : S.VFunc) (I : Value) (w : World) (h : ¬ headOk f) :
    Calls Tryd.prog 13 #[.agg (vfCells f I)] w fun e w' => e = .returned (.int .i64 (S.echk f)) ∧ Below w.heap.size w w' := by
  have He := Lib.hid (echk_bad h)
  obtain ⟨fn, regs, slots, need, params, rest, insts⟩ := f
  unfold headOk at h
  simp only at h
  unfold vfCells
  have hc : slots < 0 ∨ (0 ≤ slots ∧ 16777216 < slots) ∨ (0 ≤ slots ∧ slots ≤ 16777216 ∧ 16777216 < need) ∨ (0 ≤ slots ∧ slots ≤ 16777216 ∧ need ≤ 16777216 ∧ 16777216 < params) ∨
      (0 ≤ slots ∧ slots ≤ 16777216 ∧ need ≤ 16777216 ∧ params ≤ 16777216 ∧ rest = true ∧ params < 1) ∨ (0 ≤ slots ∧ slots ≤ 16777216 ∧ need ≤ 16777216 ∧ params ≤ 16777216 ∧ rest = false ∧ fn < 0) ∨ (0 ≤ slots ∧ slots ≤ 16777216 ∧ need ≤ 16777216 ∧ params ≤ 16777216 ∧ rest = true ∧ 1 ≤ params ∧ fn < 0) := by
    cases rest <;> simp_all <;> omega
  clear h
  rcases hc with h1 | ⟨h1, h2⟩ | ⟨h1, h2, h3⟩ | ⟨h1, h2, h3, h4⟩ | ⟨h1, h2, h3, h4, rfl, h5⟩ | ⟨h1, h2, h3, h4, rfl, h5⟩ | ⟨h1, h2, h3, h4, rfl, h5, h6⟩
  all_goals
    go_enter Tryd.func13, Tryd.ntmps13
    go_wp2_with fail
    go_ret
    exact ⟨by rw [He.out]; rfl, (Below.refl _ _).alloc (Nat.le_refl _) _⟩

end Go.Proofs.YtkdalaiponchbaaDoor
