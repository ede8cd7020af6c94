/- IsaA, IsaB: joined.  Walks of isa.Check and pennantref01.Check. -/
import Derived.Test.YtidhglleeccpoaaDoorProg
import Derived.Test.YtidhglleeccpoaaDoorSpec
import Derived.Test.YtidhglleeccpoaaDoorOwn
section
set_option linter.unusedVariables false
set_option linter.unusedSimpArgs false
set_option linter.unusedSectionVars false
namespace Go.Proofs.YtidhglleeccpoaaDoor
open Go.RowKit

set_option maxHeartbeats 400000 in
theorem isa_Form (n : Int) (w : World) :
    Calls Tryd.prog 66 #[.int .i64 n] w fun e w' => e = .returned (.int .i64 (S.form n)) ∧ w = w' := by
  go_enter Tryd.func66, Tryd.ntmps66
  go_wp2
  all_goals
    go_ret
    exact ⟨ret_int (by grind [S.form]), rfl⟩

set_option maxHeartbeats 400000 in
theorem isa_has (f : Int) (w : World) :
    Calls Tryd.prog 65 #[.int .i64 f] w fun e w' => e = .returned (.tuple #[.bool (S.hasD f), .bool (S.hasA f), .bool (S.hasB f), .int .i64 (S.bitsOf f)]) ∧ w = w' := by
  go_enter Tryd.func65, Tryd.ntmps65
  go_wp2
  all_goals
    refine bodyPost_ret (results_tmp4 rfl _ _ _) rfl ?_
    refine ⟨?_, rfl⟩
    simp only [S.hasD, S.hasA, S.hasB, S.bitsOf]
    simp
    grind

set_option maxHeartbeats 800000 in
theorem isa_ranges (n : Int) (w : World) :
    Calls Tryd.prog 81 #[.int .i64 n] w fun e w' => e = .returned (.tuple #[.int .i64 (S.least n), .int .i64 (S.most n)]) ∧ w = w' := by
  go_enter Tryd.func81, Tryd.ntmps81
  go_wp2_with (go_at_call 66; refine (isa_Form _ _).mono ?_; rintro e w' ⟨rfl, rfl⟩)
  all_goals
    go_ret2
    refine ⟨?_, rfl⟩
    simp
    grind [S.least, S.most]

theorem isa_Signed (n : Int) (w : World) :
    Calls Tryd.prog 68 #[.int .i64 n] w fun e w' => e = .returned (.bool (decide (S.least n < 0))) ∧ w = w' := by
  go_enter Tryd.func68, Tryd.ntmps68
  go_wp2_with (go_at_call 81; refine (isa_ranges _ _).mono ?_; rintro e w' ⟨rfl, rfl⟩)
  all_goals
    go_ret
    exact ⟨ret_bool rfl, rfl⟩

theorem isa_register (is : Bool) (n : Int) (w : World) :
    Calls Tryd.prog 82 #[.bool is, .int .i64 n] w fun e w' => e = .returned (.bool (S.reg is n)) ∧ w = w' := by
  cases is
  all_goals
    go_enter Tryd.func82, Tryd.ntmps82
    go_wp2
    all_goals
      go_ret
      exact ⟨ret_bool (by grind [S.reg]), rfl⟩

theorem asm_Turned (n : Int) (w : World) :
    Calls Tryd.prog 50 #[.int .i64 n] w fun e w' => e = .returned (.int .i64 (S.turned n)) ∧ w = w' := by
  go_enter Tryd.func50, Tryd.ntmps50
  go_wp2
  all_goals
    go_ret
    exact ⟨ret_int (by grind [S.turned]), rfl⟩


end Go.Proofs.YtidhglleeccpoaaDoor
end

section
set_option linter.unusedVariables false
set_option linter.unusedSimpArgs false
set_option linter.unusedSectionVars false
namespace Go.Proofs.YtidhglleeccpoaaDoor
open Go.RowKit

set_option maxHeartbeats 1600000 in
theorem isa_Check (op d a b imm : Int) (w : World) :
    Calls Tryd.prog 62 #[.agg #[.int .i64 op, .int .i64 d, .int .i64 a, .int .i64 b, .int .i64 imm]] w
      fun e w' => e = .returned (.int .i64 (S.chk ⟨op, d, a, b, imm⟩)) ∧ Below w.heap.size w w' := by
  go_enter Tryd.func62, Tryd.ntmps62
  go_wp2_with (first
    | (go_at_call 66; refine (isa_Form _ _).mono ?_; rintro e w' ⟨rfl, rfl⟩)
    | (go_at_call 65; refine (isa_has _ _).mono ?_; rintro e w' ⟨rfl, rfl⟩)
    | (go_at_call 81; refine (isa_ranges _ _).mono ?_; rintro e w' ⟨rfl, rfl⟩)
    | (go_at_call 82; refine (isa_register _ _ _).mono ?_; rintro e w' ⟨rfl, rfl⟩))
  all_goals
    go_ret
    exact ⟨ret_int (by grind [S.good, S.chk]), (Below.refl _ _).alloc (Nat.le_refl _) _⟩

end Go.Proofs.YtidhglleeccpoaaDoor
end
