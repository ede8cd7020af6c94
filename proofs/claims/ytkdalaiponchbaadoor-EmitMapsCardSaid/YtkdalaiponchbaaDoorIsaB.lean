/- Walks of isa.Check and pennantref01.Check. -/
import Derived.Test.YtkdalaiponchbaaDoorIsaA
set_option linter.unusedVariables false
set_option linter.unusedSimpArgs false
set_option linter.unusedSectionVars false
namespace Go.Proofs.YtkdalaiponchbaaDoor
open Go.RowKit

set_option maxHeartbeats 1600000 in
theorem isa_Check (op d a b imm : Int) (w : World) :
    Calls Tryd.prog 90 #[.agg #[.int .i64 op, .int .i64 d, .int .i64 a, .int .i64 b, .int .i64 imm]] w
      fun e w' => e = .returned (.int .i64 (S.chk ⟨op, d, a, b, imm⟩)) ∧ Below w.heap.size w w' := by
  go_enter Tryd.func90, Tryd.ntmps90
  go_wp2_with (first
    | (go_at_call 94; refine (isa_Form _ _).mono ?_; rintro e w' ⟨rfl, rfl⟩)
    | (go_at_call 93; refine (isa_has _ _).mono ?_; rintro e w' ⟨rfl, rfl⟩)
    | (go_at_call 113; refine (isa_ranges _ _).mono ?_; rintro e w' ⟨rfl, rfl⟩)
    | (go_at_call 114; refine (isa_register _ _ _).mono ?_; rintro e w' ⟨rfl, rfl⟩))
  all_goals
    go_ret
    exact ⟨ret_int (by grind [S.good, S.chk]), (Below.refl _ _).alloc (Nat.le_refl _) _⟩

set_option maxHeartbeats 3200000 in
theorem ref_Check (op d a b imm : Int) (w : World) :
    Calls Tryd.prog 107 #[.agg #[.int .i64 op, .int .i64 d, .int .i64 a, .int .i64 b, .int .i64 imm]] w
      fun e w' => e = .returned (.int .i64 (S.chk ⟨op, d, a, b, imm⟩)) ∧ Below w.heap.size w w' := by
  rcases Bool.eq_false_or_eq_true (S.form op == 0) with h1 | h1
  rotate_left
  rcases Bool.eq_false_or_eq_true (S.reg (S.hasD (S.form op)) d) with h2 | h2
  rcases Bool.eq_false_or_eq_true (S.reg (S.hasA (S.form op)) a) with h3 | h3
  rcases Bool.eq_false_or_eq_true (S.reg (S.hasB (S.form op)) b) with h4 | h4
  rcases Bool.eq_false_or_eq_true (decide (imm < S.least op)) with h5 | h5
  rotate_left
  rcases Bool.eq_false_or_eq_true (decide (S.most op < imm)) with h6 | h6
  all_goals
    go_enter Tryd.func107, Tryd.ntmps107
    go_wp2_with fail
    go_quiet ((first
      | (go_at_call 122; exact quiet_left (ref_Form _ _))
      | (go_at_call 109; exact quiet_left (ref_HasD _ _))
      | (go_at_call 110; exact quiet_left (ref_HasA _ _))
      | (go_at_call 111; exact quiet_left (ref_HasB _ _))
      | (go_at_call 124; exact quiet_left (ref_Least _ _))
      | (go_at_call 125; exact quiet_left (ref_Most _ _))
      | (go_at_call 123; exact quiet_left (ref_register _ _ _))))
    go_wp2_with fail
    go_ret
    exact ⟨ret_int (by grind [S.good, S.chk]), below_drewN ((Below.refl _ _).alloc (Nat.le_refl _) _) _⟩

end Go.Proofs.YtkdalaiponchbaaDoor
