/- Walks of the small functions of isa and pennantref01: each returns what S says. -/
import Derived.Test.YtfdmbjkofchhiaaProg
import Derived.Test.YtfdmbjkofchhiaaSpec
import Derived.Test.YtfdmbjkofchhiaaOwn
set_option linter.unusedVariables false
set_option linter.unusedSimpArgs false
set_option linter.unusedSectionVars false
namespace Go.Proofs.Ytfdmbjkofchhiaa
open Go.RowKit

set_option maxHeartbeats 400000 in
theorem isa_Form (n : Int) (w : World) :
    Calls Try.prog 46 #[.int .i64 n] w fun e w' => e = .returned (.int .i64 (S.form n)) ∧ w = w' := by
  go_enter Try.func46, Try.ntmps46
  go_wp2
  all_goals
    go_ret
    exact ⟨ret_int (by grind [S.form]), rfl⟩

set_option maxHeartbeats 400000 in
theorem isa_has (f : Int) (w : World) :
    Calls Try.prog 45 #[.int .i64 f] w fun e w' => e = .returned (.tuple #[.bool (S.hasD f), .bool (S.hasA f), .bool (S.hasB f), .int .i64 (S.bitsOf f)]) ∧ w = w' := by
  go_enter Try.func45, Try.ntmps45
  go_wp2
  all_goals
    refine bodyPost_ret (results_tmp4 rfl _ _ _) rfl ?_
    refine ⟨?_, rfl⟩
    simp only [S.hasD, S.hasA, S.hasB, S.bitsOf]
    simp
    grind

set_option maxHeartbeats 800000 in
theorem isa_ranges (n : Int) (w : World) :
    Calls Try.prog 55 #[.int .i64 n] w fun e w' => e = .returned (.tuple #[.int .i64 (S.least n), .int .i64 (S.most n)]) ∧ w = w' := by
  go_enter Try.func55, Try.ntmps55
  go_wp2_with (go_at_call 46; refine (isa_Form _ _).mono ?_; rintro e w' ⟨rfl, rfl⟩)
  all_goals
    go_ret2
    refine ⟨?_, rfl⟩
    simp
    grind [S.least, S.most]

theorem isa_Signed (n : Int) (w : World) :
    Calls Try.prog 48 #[.int .i64 n] w fun e w' => e = .returned (.bool (decide (S.least n < 0))) ∧ w = w' := by
  go_enter Try.func48, Try.ntmps48
  go_wp2_with (go_at_call 55; refine (isa_ranges _ _).mono ?_; rintro e w' ⟨rfl, rfl⟩)
  all_goals
    go_ret
    exact ⟨ret_bool rfl, rfl⟩

theorem isa_register (is : Bool) (n : Int) (w : World) :
    Calls Try.prog 56 #[.bool is, .int .i64 n] w fun e w' => e = .returned (.bool (S.reg is n)) ∧ w = w' := by
  cases is
  all_goals
    go_enter Try.func56, Try.ntmps56
    go_wp2
    all_goals
      go_ret
      exact ⟨ret_bool (by grind [S.reg]), rfl⟩

theorem asm_Turned (n : Int) (w : World) :
    Calls Try.prog 15 #[.int .i64 n] w fun e w' => e = .returned (.int .i64 (S.turned n)) ∧ w = w' := by
  go_enter Try.func15, Try.ntmps15
  go_wp2
  all_goals
    go_ret
    exact ⟨ret_int (by grind [S.turned]), rfl⟩

theorem ref_Turned (n : Int) (w : World) :
    Calls Try.prog 16 #[.int .i64 n] w fun e w' => e = .returned (.int .i64 (S.turned n)) ∧ w = w' := by
  go_enter Try.func16, Try.ntmps16
  go_wp2
  all_goals
    go_ret
    exact ⟨ret_int (by grind [S.turned]), rfl⟩

theorem ref_Form (n : Int) (w : World) :
    Calls Try.prog 62 #[.int .i64 n] w fun e w' => e = .returned (.int .i64 (S.form n)) ∧ w = w' := by
  go_enter Try.func62, Try.ntmps62
  go_wp2
  all_goals
    go_ret
    exact ⟨ret_int (by grind [S.form]), rfl⟩

theorem ref_HasD (n : Int) (w : World) :
    Calls Try.prog 58 #[.int .i64 n] w fun e w' => e = .returned (.bool (S.hasD (S.form n))) ∧ w = w' := by
  go_enter Try.func58, Try.ntmps58
  go_wp2_with (go_at_call 62; refine (ref_Form _ _).mono ?_; rintro e w' ⟨rfl, rfl⟩)
  all_goals
    go_ret
    exact ⟨ret_bool (by grind [S.hasD]), rfl⟩

theorem ref_HasA (n : Int) (w : World) :
    Calls Try.prog 59 #[.int .i64 n] w fun e w' => e = .returned (.bool (S.hasA (S.form n))) ∧ w = w' := by
  go_enter Try.func59, Try.ntmps59
  go_wp2_with (go_at_call 62; refine (ref_Form _ _).mono ?_; rintro e w' ⟨rfl, rfl⟩)
  all_goals
    go_ret
    exact ⟨ret_bool (by grind [S.hasA]), rfl⟩

theorem ref_HasB (n : Int) (w : World) :
    Calls Try.prog 60 #[.int .i64 n] w fun e w' => e = .returned (.bool (S.hasB (S.form n))) ∧ w = w' := by
  go_enter Try.func60, Try.ntmps60
  go_wp2_with (go_at_call 62; refine (ref_Form _ _).mono ?_; rintro e w' ⟨rfl, rfl⟩)
  all_goals
    go_ret
    exact ⟨ret_bool (by grind [S.hasB]), rfl⟩

theorem ref_Bits (n : Int) (w : World) :
    Calls Try.prog 61 #[.int .i64 n] w fun e w' => e = .returned (.int .i64 (S.bitsOf (S.form n))) ∧ w = w' := by
  go_enter Try.func61, Try.ntmps61
  go_wp2_with (go_at_call 62; refine (ref_Form _ _).mono ?_; rintro e w' ⟨rfl, rfl⟩)
  all_goals
    go_ret
    exact ⟨ret_int (by grind [S.bitsOf]), rfl⟩

theorem ref_register (is : Bool) (n : Int) (w : World) :
    Calls Try.prog 63 #[.bool is, .int .i64 n] w fun e w' => e = .returned (.bool (S.reg is n)) ∧ w = w' := by
  cases is
  all_goals
    go_enter Try.func63, Try.ntmps63
    go_wp2
    all_goals
      go_ret
      exact ⟨ret_bool (by grind [S.reg]), rfl⟩

theorem ref_Least (n : Int) (w : World) :
    Calls Try.prog 64 #[.int .i64 n] w fun e w' => e = .returned (.int .i64 (S.least n)) ∧ w = w' := by
  go_enter Try.func64, Try.ntmps64
  go_wp2_with (go_at_call 62; refine (ref_Form _ _).mono ?_; rintro e w' ⟨rfl, rfl⟩)
  all_goals
    go_ret
    exact ⟨ret_int (by grind [S.least]), rfl⟩

theorem ref_Most (n : Int) (w : World) :
    Calls Try.prog 65 #[.int .i64 n] w fun e w' => e = .returned (.int .i64 (S.most n)) ∧ w = w' := by
  go_enter Try.func65, Try.ntmps65
  go_wp2_with (go_at_call 62; refine (ref_Form _ _).mono ?_; rintro e w' ⟨rfl, rfl⟩)
  all_goals
    go_ret
    exact ⟨ret_int (by grind [S.most]), rfl⟩

end Go.Proofs.Ytfdmbjkofchhiaa
