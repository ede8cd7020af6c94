/- Walks of the small functions of isa and pennantref01: each returns what S says. -/
import Derived.Test.YtbgdomnalimjnaaProg
import Derived.Test.YtbgdomnalimjnaaSpec
import Derived.Test.YtbgdomnalimjnaaOwn
set_option linter.unusedVariables false
set_option linter.unusedSimpArgs false
set_option linter.unusedSectionVars false
namespace Go.Proofs.Ytbgdomnalimjnaa
open Go.RowKit

set_option maxHeartbeats 400000 in
theorem isa_Form (n : Int) (w : World) :
    Calls Try.prog 55 #[.int .i64 n] w fun e w' => e = .returned (.int .i64 (S.form n)) ∧ w = w' := by
  go_enter Try.func55, Try.ntmps55
  go_wp2
  all_goals
    go_ret
    exact ⟨ret_int (by grind [S.form]), rfl⟩

set_option maxHeartbeats 400000 in
theorem isa_has (f : Int) (w : World) :
    Calls Try.prog 54 #[.int .i64 f] w fun e w' => e = .returned (.tuple #[.bool (S.hasD f), .bool (S.hasA f), .bool (S.hasB f), .int .i64 (S.bitsOf f)]) ∧ w = w' := by
  go_enter Try.func54, Try.ntmps54
  go_wp2
  all_goals
    refine bodyPost_ret (results_tmp4 rfl _ _ _) rfl ?_
    refine ⟨?_, rfl⟩
    simp only [S.hasD, S.hasA, S.hasB, S.bitsOf]
    simp
    grind

set_option maxHeartbeats 800000 in
theorem isa_ranges (n : Int) (w : World) :
    Calls Try.prog 85 #[.int .i64 n] w fun e w' => e = .returned (.tuple #[.int .i64 (S.least n), .int .i64 (S.most n)]) ∧ w = w' := by
  go_enter Try.func85, Try.ntmps85
  go_wp2_with (go_at_call 55; refine (isa_Form _ _).mono ?_; rintro e w' ⟨rfl, rfl⟩)
  all_goals
    go_ret2
    refine ⟨?_, rfl⟩
    simp
    grind [S.least, S.most]

theorem isa_Signed (n : Int) (w : World) :
    Calls Try.prog 57 #[.int .i64 n] w fun e w' => e = .returned (.bool (decide (S.least n < 0))) ∧ w = w' := by
  go_enter Try.func57, Try.ntmps57
  go_wp2_with (go_at_call 85; refine (isa_ranges _ _).mono ?_; rintro e w' ⟨rfl, rfl⟩)
  all_goals
    go_ret
    exact ⟨ret_bool rfl, rfl⟩

theorem isa_register (is : Bool) (n : Int) (w : World) :
    Calls Try.prog 113 #[.bool is, .int .i64 n] w fun e w' => e = .returned (.bool (S.reg is n)) ∧ w = w' := by
  cases is
  all_goals
    go_enter Try.func113, Try.ntmps113
    go_wp2
    all_goals
      go_ret
      exact ⟨ret_bool (by grind [S.reg]), rfl⟩

theorem asm_Turned (n : Int) (w : World) :
    Calls Try.prog 101 #[.int .i64 n] w fun e w' => e = .returned (.int .i64 (S.turned n)) ∧ w = w' := by
  go_enter Try.func101, Try.ntmps101
  go_wp2
  all_goals
    go_ret
    exact ⟨ret_int (by grind [S.turned]), rfl⟩

theorem ref_Turned (n : Int) (w : World) :
    Calls Try.prog 119 #[.int .i64 n] w fun e w' => e = .returned (.int .i64 (S.turned n)) ∧ w = w' := by
  go_enter Try.func119, Try.ntmps119
  go_wp2
  all_goals
    go_ret
    exact ⟨ret_int (by grind [S.turned]), rfl⟩

theorem ref_Form (n : Int) (w : World) :
    Calls Try.prog 106 #[.int .i64 n] w fun e w' => e = .returned (.int .i64 (S.form n)) ∧ w = w' := by
  go_enter Try.func106, Try.ntmps106
  go_wp2
  all_goals
    go_ret
    exact ⟨ret_int (by grind [S.form]), rfl⟩

theorem ref_HasD (n : Int) (w : World) :
    Calls Try.prog 73 #[.int .i64 n] w fun e w' => e = .returned (.bool (S.hasD (S.form n))) ∧ w = w' := by
  go_enter Try.func73, Try.ntmps73
  go_wp2_with (go_at_call 106; refine (ref_Form _ _).mono ?_; rintro e w' ⟨rfl, rfl⟩)
  all_goals
    go_ret
    exact ⟨ret_bool (by grind [S.hasD]), rfl⟩

theorem ref_HasA (n : Int) (w : World) :
    Calls Try.prog 74 #[.int .i64 n] w fun e w' => e = .returned (.bool (S.hasA (S.form n))) ∧ w = w' := by
  go_enter Try.func74, Try.ntmps74
  go_wp2_with (go_at_call 106; refine (ref_Form _ _).mono ?_; rintro e w' ⟨rfl, rfl⟩)
  all_goals
    go_ret
    exact ⟨ret_bool (by grind [S.hasA]), rfl⟩

theorem ref_HasB (n : Int) (w : World) :
    Calls Try.prog 75 #[.int .i64 n] w fun e w' => e = .returned (.bool (S.hasB (S.form n))) ∧ w = w' := by
  go_enter Try.func75, Try.ntmps75
  go_wp2_with (go_at_call 106; refine (ref_Form _ _).mono ?_; rintro e w' ⟨rfl, rfl⟩)
  all_goals
    go_ret
    exact ⟨ret_bool (by grind [S.hasB]), rfl⟩

theorem ref_Bits (n : Int) (w : World) :
    Calls Try.prog 76 #[.int .i64 n] w fun e w' => e = .returned (.int .i64 (S.bitsOf (S.form n))) ∧ w = w' := by
  go_enter Try.func76, Try.ntmps76
  go_wp2_with (go_at_call 106; refine (ref_Form _ _).mono ?_; rintro e w' ⟨rfl, rfl⟩)
  all_goals
    go_ret
    exact ⟨ret_int (by grind [S.bitsOf]), rfl⟩

theorem ref_register (is : Bool) (n : Int) (w : World) :
    Calls Try.prog 121 #[.bool is, .int .i64 n] w fun e w' => e = .returned (.bool (S.reg is n)) ∧ w = w' := by
  cases is
  all_goals
    go_enter Try.func121, Try.ntmps121
    go_wp2
    all_goals
      go_ret
      exact ⟨ret_bool (by grind [S.reg]), rfl⟩

theorem ref_Least (n : Int) (w : World) :
    Calls Try.prog 78 #[.int .i64 n] w fun e w' => e = .returned (.int .i64 (S.least n)) ∧ w = w' := by
  go_enter Try.func78, Try.ntmps78
  go_wp2_with (go_at_call 106; refine (ref_Form _ _).mono ?_; rintro e w' ⟨rfl, rfl⟩)
  all_goals
    go_ret
    exact ⟨ret_int (by grind [S.least]), rfl⟩

theorem ref_Most (n : Int) (w : World) :
    Calls Try.prog 77 #[.int .i64 n] w fun e w' => e = .returned (.int .i64 (S.most n)) ∧ w = w' := by
  go_enter Try.func77, Try.ntmps77
  go_wp2_with (go_at_call 106; refine (ref_Form _ _).mono ?_; rintro e w' ⟨rfl, rfl⟩)
  all_goals
    go_ret
    exact ⟨ret_int (by grind [S.most]), rfl⟩

end Go.Proofs.Ytbgdomnalimjnaa
