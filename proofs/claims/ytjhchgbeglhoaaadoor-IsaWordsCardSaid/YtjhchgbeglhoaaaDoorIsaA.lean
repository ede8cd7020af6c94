/- Walks of the small functions of isa and pennantref01: each returns what S says. -/
import Derived.Test.YtjhchgbeglhoaaaDoorProg
import Derived.Test.YtjhchgbeglhoaaaDoorSpec
import Derived.Test.YtjhchgbeglhoaaaDoorOwn
set_option linter.unusedVariables false
set_option linter.unusedSimpArgs false
set_option linter.unusedSectionVars false
namespace Go.Proofs.YtjhchgbeglhoaaaDoor
open Go.RowKit

set_option maxHeartbeats 400000 in
theorem isa_Form (n : Int) (w : World) :
    Calls Tryd.prog 11 #[.int .i64 n] w fun e w' => e = .returned (.int .i64 (S.form n)) ∧ w = w' := by
  go_enter Tryd.func11, Tryd.ntmps11
  go_wp2
  all_goals
    go_ret
    exact ⟨ret_int (by grind [S.form]), rfl⟩

set_option maxHeartbeats 400000 in
theorem isa_has (f : Int) (w : World) :
    Calls Tryd.prog 32 #[.int .i64 f] w fun e w' => e = .returned (.tuple #[.bool (S.hasD f), .bool (S.hasA f), .bool (S.hasB f), .int .i64 (S.bitsOf f)]) ∧ w = w' := by
  go_enter Tryd.func32, Tryd.ntmps32
  go_wp2
  all_goals
    refine bodyPost_ret (results_tmp4 rfl _ _ _) rfl ?_
    refine ⟨?_, rfl⟩
    simp only [S.hasD, S.hasA, S.hasB, S.bitsOf]
    simp
    grind

set_option maxHeartbeats 800000 in
theorem isa_ranges (n : Int) (w : World) :
    Calls Tryd.prog 31 #[.int .i64 n] w fun e w' => e = .returned (.tuple #[.int .i64 (S.least n), .int .i64 (S.most n)]) ∧ w = w' := by
  go_enter Tryd.func31, Tryd.ntmps31
  go_wp2_with (go_at_call 11; refine (isa_Form _ _).mono ?_; rintro e w' ⟨rfl, rfl⟩)
  all_goals
    go_ret2
    refine ⟨?_, rfl⟩
    simp
    grind [S.least, S.most]

theorem isa_Signed (n : Int) (w : World) :
    Calls Tryd.prog 15 #[.int .i64 n] w fun e w' => e = .returned (.bool (decide (S.least n < 0))) ∧ w = w' := by
  go_enter Tryd.func15, Tryd.ntmps15
  go_wp2_with (go_at_call 31; refine (isa_ranges _ _).mono ?_; rintro e w' ⟨rfl, rfl⟩)
  all_goals
    go_ret
    exact ⟨ret_bool rfl, rfl⟩

theorem isa_register (is : Bool) (n : Int) (w : World) :
    Calls Tryd.prog 39 #[.bool is, .int .i64 n] w fun e w' => e = .returned (.bool (S.reg is n)) ∧ w = w' := by
  cases is
  all_goals
    go_enter Tryd.func39, Tryd.ntmps39
    go_wp2
    all_goals
      go_ret
      exact ⟨ret_bool (by grind [S.reg]), rfl⟩



theorem ref_Form (n : Int) (w : World) :
    Calls Tryd.prog 12 #[.int .i64 n] w fun e w' => e = .returned (.int .i64 (S.form n)) ∧ w = w' := by
  go_enter Tryd.func12, Tryd.ntmps12
  go_wp2
  all_goals
    go_ret
    exact ⟨ret_int (by grind [S.form]), rfl⟩

theorem ref_HasD (n : Int) (w : World) :
    Calls Tryd.prog 35 #[.int .i64 n] w fun e w' => e = .returned (.bool (S.hasD (S.form n))) ∧ w = w' := by
  go_enter Tryd.func35, Tryd.ntmps35
  go_wp2_with (go_at_call 12; refine (ref_Form _ _).mono ?_; rintro e w' ⟨rfl, rfl⟩)
  all_goals
    go_ret
    exact ⟨ret_bool (by grind [S.hasD]), rfl⟩

theorem ref_HasA (n : Int) (w : World) :
    Calls Tryd.prog 36 #[.int .i64 n] w fun e w' => e = .returned (.bool (S.hasA (S.form n))) ∧ w = w' := by
  go_enter Tryd.func36, Tryd.ntmps36
  go_wp2_with (go_at_call 12; refine (ref_Form _ _).mono ?_; rintro e w' ⟨rfl, rfl⟩)
  all_goals
    go_ret
    exact ⟨ret_bool (by grind [S.hasA]), rfl⟩

theorem ref_HasB (n : Int) (w : World) :
    Calls Tryd.prog 37 #[.int .i64 n] w fun e w' => e = .returned (.bool (S.hasB (S.form n))) ∧ w = w' := by
  go_enter Tryd.func37, Tryd.ntmps37
  go_wp2_with (go_at_call 12; refine (ref_Form _ _).mono ?_; rintro e w' ⟨rfl, rfl⟩)
  all_goals
    go_ret
    exact ⟨ret_bool (by grind [S.hasB]), rfl⟩

theorem ref_Bits (n : Int) (w : World) :
    Calls Tryd.prog 38 #[.int .i64 n] w fun e w' => e = .returned (.int .i64 (S.bitsOf (S.form n))) ∧ w = w' := by
  go_enter Tryd.func38, Tryd.ntmps38
  go_wp2_with (go_at_call 12; refine (ref_Form _ _).mono ?_; rintro e w' ⟨rfl, rfl⟩)
  all_goals
    go_ret
    exact ⟨ret_int (by grind [S.bitsOf]), rfl⟩

theorem ref_register (is : Bool) (n : Int) (w : World) :
    Calls Tryd.prog 53 #[.bool is, .int .i64 n] w fun e w' => e = .returned (.bool (S.reg is n)) ∧ w = w' := by
  cases is
  all_goals
    go_enter Tryd.func53, Tryd.ntmps53
    go_wp2
    all_goals
      go_ret
      exact ⟨ret_bool (by grind [S.reg]), rfl⟩

theorem ref_Least (n : Int) (w : World) :
    Calls Tryd.prog 16 #[.int .i64 n] w fun e w' => e = .returned (.int .i64 (S.least n)) ∧ w = w' := by
  go_enter Tryd.func16, Tryd.ntmps16
  go_wp2_with (go_at_call 12; refine (ref_Form _ _).mono ?_; rintro e w' ⟨rfl, rfl⟩)
  all_goals
    go_ret
    exact ⟨ret_int (by grind [S.least]), rfl⟩

theorem ref_Most (n : Int) (w : World) :
    Calls Tryd.prog 46 #[.int .i64 n] w fun e w' => e = .returned (.int .i64 (S.most n)) ∧ w = w' := by
  go_enter Tryd.func46, Tryd.ntmps46
  go_wp2_with (go_at_call 12; refine (ref_Form _ _).mono ?_; rintro e w' ⟨rfl, rfl⟩)
  all_goals
    go_ret
    exact ⟨ret_int (by grind [S.most]), rfl⟩

end Go.Proofs.YtjhchgbeglhoaaaDoor
