/- Walks of the functions of mach that only reckon. -/
import Derived.Test.YtbgdomnalimjnaaMachB
import Derived.Test.YtbgdomnalimjnaaOwn
import Derived.Test.YtbgdomnalimjnaaProg
set_option linter.unusedVariables false
set_option linter.unusedSimpArgs false
set_option linter.unusedSectionVars false
namespace Go.Proofs.Ytbgdomnalimjnaa
open Go.RowKit

theorem mach_wide (n : Int) (w : World) : Calls Try.prog 69 #[.int .i64 n] w fun e w' => e = .returned (.int .u32 (S.u32 n)) ∧ w = w' := by
  go_enter Try.func69, Try.ntmps69
  go_wp2
  go_ret
  refine ⟨ret_int ?_, rfl⟩
  simp only [S.u32, wrap32]
  omega
def tv (b : Bool) : Int := if b = true then 1 else 0
theorem tv_truth (p : Prop) [Decidable p] : tv (decide p) = S.truth p := by simp [tv, S.truth]
theorem mach_truth (b : Bool) (w : World) : Calls Try.prog 105 #[.bool b] w fun e w' => e = .returned (.int .u32 (tv b)) ∧ w = w' := by
  cases b
  all_goals
    go_enter Try.func105, Try.ntmps105
    go_wp2
    go_ret
    exact ⟨rfl, rfl⟩
theorem mach_goes (op a b : Int) (w : World) (a0 : 0 ≤ a) (a1 : a ≤ 4294967295) (b0 : 0 ≤ b) (b1 : b ≤ 4294967295) :
    Calls Try.prog 71 #[.int .i64 op, .int .u32 a, .int .u32 b] w fun e w' => e = .returned (.bool (S.goes op a b)) ∧ w = w' := by
  have ha := sgn_wrap a0 a1
  have hb := sgn_wrap b0 b1
  go_enter Try.func71, Try.ntmps71
  go_wp2
  all_goals
    go_ret
    refine ⟨ret_bool ?_, rfl⟩
    first
      | grind [S.goes]
      | simp_all [S.goes]

theorem bits_Mul32 (a b : Int) (w : World) (a0 : 0 ≤ a) (a1 : a ≤ 4294967295) (b0 : 0 ≤ b) (b1 : b ≤ 4294967295) :
    Calls Try.prog 104 #[.int .u32 a, .int .u32 b] w fun e w' => e = .returned (.tuple #[.int .u32 (a * b / 4294967296), .int .u32 (S.u32 (a * b))]) ∧ w = w' := by
  have m0 : 0 ≤ a * b := Int.mul_nonneg a0 b0
  have m1 : a * b ≤ 4294967295 * 4294967295 := Int.mul_le_mul a1 b1 b0 (by omega)
  go_enter Try.func104, Try.ntmps104
  go_wp2_with fail
  go_ret2
  exact ⟨by simp [S.u32], rfl⟩

theorem reck_1 (op a b : Int) (w : World) (a0 : 0 ≤ a) (a1 : a ≤ 4294967295) (b0 : 0 ≤ b) (b1 : b ≤ 4294967295) (ho : 1 ≤ op ∧ op ≤ 14) (hz : ¬ (b = 0 ∧ (op = 5 ∨ op = 6))) :
    Calls Try.prog 68 #[.int .i64 op, .int .u32 a, .int .u32 b] w fun e w' => e = .returned (.tuple #[.int .u32 (S.alu op a b), .bool true]) ∧ w = w' := by
  have hc : op = 5 ∨ op = 6 ∨ op = 4 ∨ op = 13 ∨ op = 14 ∨ op = 1 ∨ op = 2 ∨ op = 3 ∨ op = 7 ∨ op = 8 ∨ op = 9 ∨ op = 10 ∨ op = 11 ∨ op = 12 := by omega
  have ha := sgn_wrap a0 a1
  have hb := sgn_wrap b0 b1
  have hsh := u32_mask 5 b 32 31 rfl rfl (by omega) b0 (by omega)
  have hs0 : 0 ≤ b % 32 := by omega
  have hs1 : b % 32 ≤ 31 := by omega
  have Hz := Lib.hid hz
  clear hz ho
  rcases hc with rfl | rfl | rfl | rfl | rfl | rfl | rfl | rfl | rfl | rfl | rfl | rfl | rfl | rfl
  · have hbz : ¬ b = 0 := by have := Hz.out; omega
    have hbn : (b == 0) = false := by simpa using hbz
    have hb1' : 1 ≤ b := by omega
    have q0 : 0 ≤ a / b := Int.ediv_nonneg a0 b0
    have q1 : a / b ≤ 4294967295 := by
      have := Int.ediv_le_self b a0
      omega
    go_enter Try.func68, Try.ntmps68
    go_wp2_with fail
    go_ret2
    exact ⟨by simp [S.alu], rfl⟩
  · have hbz : ¬ b = 0 := by have := Hz.out; omega
    have hbn : (b == 0) = false := by simpa using hbz
    have hb1' : 1 ≤ b := by omega
    go_enter Try.func68, Try.ntmps68
    go_wp2_with fail
    go_ret2
    exact ⟨by simp [S.alu], rfl⟩
  · go_enter Try.func68, Try.ntmps68
    go_wp2_with fail
    refine (bits_Mul32 _ _ _ a0 a1 b0 b1).mono ?_
    rintro e w' ⟨rfl, rfl⟩
    go_wp2_with fail
    go_ret2
    exact ⟨by simp [S.alu], rfl⟩
  · go_enter Try.func68, Try.ntmps68
    go_wp2_with fail
    refine (mach_truth _ _).mono ?_
    rintro e w' ⟨rfl, rfl⟩
    go_wp2_with fail
    go_ret2
    exact ⟨by simp [S.alu, tv_truth], rfl⟩
  · go_enter Try.func68, Try.ntmps68
    go_wp2_with fail
    refine (mach_truth _ _).mono ?_
    rintro e w' ⟨rfl, rfl⟩
    go_wp2_with fail
    go_ret2
    exact ⟨by simp [S.alu, tv_truth], rfl⟩
  all_goals
    go_enter Try.func68, Try.ntmps68
    go_wp2_with fail
    go_ret2
    exact ⟨by simp [S.alu, S.u32], rfl⟩

theorem reck_0 (op a : Int) (w : World) (ho : op = 5 ∨ op = 6) :
    Calls Try.prog 68 #[.int .i64 op, .int .u32 a, .int .u32 0] w fun e w' => e = .returned (.tuple #[.int .u32 0, .bool false]) ∧ w = w' := by
  rcases ho with rfl | rfl
  all_goals
    go_enter Try.func68, Try.ntmps68
    go_wp2_with fail
    go_ret2
    exact ⟨rfl, rfl⟩
theorem reck_2 (op a b : Int) (w : World) (a0 : 0 ≤ a) (a1 : a ≤ 4294967295) (b0 : 0 ≤ b) (b1 : b ≤ 4294967295) (ho : 15 ≤ op ∧ op ≤ 22) :
    Calls Try.prog 68 #[.int .i64 op, .int .u32 a, .int .u32 b] w fun e w' => e = .returned (.tuple #[.int .u32 (S.alu (S.like op) a b), .bool true]) ∧ w = w' := by
  have hc : op = 22 ∨ op = 15 ∨ op = 16 ∨ op = 17 ∨ op = 18 ∨ op = 19 ∨ op = 20 ∨ op = 21 := by omega
  have ha := sgn_wrap a0 a1
  have hb := sgn_wrap b0 b1
  have hsh := u32_mask 5 b 32 31 rfl rfl (by omega) b0 (by omega)
  have hs0 : 0 ≤ b % 32 := by omega
  have hs1 : b % 32 ≤ 31 := by omega
  clear ho
  rcases hc with rfl | rfl | rfl | rfl | rfl | rfl | rfl | rfl
  · go_enter Try.func68, Try.ntmps68
    go_wp2_with fail
    refine (mach_truth _ _).mono ?_
    rintro e w' ⟨rfl, rfl⟩
    go_wp2_with fail
    go_ret2
    exact ⟨by simp [S.alu, S.like, tv_truth], rfl⟩
  all_goals
    go_enter Try.func68, Try.ntmps68
    go_wp2_with fail
    go_ret2
    exact ⟨by simp [S.alu, S.like, S.u32], rfl⟩
theorem reck_3 (a b : Int) (w : World) (b0 : 0 ≤ b) (b1 : b ≤ 4294967295) :
    Calls Try.prog 68 #[.int .i64 23, .int .u32 a, .int .u32 b] w fun e w' => e = .returned (.tuple #[.int .u32 (S.u32 (b * 65536)), .bool true]) ∧ w = w' := by
  go_enter Try.func68, Try.ntmps68
  go_wp2_with fail
  go_ret2
  exact ⟨by simp [S.u32], rfl⟩

end Go.Proofs.Ytbgdomnalimjnaa
