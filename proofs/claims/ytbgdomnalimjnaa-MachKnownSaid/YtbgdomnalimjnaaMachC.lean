/- Walk of pennantref02.both. -/
import Derived.Test.YtbgdomnalimjnaaMachR
set_option linter.unusedVariables false
set_option linter.unusedSimpArgs false
set_option linter.unusedSectionVars false
namespace Go.Proofs.Ytbgdomnalimjnaa
open Go.RowKit

theorem bit_int (x : Nat) (j : Nat) : ((x : Int) / 2 ^ j % 2 == 1) = x.testBit j := by
  rw [bit_of, Bool.eq_iff_iff]
  have e : (x : Int) / 2 ^ j % 2 = ((x / 2 ^ j % 2 : Nat) : Int) := by push_cast; rfl
  rw [e]
  simp
  omega

set_option maxHeartbeats 1000000 in
theorem ref2_and (x y : Nat) (w : World) (hx : x < 4294967296) (hy : y < 4294967296) :
    Calls Try.prog 109 #[.string ⟨#[97, 110, 100]⟩, .int .u32 x, .int .u32 y] w fun e w' => e = .returned (.int .u32 ((x &&& y : Nat) : Int)) ∧ w = w' := by
  have hR : x &&& y < 4294967296 := Nat.and_lt_two_pow x (show y < 2 ^ 32 by omega)
  go_enter Try.func109, Try.ntmps109
  go_wp2_with fail
  go_loop [7, 8] (fun o i => ∃ k : Nat, k ≤ 32 ∧ i = .int .i64 ((k : Int) - 1) ∧ o = .int .u32 (((x &&& y) / 2 ^ k : Nat) : Int)) (fun _ i => (intOf i + 1).toNat)
  case atStart =>
    refine ⟨32, by omega, rfl, ?_⟩
    rw [Nat.div_eq_of_lt (by omega)]
    rfl
  case round =>
    obtain ⟨k, hk, rfl, rfl⟩ := hrel
    cases k with
    | zero =>
      go_wp2_with fail
      go_ret
      exact ⟨by simp, rfl⟩
    | succ j =>
      have ej : ((j + 1 : Nat) : Int) - 1 = j := by omega
      rw [ej]
      have hu := Lib.hid (and_up x y j)
      have hmx := u32_mask 1 ((x : Int) / 2 ^ j) 2 1 rfl rfl (by omega) (Int.ediv_nonneg (by omega) (Int.le_of_lt (Int.pow_pos (by omega)))) (by have := Int.ediv_le_self (2 ^ j) (show (0 : Int) ≤ x by omega); omega)
      have hmy := u32_mask 1 ((y : Int) / 2 ^ j) 2 1 rfl rfl (by omega) (Int.ediv_nonneg (by omega) (Int.le_of_lt (Int.pow_pos (by omega)))) (by have := Int.ediv_le_self (2 ^ j) (show (0 : Int) ≤ y by omega); omega)
      have hbx := bit_int x j
      have hby := bit_int y j
      have ho : (x &&& y) / 2 ^ (j + 1) ≤ 2147483647 := by
        have h2 : 2 ^ 1 ≤ 2 ^ (j + 1) := Nat.pow_le_pow_right (by omega) (by omega)
        have := Nat.div_le_div_left h2 (by omega) (a := x &&& y)
        omega
      generalize (x &&& y) / 2 ^ (j + 1) = o at *
      clear hR
      rcases Bool.eq_false_or_eq_true (x.testBit j) with tx | tx
      all_goals
        rcases Bool.eq_false_or_eq_true (y.testBit j) with ty | ty
        all_goals
          rw [tx] at hbx
          rw [ty] at hby
          have Hu := hu.out
          rw [tx, ty] at Hu
          have HU := Lib.hid Hu
          clear Hu tx ty hu
          go_wp2_with fail
          exact ⟨⟨j, by omega, rfl, by rw [HU.out]; simp⟩, by simp [intOf] <;> omega⟩

set_option maxHeartbeats 1000000 in
theorem ref2_or (x y : Nat) (w : World) (hx : x < 4294967296) (hy : y < 4294967296) :
    Calls Try.prog 109 #[.string ⟨#[111, 114]⟩, .int .u32 x, .int .u32 y] w fun e w' => e = .returned (.int .u32 ((x ||| y : Nat) : Int)) ∧ w = w' := by
  have hR : x ||| y < 4294967296 := Nat.or_lt_two_pow (show x < 2 ^ 32 by omega) (show y < 2 ^ 32 by omega)
  go_enter Try.func109, Try.ntmps109
  go_wp2_with fail
  go_loop [7, 8] (fun o i => ∃ k : Nat, k ≤ 32 ∧ i = .int .i64 ((k : Int) - 1) ∧ o = .int .u32 (((x ||| y) / 2 ^ k : Nat) : Int)) (fun _ i => (intOf i + 1).toNat)
  case atStart =>
    refine ⟨32, by omega, rfl, ?_⟩
    rw [Nat.div_eq_of_lt (by omega)]
    rfl
  case round =>
    obtain ⟨k, hk, rfl, rfl⟩ := hrel
    cases k with
    | zero =>
      go_wp2_with fail
      go_ret
      exact ⟨by simp, rfl⟩
    | succ j =>
      have ej : ((j + 1 : Nat) : Int) - 1 = j := by omega
      rw [ej]
      have hu := Lib.hid (or_up x y j)
      have hmx := u32_mask 1 ((x : Int) / 2 ^ j) 2 1 rfl rfl (by omega) (Int.ediv_nonneg (by omega) (Int.le_of_lt (Int.pow_pos (by omega)))) (by have := Int.ediv_le_self (2 ^ j) (show (0 : Int) ≤ x by omega); omega)
      have hmy := u32_mask 1 ((y : Int) / 2 ^ j) 2 1 rfl rfl (by omega) (Int.ediv_nonneg (by omega) (Int.le_of_lt (Int.pow_pos (by omega)))) (by have := Int.ediv_le_self (2 ^ j) (show (0 : Int) ≤ y by omega); omega)
      have hbx := bit_int x j
      have hby := bit_int y j
      have ho : (x ||| y) / 2 ^ (j + 1) ≤ 2147483647 := by
        have h2 : 2 ^ 1 ≤ 2 ^ (j + 1) := Nat.pow_le_pow_right (by omega) (by omega)
        have := Nat.div_le_div_left h2 (by omega) (a := x ||| y)
        omega
      generalize (x ||| y) / 2 ^ (j + 1) = o at *
      clear hR
      rcases Bool.eq_false_or_eq_true (x.testBit j) with tx | tx
      all_goals
        rcases Bool.eq_false_or_eq_true (y.testBit j) with ty | ty
        all_goals
          rw [tx] at hbx
          rw [ty] at hby
          have Hu := hu.out
          rw [tx, ty] at Hu
          have HU := Lib.hid Hu
          clear Hu tx ty hu
          go_wp2_with fail
          exact ⟨⟨j, by omega, rfl, by rw [HU.out]; simp⟩, by simp [intOf] <;> omega⟩

set_option maxHeartbeats 1000000 in
theorem ref2_xor (x y : Nat) (w : World) (hx : x < 4294967296) (hy : y < 4294967296) :
    Calls Try.prog 109 #[.string ⟨#[120, 111, 114]⟩, .int .u32 x, .int .u32 y] w fun e w' => e = .returned (.int .u32 ((x ^^^ y : Nat) : Int)) ∧ w = w' := by
  have hR : x ^^^ y < 4294967296 := Nat.xor_lt_two_pow (show x < 2 ^ 32 by omega) (show y < 2 ^ 32 by omega)
  go_enter Try.func109, Try.ntmps109
  go_wp2_with fail
  go_loop [7, 8] (fun o i => ∃ k : Nat, k ≤ 32 ∧ i = .int .i64 ((k : Int) - 1) ∧ o = .int .u32 (((x ^^^ y) / 2 ^ k : Nat) : Int)) (fun _ i => (intOf i + 1).toNat)
  case atStart =>
    refine ⟨32, by omega, rfl, ?_⟩
    rw [Nat.div_eq_of_lt (by omega)]
    rfl
  case round =>
    obtain ⟨k, hk, rfl, rfl⟩ := hrel
    cases k with
    | zero =>
      go_wp2_with fail
      go_ret
      exact ⟨by simp, rfl⟩
    | succ j =>
      have ej : ((j + 1 : Nat) : Int) - 1 = j := by omega
      rw [ej]
      have hu := Lib.hid (xor_up x y j)
      have hmx := u32_mask 1 ((x : Int) / 2 ^ j) 2 1 rfl rfl (by omega) (Int.ediv_nonneg (by omega) (Int.le_of_lt (Int.pow_pos (by omega)))) (by have := Int.ediv_le_self (2 ^ j) (show (0 : Int) ≤ x by omega); omega)
      have hmy := u32_mask 1 ((y : Int) / 2 ^ j) 2 1 rfl rfl (by omega) (Int.ediv_nonneg (by omega) (Int.le_of_lt (Int.pow_pos (by omega)))) (by have := Int.ediv_le_self (2 ^ j) (show (0 : Int) ≤ y by omega); omega)
      have hbx := bit_int x j
      have hby := bit_int y j
      have ho : (x ^^^ y) / 2 ^ (j + 1) ≤ 2147483647 := by
        have h2 : 2 ^ 1 ≤ 2 ^ (j + 1) := Nat.pow_le_pow_right (by omega) (by omega)
        have := Nat.div_le_div_left h2 (by omega) (a := x ^^^ y)
        omega
      generalize (x ^^^ y) / 2 ^ (j + 1) = o at *
      clear hR
      rcases Bool.eq_false_or_eq_true (x.testBit j) with tx | tx
      all_goals
        rcases Bool.eq_false_or_eq_true (y.testBit j) with ty | ty
        all_goals
          rw [tx] at hbx
          rw [ty] at hby
          have Hu := hu.out
          rw [tx, ty] at Hu
          have HU := Lib.hid Hu
          clear Hu tx ty hu
          go_wp2_with fail
          exact ⟨⟨j, by omega, rfl, by rw [HU.out]; simp⟩, by simp [intOf] <;> omega⟩

end Go.Proofs.Ytbgdomnalimjnaa
