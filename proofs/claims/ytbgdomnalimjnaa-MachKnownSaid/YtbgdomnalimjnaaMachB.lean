/- Plain: words bit by bit. No program in sight. -/
import Derived.Test.YtbgdomnalimjnaaMachS
set_option linter.unusedVariables false
set_option linter.unusedSimpArgs false
set_option linter.unusedSectionVars false
namespace Go.Proofs.Ytbgdomnalimjnaa
open Go.RowKit

theorem ofInt_toNat {a : Int} (h0 : 0 ≤ a) (h1 : a ≤ 4294967295) : (BitVec.ofInt 32 a).toNat = a.toNat := by
  rw [BitVec.toNat_ofInt]
  omega
theorem u32_and {a b : Int} (a0 : 0 ≤ a) (a1 : a ≤ 4294967295) (b0 : 0 ≤ b) (b1 : b ≤ 4294967295) : bits .and .u32 a b = ((a.toNat &&& b.toNat : Nat) : Int) := by
  show IntKind.u32.wrap ((BitVec.ofInt 32 a &&& BitVec.ofInt 32 b).toNat : Int) = _
  rw [BitVec.toNat_and, ofInt_toNat a0 a1, ofInt_toNat b0 b1]
  exact wraps_u32 _ (by omega) (by have := Nat.and_lt_two_pow a.toNat (show b.toNat < 2 ^ 32 by omega); omega)
theorem u32_or {a b : Int} (a0 : 0 ≤ a) (a1 : a ≤ 4294967295) (b0 : 0 ≤ b) (b1 : b ≤ 4294967295) : bits .or .u32 a b = ((a.toNat ||| b.toNat : Nat) : Int) := by
  show IntKind.u32.wrap ((BitVec.ofInt 32 a ||| BitVec.ofInt 32 b).toNat : Int) = _
  rw [BitVec.toNat_or, ofInt_toNat a0 a1, ofInt_toNat b0 b1]
  exact wraps_u32 _ (by omega) (by have := Nat.or_lt_two_pow (show a.toNat < 2 ^ 32 by omega) (show b.toNat < 2 ^ 32 by omega); omega)
theorem u32_xor {a b : Int} (a0 : 0 ≤ a) (a1 : a ≤ 4294967295) (b0 : 0 ≤ b) (b1 : b ≤ 4294967295) : bits .xor .u32 a b = ((a.toNat ^^^ b.toNat : Nat) : Int) := by
  show IntKind.u32.wrap ((BitVec.ofInt 32 a ^^^ BitVec.ofInt 32 b).toNat : Int) = _
  rw [BitVec.toNat_xor, ofInt_toNat a0 a1, ofInt_toNat b0 b1]
  exact wraps_u32 _ (by omega) (by have := Nat.xor_lt_two_pow (show a.toNat < 2 ^ 32 by omega) (show b.toNat < 2 ^ 32 by omega); omega)

theorem bit_of (x i : Nat) : x.testBit i = decide (x / 2 ^ i % 2 = 1) := by
  rw [Nat.testBit_eq_decide_div_mod_eq]
/-- A bit of a number, and what is above it. -/
theorem bit_up (x i : Nat) : x / 2 ^ i = 2 * (x / 2 ^ (i + 1)) + if x.testBit i then 1 else 0 := by
  rw [bit_of, Nat.pow_succ, ← Nat.div_div_eq_div_mul]
  have h := Nat.div_add_mod (x / 2 ^ i) 2
  by_cases c : x / 2 ^ i % 2 = 1 <;> simp [c] <;> omega

theorem and_up (a b i : Nat) : (a &&& b) / 2 ^ i = 2 * ((a &&& b) / 2 ^ (i + 1)) + if a.testBit i && b.testBit i then 1 else 0 := by
  rw [bit_up (a &&& b) i, Nat.testBit_and]
theorem or_up (a b i : Nat) : (a ||| b) / 2 ^ i = 2 * ((a ||| b) / 2 ^ (i + 1)) + if a.testBit i || b.testBit i then 1 else 0 := by
  rw [bit_up (a ||| b) i, Nat.testBit_or]
theorem xor_up (a b i : Nat) : (a ^^^ b) / 2 ^ i = 2 * ((a ^^^ b) / 2 ^ (i + 1)) + if a.testBit i ^^ b.testBit i then 1 else 0 := by
  rw [bit_up (a ^^^ b) i, Nat.testBit_xor]
/-- A word as a number in two's complement. -/
theorem sgn_wrap {a : Int} (a0 : 0 ≤ a) (a1 : a ≤ 4294967295) : IntKind.i32.wrap a = S.sgn a := by
  unfold S.sgn
  rw [IntKind.wrap_i32]
  split <;> omega
theorem u32_wrap (x : Int) : IntKind.u32.wrap x = S.u32 x := by
  unfold S.u32
  rw [IntKind.wrap_u32]
theorem u32_bd (x : Int) : 0 ≤ S.u32 x ∧ S.u32 x ≤ 4294967295 := by unfold S.u32; omega
theorem u32_same {x : Int} (h0 : 0 ≤ x) (h1 : x ≤ 4294967295) : S.u32 x = x := by unfold S.u32; omega
theorem sgn_bd {a : Int} (a0 : 0 ≤ a) (a1 : a ≤ 4294967295) : -2147483648 ≤ S.sgn a ∧ S.sgn a ≤ 2147483647 := by unfold S.sgn; split <;> omega

end Go.Proofs.Ytbgdomnalimjnaa
