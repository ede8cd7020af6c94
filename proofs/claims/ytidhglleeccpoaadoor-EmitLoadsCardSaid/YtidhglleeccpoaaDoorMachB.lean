/- MachS, MachB: joined.  Plain: words bit by bit. No program in sight. -/
import Derived.Test.YtidhglleeccpoaaDoorDec
import Derived.Test.YtidhglleeccpoaaDoorLay
section
set_option linter.unusedVariables false
set_option linter.unusedSimpArgs false
set_option linter.unusedSectionVars false
namespace Go.Proofs.YtidhglleeccpoaaDoor
open Go.RowKit
namespace S

/-- A machine: input is what was not read yet. -/
structure Mach where
  reg : List Int
  mem : List Int
  place : Int
  input : List Int
  out : List Int
  state : Int
  code : Int
  trap : Int
  steps : Int

def u32m (x : Int) : Int := x % 4294967296
def sgn (w : Int) : Int := if 2147483648 ≤ w then w - 4294967296 else w
def truth (p : Prop) [Decidable p] : Int := if p then 1 else 0

/-- What an operation from 1 to 14 makes of two words. -/
def alu (op a b : Int) : Int :=
  if op = 1 then u32m (a + b) else if op = 2 then u32m (a - b) else if op = 3 then u32m (a * b) else if op = 4 then a * b / 4294967296
  else if op = 5 then a / b else if op = 6 then a % b else if op = 7 then bits .and .u32 a b else if op = 8 then bits .or .u32 a b
  else if op = 9 then bits .xor .u32 a b else if op = 10 then u32m (a * 2 ^ (b % 32).toNat) else if op = 11 then a / 2 ^ (b % 32).toNat
  else if op = 12 then u32m (sgn a / 2 ^ (b % 32).toNat) else if op = 13 then truth (sgn a < sgn b) else truth (a < b)
/-- The operation of two registers that one with a number is like. -/
def like (op : Int) : Int := if op = 15 then 1 else op - 9
def goes (op a b : Int) : Bool :=
  if op = 26 then decide (a = b) else if op = 27 then decide (a ≠ b) else if op = 28 then decide (sgn a < sgn b) else if op = 29 then decide (sgn b ≤ sgn a)
  else if op = 30 then decide (a < b) else decide (b ≤ a)

namespace Mach
def put (m : Mach) (d v : Int) : Mach := if d = 0 then m else { m with reg := m.reg.set d.toNat v }
def fell (m : Mach) (t : Int) : Mach := { m with state := 2, trap := t }
def rd (m : Mach) (i : Int) : Int := m.reg.getD i.toNat 0
/-- What an instruction that is one does: a trap, or the machine and its next place. -/
def act (m : Mach) (i : Inst) : Mach × Int × Int :=
  let a := m.rd i.a
  let b := m.rd i.b
  let imm := u32m i.imm
  let next := u32m (m.place + 1)
  let at_ := u32m (a + imm)
  if i.op ≤ 14 then (if b = 0 ∧ (i.op = 5 ∨ i.op = 6) then (m, 0, 4) else (m.put i.d (alu i.op a b), next, 0))
  else if i.op ≤ 22 then (m.put i.d (alu (like i.op) a imm), next, 0)
  else if i.op = 23 then (m.put i.d (u32m (imm * 65536)), next, 0)
  else if i.op = 24 then (if at_ < m.mem.length then (m.put i.d (m.mem.getD at_.toNat 0), next, 0) else (m, 0, 2))
  else if i.op = 25 then (if at_ < m.mem.length then ({ m with mem := m.mem.set at_.toNat b }, next, 0) else (m, 0, 2))
  else if i.op ≤ 31 then (m, if goes i.op a b = true then u32m (next + imm) else next, 0)
  else if i.op = 32 then (m.put i.d next, u32m (next + imm), 0)
  else if i.op = 33 then (m.put i.d next, at_, 0)
  else if i.op = 34 then
    match m.input with
    | [] => (m.put i.d 4294967295, next, 0)
    | x :: r => (({ m with input := r } : Mach).put i.d x, next, 0)
  else if i.op = 35 then ({ m with out := m.out ++ [a % 256] }, next, 0)
  else ({ m with state := 1, code := a }, m.place, 0)
def step (m : Mach) : Mach :=
  if m.state ≠ 0 then m
  else if (m.mem.length : Int) ≤ m.place then m.fell 3
  else if decE (m.mem.getD m.place.toNat 0) ≠ 0 then m.fell 1
  else if (m.act (dec (m.mem.getD m.place.toNat 0))).2.2 ≠ 0 then m.fell (m.act (dec (m.mem.getD m.place.toNat 0))).2.2
  else { (m.act (dec (m.mem.getD m.place.toNat 0))).1 with place := (m.act (dec (m.mem.getD m.place.toNat 0))).2.1, steps := m.steps + 1 }
def steps_ (m : Mach) : Nat → Mach
  | 0 => m
  | n + 1 => (steps_ m n).step
/-- What holds of a machine that was made and has gone some steps. -/
structure Ok (m : Mach) : Prop where
  regs : m.reg.length = 32
  word : ∀ i, 0 ≤ m.reg.getD i 0 ∧ m.reg.getD i 0 ≤ 4294967295
  zero : m.reg.getD 0 0 = 0
  mem : 0 < m.mem.length
  memw : ∀ i, 0 ≤ m.mem.getD i 0 ∧ m.mem.getD i 0 ≤ 4294967295
  place0 : 0 ≤ m.place
  place1 : m.place ≤ 4294967295
  inp : ∀ x ∈ m.input, 0 ≤ x ∧ x ≤ 255
  outp : ∀ x ∈ m.out, 0 ≤ x ∧ x ≤ 255
  code0 : 0 ≤ m.code
  code1 : m.code ≤ 4294967295
end Mach
end S

end Go.Proofs.YtidhglleeccpoaaDoor
end

section
set_option linter.unusedVariables false
set_option linter.unusedSimpArgs false
set_option linter.unusedSectionVars false
namespace Go.Proofs.YtidhglleeccpoaaDoor
open Go.RowKit

theorem ofInt_toNat {a : Int} (h0 : 0 ≤ a) (h1 : a ≤ 4294967295) : (BitVec.ofInt 32 a).toNat = a.toNat := by
  rw [BitVec.toNat_ofInt]
  omega
theorem u32_and {a b : Int} (a0 : 0 ≤ a) (a1 : a ≤ 4294967295) (b0 : 0 ≤ b) (b1 : b ≤ 4294967295) : bits .and .u32 a b = ((a.toNat &&& b.toNat : Nat) : Int) := by
  show IntKind.u32.wrap ((BitVec.ofInt 32 a &&& BitVec.ofInt 32 b).toNat : Int) = _
  rw [BitVec.toNat_and, ofInt_toNat a0 a1, ofInt_toNat b0 b1]
  exact wraps_u32 _ (by omega) (by have := Nat.and_lt_two_pow a.toNat (show b.toNat < 2 ^ 32 by omega); omega)
theorem u32_or {a b : Int} (a0 : 0 ≤ a) (a1 : a ≤ 4294967295) (b0 : 0 ≤ b) (b1 : b ≤ 4294967295) : bits .or .u32 a b = ((a.toNat ||| b.toNat : Nat) : Int) := by
  show IntKind.u32.wrap ((BitVec.ofInt 32 a ||| BitVec.ofInt 32 b).toNat : Int) = _
  rw [BitVec.toNat_or, ofInt_toNat a0 a1, ofInt_toNat b0 b1]
  exact wraps_u32 _ (by omega) (by have := Nat.or_lt_two_pow (show a.toNat < 2 ^ 32 by omega) (show b.toNat < 2 ^ 32 by omega); omega)
theorem u32_xor {a b : Int} (a0 : 0 ≤ a) (a1 : a ≤ 4294967295) (b0 : 0 ≤ b) (b1 : b ≤ 4294967295) : bits .xor .u32 a b = ((a.toNat ^^^ b.toNat : Nat) : Int) := by
  show IntKind.u32.wrap ((BitVec.ofInt 32 a ^^^ BitVec.ofInt 32 b).toNat : Int) = _
  rw [BitVec.toNat_xor, ofInt_toNat a0 a1, ofInt_toNat b0 b1]
  exact wraps_u32 _ (by omega) (by have := Nat.xor_lt_two_pow (show a.toNat < 2 ^ 32 by omega) (show b.toNat < 2 ^ 32 by omega); omega)

theorem bit_of (x i : Nat) : x.testBit i = decide (x / 2 ^ i % 2 = 1) := by
  rw [Nat.testBit_eq_decide_div_mod_eq]
/-- A bit of a number, and what is above it. -/
theorem bit_up (x i : Nat) : x / 2 ^ i = 2 * (x / 2 ^ (i + 1)) + if x.testBit i then 1 else 0 := by
  rw [bit_of, Nat.pow_succ, ← Nat.div_div_eq_div_mul]
  have h := Nat.div_add_mod (x / 2 ^ i) 2
  by_cases c : x / 2 ^ i % 2 = 1 <;> simp [c] <;> omega

theorem and_up (a b i : Nat) : (a &&& b) / 2 ^ i = 2 * ((a &&& b) / 2 ^ (i + 1)) + if a.testBit i && b.testBit i then 1 else 0 := by
  rw [bit_up (a &&& b) i, Nat.testBit_and]
theorem or_up (a b i : Nat) : (a ||| b) / 2 ^ i = 2 * ((a ||| b) / 2 ^ (i + 1)) + if a.testBit i || b.testBit i then 1 else 0 := by
  rw [bit_up (a ||| b) i, Nat.testBit_or]
theorem xor_up (a b i : Nat) : (a ^^^ b) / 2 ^ i = 2 * ((a ^^^ b) / 2 ^ (i + 1)) + if a.testBit i ^^ b.testBit i then 1 else 0 := by
  rw [bit_up (a ^^^ b) i, Nat.testBit_xor]
/-- A word as a number in two's complement. -/
theorem sgn_wrap {a : Int} (a0 : 0 ≤ a) (a1 : a ≤ 4294967295) : IntKind.i32.wrap a = S.sgn a := by
  unfold S.sgn
  rw [IntKind.wrap_i32]
  split <;> omega
theorem u32_wrap (x : Int) : IntKind.u32.wrap x = S.u32m x := by
  unfold S.u32m
  rw [IntKind.wrap_u32]
theorem u32_bd (x : Int) : 0 ≤ S.u32m x ∧ S.u32m x ≤ 4294967295 := by unfold S.u32m; omega
theorem u32_same {x : Int} (h0 : 0 ≤ x) (h1 : x ≤ 4294967295) : S.u32m x = x := by unfold S.u32m; omega
theorem sgn_bd {a : Int} (a0 : 0 ≤ a) (a1 : a ≤ 4294967295) : -2147483648 ≤ S.sgn a ∧ S.sgn a ≤ 2147483647 := by unfold S.sgn; split <;> omega

end Go.Proofs.YtidhglleeccpoaaDoor
end
