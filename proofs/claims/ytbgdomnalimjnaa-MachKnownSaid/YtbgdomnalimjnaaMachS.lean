/- Plain mathematics of layer 2 (a machine, its steps). No program in sight. -/
import Derived.Test.YtbgdomnalimjnaaDec
import Derived.Test.YtbgdomnalimjnaaBits
set_option linter.unusedVariables false
set_option linter.unusedSimpArgs false
set_option linter.unusedSectionVars false
namespace Go.Proofs.Ytbgdomnalimjnaa
open Go.RowKit
namespace S

/-- A machine: input is what was not read yet. -/
structure Mach where
  reg : List Int
  mem : List Int
  place : Int
  input : List Int
  out : List Int
  state : Int
  code : Int
  trap : Int
  steps : Int

def u32 (x : Int) : Int := x % 4294967296
def sgn (w : Int) : Int := if 2147483648 ≤ w then w - 4294967296 else w
def truth (p : Prop) [Decidable p] : Int := if p then 1 else 0

/-- What an operation from 1 to 14 makes of two words. -/
def alu (op a b : Int) : Int :=
  if op = 1 then u32 (a + b) else if op = 2 then u32 (a - b) else if op = 3 then u32 (a * b) else if op = 4 then a * b / 4294967296
  else if op = 5 then a / b else if op = 6 then a % b else if op = 7 then bits .and .u32 a b else if op = 8 then bits .or .u32 a b
  else if op = 9 then bits .xor .u32 a b else if op = 10 then u32 (a * 2 ^ (b % 32).toNat) else if op = 11 then a / 2 ^ (b % 32).toNat
  else if op = 12 then u32 (sgn a / 2 ^ (b % 32).toNat) else if op = 13 then truth (sgn a < sgn b) else truth (a < b)
/-- The operation of two registers that one with a number is like. -/
def like (op : Int) : Int := if op = 15 then 1 else op - 9
def goes (op a b : Int) : Bool :=
  if op = 26 then decide (a = b) else if op = 27 then decide (a ≠ b) else if op = 28 then decide (sgn a < sgn b) else if op = 29 then decide (sgn b ≤ sgn a)
  else if op = 30 then decide (a < b) else decide (b ≤ a)

namespace Mach
def put (m : Mach) (d v : Int) : Mach := if d = 0 then m else { m with reg := m.reg.set d.toNat v }
def fell (m : Mach) (t : Int) : Mach := { m with state := 2, trap := t }
def rd (m : Mach) (i : Int) : Int := m.reg.getD i.toNat 0
/-- What an instruction that is one does: a trap, or the machine and its next place. -/
def act (m : Mach) (i : Inst) : Mach × Int × Int :=
  let a := m.rd i.a
  let b := m.rd i.b
  let imm := u32 i.imm
  let next := u32 (m.place + 1)
  let at_ := u32 (a + imm)
  if i.op ≤ 14 then (if b = 0 ∧ (i.op = 5 ∨ i.op = 6) then (m, 0, 4) else (m.put i.d (alu i.op a b), next, 0))
  else if i.op ≤ 22 then (m.put i.d (alu (like i.op) a imm), next, 0)
  else if i.op = 23 then (m.put i.d (u32 (imm * 65536)), next, 0)
  else if i.op = 24 then (if at_ < m.mem.length then (m.put i.d (m.mem.getD at_.toNat 0), next, 0) else (m, 0, 2))
  else if i.op = 25 then (if at_ < m.mem.length then ({ m with mem := m.mem.set at_.toNat b }, next, 0) else (m, 0, 2))
  else if i.op ≤ 31 then (m, if goes i.op a b = true then u32 (next + imm) else next, 0)
  else if i.op = 32 then (m.put i.d next, u32 (next + imm), 0)
  else if i.op = 33 then (m.put i.d next, at_, 0)
  else if i.op = 34 then
    match m.input with
    | [] => (m.put i.d 4294967295, next, 0)
    | x :: r => (({ m with input := r } : Mach).put i.d x, next, 0)
  else if i.op = 35 then ({ m with out := m.out ++ [a % 256] }, next, 0)
  else ({ m with state := 1, code := a }, m.place, 0)
def step (m : Mach) : Mach :=
  if m.state ≠ 0 then m
  else if (m.mem.length : Int) ≤ m.place then m.fell 3
  else if decE (m.mem.getD m.place.toNat 0) ≠ 0 then m.fell 1
  else if (m.act (dec (m.mem.getD m.place.toNat 0))).2.2 ≠ 0 then m.fell (m.act (dec (m.mem.getD m.place.toNat 0))).2.2
  else { (m.act (dec (m.mem.getD m.place.toNat 0))).1 with place := (m.act (dec (m.mem.getD m.place.toNat 0))).2.1, steps := m.steps + 1 }
def steps_ (m : Mach) : Nat → Mach
  | 0 => m
  | n + 1 => (steps_ m n).step
/-- What holds of a machine that was made and has gone some steps. -/
structure Ok (m : Mach) : Prop where
  regs : m.reg.length = 32
  word : ∀ i, 0 ≤ m.reg.getD i 0 ∧ m.reg.getD i 0 ≤ 4294967295
  zero : m.reg.getD 0 0 = 0
  mem : 0 < m.mem.length
  memw : ∀ i, 0 ≤ m.mem.getD i 0 ∧ m.mem.getD i 0 ≤ 4294967295
  place0 : 0 ≤ m.place
  place1 : m.place ≤ 4294967295
  inp : ∀ x ∈ m.input, 0 ≤ x ∧ x ≤ 255
  outp : ∀ x ∈ m.out, 0 ≤ x ∧ x ≤ 255
  code0 : 0 ≤ m.code
  code1 : m.code ≤ 4294967295
end Mach
end S

end Go.Proofs.Ytbgdomnalimjnaa
