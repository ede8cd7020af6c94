/- Plain mathematics of layer 1 (instructions as words). No program in sight. -/
import Derived.WalkKit
set_option linter.unusedVariables false
set_option linter.unusedSimpArgs false
set_option linter.unusedSectionVars false
namespace Go.Proofs.YtidhglleeccpoaaDoor
namespace S

structure Inst where
  op : Int
  d : Int
  a : Int
  b : Int
  imm : Int

def form (op : Int) : Int :=
  if 1 ≤ op ∧ op ≤ 14 then 1 else if op = 23 then 3 else if (15 ≤ op ∧ op ≤ 24) ∨ op = 33 then 2
  else if 25 ≤ op ∧ op ≤ 31 then 4 else if op = 32 then 5 else if op = 34 then 6 else if op = 35 ∨ op = 36 then 7 else 0

def least (op : Int) : Int :=
  if op = 32 then -1048576 else if (16 ≤ op ∧ op ≤ 21) ∨ op = 23 then 0
  else if form op = 2 ∨ form op = 4 then -32768 else 0

def most (op : Int) : Int :=
  if op = 32 then 1048575 else if (16 ≤ op ∧ op ≤ 18) ∨ op = 23 then 65535 else if 19 ≤ op ∧ op ≤ 21 then 31
  else if form op = 2 ∨ form op = 4 then 32767 else 0

def hasD (f : Int) : Bool := decide (f = 1 ∨ f = 2 ∨ f = 3 ∨ f = 5 ∨ f = 6)
def hasA (f : Int) : Bool := decide (f = 1 ∨ f = 2 ∨ f = 4 ∨ f = 7)
def hasB (f : Int) : Bool := decide (f = 1 ∨ f = 4)
def bitsOf (f : Int) : Int := if f = 5 then 21 else if 2 ≤ f ∧ f ≤ 4 then 16 else 0

def reg (is : Bool) (n : Int) : Bool := decide (n = 0 ∨ (is = true ∧ 0 ≤ n ∧ n ≤ 31))

def good (x : Inst) : Bool :=
  decide (form x.op ≠ 0) && reg (hasD (form x.op)) x.d && reg (hasA (form x.op)) x.a && reg (hasB (form x.op)) x.b &&
    decide (least x.op ≤ x.imm) && decide (x.imm ≤ most x.op)

/-- What isa.Check answers. -/
def chk (x : Inst) : Int := if good x = true then 0 else 11

/-- The word of an instruction that is good. -/
def enc (x : Inst) : Int :=
  if form x.op = 1 then x.op * 67108864 + x.d * 2097152 + x.a * 65536 + x.b * 2048
  else if form x.op = 2 then x.op * 67108864 + x.d * 2097152 + x.a * 65536 + x.imm % 65536
  else if form x.op = 3 then x.op * 67108864 + x.d * 2097152 + x.imm
  else if form x.op = 4 then x.op * 67108864 + x.a * 2097152 + x.b * 65536 + x.imm % 65536
  else if form x.op = 5 then x.op * 67108864 + x.d * 2097152 + x.imm % 2097152
  else if form x.op = 6 then x.op * 67108864 + x.d * 2097152
  else x.op * 67108864 + x.a * 2097152

def turned (op : Int) : Int := if op < 26 ∨ 31 < op then 0 else if op % 2 = 0 then op + 1 else op - 1

end S

theorem form_ways (op : Int) : (S.form op = 0 ∧ (op < 1 ∨ 36 < op)) ∨ (S.form op = 1 ∧ 1 ≤ op ∧ op ≤ 14) ∨ (S.form op = 2 ∧ ((15 ≤ op ∧ op ≤ 24 ∧ op ≠ 23) ∨ op = 33)) ∨ (S.form op = 3 ∧ op = 23) ∨
    (S.form op = 4 ∧ 25 ≤ op ∧ op ≤ 31) ∨ (S.form op = 5 ∧ op = 32) ∨ (S.form op = 6 ∧ op = 34) ∨ (S.form op = 7 ∧ (op = 35 ∨ op = 36)) := by
  grind [S.form]

theorem good_ways {op d a b imm : Int} (hg : S.good ⟨op, d, a, b, imm⟩ = true) : 1 ≤ op ∧ op ≤ 36 ∧ 0 ≤ d ∧ d ≤ 31 ∧ 0 ≤ a ∧ a ≤ 31 ∧ 0 ≤ b ∧ b ≤ 31 ∧
    ((S.form op = 1 ∧ S.hasD (S.form op) = true ∧ S.hasA (S.form op) = true ∧ S.hasB (S.form op) = true ∧ S.bitsOf (S.form op) = 0 ∧ 0 ≤ imm ∧ imm ≤ 0) ∨
     (S.form op = 2 ∧ S.hasD (S.form op) = true ∧ S.hasA (S.form op) = true ∧ S.hasB (S.form op) = false ∧ S.bitsOf (S.form op) = 16 ∧ -32768 ≤ imm ∧ imm ≤ 65535) ∨
     (S.form op = 3 ∧ S.hasD (S.form op) = true ∧ S.hasA (S.form op) = false ∧ S.hasB (S.form op) = false ∧ S.bitsOf (S.form op) = 16 ∧ 0 ≤ imm ∧ imm ≤ 65535) ∨
     (S.form op = 4 ∧ S.hasD (S.form op) = false ∧ S.hasA (S.form op) = true ∧ S.hasB (S.form op) = true ∧ S.bitsOf (S.form op) = 16 ∧ -32768 ≤ imm ∧ imm ≤ 32767) ∨
     (S.form op = 5 ∧ S.hasD (S.form op) = true ∧ S.hasA (S.form op) = false ∧ S.hasB (S.form op) = false ∧ S.bitsOf (S.form op) = 21 ∧ -1048576 ≤ imm ∧ imm ≤ 1048575) ∨
     (S.form op = 6 ∧ S.hasD (S.form op) = true ∧ S.hasA (S.form op) = false ∧ S.hasB (S.form op) = false ∧ S.bitsOf (S.form op) = 0 ∧ 0 ≤ imm ∧ imm ≤ 0) ∨
     (S.form op = 7 ∧ S.hasD (S.form op) = false ∧ S.hasA (S.form op) = true ∧ S.hasB (S.form op) = false ∧ S.bitsOf (S.form op) = 0 ∧ 0 ≤ imm ∧ imm ≤ 0)) := by
  simp only [S.good, Bool.and_eq_true, decide_eq_true_eq, S.reg] at hg
  obtain ⟨⟨⟨⟨⟨h1, h2⟩, h3⟩, h4⟩, h5⟩, h6⟩ := hg
  have hl : 0 ≤ d ∧ d ≤ 31 ∧ 0 ≤ a ∧ a ≤ 31 ∧ 0 ≤ b ∧ b ≤ 31 := by omega
  rcases form_ways op with ⟨h, ho⟩ | ⟨h, ho⟩ | ⟨h, ho⟩ | ⟨h, ho⟩ | ⟨h, ho⟩ | ⟨h, ho⟩ | ⟨h, ho⟩ | ⟨h, ho⟩
  · exact absurd h h1
  all_goals
    refine ⟨by omega, by omega, hl.1, hl.2.1, hl.2.2.1, hl.2.2.2.1, hl.2.2.2.2.1, hl.2.2.2.2.2, ?_⟩
    simp only [S.least, S.most, h] at h5 h6
    simp [h, S.hasD, S.hasA, S.hasB, S.bitsOf]
    clear h1 h2 h3 h4 hl h
    grind

end Go.Proofs.YtidhglleeccpoaaDoor
