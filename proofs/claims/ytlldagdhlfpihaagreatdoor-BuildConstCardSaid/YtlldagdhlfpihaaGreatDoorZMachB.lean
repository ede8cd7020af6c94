/- Dec, Bits, MachS, MachB: joined.  Plain: words bit by bit. No program in sight. -/
import Derived.Test.YtlldagdhlfpihaaGreatDoorZOwn
import Derived.Laws.BitsLemmas
import Derived.Laws.BitsAllLaws
section
set_option linter.unusedVariables false
set_option linter.unusedSimpArgs false
set_option linter.unusedSectionVars false
namespace Go.Proofs.YtlldagdhlfpihaaGreatDoor
namespace S

def opOf (w : Int) : Int := w / 67108864
def rawD (w : Int) : Int := if hasD (form (opOf w)) = true then w / 2097152 % 32 else 0
def rawA (w : Int) : Int := if hasA (form (opOf w)) = true then (if hasD (form (opOf w)) = true then w / 65536 % 32 else w / 2097152 % 32) else 0
def rawB (w : Int) : Int := if hasB (form (opOf w)) = true then (if hasD (form (opOf w)) = true then w / 2048 % 32 else w / 65536 % 32) else 0
def rawI (w : Int) : Int :=
  if form (opOf w) = 5 then (if 1048576 ≤ w % 2097152 then w % 2097152 - 2097152 else w % 2097152)
  else if 2 ≤ form (opOf w) ∧ form (opOf w) ≤ 4 then (if least (opOf w) < 0 ∧ 32768 ≤ w % 65536 then w % 65536 - 65536 else w % 65536)
  else 0
/-- A word taken apart by the form that its operation has. -/
def raw (w : Int) : Inst := ⟨opOf w, rawD w, rawA w, rawB w, rawI w⟩
/-- What a word is as an instruction: nothing if it is not what its parts make. -/
def decB (w : Int) : Bool := good (raw w) && decide (enc (raw w) = w)
def dec (w : Int) : Inst := if decB w = true then raw w else ⟨0, 0, 0, 0, 0⟩
def decE (w : Int) : Int := if decB w = true then 0 else 11

end S

theorem enc_bd {x : S.Inst} (h : S.good x = true) : 0 ≤ S.enc x ∧ S.enc x ≤ 4294967295 := by
  obtain ⟨op, d, a, b, imm⟩ := x
  obtain ⟨o1, o2, d1, d2, a1, a2, b1, b2, hw⟩ := good_ways h
  rcases hw with ⟨h, _, _, _, _, i1, i2⟩ | ⟨h, _, _, _, _, i1, i2⟩ | ⟨h, _, _, _, _, i1, i2⟩ | ⟨h, _, _, _, _, i1, i2⟩ | ⟨h, _, _, _, _, i1, i2⟩ | ⟨h, _, _, _, _, i1, i2⟩ | ⟨h, _, _, _, _, i1, i2⟩
  all_goals
    simp only [S.enc, h]
    simp
    omega

/-- What is encoded is taken apart as it was. -/
theorem raw_enc {x : S.Inst} (h : S.good x = true) : S.raw (S.enc x) = x := by
  obtain ⟨op, d, a, b, imm⟩ := x
  have hg := h
  obtain ⟨o1, o2, d1, d2, a1, a2, b1, b2, hw⟩ := good_ways h
  simp only [S.good, Bool.and_eq_true, decide_eq_true_eq, S.reg] at hg
  obtain ⟨⟨⟨⟨⟨_, g2⟩, g3⟩, g4⟩, g5⟩, g6⟩ := hg
  clear h
  rcases hw with ⟨h, hD, hA, hB, hI, i1, i2⟩ | ⟨h, hD, hA, hB, hI, i1, i2⟩ | ⟨h, hD, hA, hB, hI, i1, i2⟩ | ⟨h, hD, hA, hB, hI, i1, i2⟩ | ⟨h, hD, hA, hB, hI, i1, i2⟩ | ⟨h, hD, hA, hB, hI, i1, i2⟩ | ⟨h, hD, hA, hB, hI, i1, i2⟩
  all_goals
    rw [hD] at g2
    rw [hA] at g3
    rw [hB] at g4
    simp at g2 g3 g4
    have ho : S.opOf (S.enc ⟨op, d, a, b, imm⟩) = op := by
      simp only [S.opOf, S.enc, h]
      simp
      omega
    simp only [S.raw, S.rawD, S.rawA, S.rawB, S.rawI, ho, hD, hA, hB]
    simp only [S.enc, h]
    simp
    clear ho
  · omega
  · have e := form_ways op
    by_cases hl : S.least op < 0
    · have hm : S.least op = -32768 ∧ S.most op = 32767 := by
        have : op ≠ 32 ∧ op ≠ 23 := by omega
        revert hl; unfold S.least S.most; grind
      simp only [hl, true_and]
      refine ⟨by omega, by omega, ?_⟩
      split <;> omega
    · simp only [hl, false_and, if_false]
      refine ⟨by omega, by omega, by omega⟩
  · have hl : ¬ S.least op < 0 := by
      have : S.least op = 0 ∧ S.most op = 65535 := by
        have e : op = 23 := by have := form_ways op; omega
        subst e; decide
      omega
    simp only [hl, false_and, if_false]
    refine ⟨by omega, by omega, by omega⟩
  · have hl : S.least op < 0 := by
      have e := form_ways op
      have : S.least op = -32768 := by unfold S.least; grind
      omega
    simp only [hl, true_and]
    refine ⟨by omega, by omega, by omega, ?_⟩
    split <;> omega
  · refine ⟨by omega, by omega, ?_⟩
    split <;> omega
  · omega
  · omega

theorem dec_enc {x : S.Inst} (h : S.good x = true) : S.dec (S.enc x) = x ∧ S.decE (S.enc x) = 0 := by
  have hr := raw_enc h
  have hd : S.decB (S.enc x) = true := by
    unfold S.decB
    rw [hr, h]
    simp
  unfold S.dec S.decE
  rw [hd, hr]
  simp
theorem dec_bad {w : Int} (h : S.decB w = false) : S.dec w = ⟨0, 0, 0, 0, 0⟩ ∧ S.decE w = 11 := by
  unfold S.dec S.decE
  rw [h]
  simp
theorem dec_good {w : Int} (h : S.decB w = true) : S.good (S.dec w) = true ∧ S.enc (S.dec w) = w ∧ S.decE w = 0 := by
  have e : S.dec w = S.raw w := by unfold S.dec; rw [h]; simp
  rw [e]
  unfold S.decE
  rw [h]
  simp only [S.decB, Bool.and_eq_true, decide_eq_true_eq] at h
  exact ⟨h.1, h.2, by simp⟩

end Go.Proofs.YtlldagdhlfpihaaGreatDoor
end

section
set_option linter.unusedVariables false
set_option linter.unusedSimpArgs false
set_option linter.unusedSectionVars false
namespace Go.Proofs.YtlldagdhlfpihaaGreatDoor
open Go.RowKit

theorem wraps_u32 (n : Int) (h₀ : 0 ≤ n) (h₁ : n < 2 ^ 32) : IntKind.u32.wrap n = n := by rw [IntKind.wrap_u32]; omega
theorem u32_join (i : Nat) (x y : Int) (m : Int) (hm : m = 2 ^ i) (hx0 : 0 ≤ x) (hx : x % m = 0) (hx1 : x < 4294967296) (hy0 : 0 ≤ y) (hy1 : y < m) (hy2 : y < 4294967296) : bits .or .u32 x y = x + y := by
  subst hm
  exact bits_join .u32 32 (by decide) wraps_u32 i x y hx0 hx (by simpa using hx1) hy0 hy1 (by simpa using hy2)
theorem u32_mask (i : Nat) (x : Int) (m n : Int) (hm : m = 2 ^ i) (hn : n = m - 1) (hi : i ≤ 32) (h0 : 0 ≤ x) (h1 : x < 4294967296) : bits .and .u32 x n = x % m := by
  subst hn hm
  exact bits_mask .u32 32 (by decide) wraps_u32 i hi x h0 (by simpa using h1)

theorem enc_1 {op d a b imm : Int} (o1 : 1 ≤ op) (o2 : op ≤ 36) (d1 : 0 ≤ d) (d2 : d ≤ 31) (a1 : 0 ≤ a) (a2 : a ≤ 31) (b1 : 0 ≤ b) (b2 : b ≤ 31) (i1 : 0 ≤ imm) (i2 : imm ≤ 0) (h : S.form op = 1) :
    bits .or .u32 (bits .or .u32 (bits .or .u32 (bits .or .u32 (op * 67108864) (d * 2097152)) (a * 65536)) (b * 2048)) (bits .and .u32 imm 0) = S.enc ⟨op, d, a, b, imm⟩ := by
  rw [u32_mask 0 imm 1 0 (by decide) (by omega) (by omega) (by omega) (by omega),
    u32_join 26 (op * 67108864) (d * 2097152) 67108864 (by decide) (by omega) (by omega) (by omega) (by omega) (by omega) (by omega),
    u32_join 21 (op * 67108864 + d * 2097152) (a * 65536) 2097152 (by decide) (by omega) (by omega) (by omega) (by omega) (by omega) (by omega),
    u32_join 16 (op * 67108864 + d * 2097152 + a * 65536) (b * 2048) 65536 (by decide) (by omega) (by omega) (by omega) (by omega) (by omega) (by omega),
    u32_join 11 (op * 67108864 + d * 2097152 + a * 65536 + b * 2048) (imm % 1) 2048 (by decide) (by omega) (by omega) (by omega) (by omega) (by omega) (by omega)]
  simp only [S.enc, h]
  simp
  try omega

theorem enc_2 {op d a b imm : Int} (o1 : 1 ≤ op) (o2 : op ≤ 36) (d1 : 0 ≤ d) (d2 : d ≤ 31) (a1 : 0 ≤ a) (a2 : a ≤ 31) (i1 : -32768 ≤ imm) (i2 : imm ≤ 65535) (h : S.form op = 2) :
    bits .or .u32 (bits .or .u32 (bits .or .u32 (op * 67108864) (d * 2097152)) (a * 65536)) (bits .and .u32 (imm % 4294967296) 65535) = S.enc ⟨op, d, a, b, imm⟩ := by
  rw [u32_mask 16 (imm % 4294967296) 65536 65535 (by decide) (by omega) (by omega) (by omega) (by omega),
    u32_join 26 (op * 67108864) (d * 2097152) 67108864 (by decide) (by omega) (by omega) (by omega) (by omega) (by omega) (by omega),
    u32_join 21 (op * 67108864 + d * 2097152) (a * 65536) 2097152 (by decide) (by omega) (by omega) (by omega) (by omega) (by omega) (by omega),
    u32_join 16 (op * 67108864 + d * 2097152 + a * 65536) ((imm % 4294967296) % 65536) 65536 (by decide) (by omega) (by omega) (by omega) (by omega) (by omega) (by omega)]
  simp only [S.enc, h]
  simp
  try omega

theorem enc_3 {op d a b imm : Int} (o1 : 1 ≤ op) (o2 : op ≤ 36) (d1 : 0 ≤ d) (d2 : d ≤ 31) (i1 : 0 ≤ imm) (i2 : imm ≤ 65535) (h : S.form op = 3) :
    bits .or .u32 (bits .or .u32 (op * 67108864) (d * 2097152)) (bits .and .u32 imm 65535) = S.enc ⟨op, d, a, b, imm⟩ := by
  rw [u32_mask 16 imm 65536 65535 (by decide) (by omega) (by omega) (by omega) (by omega),
    u32_join 26 (op * 67108864) (d * 2097152) 67108864 (by decide) (by omega) (by omega) (by omega) (by omega) (by omega) (by omega),
    u32_join 21 (op * 67108864 + d * 2097152) (imm % 65536) 2097152 (by decide) (by omega) (by omega) (by omega) (by omega) (by omega) (by omega)]
  simp only [S.enc, h]
  simp
  try omega

theorem enc_4 {op d a b imm : Int} (o1 : 1 ≤ op) (o2 : op ≤ 36) (a1 : 0 ≤ a) (a2 : a ≤ 31) (b1 : 0 ≤ b) (b2 : b ≤ 31) (i1 : -32768 ≤ imm) (i2 : imm ≤ 32767) (h : S.form op = 4) :
    bits .or .u32 (bits .or .u32 (bits .or .u32 (op * 67108864) (a * 2097152)) (b * 65536)) (bits .and .u32 (imm % 4294967296) 65535) = S.enc ⟨op, d, a, b, imm⟩ := by
  rw [u32_mask 16 (imm % 4294967296) 65536 65535 (by decide) (by omega) (by omega) (by omega) (by omega),
    u32_join 26 (op * 67108864) (a * 2097152) 67108864 (by decide) (by omega) (by omega) (by omega) (by omega) (by omega) (by omega),
    u32_join 21 (op * 67108864 + a * 2097152) (b * 65536) 2097152 (by decide) (by omega) (by omega) (by omega) (by omega) (by omega) (by omega),
    u32_join 16 (op * 67108864 + a * 2097152 + b * 65536) ((imm % 4294967296) % 65536) 65536 (by decide) (by omega) (by omega) (by omega) (by omega) (by omega) (by omega)]
  simp only [S.enc, h]
  simp
  try omega

theorem enc_5 {op d a b imm : Int} (o1 : 1 ≤ op) (o2 : op ≤ 36) (d1 : 0 ≤ d) (d2 : d ≤ 31) (i1 : -1048576 ≤ imm) (i2 : imm ≤ 1048575) (h : S.form op = 5) :
    bits .or .u32 (bits .or .u32 (op * 67108864) (d * 2097152)) (bits .and .u32 (imm % 4294967296) 2097151) = S.enc ⟨op, d, a, b, imm⟩ := by
  rw [u32_mask 21 (imm % 4294967296) 2097152 2097151 (by decide) (by omega) (by omega) (by omega) (by omega),
    u32_join 26 (op * 67108864) (d * 2097152) 67108864 (by decide) (by omega) (by omega) (by omega) (by omega) (by omega) (by omega),
    u32_join 21 (op * 67108864 + d * 2097152) ((imm % 4294967296) % 2097152) 2097152 (by decide) (by omega) (by omega) (by omega) (by omega) (by omega) (by omega)]
  simp only [S.enc, h]
  simp
  try omega

theorem enc_6 {op d a b imm : Int} (o1 : 1 ≤ op) (o2 : op ≤ 36) (d1 : 0 ≤ d) (d2 : d ≤ 31) (i1 : 0 ≤ imm) (i2 : imm ≤ 0) (h : S.form op = 6) :
    bits .or .u32 (bits .or .u32 (op * 67108864) (d * 2097152)) (bits .and .u32 imm 0) = S.enc ⟨op, d, a, b, imm⟩ := by
  rw [u32_mask 0 imm 1 0 (by decide) (by omega) (by omega) (by omega) (by omega),
    u32_join 26 (op * 67108864) (d * 2097152) 67108864 (by decide) (by omega) (by omega) (by omega) (by omega) (by omega) (by omega),
    u32_join 21 (op * 67108864 + d * 2097152) (imm % 1) 2097152 (by decide) (by omega) (by omega) (by omega) (by omega) (by omega) (by omega)]
  simp only [S.enc, h]
  simp
  try omega

theorem enc_7 {op d a b imm : Int} (o1 : 1 ≤ op) (o2 : op ≤ 36) (a1 : 0 ≤ a) (a2 : a ≤ 31) (i1 : 0 ≤ imm) (i2 : imm ≤ 0) (h : S.form op = 7) :
    bits .or .u32 (bits .or .u32 (op * 67108864) (a * 2097152)) (bits .and .u32 imm 0) = S.enc ⟨op, d, a, b, imm⟩ := by
  rw [u32_mask 0 imm 1 0 (by decide) (by omega) (by omega) (by omega) (by omega),
    u32_join 26 (op * 67108864) (a * 2097152) 67108864 (by decide) (by omega) (by omega) (by omega) (by omega) (by omega) (by omega),
    u32_join 21 (op * 67108864 + a * 2097152) (imm % 1) 2097152 (by decide) (by omega) (by omega) (by omega) (by omega) (by omega) (by omega)]
  simp only [S.enc, h]
  simp
  try omega

/-- The number that bits are, the highest first. -/
def val (l : List Int) : Int := l.foldl (fun a x => 2 * a + x) 0
end Go.Proofs.YtlldagdhlfpihaaGreatDoor
end

section
set_option linter.unusedVariables false
set_option linter.unusedSimpArgs false
set_option linter.unusedSectionVars false
namespace Go.Proofs.YtlldagdhlfpihaaGreatDoor
open Go.RowKit
namespace S

/-- A machine: input is what was not read yet. -/
structure Mach where
  reg : List Int
  mem : List Int
  place : Int
  input : List Int
  out : List Int
  state : Int
  code : Int
  trap : Int
  steps : Int

def u32m (x : Int) : Int := x % 4294967296
def sgn (w : Int) : Int := if 2147483648 ≤ w then w - 4294967296 else w
def truth (p : Prop) [Decidable p] : Int := if p then 1 else 0

/-- What an operation from 1 to 14 makes of two words. -/
def alu (op a b : Int) : Int :=
  if op = 1 then u32m (a + b) else if op = 2 then u32m (a - b) else if op = 3 then u32m (a * b) else if op = 4 then a * b / 4294967296
  else if op = 5 then a / b else if op = 6 then a % b else if op = 7 then bits .and .u32 a b else if op = 8 then bits .or .u32 a b
  else if op = 9 then bits .xor .u32 a b else if op = 10 then u32m (a * 2 ^ (b % 32).toNat) else if op = 11 then a / 2 ^ (b % 32).toNat
  else if op = 12 then u32m (sgn a / 2 ^ (b % 32).toNat) else if op = 13 then truth (sgn a < sgn b) else truth (a < b)
/-- The operation of two registers that one with a number is like. -/
def like (op : Int) : Int := if op = 15 then 1 else op - 9
def goes (op a b : Int) : Bool :=
  if op = 26 then decide (a = b) else if op = 27 then decide (a ≠ b) else if op = 28 then decide (sgn a < sgn b) else if op = 29 then decide (sgn b ≤ sgn a)
  else if op = 30 then decide (a < b) else decide (b ≤ a)

namespace Mach
def put (m : Mach) (d v : Int) : Mach := if d = 0 then m else { m with reg := m.reg.set d.toNat v }
def fell (m : Mach) (t : Int) : Mach := { m with state := 2, trap := t }
def rd (m : Mach) (i : Int) : Int := m.reg.getD i.toNat 0
/-- What an instruction that is one does: a trap, or the machine and its next place. -/
def act (m : Mach) (i : Inst) : Mach × Int × Int :=
  let a := m.rd i.a
  let b := m.rd i.b
  let imm := u32m i.imm
  let next := u32m (m.place + 1)
  let at_ := u32m (a + imm)
  if i.op ≤ 14 then (if b = 0 ∧ (i.op = 5 ∨ i.op = 6) then (m, 0, 4) else (m.put i.d (alu i.op a b), next, 0))
  else if i.op ≤ 22 then (m.put i.d (alu (like i.op) a imm), next, 0)
  else if i.op = 23 then (m.put i.d (u32m (imm * 65536)), next, 0)
  else if i.op = 24 then (if at_ < m.mem.length then (m.put i.d (m.mem.getD at_.toNat 0), next, 0) else (m, 0, 2))
  else if i.op = 25 then (if at_ < m.mem.length then ({ m with mem := m.mem.set at_.toNat b }, next, 0) else (m, 0, 2))
  else if i.op ≤ 31 then (m, if goes i.op a b = true then u32m (next + imm) else next, 0)
  else if i.op = 32 then (m.put i.d next, u32m (next + imm), 0)
  else if i.op = 33 then (m.put i.d next, at_, 0)
  else if i.op = 34 then
    match m.input with
    | [] => (m.put i.d 4294967295, next, 0)
    | x :: r => (({ m with input := r } : Mach).put i.d x, next, 0)
  else if i.op = 35 then ({ m with out := m.out ++ [a % 256] }, next, 0)
  else ({ m with state := 1, code := a }, m.place, 0)
def step (m : Mach) : Mach :=
  if m.state ≠ 0 then m
  else if (m.mem.length : Int) ≤ m.place then m.fell 3
  else if decE (m.mem.getD m.place.toNat 0) ≠ 0 then m.fell 1
  else if (m.act (dec (m.mem.getD m.place.toNat 0))).2.2 ≠ 0 then m.fell (m.act (dec (m.mem.getD m.place.toNat 0))).2.2
  else { (m.act (dec (m.mem.getD m.place.toNat 0))).1 with place := (m.act (dec (m.mem.getD m.place.toNat 0))).2.1, steps := m.steps + 1 }
def steps_ (m : Mach) : Nat → Mach
  | 0 => m
  | n + 1 => (steps_ m n).step
/-- What holds of a machine that was made and has gone some steps. -/
structure Ok (m : Mach) : Prop where
  regs : m.reg.length = 32
  word : ∀ i, 0 ≤ m.reg.getD i 0 ∧ m.reg.getD i 0 ≤ 4294967295
  zero : m.reg.getD 0 0 = 0
  mem : 0 < m.mem.length
  memw : ∀ i, 0 ≤ m.mem.getD i 0 ∧ m.mem.getD i 0 ≤ 4294967295
  place0 : 0 ≤ m.place
  place1 : m.place ≤ 4294967295
  inp : ∀ x ∈ m.input, 0 ≤ x ∧ x ≤ 255
  outp : ∀ x ∈ m.out, 0 ≤ x ∧ x ≤ 255
  code0 : 0 ≤ m.code
  code1 : m.code ≤ 4294967295
end Mach
end S

end Go.Proofs.YtlldagdhlfpihaaGreatDoor
end

section
set_option linter.unusedVariables false
set_option linter.unusedSimpArgs false
set_option linter.unusedSectionVars false
namespace Go.Proofs.YtlldagdhlfpihaaGreatDoor
open Go.RowKit

theorem ofInt_toNat {a : Int} (h0 : 0 ≤ a) (h1 : a ≤ 4294967295) : (BitVec.ofInt 32 a).toNat = a.toNat := by
  rw [BitVec.toNat_ofInt]
  omega
theorem u32_and {a b : Int} (a0 : 0 ≤ a) (a1 : a ≤ 4294967295) (b0 : 0 ≤ b) (b1 : b ≤ 4294967295) : bits .and .u32 a b = ((a.toNat &&& b.toNat : Nat) : Int) := by
  show IntKind.u32.wrap ((BitVec.ofInt 32 a &&& BitVec.ofInt 32 b).toNat : Int) = _
  rw [BitVec.toNat_and, ofInt_toNat a0 a1, ofInt_toNat b0 b1]
  exact wraps_u32 _ (by omega) (by have := Nat.and_lt_two_pow a.toNat (show b.toNat < 2 ^ 32 by omega); omega)
theorem u32_or {a b : Int} (a0 : 0 ≤ a) (a1 : a ≤ 4294967295) (b0 : 0 ≤ b) (b1 : b ≤ 4294967295) : bits .or .u32 a b = ((a.toNat ||| b.toNat : Nat) : Int) := by
  show IntKind.u32.wrap ((BitVec.ofInt 32 a ||| BitVec.ofInt 32 b).toNat : Int) = _
  rw [BitVec.toNat_or, ofInt_toNat a0 a1, ofInt_toNat b0 b1]
  exact wraps_u32 _ (by omega) (by have := Nat.or_lt_two_pow (show a.toNat < 2 ^ 32 by omega) (show b.toNat < 2 ^ 32 by omega); omega)
theorem u32_xor {a b : Int} (a0 : 0 ≤ a) (a1 : a ≤ 4294967295) (b0 : 0 ≤ b) (b1 : b ≤ 4294967295) : bits .xor .u32 a b = ((a.toNat ^^^ b.toNat : Nat) : Int) := by
  show IntKind.u32.wrap ((BitVec.ofInt 32 a ^^^ BitVec.ofInt 32 b).toNat : Int) = _
  rw [BitVec.toNat_xor, ofInt_toNat a0 a1, ofInt_toNat b0 b1]
  exact wraps_u32 _ (by omega) (by have := Nat.xor_lt_two_pow (show a.toNat < 2 ^ 32 by omega) (show b.toNat < 2 ^ 32 by omega); omega)

/-- A word as a number in two's complement. -/
theorem sgn_wrap {a : Int} (a0 : 0 ≤ a) (a1 : a ≤ 4294967295) : IntKind.i32.wrap a = S.sgn a := by
  unfold S.sgn
  rw [IntKind.wrap_i32]
  split <;> omega
theorem u32_wrap (x : Int) : IntKind.u32.wrap x = S.u32m x := by
  unfold S.u32m
  rw [IntKind.wrap_u32]
theorem u32_bd (x : Int) : 0 ≤ S.u32m x ∧ S.u32m x ≤ 4294967295 := by unfold S.u32m; omega
end Go.Proofs.YtlldagdhlfpihaaGreatDoor
end
