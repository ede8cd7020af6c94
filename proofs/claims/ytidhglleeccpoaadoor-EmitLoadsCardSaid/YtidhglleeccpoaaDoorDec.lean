/- Plain mathematics of layer 1: a word taken apart, and what is encoded is decoded. No program in sight. -/
import Derived.Test.YtidhglleeccpoaaDoorSpec
set_option linter.unusedVariables false
set_option linter.unusedSimpArgs false
set_option linter.unusedSectionVars false
namespace Go.Proofs.YtidhglleeccpoaaDoor
namespace S

def opOf (w : Int) : Int := w / 67108864
def rawD (w : Int) : Int := if hasD (form (opOf w)) = true then w / 2097152 % 32 else 0
def rawA (w : Int) : Int := if hasA (form (opOf w)) = true then (if hasD (form (opOf w)) = true then w / 65536 % 32 else w / 2097152 % 32) else 0
def rawB (w : Int) : Int := if hasB (form (opOf w)) = true then (if hasD (form (opOf w)) = true then w / 2048 % 32 else w / 65536 % 32) else 0
def rawI (w : Int) : Int :=
  if form (opOf w) = 5 then (if 1048576 ≤ w % 2097152 then w % 2097152 - 2097152 else w % 2097152)
  else if 2 ≤ form (opOf w) ∧ form (opOf w) ≤ 4 then (if least (opOf w) < 0 ∧ 32768 ≤ w % 65536 then w % 65536 - 65536 else w % 65536)
  else 0
/-- A word taken apart by the form that its operation has. -/
def raw (w : Int) : Inst := ⟨opOf w, rawD w, rawA w, rawB w, rawI w⟩
/-- What a word is as an instruction: nothing if it is not what its parts make. -/
def decB (w : Int) : Bool := good (raw w) && decide (enc (raw w) = w)
def dec (w : Int) : Inst := if decB w = true then raw w else ⟨0, 0, 0, 0, 0⟩
def decE (w : Int) : Int := if decB w = true then 0 else 11

end S

theorem enc_bd {x : S.Inst} (h : S.good x = true) : 0 ≤ S.enc x ∧ S.enc x ≤ 4294967295 := by
  obtain ⟨op, d, a, b, imm⟩ := x
  obtain ⟨o1, o2, d1, d2, a1, a2, b1, b2, hw⟩ := good_ways h
  rcases hw with ⟨h, _, _, _, _, i1, i2⟩ | ⟨h, _, _, _, _, i1, i2⟩ | ⟨h, _, _, _, _, i1, i2⟩ | ⟨h, _, _, _, _, i1, i2⟩ | ⟨h, _, _, _, _, i1, i2⟩ | ⟨h, _, _, _, _, i1, i2⟩ | ⟨h, _, _, _, _, i1, i2⟩
  all_goals
    simp only [S.enc, h]
    simp
    omega

theorem inst_mk {op d a b imm op' d' a' b' imm' : Int} (h0 : op = op') (h1 : d = d') (h2 : a = a') (h3 : b = b') (h4 : imm = imm') : (⟨op, d, a, b, imm⟩ : S.Inst) = ⟨op', d', a', b', imm'⟩ := by
  subst h0 h1 h2 h3 h4; rfl

/-- What is encoded is taken apart as it was. -/
theorem raw_enc {x : S.Inst} (h : S.good x = true) : S.raw (S.enc x) = x := by
  obtain ⟨op, d, a, b, imm⟩ := x
  have hg := h
  obtain ⟨o1, o2, d1, d2, a1, a2, b1, b2, hw⟩ := good_ways h
  simp only [S.good, Bool.and_eq_true, decide_eq_true_eq, S.reg] at hg
  obtain ⟨⟨⟨⟨⟨_, g2⟩, g3⟩, g4⟩, g5⟩, g6⟩ := hg
  clear h
  rcases hw with ⟨h, hD, hA, hB, hI, i1, i2⟩ | ⟨h, hD, hA, hB, hI, i1, i2⟩ | ⟨h, hD, hA, hB, hI, i1, i2⟩ | ⟨h, hD, hA, hB, hI, i1, i2⟩ | ⟨h, hD, hA, hB, hI, i1, i2⟩ | ⟨h, hD, hA, hB, hI, i1, i2⟩ | ⟨h, hD, hA, hB, hI, i1, i2⟩
  all_goals
    rw [hD] at g2
    rw [hA] at g3
    rw [hB] at g4
    simp at g2 g3 g4
    have ho : S.opOf (S.enc ⟨op, d, a, b, imm⟩) = op := by
      simp only [S.opOf, S.enc, h]
      simp
      omega
    simp only [S.raw, S.rawD, S.rawA, S.rawB, S.rawI, ho, hD, hA, hB]
    simp only [S.enc, h]
    simp
    clear ho
  · omega
  · have e := form_ways op
    by_cases hl : S.least op < 0
    · have hm : S.least op = -32768 ∧ S.most op = 32767 := by
        have : op ≠ 32 ∧ op ≠ 23 := by omega
        revert hl; unfold S.least S.most; grind
      simp only [hl, true_and]
      refine ⟨by omega, by omega, ?_⟩
      split <;> omega
    · simp only [hl, false_and, if_false]
      refine ⟨by omega, by omega, by omega⟩
  · have hl : ¬ S.least op < 0 := by
      have : S.least op = 0 ∧ S.most op = 65535 := by
        have e : op = 23 := by have := form_ways op; omega
        subst e; decide
      omega
    simp only [hl, false_and, if_false]
    refine ⟨by omega, by omega, by omega⟩
  · have hl : S.least op < 0 := by
      have e := form_ways op
      have : S.least op = -32768 := by unfold S.least; grind
      omega
    simp only [hl, true_and]
    refine ⟨by omega, by omega, by omega, ?_⟩
    split <;> omega
  · refine ⟨by omega, by omega, ?_⟩
    split <;> omega
  · omega
  · omega

theorem dec_enc {x : S.Inst} (h : S.good x = true) : S.dec (S.enc x) = x ∧ S.decE (S.enc x) = 0 := by
  have hr := raw_enc h
  have hd : S.decB (S.enc x) = true := by
    unfold S.decB
    rw [hr, h]
    simp
  unfold S.dec S.decE
  rw [hd, hr]
  simp
theorem dec_bad {w : Int} (h : S.decB w = false) : S.dec w = ⟨0, 0, 0, 0, 0⟩ ∧ S.decE w = 11 := by
  unfold S.dec S.decE
  rw [h]
  simp
theorem dec_good {w : Int} (h : S.decB w = true) : S.good (S.dec w) = true ∧ S.enc (S.dec w) = w ∧ S.decE w = 0 := by
  have e : S.dec w = S.raw w := by unfold S.dec; rw [h]; simp
  rw [e]
  unfold S.decE
  rw [h]
  simp only [S.decB, Bool.and_eq_true, decide_eq_true_eq] at h
  exact ⟨h.1, h.2, by simp⟩

end Go.Proofs.YtidhglleeccpoaaDoor
