/- Plain: a machine with more input does the same until it reads. No program in sight. -/
import Derived.Test.YtbgdomnalimjnaaPartsA
set_option linter.unusedVariables false
set_option linter.unusedSimpArgs false
set_option linter.unusedSectionVars false
namespace Go.Proofs.Ytbgdomnalimjnaa
open Go.RowKit

/-- The same machine with more input behind what is left. -/
def S.Mach.plus (m : S.Mach) (E : List Int) : S.Mach := { m with input := m.input ++ E }
theorem put_plus (m : S.Mach) (E : List Int) (d v : Int) : (m.plus E).put d v = (m.put d v).plus E := by
  unfold S.Mach.put S.Mach.plus
  split <;> rfl
theorem act_plus (m : S.Mach) (E : List Int) (i : S.Inst) (h : i.op ≠ 34) : (m.plus E).act i = ((m.act i).1.plus E, (m.act i).2) := by
  obtain ⟨op, d, a, b, imm⟩ := i
  have hrd : ∀ k, (m.plus E).rd k = m.rd k := fun _ => rfl
  have hpl : (m.plus E).place = m.place := rfl
  have hme : (m.plus E).mem = m.mem := rfl
  unfold S.Mach.act
  simp only [hrd, hpl, hme, put_plus]
  by_cases h1 : op ≤ 14
  · rw [if_pos h1, if_pos h1]
    by_cases h2 : m.rd b = 0 ∧ (op = 5 ∨ op = 6)
    · rw [if_pos h2, if_pos h2]
    · rw [if_neg h2, if_neg h2]
  rw [if_neg h1, if_neg h1]
  by_cases h2 : op ≤ 22
  · rw [if_pos h2, if_pos h2]
  rw [if_neg h2, if_neg h2]
  by_cases h3 : op = 23
  · rw [if_pos h3, if_pos h3]
  rw [if_neg h3, if_neg h3]
  by_cases h4 : op = 24
  · rw [if_pos h4, if_pos h4]
    by_cases h5 : S.u32 (m.rd a + S.u32 imm) < m.mem.length
    · rw [if_pos h5, if_pos h5]
    · rw [if_neg h5, if_neg h5]
  rw [if_neg h4, if_neg h4]
  by_cases h5 : op = 25
  · rw [if_pos h5, if_pos h5]
    by_cases h6 : S.u32 (m.rd a + S.u32 imm) < m.mem.length
    · rw [if_pos h6, if_pos h6]; rfl
    · rw [if_neg h6, if_neg h6]
  rw [if_neg h5, if_neg h5]
  by_cases h6 : op ≤ 31
  · rw [if_pos h6, if_pos h6]
  rw [if_neg h6, if_neg h6]
  by_cases h7 : op = 32
  · rw [if_pos h7, if_pos h7]
  rw [if_neg h7, if_neg h7]
  by_cases h8 : op = 33
  · rw [if_pos h8, if_pos h8]
  rw [if_neg h8, if_neg h8]
  by_cases h9 : op = 34
  · exact absurd h9 h
  rw [if_neg h9, if_neg h9]
  by_cases h10 : op = 35
  · rw [if_pos h10, if_pos h10]; rfl
  · rw [if_neg h10, if_neg h10]; rfl

/-- Does it read now? -/
def S.Mach.reads (m : S.Mach) : Prop := m.memB m.place = true ∧ S.decE (m.memV m.place) = 0 ∧ (S.dec (m.memV m.place)).op = 34 ∧ m.state = 0
theorem step_plus (m : S.Mach) (E : List Int) (h0 : 0 ≤ m.place) (h : ¬ m.reads) : (m.plus E).step = m.step.plus E := by
  have hpl : (m.plus E).place = m.place := rfl
  have hme : (m.plus E).mem = m.mem := rfl
  have hst : (m.plus E).state = m.state := rfl
  have hss : (m.plus E).steps = m.steps := rfl
  unfold S.Mach.step
  simp only [hpl, hme, hst, hss]
  by_cases h1 : m.state ≠ 0
  · rw [if_pos h1, if_pos h1]
  rw [if_neg h1, if_neg h1]
  by_cases h2 : (m.mem.length : Int) ≤ m.place
  · rw [if_pos h2, if_pos h2]; rfl
  rw [if_neg h2, if_neg h2]
  have hv : m.memV m.place = m.mem.getD m.place.toNat 0 := by unfold S.Mach.memV; rw [if_pos (by omega)]
  have hb : m.memB m.place = true := by unfold S.Mach.memB; rw [decide_eq_true_eq]; omega
  by_cases h3 : S.decE (m.mem.getD m.place.toNat 0) ≠ 0
  · rw [if_pos h3, if_pos h3]; rfl
  rw [if_neg h3, if_neg h3]
  have hop : (S.dec (m.mem.getD m.place.toNat 0)).op ≠ 34 := fun e => h ⟨hb, by rw [hv]; simpa using h3, by rw [hv]; exact e, by simpa using h1⟩
  rw [act_plus m E _ hop]
  by_cases h4 : (m.act (S.dec (m.mem.getD m.place.toNat 0))).2.2 ≠ 0
  · rw [if_pos h4, if_pos h4]; rfl
  · rw [if_neg h4, if_neg h4]; rfl
theorem plus_seen (m : S.Mach) (E : List Int) : m.Seen (m.plus E) := ⟨rfl, rfl, rfl, rfl, rfl, rfl, rfl, rfl⟩
theorem regd_plus (m : S.Mach) (E R : List Int) : ∀ k, (m.plus E).regd R k = (m.regd R k).plus E
  | 0 => rfl
  | k + 1 => by
    show ((m.plus E).regd R k).put _ _ = ((m.regd R k).put _ _).plus E
    rw [regd_plus m E R k, put_plus]
/-- A machine that is made with more input. -/
theorem made_plus (W I E R : List Int) (size : Int) (h : (I.take 50 ++ E).length ≤ 50) : madeM W (I.take 50 ++ E) R size = (madeM W I R size).plus E := by
  unfold madeM
  rw [List.take_of_length_le h, ← regd_plus]
  rfl

end Go.Proofs.Ytbgdomnalimjnaa
