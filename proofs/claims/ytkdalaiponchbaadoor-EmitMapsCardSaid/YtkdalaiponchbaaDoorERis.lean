/- Plain: when is a list rising: sorted, and none of it falls to Compact. -/
import Derived.Test.YtkdalaiponchbaaDoorESrt
import Derived.Lib.SlicesCompact
set_option linter.unusedVariables false
set_option linter.unusedSimpArgs false
set_option linter.unusedSectionVars false
namespace Go.Proofs.YtkdalaiponchbaaDoor

theorem rising_at : ∀ (l : List Int), S.rising l = true ↔ ∀ j, j + 1 < l.length → l.getD j 0 < l.getD (j + 1) 0
  | [] => by simp [S.rising]
  | [_] => by simp [S.rising]
  | x :: y :: r => by
    have ih := rising_at (y :: r)
    simp only [S.rising, Bool.and_eq_true, decide_eq_true_eq, ih]
    constructor
    · rintro ⟨h0, h1⟩ j hj
      cases j with
      | zero => simpa using h0
      | succ j => simpa using h1 j (by simp at *; omega)
    · intro h
      exact ⟨by simpa using h 0 (by simp), fun j hj => by simpa using h (j + 1) (by simp at *; omega)⟩
theorem filter_len {α : Type} (p : α → Bool) : ∀ (l : List α), (l.filter p).length = l.length ↔ ∀ x ∈ l, p x = true
  | [] => by simp
  | a :: l => by
    have ih := filter_len p l
    have hle := List.length_filter_le p l
    cases e : p a with
    | true => simp [List.filter_cons, e, ih]
    | false =>
      simp only [List.filter_cons, e, Bool.false_eq_true, if_false, List.length_cons, List.mem_cons, forall_eq_or_imp, false_and, iff_false]
      omega
theorem compact_len (l : List Int) : (Lib.compact l).length < l.length ↔ ∃ j, j + 1 < l.length ∧ l.getD (j + 1) 0 = l.getD j 0 := by
  have h0 : (Lib.compact l).length = ((List.range l.length).filter (Lib.keeps l.toArray)).length := by
    simp [Lib.compact, Lib.compactUpTo]
  have h1 : ((List.range l.length).filter (Lib.keeps l.toArray)).length ≤ l.length := by
    simpa using List.length_filter_le (Lib.keeps l.toArray) (List.range l.length)
  have h2 := filter_len (Lib.keeps l.toArray) (List.range l.length)
  rw [List.length_range] at h2
  rw [h0]
  constructor
  · intro h
    have h3 : ¬ (∀ x ∈ List.range l.length, Lib.keeps l.toArray x = true) := fun hh => by have := h2.2 hh; omega
    have h4 : ∃ x, x < l.length ∧ Lib.keeps l.toArray x = false := by
      apply Classical.byContradiction
      intro hn
      refine h3 (fun x hx => ?_)
      cases e : Lib.keeps l.toArray x with
      | true => rfl
      | false => exact absurd ⟨x, List.mem_range.1 hx, e⟩ hn
    obtain ⟨x, hx, hk⟩ := h4
    cases x with
    | zero => simp [Lib.keeps] at hk
    | succ j =>
      refine ⟨j, hx, ?_⟩
      simp only [Lib.keeps] at hk
      simp_all
  · rintro ⟨j, hj, he⟩
    have h3 : ((List.range l.length).filter (Lib.keeps l.toArray)).length ≠ l.length := fun hh => by
      have := h2.1 hh (j + 1) (List.mem_range.2 hj)
      simp only [Lib.keeps] at this
      simp_all
    omega
theorem rising_eq (l : List Int) : S.rising l = (upTo l && !decide ((Lib.compact l).length < l.length)) := by
  rw [Bool.eq_iff_iff]
  simp only [Bool.and_eq_true, Bool.not_eq_true', decide_eq_false_iff_not, rising_at, compact_len]
  constructor
  · intro h
    refine ⟨upTo_of l (fun j hj => by have := h j hj; omega), ?_⟩
    rintro ⟨j, hj, he⟩
    have := h j hj
    omega
  · rintro ⟨h1, h2⟩ j hj
    have := upTo_at l h1 j hj
    rcases Int.lt_or_eq_of_le this with h | h
    · exact h
    · exact absurd ⟨j, hj, h.symm⟩ h2
end Go.Proofs.YtkdalaiponchbaaDoor
