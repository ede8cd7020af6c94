/- Plain mathematics: the table of labels as it is filled. No program in sight. -/
import Derived.Test.YtbgdomnalimjnaaAsmJ
set_option linter.unusedVariables false
set_option linter.unusedSimpArgs false
set_option linter.unusedSectionVars false
namespace Go.Proofs.Ytbgdomnalimjnaa

/-- The table of the first k items' labels; tw: whether one stood twice. -/
structure Tab (xs : List S.Item) (k : Nat) (f : ByteArray → Option Int) (tw : Bool) : Prop where
  has : ∀ s, (f s).isSome = true ↔ ∃ (j : Nat) (x : S.Item), j < k ∧ xs[j]? = some x ∧ x.kind = 2 ∧ x.label = s
  val : tw = false → ∀ s v, f s = some v → v = S.stands xs s
  dup : tw = true ↔ ∃ (j : Nat) (x : S.Item), j < k ∧ xs[j]? = some x ∧ x.kind = 2 ∧ S.stands xs x.label ≠ j

theorem Tab.start (xs : List S.Item) : Tab xs 0 (fun _ => none) false :=
  ⟨fun s => by simp, fun _ s v h => by simp at h, by simp⟩

theorem Tab.other {xs : List S.Item} {k : Nat} {f : ByteArray → Option Int} {tw : Bool} (h : Tab xs k f tw) {x : S.Item} (hx : xs[k]? = some x) (hk : x.kind ≠ 2) : Tab xs (k + 1) f tw := by
  refine ⟨fun s => (h.has s).trans ?_, h.val, h.dup.trans ?_⟩
  · constructor
    · rintro ⟨j, y, h1, h2⟩; exact ⟨j, y, by omega, h2⟩
    · rintro ⟨j, y, h1, h2, h3, h4⟩
      have : j ≠ k := by rintro rfl; rw [hx] at h2; cases h2; exact hk h3
      exact ⟨j, y, by omega, h2, h3, h4⟩
  · constructor
    · rintro ⟨j, y, h1, h2⟩; exact ⟨j, y, by omega, h2⟩
    · rintro ⟨j, y, h1, h2, h3, h4⟩
      have : j ≠ k := by rintro rfl; rw [hx] at h2; cases h2; exact hk h3
      exact ⟨j, y, by omega, h2, h3, h4⟩

theorem Tab.label {xs : List S.Item} {k : Nat} {f : ByteArray → Option Int} {tw : Bool} (h : Tab xs k f tw) {x : S.Item} (hx : xs[k]? = some x) (hk : x.kind = 2) :
    Tab xs (k + 1) (fun t => if t = x.label then some (k : Int) else f t) (tw || (f x.label).isSome) := by
  have hst : (f x.label).isSome = false ↔ S.stands xs x.label = k := by
    rw [← Bool.not_eq_true, h.has]
    rcases stands_spec xs x.label with ⟨_, h2⟩ | ⟨j, y, h1, h2, h3, h4, h5⟩
    · exact absurd ⟨hk, rfl⟩ (h2 k x hx)
    · constructor
      · intro hn
        rcases Nat.lt_trichotomy j k with hj | hj | hj
        · exact absurd ⟨j, y, hj, h2, h3, h4⟩ hn
        · rw [h1, hj]
        · exact absurd ⟨hk, rfl⟩ (h5 k x hj hx)
      · rintro hs ⟨i, z, h6, h7, h8, h9⟩
        have : j = k := by rw [h1] at hs; omega
        subst this
        exact h5 i z h6 h7 ⟨h8, h9⟩
  refine ⟨fun s => ?_, ?_, ?_⟩
  · by_cases e : s = x.label
    · simp only [e, if_true]
      constructor
      · intro _; exact ⟨k, x, by omega, hx, hk, rfl⟩
      · intro _; rfl
    · simp only [e, if_false]
      rw [h.has]
      constructor
      · rintro ⟨j, y, h1, h2⟩; exact ⟨j, y, by omega, h2⟩
      · rintro ⟨j, y, h1, h2, h3, h4⟩
        have : j ≠ k := by rintro rfl; rw [hx] at h2; cases h2; exact e h4.symm
        exact ⟨j, y, by omega, h2, h3, h4⟩
  · intro ht s v hv
    rw [Bool.or_eq_false_iff] at ht
    by_cases e : s = x.label
    · simp only [e, if_true] at hv
      cases hv
      rw [e, hst.1 ht.2]
    · simp only [e, if_false] at hv
      exact h.val ht.1 s v hv
  · rw [Bool.or_eq_true, h.dup]
    constructor
    · rintro (⟨j, y, h1, h2⟩ | hs)
      · exact ⟨j, y, by omega, h2⟩
      · refine ⟨k, x, by omega, hx, hk, fun e => ?_⟩
        rw [← hst, hs] at e
        cases e
    · rintro ⟨j, y, h1, h2, h3, h4⟩
      by_cases e : j = k
      · right
        subst e
        rw [hx] at h2; cases h2
        cases hb : (f x.label).isSome with
        | true => rfl
        | false => exact absurd (hst.1 hb) h4
      · left; exact ⟨j, y, by omega, h2, h3, h4⟩

theorem Tab.done {xs : List S.Item} {f : ByteArray → Option Int} (h : Tab xs xs.length f false) : f = labF xs ∧ ¬ S.Dup xs := by
  constructor
  · funext s
    unfold labF
    rcases stands_spec xs s with ⟨h1, h2⟩ | ⟨j, y, h1, h2, h3, h4, h5⟩
    · rw [h1, if_pos (by omega)]
      cases hf : f s with
      | none => rfl
      | some v =>
        obtain ⟨j, x, _, hx, hk, hl⟩ := (h.has s).1 (by rw [hf]; rfl)
        exact absurd ⟨hk, hl⟩ (h2 j x hx)
    · rw [h1, if_neg (by omega)]
      have hs := (h.has s).2 ⟨j, y, (List.getElem?_eq_some_iff.1 h2).1, h2, h3, h4⟩
      cases hf : f s with
      | none => rw [hf] at hs; cases hs
      | some v => rw [h.val rfl s v hf, h1]
  · rintro ⟨i, x, hx, hk, hs⟩
    have := h.dup.2 ⟨i, x, (List.getElem?_eq_some_iff.1 hx).1, hx, hk, hs⟩
    cases this
theorem Tab.twice {xs : List S.Item} {f : ByteArray → Option Int} (h : Tab xs xs.length f true) : S.Dup xs := by
  obtain ⟨j, x, _, hx, hk, hs⟩ := h.dup.1 rfl
  exact ⟨j, x, hx, hk, hs⟩
theorem Tab.shut {xs : List S.Item} {f : ByteArray → Option Int} (h : Tab xs xs.length f false) {k : Nat} {x : S.Item} (hx : xs[k]? = some x) (hk : x.kind = 2) : S.stands xs x.label = k := by
  by_cases e : S.stands xs x.label = k
  · exact e
  · exact absurd ⟨k, x, hx, hk, e⟩ h.done.2

end Go.Proofs.Ytbgdomnalimjnaa
