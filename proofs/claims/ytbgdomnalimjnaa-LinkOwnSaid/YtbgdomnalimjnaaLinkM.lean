/- Plain: names and results of given objects; literal lists of objects. -/
import Derived.Test.YtbgdomnalimjnaaLinkL
import Derived.Test.YtbgdomnalimjnaaLinkG
import Derived.Test.YtbgdomnalimjnaaItemC
import Derived.Test.YtbgdomnalimjnaaAsmChk
set_option linter.unusedVariables false
set_option linter.unusedSimpArgs false
set_option linter.unusedSectionVars false
namespace Go.Proofs.Ytbgdomnalimjnaa
open Go.RowKit
namespace S
def dupB : List Obj → Bool
  | [] => false
  | o :: r => (r.any fun p => decide (p.name = o.name)) || dupB r
def namesOf (os : List Obj) : Int := if dupB os = true then 14 else if os.any badN = true then 2 else 0
end S

theorem dupB_iff (os : List S.Obj) : S.dupB os = true ↔ S.DupN os := by
  induction os with
  | nil =>
    simp only [S.dupB]
    constructor
    · intro h; cases h
    · rintro ⟨i, j, a, b, _, ha, _⟩; simp at ha
  | cons o r ih =>
    simp only [S.dupB, Bool.or_eq_true, List.any_eq_true, decide_eq_true_eq, ih]
    constructor
    · rintro (⟨p, hp, e⟩ | ⟨i, j, a, b, hj, ha, hb, e⟩)
      · obtain ⟨k, hk, rfl⟩ := List.getElem_of_mem hp
        exact ⟨k + 1, 0, _, _, by omega, by simp, by simp, e⟩
      · exact ⟨i + 1, j + 1, a, b, by omega, by simpa using ha, by simpa using hb, e⟩
    · rintro ⟨i, j, a, b, hj, ha, hb, e⟩
      obtain ⟨i, rfl⟩ : ∃ i', i = i' + 1 := ⟨i - 1, by omega⟩
      cases j with
      | zero =>
        simp at ha hb
        subst hb
        exact .inl ⟨a, List.mem_of_getElem? ha, e⟩
      | succ j => exact .inr ⟨i, j, a, b, by omega, by simpa using ha, by simpa using hb, e⟩
theorem namesOf_res (os : List S.Obj) : S.NamesRes os (S.namesOf os) := by
  unfold S.namesOf
  by_cases h1 : S.dupB os = true
  · rw [if_pos h1]; exact .inl ⟨(dupB_iff os).1 h1, rfl⟩
  · rw [if_neg h1]
    have h1' : ¬ S.DupN os := fun h => h1 ((dupB_iff os).2 h)
    by_cases h2 : os.any S.badN = true
    · rw [if_pos h2]
      obtain ⟨o, ho, hb⟩ := List.any_eq_true.1 h2
      exact .inr (.inl ⟨h1', ⟨o, ho, hb⟩, rfl⟩)
    · rw [if_neg h2]
      refine .inr (.inr ⟨h1', fun o ho => ?_, rfl⟩)
      cases hb : S.badN o
      · rfl
      · exact absurd (List.any_eq_true.2 ⟨o, ho, hb⟩) h2

/-- What Link answers is one thing. -/
theorem linkRes_fun {os : List S.Obj} {base r r' : Int} {L L' : List Int} {P P' : List (ByteArray × Int)} (h : LinkRes os base r L P) (h' : LinkRes os base r' L' P') : r = r' ∧ L = L' ∧ P = P' := by
  rcases h with ⟨h1, h2, rfl, rfl⟩ | ⟨h1, F, h2, rfl, rfl⟩
  · rcases h' with ⟨k1, k2, rfl, rfl⟩ | ⟨k1, F, k2, rfl, rfl⟩
    · exact ⟨namesRes_fun h2 k2, rfl, rfl⟩
    · exact absurd (namesRes_fun h2 k1) h1
  · rcases h' with ⟨k1, k2, rfl, rfl⟩ | ⟨k1, F', k2, rfl, rfl⟩
    · exact absurd (namesRes_fun h1 k2).symm k1
    · obtain ⟨e1, e2⟩ := formsRes_fun h2 k2
      subst e1 e2
      exact ⟨rfl, rfl, rfl⟩
theorem linkRes_names {os : List S.Obj} {base r : Int} (h : S.namesOf os = r) (hr : r ≠ 0) : LinkRes os base r [] [] := .inl ⟨hr, h ▸ namesOf_res os, rfl, rfl⟩
theorem linkRes_err {os : List S.Obj} {base r : Int} (h : S.namesOf os = 0) (hr : r ≠ 0) {F : List Int} (hf : S.FormsRes (S.joined os) base r F) : LinkRes os base r [] [] := .inr ⟨h ▸ namesOf_res os, F, hf, by rw [if_neg hr], by rw [if_neg hr]⟩
theorem linkRes_ok {os : List S.Obj} {base : Int} (h : S.namesOf os = 0) {F : List Int} (hf : S.FormsRes (S.joined os) base 0 F) : LinkRes os base 0 (S.outTo (S.joined os) F base (S.joined os).length) (S.placesTo (S.joined os) F base (S.joined os).length) :=
  .inr ⟨h ▸ namesOf_res os, F, hf, by simp, by simp⟩

/-- A literal list of objects in a block. -/
theorem Objs.lit {w : World} {b B : Nat} {cs : Array Value} {t : TypeId} {os : List S.Obj} (h : w.heap[b]? = some (.cells cs t (0, 0))) (hb : b < B)
    (hc : ∀ (i : Nat) (x : S.Obj), os[i]? = some x → cs[i * 2]? = some (.string x.name) ∧ ∃ A c, cs[i * 2 + 1]? = some (.slice A x.items.length c) ∧ Items w B A x.items)
    (hn : ∀ o ∈ os, o.name.size ≤ maxLen ∧ ∀ y ∈ o.items, y.label.size ≤ maxLen) : Objs w B (some ⟨b, 0, none⟩) os := fun _ => by
  refine ⟨b, 0, rfl, hb, fun i x hx => ?_⟩
  obtain ⟨h0, A, c, h1, h2⟩ := hc i x hx
  obtain ⟨h3, h4⟩ := hn x (List.mem_of_getElem? hx)
  refine ⟨?_, ⟨A, c, ?_, h2⟩, h3, h4⟩
  · rw [blk_cell h, Nat.zero_add]; exact h0
  · rw [blk_cell h, Nat.zero_add]; exact h1

theorem Objs.lit2 {w : World} {b B : Nat} {t : TypeId} {a o : S.Obj} {A A' : Option Addr} {n n' c c' : Nat} {s s' : ByteArray} (h : w.heap[b]? = some (.cells #[.string s, .slice A n c, .string s', .slice A' n' c'] t (0, 0))) (hb : b < B)
    (hI : Items w B A a.items) (hI' : Items w B A' o.items) (hn : ∀ q ∈ [a, o], q.name.size ≤ maxLen ∧ ∀ y ∈ q.items, y.label.size ≤ maxLen) (es : s = a.name := by rfl) (es' : s' = o.name := by rfl) (en : n = a.items.length := by rfl) (en' : n' = o.items.length := by rfl) : Objs w B (some ⟨b, 0, none⟩) [a, o] := by
  subst es es' en en'
  refine Objs.lit h hb (fun i x hx => ?_) hn
  match i, hx with
  | 0, hx => simp at hx; subst hx; exact ⟨rfl, A, c, rfl, hI⟩
  | 1, hx => simp at hx; subst hx; exact ⟨rfl, A', c', rfl, hI'⟩
  | k + 2, hx => simp at hx
theorem Objs.lit1 {w : World} {b B : Nat} {t : TypeId} {a : S.Obj} {A : Option Addr} {n c : Nat} {s : ByteArray} (h : w.heap[b]? = some (.cells #[.string s, .slice A n c] t (0, 0))) (hb : b < B)
    (hI : Items w B A a.items) (hn : ∀ q ∈ [a], q.name.size ≤ maxLen ∧ ∀ y ∈ q.items, y.label.size ≤ maxLen) (es : s = a.name := by rfl) (en : n = a.items.length := by rfl) : Objs w B (some ⟨b, 0, none⟩) [a] := by
  subst es en
  refine Objs.lit h hb (fun i x hx => ?_) hn
  match i, hx with
  | 0, hx => simp at hx; subst hx; exact ⟨rfl, A, c, rfl, hI⟩
  | k + 1, hx => simp at hx

def wordsB' (xs : List S.Item) : Bool := xs.all fun x => decide (0 ≤ x.word ∧ x.word ≤ 4294967295)
theorem words_of' {xs : List S.Item} (h : wordsB' xs = true) : ∀ x ∈ xs, 0 ≤ x.word ∧ x.word ≤ 4294967295 := fun x hx => by
  simpa using List.all_eq_true.1 h x hx
def namesB (os : List S.Obj) : Bool := os.all fun o => decide (o.name.size ≤ 100) && labsB o.items
theorem names_of {os : List S.Obj} (h : namesB os = true) : ∀ o ∈ os, o.name.size ≤ maxLen ∧ ∀ y ∈ o.items, y.label.size ≤ maxLen := by
  intro o ho
  have h1 := List.all_eq_true.1 h o ho
  simp only [Bool.and_eq_true, decide_eq_true_eq] at h1
  refine ⟨by simp only [maxLen]; omega, fun y hy => ?_⟩
  obtain ⟨k, hk, rfl⟩ := List.getElem_of_mem hy
  exact labs_of h1.2 k _ (List.getElem?_eq_getElem hk)
theorem sizes_of {os : List S.Obj} (h : namesB os = true) : ∀ (k : Nat) (o : S.Obj), os[k]? = some o → ∀ x ∈ o.items, o.name.size + x.label.size ≤ 9223372036854775807 := by
  intro k o ho x hx
  have h1 := List.all_eq_true.1 h o (List.mem_of_getElem? ho)
  simp only [Bool.and_eq_true, decide_eq_true_eq] at h1
  have h2 := List.all_eq_true.1 h1.2 x hx
  simp only [decide_eq_true_eq] at h2
  omega

end Go.Proofs.Ytbgdomnalimjnaa
