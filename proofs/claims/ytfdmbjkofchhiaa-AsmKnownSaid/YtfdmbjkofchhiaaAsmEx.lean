/- Plain: the chapter's examples of layer 3. -/
import Derived.Test.YtfdmbjkofchhiaaAsmChk
set_option linter.unusedVariables false
set_option linter.unusedSimpArgs false
set_option linter.unusedSectionVars false
namespace Go.Proofs.Ytfdmbjkofchhiaa
open Go.RowKit
namespace S

def checkOf (xs : List Item) (base : Int) : Int :=
  if base < 0 ∨ most26 < base then 2 else if firstErr xs ≠ 0 then firstErr xs
  else if allAt xs (fun i x => decide (x.kind = 2 → stands xs x.label = i)) = false then 14
  else if allAt xs (fun _ x => decide (named x = true → 0 ≤ stands xs x.label)) = false then 12 else 0

def far : List Item := [⟨3, ⟨26, 0, 1, 2, 0⟩, ⟨#[98]⟩, 0⟩, ⟨8, ⟨0, 0, 0, 0, 0⟩, ⟨#[]⟩, 40000⟩, ⟨2, ⟨0, 0, 0, 0, 0⟩, ⟨#[98]⟩, 0⟩]
def adr : List Item := [⟨5, ⟨0, 3, 0, 0, 0⟩, ⟨#[98]⟩, 0⟩, ⟨7, ⟨0, 0, 0, 0, 0⟩, ⟨#[98]⟩, 1⟩, ⟨2, ⟨0, 0, 0, 0, 0⟩, ⟨#[98]⟩, 0⟩]
def n1 : List Item := [⟨4, ⟨0, 0, 0, 0, 0⟩, ⟨#[99]⟩, 0⟩]
def n2 : List Item := [⟨2, ⟨0, 0, 0, 0, 0⟩, ⟨#[97]⟩, 0⟩, ⟨2, ⟨0, 0, 0, 0, 0⟩, ⟨#[97]⟩, 0⟩]
def n3 : List Item := [⟨9, ⟨0, 0, 0, 0, 0⟩, ⟨#[]⟩, 0⟩]
def n4 : List Item := [⟨3, ⟨1, 0, 0, 0, 0⟩, ⟨#[97]⟩, 0⟩, ⟨2, ⟨0, 0, 0, 0, 0⟩, ⟨#[97]⟩, 0⟩]
def n5 : List Item := []
def n6 : List Item := [⟨8, ⟨0, 0, 0, 0, 0⟩, ⟨#[]⟩, 1⟩]
def n7 : List Item := [⟨4, ⟨0, 32, 0, 0, 0⟩, ⟨#[97]⟩, 0⟩, ⟨2, ⟨0, 0, 0, 0, 0⟩, ⟨#[97]⟩, 0⟩]

end S

theorem allAt_not {xs : List S.Item} {p : Nat → S.Item → Bool} (h : S.allAt xs p = false) : ∃ (i : Nat) (x : S.Item), xs[i]? = some x ∧ p i x = false := by
  unfold S.allAt at h
  rw [List.all_eq_false] at h
  obtain ⟨i, hi, hp⟩ := h
  cases hx : xs[i]? with
  | none => simp [hx] at hp
  | some x => exact ⟨i, x, hx, by simpa [hx] using hp⟩
theorem checkOf_res (xs : List S.Item) (base : Int) : S.CheckRes xs base (S.checkOf xs base) := by
  unfold S.checkOf
  by_cases h1 : base < 0 ∨ S.most26 < base
  · rw [if_pos h1]; exact .inl ⟨h1, rfl⟩
  rw [if_neg h1]
  have hb : 0 ≤ base ∧ base ≤ S.most26 := by omega
  by_cases h2 : S.firstErr xs ≠ 0
  · rw [if_pos h2]; exact .inr (.inl ⟨hb.1, hb.2, h2, rfl⟩)
  rw [if_neg h2]
  have h2' : S.firstErr xs = 0 := by omega
  by_cases h3 : S.allAt xs (fun i x => decide (x.kind = 2 → S.stands xs x.label = i)) = false
  · rw [if_pos h3]
    obtain ⟨i, x, hx, hp⟩ := allAt_not h3
    have hp := Classical.not_imp.1 (of_decide_eq_false hp)
    exact .inr (.inr (.inl ⟨hb.1, hb.2, h2', ⟨i, x, hx, hp.1, hp.2⟩, rfl⟩))
  rw [if_neg h3]
  have hd : ¬ S.Dup xs := by
    rintro ⟨i, x, hx, hk, hs⟩
    have := allAt_of (eq_true_of_ne_false h3) hx
    exact hs (of_decide_eq_true this hk)
  by_cases h4 : S.allAt xs (fun _ x => decide (S.named x = true → 0 ≤ S.stands xs x.label)) = false
  · rw [if_pos h4]
    obtain ⟨i, x, hx, hp⟩ := allAt_not h4
    have hp := Classical.not_imp.1 (of_decide_eq_false hp)
    exact .inr (.inr (.inr (.inl ⟨hb.1, hb.2, h2', hd, ⟨i, x, hx, hp.1, by omega⟩, rfl⟩)))
  rw [if_neg h4]
  have hm : ¬ S.Miss xs := by
    rintro ⟨i, x, hx, hn, hs⟩
    have := allAt_of (eq_true_of_ne_false h4) hx
    have := of_decide_eq_true this hn
    omega
  exact .inr (.inr (.inr (.inr ⟨hb.1, hb.2, h2', hd, hm, rfl⟩)))
theorem err_res {xs : List S.Item} {base r : Int} (h : S.checkOf xs base = r) (hr : r ≠ 0) : S.FormsRes xs base r [] := .inl ⟨hr, h ▸ checkOf_res xs base, rfl⟩
theorem long_res {xs : List S.Item} {base : Int} (h : S.checkOf xs base = 0) (hl : S.most26 < S.addr xs (xs.map S.startForm) base xs.length) : S.FormsRes xs base 3 [] :=
  .inr (.inl ⟨h ▸ checkOf_res xs base, rfl, rfl, _, form_start xs base, hl⟩)
def wordsB (xs : List S.Item) : Bool := xs.all fun x => decide (0 ≤ x.word ∧ x.word ≤ 4294967295)
theorem words_of {xs : List S.Item} (h : wordsB xs = true) : ∀ x ∈ xs, 0 ≤ x.word ∧ x.word ≤ 4294967295 := fun x hx => by
  simpa using List.all_eq_true.1 h x hx

theorem far_labs : labsB S.far = true := by kernel_rfl
theorem far_words : wordsB S.far = true := by kernel_rfl
theorem adr_labs : labsB S.adr = true := by kernel_rfl
theorem adr_words : wordsB S.adr = true := by kernel_rfl
theorem n1_labs : labsB S.n1 = true := by kernel_rfl
theorem n1_words : wordsB S.n1 = true := by kernel_rfl
theorem n2_labs : labsB S.n2 = true := by kernel_rfl
theorem n2_words : wordsB S.n2 = true := by kernel_rfl
theorem n3_labs : labsB S.n3 = true := by kernel_rfl
theorem n3_words : wordsB S.n3 = true := by kernel_rfl
theorem n4_labs : labsB S.n4 = true := by kernel_rfl
theorem n4_words : wordsB S.n4 = true := by kernel_rfl
theorem n5_labs : labsB S.n5 = true := by kernel_rfl
theorem n5_words : wordsB S.n5 = true := by kernel_rfl
theorem n6_labs : labsB S.n6 = true := by kernel_rfl
theorem n6_words : wordsB S.n6 = true := by kernel_rfl
theorem n7_labs : labsB S.n7 = true := by kernel_rfl
theorem n7_words : wordsB S.n7 = true := by kernel_rfl
theorem n1_res : S.FormsRes S.n1 0 12 [] := err_res (by kernel_rfl) (by decide)
theorem n2_res : S.FormsRes S.n2 0 14 [] := err_res (by kernel_rfl) (by decide)
theorem n3_res : S.FormsRes S.n3 0 4 [] := err_res (by kernel_rfl) (by decide)
theorem n4_res : S.FormsRes S.n4 0 11 [] := err_res (by kernel_rfl) (by decide)
theorem n5_res : S.FormsRes S.n5 (-1) 2 [] := err_res (by kernel_rfl) (by decide)
theorem n6_res : S.FormsRes S.n6 67108864 3 [] := long_res (by kernel_rfl) (of_decide_eq_true (by kernel_rfl))
theorem n7_res : S.FormsRes S.n7 0 11 [] := err_res (by kernel_rfl) (by decide)
theorem far_res : S.FormsRes S.far 0 0 [2, 0, 0] := okB_res (js := [0]) (by kernel_rfl)
theorem adr_res : S.FormsRes S.adr 65536 0 [0, 0, 0] := okB_res (js := []) (by kernel_rfl)
theorem adr_out : S.outTo S.adr [0, 0, 0] 65536 S.adr.length = [1549795329, 1147338755, 262157] := by kernel_rfl
theorem adr_places : S.placesTo S.adr [0, 0, 0] 65536 S.adr.length = [(⟨#[98]⟩, 65539)] := by kernel_rfl
theorem far_0 : S.wordsAt S.far [2, 0, 0] 0 0 = [1814167553, 2147523648] := by kernel_rfl
theorem far_1 : S.wordsAt S.far [2, 0, 0] 0 1 = List.replicate 40000 0 := rfl
theorem far_2 : S.wordsAt S.far [2, 0, 0] 0 2 = [] := by kernel_rfl
theorem far_out : S.outTo S.far [2, 0, 0] 0 S.far.length = 1814167553 :: 2147523648 :: List.replicate 40000 0 := by
  show ((([] ++ S.wordsAt S.far [2, 0, 0] 0 0) ++ S.wordsAt S.far [2, 0, 0] 0 1) ++ S.wordsAt S.far [2, 0, 0] 0 2) = _
  rw [far_0, far_1, far_2]
  simp only [List.nil_append, List.append_nil]
  rfl
theorem far_len : ((S.outTo S.far [2, 0, 0] 0 S.far.length).length : Int) = 40002 := by
  rw [far_out, List.length_cons, List.length_cons, List.length_replicate]
  rfl
theorem far_le : ([1814167553, 2147523648, 0] : List Int).length ≤ (S.outTo S.far [2, 0, 0] 0 S.far.length).length := by
  have := far_len
  have e : ([1814167553, 2147523648, 0] : List Int).length = 3 := rfl
  omega
theorem far_pre : ∀ (k : Nat) (v : Int), ([1814167553, 2147523648, 0] : List Int)[k]? = some v → (S.outTo S.far [2, 0, 0] 0 S.far.length)[k]? = some v := by
  rw [far_out]
  intro k v h
  match k, h with
  | 0, h => exact h
  | 1, h => exact h
  | 2, h =>
    rw [List.getElem?_cons_succ, List.getElem?_cons_succ, List.getElem?_replicate, if_pos (by decide)]
    exact h
  | k + 3, h => exact absurd h (by intro h; cases h)
theorem far_places : S.placesTo S.far [2, 0, 0] 0 S.far.length = [(⟨#[98]⟩, 40002)] := by kernel_rfl

end Go.Proofs.Ytfdmbjkofchhiaa
