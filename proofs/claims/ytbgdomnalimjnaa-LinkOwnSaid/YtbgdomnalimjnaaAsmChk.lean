/- Plain: the forms of given items, by a check that the kernel carries out. No program in sight. -/
import Derived.Test.YtbgdomnalimjnaaAsmOut
import Derived.KernelRfl
set_option linter.unusedVariables false
set_option linter.unusedSimpArgs false
set_option linter.unusedSectionVars false
namespace Go.Proofs.Ytbgdomnalimjnaa
namespace S

/-- Forms that grow at the places of a list, each of which does not fit. -/
def growTo (xs : List Item) (base : Int) : List Nat → List Int → Option (List Int)
  | [], F => some F
  | i :: r, F => match xs[i]? with
    | none => none
    | some x => if fit xs F base i x = false then growTo xs base r (F.set i (F.getD i 0 + 1)) else none

/-- All items from a place on pass a test. -/
def allAt (xs : List Item) (p : Nat → Item → Bool) : Bool := (List.range xs.length).all fun i => match xs[i]? with | none => true | some x => p i x

def okB (xs : List Item) (base : Int) (js : List Nat) (F : List Int) : Bool :=
  decide (0 ≤ base ∧ base ≤ 67108864) && decide (firstErr xs = 0) && allAt xs (fun i x => decide (x.kind = 2 → stands xs x.label = i)) && allAt xs (fun _ x => decide (named x = true → 0 ≤ stands xs x.label)) &&
    allAt xs (fun _ x => decide (0 ≤ x.word ∧ x.word ≤ 4294967295)) && decide (growTo xs base js (xs.map startForm) = some F) && allAt xs (fun i x => fit xs F base i x) && decide (addr xs F base xs.length ≤ 67108864)

end S

theorem allAt_of {xs : List S.Item} {p : Nat → S.Item → Bool} (h : S.allAt xs p = true) {i : Nat} {x : S.Item} (hx : xs[i]? = some x) : p i x = true := by
  have h1 := List.all_eq_true.1 h i (List.mem_range.2 (List.getElem?_eq_some_iff.1 hx).1)
  simpa [hx] using h1

theorem growTo_inv {xs : List S.Item} {base : Int} (hw : ∀ x ∈ xs, 0 ≤ x.word ∧ x.word ≤ 4294967295) : ∀ (js : List Nat) (F G : List Int), S.Inv xs base F → S.growTo xs base js F = some G → S.Inv xs base G
  | [], F, G, hF, h => by
    simp only [S.growTo, Option.some.injEq] at h
    exact h ▸ hF
  | i :: r, F, G, hF, h => by
    cases hx : xs[i]? with
    | none => simp [S.growTo, hx] at h
    | some x =>
      simp only [S.growTo, hx] at h
      split at h
      · rename_i hf
        exact growTo_inv hw r _ G (inv_grow hF hF hw hx rfl hf) h
      · cases h

theorem okB_res {xs : List S.Item} {base : Int} {js : List Nat} {F : List Int} (h : S.okB xs base js F = true) : S.FormsRes xs base 0 F := by
  simp only [S.okB, Bool.and_eq_true, decide_eq_true_eq] at h
  obtain ⟨⟨⟨⟨⟨⟨⟨hb, he⟩, hd⟩, hm⟩, hw⟩, hg⟩, hf⟩, ha⟩ := h
  have hw' : ∀ x ∈ xs, 0 ≤ x.word ∧ x.word ≤ 4294967295 := by
    intro x hx
    obtain ⟨i, hi, rfl⟩ := List.getElem_of_mem hx
    simpa using allAt_of hw (List.getElem?_eq_getElem hi)
  have hinv := growTo_inv hw' js _ F (form_start xs base) hg
  refine .inr (.inr ⟨.inr (.inr (.inr (.inr ⟨hb.1, hb.2, he, ?_, ?_, rfl⟩))), rfl, hinv, ⟨hinv.1, fun i x hx => allAt_of hf hx⟩, ha⟩)
  · rintro ⟨i, x, hx, hk, hs⟩
    have := allAt_of hd hx
    simp only [decide_eq_true_eq] at this
    exact hs (this hk)
  · rintro ⟨i, x, hx, hn, hs⟩
    have := allAt_of hm hx
    simp only [decide_eq_true_eq] at this
    have := this hn
    omega

namespace S
def kA : ByteArray := ⟨#[97]⟩
def kB : ByteArray := ⟨#[98]⟩
def ex1 : List Item := [⟨2, ⟨0, 0, 0, 0, 0⟩, ⟨#[97]⟩, 0⟩, ⟨4, ⟨0, 0, 0, 0, 0⟩, ⟨#[97]⟩, 0⟩]
def ex2 : List Item := [⟨3, ⟨26, 0, 1, 2, 0⟩, ⟨#[98]⟩, 0⟩, ⟨6, ⟨0, 0, 0, 0, 0⟩, ⟨#[]⟩, 7⟩, ⟨2, ⟨0, 0, 0, 0, 0⟩, ⟨#[98]⟩, 0⟩]
end S
theorem ex1_res : S.FormsRes S.ex1 5 0 [0, 1] := okB_res (js := []) (by kernel_rfl)
theorem ex2_res : S.FormsRes S.ex2 0 0 [1, 0, 0] := okB_res (js := []) (by kernel_rfl)
theorem ex1_out : S.outTo S.ex1 [0, 1] 5 S.ex1.length = [2149580799] := by kernel_rfl
theorem ex1_places : S.placesTo S.ex1 [0, 1] 5 S.ex1.length = [(⟨#[97]⟩, 5)] := by kernel_rfl
theorem ex2_out : S.outTo S.ex2 [1, 0, 0] 0 S.ex2.length = [1747058689, 7] := by kernel_rfl
theorem ex2_places : S.placesTo S.ex2 [1, 0, 0] 0 S.ex2.length = [(⟨#[98]⟩, 2)] := by kernel_rfl

def labsB (xs : List S.Item) : Bool := xs.all fun y => decide (y.label.size ≤ 100)
theorem labs_of {xs : List S.Item} (h : labsB xs = true) : ∀ (k : Nat) (x : S.Item), xs[k]? = some x → x.label.size ≤ maxLen := by
  intro k x hk
  have h1 := List.all_eq_true.1 h x (List.mem_of_getElem? hk)
  simp only [decide_eq_true_eq] at h1
  simp only [maxLen]
  omega
theorem ex1_labs : labsB S.ex1 = true := by kernel_rfl
theorem ex2_labs : labsB S.ex2 = true := by kernel_rfl

end Go.Proofs.Ytbgdomnalimjnaa
