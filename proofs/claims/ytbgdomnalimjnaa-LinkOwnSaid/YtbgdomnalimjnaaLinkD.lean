/- Plain: items whose labels are told wholly one by one. -/
import Derived.Test.YtbgdomnalimjnaaLinkC
set_option linter.unusedVariables false
set_option linter.unusedSimpArgs false
set_option linter.unusedSectionVars false
namespace Go.Proofs.Ytbgdomnalimjnaa
open Go.RowKit

/-- The first q items have their labels told wholly. -/
def mixed (nm : ByteArray) (its : List S.Item) (q : Nat) : List S.Item := (its.take q).map (S.ownItem nm) ++ its.drop q
theorem mixed_zero (nm : ByteArray) (its : List S.Item) : mixed nm its 0 = its := by simp [mixed]
theorem mixed_all (nm : ByteArray) (its : List S.Item) : mixed nm its its.length = its.map (S.ownItem nm) := by simp [mixed]
theorem mixed_length (nm : ByteArray) (its : List S.Item) (q : Nat) (h : q ≤ its.length) : (mixed nm its q).length = its.length := by
  simp [mixed]; omega
theorem mixed_at (nm : ByteArray) (its : List S.Item) (q : Nat) (h : q < its.length) : (mixed nm its q)[q]? = some its[q] := by
  unfold mixed
  rw [List.getElem?_append_right (by simp; omega)]
  simp [Nat.min_eq_left (Nat.le_of_lt h)]
theorem mixed_succ (nm : ByteArray) (its : List S.Item) (q : Nat) (h : q < its.length) : (mixed nm its q).set q (S.ownItem nm its[q]) = mixed nm its (q + 1) := by
  apply List.ext_getElem?
  intro i
  unfold mixed
  by_cases e : i = q
  · subst e
    rw [List.getElem?_set_self (by simp; omega)]
    rw [List.getElem?_append_left (by simp; omega)]
    simp [List.getElem?_take, h]
  · rw [List.getElem?_set_ne (Ne.symm e)]
    by_cases l : i < q
    · rw [List.getElem?_append_left (by simp; omega), List.getElem?_append_left (by simp; omega)]
      simp [List.getElem?_take, l, show i < q + 1 by omega]
    · rw [List.getElem?_append_right (by simp; omega), List.getElem?_append_right (by simp; omega)]
      simp only [List.length_map, List.length_take, List.getElem?_drop]
      congr 1
      omega
theorem flat_set (L : List S.Item) (q : Nat) (x : S.Item) (s : ByteArray) (h : L[q]? = some x) :
    (L.flatMap itemCells).set (q * 8 + 6) (.string s) = (L.set q ⟨x.kind, x.inst, s, x.word⟩).flatMap itemCells := by
  induction L generalizing q with
  | nil => simp at h
  | cons y r ih =>
    cases q with
    | zero =>
      simp only [List.getElem?_cons_zero, Option.some.injEq] at h
      subst h
      simp [itemCells]
    | succ q =>
      have h1 := ih q (by simpa using h)
      have e1 : (q + 1) * 8 + 6 = (itemCells y).length + (q * 8 + 6) := by simp [itemCells]; omega
      rw [List.flatMap_cons, e1, List.set_append_right _ _ (by omega), Nat.add_sub_cancel_left, h1, List.set_cons_succ, List.flatMap_cons]
theorem mixed_store (nm : ByteArray) (its : List S.Item) (q : Nat) (h : q < its.length) :
    ((mixed nm its q).flatMap itemCells).set (q * 8 + 6) (.string (S.owned nm its[q].label)) = (mixed nm its (q + 1)).flatMap itemCells := by
  rw [flat_set _ q _ _ (mixed_at nm its q h), ← mixed_succ nm its q h]
  rfl

end Go.Proofs.Ytbgdomnalimjnaa
