/- Items as cells. -/
import Derived.Test.YtbgdomnalimjnaaAsmB
import Derived.Test.YtbgdomnalimjnaaOwnC
set_option linter.unusedVariables false
set_option linter.unusedSimpArgs false
set_option linter.unusedSectionVars false
namespace Go.Proofs.Ytbgdomnalimjnaa
open Go.RowKit

def itemV (x : S.Item) : Value := .agg #[.int .i64 x.kind, .int .i64 x.inst.op, .int .i64 x.inst.d, .int .i64 x.inst.a, .int .i64 x.inst.b, .int .i64 x.inst.imm, .string x.label, .int .u32 x.word]
def itemCells (x : S.Item) : List Value := [.int .i64 x.kind, .int .i64 x.inst.op, .int .i64 x.inst.d, .int .i64 x.inst.a, .int .i64 x.inst.b, .int .i64 x.inst.imm, .string x.label, .int .u32 x.word]

theorem flat_item (L : List S.Item) (i : Nat) (x : S.Item) (h : L[i]? = some x) (j : Nat) (hj : j < 8) : (L.flatMap itemCells)[i * 8 + j]? = (itemCells x)[j]? := by
  induction L generalizing i with
  | nil => simp at h
  | cons q L ih =>
    cases i with
    | zero =>
      simp only [List.getElem?_cons_zero, Option.some.injEq] at h
      subst h
      rw [List.flatMap_cons, List.getElem?_append_left (by simp [itemCells]; omega)]
      simp
    | succ i =>
      have h1 := ih i (by simpa using h)
      have e1 : (i + 1) * 8 + j = (itemCells q).length + (i * 8 + j) := by simp [itemCells]; omega
      rw [List.flatMap_cons, e1, List.getElem?_append_right (by omega), Nat.add_sub_cancel_left]
      exact h1

theorem flat8_len (xs : List S.Item) : (xs.flatMap itemCells).length = xs.length * 8 := by
  induction xs with
  | nil => rfl
  | cons x r ih => rw [List.flatMap_cons, List.length_append, ih]; simp [itemCells]; omega
/-- Items read as a row of cells. -/
theorem Items.reads {w : World} {B : Nat} {A : Option Addr} {xs : List S.Item} (h : Items w B A xs) : Reads w B A (xs.flatMap itemCells) := fun hp => by
  rw [flat8_len] at hp
  obtain ⟨b, off, e, hB, hc⟩ := h (by omega)
  refine ⟨b, off, e, hB, fun i v hv => ?_⟩
  have hlt := (List.getElem?_eq_some_iff.1 hv).1
  rw [flat8_len] at hlt
  have hq : i / 8 < xs.length := by omega
  have hx : xs[i / 8]? = some xs[i / 8] := List.getElem?_eq_getElem hq
  have ei : i / 8 * 8 + i % 8 = i := by omega
  have h1 := flat_item xs (i / 8) _ hx (i % 8) (by omega)
  rw [ei, hv] at h1
  obtain ⟨h0, h1', h2, h3, h4, h5, h6, h7, _, _⟩ := hc (i / 8) _ hx
  have hr : i % 8 = 0 ∨ i % 8 = 1 ∨ i % 8 = 2 ∨ i % 8 = 3 ∨ i % 8 = 4 ∨ i % 8 = 5 ∨ i % 8 = 6 ∨ i % 8 = 7 := by omega
  have eo : off + i = off + i / 8 * 8 + i % 8 := by omega
  rw [eo]
  rcases hr with r | r | r | r | r | r | r | r
  all_goals
    rw [r] at h1 ⊢
    simp only [itemCells, List.getElem?_cons_zero, List.getElem?_cons_succ] at h1
    cases h1
    assumption
theorem cells_one (xs : List S.Item) : ∀ u ∈ xs.flatMap itemCells, u.oneCell' = true := by
  intro u hu
  obtain ⟨x, _, hx⟩ := List.mem_flatMap.1 hu
  simp only [itemCells, List.mem_cons, List.not_mem_nil, or_false] at hx
  rcases hx with rfl | rfl | rfl | rfl | rfl | rfl | rfl | rfl <;> rfl
/-- A row of the call's own reads as items. -/
theorem Items.of_own {w : World} {base : Nat} {e : TypeId} {A : Option Addr} {m c n : Nat} {xs : List S.Item} (h : w.ownsRow base e 8 (.slice A m c) n (xs.flatMap itemCells)) (hw : ∀ x ∈ xs, 0 ≤ x.word ∧ x.word ≤ 4294967295) : Items w w.heap.size A xs := fun hp => by
  have hl : (xs.flatMap itemCells).length = n * 8 := h.1
  rw [flat8_len] at hl
  obtain ⟨g, rfl, _, hg2, _, hg4, _⟩ := ownsRow_at h (by omega)
  refine ⟨g, 0, rfl, hg2, fun i x hx => ?_⟩
  have hi := (List.getElem?_eq_some_iff.1 hx).1
  have hc : ∀ j, j < 8 → w.cell? ⟨g, 0 + i * 8 + j, none⟩ = (itemCells x)[j]? := by
    intro j hj
    rw [Nat.zero_add, hg4 _ (by omega), flat_item xs i x hx j hj]
  obtain ⟨w0, w1⟩ := hw x (List.mem_of_getElem? hx)
  exact ⟨hc 0 (by omega), hc 1 (by omega), hc 2 (by omega), hc 3 (by omega), hc 4 (by omega), hc 5 (by omega), hc 6 (by omega), hc 7 (by omega), w0, w1⟩

end Go.Proofs.Ytbgdomnalimjnaa
