/- Plain: the clone of emit.Check, instruction by instruction. -/
import Derived.Test.YtkdalaiponchbaaDoorEVls
set_option linter.unusedVariables false
set_option linter.unusedSimpArgs false
set_option linter.unusedSectionVars false
namespace Go.Proofs.YtkdalaiponchbaaDoor
open Go.RowKit

def mvV (x : VL) : VL := { x with i := S.moved x.i }
theorem mv_split {α : Type} (xs : List α) (k : Nat) (x : α) (h : xs[k]? = some x) : xs.drop k = x :: xs.drop (k + 1) ∧ xs.take (k + 1) = xs.take k ++ [x] := by
  obtain ⟨hk, hx⟩ := List.getElem?_eq_some_iff.1 h
  refine ⟨by rw [List.drop_eq_getElem_cons hk, hx], ?_⟩
  rw [List.take_add_one, h]; rfl
theorem mv_store (xs : List VL) (k : Nat) (x : VL) (h : xs[k]? = some x) (hm : S.moves x.i = true) :
    (((xs.take k).map mvV ++ xs.drop k).flatMap VL.cells).set (k * 8) (.int .i64 64) = ((xs.take (k + 1)).map mvV ++ xs.drop (k + 1)).flatMap VL.cells := by
  obtain ⟨h1, h2⟩ := mv_split xs k x h
  have hk := (List.getElem?_eq_some_iff.1 h).1
  have hl : (((xs.take k).map mvV).flatMap VL.cells).length = k * 8 := by rw [vflat_len]; simp; omega
  have hc : (mvV x).cells = .int .i64 64 :: x.cells.tail := by
    simp [mvV, VL.cells, S.moved, hm]
  rw [h1, h2, List.map_append, List.flatMap_append, List.flatMap_append, List.flatMap_append, List.flatMap_cons]
  rw [List.set_append_right _ _ (by omega), hl, Nat.sub_self]
  simp only [List.map_cons, List.map_nil, List.flatMap_cons, List.flatMap_nil, List.append_nil, hc]
  simp [VL.cells]
theorem mv_same (xs : List VL) (k : Nat) (x : VL) (h : xs[k]? = some x) (hm : S.moves x.i = false) :
    ((xs.take k).map mvV ++ xs.drop k) = ((xs.take (k + 1)).map mvV ++ xs.drop (k + 1)) := by
  obtain ⟨h1, h2⟩ := mv_split xs k x h
  have hc : mvV x = x := by simp [mvV, S.moved, hm]
  rw [h1, h2, List.map_append, List.map_cons, List.map_nil, hc, List.append_assoc]; rfl
theorem mv_all (xs : List VL) : ((xs.take xs.length).map mvV ++ xs.drop xs.length) = xs.map mvV := by simp
theorem mv_insts (xs : List VL) : (xs.map mvV).map VL.i = (xs.map VL.i).map S.moved := by
  rw [List.map_map, List.map_map]; rfl
theorem VOk.more {w : World} {B B' : Nat} {x : VL} (h : VOk w B x) (hB : B ≤ B') : VOk w B' x := ⟨h.us.more hB, h.mp.more hB, h.ul, h.ml, h.un, h.mn, h.op, h.d, h.imm, h.label⟩
theorem VOk.mv {w : World} {B : Nat} {x : VL} (h : VOk w B x) : VOk w B (mvV x) := by
  have e : mvV x = x ∨ mvV x = { x with i := { x.i with op := 64 } } := by
    unfold mvV S.moved
    cases S.moves x.i
    · exact Or.inl rfl
    · exact Or.inr rfl
  rcases e with e | e <;> rw [e]
  · exact h
  · exact ⟨h.us, h.mp, h.ul, h.ml, h.un, h.mn, by show I64 64; unfold I64; omega, h.d, h.imm, h.label⟩
theorem VLs.of_own {w : World} {base : Nat} {e : TypeId} {A : Option Addr} {m c n : Nat} {xs : List VL} (h : w.ownsRow base e 8 (.slice A m c) n (xs.flatMap VL.cells)) : VLs w w.heap.size A xs := fun hp => by
  have hl : (xs.flatMap VL.cells).length = n * 8 := h.1
  rw [vflat_len] at hl
  obtain ⟨g, rfl, _, hg2, _, hg4, _⟩ := ownsRow_at h (by omega)
  refine ⟨g, 0, rfl, hg2, fun i x hx => ?_⟩
  have hi := (List.getElem?_eq_some_iff.1 hx).1
  have hc : ∀ j, j < 8 → w.cell? ⟨g, 0 + i * 8 + j, none⟩ = x.cells[j]? := by
    intro j hj
    rw [Nat.zero_add, hg4 _ (by omega), vflat_at xs i x hx j hj]
  exact ⟨hc 0 (by omega), hc 1 (by omega), hc 2 (by omega), hc 3 (by omega), hc 4 (by omega), hc 5 (by omega), hc 6 (by omega), hc 7 (by omega)⟩

theorem ints3 {w : World} {B g : Nat} {a b c : Int} {T : TypeId} (h : w.heap[g]? = some (.cells #[.int .i64 a, .int .i64 b, .int .i64 c] T (0, 0))) (hg : g < B) : Ints w B (some ⟨g, 0, none⟩) [a, b, c] := fun _ => ⟨g, 0, rfl, hg, fun i y hy => by
  rw [Nat.zero_add, cell_of_row w g i _ _ (0, 0) h]
  match i, hy with
  | 0, hy => simp only [List.getElem?_cons_zero, Option.some.injEq] at hy; subst hy; rfl
  | 1, hy => simp only [List.getElem?_cons_succ, List.getElem?_cons_zero, Option.some.injEq] at hy; subst hy; rfl
  | 2, hy => simp only [List.getElem?_cons_succ, List.getElem?_cons_zero, Option.some.injEq] at hy; subst hy; rfl
  | i + 3, hy => simp at hy⟩
theorem three_below (w : World) (a b c : Obj) : Below w.heap.size w (((w.alloc a).alloc b).alloc c) :=
  (((Below.refl w.heap.size w).alloc (Nat.le_refl _) a).alloc (by simp) b).alloc (by simp <;> omega) c
theorem three_cells (w : World) (a b c : Obj) : ((((w.alloc a).alloc b).alloc c).heap[w.heap.size]? = some a ∧ (((w.alloc a).alloc b).alloc c).heap[w.heap.size + 1]? = some b ∧ (((w.alloc a).alloc b).alloc c).heap[w.heap.size + 2]? = some c) := by
  have h1 : ((w.alloc a).alloc b).heap.size = w.heap.size + 2 := by simp
  have h0 : (w.alloc a).heap.size = w.heap.size + 1 := by simp
  have b2 := (Below.refl ((w.alloc a).alloc b).heap.size ((w.alloc a).alloc b)).alloc (Nat.le_refl _) c
  have b1 := (Below.refl (w.alloc a).heap.size (w.alloc a)).alloc (Nat.le_refl _) b
  refine ⟨?_, ?_, ?_⟩
  · rw [b2.block _ (by omega), b1.block _ (by omega)]
    exact heap_alloc_new w a
  · rw [b2.block _ (by omega), ← h0]
    exact heap_alloc_new _ b
  · rw [← h1]
    exact heap_alloc_new _ c

theorem ints2 {w : World} {B g : Nat} {a b : Int} {T : TypeId} (h : w.heap[g]? = some (.cells #[.int .i64 a, .int .i64 b] T (0, 0))) (hg : g < B) : Ints w B (some ⟨g, 0, none⟩) [a, b] := fun _ => ⟨g, 0, rfl, hg, fun i y hy => by
  rw [Nat.zero_add, cell_of_row w g i _ _ (0, 0) h]
  match i, hy with
  | 0, hy => simp only [List.getElem?_cons_zero, Option.some.injEq] at hy; subst hy; rfl
  | 1, hy => simp only [List.getElem?_cons_succ, List.getElem?_cons_zero, Option.some.injEq] at hy; subst hy; rfl
  | i + 2, hy => simp at hy⟩

end Go.Proofs.YtkdalaiponchbaaDoor
