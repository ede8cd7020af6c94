/- Literal lists of items. -/
import Derived.Test.YtbgdomnalimjnaaAsmJ
import Derived.Test.YtbgdomnalimjnaaItemA
set_option linter.unusedVariables false
set_option linter.unusedSimpArgs false
set_option linter.unusedSectionVars false
namespace Go.Proofs.Ytbgdomnalimjnaa
open Go.RowKit

/-- A literal list of items in a block. -/
theorem Items.lit {w : World} {b B : Nat} {cs : Array Value} {t : TypeId} {xs : List S.Item} (h : w.heap[b]? = some (.cells cs t (0, 0))) (hcs : cs.toList = xs.flatMap itemCells) (hb : b < B) (hw : ∀ x ∈ xs, 0 ≤ x.word ∧ x.word ≤ 4294967295) :
    Items w B (some ⟨b, 0, none⟩) xs := fun _ => by
  refine ⟨b, 0, rfl, hb, fun i x hx => ?_⟩
  have hc : ∀ j, j < 8 → w.cell? ⟨b, 0 + i * 8 + j, none⟩ = (itemCells x)[j]? := by
    intro j hj
    rw [blk_cell h, ← flat_item xs i x hx j hj, ← hcs]
    simp
  have hm := hw x (List.mem_of_getElem? hx)
  exact ⟨hc 0 (by omega), hc 1 (by omega), hc 2 (by omega), hc 3 (by omega), hc 4 (by omega), hc 5 (by omega), hc 6 (by omega), hc 7 (by omega), hm.1, hm.2⟩
theorem Reads.lit {w : World} {b B : Nat} {cs : Array Value} {t : TypeId} {L : List Value} (h : w.heap[b]? = some (.cells cs t (0, 0))) (hcs : cs.toList = L) (hb : b < B) : Reads w B (some ⟨b, 0, none⟩) L := fun _ => by
  refine ⟨b, 0, rfl, hb, fun i x hx => ?_⟩
  rw [blk_cell h, Nat.zero_add, ← hx, ← hcs]
  simp
theorem two_alloc (w : World) (cs ds : Array Value) (t u : TypeId) :
    ((w.alloc (.cells cs t)).alloc (.cells ds u)).heap[w.heap.size]? = some (.cells cs t (0, 0)) ∧ ((w.alloc (.cells cs t)).alloc (.cells ds u)).heap[w.heap.size + 1]? = some (.cells ds u (0, 0)) ∧
      Below w.heap.size w ((w.alloc (.cells cs t)).alloc (.cells ds u)) ∧ ((w.alloc (.cells cs t)).alloc (.cells ds u)).heap.size = w.heap.size + 2 := by
  refine ⟨(Below.heap_alloc _ _ _ (by simp)).trans (heap_alloc_new _ _), ?_, ((Below.refl _ _).alloc (Nat.le_refl _) _).alloc (by simp) _, by simp⟩
  have := heap_alloc_new (w.alloc (.cells cs t)) (.cells ds u)
  simpa using this

end Go.Proofs.Ytbgdomnalimjnaa
