/- The names of operations: walks of isa.Name and pennantref01.Name. -/
import Derived.Test.YtjhchgbeglhoaaaDoorITxt
import Derived.Test.YtjhchgbeglhoaaaDoorOwn
import Derived.Test.YtjhchgbeglhoaaaDoorProg
import Derived.Laws.Rows
import Derived.Laws.Tables
import Derived.Laws.CopyOwn
import Derived.WalkKit
import Derived.Carry
import Derived.Deep.DeepCutAuto
import Derived.Lib.Hide
set_option linter.unusedVariables false
set_option linter.unusedSimpArgs false
set_option linter.unusedSectionVars false
namespace Go.Proofs.YtjhchgbeglhoaaaDoor
open Go.RowKit

theorem one_allocN (w : World) (cs : Array Value) (t : TypeId) : (w.alloc (.cells cs t)).heap[w.heap.size]? = some (.cells cs t (0, 0)) ∧ Below w.heap.size w (w.alloc (.cells cs t)) ∧ (w.alloc (.cells cs t)).heap.size = w.heap.size + 1 :=
  ⟨heap_alloc_new w _, (Below.refl _ _).alloc (Nat.le_refl _) _, by simp⟩
def nameCells : Array Value := (S.nameTab.map fun l => Value.string ⟨l.toArray⟩).toArray
theorem names37 : (Tryd.prog.info? 48).map (·.size) = some 37 := by kernel_rfl
theorem name_world (w : World) (old arr : Array Value) (harr : arr = nameCells) : (∀ k : Nat, k < 37 → ((w.alloc (.cells old 48)).setRow w.heap.size arr).cell? ⟨w.heap.size, k, none⟩ = some (.string ⟨(S.nameTab.getD k []).toArray⟩)) ∧
    w.heap.size < ((w.alloc (.cells old 48)).setRow w.heap.size arr).heap.size ∧ Below w.heap.size w ((w.alloc (.cells old 48)).setRow w.heap.size arr) := by
  subst harr
  obtain ⟨x1, x2, x3⟩ := one_allocN w old 48
  refine ⟨fun k hk => ?_, by rw [setRow_size]; omega, below_setRow x2 (Nat.le_refl _) _⟩
  rw [cell_of_row _ _ _ _ _ (0, 0) (setRow_heap _ _ _ _ _ _ x1)]
  unfold nameCells
  have hl : k < S.nameTab.length := hk
  rw [List.getElem?_toArray, List.getElem?_map, List.getElem?_eq_getElem hl]
  simp [hl]

set_option maxRecDepth 100000 in
set_option maxHeartbeats 1000000 in
theorem isa_Name (op : Int) (w : World) : Calls Tryd.prog 13 #[.int .i64 op] w fun e w' => e = .returned (.string ⟨(S.nameL op).toArray⟩) ∧ Below w.heap.size w w' := by
  go_enter Tryd.func13, Tryd.ntmps13
  go_upto_region 2 with (refine wpList_store_row (o := ⟨none, .store 48 (.tmp 3) (.tmp 4), _, _, _, _⟩) rfl 48 (.tmp 3) (.tmp 4) rfl w.heap.size _ rfl rfl 48 _ (one_allocN w _ _).1 (by kernel_rfl) (by kernel_rfl) (by kernel_rfl) ?_)
  refine wp_forget (fun we => (∀ k : Nat, k < 37 → we.cell? ⟨w.heap.size, k, none⟩ = some (.string ⟨(S.nameTab.getD k []).toArray⟩)) ∧ w.heap.size < we.heap.size ∧ Below w.heap.size w we) (name_world w _ _ (by kernel_rfl)) ?_
  rintro we ⟨hc, hlt, hb⟩
  by_cases h0 : op < 0
  · have Hn := Lib.hid (show S.nameL op = [] by unfold S.nameL; rw [if_neg (by omega)])
    clear hc
    go_wp2_with fail
    go_ret
    exact ⟨by rw [Hn.out]; rfl, hb⟩
  · by_cases h1 : 37 ≤ op
    · have Hn := Lib.hid (show S.nameL op = [] by unfold S.nameL; rw [if_neg (by omega)])
      clear hc
      go_wp2_with fail
      go_ret
      exact ⟨by rw [Hn.out]; rfl, hb⟩
    · obtain ⟨k, rfl⟩ : ∃ k : Nat, op = k := ⟨op.toNat, by omega⟩
      have Hn := Lib.hid (show S.nameL k = S.nameTab.getD k [] by unfold S.nameL; rw [if_pos (by omega)]; rfl)
      have hk' : we.cell? ⟨w.heap.size, k, none⟩ = some (.string ⟨(S.nameTab.getD k []).toArray⟩) := hc k (by omega)
      clear hc
      generalize S.nameTab.getD k [] = nm at *
      go_wp2_with fail
      go_ret
      exact ⟨by rw [Hn.out]; rfl, hb⟩

end Go.Proofs.YtjhchgbeglhoaaaDoor
