/- The maker of items: walks of its methods. -/
import Derived.Test.YtkdalaiponchbaaDoorMemB
import Derived.Test.YtkdalaiponchbaaDoorESpec
import Derived.Lib.AppendIntMem
set_option linter.unusedVariables false
set_option linter.unusedSimpArgs false
set_option linter.unusedSectionVars false
namespace Go.Proofs.YtkdalaiponchbaaDoor
open Go.RowKit

/-- A maker at block mb, made by the call (from base on), holding items; the words' slice stands beside. -/
def MkAt (base mb : Nat) (wv : Value) (xs : List S.Item) (w : World) : Prop :=
  base ≤ mb ∧ ∃ v, w.heap[mb]? = some (.cells #[v, wv] 64 (0, 0)) ∧ w.ownsRow base 49 8 v xs.length (xs.flatMap itemCells)
theorem MkAt.lt {base mb : Nat} {wv : Value} {xs : List S.Item} {w : World} (h : MkAt base mb wv xs w) : mb < w.heap.size := by
  obtain ⟨_, v, hb, _⟩ := h
  rcases Nat.lt_or_ge mb w.heap.size with h' | h'
  · exact h'
  · simp [Array.getElem?_eq_none h'] at hb
theorem MkAt.keep {base mb : Nat} {wv : Value} {xs : List S.Item} {w w' : World} (h : MkAt base mb wv xs w) (hb : Below w.heap.size w w') : MkAt base mb wv xs w' := by
  have hlt := h.lt
  obtain ⟨h1, v, h2, h3⟩ := h
  exact ⟨h1, v, (hb.block mb hlt).trans h2, ownsRow_below h3 hb⟩
theorem own_ne {w : World} {B : Nat} {e T : TypeId} {size : Nat} {v : Value} {n : Nat} {xs : List Value} {b : Nat} {cs : Array Value} {fr : Nat × Nat} (hown : w.ownsRow B e size v n xs) (hb : w.heap[b]? = some (.cells cs T fr)) (hTe : T ≠ e) : v.ownBlock ≠ some b := by
  rcases hown.2 with ⟨rfl, _⟩ | ⟨g, cap, cur, rfl, _, hg, _⟩
  · simp [Value.ownBlock]
  · intro h
    simp only [Value.ownBlock, Option.some.injEq] at h
    subst h
    rw [hg] at hb
    simp only [Option.some.injEq, Obj.cells.injEq] at hb
    exact hTe hb.2.1.symm

set_option maxRecDepth 100000 in
set_option maxHeartbeats 1000000 in
/-- Items behind a maker's; rows of other kinds stay. -/
def KeepR (w w' : World) : Prop := ∀ (k : Nat) (r : Array Value) (T : TypeId) (o : Nat × Nat), w.heap[k]? = some (.cells r T o) → T ≠ 49 → T ≠ 64 → w'.heap[k]? = some (.cells r T o)
structure BK (base : Nat) (w w' : World) : Prop where
  below : Below base w w'
  keep : KeepR w w'
theorem BK.size {base : Nat} {w w' : World} (h : BK base w w') : w.heap.size ≤ w'.heap.size := h.below.size
theorem BK.trans {base : Nat} {w w' w2 : World} (h : BK base w w') (h2 : BK base w' w2) : BK base w w2 := ⟨h.below.trans h2.below, fun k r T o hk h3 h4 => h2.keep k r T o (h.keep k r T o hk h3 h4) h3 h4⟩
theorem BK.refl (base : Nat) (w : World) : BK base w w := ⟨Below.refl _ _, fun _ _ _ _ hk _ _ => hk⟩
theorem BK.of {base : Nat} {w w' : World} (h : Below w.heap.size w w') (hb : base ≤ w.heap.size) : BK base w w' := ⟨h.mono hb, fun k r T o hk _ _ => by
  rcases Nat.lt_or_ge k w.heap.size with h' | h'
  · exact (h.block k h').trans hk
  · simp [Array.getElem?_eq_none h'] at hk⟩
theorem mk_put (base mb : Nat) (wv : Value) (xs ys : List S.Item) (A : Option Addr) (c : Nat) (w : World) (h : MkAt base mb wv xs w) (hbw : base ≤ w.heap.size) (hy : Items w w.heap.size A ys) (hA : A = none → ys.length = 0) (hl : xs.length + ys.length ≤ 1000000000) :
    Calls Tryd.prog 57 #[.pointer (some ⟨mb, 0, none⟩), .slice A ys.length c] w fun e w' => e = .returned (.tuple #[]) ∧ MkAt base mb wv (xs ++ ys) w' ∧ BK base w w' := by
  have hlt := h.lt
  obtain ⟨hB, v, hbk, hown⟩ := h
  have hkeep := Lib.hid (fun (k : Nat) (r : Array Value) (T : TypeId) (o : Nat × Nat) (hk : w.heap[k]? = some (.cells r T o)) (hT1 : T ≠ 49) (hT2 : T ≠ 64) => (show k < w.heap.size ∧ k ≠ mb ∧ v.ownBlock ≠ some k from ⟨by
    rcases Nat.lt_or_ge k w.heap.size with h' | h'
    · exact h'
    · simp [Array.getElem?_eq_none h'] at hk, by
    rintro rfl
    rw [hbk] at hk
    simp only [Option.some.injEq, Obj.cells.injEq] at hk
    exact hT2 hk.2.1.symm, own_ne hown hk hT1⟩))
  have hne := own_ne hown hbk (by decide)
  have c0 : w.cell? ⟨mb, 0, none⟩ = some v := by rw [Lib.cell_of_heap hbk]; rfl
  have Hown := Lib.hid hown
  have Hy := Lib.hid hy.reads
  have HA := Lib.hid hA
  clear hy hA
  go_enter Tryd.func57, Tryd.ntmps57
  go_wp2_with (at_builtin; refine wpList_appendsN rfl (.tmp 8) (.tmp 9) _ rfl base 49 item_info Tryd.underlying28 rfl (by decide) _ _ _ rfl Hown.out w.heap.size A ys.length c _ rfl (flat8_len ys) HA.out Hy.out (cells_one ys) (by simp only [maxLen]; omega) (by omega) hbw ?_)
  intro v' w2 ho2 hg2 hb2 _
  have hb3 : w2.heap[mb]? = some (.cells #[v, wv] 64 (0, 0)) := (hg2.block mb hlt (fun e => hne e.symm)).trans hbk
  have f0 : w2.frozen? ⟨mb, 0, none⟩ = false := Lib.frozen_of_heap hb3 0
  have d0 : w2.cell? ⟨mb, 0, none⟩ = some v := by rw [Lib.cell_of_heap hb3]; rfl
  have Hb3 := Lib.hid hb3
  have Ho2 := Lib.hid ho2
  have Hb2 := Lib.hid hb2
  have Hg2 := Lib.hid hg2
  obtain ⟨A', c', hv'⟩ := ownsRow_form ho2
  subst hv'
  clear hb3 ho2 hb2 hg2 hbk hown Hown Hy HA c0
  go_wp2_with fail
  go_end0
  refine ⟨rfl, ⟨hB, .slice A' (xs.length + ys.length) c', ?_, ?_⟩, Hb2.out.setCell (p := ⟨mb, 0, none⟩) hB _, fun k r T o hk hT1 hT2 => ?_⟩
  · rw [setCell_eq_setRow _ _ _ _ _ _ _ Hb3.out]
    exact setRow_heap w2 mb _ _ _ _ Hb3.out
  · have hn2 := own_ne Ho2.out Hb3.out (by decide)
    rw [List.length_append, List.flatMap_append]
    exact Ho2.out.kept (row := some mb) ⟨rfl, rfl, rfl, by simp [World.setCell], fun k _ hk => Below.heap_setCell _ _ _ _ (fun e => hk (by simp [e]))⟩ (Or.inr hn2)
  · obtain ⟨k1, k2, k3⟩ := hkeep.out k r T o hk hT1 hT2
    rw [Below.heap_setCell _ _ _ _ k2]
    exact (Hg2.out.block k k1 (fun e => k3 e.symm)).trans hk

theorem items_new (w : World) (x : S.Item) (h0 : 0 ≤ x.word) (h1 : x.word ≤ 4294967295) : Items (w.alloc (.cells (itemCells x).toArray 49)) (w.alloc (.cells (itemCells x).toArray 49)).heap.size (some ⟨w.heap.size, 0, none⟩) [x] := fun _ => by
  refine ⟨w.heap.size, 0, rfl, by simp, fun i y hy => ?_⟩
  have hi := (List.getElem?_eq_some_iff.1 hy).1
  have hi0 : i = 0 := by simpa using hi
  subst hi0
  simp only [List.getElem?_cons_zero, Option.some.injEq] at hy
  subst hy
  have hc := fun j => cell_row_new w (itemCells x).toArray 49 j
  exact ⟨hc 0, hc 1, hc 2, hc 3, hc 4, hc 5, hc 6, hc 7, h0, h1⟩

/-- One item, given in a new block, behind a maker's. -/
theorem mk_one (base mb : Nat) (wv : Value) (xs : List S.Item) (x : S.Item) (w : World) (h : MkAt base mb wv xs w) (hbw : base ≤ w.heap.size) (hl : xs.length ≤ 900000000) (h0 : 0 ≤ x.word) (h1 : x.word ≤ 4294967295) :
    Calls Tryd.prog 57 #[.pointer (some ⟨mb, 0, none⟩), .slice (some ⟨w.heap.size, 0, none⟩) 1 1] (w.alloc (.cells (itemCells x).toArray 49)) fun e w' => e = .returned (.tuple #[]) ∧ MkAt base mb wv (xs ++ [x]) w' ∧ BK base w w' := by
  have hb := (Below.refl w.heap.size w).alloc (Nat.le_refl _) (.cells (itemCells x).toArray 49)
  refine (mk_put base mb wv xs [x] (some ⟨w.heap.size, 0, none⟩) 1 _ (h.keep hb) (by simp; omega) (items_new w x h0 h1) (fun e => by cases e) (by simp; omega)).mono ?_
  rintro e w' ⟨rfl, h2, h3⟩
  exact ⟨rfl, h2, (BK.of hb hbw).trans h3⟩

def MkPost (base mb : Nat) (wv : Value) (xs ys : List S.Item) (w : World) (e : Ending) (w' : World) : Prop := e = .returned (.tuple #[]) ∧ MkAt base mb wv (xs ++ ys) w' ∧ BK base w w'

section
variable (base mb : Nat) (wv : Value) (xs : List S.Item) (w : World) (h : MkAt base mb wv xs w) (hbw : base ≤ w.heap.size) (hl : xs.length ≤ 900000000)
include h hbw hl
theorem mk_inst (op d a b imm : Int) : Calls Tryd.prog 26 #[.pointer (some ⟨mb, 0, none⟩), .int .i64 op, .int .i64 d, .int .i64 a, .int .i64 b, .int .i64 imm] w (MkPost base mb wv xs [S.iInst op d a b imm] w) := by
  go_enter Tryd.func26, Tryd.ntmps26
  go_wp2_with fail
  refine (mk_one base mb wv xs (S.iInst op d a b imm) w h hbw hl (by simp [S.iInst]) (by simp [S.iInst])).mono ?_
  rintro e w' ⟨rfl, h2, h3⟩
  go_wp2_with fail
  go_end0
  exact ⟨rfl, h2, h3⟩
theorem mk_label (s : ByteArray) : Calls Tryd.prog 52 #[.pointer (some ⟨mb, 0, none⟩), .string s] w (MkPost base mb wv xs [S.iLabel s] w) := by
  go_enter Tryd.func52, Tryd.ntmps52
  go_wp2_with fail
  refine (mk_one base mb wv xs (S.iLabel s) w h hbw hl (by simp [S.iLabel]) (by simp [S.iLabel])).mono ?_
  rintro e w' ⟨rfl, h2, h3⟩
  go_wp2_with fail
  go_end0
  exact ⟨rfl, h2, h3⟩
theorem mk_jump (d : Int) (s : ByteArray) : Calls Tryd.prog 56 #[.pointer (some ⟨mb, 0, none⟩), .int .i64 d, .string s] w (MkPost base mb wv xs [S.iJump d s] w) := by
  go_enter Tryd.func56, Tryd.ntmps56
  go_wp2_with fail
  refine (mk_one base mb wv xs (S.iJump d s) w h hbw hl (by simp [S.iJump]) (by simp [S.iJump])).mono ?_
  rintro e w' ⟨rfl, h2, h3⟩
  go_wp2_with fail
  go_end0
  exact ⟨rfl, h2, h3⟩
theorem mk_branch (op a b : Int) (s : ByteArray) : Calls Tryd.prog 24 #[.pointer (some ⟨mb, 0, none⟩), .int .i64 op, .int .i64 a, .int .i64 b, .string s] w (MkPost base mb wv xs [S.iBranch op a b s] w) := by
  go_enter Tryd.func24, Tryd.ntmps24
  go_wp2_with fail
  refine (mk_one base mb wv xs (S.iBranch op a b s) w h hbw hl (by simp [S.iBranch]) (by simp [S.iBranch])).mono ?_
  rintro e w' ⟨rfl, h2, h3⟩
  go_wp2_with fail
  go_end0
  exact ⟨rfl, h2, h3⟩
end

end Go.Proofs.YtkdalaiponchbaaDoor
