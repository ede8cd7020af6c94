/- The coder of package build in memory; walks of its methods. -/
import Derived.Test.YtlldagdhlfpihaaGreatDoorZBSts
import Derived.Test.YtlldagdhlfpihaaGreatDoorZOwnC
import Derived.Test.YtlldagdhlfpihaaGreatDoorZExt
import Derived.Deep.RegionWith
import Derived.BigRegion
set_option linter.unusedVariables false
set_option linter.unusedSimpArgs false
set_option linter.unusedSectionVars false
namespace Go.Proofs.YtlldagdhlfpihaaGreatDoor
open Go.RowKit

/-- What the coder holds beside its items. -/
structure CH where
  r : S.BR
  A : Option Addr
  c : Nat
  fr : Int
def cCells (h : CH) (v : Value) (lab : Int) : Array Value := #[.string h.r.name, .int .i64 h.r.params, .int .i64 h.r.locals, .bool h.r.behind, .slice h.A h.r.body.length h.c, .int .i64 h.fr, v, .int .i64 lab]
/-- A coder at block p, made from base on, with items. -/
structure CAt (base p : Nat) (h : CH) (xs : List S.Item) (lab : Int) (w : World) : Prop where
  low : base ≤ p
  at_ : ∃ v, w.heap[p]? = some (.cells (cCells h v lab) 143) ∧ w.ownsRow base 152 8 v xs.length (xs.flatMap itemCells)
theorem CAt.lt {base p : Nat} {h : CH} {xs : List S.Item} {lab : Int} {w : World} (H : CAt base p h xs lab w) : p < w.heap.size := by
  obtain ⟨_, v, hb, _⟩ := H
  rcases Nat.lt_or_ge p w.heap.size with h' | h'
  · exact h'
  · simp [Array.getElem?_eq_none h'] at hb
theorem CAt.keep {base p : Nat} {h : CH} {xs : List S.Item} {lab : Int} {w w' : World} (H : CAt base p h xs lab w) (hb : Below w.heap.size w w') : CAt base p h xs lab w' := by
  have hlt := H.lt
  obtain ⟨h1, v, h2, h3⟩ := H
  exact ⟨h1, v, (hb.block p hlt).trans h2, ownsRow_below h3 hb⟩
theorem own_neB {w : World} {B : Nat} {e T : TypeId} {size : Nat} {v : Value} {n : Nat} {xs : List Value} {b : Nat} {cs : Array Value} {fr : Nat × Nat} (hown : w.ownsRow B e size v n xs) (hb : w.heap[b]? = some (.cells cs T fr)) (hTe : T ≠ e) : v.ownBlock ≠ some b := by
  rcases hown.2 with ⟨rfl, _⟩ | ⟨g, cap, cur, rfl, _, hg, _⟩
  · simp [Value.ownBlock]
  · intro h
    simp only [Value.ownBlock, Option.some.injEq] at h
    subst h
    rw [hg] at hb
    simp only [Option.some.injEq, Obj.cells.injEq] at hb
    exact hTe hb.2.1.symm
/-- Rows of other kinds stay. -/
def KeepC (w w' : World) : Prop := ∀ (k : Nat) (r : Array Value) (T : TypeId) (o : Nat × Nat), w.heap[k]? = some (.cells r T o) → T ≠ 152 → T ≠ 143 → w'.heap[k]? = some (.cells r T o)
structure CK (base : Nat) (w w' : World) : Prop where
  below : Below base w w'
  keep : KeepC w w'
theorem CK.size {base : Nat} {w w' : World} (h : CK base w w') : w.heap.size ≤ w'.heap.size := h.below.size
theorem CK.trans {base : Nat} {w w' w2 : World} (h : CK base w w') (h2 : CK base w' w2) : CK base w w2 := ⟨h.below.trans h2.below, fun k r T o hk h3 h4 => h2.keep k r T o (h.keep k r T o hk h3 h4) h3 h4⟩
theorem CK.refl (base : Nat) (w : World) : CK base w w := ⟨Below.refl _ _, fun _ _ _ _ hk _ _ => hk⟩
theorem CK.of {base : Nat} {w w' : World} (h : Below w.heap.size w w') (hb : base ≤ w.heap.size) : CK base w w' := ⟨h.mono hb, fun k r T o hk _ _ => by
  rcases Nat.lt_or_ge k w.heap.size with h' | h'
  · exact (h.block k h').trans hk
  · simp [Array.getElem?_eq_none h'] at hk⟩
/-- What a method of the coder leaves: so many items more. -/
def CPost (base p : Nat) (h : CH) (xs ys : List S.Item) (lab : Int) (w : World) (e : Ending) (w' : World) : Prop := e = .returned (.tuple #[]) ∧ CAt base p h (xs ++ ys) lab w' ∧ CK base w w'

/-- What is behind an append of one item and the store of the slice. -/
theorem coder_end {base p : Nat} {h : CH} {xs : List S.Item} {x : S.Item} {lab : Int} {w w2 : World} {v v' : Value} (hlow : base ≤ p) (hbw : base ≤ w.heap.size) (hk : w.heap[p]? = some (.cells (cCells h v lab) 143)) (ho : w.ownsRow base 152 8 v xs.length (xs.flatMap itemCells))
    (ho2 : w2.ownsRow base 152 8 v' (xs.length + 1) (xs.flatMap itemCells ++ itemCells x)) (hg : w.grownBy w2 v.ownBlock) (hb : Below base w w2) : CAt base p h (xs ++ [x]) lab (w2.setCell ⟨p, 6, none⟩ v') ∧ CK base w (w2.setCell ⟨p, 6, none⟩ v') := by
  have hne := own_neB ho hk (by decide)
  have hlt : p < w.heap.size := by
    rcases Nat.lt_or_ge p w.heap.size with h' | h'
    · exact h'
    · simp [Array.getElem?_eq_none h'] at hk
  have hk2 : w2.heap[p]? = some (.cells (cCells h v lab) 143) := (hg.block p hlt (fun e => hne e.symm)).trans hk
  have hk3 : (w2.setCell ⟨p, 6, none⟩ v').heap[p]? = some (.cells (cCells h v' lab) 143) := by
    rw [setCell_eq_setRow _ _ _ _ _ _ _ hk2]
    exact setRow_heap _ _ _ _ _ _ hk2
  have hn2 := own_neB ho2 hk2 (by decide)
  refine ⟨⟨hlow, v', hk3, ?_⟩, hb.setCell (p := ⟨p, 6, none⟩) hlow _, fun k r T o hr h1 h2 => ?_⟩
  · rw [List.length_append, List.flatMap_append, List.flatMap_singleton]
    exact ho2.kept (row := some p) ⟨rfl, rfl, rfl, by simp [World.setCell], fun k _ hk => Below.heap_setCell _ _ _ _ (fun e => hk (by simp [e]))⟩ (Or.inr hn2)
  · have hkp : k ≠ p := by
      rintro rfl
      rw [hk] at hr
      simp only [Option.some.injEq, Obj.cells.injEq] at hr
      exact h2 hr.2.1.symm
    have hkl : k < w.heap.size := by
      rcases Nat.lt_or_ge k w.heap.size with h' | h'
      · exact h'
      · simp [Array.getElem?_eq_none h'] at hr
    have hkv := own_neB ho hr h1
    rw [Below.heap_setCell _ _ _ _ hkp]
    exact (hg.block k hkl (fun e => hkv e.symm)).trans hr

section
variable {base p : Nat} {h : CH} {xs : List S.Item} {lab : Int} {w : World} (H : CAt base p h xs lab w) (hbw : base ≤ w.heap.size) (hl : xs.length ≤ 100000000)
include H hbw hl
set_option maxRecDepth 100000 in
set_option maxHeartbeats 1000000 in
theorem c_label (s : ByteArray) : Calls Tryz.prog 72 #[.pointer (some ⟨p, 0, none⟩), .string s] w (CPost base p h xs [S.bL s] lab w) := by
  have hlt := H.lt
  obtain ⟨hlow, v, hk, ho⟩ := H
  have c6 : w.cell? ⟨p, 6, none⟩ = some v := by rw [Lib.cell_of_heap hk]; rfl
  have Hk := Lib.hid hk
  have Ho := Lib.hid ho
  obtain ⟨A', c', rfl⟩ := ownsRow_form ho
  clear hk ho
  go_enter Tryz.func72, Tryz.ntmps72
  go_wp2_with (at_builtin
               refine wpList_push rfl (.tmp 8) (.tmp 11) _ rfl base 152 item_info Tryz.underlying96 rfl (by decide) #[.int .i64 2, .int .i64 0, .int .i64 0, .int .i64 0, .int .i64 0, .int .i64 0, .string s, .int .u32 0] _ _ _ rfl Ho.out rfl rfl rfl (by simp [Value.oneCell']) (by simp only [maxLen]; omega) (by omega) hbw ?_
               intro v' w7 ho7 hg7 hb7 _
               obtain ⟨A8, c8, rfl⟩ := ownsRow_form ho7
               have hk7 := (hg7.block p hlt (fun e => own_neB Ho.out Hk.out (by decide) e.symm)).trans Hk.out
               have f6 : w7.frozen? ⟨p, 6, none⟩ = false := Lib.frozen_of_heap hk7 6
               have d6 : ∃ u, w7.cell? ⟨p, 6, none⟩ = some u := ⟨_, by rw [Lib.cell_of_heap hk7]; rfl⟩
               obtain ⟨u6, d6⟩ := d6)
  go_end0
  obtain ⟨q1, q2⟩ := coder_end (x := S.bL s) hlow hbw Hk.out Ho.out ho7 hg7 hb7
  exact ⟨rfl, q1, q2⟩
set_option maxRecDepth 100000 in
set_option maxHeartbeats 1000000 in
theorem c_jump (d : Int) (s : ByteArray) : Calls Tryz.prog 119 #[.pointer (some ⟨p, 0, none⟩), .int .i64 d, .string s] w (CPost base p h xs [S.bJ d s] lab w) := by
  have hlt := H.lt
  obtain ⟨hlow, v, hk, ho⟩ := H
  have c6 : w.cell? ⟨p, 6, none⟩ = some v := by rw [Lib.cell_of_heap hk]; rfl
  have Hk := Lib.hid hk
  have Ho := Lib.hid ho
  obtain ⟨A', c', rfl⟩ := ownsRow_form ho
  clear hk ho
  go_enter Tryz.func119, Tryz.ntmps119
  go_wp2_with (at_builtin
               refine wpList_push rfl (.tmp 10) (.tmp 15) _ rfl base 152 item_info Tryz.underlying96 rfl (by decide) (itemCells (S.bJ d s)).toArray _ _ _ rfl Ho.out rfl rfl rfl (by simp [Value.oneCell', itemCells]) (by simp only [maxLen]; omega) (by omega) hbw ?_
               intro v' w7 ho7 hg7 hb7 _
               obtain ⟨A8, c8, rfl⟩ := ownsRow_form ho7
               have hk7 := (hg7.block p hlt (fun e => own_neB Ho.out Hk.out (by decide) e.symm)).trans Hk.out
               have f6 : w7.frozen? ⟨p, 6, none⟩ = false := Lib.frozen_of_heap hk7 6
               have d6 : ∃ u, w7.cell? ⟨p, 6, none⟩ = some u := ⟨_, by rw [Lib.cell_of_heap hk7]; rfl⟩
               obtain ⟨u6, d6⟩ := d6)
  go_end0
  obtain ⟨q1, q2⟩ := coder_end (x := S.bJ d s) hlow hbw Hk.out Ho.out ho7 hg7 hb7
  exact ⟨rfl, q1, q2⟩
set_option maxRecDepth 100000 in
set_option maxHeartbeats 1000000 in
theorem c_unless (a : Int) (s : ByteArray) : Calls Tryz.prog 168 #[.pointer (some ⟨p, 0, none⟩), .int .i64 a, .string s] w (CPost base p h xs [S.bU a s] lab w) := by
  have hlt := H.lt
  obtain ⟨hlow, v, hk, ho⟩ := H
  have c6 : w.cell? ⟨p, 6, none⟩ = some v := by rw [Lib.cell_of_heap hk]; rfl
  have Hk := Lib.hid hk
  have Ho := Lib.hid ho
  obtain ⟨A', c', rfl⟩ := ownsRow_form ho
  clear hk ho
  go_enter Tryz.func168, Tryz.ntmps168
  go_wp2_with (at_builtin
               refine wpList_push rfl (.tmp 10) (.tmp 15) _ rfl base 152 item_info Tryz.underlying96 rfl (by decide) (itemCells (S.bU a s)).toArray _ _ _ rfl Ho.out rfl rfl rfl (by simp [Value.oneCell', itemCells]) (by simp only [maxLen]; omega) (by omega) hbw ?_
               intro v' w7 ho7 hg7 hb7 _
               obtain ⟨A8, c8, rfl⟩ := ownsRow_form ho7
               have hk7 := (hg7.block p hlt (fun e => own_neB Ho.out Hk.out (by decide) e.symm)).trans Hk.out
               have f6 : w7.frozen? ⟨p, 6, none⟩ = false := Lib.frozen_of_heap hk7 6
               have d6 : ∃ u, w7.cell? ⟨p, 6, none⟩ = some u := ⟨_, by rw [Lib.cell_of_heap hk7]; rfl⟩
               obtain ⟨u6, d6⟩ := d6)
  go_end0
  obtain ⟨q1, q2⟩ := coder_end (x := S.bU a s) hlow hbw Hk.out Ho.out ho7 hg7 hb7
  exact ⟨rfl, q1, q2⟩
set_option maxRecDepth 100000 in
set_option maxHeartbeats 2000000 in
theorem c_inst (op d a b imm : Int) : Calls Tryz.prog 73 #[.pointer (some ⟨p, 0, none⟩), .agg #[.int .i64 op, .int .i64 d, .int .i64 a, .int .i64 b, .int .i64 imm]] w (CPost base p h xs [S.bI op d a b imm] lab w) := by
  have hbX : Below w.heap.size w (w.alloc (.cells #[.int .i64 op, .int .i64 d, .int .i64 a, .int .i64 b, .int .i64 imm] 46)) := (Below.refl _ _).alloc (Nat.le_refl _) _
  have hrX := heap_alloc_new w (.cells #[.int .i64 op, .int .i64 d, .int .i64 a, .int .i64 b, .int .i64 imm] 46)
  have hzX : w.heap.size < (w.alloc (.cells #[.int .i64 op, .int .i64 d, .int .i64 a, .int .i64 b, .int .i64 imm] 46)).heap.size := by simp
  have HbX := Lib.hid (CK.of hbX hbw)
  have H2 := H.keep hbX
  clear H
  go_enter Tryz.func73, Tryz.ntmps73
  go_upto_region 1 with fail
  refine wp_region_any (by kernel_rfl) ?_
  generalize w.alloc (.cells #[.int .i64 op, .int .i64 d, .int .i64 a, .int .i64 b, .int .i64 imm] 46) = w2 at *
  change wpAny _ _ _ _ _ _ _ (World.drew w2)
  have hdb : Below w2.heap.size w2 w2.drew := ⟨rfl, rfl, rfl, Nat.le_refl _, fun _ _ => rfl⟩
  have H3 := H2.keep hdb
  have hr3 := (hdb.block _ hzX).trans hrX
  have hz3 : w.heap.size < w2.drew.heap.size := Nat.lt_of_lt_of_le hzX hdb.size
  have Hb3 := Lib.hid (HbX.out.trans (CK.of hdb (by have := HbX.out.size; omega)))
  clear H2 hdb hrX hzX hbX HbX
  generalize w2.drew = w3 at *
  have e0 : w3.cell? ⟨w.heap.size, 0, none⟩ = some (.int .i64 op) := by rw [Lib.cell_of_heap hr3]; rfl
  have e1 : w3.cell? ⟨w.heap.size, 1, none⟩ = some (.int .i64 d) := by rw [Lib.cell_of_heap hr3]; rfl
  have e2 : w3.cell? ⟨w.heap.size, 2, none⟩ = some (.int .i64 a) := by rw [Lib.cell_of_heap hr3]; rfl
  have e3 : w3.cell? ⟨w.heap.size, 3, none⟩ = some (.int .i64 b) := by rw [Lib.cell_of_heap hr3]; rfl
  have e4 : w3.cell? ⟨w.heap.size, 4, none⟩ = some (.int .i64 imm) := by rw [Lib.cell_of_heap hr3]; rfl
  have hbw2 : base ≤ w3.heap.size := by have := Hb3.out.size; omega
  have hlt := H3.lt
  obtain ⟨hlow, v, hk, ho⟩ := H3
  have c6 : w3.cell? ⟨p, 6, none⟩ = some v := by rw [Lib.cell_of_heap hk]; rfl
  have Hk := Lib.hid hk
  have Ho := Lib.hid ho
  obtain ⟨A', c', rfl⟩ := ownsRow_form ho
  clear hk ho hr3
  (refine wpAny_take (i := 0) (v := ?vv1) rfl (by kernel_rfl) (by kernel_rfl) (by kernel_rfl) (fun _ _ _ h => h) (Or.inl ⟨by rfl, ?yy1⟩) ?zz1; (case yy1 => intro w; go_simp; try with_reducible rfl); go_simp)
  (refine wpAny_take (i := 1) (v := ?vv2) rfl (by kernel_rfl) (by kernel_rfl) (by kernel_rfl) (fun _ _ _ h => h) (Or.inl ⟨by rfl, ?yy2⟩) ?zz2; (case yy2 => intro w; go_simp; try with_reducible rfl); go_simp)
  (refine wpAny_take (i := 2) (v := ?vv3) rfl (by kernel_rfl) (by kernel_rfl) (by kernel_rfl) (fun _ _ _ h => h) (Or.inl ⟨by rfl, ?yy3⟩) ?zz3; (case yy3 => intro w; go_simp; try with_reducible rfl); go_simp)
  (refine wpAny_take (i := 3) (v := ?vv4) rfl (by kernel_rfl) (by kernel_rfl) (by kernel_rfl) (fun _ _ _ h => h) (Or.inl ⟨by rfl, ?yy4⟩) ?zz4; (case yy4 => intro w; go_simp; try with_reducible rfl); go_simp)
  refine wpAny_ready (rs := [4, 5]) (by kernel_rfl) (by simp) ?_
  refine AllReady.cons rfl (fun K hK => ?_) (AllReady.cons rfl (fun K hK => ?_) AllReady.nil)
  · go_simp
    refine hK _ _ ?_
    clear hK K
    (refine wpAny_ready (rs := [5]) (by kernel_rfl) (by simp) ?_; refine AllReady.cons rfl (fun K hK => ?_) AllReady.nil; go_simp; refine hK _ _ ?_; clear hK K)
    (refine wpAny_ready (rs := [6]) (by kernel_rfl) (by simp) ?_; refine AllReady.cons rfl (fun K hK => ?_) AllReady.nil; go_simp; refine hK _ _ ?_; clear hK K)
    (refine wpAny_ready (rs := [7]) (by kernel_rfl) (by simp) ?_; refine AllReady.cons rfl (fun K hK => ?_) AllReady.nil; go_simp; refine hK _ _ ?_; clear hK K)
    refine wpAny_ready (rs := [8]) (by kernel_rfl) (by simp) ?_
    refine AllReady.cons rfl (fun K hK => ?_) AllReady.nil
    rw [if_pos (by simp [Region.wanted])]
    refine wp_push (.tmp 8) (.tmp 11) _ rfl base 152 item_info Tryz.underlying96 rfl (by decide) (itemCells (S.bI op d a b imm)).toArray _ _ _ rfl Ho.out rfl rfl rfl (by simp [Value.oneCell', itemCells]) (by simp only [maxLen]; omega) (by omega) hbw2 ?_
    intro v' w7 ho7 hg7 hb7 _
    obtain ⟨A8, c8, rfl⟩ := ownsRow_form ho7
    have hk7 := (hg7.block p hlt (fun e => own_neB Ho.out Hk.out (by decide) e.symm)).trans Hk.out
    have f6 : w7.frozen? ⟨p, 6, none⟩ = false := Lib.frozen_of_heap hk7 6
    have d6 : ∃ u, w7.cell? ⟨p, 6, none⟩ = some u := ⟨_, by rw [Lib.cell_of_heap hk7]; rfl⟩
    obtain ⟨u6, d6⟩ := d6
    refine hK _ _ ?_
    clear hK K
    go_simp
    (refine wpAny_take (i := 9) (v := ?vv5) rfl (by kernel_rfl) (by kernel_rfl) (by kernel_rfl) (fun _ _ _ h => h) (Or.inl ⟨by rfl, ?yy5⟩) ?zz5; (case yy5 => intro w; go_simp; try with_reducible rfl); go_simp)
    (refine wpAny_take (i := 10) (v := ?vv6) rfl (by kernel_rfl) (by kernel_rfl) (by kernel_rfl) (fun _ _ _ h => h) (Or.inl ⟨by rfl, ?yy6⟩) ?zz6; (case yy6 => intro w; go_simp; try with_reducible rfl); go_simp)
    (refine wpAny_ready (rs := [11]) (by kernel_rfl) (by simp) ?_; refine AllReady.cons rfl (fun K hK => ?_) AllReady.nil; go_simp; refine hK _ _ ?_; clear hK K)
    refine wpAny_done (by kernel_rfl) ?_ _
    
    go_end0
    obtain ⟨q1, q2⟩ := coder_end (x := S.bI op d a b imm) hlow hbw2 Hk.out Ho.out ho7 hg7 hb7
    exact ⟨rfl, q1, Hb3.out.trans q2⟩
  · go_simp
    refine hK _ _ ?_
    clear hK K
    refine wpAny_ready (rs := [4, 6]) (by kernel_rfl) (by simp) ?_
    refine AllReady.cons rfl (fun K hK => ?_) (AllReady.cons rfl (fun K hK => ?_) AllReady.nil)
    · go_simp
      refine hK _ _ ?_
      clear hK K
      (refine wpAny_ready (rs := [6]) (by kernel_rfl) (by simp) ?_; refine AllReady.cons rfl (fun K hK => ?_) AllReady.nil; go_simp; refine hK _ _ ?_; clear hK K)
      (refine wpAny_ready (rs := [7]) (by kernel_rfl) (by simp) ?_; refine AllReady.cons rfl (fun K hK => ?_) AllReady.nil; go_simp; refine hK _ _ ?_; clear hK K)
      refine wpAny_ready (rs := [8]) (by kernel_rfl) (by simp) ?_
      refine AllReady.cons rfl (fun K hK => ?_) AllReady.nil
      rw [if_pos (by simp [Region.wanted])]
      refine wp_push (.tmp 8) (.tmp 11) _ rfl base 152 item_info Tryz.underlying96 rfl (by decide) (itemCells (S.bI op d a b imm)).toArray _ _ _ rfl Ho.out rfl rfl rfl (by simp [Value.oneCell', itemCells]) (by simp only [maxLen]; omega) (by omega) hbw2 ?_
      intro v' w7 ho7 hg7 hb7 _
      obtain ⟨A8, c8, rfl⟩ := ownsRow_form ho7
      have hk7 := (hg7.block p hlt (fun e => own_neB Ho.out Hk.out (by decide) e.symm)).trans Hk.out
      have f6 : w7.frozen? ⟨p, 6, none⟩ = false := Lib.frozen_of_heap hk7 6
      have d6 : ∃ u, w7.cell? ⟨p, 6, none⟩ = some u := ⟨_, by rw [Lib.cell_of_heap hk7]; rfl⟩
      obtain ⟨u6, d6⟩ := d6
      refine hK _ _ ?_
      clear hK K
      go_simp
      (refine wpAny_take (i := 9) (v := ?vv7) rfl (by kernel_rfl) (by kernel_rfl) (by kernel_rfl) (fun _ _ _ h => h) (Or.inl ⟨by rfl, ?yy7⟩) ?zz7; (case yy7 => intro w; go_simp; try with_reducible rfl); go_simp)
      (refine wpAny_take (i := 10) (v := ?vv8) rfl (by kernel_rfl) (by kernel_rfl) (by kernel_rfl) (fun _ _ _ h => h) (Or.inl ⟨by rfl, ?yy8⟩) ?zz8; (case yy8 => intro w; go_simp; try with_reducible rfl); go_simp)
      (refine wpAny_ready (rs := [11]) (by kernel_rfl) (by simp) ?_; refine AllReady.cons rfl (fun K hK => ?_) AllReady.nil; go_simp; refine hK _ _ ?_; clear hK K)
      refine wpAny_done (by kernel_rfl) ?_ _
      
      go_end0
      obtain ⟨q1, q2⟩ := coder_end (x := S.bI op d a b imm) hlow hbw2 Hk.out Ho.out ho7 hg7 hb7
      exact ⟨rfl, q1, Hb3.out.trans q2⟩
    · go_simp
      refine hK _ _ ?_
      clear hK K
      refine wpAny_ready (rs := [4, 7]) (by kernel_rfl) (by simp) ?_
      refine AllReady.cons rfl (fun K hK => ?_) (AllReady.cons rfl (fun K hK => ?_) AllReady.nil)
      · go_simp
        refine hK _ _ ?_
        clear hK K
        (refine wpAny_ready (rs := [7]) (by kernel_rfl) (by simp) ?_; refine AllReady.cons rfl (fun K hK => ?_) AllReady.nil; go_simp; refine hK _ _ ?_; clear hK K)
        refine wpAny_ready (rs := [8]) (by kernel_rfl) (by simp) ?_
        refine AllReady.cons rfl (fun K hK => ?_) AllReady.nil
        rw [if_pos (by simp [Region.wanted])]
        refine wp_push (.tmp 8) (.tmp 11) _ rfl base 152 item_info Tryz.underlying96 rfl (by decide) (itemCells (S.bI op d a b imm)).toArray _ _ _ rfl Ho.out rfl rfl rfl (by simp [Value.oneCell', itemCells]) (by simp only [maxLen]; omega) (by omega) hbw2 ?_
        intro v' w7 ho7 hg7 hb7 _
        obtain ⟨A8, c8, rfl⟩ := ownsRow_form ho7
        have hk7 := (hg7.block p hlt (fun e => own_neB Ho.out Hk.out (by decide) e.symm)).trans Hk.out
        have f6 : w7.frozen? ⟨p, 6, none⟩ = false := Lib.frozen_of_heap hk7 6
        have d6 : ∃ u, w7.cell? ⟨p, 6, none⟩ = some u := ⟨_, by rw [Lib.cell_of_heap hk7]; rfl⟩
        obtain ⟨u6, d6⟩ := d6
        refine hK _ _ ?_
        clear hK K
        go_simp
        (refine wpAny_take (i := 9) (v := ?vv9) rfl (by kernel_rfl) (by kernel_rfl) (by kernel_rfl) (fun _ _ _ h => h) (Or.inl ⟨by rfl, ?yy9⟩) ?zz9; (case yy9 => intro w; go_simp; try with_reducible rfl); go_simp)
        (refine wpAny_take (i := 10) (v := ?vv10) rfl (by kernel_rfl) (by kernel_rfl) (by kernel_rfl) (fun _ _ _ h => h) (Or.inl ⟨by rfl, ?yy10⟩) ?zz10; (case yy10 => intro w; go_simp; try with_reducible rfl); go_simp)
        (refine wpAny_ready (rs := [11]) (by kernel_rfl) (by simp) ?_; refine AllReady.cons rfl (fun K hK => ?_) AllReady.nil; go_simp; refine hK _ _ ?_; clear hK K)
        refine wpAny_done (by kernel_rfl) ?_ _
        
        go_end0
        obtain ⟨q1, q2⟩ := coder_end (x := S.bI op d a b imm) hlow hbw2 Hk.out Ho.out ho7 hg7 hb7
        exact ⟨rfl, q1, Hb3.out.trans q2⟩
      · go_simp
        refine hK _ _ ?_
        clear hK K
        have c6 : (w3.alloc (Obj.cells (itemCells (S.bI op d a b imm)).toArray 152)).cell? ⟨p, 6, none⟩ = some (.slice A' xs.length c') := by rw [Lib.cell_of_heap ((heap_alloc_old _ _ hlt).trans Hk.out)]; rfl
        simp only [itemCells, S.bI] at c6
        (refine wpAny_ready (rs := [4]) (by kernel_rfl) (by simp) ?_; refine AllReady.cons rfl (fun K hK => ?_) AllReady.nil; go_simp; refine hK _ _ ?_; clear hK K)
        refine wpAny_ready (rs := [8]) (by kernel_rfl) (by simp) ?_
        refine AllReady.cons rfl (fun K hK => ?_) AllReady.nil
        rw [if_pos (by simp [Region.wanted])]
        refine wp_push (.tmp 8) (.tmp 11) _ rfl base 152 item_info Tryz.underlying96 rfl (by decide) (itemCells (S.bI op d a b imm)).toArray _ _ _ rfl Ho.out rfl rfl rfl (by simp [Value.oneCell', itemCells]) (by simp only [maxLen]; omega) (by omega) hbw2 ?_
        intro v' w7 ho7 hg7 hb7 _
        obtain ⟨A8, c8, rfl⟩ := ownsRow_form ho7
        have hk7 := (hg7.block p hlt (fun e => own_neB Ho.out Hk.out (by decide) e.symm)).trans Hk.out
        have f6 : w7.frozen? ⟨p, 6, none⟩ = false := Lib.frozen_of_heap hk7 6
        have d6 : ∃ u, w7.cell? ⟨p, 6, none⟩ = some u := ⟨_, by rw [Lib.cell_of_heap hk7]; rfl⟩
        obtain ⟨u6, d6⟩ := d6
        refine hK _ _ ?_
        clear hK K
        go_simp
        (refine wpAny_take (i := 9) (v := ?vv11) rfl (by kernel_rfl) (by kernel_rfl) (by kernel_rfl) (fun _ _ _ h => h) (Or.inl ⟨by rfl, ?yy11⟩) ?zz11; (case yy11 => intro w; go_simp; try with_reducible rfl); go_simp)
        (refine wpAny_take (i := 10) (v := ?vv12) rfl (by kernel_rfl) (by kernel_rfl) (by kernel_rfl) (fun _ _ _ h => h) (Or.inl ⟨by rfl, ?yy12⟩) ?zz12; (case yy12 => intro w; go_simp; try with_reducible rfl); go_simp)
        (refine wpAny_ready (rs := [11]) (by kernel_rfl) (by simp) ?_; refine AllReady.cons rfl (fun K hK => ?_) AllReady.nil; go_simp; refine hK _ _ ?_; clear hK K)
        refine wpAny_done (by kernel_rfl) ?_ _
        
        go_end0
        obtain ⟨q1, q2⟩ := coder_end (x := S.bI op d a b imm) hlow hbw2 Hk.out Ho.out ho7 hg7 hb7
        exact ⟨rfl, q1, Hb3.out.trans q2⟩
end

end Go.Proofs.YtlldagdhlfpihaaGreatDoor
