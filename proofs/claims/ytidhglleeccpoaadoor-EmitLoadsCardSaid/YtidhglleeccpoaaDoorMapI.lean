/- EMvs, MapI: joined.  A map from ints to ints that a call has made, as a function; its operations. -/
import Derived.Test.YtidhglleeccpoaaDoorECkB
import Derived.Test.YtidhglleeccpoaaDoorOwnC
import Derived.Test.YtidhglleeccpoaaDoorExt
import Derived.Test.YtidhglleeccpoaaDoorProg
import Derived.Maps.OwnOps
import Derived.Maps.OwnSet
section
set_option linter.unusedVariables false
set_option linter.unusedSimpArgs false
set_option linter.unusedSectionVars false
namespace Go.Proofs.YtidhglleeccpoaaDoor
open Go.RowKit

def mvV (x : VL) : VL := { x with i := S.moved x.i }
theorem mv_split {α : Type} (xs : List α) (k : Nat) (x : α) (h : xs[k]? = some x) : xs.drop k = x :: xs.drop (k + 1) ∧ xs.take (k + 1) = xs.take k ++ [x] := by
  obtain ⟨hk, hx⟩ := List.getElem?_eq_some_iff.1 h
  refine ⟨by rw [List.drop_eq_getElem_cons hk, hx], ?_⟩
  rw [List.take_add_one, h]; rfl
theorem mv_store (xs : List VL) (k : Nat) (x : VL) (h : xs[k]? = some x) (hm : S.moves x.i = true) :
    (((xs.take k).map mvV ++ xs.drop k).flatMap VL.cells).set (k * 8) (.int .i64 64) = ((xs.take (k + 1)).map mvV ++ xs.drop (k + 1)).flatMap VL.cells := by
  obtain ⟨h1, h2⟩ := mv_split xs k x h
  have hk := (List.getElem?_eq_some_iff.1 h).1
  have hl : (((xs.take k).map mvV).flatMap VL.cells).length = k * 8 := by rw [vflat_len]; simp; omega
  have hc : (mvV x).cells = .int .i64 64 :: x.cells.tail := by
    simp [mvV, VL.cells, S.moved, hm]
  rw [h1, h2, List.map_append, List.flatMap_append, List.flatMap_append, List.flatMap_append, List.flatMap_cons]
  rw [List.set_append_right _ _ (by omega), hl, Nat.sub_self]
  simp only [List.map_cons, List.map_nil, List.flatMap_cons, List.flatMap_nil, List.append_nil, hc]
  simp [VL.cells]
theorem mv_same (xs : List VL) (k : Nat) (x : VL) (h : xs[k]? = some x) (hm : S.moves x.i = false) :
    ((xs.take k).map mvV ++ xs.drop k) = ((xs.take (k + 1)).map mvV ++ xs.drop (k + 1)) := by
  obtain ⟨h1, h2⟩ := mv_split xs k x h
  have hc : mvV x = x := by simp [mvV, S.moved, hm]
  rw [h1, h2, List.map_append, List.map_cons, List.map_nil, hc, List.append_assoc]; rfl
theorem mv_all (xs : List VL) : ((xs.take xs.length).map mvV ++ xs.drop xs.length) = xs.map mvV := by simp
theorem mv_insts (xs : List VL) : (xs.map mvV).map VL.i = (xs.map VL.i).map S.moved := by
  rw [List.map_map, List.map_map]; rfl
theorem VOk.more {w : World} {B B' : Nat} {x : VL} (h : VOk w B x) (hB : B ≤ B') : VOk w B' x := ⟨h.us.more hB, h.mp.more hB, h.ul, h.ml, h.un, h.mn, h.op, h.d, h.imm, h.label⟩
theorem VOk.mv {w : World} {B : Nat} {x : VL} (h : VOk w B x) : VOk w B (mvV x) := by
  have e : mvV x = x ∨ mvV x = { x with i := { x.i with op := 64 } } := by
    unfold mvV S.moved
    cases S.moves x.i
    · exact Or.inl rfl
    · exact Or.inr rfl
  rcases e with e | e <;> rw [e]
  · exact h
  · exact ⟨h.us, h.mp, h.ul, h.ml, h.un, h.mn, by show I64 64; unfold I64; omega, h.d, h.imm, h.label⟩
theorem VLs.of_own {w : World} {base : Nat} {e : TypeId} {A : Option Addr} {m c n : Nat} {xs : List VL} (h : w.ownsRow base e 8 (.slice A m c) n (xs.flatMap VL.cells)) : VLs w w.heap.size A xs := fun hp => by
  have hl : (xs.flatMap VL.cells).length = n * 8 := h.1
  rw [vflat_len] at hl
  obtain ⟨g, rfl, _, hg2, _, hg4, _⟩ := ownsRow_at h (by omega)
  refine ⟨g, 0, rfl, hg2, fun i x hx => ?_⟩
  have hi := (List.getElem?_eq_some_iff.1 hx).1
  have hc : ∀ j, j < 8 → w.cell? ⟨g, 0 + i * 8 + j, none⟩ = x.cells[j]? := by
    intro j hj
    rw [Nat.zero_add, hg4 _ (by omega), vflat_at xs i x hx j hj]
  exact ⟨hc 0 (by omega), hc 1 (by omega), hc 2 (by omega), hc 3 (by omega), hc 4 (by omega), hc 5 (by omega), hc 6 (by omega), hc 7 (by omega)⟩

theorem ints3 {w : World} {B g : Nat} {a b c : Int} {T : TypeId} (h : w.heap[g]? = some (.cells #[.int .i64 a, .int .i64 b, .int .i64 c] T (0, 0))) (hg : g < B) : Ints w B (some ⟨g, 0, none⟩) [a, b, c] := fun _ => ⟨g, 0, rfl, hg, fun i y hy => by
  rw [Nat.zero_add, cell_of_row w g i _ _ (0, 0) h]
  match i, hy with
  | 0, hy => simp only [List.getElem?_cons_zero, Option.some.injEq] at hy; subst hy; rfl
  | 1, hy => simp only [List.getElem?_cons_succ, List.getElem?_cons_zero, Option.some.injEq] at hy; subst hy; rfl
  | 2, hy => simp only [List.getElem?_cons_succ, List.getElem?_cons_zero, Option.some.injEq] at hy; subst hy; rfl
  | i + 3, hy => simp at hy⟩
theorem three_below (w : World) (a b c : Obj) : Below w.heap.size w (((w.alloc a).alloc b).alloc c) :=
  (((Below.refl w.heap.size w).alloc (Nat.le_refl _) a).alloc (by simp) b).alloc (by simp <;> omega) c
theorem three_cells (w : World) (a b c : Obj) : ((((w.alloc a).alloc b).alloc c).heap[w.heap.size]? = some a ∧ (((w.alloc a).alloc b).alloc c).heap[w.heap.size + 1]? = some b ∧ (((w.alloc a).alloc b).alloc c).heap[w.heap.size + 2]? = some c) := by
  have h1 : ((w.alloc a).alloc b).heap.size = w.heap.size + 2 := by simp
  have h0 : (w.alloc a).heap.size = w.heap.size + 1 := by simp
  have b2 := (Below.refl ((w.alloc a).alloc b).heap.size ((w.alloc a).alloc b)).alloc (Nat.le_refl _) c
  have b1 := (Below.refl (w.alloc a).heap.size (w.alloc a)).alloc (Nat.le_refl _) b
  refine ⟨?_, ?_, ?_⟩
  · rw [b2.block _ (by omega), b1.block _ (by omega)]
    exact heap_alloc_new w a
  · rw [b2.block _ (by omega), ← h0]
    exact heap_alloc_new _ b
  · rw [← h1]
    exact heap_alloc_new _ c

theorem ints2 {w : World} {B g : Nat} {a b : Int} {T : TypeId} (h : w.heap[g]? = some (.cells #[.int .i64 a, .int .i64 b] T (0, 0))) (hg : g < B) : Ints w B (some ⟨g, 0, none⟩) [a, b] := fun _ => ⟨g, 0, rfl, hg, fun i y hy => by
  rw [Nat.zero_add, cell_of_row w g i _ _ (0, 0) h]
  match i, hy with
  | 0, hy => simp only [List.getElem?_cons_zero, Option.some.injEq] at hy; subst hy; rfl
  | 1, hy => simp only [List.getElem?_cons_succ, List.getElem?_cons_zero, Option.some.injEq] at hy; subst hy; rfl
  | i + 2, hy => simp at hy⟩

end Go.Proofs.YtidhglleeccpoaaDoor
end

section
set_option linter.unusedVariables false
set_option linter.unusedSimpArgs false
set_option linter.unusedSectionVars false
namespace Go.Proofs.YtidhglleeccpoaaDoor
open Go.RowKit

theorem mapI_law : Maps.Keyed Tryd.prog 3 := Maps.int_keyed Tryd.underlying3
theorem mapI_zero (w : World) : (zeroValue 3).run Tryd.prog w = .ok (.int .i64 0) w := by kernel_rfl

abbrev keyI (s : Int) : Lit := .int .i64 s
theorem keyI_inj {a b : Int} (h : keyI a = keyI b) : a = b := by
  simp only [keyI, Lit.int.injEq] at h
  exact h.2
theorem keyI_is (s : Int) : WideAt.IsKeyLit (keyI s) := by first | trivial | simp [WideAt.IsKeyLit, keyI]

/-- Block m is a map of at most n entries that answers as f. -/
def MapI (w : World) (m n : Nat) (f : Int → Option Int) : Prop :=
  ∃ D : DataW Unit, w.ownsMap Tryd.prog 3 (plainElem Tryd.prog 3) m (Maps.size D) D ∧ Maps.Tidy D ∧ Maps.size D ≤ n ∧
    ∀ s, Maps.has D (keyI s) = (f s).isSome ∧ D.atKey (keyI s) (.lit (.int .i64 0)) = .lit (.int .i64 ((f s).getD 0))

theorem ownsMap_tightI {w : World} {m n : Nat} {D : DataW Unit} (h : w.ownsMap Tryd.prog 3 (plainElem Tryd.prog 3) m n D) : w.ownsMap Tryd.prog 3 (plainElem Tryd.prog 3) m (Maps.size D) D := by
  obtain ⟨es, clock, hb, F, hs, rfl⟩ := h
  refine ⟨es, clock, hb, F, ?_, rfl⟩
  rw [Maps.size_eq, length_sorted]
  simp

theorem MapI.made (w : World) : MapI (w.alloc (.map #[] 0)) w.heap.size 0 (fun _ => none) :=
  ⟨.map [], World.ownsMap_made w _ _ _, Maps.tidy_empty, Nat.le_refl _, fun s => ⟨rfl, rfl⟩⟩
theorem MapI.lt {w : World} {m n : Nat} {f : Int → Option Int} (h : MapI w m n f) : m < w.heap.size := by
  obtain ⟨D, h1, _⟩ := h
  exact h1.lt
theorem MapI.kept {w w' : World} {m n : Nat} {f : Int → Option Int} {row : Option Nat} (h : MapI w m n f) (hg : w.grownBy w' row) (hne : some m ≠ row) : MapI w' m n f := by
  obtain ⟨D, h1, h2⟩ := h
  exact ⟨D, h1.kept hg hne, h2⟩
theorem MapI.below {w w' : World} {m n : Nat} {f : Int → Option Int} (h : MapI w m n f) (hb : Below w.heap.size w w') : MapI w' m n f :=
  h.kept (row := none) ⟨hb.os, hb.tape, hb.output, hb.size, fun k hk _ => hb.block k hk⟩ (by simp)
theorem MapI.mono {w : World} {m n n' : Nat} {f : Int → Option Int} (h : MapI w m n f) (hn : n ≤ n') : MapI w m n' f := by
  obtain ⟨D, h1, h2, h3, h4⟩ := h
  exact ⟨D, h1, h2, Nat.le_trans h3 hn, h4⟩

theorem MapI.look {w : World} {m n : Nat} {f : Int → Option Int} (h : MapI w m n f) {s : Int} (hs : (Lit.int .i64 s).wf = true) :
    (Instr.lookup 105 (.map (some m)) (.int .i64 s) false).run Tryd.prog w = .ok (.int .i64 ((f s).getD 0)) w := by
  obtain ⟨D, h1, _, _, h4⟩ := h
  obtain ⟨c, hrun, hat, _⟩ := h1.lookup_int mapI_law Tryd.underlying105 Tryd.underlying3 (mapI_zero w) (Maps.keyOf_int_mk Tryd.underlying3 hs)
  rw [(h4 s).2] at hat
  simp only [DataW.lit.injEq, Lit.int.injEq, true_and] at hat
  rw [hrun, hat]

theorem MapI.lookOk {w : World} {m n : Nat} {f : Int → Option Int} (h : MapI w m n f) {s : Int} (hs : (Lit.int .i64 s).wf = true) :
    (Instr.lookup 105 (.map (some m)) (.int .i64 s) true).run Tryd.prog w = .ok (.tuple #[.int .i64 ((f s).getD 0), .bool (f s).isSome]) w := by
  obtain ⟨D, h1, _, _, h4⟩ := h
  obtain ⟨v, ps, hrun, hv⟩ := h1.look_ok mapI_law Tryd.underlying105 (mapI_zero w) (zd := .lit (.int .i64 0)) (zp := []) (plainElem_int Tryd.underlying3 (by decide)) (Maps.keyOf_int_mk Tryd.underlying3 hs)
  obtain ⟨c, rfl, hc, _⟩ := plainElem_int_inv Tryd.underlying3 hv
  have hat := congrArg Prod.fst hc
  simp only [(h4 s).2] at hat
  simp only [DataW.lit.injEq, Lit.int.injEq, true_and] at hat
  rw [hrun, (h4 s).1, hat]

/-- m[s] = v at the operation. -/
theorem wpList_storeI {ops : Array Oper} {rest : List Oper} {o : Oper} {a : Act} {Q : Exit → Act → World → Prop} {w : World} (hg : o.guard = none) (mo x v : Operand) (hop : o.op = Op.mapUpdate 105 mo x v)
    (m n : Nat) (f : Int → Option Int) (hm : a.eval mo = .map (some m)) (h : MapI w m n f) (hn : n < 1152921504606846976) (s : Int) (q : Int) (hx : a.eval x = .int .i64 s) (hv : a.eval v = .int .i64 q) (hs : (Lit.int .i64 s).wf = true) (hq : (Lit.int .i64 q).wf = true)
    (hK : ∀ w', MapI w' m (if (f s).isSome then n else n + 1) (fun t => if t = s then some q else f t) → w.grownBy w' (some m) → wpList Tryd.prog ops Q rest (a.put o.dst undef) w') : wpList Tryd.prog ops Q (o :: rest) a w := by
  obtain ⟨D, h1, h2, h3, h4⟩ := h
  refine wpList_mapUpdate_own w hg mo x v _ hop _ _ mapI_law Tryd.underlying105 (plainElem Tryd.prog 3) m _ D hm h1 (by simp only [maxLen]; omega) _ _ (keyI s) hx hv (Maps.keyOf_int_mk Tryd.underlying3 hs) (.lit (.int .i64 q)) [] (plainElem_int Tryd.underlying3 hq) ?_
  intro w' ho hgr
  refine hK w' ⟨_, ownsMap_tightI ho, h2.put (keyI_is s) _, ?_, fun t => ?_⟩ hgr
  · rw [Maps.size_put h2, (h4 s).1]
    split <;> simp_all
  · by_cases e : t = s
    · subst e
      simp only [if_pos rfl]
      exact ⟨Maps.has_put_same h2.isMap (keyI_is _) _, Maps.atKey_put_same h2.isMap (keyI_is _) _ _⟩
    · have hne : keyI t ≠ keyI s := fun h => e (keyI_inj h)
      simp only [if_neg e]
      rw [Maps.has_put_other hne, Maps.atKey_put_other hne]
      exact h4 t

end Go.Proofs.YtidhglleeccpoaaDoor
end
