/- A map from ints to ints that a call has made, as a function; its operations. -/
import Derived.Test.YtkdalaiponchbaaDoorOwnB
import Derived.Test.YtkdalaiponchbaaDoorExt
import Derived.Test.YtkdalaiponchbaaDoorProg
import Derived.Maps.OwnOps
import Derived.Maps.OwnSet
set_option linter.unusedVariables false
set_option linter.unusedSimpArgs false
set_option linter.unusedSectionVars false
namespace Go.Proofs.YtkdalaiponchbaaDoor
open Go.RowKit

theorem mapI_law : Maps.Keyed Tryd.prog 3 := Maps.int_keyed Tryd.underlying3
theorem mapI_zero (w : World) : (zeroValue 3).run Tryd.prog w = .ok (.int .i64 0) w := by kernel_rfl

abbrev keyI (s : Int) : Lit := .int .i64 s
theorem keyI_inj {a b : Int} (h : keyI a = keyI b) : a = b := by
  simp only [keyI, Lit.int.injEq] at h
  exact h.2
theorem keyI_is (s : Int) : WideAt.IsKeyLit (keyI s) := by first | trivial | simp [WideAt.IsKeyLit, keyI]

/-- Block m is a map of at most n entries that answers as f. -/
def MapI (w : World) (m n : Nat) (f : Int → Option Int) : Prop :=
  ∃ D : DataW Unit, w.ownsMap Tryd.prog 3 (plainElem Tryd.prog 3) m (Maps.size D) D ∧ Maps.Tidy D ∧ Maps.size D ≤ n ∧
    ∀ s, Maps.has D (keyI s) = (f s).isSome ∧ D.atKey (keyI s) (.lit (.int .i64 0)) = .lit (.int .i64 ((f s).getD 0))

theorem ownsMap_tightI {w : World} {m n : Nat} {D : DataW Unit} (h : w.ownsMap Tryd.prog 3 (plainElem Tryd.prog 3) m n D) : w.ownsMap Tryd.prog 3 (plainElem Tryd.prog 3) m (Maps.size D) D := by
  obtain ⟨es, clock, hb, F, hs, rfl⟩ := h
  refine ⟨es, clock, hb, F, ?_, rfl⟩
  rw [Maps.size_eq, length_sorted]
  simp

theorem MapI.made (w : World) : MapI (w.alloc (.map #[] 0)) w.heap.size 0 (fun _ => none) :=
  ⟨.map [], World.ownsMap_made w _ _ _, Maps.tidy_empty, Nat.le_refl _, fun s => ⟨rfl, rfl⟩⟩
theorem MapI.lt {w : World} {m n : Nat} {f : Int → Option Int} (h : MapI w m n f) : m < w.heap.size := by
  obtain ⟨D, h1, _⟩ := h
  exact h1.lt
theorem MapI.kept {w w' : World} {m n : Nat} {f : Int → Option Int} {row : Option Nat} (h : MapI w m n f) (hg : w.grownBy w' row) (hne : some m ≠ row) : MapI w' m n f := by
  obtain ⟨D, h1, h2⟩ := h
  exact ⟨D, h1.kept hg hne, h2⟩
theorem MapI.below {w w' : World} {m n : Nat} {f : Int → Option Int} (h : MapI w m n f) (hb : Below w.heap.size w w') : MapI w' m n f :=
  h.kept (row := none) ⟨hb.os, hb.tape, hb.output, hb.size, fun k hk _ => hb.block k hk⟩ (by simp)
theorem MapI.mono {w : World} {m n n' : Nat} {f : Int → Option Int} (h : MapI w m n f) (hn : n ≤ n') : MapI w m n' f := by
  obtain ⟨D, h1, h2, h3, h4⟩ := h
  exact ⟨D, h1, h2, Nat.le_trans h3 hn, h4⟩

theorem MapI.look {w : World} {m n : Nat} {f : Int → Option Int} (h : MapI w m n f) {s : Int} (hs : (Lit.int .i64 s).wf = true) :
    (Instr.lookup 107 (.map (some m)) (.int .i64 s) false).run Tryd.prog w = .ok (.int .i64 ((f s).getD 0)) w := by
  obtain ⟨D, h1, _, _, h4⟩ := h
  obtain ⟨c, hrun, hat, _⟩ := h1.lookup_int mapI_law Tryd.underlying107 Tryd.underlying3 (mapI_zero w) (Maps.keyOf_int_mk Tryd.underlying3 hs)
  rw [(h4 s).2] at hat
  simp only [DataW.lit.injEq, Lit.int.injEq, true_and] at hat
  rw [hrun, hat]

theorem MapI.lookOk {w : World} {m n : Nat} {f : Int → Option Int} (h : MapI w m n f) {s : Int} (hs : (Lit.int .i64 s).wf = true) :
    (Instr.lookup 107 (.map (some m)) (.int .i64 s) true).run Tryd.prog w = .ok (.tuple #[.int .i64 ((f s).getD 0), .bool (f s).isSome]) w := by
  obtain ⟨D, h1, _, _, h4⟩ := h
  obtain ⟨v, ps, hrun, hv⟩ := h1.look_ok mapI_law Tryd.underlying107 (mapI_zero w) (zd := .lit (.int .i64 0)) (zp := []) (plainElem_int Tryd.underlying3 (by decide)) (Maps.keyOf_int_mk Tryd.underlying3 hs)
  obtain ⟨c, rfl, hc, _⟩ := plainElem_int_inv Tryd.underlying3 hv
  have hat := congrArg Prod.fst hc
  simp only [(h4 s).2] at hat
  simp only [DataW.lit.injEq, Lit.int.injEq, true_and] at hat
  rw [hrun, (h4 s).1, hat]

/-- m[s] = v at the operation. -/
theorem wpList_storeI {ops : Array Oper} {rest : List Oper} {o : Oper} {a : Act} {Q : Exit → Act → World → Prop} {w : World} (hg : o.guard = none) (mo x v : Operand) (hop : o.op = Op.mapUpdate 107 mo x v)
    (m n : Nat) (f : Int → Option Int) (hm : a.eval mo = .map (some m)) (h : MapI w m n f) (hn : n < 1152921504606846976) (s : Int) (q : Int) (hx : a.eval x = .int .i64 s) (hv : a.eval v = .int .i64 q) (hs : (Lit.int .i64 s).wf = true) (hq : (Lit.int .i64 q).wf = true)
    (hK : ∀ w', MapI w' m (if (f s).isSome then n else n + 1) (fun t => if t = s then some q else f t) → w.grownBy w' (some m) → wpList Tryd.prog ops Q rest (a.put o.dst undef) w') : wpList Tryd.prog ops Q (o :: rest) a w := by
  obtain ⟨D, h1, h2, h3, h4⟩ := h
  refine wpList_mapUpdate_own w hg mo x v _ hop _ _ mapI_law Tryd.underlying107 (plainElem Tryd.prog 3) m _ D hm h1 (by simp only [maxLen]; omega) _ _ (keyI s) hx hv (Maps.keyOf_int_mk Tryd.underlying3 hs) (.lit (.int .i64 q)) [] (plainElem_int Tryd.underlying3 hq) ?_
  intro w' ho hgr
  refine hK w' ⟨_, ownsMap_tightI ho, h2.put (keyI_is s) _, ?_, fun t => ?_⟩ hgr
  · rw [Maps.size_put h2, (h4 s).1]
    split <;> simp_all
  · by_cases e : t = s
    · subst e
      simp only [if_pos rfl]
      exact ⟨Maps.has_put_same h2.isMap (keyI_is _) _, Maps.atKey_put_same h2.isMap (keyI_is _) _ _⟩
    · have hne : keyI t ≠ keyI s := fun h => e (keyI_inj h)
      simp only [if_neg e]
      rw [Maps.has_put_other hne, Maps.atKey_put_other hne]
      exact h4 t

end Go.Proofs.YtkdalaiponchbaaDoor
