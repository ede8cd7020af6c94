/- A map from strings to ints that a call has made, as a function; its operations. -/
import Derived.Test.YtbgdomnalimjnaaOwnB
import Derived.Test.YtbgdomnalimjnaaExt
import Derived.Test.YtbgdomnalimjnaaProg
import Derived.Maps.OwnOps
import Derived.Maps.OwnSet
set_option linter.unusedVariables false
set_option linter.unusedSimpArgs false
set_option linter.unusedSectionVars false
namespace Go.Proofs.Ytbgdomnalimjnaa
open Go.RowKit

theorem mapS_law : Maps.Keyed Try.prog 9 := Maps.string_keyed Try.underlying9
theorem mapS_zero (w : World) : (zeroValue 3).run Try.prog w = .ok (.int .i64 0) w := by kernel_rfl

abbrev keyS (s : ByteArray) : Lit := .string s.data.toList
theorem keyS_inj {a b : ByteArray} (h : keyS a = keyS b) : a = b := by
  simp only [keyS, Lit.string.injEq] at h
  exact WideShapes.bytes_inj h
theorem keyS_is (s : ByteArray) : WideAt.IsKeyLit (keyS s) := by first | trivial | simp [WideAt.IsKeyLit, keyS]

/-- Block m is a map of at most n entries that answers as f. -/
def MapS (w : World) (m n : Nat) (f : ByteArray → Option Int) : Prop :=
  ∃ D : DataW Unit, w.ownsMap Try.prog 9 (plainElem Try.prog 3) m (Maps.size D) D ∧ Maps.Tidy D ∧ Maps.size D ≤ n ∧
    ∀ s, Maps.has D (keyS s) = (f s).isSome ∧ D.atKey (keyS s) (.lit (.int .i64 0)) = .lit (.int .i64 ((f s).getD 0))

theorem ownsMap_tight {w : World} {m n : Nat} {D : DataW Unit} (h : w.ownsMap Try.prog 9 (plainElem Try.prog 3) m n D) : w.ownsMap Try.prog 9 (plainElem Try.prog 3) m (Maps.size D) D := by
  obtain ⟨es, clock, hb, F, hs, rfl⟩ := h
  refine ⟨es, clock, hb, F, ?_, rfl⟩
  rw [Maps.size_eq, length_sorted]
  simp

theorem MapS.made (w : World) : MapS (w.alloc (.map #[] 0)) w.heap.size 0 (fun _ => none) :=
  ⟨.map [], World.ownsMap_made w _ _ _, Maps.tidy_empty, Nat.le_refl _, fun s => ⟨rfl, rfl⟩⟩
theorem MapS.lt {w : World} {m n : Nat} {f : ByteArray → Option Int} (h : MapS w m n f) : m < w.heap.size := by
  obtain ⟨D, h1, _⟩ := h
  exact h1.lt
theorem MapS.kept {w w' : World} {m n : Nat} {f : ByteArray → Option Int} {row : Option Nat} (h : MapS w m n f) (hg : w.grownBy w' row) (hne : some m ≠ row) : MapS w' m n f := by
  obtain ⟨D, h1, h2⟩ := h
  exact ⟨D, h1.kept hg hne, h2⟩
theorem MapS.below {w w' : World} {m n : Nat} {f : ByteArray → Option Int} (h : MapS w m n f) (hb : Below w.heap.size w w') : MapS w' m n f :=
  h.kept (row := none) ⟨hb.os, hb.tape, hb.output, hb.size, fun k hk _ => hb.block k hk⟩ (by simp)
theorem MapS.mono {w : World} {m n n' : Nat} {f : ByteArray → Option Int} (h : MapS w m n f) (hn : n ≤ n') : MapS w m n' f := by
  obtain ⟨D, h1, h2, h3, h4⟩ := h
  exact ⟨D, h1, h2, Nat.le_trans h3 hn, h4⟩

theorem MapS.look {w : World} {m n : Nat} {f : ByteArray → Option Int} (h : MapS w m n f) {s : ByteArray} (hs : s.size ≤ maxLen) :
    (Instr.lookup 118 (.map (some m)) (.string s) false).run Try.prog w = .ok (.int .i64 ((f s).getD 0)) w := by
  obtain ⟨D, h1, _, _, h4⟩ := h
  obtain ⟨c, hrun, hat, _⟩ := h1.lookup_int mapS_law Try.underlying118 Try.underlying3 (mapS_zero w) (WideMaps.keyOf_string_mk Try.underlying9 hs)
  rw [(h4 s).2] at hat
  simp only [DataW.lit.injEq, Lit.int.injEq, true_and] at hat
  rw [hrun, hat]

theorem MapS.lookOk {w : World} {m n : Nat} {f : ByteArray → Option Int} (h : MapS w m n f) {s : ByteArray} (hs : s.size ≤ maxLen) :
    (Instr.lookup 118 (.map (some m)) (.string s) true).run Try.prog w = .ok (.tuple #[.int .i64 ((f s).getD 0), .bool (f s).isSome]) w := by
  obtain ⟨D, h1, _, _, h4⟩ := h
  obtain ⟨v, ps, hrun, hv⟩ := h1.look_ok mapS_law Try.underlying118 (mapS_zero w) (zd := .lit (.int .i64 0)) (zp := []) (plainElem_int Try.underlying3 (by decide)) (WideMaps.keyOf_string_mk Try.underlying9 hs)
  obtain ⟨c, rfl, hc, _⟩ := plainElem_int_inv Try.underlying3 hv
  have hat := congrArg Prod.fst hc
  simp only [(h4 s).2] at hat
  simp only [DataW.lit.injEq, Lit.int.injEq, true_and] at hat
  rw [hrun, (h4 s).1, hat]

/-- m[s] = v at the operation. -/
theorem wpList_storeS {ops : Array Oper} {rest : List Oper} {o : Oper} {a : Act} {Q : Exit → Act → World → Prop} {w : World} (hg : o.guard = none) (mo x v : Operand) (hop : o.op = Op.mapUpdate 118 mo x v)
    (m n : Nat) (f : ByteArray → Option Int) (hm : a.eval mo = .map (some m)) (h : MapS w m n f) (hn : n < 1152921504606846976) (s : ByteArray) (q : Int) (hx : a.eval x = .string s) (hv : a.eval v = .int .i64 q) (hs : s.size ≤ maxLen) (hq : (Lit.int .i64 q).wf = true)
    (hK : ∀ w', MapS w' m (if (f s).isSome then n else n + 1) (fun t => if t = s then some q else f t) → w.grownBy w' (some m) → wpList Try.prog ops Q rest (a.put o.dst undef) w') : wpList Try.prog ops Q (o :: rest) a w := by
  obtain ⟨D, h1, h2, h3, h4⟩ := h
  refine wpList_mapUpdate_own w hg mo x v _ hop _ _ mapS_law Try.underlying118 (plainElem Try.prog 3) m _ D hm h1 (by simp only [maxLen]; omega) _ _ (keyS s) hx hv (WideMaps.keyOf_string_mk Try.underlying9 hs) (.lit (.int .i64 q)) [] (plainElem_int Try.underlying3 hq) ?_
  intro w' ho hgr
  refine hK w' ⟨_, ownsMap_tight ho, h2.put (keyS_is s) _, ?_, fun t => ?_⟩ hgr
  · rw [Maps.size_put h2, (h4 s).1]
    split <;> simp_all
  · by_cases e : t = s
    · subst e
      simp only [if_pos rfl]
      exact ⟨Maps.has_put_same h2.isMap (keyS_is _) _, Maps.atKey_put_same h2.isMap (keyS_is _) _ _⟩
    · have hne : keyS t ≠ keyS s := fun h => e (keyS_inj h)
      simp only [if_neg e]
      rw [Maps.has_put_other hne, Maps.atKey_put_other hne]
      exact h4 t

theorem ext_out {w w1 : World} (h : ∃ x : Ext w, w1 = x.val) : Below w.heap.size w w1 := by
  obtain ⟨x, rfl⟩ := h
  exact x.property

end Go.Proofs.Ytbgdomnalimjnaa
