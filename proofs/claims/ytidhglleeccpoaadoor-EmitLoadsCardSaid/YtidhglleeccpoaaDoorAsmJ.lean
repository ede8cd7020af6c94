/- MapS, AsmJ: joined.  The assembler's work in memory; walks of its methods address and grows. -/
import Derived.Test.YtidhglleeccpoaaDoorOwnC
import Derived.Test.YtidhglleeccpoaaDoorExt
import Derived.Test.YtidhglleeccpoaaDoorProg
import Derived.Test.YtidhglleeccpoaaDoorAsmH
import Derived.Test.YtidhglleeccpoaaDoorAsmLfp
import Derived.Maps.OwnOps
import Derived.Maps.OwnSet
section
set_option linter.unusedVariables false
set_option linter.unusedSimpArgs false
set_option linter.unusedSectionVars false
namespace Go.Proofs.YtidhglleeccpoaaDoor
open Go.RowKit

theorem mapS_law : Maps.Keyed Tryd.prog 9 := Maps.string_keyed Tryd.underlying9
theorem mapS_zero (w : World) : (zeroValue 3).run Tryd.prog w = .ok (.int .i64 0) w := by kernel_rfl

abbrev keyS (s : ByteArray) : Lit := .string s.data.toList
theorem keyS_inj {a b : ByteArray} (h : keyS a = keyS b) : a = b := by
  simp only [keyS, Lit.string.injEq] at h
  exact WideShapes.bytes_inj h
theorem keyS_is (s : ByteArray) : WideAt.IsKeyLit (keyS s) := by first | trivial | simp [WideAt.IsKeyLit, keyS]

/-- Block m is a map of at most n entries that answers as f. -/
def MapS (w : World) (m n : Nat) (f : ByteArray → Option Int) : Prop :=
  ∃ D : DataW Unit, w.ownsMap Tryd.prog 9 (plainElem Tryd.prog 3) m (Maps.size D) D ∧ Maps.Tidy D ∧ Maps.size D ≤ n ∧
    ∀ s, Maps.has D (keyS s) = (f s).isSome ∧ D.atKey (keyS s) (.lit (.int .i64 0)) = .lit (.int .i64 ((f s).getD 0))

theorem ownsMap_tight {w : World} {m n : Nat} {D : DataW Unit} (h : w.ownsMap Tryd.prog 9 (plainElem Tryd.prog 3) m n D) : w.ownsMap Tryd.prog 9 (plainElem Tryd.prog 3) m (Maps.size D) D := by
  obtain ⟨es, clock, hb, F, hs, rfl⟩ := h
  refine ⟨es, clock, hb, F, ?_, rfl⟩
  rw [Maps.size_eq, length_sorted]
  simp

theorem MapS.made (w : World) : MapS (w.alloc (.map #[] 0)) w.heap.size 0 (fun _ => none) :=
  ⟨.map [], World.ownsMap_made w _ _ _, Maps.tidy_empty, Nat.le_refl _, fun s => ⟨rfl, rfl⟩⟩
theorem MapS.lt {w : World} {m n : Nat} {f : ByteArray → Option Int} (h : MapS w m n f) : m < w.heap.size := by
  obtain ⟨D, h1, _⟩ := h
  exact h1.lt
theorem MapS.kept {w w' : World} {m n : Nat} {f : ByteArray → Option Int} {row : Option Nat} (h : MapS w m n f) (hg : w.grownBy w' row) (hne : some m ≠ row) : MapS w' m n f := by
  obtain ⟨D, h1, h2⟩ := h
  exact ⟨D, h1.kept hg hne, h2⟩
theorem MapS.below {w w' : World} {m n : Nat} {f : ByteArray → Option Int} (h : MapS w m n f) (hb : Below w.heap.size w w') : MapS w' m n f :=
  h.kept (row := none) ⟨hb.os, hb.tape, hb.output, hb.size, fun k hk _ => hb.block k hk⟩ (by simp)
theorem MapS.mono {w : World} {m n n' : Nat} {f : ByteArray → Option Int} (h : MapS w m n f) (hn : n ≤ n') : MapS w m n' f := by
  obtain ⟨D, h1, h2, h3, h4⟩ := h
  exact ⟨D, h1, h2, Nat.le_trans h3 hn, h4⟩

theorem MapS.look {w : World} {m n : Nat} {f : ByteArray → Option Int} (h : MapS w m n f) {s : ByteArray} (hs : s.size ≤ maxLen) :
    (Instr.lookup 64 (.map (some m)) (.string s) false).run Tryd.prog w = .ok (.int .i64 ((f s).getD 0)) w := by
  obtain ⟨D, h1, _, _, h4⟩ := h
  obtain ⟨c, hrun, hat, _⟩ := h1.lookup_int mapS_law Tryd.underlying64 Tryd.underlying3 (mapS_zero w) (WideMaps.keyOf_string_mk Tryd.underlying9 hs)
  rw [(h4 s).2] at hat
  simp only [DataW.lit.injEq, Lit.int.injEq, true_and] at hat
  rw [hrun, hat]

theorem MapS.lookOk {w : World} {m n : Nat} {f : ByteArray → Option Int} (h : MapS w m n f) {s : ByteArray} (hs : s.size ≤ maxLen) :
    (Instr.lookup 64 (.map (some m)) (.string s) true).run Tryd.prog w = .ok (.tuple #[.int .i64 ((f s).getD 0), .bool (f s).isSome]) w := by
  obtain ⟨D, h1, _, _, h4⟩ := h
  obtain ⟨v, ps, hrun, hv⟩ := h1.look_ok mapS_law Tryd.underlying64 (mapS_zero w) (zd := .lit (.int .i64 0)) (zp := []) (plainElem_int Tryd.underlying3 (by decide)) (WideMaps.keyOf_string_mk Tryd.underlying9 hs)
  obtain ⟨c, rfl, hc, _⟩ := plainElem_int_inv Tryd.underlying3 hv
  have hat := congrArg Prod.fst hc
  simp only [(h4 s).2] at hat
  simp only [DataW.lit.injEq, Lit.int.injEq, true_and] at hat
  rw [hrun, (h4 s).1, hat]

/-- m[s] = v at the operation. -/
theorem wpList_storeS {ops : Array Oper} {rest : List Oper} {o : Oper} {a : Act} {Q : Exit → Act → World → Prop} {w : World} (hg : o.guard = none) (mo x v : Operand) (hop : o.op = Op.mapUpdate 64 mo x v)
    (m n : Nat) (f : ByteArray → Option Int) (hm : a.eval mo = .map (some m)) (h : MapS w m n f) (hn : n < 1152921504606846976) (s : ByteArray) (q : Int) (hx : a.eval x = .string s) (hv : a.eval v = .int .i64 q) (hs : s.size ≤ maxLen) (hq : (Lit.int .i64 q).wf = true)
    (hK : ∀ w', MapS w' m (if (f s).isSome then n else n + 1) (fun t => if t = s then some q else f t) → w.grownBy w' (some m) → wpList Tryd.prog ops Q rest (a.put o.dst undef) w') : wpList Tryd.prog ops Q (o :: rest) a w := by
  obtain ⟨D, h1, h2, h3, h4⟩ := h
  refine wpList_mapUpdate_own w hg mo x v _ hop _ _ mapS_law Tryd.underlying64 (plainElem Tryd.prog 3) m _ D hm h1 (by simp only [maxLen]; omega) _ _ (keyS s) hx hv (WideMaps.keyOf_string_mk Tryd.underlying9 hs) (.lit (.int .i64 q)) [] (plainElem_int Tryd.underlying3 hq) ?_
  intro w' ho hgr
  refine hK w' ⟨_, ownsMap_tight ho, h2.put (keyS_is s) _, ?_, fun t => ?_⟩ hgr
  · rw [Maps.size_put h2, (h4 s).1]
    split <;> simp_all
  · by_cases e : t = s
    · subst e
      simp only [if_pos rfl]
      exact ⟨Maps.has_put_same h2.isMap (keyS_is _) _, Maps.atKey_put_same h2.isMap (keyS_is _) _ _⟩
    · have hne : keyS t ≠ keyS s := fun h => e (keyS_inj h)
      simp only [if_neg e]
      rw [Maps.has_put_other hne, Maps.atKey_put_other hne]
      exact h4 t

theorem ext_out {w w1 : World} (h : ∃ x : Ext w, w1 = x.val) : Below w.heap.size w w1 := by
  obtain ⟨x, rfl⟩ := h
  exact x.property

end Go.Proofs.YtidhglleeccpoaaDoor
end

section
set_option linter.unusedVariables false
set_option linter.unusedSimpArgs false
set_option linter.unusedSectionVars false
namespace Go.Proofs.YtidhglleeccpoaaDoor
open Go.RowKit

/-- Where a label stands, as the map tells it. -/
def labF (xs : List S.Item) (s : ByteArray) : Option Int := if S.stands xs s < 0 then none else some (S.stands xs s)

/-- The assembler's work: a block of five cells; forms and addresses in rows of its own, labels in a map of its own. -/
structure Work (w : World) (B g gF gA m n : Nat) (A : Option Addr) (c : Nat) (xs : List S.Item) (base : Int) (F T : List Int) (f : ByteArray → Option Int) : Prop where
  blk : w.heap[g]? = some (.cells #[.slice A xs.length c, .int .i64 base, .slice (some ⟨gF, 0, none⟩) xs.length xs.length, .slice (some ⟨gA, 0, none⟩) (xs.length + 1) (xs.length + 1), .map (some m)] 66 (0, 0))
  forms : w.ownsRow B 3 1 (.slice (some ⟨gF, 0, none⟩) xs.length xs.length) xs.length (F.map (Value.int .i64))
  ats : w.ownsRow B 3 1 (.slice (some ⟨gA, 0, none⟩) (xs.length + 1) (xs.length + 1)) (xs.length + 1) (T.map (Value.int .i64))
  labels : MapS w m n f
  hg : B ≤ g
  hF : B ≤ gF
  hA : B ≤ gA
  hm : B ≤ m
  ne1 : gF ≠ gA

theorem blk_lt {w : World} {g : Nat} {o : Obj} (h : w.heap[g]? = some o) : g < w.heap.size := (Array.getElem?_eq_some_iff.1 h).1
theorem blk_cell {w : World} {g : Nat} {cs : Array Value} {t : TypeId} (h : w.heap[g]? = some (.cells cs t (0, 0))) (j : Nat) : w.cell? ⟨g, j, none⟩ = cs[j]? := by simp [World.cell?, h]

theorem Work.below {w w' : World} {B g gF gA m n : Nat} {A : Option Addr} {c : Nat} {xs : List S.Item} {base : Int} {F T : List Int} {f : ByteArray → Option Int} (h : Work w B g gF gA m n A c xs base F T f)
    (hb : Below w.heap.size w w') : Work w' B g gF gA m n A c xs base F T f :=
  ⟨(hb.block g (blk_lt h.blk)).trans h.blk, ownsRow_below h.forms hb, ownsRow_below h.ats hb, h.labels.below hb, h.hg, h.hF, h.hA, h.hm, h.ne1⟩

/-- The cells that a reader of the work meets. -/
theorem Work.cells {w : World} {B g gF gA m n : Nat} {A : Option Addr} {c : Nat} {xs : List S.Item} {base : Int} {F T : List Int} {f : ByteArray → Option Int} (h : Work w B g gF gA m n A c xs base F T f) :
    w.cell? ⟨g, 0, none⟩ = some (.slice A xs.length c) ∧ w.cell? ⟨g, 1, none⟩ = some (.int .i64 base) ∧ w.cell? ⟨g, 2, none⟩ = some (.slice (some ⟨gF, 0, none⟩) xs.length xs.length) ∧
    w.cell? ⟨g, 3, none⟩ = some (.slice (some ⟨gA, 0, none⟩) (xs.length + 1) (xs.length + 1)) ∧ w.cell? ⟨g, 4, none⟩ = some (.map (some m)) := by
  refine ⟨?_, ?_, ?_, ?_, ?_⟩ <;> rw [blk_cell h.blk] <;> rfl
theorem Work.form {w : World} {B g gF gA m n : Nat} {A : Option Addr} {c : Nat} {xs : List S.Item} {base : Int} {F T : List Int} {f : ByteArray → Option Int} (h : Work w B g gF gA m n A c xs base F T f) {k : Nat} (hk : k < xs.length) :
    w.cell? ⟨gF, k, none⟩ = some (.int .i64 (F.getD k 0)) ∧ w.frozen? ⟨gF, k, none⟩ = false := by
  have hl : F.length = xs.length := by have := h.forms.1; simpa using this
  obtain ⟨g', he, _, _, _, hc, hf⟩ := ownsRow_at h.forms (by omega)
  cases he
  refine ⟨?_, hf k⟩
  rw [hc k (by omega), List.getElem?_map]
  have : k < F.length := by omega
  simp [this]
theorem Work.at_ {w : World} {B g gF gA m n : Nat} {A : Option Addr} {c : Nat} {xs : List S.Item} {base : Int} {F T : List Int} {f : ByteArray → Option Int} (h : Work w B g gF gA m n A c xs base F T f) {k : Nat} (hk : k ≤ xs.length) :
    w.cell? ⟨gA, k, none⟩ = some (.int .i64 (T.getD k 0)) ∧ w.frozen? ⟨gA, k, none⟩ = false := by
  have hl : T.length = xs.length + 1 := by have := h.ats.1; simpa using this
  obtain ⟨g', he, _, _, _, hc, hf⟩ := ownsRow_at h.ats (by omega)
  cases he
  refine ⟨?_, hf k⟩
  rw [hc k (by omega), List.getElem?_map]
  have : k < T.length := by omega
  simp [this]
theorem Work.lts {w : World} {B g gF gA m n : Nat} {A : Option Addr} {c : Nat} {xs : List S.Item} {base : Int} {F T : List Int} {f : ByteArray → Option Int} (h : Work w B g gF gA m n A c xs base F T f) :
    g < w.heap.size ∧ gF < w.heap.size ∧ gA < w.heap.size ∧ m < w.heap.size :=
  ⟨blk_lt h.blk, (h.forms.lt gF rfl).2, (h.ats.lt gA rfl).2, h.labels.lt⟩

set_option maxRecDepth 100000 in
set_option maxHeartbeats 1000000 in
theorem asm_address (w : World) {B g gF gA m n : Nat} {A : Option Addr} {c : Nat} {xs : List S.Item} {base : Int} {F T : List Int} {f : ByteArray → Option Int} (h : Work w B g gF gA m n A c xs base F T f)
    (s : ByteArray) (hs : s.size ≤ maxLen) (j : Nat) (hf : f s = some (j : Int)) (hj : j ≤ xs.length) (hl : xs.length ≤ 1048576) (t : Int) (ht : T.getD j 0 = t) :
    Calls Tryd.prog 48 #[.pointer (some ⟨g, 0, none⟩), .string s] w fun e w' => e = .returned (.int .i64 t) ∧ Below w.heap.size w w' := by
  obtain ⟨h0, h1, h2, h3, h4⟩ := h.cells
  obtain ⟨l1, l2, l3, l4⟩ := h.lts
  have hat := (h.at_ hj).1
  rw [ht] at hat
  clear ht
  have hlook : ∀ x : Ext w, (Instr.lookup 64 (.map (some m)) (.string s) false).run Tryd.prog x.val = .ok (.int .i64 j) x.val := fun x => by
    have := (h.labels.below x.property).look hs
    rw [hf] at this
    exact this
  clear h1 h2 hf
  go_enter Tryd.func48, Tryd.ntmps48
  go_wp2_with fail
  refine wp_region_ext (by kernel_rfl) (by kernel_rfl) ?_
  have hE := ext_cells w
  repeat (first | go_big_quiet_step (fail))
  refine wpQuiet_nil ?_
  rintro _ ⟨⟨w1, hb1⟩, rfl⟩
  go_wp2_with fail
  go_ret
  exact ⟨rfl, hb1⟩

end Go.Proofs.YtidhglleeccpoaaDoor
end
