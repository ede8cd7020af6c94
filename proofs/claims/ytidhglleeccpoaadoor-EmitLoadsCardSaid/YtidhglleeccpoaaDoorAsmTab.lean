/- AsmM, AsmTab: joined.  Plain mathematics: the table of labels as it is filled. No program in sight. -/
import Derived.Test.YtidhglleeccpoaaDoorAsmL
import Derived.Test.YtidhglleeccpoaaDoorAsmJ
import Derived.Deep.RegionLaw
import Derived.Deep.Cut
import Derived.Deep.CutRange
import Derived.WalkMore
section
set_option linter.unusedVariables false
set_option linter.unusedSimpArgs false
set_option linter.unusedSectionVars false
namespace Go.Proofs.YtidhglleeccpoaaDoor
open Go.RowKit

/-- What has been made so far. -/
structure St (w0 : World) (n : Nat) (w : World) (f a m : Option Nat) : Prop where
  bel : Below w0.heap.size w0 w
  rowF : ∀ g, f = some g → w0.heap.size ≤ g ∧ w.ownsRow w0.heap.size 3 1 (.slice (some ⟨g, 0, none⟩) n n) n (List.replicate n (Value.int .i64 0))
  rowA : ∀ g, a = some g → w0.heap.size ≤ g ∧ w.ownsRow w0.heap.size 3 1 (.slice (some ⟨g, 0, none⟩) (n + 1) (n + 1)) (n + 1) (List.replicate (n + 1) (Value.int .i64 0))
  labs : ∀ g, m = some g → w0.heap.size ≤ g ∧ MapS w g 0 (fun _ => none)
  far : ∀ g h, f = some g → a = some h → g ≠ h

theorem St.start (w0 w : World) (n : Nat) (hb : Below w0.heap.size w0 w) : St w0 n w none none none :=
  ⟨hb, fun _ h => (by cases h), fun _ h => (by cases h), fun _ h => (by cases h), fun _ _ h => (by cases h)⟩

theorem St.more {w0 w w' : World} {n : Nat} {f a m : Option Nat} (h : St w0 n w f a m) (hb : Below w.heap.size w w') : St w0 n w' f a m :=
  ⟨h.bel.trans (hb.mono h.bel.size), fun g e => ⟨(h.rowF g e).1, ownsRow_below (h.rowF g e).2 hb⟩, fun g e => ⟨(h.rowA g e).1, ownsRow_below (h.rowA g e).2 hb⟩, fun g e => ⟨(h.labs g e).1, (h.labs g e).2.below hb⟩, h.far⟩

theorem run_makeN (w : World) (B n : Nat) (hB : B ≤ w.heap.size) (hn : n ≤ 1048577) :
    ∃ w', (Instr.makeSlice 23 (.int .i64 n) (.int .i64 n)).run Tryd.prog w = .ok (.slice (some ⟨w.heap.size, 0, none⟩) n n) w' ∧
      w'.ownsRow B 3 1 (.slice (some ⟨w.heap.size, 0, none⟩) n n) n (List.replicate n (Value.int .i64 0)) ∧ Below w.heap.size w w' := by
  obtain ⟨i, hi, hzz, hsize, hby⟩ := info_parts int_info
  obtain ⟨w', hrun, r1, r2⟩ := run_make_full (P := Tryd.prog) w B 23 3 i _ 1 Tryd.underlying23 hi hzz hsize .i64 .i64 n (by rw [hby]; omega) (by simp only [maxLen]; omega) hB
  refine ⟨w', hrun, ?_, (Below.refl _ _).grown r2 (Nat.le_refl _) (by simp)⟩
  rw [Nat.mul_one] at r1
  simpa [Value.cells, toList_madeCells_one] using r1

theorem St.makeF {w0 w : World} {n : Nat} {a m : Option Nat} (h : St w0 n w none a m) (hn : n ≤ 1048576) :
    ∃ w', (Instr.makeSlice 23 (.int .i64 n) (.int .i64 n)).run Tryd.prog w = .ok (.slice (some ⟨w.heap.size, 0, none⟩) n n) w' ∧ St w0 n w' (some w.heap.size) a m := by
  obtain ⟨w', hrun, h1, h2⟩ := run_makeN w w0.heap.size n h.bel.size (by omega)
  have hm := h.more h2
  refine ⟨w', hrun, hm.bel, ?_, hm.rowA, hm.labs, ?_⟩
  · rintro g ⟨⟩
    exact ⟨h.bel.size, h1⟩
  · rintro g k ⟨⟩ hk e
    have := ((h.rowA k hk).2.lt k rfl).2
    omega
theorem St.makeA {w0 w : World} {n : Nat} {f m : Option Nat} (h : St w0 n w f none m) (hn : n ≤ 1048576) :
    ∃ w', (Instr.makeSlice 23 (.int .i64 ((n : Int) + 1)) (.int .i64 ((n : Int) + 1))).run Tryd.prog w = .ok (.slice (some ⟨w.heap.size, 0, none⟩) (n + 1) (n + 1)) w' ∧ St w0 n w' f (some w.heap.size) m := by
  obtain ⟨w', hrun, h1, h2⟩ := run_makeN w w0.heap.size (n + 1) h.bel.size (by omega)
  have hm := h.more h2
  refine ⟨w', by simpa using hrun, hm.bel, hm.rowF, ?_, hm.labs, ?_⟩
  · rintro g ⟨⟩
    exact ⟨h.bel.size, h1⟩
  · rintro g k hg ⟨⟩ e
    have := ((h.rowF g hg).2.lt g rfl).2
    omega
theorem St.makeM {w0 w : World} {n : Nat} {f a : Option Nat} (h : St w0 n w f a none) :
    ∃ w', (Instr.makeMap 64 none).run Tryd.prog w = .ok (.map (some w.heap.size)) w' ∧ St w0 n w' f a (some w.heap.size) := by
  have hm := h.more (w' := w.alloc (.map #[] 0)) ((Below.refl _ _).alloc (Nat.le_refl _) _)
  refine ⟨_, rfl, hm.bel, hm.rowF, hm.rowA, ?_, hm.far⟩
  rintro g ⟨⟩
  exact ⟨h.bel.size, MapS.made w⟩

/-- The work as it is made. -/
theorem St.work {w0 w : World} {A : Option Addr} {c : Nat} {xs : List S.Item} {base : Int} {gF gA m : Nat} (h : St w0 xs.length w (some gF) (some gA) (some m)) :
    ∃ g, w.heap.size = g ∧ Work (w.alloc (.cells #[.slice A xs.length c, .int .i64 base, .slice (some ⟨gF, 0, none⟩) xs.length xs.length, .slice (some ⟨gA, 0, none⟩) (xs.length + 1) (xs.length + 1), .map (some m)] 66))
      w0.heap.size g gF gA m 0 A c xs base (List.replicate xs.length 0) (List.replicate (xs.length + 1) 0) (fun _ => none) ∧ Below w0.heap.size w0 (w.alloc (.cells #[.slice A xs.length c, .int .i64 base, .slice (some ⟨gF, 0, none⟩) xs.length xs.length, .slice (some ⟨gA, 0, none⟩) (xs.length + 1) (xs.length + 1), .map (some m)] 66)) := by
  have hb : Below w.heap.size w (w.alloc (.cells #[.slice A xs.length c, .int .i64 base, .slice (some ⟨gF, 0, none⟩) xs.length xs.length, .slice (some ⟨gA, 0, none⟩) (xs.length + 1) (xs.length + 1), .map (some m)] 66)) := (Below.refl _ _).alloc (Nat.le_refl _) _
  have hm := h.more hb
  refine ⟨_, rfl, ⟨?_, ?_, ?_, (hm.labs m rfl).2, h.bel.size, (hm.rowF gF rfl).1, (hm.rowA gA rfl).1, (hm.labs m rfl).1, h.far gF gA rfl rfl⟩, hm.bel⟩
  · exact heap_alloc_new _ _
  · rw [List.map_replicate]; exact (hm.rowF gF rfl).2
  · rw [List.map_replicate]; exact (hm.rowA gA rfl).2

theorem step_run {P : Program} {ops : Array Oper} {o : Oper} {a : Act} {w w' : World} {v : Value} {K : Act → World → Prop} {Q : Exit → Act → World → Prop} {E : Prop}
    (hg : o.guard = none) (d : Option Tmp) (hd : o.dst = d) (hrun : (execOp a.eval o).run P w = .ok (.value v) w') (hK : K (a.put d v) w') : if Region.wanted o (yielded ops a.tmps) = true then Oper.wp P o a w K Q else E := by
  have hw : Region.wanted o (yielded ops a.tmps) = true := by simp [Region.wanted, hg]
  rw [if_pos hw]
  subst hd
  unfold Oper.wp
  rw [hrun]
  exact hK
theorem wpAny_gen {P : Program} {md : Region.Mode} {ops : Array Oper} {Q : Exit → Act → World → Prop} {f : Nat} {l : Array Bool} {a : Act} {w : World} (h : ∀ a0, a0 = a → wpAny P md ops Q f l a0 w) : wpAny P md ops Q f l a w := h a rfl
theorem step_slice {P : Program} {ops : Array Oper} {o : Oper} {a : Act} {w w' : World} {v : Value} {K : Act → World → Prop} {Q : Exit → Act → World → Prop} {E : Prop}
    (hg : o.guard = none) (t : TypeId) (x : Operand) (hop : o.op = Op.makeSlice t x x) (n : Int) (hx : a.eval x = .int .i64 n) (hrun : (Instr.makeSlice t (.int .i64 n) (.int .i64 n)).run P w = .ok v w') (d : Option Tmp) (hd : o.dst = d) (hK : K (a.put d v) w') :
    if Region.wanted o (yielded ops a.tmps) = true then Oper.wp P o a w K Q else E := by
  have hw : Region.wanted o (yielded ops a.tmps) = true := by simp [Region.wanted, hg]
  rw [if_pos hw]
  subst hd
  unfold Oper.wp
  simp [execOp, hop, hx, hrun, Result.andThen]
  exact hK
theorem step_map {P : Program} {ops : Array Oper} {o : Oper} {a : Act} {w w' : World} {v : Value} {K : Act → World → Prop} {Q : Exit → Act → World → Prop} {E : Prop}
    (hg : o.guard = none) (t : TypeId) (hop : o.op = Op.makeMap t none) (hrun : (Instr.makeMap t none).run P w = .ok v w') (d : Option Tmp) (hd : o.dst = d) (hK : K (a.put d v) w') :
    if Region.wanted o (yielded ops a.tmps) = true then Oper.wp P o a w K Q else E := by
  have hw : Region.wanted o (yielded ops a.tmps) = true := by simp [Region.wanted, hg]
  rw [if_pos hw]
  subst hd
  unfold Oper.wp
  simp [execOp, hop, hrun, Result.andThen]
  exact hK

theorem step_makeF {ops : Array Oper} {o : Oper} {a : Act} {w0 w : World} {n : Nat} {fa fm : Option Nat} {K : Act → World → Prop} {Q : Exit → Act → World → Prop} {E : Prop} (h : St w0 n w none fa fm) (hn : n ≤ 1048576)
    (hg : o.guard = none) (x : Operand) (hop : o.op = Op.makeSlice 23 x x) (hx : a.eval x = .int .i64 n) (d : Option Tmp) (hd : o.dst = d)
    (hK : ∀ w', St w0 n w' (some w.heap.size) fa fm → K (a.put d (.slice (some ⟨w.heap.size, 0, none⟩) n n)) w') : if Region.wanted o (yielded ops a.tmps) = true then Oper.wp Tryd.prog o a w K Q else E := by
  obtain ⟨w', r, h'⟩ := h.makeF hn
  exact step_slice hg _ x hop n hx r d hd (hK w' h')
theorem step_makeA {ops : Array Oper} {o : Oper} {a : Act} {w0 w : World} {n : Nat} {ff fm : Option Nat} {K : Act → World → Prop} {Q : Exit → Act → World → Prop} {E : Prop} (h : St w0 n w ff none fm) (hn : n ≤ 1048576)
    (hg : o.guard = none) (x : Operand) (hop : o.op = Op.makeSlice 23 x x) (hx : a.eval x = .int .i64 ((n : Int) + 1)) (d : Option Tmp) (hd : o.dst = d)
    (hK : ∀ w', St w0 n w' ff (some w.heap.size) fm → K (a.put d (.slice (some ⟨w.heap.size, 0, none⟩) (n + 1) (n + 1))) w') : if Region.wanted o (yielded ops a.tmps) = true then Oper.wp Tryd.prog o a w K Q else E := by
  obtain ⟨w', r, h'⟩ := h.makeA hn
  exact step_slice hg _ x hop _ hx r d hd (hK w' h')
theorem step_makeM {ops : Array Oper} {o : Oper} {a : Act} {w0 w : World} {n : Nat} {ff fa : Option Nat} {K : Act → World → Prop} {Q : Exit → Act → World → Prop} {E : Prop} (h : St w0 n w ff fa none)
    (hg : o.guard = none) (hop : o.op = Op.makeMap 64 none) (d : Option Tmp) (hd : o.dst = d)
    (hK : ∀ w', St w0 n w' ff fa (some w.heap.size) → K (a.put d (.map (some w.heap.size))) w') : if Region.wanted o (yielded ops a.tmps) = true then Oper.wp Tryd.prog o a w K Q else E := by
  obtain ⟨w', r, h'⟩ := h.makeM
  exact step_map hg _ hop r d hd (hK w' h')

end Go.Proofs.YtidhglleeccpoaaDoor
end

section
set_option linter.unusedVariables false
set_option linter.unusedSimpArgs false
set_option linter.unusedSectionVars false
namespace Go.Proofs.YtidhglleeccpoaaDoor

/-- The table of the first k items' labels; tw: whether one stood twice. -/
structure Tab (xs : List S.Item) (k : Nat) (f : ByteArray → Option Int) (tw : Bool) : Prop where
  has : ∀ s, (f s).isSome = true ↔ ∃ (j : Nat) (x : S.Item), j < k ∧ xs[j]? = some x ∧ x.kind = 2 ∧ x.label = s
  val : tw = false → ∀ s v, f s = some v → v = S.stands xs s
  dup : tw = true ↔ ∃ (j : Nat) (x : S.Item), j < k ∧ xs[j]? = some x ∧ x.kind = 2 ∧ S.stands xs x.label ≠ j

theorem Tab.start (xs : List S.Item) : Tab xs 0 (fun _ => none) false :=
  ⟨fun s => by simp, fun _ s v h => by simp at h, by simp⟩

theorem Tab.other {xs : List S.Item} {k : Nat} {f : ByteArray → Option Int} {tw : Bool} (h : Tab xs k f tw) {x : S.Item} (hx : xs[k]? = some x) (hk : x.kind ≠ 2) : Tab xs (k + 1) f tw := by
  refine ⟨fun s => (h.has s).trans ?_, h.val, h.dup.trans ?_⟩
  · constructor
    · rintro ⟨j, y, h1, h2⟩; exact ⟨j, y, by omega, h2⟩
    · rintro ⟨j, y, h1, h2, h3, h4⟩
      have : j ≠ k := by rintro rfl; rw [hx] at h2; cases h2; exact hk h3
      exact ⟨j, y, by omega, h2, h3, h4⟩
  · constructor
    · rintro ⟨j, y, h1, h2⟩; exact ⟨j, y, by omega, h2⟩
    · rintro ⟨j, y, h1, h2, h3, h4⟩
      have : j ≠ k := by rintro rfl; rw [hx] at h2; cases h2; exact hk h3
      exact ⟨j, y, by omega, h2, h3, h4⟩

theorem Tab.label {xs : List S.Item} {k : Nat} {f : ByteArray → Option Int} {tw : Bool} (h : Tab xs k f tw) {x : S.Item} (hx : xs[k]? = some x) (hk : x.kind = 2) :
    Tab xs (k + 1) (fun t => if t = x.label then some (k : Int) else f t) (tw || (f x.label).isSome) := by
  have hst : (f x.label).isSome = false ↔ S.stands xs x.label = k := by
    rw [← Bool.not_eq_true, h.has]
    rcases stands_spec xs x.label with ⟨_, h2⟩ | ⟨j, y, h1, h2, h3, h4, h5⟩
    · exact absurd ⟨hk, rfl⟩ (h2 k x hx)
    · constructor
      · intro hn
        rcases Nat.lt_trichotomy j k with hj | hj | hj
        · exact absurd ⟨j, y, hj, h2, h3, h4⟩ hn
        · rw [h1, hj]
        · exact absurd ⟨hk, rfl⟩ (h5 k x hj hx)
      · rintro hs ⟨i, z, h6, h7, h8, h9⟩
        have : j = k := by rw [h1] at hs; omega
        subst this
        exact h5 i z h6 h7 ⟨h8, h9⟩
  refine ⟨fun s => ?_, ?_, ?_⟩
  · by_cases e : s = x.label
    · simp only [e, if_true]
      constructor
      · intro _; exact ⟨k, x, by omega, hx, hk, rfl⟩
      · intro _; rfl
    · simp only [e, if_false]
      rw [h.has]
      constructor
      · rintro ⟨j, y, h1, h2⟩; exact ⟨j, y, by omega, h2⟩
      · rintro ⟨j, y, h1, h2, h3, h4⟩
        have : j ≠ k := by rintro rfl; rw [hx] at h2; cases h2; exact e h4.symm
        exact ⟨j, y, by omega, h2, h3, h4⟩
  · intro ht s v hv
    rw [Bool.or_eq_false_iff] at ht
    by_cases e : s = x.label
    · simp only [e, if_true] at hv
      cases hv
      rw [e, hst.1 ht.2]
    · simp only [e, if_false] at hv
      exact h.val ht.1 s v hv
  · rw [Bool.or_eq_true, h.dup]
    constructor
    · rintro (⟨j, y, h1, h2⟩ | hs)
      · exact ⟨j, y, by omega, h2⟩
      · refine ⟨k, x, by omega, hx, hk, fun e => ?_⟩
        rw [← hst, hs] at e
        cases e
    · rintro ⟨j, y, h1, h2, h3, h4⟩
      by_cases e : j = k
      · right
        subst e
        rw [hx] at h2; cases h2
        cases hb : (f x.label).isSome with
        | true => rfl
        | false => exact absurd (hst.1 hb) h4
      · left; exact ⟨j, y, by omega, h2, h3, h4⟩

theorem Tab.done {xs : List S.Item} {f : ByteArray → Option Int} (h : Tab xs xs.length f false) : f = labF xs ∧ ¬ S.Dup xs := by
  constructor
  · funext s
    unfold labF
    rcases stands_spec xs s with ⟨h1, h2⟩ | ⟨j, y, h1, h2, h3, h4, h5⟩
    · rw [h1, if_pos (by omega)]
      cases hf : f s with
      | none => rfl
      | some v =>
        obtain ⟨j, x, _, hx, hk, hl⟩ := (h.has s).1 (by rw [hf]; rfl)
        exact absurd ⟨hk, hl⟩ (h2 j x hx)
    · rw [h1, if_neg (by omega)]
      have hs := (h.has s).2 ⟨j, y, (List.getElem?_eq_some_iff.1 h2).1, h2, h3, h4⟩
      cases hf : f s with
      | none => rw [hf] at hs; cases hs
      | some v => rw [h.val rfl s v hf, h1]
  · rintro ⟨i, x, hx, hk, hs⟩
    have := h.dup.2 ⟨i, x, (List.getElem?_eq_some_iff.1 hx).1, hx, hk, hs⟩
    cases this
theorem Tab.twice {xs : List S.Item} {f : ByteArray → Option Int} (h : Tab xs xs.length f true) : S.Dup xs := by
  obtain ⟨j, x, _, hx, hk, hs⟩ := h.dup.1 rfl
  exact ⟨j, x, hx, hk, hs⟩
theorem Tab.shut {xs : List S.Item} {f : ByteArray → Option Int} (h : Tab xs xs.length f false) {k : Nat} {x : S.Item} (hx : xs[k]? = some x) (hk : x.kind = 2) : S.stands xs x.label = k := by
  by_cases e : S.stands xs x.label = k
  · exact e
  · exact absurd ⟨k, x, hx, hk, e⟩ h.done.2

end Go.Proofs.YtidhglleeccpoaaDoor
end
