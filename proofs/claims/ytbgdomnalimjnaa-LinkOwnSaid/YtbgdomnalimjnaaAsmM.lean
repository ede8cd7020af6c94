/- A region that makes two rows, a map and a block, in whatever order. -/
import Derived.Test.YtbgdomnalimjnaaAsmL
import Derived.Deep.RegionLaw
import Derived.Deep.Cut
import Derived.Deep.CutRange
import Derived.WalkMore
set_option linter.unusedVariables false
set_option linter.unusedSimpArgs false
set_option linter.unusedSectionVars false
namespace Go.Proofs.Ytbgdomnalimjnaa
open Go.RowKit

/-- What has been made so far. -/
structure St (w0 : World) (n : Nat) (w : World) (f a m : Option Nat) : Prop where
  bel : Below w0.heap.size w0 w
  rowF : ∀ g, f = some g → w0.heap.size ≤ g ∧ w.ownsRow w0.heap.size 3 1 (.slice (some ⟨g, 0, none⟩) n n) n (List.replicate n (Value.int .i64 0))
  rowA : ∀ g, a = some g → w0.heap.size ≤ g ∧ w.ownsRow w0.heap.size 3 1 (.slice (some ⟨g, 0, none⟩) (n + 1) (n + 1)) (n + 1) (List.replicate (n + 1) (Value.int .i64 0))
  labs : ∀ g, m = some g → w0.heap.size ≤ g ∧ MapS w g 0 (fun _ => none)
  far : ∀ g h, f = some g → a = some h → g ≠ h

theorem St.start (w0 w : World) (n : Nat) (hb : Below w0.heap.size w0 w) : St w0 n w none none none :=
  ⟨hb, fun _ h => (by cases h), fun _ h => (by cases h), fun _ h => (by cases h), fun _ _ h => (by cases h)⟩

theorem St.more {w0 w w' : World} {n : Nat} {f a m : Option Nat} (h : St w0 n w f a m) (hb : Below w.heap.size w w') : St w0 n w' f a m :=
  ⟨h.bel.trans (hb.mono h.bel.size), fun g e => ⟨(h.rowF g e).1, ownsRow_below (h.rowF g e).2 hb⟩, fun g e => ⟨(h.rowA g e).1, ownsRow_below (h.rowA g e).2 hb⟩, fun g e => ⟨(h.labs g e).1, (h.labs g e).2.below hb⟩, h.far⟩

theorem run_makeN (w : World) (B n : Nat) (hB : B ≤ w.heap.size) (hn : n ≤ 1048577) :
    ∃ w', (Instr.makeSlice 82 (.int .i64 n) (.int .i64 n)).run Try.prog w = .ok (.slice (some ⟨w.heap.size, 0, none⟩) n n) w' ∧
      w'.ownsRow B 3 1 (.slice (some ⟨w.heap.size, 0, none⟩) n n) n (List.replicate n (Value.int .i64 0)) ∧ Below w.heap.size w w' := by
  obtain ⟨i, hi, hzz, hsize, hby⟩ := info_parts int_info
  obtain ⟨w', hrun, r1, r2⟩ := run_make_full (P := Try.prog) w B 82 3 i _ 1 Try.underlying82 hi hzz hsize .i64 .i64 n (by rw [hby]; omega) (by simp only [maxLen]; omega) hB
  refine ⟨w', hrun, ?_, (Below.refl _ _).grown r2 (Nat.le_refl _) (by simp)⟩
  rw [Nat.mul_one] at r1
  simpa [Value.cells, toList_madeCells_one] using r1

theorem St.makeF {w0 w : World} {n : Nat} {a m : Option Nat} (h : St w0 n w none a m) (hn : n ≤ 1048576) :
    ∃ w', (Instr.makeSlice 82 (.int .i64 n) (.int .i64 n)).run Try.prog w = .ok (.slice (some ⟨w.heap.size, 0, none⟩) n n) w' ∧ St w0 n w' (some w.heap.size) a m := by
  obtain ⟨w', hrun, h1, h2⟩ := run_makeN w w0.heap.size n h.bel.size (by omega)
  have hm := h.more h2
  refine ⟨w', hrun, hm.bel, ?_, hm.rowA, hm.labs, ?_⟩
  · rintro g ⟨⟩
    exact ⟨h.bel.size, h1⟩
  · rintro g k ⟨⟩ hk e
    have := ((h.rowA k hk).2.lt k rfl).2
    omega
theorem St.makeA {w0 w : World} {n : Nat} {f m : Option Nat} (h : St w0 n w f none m) (hn : n ≤ 1048576) :
    ∃ w', (Instr.makeSlice 82 (.int .i64 ((n : Int) + 1)) (.int .i64 ((n : Int) + 1))).run Try.prog w = .ok (.slice (some ⟨w.heap.size, 0, none⟩) (n + 1) (n + 1)) w' ∧ St w0 n w' f (some w.heap.size) m := by
  obtain ⟨w', hrun, h1, h2⟩ := run_makeN w w0.heap.size (n + 1) h.bel.size (by omega)
  have hm := h.more h2
  refine ⟨w', by simpa using hrun, hm.bel, hm.rowF, ?_, hm.labs, ?_⟩
  · rintro g ⟨⟩
    exact ⟨h.bel.size, h1⟩
  · rintro g k hg ⟨⟩ e
    have := ((h.rowF g hg).2.lt g rfl).2
    omega
theorem St.makeM {w0 w : World} {n : Nat} {f a : Option Nat} (h : St w0 n w f a none) :
    ∃ w', (Instr.makeMap 118 none).run Try.prog w = .ok (.map (some w.heap.size)) w' ∧ St w0 n w' f a (some w.heap.size) := by
  have hm := h.more (w' := w.alloc (.map #[] 0)) ((Below.refl _ _).alloc (Nat.le_refl _) _)
  refine ⟨_, rfl, hm.bel, hm.rowF, hm.rowA, ?_, hm.far⟩
  rintro g ⟨⟩
  exact ⟨h.bel.size, MapS.made w⟩

/-- The work as it is made. -/
theorem St.work {w0 w : World} {A : Option Addr} {c : Nat} {xs : List S.Item} {base : Int} {gF gA m : Nat} (h : St w0 xs.length w (some gF) (some gA) (some m)) :
    ∃ g, w.heap.size = g ∧ Work (w.alloc (.cells #[.slice A xs.length c, .int .i64 base, .slice (some ⟨gF, 0, none⟩) xs.length xs.length, .slice (some ⟨gA, 0, none⟩) (xs.length + 1) (xs.length + 1), .map (some m)] 120))
      w0.heap.size g gF gA m 0 A c xs base (List.replicate xs.length 0) (List.replicate (xs.length + 1) 0) (fun _ => none) ∧ Below w0.heap.size w0 (w.alloc (.cells #[.slice A xs.length c, .int .i64 base, .slice (some ⟨gF, 0, none⟩) xs.length xs.length, .slice (some ⟨gA, 0, none⟩) (xs.length + 1) (xs.length + 1), .map (some m)] 120)) := by
  have hb : Below w.heap.size w (w.alloc (.cells #[.slice A xs.length c, .int .i64 base, .slice (some ⟨gF, 0, none⟩) xs.length xs.length, .slice (some ⟨gA, 0, none⟩) (xs.length + 1) (xs.length + 1), .map (some m)] 120)) := (Below.refl _ _).alloc (Nat.le_refl _) _
  have hm := h.more hb
  refine ⟨_, rfl, ⟨?_, ?_, ?_, (hm.labs m rfl).2, h.bel.size, (hm.rowF gF rfl).1, (hm.rowA gA rfl).1, (hm.labs m rfl).1, h.far gF gA rfl rfl⟩, hm.bel⟩
  · exact heap_alloc_new _ _
  · rw [List.map_replicate]; exact (hm.rowF gF rfl).2
  · rw [List.map_replicate]; exact (hm.rowA gA rfl).2

theorem step_run {P : Program} {ops : Array Oper} {o : Oper} {a : Act} {w w' : World} {v : Value} {K : Act → World → Prop} {Q : Exit → Act → World → Prop} {E : Prop}
    (hg : o.guard = none) (d : Option Tmp) (hd : o.dst = d) (hrun : (execOp a.eval o).run P w = .ok (.value v) w') (hK : K (a.put d v) w') : if Region.wanted o (yielded ops a.tmps) = true then Oper.wp P o a w K Q else E := by
  have hw : Region.wanted o (yielded ops a.tmps) = true := by simp [Region.wanted, hg]
  rw [if_pos hw]
  subst hd
  unfold Oper.wp
  rw [hrun]
  exact hK
theorem wpAny_gen {P : Program} {md : Region.Mode} {ops : Array Oper} {Q : Exit → Act → World → Prop} {f : Nat} {l : Array Bool} {a : Act} {w : World} (h : ∀ a0, a0 = a → wpAny P md ops Q f l a0 w) : wpAny P md ops Q f l a w := h a rfl
theorem step_slice {P : Program} {ops : Array Oper} {o : Oper} {a : Act} {w w' : World} {v : Value} {K : Act → World → Prop} {Q : Exit → Act → World → Prop} {E : Prop}
    (hg : o.guard = none) (t : TypeId) (x : Operand) (hop : o.op = Op.makeSlice t x x) (n : Int) (hx : a.eval x = .int .i64 n) (hrun : (Instr.makeSlice t (.int .i64 n) (.int .i64 n)).run P w = .ok v w') (d : Option Tmp) (hd : o.dst = d) (hK : K (a.put d v) w') :
    if Region.wanted o (yielded ops a.tmps) = true then Oper.wp P o a w K Q else E := by
  have hw : Region.wanted o (yielded ops a.tmps) = true := by simp [Region.wanted, hg]
  rw [if_pos hw]
  subst hd
  unfold Oper.wp
  simp [execOp, hop, hx, hrun, Result.andThen]
  exact hK
theorem step_map {P : Program} {ops : Array Oper} {o : Oper} {a : Act} {w w' : World} {v : Value} {K : Act → World → Prop} {Q : Exit → Act → World → Prop} {E : Prop}
    (hg : o.guard = none) (t : TypeId) (hop : o.op = Op.makeMap t none) (hrun : (Instr.makeMap t none).run P w = .ok v w') (d : Option Tmp) (hd : o.dst = d) (hK : K (a.put d v) w') :
    if Region.wanted o (yielded ops a.tmps) = true then Oper.wp P o a w K Q else E := by
  have hw : Region.wanted o (yielded ops a.tmps) = true := by simp [Region.wanted, hg]
  rw [if_pos hw]
  subst hd
  unfold Oper.wp
  simp [execOp, hop, hrun, Result.andThen]
  exact hK

theorem step_makeF {ops : Array Oper} {o : Oper} {a : Act} {w0 w : World} {n : Nat} {fa fm : Option Nat} {K : Act → World → Prop} {Q : Exit → Act → World → Prop} {E : Prop} (h : St w0 n w none fa fm) (hn : n ≤ 1048576)
    (hg : o.guard = none) (x : Operand) (hop : o.op = Op.makeSlice 82 x x) (hx : a.eval x = .int .i64 n) (d : Option Tmp) (hd : o.dst = d)
    (hK : ∀ w', St w0 n w' (some w.heap.size) fa fm → K (a.put d (.slice (some ⟨w.heap.size, 0, none⟩) n n)) w') : if Region.wanted o (yielded ops a.tmps) = true then Oper.wp Try.prog o a w K Q else E := by
  obtain ⟨w', r, h'⟩ := h.makeF hn
  exact step_slice hg _ x hop n hx r d hd (hK w' h')
theorem step_makeA {ops : Array Oper} {o : Oper} {a : Act} {w0 w : World} {n : Nat} {ff fm : Option Nat} {K : Act → World → Prop} {Q : Exit → Act → World → Prop} {E : Prop} (h : St w0 n w ff none fm) (hn : n ≤ 1048576)
    (hg : o.guard = none) (x : Operand) (hop : o.op = Op.makeSlice 82 x x) (hx : a.eval x = .int .i64 ((n : Int) + 1)) (d : Option Tmp) (hd : o.dst = d)
    (hK : ∀ w', St w0 n w' ff (some w.heap.size) fm → K (a.put d (.slice (some ⟨w.heap.size, 0, none⟩) (n + 1) (n + 1))) w') : if Region.wanted o (yielded ops a.tmps) = true then Oper.wp Try.prog o a w K Q else E := by
  obtain ⟨w', r, h'⟩ := h.makeA hn
  exact step_slice hg _ x hop _ hx r d hd (hK w' h')
theorem step_makeM {ops : Array Oper} {o : Oper} {a : Act} {w0 w : World} {n : Nat} {ff fa : Option Nat} {K : Act → World → Prop} {Q : Exit → Act → World → Prop} {E : Prop} (h : St w0 n w ff fa none)
    (hg : o.guard = none) (hop : o.op = Op.makeMap 118 none) (d : Option Tmp) (hd : o.dst = d)
    (hK : ∀ w', St w0 n w' ff fa (some w.heap.size) → K (a.put d (.map (some w.heap.size))) w') : if Region.wanted o (yielded ops a.tmps) = true then Oper.wp Try.prog o a w K Q else E := by
  obtain ⟨w', r, h'⟩ := h.makeM
  exact step_map hg _ hop r d hd (hK w' h')

end Go.Proofs.Ytbgdomnalimjnaa
