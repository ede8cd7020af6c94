/- Arguments of layer 2's laws, opened: settings, slices of numbers. -/
import Derived.Test.YtbgdomnalimjnaaStepsA
import Derived.ProofKit
import Derived.Deep.Slices
import Derived.Below
set_option maxRecDepth 100000
set_option linter.unusedVariables false
set_option linter.unusedSimpArgs false
set_option linter.unusedSectionVars false
namespace Go.Proofs.Ytbgdomnalimjnaa
open Go.ChangeShapes Go.WideShapes Go.ChangeAt Go.RowKit

section
variable {H : Type} {enc : TypeId × Value → H} {w : World} {base : Nat} {spare : Nat → Bool} {held : Bool} {fuel : Nat} {cs : List Value} {x : DataW H × List MemPlace}

theorem int_cells : Try.prog.cellsOf 3 = 1 := by kernel_rfl
theorem u32_cells : Try.prog.cellsOf 34 = 1 := by kernel_rfl
theorem u8_cells : Try.prog.cellsOf 5 = 1 := by kernel_rfl
theorem words_cells : Try.prog.cellsOf 22 = 1 := by kernel_rfl
theorem bytes_cells : Try.prog.cellsOf 23 = 1 := by kernel_rfl
theorem setting_cells : Try.prog.cellsOf 25 = 4 := by kernel_rfl

theorem cell_lt {w : World} {b o : Nat} {v : Value} (h : w.cell? ⟨b, o, none⟩ = some v) : b < w.heap.size := by
  simp only [World.cell?] at h
  by_cases hb : b < w.heap.size
  · exact hb
  · rw [Array.getElem?_eq_none (by omega)] at h
    cases h

/-- A slice of numbers, opened. -/
theorem open_nums_cells {ts te : TypeId} {k : IntKind} (hs : Try.prog.underlying ts = some (.slice te)) (he : Try.prog.underlying te = some (.int k)) (hc : Try.prog.cellsOf te = 1) (h : DataW.trod enc Try.prog w base spare held fuel ts cs = some x) :
    ∃ (A : Option Addr) (c : Nat) (xs : List Int), cs = [.slice A xs.length c] ∧ (xs.length ≤ c ∧ c ≤ maxLen) ∧ Reads w w.heap.size A (xs.map (Value.int k)) ∧ ∀ y ∈ xs, (Lit.int k y).wf = true := by
  rcases Deep.open_slice1 hs hc h with ⟨hcs, _⟩ | ⟨a, len, cap, m, n, V, D, Pl, hcs, _, hlc, hcm, hm, hx, hi⟩
  · exact ⟨none, 0, [], hcs, ⟨Nat.le_refl _, Nat.zero_le _⟩, fun hp => by simp at hp, fun y hy => by cases hy⟩
  · have hml : len ≤ m := by rw [hm]; split <;> omega
    have each : ∀ i, i < len → ∃ y : Int, w.cell? (a.add i) = some (.int k y) ∧ (Lit.int k y).wf = true := by
      intro i hin
      obtain ⟨h1, h2⟩ := hi i (by omega)
      obtain ⟨y, e, _, hw⟩ := DataW.trod_int he h2
      have e' : V i = .int k y := by simpa using e
      exact ⟨y, by rw [h1, e'], hw⟩
    obtain ⟨f, hfi⟩ := Deep.choose_lt each
    refine ⟨some a, cap, (List.range len).map f, by simp [hcs], by simpa using ⟨hlc, hcm⟩, fun hp => ?_, fun y hy => ?_⟩
    · have hn : 0 < len := by simpa using hp
      obtain ⟨b, off, spot⟩ := a
      have h0 := (hfi 0 hn).1
      have hspot : spot = none := by simpa [Addr.add] using World.cell?_spot h0
      subst hspot
      refine ⟨b, off, rfl, ?_, fun i x hx => ?_⟩
      · rw [show (⟨b, off, none⟩ : Addr).add 0 = ⟨b, off, none⟩ by simp [Addr.add]] at h0
        exact cell_lt h0
      · have hlti : i < len := by have := (List.getElem?_eq_some_iff.1 hx).1; simpa using this
        have hxe : Value.int k (f i) = x := by simpa [hlti] using hx
        subst hxe
        rw [← Go.WideShapes.add_plain]
        exact (hfi i hlti).1
    · obtain ⟨i, hi2, rfl⟩ := List.mem_map.1 hy
      exact (hfi i (List.mem_range.1 hi2)).2

theorem wf_u32 {y : Int} (h : (Lit.int .u32 y).wf = true) : 0 ≤ y ∧ y ≤ 4294967295 := by
  simp [Lit.wf, IntKind.min, IntKind.max, IntKind.signed, IntKind.bits] at h
  omega
theorem wf_u8 {y : Int} (h : (Lit.int .u8 y).wf = true) : 0 ≤ y ∧ y ≤ 255 := by
  simp [Lit.wf, IntKind.min, IntKind.max, IntKind.signed, IntKind.bits] at h
  omega

/-- A setting, opened. -/
theorem open_setting {b0 : Nat} {v : Value} {d : DataW H} {ps : List MemPlace} (hval : Value.okWide Try.prog w .any b0 25 v) (h : DataW.Trod enc Try.prog w base spare held 25 v d ps) :
    ∃ (Aw Ai Ar : Option Addr) (cw ci cr : Nat) (W I R : List Int) (size : Int), v = .agg #[.slice Aw W.length cw, .int .i64 size, .slice Ai I.length ci, .slice Ar R.length cr] ∧ Sett w Aw Ai Ar cw ci cr W I R := by
  obtain ⟨fuel, hf⟩ := h
  obtain ⟨cs, rfl, hsz⟩ := okWide_struct Try.underlying25 hval
  obtain ⟨xs, n, _, _, hl, hxl, hfi⟩ := DataW.trod_struct Try.underlying25 hf
  rw [setting_cells] at hl hsz
  obtain ⟨l⟩ := cs
  have hl2 : l.length = 4 := by simpa using hsz
  match l, hl2 with
  | [c0, c1, c2, c3], _ =>
    have hx : xs.length = 4 := hxl
    have key : ∀ (i : Nat) (f : Field) (t : TypeId) (o : Nat), i < xs.length → f.type = t → f.offset = o → Try.prog.cellsOf t = 1 → DataW.trod enc Try.prog w base spare held n f.type (((Value.agg #[c0, c1, c2, c3]).cells.toList.drop f.offset).take (Try.prog.cellsOf f.type)) = xs[i]? →
        ∃ y, DataW.trod enc Try.prog w base spare held n t (([c0, c1, c2, c3].drop o).take 1) = some y := by
      intro i f t o hi ht ho hk h
      rw [List.getElem?_eq_getElem hi] at h
      subst ht ho
      rw [hk] at h
      exact ⟨_, h⟩
    obtain ⟨y0, h0⟩ := key 0 _ 22 0 (by omega) rfl rfl words_cells (hfi 0 _ rfl)
    obtain ⟨y1, h1⟩ := key 1 _ 3 1 (by omega) rfl rfl int_cells (hfi 1 _ rfl)
    obtain ⟨y2, h2⟩ := key 2 _ 23 2 (by omega) rfl rfl bytes_cells (hfi 2 _ rfl)
    obtain ⟨y3, h3⟩ := key 3 _ 22 3 (by omega) rfl rfl words_cells (hfi 3 _ rfl)
    obtain ⟨Aw, cw, W, e0, hw1, hw2, hw3⟩ := open_nums_cells Try.underlying22 Try.underlying34 u32_cells h0
    obtain ⟨size, e1, _⟩ := DataW.trod_int Try.underlying3 h1
    obtain ⟨Ai, ci, I, e2, hi1, hi2, hi3⟩ := open_nums_cells Try.underlying23 Try.underlying5 u8_cells h2
    obtain ⟨Ar, cr, R, e3, hr1, hr2, hr3⟩ := open_nums_cells Try.underlying22 Try.underlying34 u32_cells h3
    simp at e0 e1 e2 e3
    subst e0 e1 e2 e3
    exact ⟨Aw, Ai, Ar, cw, ci, cr, W, I, R, size, rfl, hw2, hi2, hr2, hw1, hi1, hr1, fun x hx => wf_u32 (hw3 x hx), fun x hx => wf_u8 (hi3 x hx), fun x hx => wf_u32 (hr3 x hx)⟩

/-- A slice of numbers among the arguments. -/
theorem open_nums {b0 : Nat} {ts te : TypeId} {k : IntKind} {v : Value} {d : DataW H} {ps : List MemPlace} (hs : Try.prog.underlying ts = some (.slice te)) (he : Try.prog.underlying te = some (.int k)) (hc : Try.prog.cellsOf te = 1)
    (hval : Value.okWide Try.prog w .any b0 ts v) (h : DataW.Trod enc Try.prog w base spare held ts v d ps) :
    ∃ (A : Option Addr) (c : Nat) (xs : List Int), v = .slice A xs.length c ∧ (xs.length ≤ c ∧ c ≤ maxLen) ∧ Reads w w.heap.size A (xs.map (Value.int k)) ∧ ∀ y ∈ xs, (Lit.int k y).wf = true := by
  obtain ⟨fuel, hf⟩ := h
  obtain ⟨a, len, cap, rfl⟩ := okWide_slice hs hval
  obtain ⟨A, c, xs, e, h1, h2, h3⟩ := open_nums_cells hs he hc hf
  have e2 : Value.slice a len cap = .slice A xs.length c := by simpa [Value.cells] using e
  exact ⟨A, c, xs, e2, h1, h2, h3⟩

end

end Go.Proofs.Ytbgdomnalimjnaa
