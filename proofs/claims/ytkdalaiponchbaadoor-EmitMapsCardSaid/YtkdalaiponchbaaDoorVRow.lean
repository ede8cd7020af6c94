/- What the listed variables give, and a world that meets the list: for the rows of layer 24. -/
import Derived.Test.YtkdalaiponchbaaDoorRows
import Derived.Test.YtkdalaiponchbaaDoorESam
import Derived.Test.YtkdalaiponchbaaDoorRowEnd
import Derived.ProofKit
import Derived.OpenShut
import Derived.LaidMore
import Derived.LaidHandle
import Derived.MakeChecks
import Derived.Lib.LaidTab
import Derived.Stop.LaidErr
import Derived.Deep.DeepHandedRow
import Derived.Deep.DeepWitnessRowRef
import Derived.Deep.Slices
import Derived.Below
set_option maxRecDepth 100000
set_option linter.unusedVariables false
set_option linter.unusedSimpArgs false
set_option linter.unusedSectionVars false
namespace Go.Proofs.YtkdalaiponchbaaDoor
open Go.ChangeShapes Go.WideShapes Go.ChangeAt Go.RowKit

theorem gPow : Tryd.prog.globalNamed "internal/strconv.uint64pow10" = some 0 := by kernel_rfl
theorem tPow : (Tryd.prog.globals[0]?).map (·.type) = some 153 := by kernel_rfl
theorem cPow : Tryd.prog.cellsOf 153 = 20 := by kernel_rfl
theorem cU64 : Tryd.prog.cellsOf 117 = 1 := by kernel_rfl
/-- What the rows list. -/
def laidL : List (String × DataW Unit) := Rows.emitItemsRow.laid
noncomputable def laidWorld (os : Os) : World := World.doorLaid Tryd.prog 100 os
theorem laid_met (os : Os) (args : Array Value) : laidMetH Tryd.prog laidL ((laidWorld os).forCall (fun _ _ => 0) ⟨#[], args, []⟩).memory :=
  laidMetH_of_parts3 (fuel := 8) (laidMet_of_run' 8 (by kernel_rfl) (by kernel_rfl)) (by kernel_rfl) (by kernel_rfl)

theorem lv_of {W : World} (h : laidMetH Tryd.prog laidL W) (hs : W.ShapedOpen Tryd.prog) : LVE W := by
  rw [MakeChecks.laidMetH_plain _ _ _ (by kernel_rfl)] at h
  have h3 := laidMet.tail (laidMet.tail h)
  have hsz : 3 ≤ W.heap.size := by
    obtain ⟨cs, ho, _⟩ := hs.1 2 (Array.replicate 64 (.int .u8 0)) 157 (of_decide_eq_true (by kernel_rfl)) (by kernel_rfl)
    rcases Nat.lt_or_ge 2 W.heap.size with h8 | h8
    · exact h8
    · simp [Array.getElem?_eq_none h8] at ho
  exact ⟨Lib.tabIs_of_head gPow tPow Tryd.underlying153 Tryd.underlying117 cU64 cPow h3, hsz⟩

theorem wf_i64 {y : Int} (h : (Lit.int .i64 y).wf = true) : I64 y := by
  simp [Lit.wf, IntKind.min, IntKind.max, IntKind.signed, IntKind.bits] at h
  unfold I64
  omega


section
variable {H : Type} {enc : TypeId × Value → H} {w : World} {base : Nat} {spare : Nat → Bool} {held : Bool} {fuel : Nat} {cs : List Value} {x : DataW H × List MemPlace}

theorem int_cells : Tryd.prog.cellsOf 3 = 1 := by kernel_rfl
theorem bool_cells : Tryd.prog.cellsOf 4 = 1 := by kernel_rfl
theorem u32_cells : Tryd.prog.cellsOf 47 = 1 := by kernel_rfl
theorem ints_cells : Tryd.prog.cellsOf 42 = 1 := by kernel_rfl
theorem words_cells : Tryd.prog.cellsOf 25 = 1 := by kernel_rfl
theorem vinst_cells : Tryd.prog.cellsOf 44 = 8 := by kernel_rfl
theorem vinsts_cells : Tryd.prog.cellsOf 22 = 1 := by kernel_rfl
theorem vfunc_cells : Tryd.prog.cellsOf 24 = 7 := by kernel_rfl
theorem cell_ltV {w : World} {b o : Nat} {v : Value} (h : w.cell? ⟨b, o, none⟩ = some v) : b < w.heap.size := by
  simp only [World.cell?] at h
  by_cases hb : b < w.heap.size
  · exact hb
  · rw [Array.getElem?_eq_none (by omega)] at h
    cases h

/-- A slice of numbers, opened. -/
theorem open_nums_cells {ts te : TypeId} {k : IntKind} (hs : Tryd.prog.underlying ts = some (.slice te)) (he : Tryd.prog.underlying te = some (.int k)) (hc : Tryd.prog.cellsOf te = 1) (h : DataW.trod enc Tryd.prog w base spare held fuel ts cs = some x) :
    ∃ (A : Option Addr) (c : Nat) (xs : List Int), cs = [.slice A xs.length c] ∧ (xs.length ≤ c ∧ c ≤ maxLen) ∧ Reads w w.heap.size A (xs.map (Value.int k)) ∧ ∀ y ∈ xs, (Lit.int k y).wf = true := by
  rcases Deep.open_slice1 hs hc h with ⟨hcs, _⟩ | ⟨a, len, cap, m, n, V, D, Pl, hcs, _, hlc, hcm, hm, hx, hi⟩
  · exact ⟨none, 0, [], hcs, ⟨Nat.le_refl _, Nat.zero_le _⟩, fun hp => by simp at hp, fun y hy => by cases hy⟩
  · have hml : len ≤ m := by rw [hm]; split <;> omega
    have each : ∀ i, i < len → ∃ y : Int, w.cell? (a.add i) = some (.int k y) ∧ (Lit.int k y).wf = true := by
      intro i hin
      obtain ⟨h1, h2⟩ := hi i (by omega)
      obtain ⟨y, e, _, hw⟩ := DataW.trod_int he h2
      have e' : V i = .int k y := by simpa using e
      exact ⟨y, by rw [h1, e'], hw⟩
    obtain ⟨f, hfi⟩ := Deep.choose_lt each
    refine ⟨some a, cap, (List.range len).map f, by simp [hcs], by simpa using ⟨hlc, hcm⟩, fun hp => ?_, fun y hy => ?_⟩
    · have hn : 0 < len := by simpa using hp
      obtain ⟨b, off, spot⟩ := a
      have h0 := (hfi 0 hn).1
      have hspot : spot = none := by simpa [Addr.add] using World.cell?_spot h0
      subst hspot
      refine ⟨b, off, rfl, ?_, fun i x hx => ?_⟩
      · rw [show (⟨b, off, none⟩ : Addr).add 0 = ⟨b, off, none⟩ by simp [Addr.add]] at h0
        exact cell_ltV h0
      · have hlti : i < len := by have := (List.getElem?_eq_some_iff.1 hx).1; simpa using this
        have hxe : Value.int k (f i) = x := by simpa [hlti] using hx
        subst hxe
        rw [← Go.WideShapes.add_plain]
        exact (hfi i hlti).1
    · obtain ⟨i, hi2, rfl⟩ := List.mem_map.1 hy
      exact (hfi i (List.mem_range.1 hi2)).2
theorem ints_of_reads {B : Nat} {A : Option Addr} {xs : List Int} (h : Reads w B A (xs.map (Value.int .i64))) : Ints w B A xs := fun hp => by
  obtain ⟨b, off, e, hb, hc⟩ := h (by simpa using hp)
  exact ⟨b, off, e, hb, fun i y hy => hc i _ (by rw [List.getElem?_map, hy]; rfl)⟩
theorem none_of_reads {B : Nat} {A : Option Addr} {xs : List Int} {k : IntKind} (h : Reads w B A (xs.map (Value.int k))) (hA : A = none) : xs.length = 0 := by
  rcases Nat.eq_zero_or_pos xs.length with h0 | h0
  · exact h0
  · obtain ⟨b, off, e, _⟩ := h (by simpa using h0)
    rw [hA] at e; cases e

theorem open_vinst_cells (h : DataW.trod enc Tryd.prog w base spare held fuel 44 cs = some x) : ∃ y : VL, cs = y.cells ∧ VIn w w.heap.size y := by
  obtain ⟨xs, n, _, _, hl, hxl, hf⟩ := DataW.trod_struct Tryd.underlying44 h
  rw [vinst_cells] at hl
  match cs, hl with
  | [c0, c1, c2, c3, c4, c5, c6, c7], _ =>
    have hx : xs.length = 8 := hxl
    have key : ∀ (i : Nat) (f : Field) (t : TypeId) (o : Nat), i < xs.length → f.type = t → f.offset = o → Tryd.prog.cellsOf t = 1 → DataW.trod enc Tryd.prog w base spare held n f.type (([c0, c1, c2, c3, c4, c5, c6, c7].drop f.offset).take (Tryd.prog.cellsOf f.type)) = xs[i]? →
        ∃ y, DataW.trod enc Tryd.prog w base spare held n t (([c0, c1, c2, c3, c4, c5, c6, c7].drop o).take 1) = some y := by
      intro i f t o hi ht ho hk h
      rw [List.getElem?_eq_getElem hi] at h
      subst ht ho
      rw [hk] at h
      exact ⟨_, h⟩
    obtain ⟨y0, h0⟩ := key 0 _ 3 0 (by omega) rfl rfl int_cells (hf 0 _ rfl)
    obtain ⟨y1, h1⟩ := key 1 _ 3 1 (by omega) rfl rfl int_cells (hf 1 _ rfl)
    obtain ⟨y2, h2⟩ := key 2 _ 3 2 (by omega) rfl rfl int_cells (hf 2 _ rfl)
    obtain ⟨y3, h3⟩ := key 3 _ 3 3 (by omega) rfl rfl int_cells (hf 3 _ rfl)
    obtain ⟨y4, h4⟩ := key 4 _ 3 4 (by omega) rfl rfl int_cells (hf 4 _ rfl)
    obtain ⟨y5, h5⟩ := key 5 _ 3 5 (by omega) rfl rfl int_cells (hf 5 _ rfl)
    obtain ⟨y6, h6⟩ := key 6 _ 42 6 (by omega) rfl rfl ints_cells (hf 6 _ rfl)
    obtain ⟨y7, h7⟩ := key 7 _ 42 7 (by omega) rfl rfl ints_cells (hf 7 _ rfl)
    obtain ⟨n0, e0, _, w0⟩ := DataW.trod_int Tryd.underlying3 h0
    obtain ⟨n1, e1, _, w1⟩ := DataW.trod_int Tryd.underlying3 h1
    obtain ⟨n2, e2, _, w2⟩ := DataW.trod_int Tryd.underlying3 h2
    obtain ⟨n3, e3, _, w3⟩ := DataW.trod_int Tryd.underlying3 h3
    obtain ⟨n4, e4, _, w4⟩ := DataW.trod_int Tryd.underlying3 h4
    obtain ⟨n5, e5, _, w5⟩ := DataW.trod_int Tryd.underlying3 h5
    obtain ⟨U, cu, us, e6, hu1, hu2, hu3⟩ := open_nums_cells Tryd.underlying42 Tryd.underlying3 int_cells h6
    obtain ⟨M, cm, ms, e7, hm1, hm2, hm3⟩ := open_nums_cells Tryd.underlying42 Tryd.underlying3 int_cells h7
    simp at e0 e1 e2 e3 e4 e5 e6 e7
    subst e0 e1 e2 e3 e4 e5 e6 e7
    exact ⟨⟨⟨n0, n1, n2, n3, n4, n5, us, ms⟩, U, cu, M, cm⟩, rfl, ints_of_reads hu2, ints_of_reads hm2, by have := hu1.1; have := hu1.2; simp only [maxLen] at this; show us.length ≤ _; omega, by have := hm1.1; have := hm1.2; simp only [maxLen] at this; show ms.length ≤ _; omega, none_of_reads hu2, none_of_reads hm2, wf_i64 w0, wf_i64 w1, wf_i64 w4, wf_i64 w5⟩

theorem open_vinsts_cells (h : DataW.trod enc Tryd.prog w base spare held fuel 22 cs = some x) :
    ∃ (A : Option Addr) (c : Nat) (xs : List VL), cs = [.slice A xs.length c] ∧ VLs w w.heap.size A xs ∧ (∀ y ∈ xs, VIn w w.heap.size y) ∧ xs.length ≤ maxLen := by
  rcases Deep.open_slice Tryd.underlying22 h with ⟨hcs, _⟩ | ⟨a, n, c, m, k, D, Pl, hcs, _, hlc, hcm, hm, hx, hi⟩
  · exact ⟨none, 0, [], hcs, fun hp => by simp at hp, (fun y hy => by cases hy), by simp⟩
  · rw [vinst_cells] at hi hx
    have hml : n ≤ m := by rw [hm]; split <;> omega
    have each : ∀ i, i < n → ∃ y : VL, (∀ j, j < 8 → w.cell? (a.add (i * 8 + j)) = y.cells[j]?) ∧ VIn w w.heap.size y := by
      intro i hin
      obtain ⟨cs', hc, ht⟩ := hi i (by omega)
      obtain ⟨_, hcl, hat⟩ := World.cells?_some hc
      obtain ⟨y, rfl, h1⟩ := open_vinst_cells ht
      exact ⟨y, fun j hj => by rw [← Deep.add_add]; exact hat j hj, h1⟩
    haveI : Inhabited VL := ⟨⟨⟨0, 0, 0, 0, 0, 0, [], []⟩, none, 0, none, 0⟩⟩
    obtain ⟨f, hfi⟩ := Deep.choose_lt each
    refine ⟨some a, c, (List.range n).map f, by simpa using hcs, fun hp => ?_, fun y hy => ?_, by simp; omega⟩
    · have hn : 0 < n := by simpa using hp
      obtain ⟨b, off, spot⟩ := a
      have h0 := (hfi 0 hn).1 0 (by omega)
      have hspot : spot = none := by simpa [Addr.add] using World.cell?_spot h0
      subst hspot
      refine ⟨b, off, rfl, ?_, fun i y hy => ?_⟩
      · rw [show (⟨b, off, none⟩ : Addr).add (0 * 8 + 0) = ⟨b, off, none⟩ by simp [Addr.add]] at h0
        exact cell_ltV h0
      · have hlti : i < n := by have := (List.getElem?_eq_some_iff.1 hy).1; simpa using this
        have hxe : f i = y := by simpa [hlti] using hy
        subst hxe
        have hc := (hfi i hlti).1
        have hc' : ∀ j, j < 8 → w.cell? ⟨b, off + i * 8 + j, none⟩ = (f i).cells[j]? := fun j hj => by
          rw [Nat.add_assoc, ← Go.WideShapes.add_plain]; exact hc j hj
        exact ⟨hc' 0 (by omega), hc' 1 (by omega), hc' 2 (by omega), hc' 3 (by omega), hc' 4 (by omega), hc' 5 (by omega), hc' 6 (by omega), hc' 7 (by omega)⟩
    · obtain ⟨i, hi2, rfl⟩ := List.mem_map.1 hy
      exact (hfi i (List.mem_range.1 hi2)).2

/-- A function of virtual code, opened. -/
theorem open_vfunc {b0 : Nat} {v : Value} {d : DataW H} {ps : List MemPlace} (hval : Value.okWide Tryd.prog w .any b0 24 v) (h : DataW.Trod enc Tryd.prog w base spare held 24 v d ps) :
    ∃ (f : S.VFunc) (A : Option Addr) (c : Nat) (xs : List VL), v = .agg (vfCells f (.slice A xs.length c)) ∧ f.insts = xs.map VL.i ∧ VLs w w.heap.size A xs ∧ (∀ y ∈ xs, VIn w w.heap.size y) ∧ xs.length ≤ 9223372036854775807 ∧ I64 f.fn := by
  obtain ⟨fuel, hf⟩ := h
  obtain ⟨cs, rfl, hsz⟩ := okWide_struct Tryd.underlying24 hval
  obtain ⟨xs, n, _, _, hl, hxl, hfi⟩ := DataW.trod_struct Tryd.underlying24 hf
  rw [vfunc_cells] at hl hsz
  obtain ⟨l⟩ := cs
  have hl2 : l.length = 7 := by simpa using hsz
  match l, hl2 with
  | [c0, c1, c2, c3, c4, c5, c6], _ =>
    have hx : xs.length = 7 := hxl
    have key : ∀ (i : Nat) (f : Field) (t : TypeId) (o : Nat), i < xs.length → f.type = t → f.offset = o → Tryd.prog.cellsOf t = 1 → DataW.trod enc Tryd.prog w base spare held n f.type (((Value.agg #[c0, c1, c2, c3, c4, c5, c6]).cells.toList.drop f.offset).take (Tryd.prog.cellsOf f.type)) = xs[i]? →
        ∃ y, DataW.trod enc Tryd.prog w base spare held n t (([c0, c1, c2, c3, c4, c5, c6].drop o).take 1) = some y := by
      intro i f t o hi ht ho hk h
      rw [List.getElem?_eq_getElem hi] at h
      subst ht ho
      rw [hk] at h
      exact ⟨_, h⟩
    obtain ⟨y0, h0⟩ := key 0 _ 3 0 (by omega) rfl rfl int_cells (hfi 0 _ rfl)
    obtain ⟨y1, h1⟩ := key 1 _ 3 1 (by omega) rfl rfl int_cells (hfi 1 _ rfl)
    obtain ⟨y2, h2⟩ := key 2 _ 3 2 (by omega) rfl rfl int_cells (hfi 2 _ rfl)
    obtain ⟨y3, h3⟩ := key 3 _ 3 3 (by omega) rfl rfl int_cells (hfi 3 _ rfl)
    obtain ⟨y4, h4⟩ := key 4 _ 3 4 (by omega) rfl rfl int_cells (hfi 4 _ rfl)
    obtain ⟨y5, h5⟩ := key 5 _ 4 5 (by omega) rfl rfl bool_cells (hfi 5 _ rfl)
    obtain ⟨y6, h6⟩ := key 6 _ 22 6 (by omega) rfl rfl vinsts_cells (hfi 6 _ rfl)
    obtain ⟨n0, e0, _, w0⟩ := DataW.trod_int Tryd.underlying3 h0
    obtain ⟨n1, e1, _⟩ := DataW.trod_int Tryd.underlying3 h1
    obtain ⟨n2, e2, _⟩ := DataW.trod_int Tryd.underlying3 h2
    obtain ⟨n3, e3, _⟩ := DataW.trod_int Tryd.underlying3 h3
    obtain ⟨n4, e4, _⟩ := DataW.trod_int Tryd.underlying3 h4
    obtain ⟨bb, e5, _⟩ := DataW.trod_bool Tryd.underlying4 h5
    obtain ⟨A, c, ys, e6, hv, hin, hlen⟩ := open_vinsts_cells h6
    simp at e0 e1 e2 e3 e4 e5 e6
    subst e0 e1 e2 e3 e4 e5 e6
    exact ⟨⟨n0, n1, n2, n3, n4, bb, ys.map VL.i⟩, A, c, ys, rfl, rfl, hv, hin, by simp only [maxLen] at hlen; omega, wf_i64 w0⟩

/-- Words among the arguments. -/
theorem open_words {b0 : Nat} {v : Value} {d : DataW H} {ps : List MemPlace} (hval : Value.okWide Tryd.prog w .any b0 25 v) (h : DataW.Trod enc Tryd.prog w base spare held 25 v d ps) :
    ∃ (A : Option Addr) (c : Nat) (xs : List Int), v = .slice A xs.length c ∧ U32s w w.heap.size A xs ∧ xs.length ≤ 9223372036854775807 := by
  obtain ⟨fuel, hf⟩ := h
  obtain ⟨a, len, cap, rfl⟩ := okWide_slice Tryd.underlying25 hval
  obtain ⟨A, c, xs, e, h1, h2, h3⟩ := open_nums_cells Tryd.underlying25 Tryd.underlying47 u32_cells hf
  have e2 : Value.slice a len cap = .slice A xs.length c := by simpa [Value.cells] using e
  refine ⟨A, c, xs, e2, ⟨fun y hy => ?_, fun hp => ?_⟩, by have := h1.1; have := h1.2; simp only [maxLen] at this; omega⟩
  · have := h3 y hy
    simp [Lit.wf, IntKind.min, IntKind.max, IntKind.signed, IntKind.bits] at this
    omega
  · obtain ⟨b, off, e3, hb, hc⟩ := h2 (by simpa using hp)
    exact ⟨b, off, e3, hb, fun i y hy => hc i _ (by rw [List.getElem?_map, hy]; rfl)⟩
end

end Go.Proofs.YtkdalaiponchbaaDoor
