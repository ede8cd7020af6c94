/- Arguments that are slices of items, opened. -/
import Derived.Test.YtbgdomnalimjnaaAsmB
import Derived.ProofKit
import Derived.Deep.Slices
import Derived.Below
set_option maxRecDepth 100000
set_option linter.unusedVariables false
set_option linter.unusedSimpArgs false
set_option linter.unusedSectionVars false
namespace Go.Proofs.Ytbgdomnalimjnaa
open Go.ChangeShapes Go.WideShapes Go.ChangeAt Go.RowKit

section
variable {H : Type} {enc : TypeId × Value → H} {w : World} {base : Nat} {spare : Nat → Bool} {held : Bool} {fuel : Nat} {cs : List Value} {x : DataW H × List MemPlace}

theorem int_cells : Try.prog.cellsOf 3 = 1 := by kernel_rfl
theorem u32_cells : Try.prog.cellsOf 34 = 1 := by kernel_rfl
theorem string_cells : Try.prog.cellsOf 9 = 1 := by kernel_rfl
theorem inst_cells : Try.prog.cellsOf 39 = 5 := by kernel_rfl
theorem item_cells : Try.prog.cellsOf 57 = 8 := by kernel_rfl

theorem open_inst_cells (h : DataW.trod enc Try.prog w base spare held fuel 39 cs = some x) :
    ∃ i : S.Inst, cs = [.int .i64 i.op, .int .i64 i.d, .int .i64 i.a, .int .i64 i.b, .int .i64 i.imm] := by
  obtain ⟨xs, n, _, _, hl, hxl, hf⟩ := DataW.trod_struct Try.underlying39 h
  rw [inst_cells] at hl
  match cs, hl with
  | [c0, c1, c2, c3, c4], _ =>
    have key : ∀ (i : Nat) (f : Field) (c : Value), (i < xs.length) → f.type = 3 → DataW.trod enc Try.prog w base spare held n f.type (([c0, c1, c2, c3, c4].drop f.offset).take (Try.prog.cellsOf f.type)) = xs[i]? →
        ([c0, c1, c2, c3, c4].drop f.offset).take 1 = [c] → ∃ n, c = .int .i64 n := by
      intro i f c hi ht h hc
      rw [ht, int_cells, hc, List.getElem?_eq_getElem hi] at h
      obtain ⟨m, hm, _⟩ := DataW.trod_int Try.underlying3 h
      exact ⟨m, by simpa using hm⟩
    have hx : xs.length = 5 := hxl
    obtain ⟨n0, rfl⟩ := key 0 _ c0 (by omega) rfl (hf 0 _ rfl) rfl
    obtain ⟨n1, rfl⟩ := key 1 _ c1 (by omega) rfl (hf 1 _ rfl) rfl
    obtain ⟨n2, rfl⟩ := key 2 _ c2 (by omega) rfl (hf 2 _ rfl) rfl
    obtain ⟨n3, rfl⟩ := key 3 _ c3 (by omega) rfl (hf 3 _ rfl) rfl
    obtain ⟨n4, rfl⟩ := key 4 _ c4 (by omega) rfl (hf 4 _ rfl) rfl
    exact ⟨⟨n0, n1, n2, n3, n4⟩, rfl⟩

theorem open_item_cells (h : DataW.trod enc Try.prog w base spare held fuel 57 cs = some x) :
    ∃ i : S.Item, cs = [.int .i64 i.kind, .int .i64 i.inst.op, .int .i64 i.inst.d, .int .i64 i.inst.a, .int .i64 i.inst.b, .int .i64 i.inst.imm, .string i.label, .int .u32 i.word] ∧ i.label.size ≤ maxLen ∧ 0 ≤ i.word ∧ i.word ≤ 4294967295 := by
  obtain ⟨xs, n, _, _, hl, hxl, hf⟩ := DataW.trod_struct Try.underlying57 h
  rw [item_cells] at hl
  match cs, hl with
  | [c0, c1, c2, c3, c4, c5, c6, c7], _ =>
    have hx : xs.length = 4 := hxl
    have key : ∀ (i : Nat) (f : Field) (t : TypeId) (o k : Nat), i < xs.length → f.type = t → f.offset = o → Try.prog.cellsOf t = k → DataW.trod enc Try.prog w base spare held n f.type (([c0, c1, c2, c3, c4, c5, c6, c7].drop f.offset).take (Try.prog.cellsOf f.type)) = xs[i]? →
        ∃ y, DataW.trod enc Try.prog w base spare held n t (([c0, c1, c2, c3, c4, c5, c6, c7].drop o).take k) = some y := by
      intro i f t o k hi ht ho hk h
      rw [List.getElem?_eq_getElem hi] at h
      subst ht ho hk
      exact ⟨_, h⟩
    obtain ⟨y0, h0⟩ := key 0 _ 3 0 1 (by omega) rfl rfl int_cells (hf 0 _ rfl)
    obtain ⟨y1, h1⟩ := key 1 _ 39 1 5 (by omega) rfl rfl inst_cells (hf 1 _ rfl)
    obtain ⟨y2, h2⟩ := key 2 _ 9 6 1 (by omega) rfl rfl string_cells (hf 2 _ rfl)
    obtain ⟨y3, h3⟩ := key 3 _ 34 7 1 (by omega) rfl rfl u32_cells (hf 3 _ rfl)
    obtain ⟨n0, e0, _⟩ := DataW.trod_int Try.underlying3 h0
    obtain ⟨i1, e1⟩ := open_inst_cells h1
    obtain ⟨s2, e2, _, hs⟩ := DataW.trod_string Try.underlying9 h2
    obtain ⟨n3, e3, _, hw⟩ := DataW.trod_int Try.underlying34 h3
    obtain ⟨b0, b1⟩ : 0 ≤ n3 ∧ n3 ≤ 4294967295 := by
      simp [Lit.wf, IntKind.min, IntKind.max, IntKind.signed, IntKind.bits] at hw
      omega
    simp at e0 e1 e2 e3
    obtain ⟨rfl, rfl, rfl, rfl, rfl⟩ := e1
    subst e0 e2 e3
    exact ⟨⟨n0, i1, s2, n3⟩, rfl, hs, b0, b1⟩

theorem cell_lt {w : World} {b o : Nat} {v : Value} (h : w.cell? ⟨b, o, none⟩ = some v) : b < w.heap.size := by
  simp only [World.cell?] at h
  by_cases hb : b < w.heap.size
  · exact hb
  · rw [Array.getElem?_eq_none (by omega)] at h
    cases h

/-- A slice of items, opened: what it holds is a list of items. -/
theorem open_items {b0 : Nat} {v : Value} {d : DataW H} {ps : List MemPlace} (hval : Value.okWide Try.prog w .any b0 47 v) (h : DataW.Trod enc Try.prog w base spare held 47 v d ps) :
    ∃ (A : Option Addr) (c : Nat) (xs : List S.Item), v = .slice A xs.length c ∧ Items w w.heap.size A xs ∧ ∀ (k : Nat) (x : S.Item), xs[k]? = some x → x.label.size ≤ maxLen := by
  obtain ⟨fuel, hf⟩ := h
  obtain ⟨A, n, c, rfl⟩ := okWide_slice Try.underlying47 hval
  rcases Deep.open_slice Try.underlying47 hf with ⟨hcs, _⟩ | ⟨a, len, cap, m, k, D, Pl, hcs, _, hlc, _, hm, hx, hi⟩
  · have : Value.slice A n c = .slice none 0 0 := by simpa [Value.cells] using hcs
    cases this
    exact ⟨none, 0, [], rfl, fun hp => by simp at hp, fun k x hk => by simp at hk⟩
  · have : Value.slice A n c = .slice (some a) len cap := by simpa [Value.cells] using hcs
    cases this
    rw [item_cells] at hi hx
    have hml : n ≤ m := by rw [hm]; split <;> omega
    have each : ∀ i, i < n → ∃ it : S.Item, (∀ j, j < 8 → w.cell? (a.add (i * 8 + j)) = ([.int .i64 it.kind, .int .i64 it.inst.op, .int .i64 it.inst.d, .int .i64 it.inst.a, .int .i64 it.inst.b, .int .i64 it.inst.imm, .string it.label, .int .u32 it.word] : List Value)[j]?) ∧ it.label.size ≤ maxLen ∧ 0 ≤ it.word ∧ it.word ≤ 4294967295 := by
      intro i hin
      obtain ⟨cs', hc, ht⟩ := hi i (by omega)
      obtain ⟨_, hcl, hat⟩ := World.cells?_some hc
      obtain ⟨it, rfl, h1, h2, h3⟩ := open_item_cells ht
      exact ⟨it, fun j hj => by rw [← Deep.add_add]; exact hat j hj, h1, h2, h3⟩
    haveI : Inhabited S.Item := ⟨⟨0, ⟨0, 0, 0, 0, 0⟩, ByteArray.empty, 0⟩⟩
    obtain ⟨f, hfi⟩ := Deep.choose_lt each
    refine ⟨some a, c, (List.range n).map f, by simp, fun hp => ?_, fun k x hk => ?_⟩
    · have hn : 0 < n := by simpa using hp
      obtain ⟨b, off, spot⟩ := a
      have h0 := (hfi 0 hn).1 0 (by omega)
      have hspot : spot = none := by simpa [Addr.add] using World.cell?_spot h0
      subst hspot
      refine ⟨b, off, rfl, ?_, fun i x hx => ?_⟩
      · rw [show (⟨b, off, none⟩ : Addr).add (0 * 8 + 0) = ⟨b, off, none⟩ by simp [Addr.add]] at h0
        exact cell_lt h0
      · have hlti : i < n := by have := (List.getElem?_eq_some_iff.1 hx).1; simpa using this
        have hxe : f i = x := by simpa [hlti] using hx
        subst hxe
        obtain ⟨hc, _, hw0, hw1⟩ := hfi i hlti
        have hc' : ∀ j, j < 8 → w.cell? ⟨b, off + i * 8 + j, none⟩ = ([.int .i64 (f i).kind, .int .i64 (f i).inst.op, .int .i64 (f i).inst.d, .int .i64 (f i).inst.a, .int .i64 (f i).inst.b, .int .i64 (f i).inst.imm, .string (f i).label, .int .u32 (f i).word] : List Value)[j]? := fun j hj => by
          rw [Nat.add_assoc, ← Go.WideShapes.add_plain]; exact hc j hj
        exact ⟨hc' 0 (by omega), hc' 1 (by omega), hc' 2 (by omega), hc' 3 (by omega), hc' 4 (by omega), hc' 5 (by omega), hc' 6 (by omega), hc' 7 (by omega), hw0, hw1⟩
    · have hltk : k < n := by have := (List.getElem?_eq_some_iff.1 hk).1; simpa using this
      have hxe : f k = x := by simpa [hltk] using hk
      subst hxe
      exact (hfi k hltk).2.1
end

end Go.Proofs.Ytbgdomnalimjnaa
