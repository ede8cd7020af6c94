/- Arguments of layer 2's laws, opened: a slice of triples. -/
import Derived.Test.YtbgdomnalimjnaaSetRow
import Derived.Test.YtbgdomnalimjnaaRunsA
import Derived.OpenShut
set_option maxRecDepth 100000
set_option linter.unusedVariables false
set_option linter.unusedSimpArgs false
set_option linter.unusedSectionVars false
namespace Go.Proofs.Ytbgdomnalimjnaa
open Go.ChangeShapes Go.WideShapes Go.ChangeAt Go.RowKit

section
variable {H : Type} {enc : TypeId × Value → H} {w : World} {base : Nat} {spare : Nat → Bool} {held : Bool}

theorem i64_cells : Try.prog.cellsOf 2 = 1 := by kernel_rfl
theorem three_cells : Try.prog.cellsOf 84 = 3 := by kernel_rfl

theorem open_triple {fuel : Nat} {cs : List Value} {x : DataW H × List MemPlace} (h : DataW.trod enc Try.prog w base spare held fuel 84 cs = some x) : ∃ y : Int × Int × Int, cs = [.int .i64 y.1, .int .i64 y.2.1, .int .i64 y.2.2] := by
  obtain ⟨xs, n, _, _, hl, hxl, he⟩ := DataW.trod_array Try.underlying84 h
  rw [three_cells] at hl
  match cs, hl with
  | [c0, c1, c2], _ =>
    have g0 := he 0 (by omega)
    have g1 := he 1 (by omega)
    have g2 := he 2 (by omega)
    rw [i64_cells, List.getElem?_eq_getElem (by omega)] at g0 g1 g2
    obtain ⟨a, ea, _, _⟩ := DataW.trod_int Try.underlying2 g0
    obtain ⟨b, eb, _, _⟩ := DataW.trod_int Try.underlying2 g1
    obtain ⟨c, ec, _, _⟩ := DataW.trod_int Try.underlying2 g2
    simp at ea eb ec
    subst ea eb ec
    exact ⟨(a, b, c), rfl⟩

theorem open_puts {b0 : Nat} {v : Value} {d : DataW H} {ps : List MemPlace} (hval : Value.okWide Try.prog w .any b0 83 v) (h : DataW.Trod enc Try.prog w base spare held 83 v d ps) :
    ∃ (A : Option Addr) (c : Nat) (xs : List (Int × Int × Int)), v = .slice A xs.length c ∧ xs.length ≤ maxLen ∧ Puts w w.heap.size A xs := by
  obtain ⟨fuel, hf⟩ := h
  obtain ⟨A, n, c, rfl⟩ := okWide_slice Try.underlying83 hval
  rcases Deep.open_slice Try.underlying83 hf with ⟨hcs, _⟩ | ⟨a, len, cap, m, k, D, Pl, hcs, _, hlc, hcm, hm, hx, hi⟩
  · have : Value.slice A n c = .slice none 0 0 := by simpa [Value.cells] using hcs
    cases this
    exact ⟨none, 0, [], rfl, Nat.zero_le _, fun hp => by simp at hp⟩
  · have : Value.slice A n c = .slice (some a) len cap := by simpa [Value.cells] using hcs
    cases this
    rw [three_cells] at hi hx
    have hml : n ≤ m := by rw [hm]; split <;> omega
    have each : ∀ i, i < n → ∃ y : Int × Int × Int, ∀ j, j < 3 → w.cell? (a.add (i * 3 + j)) = ([.int .i64 y.1, .int .i64 y.2.1, .int .i64 y.2.2] : List Value)[j]? := by
      intro i hin
      obtain ⟨cs', hc, ht⟩ := hi i (by omega)
      obtain ⟨_, hcl, hat⟩ := World.cells?_some hc
      obtain ⟨y, rfl⟩ := open_triple ht
      exact ⟨y, fun j hj => by rw [← Deep.add_add]; exact hat j hj⟩
    obtain ⟨f, hfi⟩ := Deep.choose_lt each
    refine ⟨some a, c, (List.range n).map f, by simp, by simp; omega, fun hp => ?_⟩
    have hn : 0 < n := by simpa using hp
    obtain ⟨b, off, spot⟩ := a
    have h0 := hfi 0 hn 0 (by omega)
    have hspot : spot = none := by simpa [Addr.add] using World.cell?_spot h0
    subst hspot
    refine ⟨b, off, rfl, ?_, fun i x hx => ?_⟩
    · rw [show (⟨b, off, none⟩ : Addr).add (0 * 3 + 0) = ⟨b, off, none⟩ by simp [Addr.add]] at h0
      exact cell_lt h0
    · have hlti : i < n := by have := (List.getElem?_eq_some_iff.1 hx).1; simpa using this
      have hxe : f i = x := by simpa [hlti] using hx
      subst hxe
      have hc' : ∀ j, j < 3 → w.cell? ⟨b, off + i * 3 + j, none⟩ = ([.int .i64 (f i).1, .int .i64 (f i).2.1, .int .i64 (f i).2.2] : List Value)[j]? := fun j hj => by
        rw [Nat.add_assoc, ← Go.WideShapes.add_plain]; exact hfi i hlti j hj
      exact ⟨hc' 0 (by omega), hc' 1 (by omega), hc' 2 (by omega)⟩
end

end Go.Proofs.Ytbgdomnalimjnaa
