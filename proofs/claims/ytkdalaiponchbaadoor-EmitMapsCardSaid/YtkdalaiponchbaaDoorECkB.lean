/- slices.Clone and slices.Compact at []int, as the check of emit meets them. -/
import Derived.Test.YtkdalaiponchbaaDoorECkA
set_option linter.unusedVariables false
set_option linter.unusedSimpArgs false
set_option linter.unusedSectionVars false
namespace Go.Proofs.YtkdalaiponchbaaDoor
open Go.RowKit

theorem bl_setCells {B b : Nat} (hb : B ≤ b) : ∀ (vs : List Value) (o : Nat) {a w : World}, Below B a w → Below B a (w.setCells b o vs)
  | [], _, _, _, h => h
  | v :: vs, o, _, _, h => bl_setCells hb vs (o + 1) (h.setCell (p := ⟨b, o, none⟩) hb v)

theorem s_CloneI (A : Option Addr) (l : List Int) (c : Nat) (w : World) (hA : Ints w w.heap.size A l) (hl : l.length ≤ 1000) :
    Calls Tryd.prog 42 #[.slice A l.length c] w fun e w' => (∃ A' c', e = .returned (.slice A' l.length c') ∧ w'.ownsRow w.heap.size 3 1 (.slice A' l.length c') l.length (l.map (Value.int .i64))) ∧ Below w.heap.size w w' := by
  by_cases h0 : l.length = 0
  · have hl0 := List.eq_nil_of_length_eq_zero h0
    subst hl0
    cases A with
    | none =>
      refine (Tryd.slices_Clone_int_nil 0 c w).mono ?_
      rintro e w' ⟨rfl, rfl⟩
      exact ⟨⟨none, 0, rfl, World.ownsRow_nil _ _ _ _⟩, Below.refl _ _⟩
    | some a =>
      refine (Tryd.slices_Clone_int_zero a c w).mono ?_
      rintro e w' ⟨v, rfl, h1, _, h2⟩
      obtain ⟨A', c', rfl⟩ := ownsRow_form h1
      exact ⟨⟨A', c', rfl, h1⟩, h2⟩
  · obtain ⟨b, off, rfl, hb, hc⟩ := hA (by omega)
    refine (Tryd.slices_Clone_int b off l.length c l w (Nat.le_refl _) (by omega) (fun j hj => ?_)).mono ?_
    · exact hc j _ (by simp [hj])
    · rintro e w' ⟨v, rfl, h1, _, h2⟩
      rw [List.take_length] at h1
      obtain ⟨A', c', rfl⟩ := ownsRow_form h1
      exact ⟨⟨A', c', rfl, h1⟩, h2⟩

theorem s_CompactI (base : Nat) (A : Option Addr) (l : List Int) (c : Nat) (w : World) (ho : w.ownsRow base 3 1 (.slice A l.length c) l.length (l.map (Value.int .i64))) (hl : l.length ≤ 1000) :
    Calls Tryd.prog 41 #[.slice A l.length c] w fun e w' => (∃ A' c', e = .returned (.slice A' (Lib.compact l).length c')) ∧ Below base w w' := by
  by_cases h0 : l.length = 0
  · have hl0 := List.eq_nil_of_length_eq_zero h0
    subst hl0
    refine (Tryd.slices_Compact_int_empty A c w).mono ?_
    rintro e w' ⟨rfl, rfl⟩
    exact ⟨⟨A, c, rfl⟩, Below.refl _ _⟩
  · obtain ⟨g, rfl, hg1, hg2, hg3, hg4, hg5⟩ := ownsRow_at ho (by omega)
    refine (Tryd.slices_Compact_int_cells g 0 l.length c l w (Nat.le_refl _) (by omega) hg3 (fun j hj => ?_) (fun j hj => hg5 _)).mono ?_
    · rw [hg4 _ (by omega)]
      simp [hj]
    · rintro e w' ⟨rfl, q, rfl⟩
      rw [List.take_length]
      exact ⟨⟨_, _, rfl⟩, bl_setCells hg1 _ _ (below_drewN (Below.refl _ _) _)⟩

end Go.Proofs.YtkdalaiponchbaaDoor
