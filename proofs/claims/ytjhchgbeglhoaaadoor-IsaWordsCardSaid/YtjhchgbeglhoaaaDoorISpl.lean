/- strings.Split at a space: what it makes is the text's words. -/
import Derived.Test.YtjhchgbeglhoaaaDoorIText
import Derived.Test.YtjhchgbeglhoaaaDoorIRPar
import Derived.Lib.SplitLaws
import Derived.Lib.IndexBytes
set_option linter.unusedVariables false
set_option linter.unusedSimpArgs false
set_option linter.unusedSectionVars false
namespace Go.Proofs.YtjhchgbeglhoaaaDoor
open Go.RowKit

theorem splitK_sp (k : Nat) (r : List UInt8) : Lib.splitK [32] 0 (k + 1) (32 :: r) = [] :: Lib.splitK [32] 0 k r := by
  have h : Lib.index (32 :: r) [32] = 0 := by rw [Lib.index]; simp [List.isPrefixOf]
  rw [Lib.splitK, h]
  simp
theorem splitK_ne (c : UInt8) (hc : c ≠ 32) : ∀ (k : Nat) (r : List UInt8), Lib.splitK [32] 0 k (c :: r) = (c :: (Lib.splitK [32] 0 k r).headD []) :: (Lib.splitK [32] 0 k r).tail
  | 0, r => by simp [Lib.splitK]
  | k + 1, r => by
    have hp : ([32] : List UInt8).isPrefixOf (c :: r) = false := by simp [List.isPrefixOf, Ne.symm hc]
    have hix : Lib.index (c :: r) [32] = if Lib.index r [32] == -1 then -1 else Lib.index r [32] + 1 := by rw [Lib.index, hp]; simp
    have hge := Lib.index_ge r [32]
    rw [Lib.splitK, Lib.splitK, hix]
    by_cases hm : Lib.index r [32] = -1
    · rw [hm]; simp
    · obtain ⟨i, hi⟩ : ∃ i : Nat, Lib.index r [32] = i := ⟨(Lib.index r [32]).toNat, by omega⟩
      rw [hi]
      have e1 : ((i : Int) == -1) = false := beq_eq_false_iff_ne.2 (by omega)
      have e2 : ((i : Int) + 1 == -1) = false := beq_eq_false_iff_ne.2 (by omega)
      rw [e1]
      simp only [Bool.false_eq_true, if_false]
      rw [e2]
      simp only [Bool.false_eq_true, if_false, Nat.add_zero, List.headD_cons, List.tail_cons]
      rw [show ((i : Int) + 1).toNat = i + 1 by omega, show (i : Int).toNat = i by omega]
      simp
theorem splitK_words : ∀ l : List UInt8, Lib.splitK [32] 0 (l.count 32) l = S.words l
  | [] => rfl
  | c :: r => by
    have ih := splitK_words r
    have hne := words_ne r
    by_cases hc : c = 32
    · subst hc
      rw [List.count_cons_self, splitK_sp, ih]
      simp [S.words]
    · rw [List.count_cons_of_ne (by simpa using hc), splitK_ne c hc, ih]
      simp only [S.words]
      rw [if_neg hc]
      cases hw : S.words r with
      | nil => exact absurd hw hne
      | cons a t => simp

theorem split_words (s : ByteArray) : (Lib.splitB ⟨#[32]⟩ 0 (Lib.countB s ⟨#[32]⟩) s).map (·.data.toList) = S.words s.data.toList := by
  rw [Lib.splitB_data]
  have e : Lib.countB s ⟨#[32]⟩ = s.data.toList.count 32 := Lib.count_one 32 s.data.toList
  rw [e]
  exact splitK_words _
theorem split_len (s : ByteArray) : (S.words s.data.toList).length = Lib.countB s ⟨#[32]⟩ + 1 := by
  rw [← split_words, List.length_map, Lib.splitB_all ⟨#[32]⟩ (by decide) 0 _ s rfl]

theorem isa_Split (s : ByteArray) (hs : s.size ≤ 1000) (w : World) (hL : LV w) : Calls Tryd.prog 47 #[.string s, .string ⟨#[32]⟩] w fun e w' =>
    e = .returned (.slice (some ⟨w.heap.size, 0, none⟩) (S.words s.data.toList).length (S.words s.data.toList).length) ∧ WordsIn w.heap.size (S.words s.data.toList) w' ∧ Below w.heap.size w w' ∧ w.heap.size < w'.heap.size := by
  obtain ⟨m, hm⟩ := hL.maxLen
  refine (Tryd.strings_Split s ⟨#[32]⟩ m w (by omega) hm (by decide)).mono ?_
  rintro e w' ⟨rfl, rfl⟩
  obtain ⟨x1, x2, x3⟩ := one_allocN w ((Lib.splitB ⟨#[32]⟩ 0 (Lib.countB s ⟨#[32]⟩) s).map Value.string).toArray 9
  refine ⟨by rw [split_len], fun j hj => ?_, x2, by omega⟩
  rw [cell_of_row _ _ _ _ _ (0, 0) x1, List.getElem?_toArray, List.getElem?_map]
  rw [← split_words] at hj ⊢
  have hj2 : j < (Lib.splitB ⟨#[32]⟩ 0 (Lib.countB s ⟨#[32]⟩) s).length := by simpa using hj
  rw [List.getElem?_eq_getElem hj2, List.getD_eq_getElem?_getD, List.getElem?_map, List.getElem?_eq_getElem hj2]
  rfl

end Go.Proofs.YtjhchgbeglhoaaaDoor
