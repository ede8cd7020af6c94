/- AsmOut, AsmI: joined.  Walk of pennantref03.Assemble. -/
import Derived.Test.YtidhglleeccpoaaDoorAsmLfp
import Derived.Test.YtidhglleeccpoaaDoorAsmH
section
set_option linter.unusedVariables false
set_option linter.unusedSimpArgs false
set_option linter.unusedSectionVars false
namespace Go.Proofs.YtidhglleeccpoaaDoor
namespace S

/-- Where the label of an item stands; 0 if it looks at none. -/
def toOf (xs : List Item) (F : List Int) (base : Int) (x : Item) : Int := if named x = true then addr xs F base (stands xs x.label).toNat else 0
def wordsAt (xs : List Item) (F : List Int) (base : Int) (i : Nat) : List Int :=
  match xs[i]? with
  | none => []
  | some x => wordsOf x (F.getD i 0) (addr xs F base i) (toOf xs F base x)
/-- The words of the first items. -/
def outTo (xs : List Item) (F : List Int) (base : Int) : Nat → List Int
  | 0 => []
  | k + 1 => outTo xs F base k ++ wordsAt xs F base k
def placeAt (xs : List Item) (F : List Int) (base : Int) (i : Nat) : List (ByteArray × Int) :=
  match xs[i]? with
  | none => []
  | some x => if x.kind = 2 then [(x.label, addr xs F base i)] else []
/-- The places of the first items. -/
def placesTo (xs : List Item) (F : List Int) (base : Int) : Nat → List (ByteArray × Int)
  | 0 => []
  | k + 1 => placesTo xs F base k ++ placeAt xs F base k

end S

theorem kinds_ok {xs : List S.Item} (h : S.firstErr xs = 0) : ∀ x ∈ xs, 1 ≤ x.kind ∧ x.kind ≤ 8 := by
  induction xs with
  | nil => intro x hx; cases hx
  | cons y r ih =>
    intro x hx
    rw [S.firstErr] at h
    by_cases c : S.chkItem y = 0
    · rw [if_neg (by simp [c])] at h
      rcases List.mem_cons.1 hx with rfl | hx
      · revert c; unfold S.chkItem; grind
      · exact ih h x hx
    · rw [if_pos c] at h
      exact absurd h c

theorem words_length {x : S.Item} {form a t : Int} (hk : 1 ≤ x.kind ∧ x.kind ≤ 8) (h3 : x.kind = 3 → 1 ≤ form ∧ form ≤ 3) (h4 : x.kind = 4 → 1 ≤ form ∧ form ≤ 2) (hw : 0 ≤ x.word) :
    ((S.wordsOf x form a t).length : Int) = if x.kind = 2 then 0 else S.size x form := by
  have hc : x.kind = 1 ∨ x.kind = 2 ∨ x.kind = 3 ∨ x.kind = 4 ∨ x.kind = 5 ∨ x.kind = 6 ∨ x.kind = 7 ∨ x.kind = 8 := by omega
  rcases hc with h | h | h | h | h | h | h | h
  · simp [S.wordsOf, S.size, h]
  · simp [S.wordsOf, S.size, h]
  · have hf : form = 1 ∨ form = 2 ∨ form = 3 := by have := h3 h; omega
    rcases hf with rfl | rfl | rfl <;> simp [S.wordsOf, S.size, h]
  · have hf : form = 1 ∨ form = 2 := by have := h4 h; omega
    rcases hf with rfl | rfl <;> simp [S.wordsOf, S.size, h]
  · simp [S.wordsOf, S.size, h]
  · simp [S.wordsOf, S.size, h]
  · simp [S.wordsOf, S.size, h]
  · simp [S.wordsOf, S.size, h]; omega

theorem wordsAt_length {xs : List S.Item} {F : List Int} {base : Int} (hF : S.FormOk xs F) (hk : ∀ x ∈ xs, 1 ≤ x.kind ∧ x.kind ≤ 8) (hw : ∀ x ∈ xs, 0 ≤ x.word ∧ x.word ≤ 4294967295) (i : Nat) :
    ((S.wordsAt xs F base i).length : Int) = S.sizeAt xs F i := by
  unfold S.wordsAt S.sizeAt
  cases hx : xs[i]? with
  | none => simp
  | some x =>
    obtain ⟨h3, h4, _⟩ := hF.2 i x hx
    have hm := List.mem_of_getElem? hx
    simp only
    rw [words_length (hk x hm) h3 h4 (hw x hm).1]
    split
    · rename_i c; simp [S.size, c]
    · rfl
theorem outTo_length {xs : List S.Item} {F : List Int} {base : Int} (hF : S.FormOk xs F) (hk : ∀ x ∈ xs, 1 ≤ x.kind ∧ x.kind ≤ 8) (hw : ∀ x ∈ xs, 0 ≤ x.word ∧ x.word ≤ 4294967295) :
    ∀ i : Nat, ((S.outTo xs F base i).length : Int) = S.addr xs F base i - base
  | 0 => by simp [S.outTo, S.addr]
  | i + 1 => by
    have h1 := outTo_length (base := base) hF hk hw i
    have h2 := wordsAt_length (base := base) hF hk hw i
    rw [S.outTo, List.length_append, S.addr]
    omega
theorem placesTo_length (xs : List S.Item) (F : List Int) (base : Int) : ∀ i : Nat, (S.placesTo xs F base i).length ≤ i
  | 0 => by simp [S.placesTo]
  | i + 1 => by
    have h1 := placesTo_length xs F base i
    have h2 : (S.placeAt xs F base i).length ≤ 1 := by
      unfold S.placeAt
      split
      · simp
      · split <;> simp
    rw [S.placesTo, List.length_append]
    omega
theorem addr_le {xs : List S.Item} {F : List Int} {base : Int} (hF : S.FormOk xs F) (hw : ∀ x ∈ xs, 0 ≤ x.word ∧ x.word ≤ 4294967295) {i n : Nat} (h : i ≤ n) : S.addr xs F base i ≤ S.addr xs F base n := by
  obtain ⟨d, rfl⟩ : ∃ d, n = i + d := ⟨n - i, by omega⟩
  exact addr_up hF hw i d
theorem firstErr_of {xs : List S.Item} {base : Int} (h : S.CheckRes xs base 0) : S.firstErr xs = 0 := by
  rcases h with ⟨_, h⟩ | ⟨_, _, h, h'⟩ | ⟨_, _, h, _⟩ | ⟨_, _, h, _⟩ | ⟨_, _, h, _⟩
  · omega
  · omega
  all_goals exact h
theorem toOf_bd {xs : List S.Item} {F : List Int} {base : Int} (hF : S.FormOk xs F) (hw : ∀ x ∈ xs, 0 ≤ x.word ∧ x.word ≤ 4294967295) (hb : 0 ≤ base) (hm : S.addr xs F base xs.length ≤ 67108864) (x : S.Item) :
    0 ≤ S.toOf xs F base x ∧ S.toOf xs F base x ≤ 67108864 := by
  unfold S.toOf
  split
  · rcases stands_spec xs x.label with ⟨e, _⟩ | ⟨j, y, e, hj, _⟩
    · rw [e]
      have := (addr_bd (base := base) hF hw 0)
      have h2 := addr_le (base := base) hF hw (Nat.zero_le xs.length)
      have e0 : (-1 : Int).toNat = 0 := rfl
      rw [e0]
      omega
    · have hlt := (List.getElem?_eq_some_iff.1 hj).1
      rw [e, Int.toNat_natCast]
      have h1 := (addr_bd (base := base) hF hw j).1
      have h2 := addr_le (base := base) hF hw (Nat.le_of_lt hlt)
      omega
  · omega

end Go.Proofs.YtidhglleeccpoaaDoor
end

section
set_option linter.unusedVariables false
set_option linter.unusedSimpArgs false
set_option linter.unusedSectionVars false
namespace Go.Proofs.YtidhglleeccpoaaDoor
open Go.RowKit

theorem place_info : (Tryd.prog.info? 68).map (fun i => (i.zero, i.size, i.bytes)) = some (some (.agg #[.string ByteArray.empty, .int .i64 0]), 2, 24) := by kernel_rfl

def placeCells (p : ByteArray × Int) : List Value := [.string p.1, .int .i64 p.2]

/-- What an assembler's results are: words, places, an error. -/
def Assembled (w : World) (xs : List S.Item) (base : Int) (e : Ending) (w' : World) : Prop :=
  ∃ vo vp r F, e = .returned (.tuple #[vo, vp, .int .i64 r]) ∧ S.FormsRes xs base r F ∧
    w'.ownsRow w.heap.size 22 1 vo (if r = 0 then S.outTo xs F base xs.length else []).length ((if r = 0 then S.outTo xs F base xs.length else []).map (Value.int .u32)) ∧
    w'.ownsRow w.heap.size 68 2 vp (if r = 0 then S.placesTo xs F base xs.length else []).length ((if r = 0 then S.placesTo xs F base xs.length else []).flatMap placeCells) ∧
    Below w.heap.size w w'

end Go.Proofs.YtidhglleeccpoaaDoor
end
