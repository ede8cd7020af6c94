/- AsmLfp, AsmOut, BMach: joined.  Plain: an assembled image on a machine: what each item does there. No program in sight. -/
import Derived.Test.YtlldagdhlfpihaaGreatDoorZBSpec
import Derived.Test.YtlldagdhlfpihaaGreatDoorZMachB
section
set_option linter.unusedVariables false
set_option linter.unusedSimpArgs false
set_option linter.unusedSectionVars false
namespace Go.Proofs.YtlldagdhlfpihaaGreatDoor
namespace S

/-- All forms fit. -/
def Stable (xs : List Item) (base : Int) (G : List Int) : Prop := FormOk xs G ∧ ∀ (i : Nat) (x : Item), xs[i]? = some x → fit xs G base i x = true
/-- Forms that are below all that fit. -/
def Inv (xs : List Item) (base : Int) (F : List Int) : Prop := FormOk xs F ∧ ∀ G, Stable xs base G → ∀ i, F.getD i 0 ≤ G.getD i 0

def startForm (x : Item) : Int := if x.kind = 3 ∨ x.kind = 4 then 1 else 0

/-- What the forms of items are, or why there are none. -/
def FormsRes (xs : List Item) (base e : Int) (F : List Int) : Prop :=
  (e ≠ 0 ∧ CheckRes xs base e ∧ F = []) ∨
  (CheckRes xs base 0 ∧ e = 3 ∧ F = [] ∧ ∃ G, Inv xs base G ∧ most26 < addr xs G base xs.length) ∨
  (CheckRes xs base 0 ∧ e = 0 ∧ Inv xs base F ∧ Stable xs base F ∧ addr xs F base xs.length ≤ most26)

end S

theorem form_start (xs : List S.Item) (base : Int) : S.Inv xs base (xs.map S.startForm) := by
  have hg : ∀ (i : Nat) (x : S.Item), xs[i]? = some x → (xs.map S.startForm).getD i 0 = S.startForm x := by
    intro i x hx
    simp [List.getD_eq_getElem?_getD, hx]
  refine ⟨⟨by simp, fun i x hx => ?_⟩, fun G hG i => ?_⟩
  · rw [hg i x hx]
    unfold S.startForm
    grind
  · cases hx : xs[i]? with
    | none => simp [List.getD_eq_getElem?_getD, hx]; have : G[i]? = none := by
                rw [List.getElem?_eq_none_iff] at hx ⊢
                rw [hG.1.1]; exact hx
              simp [this]
    | some x =>
      rw [hg i x hx]
      obtain ⟨h3, h4, h5⟩ := hG.1.2 i x hx
      unfold S.startForm
      grind

theorem size_mono {x : S.Item} {f g : Int} (h : f ≤ g) (h3 : x.kind = 3 → 1 ≤ f ∧ g ≤ 3) : S.size x f ≤ S.size x g := by
  unfold S.size
  grind

/-- The distance of two places grows with the forms. -/
theorem addr_mono {xs : List S.Item} {F G : List Int} {base : Int} (hF : S.FormOk xs F) (hG : S.FormOk xs G) (h : ∀ i, F.getD i 0 ≤ G.getD i 0) (p : Nat) :
    ∀ d : Nat, S.addr xs F base (p + d) - S.addr xs F base p ≤ S.addr xs G base (p + d) - S.addr xs G base p
  | 0 => by simp
  | d + 1 => by
    have ih := addr_mono (base := base) hF hG h p d
    have hs : S.sizeAt xs F (p + d) ≤ S.sizeAt xs G (p + d) := by
      unfold S.sizeAt
      cases hx : xs[p + d]? with
      | none => simp
      | some x =>
        exact size_mono (h (p + d)) fun h3 => ⟨((hF.2 _ x hx).1 h3).1, ((hG.2 _ x hx).1 h3).2⟩
    show S.addr xs F base (p + d) + S.sizeAt xs F (p + d) - S.addr xs F base p ≤ S.addr xs G base (p + d) + S.sizeAt xs G (p + d) - S.addr xs G base p
    omega
theorem addr_up {xs : List S.Item} {F : List Int} {base : Int} (hF : S.FormOk xs F) (hw : ∀ x ∈ xs, 0 ≤ x.word ∧ x.word ≤ 4294967295) (p : Nat) :
    ∀ d : Nat, S.addr xs F base p ≤ S.addr xs F base (p + d)
  | 0 => by simp
  | d + 1 => by
    have ih := addr_up (base := base) hF hw p d
    have := (sizeAt_bd hF hw (p + d)).1
    show S.addr xs F base p ≤ S.addr xs F base (p + d) + S.sizeAt xs F (p + d)
    omega

/-- What does not fit does not fit with greater forms, if it is not greater itself. -/
theorem fit_mono {xs : List S.Item} {F G : List Int} {base : Int} (hF : S.FormOk xs F) (hG : S.FormOk xs G) (hw : ∀ x ∈ xs, 0 ≤ x.word ∧ x.word ≤ 4294967295) (h : ∀ i, F.getD i 0 ≤ G.getD i 0)
    {i : Nat} {x : S.Item} (hx : xs[i]? = some x) (hi : F.getD i 0 = G.getD i 0) (hf : S.fit xs F base i x = false) : S.fit xs G base i x = false := by
  have hlt := (List.getElem?_eq_some_iff.1 hx).1
  unfold S.fit at hf ⊢
  rw [← hi]
  split
  · rename_i c; rw [if_pos c] at hf; cases hf
  · rename_i c
    rw [if_neg c] at hf
    generalize (S.stands xs x.label).toNat = j at *
    rcases Nat.lt_or_ge i j with hij | hij
    · obtain ⟨d, rfl⟩ : ∃ d, j = (i + 1) + d := ⟨j - (i + 1), by omega⟩
      have h1 := addr_mono (base := base) hF hG h (i + 1) d
      have h2 := addr_up (base := base) hF hw (i + 1) d
      by_cases c2 : x.kind = 3 ∧ F.getD i 0 = 1
      · rw [if_pos c2] at hf ⊢
        rw [decide_eq_false_iff_not] at hf ⊢
        omega
      · rw [if_neg c2] at hf ⊢
        rw [decide_eq_false_iff_not] at hf ⊢
        omega
    · obtain ⟨d, hd⟩ : ∃ d, i + 1 = j + d := ⟨i + 1 - j, by omega⟩
      have h1 := addr_mono (base := base) hF hG h j d
      have h2 := addr_up (base := base) hF hw j d
      rw [← hd] at h1 h2
      by_cases c2 : x.kind = 3 ∧ F.getD i 0 = 1
      · rw [if_pos c2] at hf ⊢
        rw [decide_eq_false_iff_not] at hf ⊢
        omega
      · rw [if_neg c2] at hf ⊢
        rw [decide_eq_false_iff_not] at hf ⊢
        omega

theorem getD_set_self {F : List Int} {i : Nat} {v : Int} (h : i < F.length) : (F.set i v).getD i 0 = v := by simp [h]
theorem getD_set_other {F : List Int} {i j : Nat} {v : Int} (h : i ≠ j) : (F.set i v).getD j 0 = F.getD j 0 := by simp [List.getElem?_set_ne h]

theorem fit_false {xs : List S.Item} {F : List Int} {base : Int} (hF : S.FormOk xs F) {i : Nat} {x : S.Item} (hx : xs[i]? = some x) (hf : S.fit xs F base i x = false) :
    (x.kind = 3 ∧ 1 ≤ F.getD i 0 ∧ F.getD i 0 ≤ 2) ∨ (x.kind = 4 ∧ F.getD i 0 = 1) := by
  obtain ⟨h3, h4, _⟩ := hF.2 i x hx
  unfold S.fit at hf
  split at hf
  · cases hf
  · rename_i c
    by_cases k3 : x.kind = 3
    · have := h3 k3; left; refine ⟨k3, by omega, ?_⟩; by_cases e : F.getD i 0 = 3
      · exact absurd (.inr (.inl ⟨k3, e⟩)) c
      · omega
    · by_cases k4 : x.kind = 4
      · have := h4 k4; right; refine ⟨k4, ?_⟩; by_cases e : F.getD i 0 = 2
        · exact absurd (.inr (.inr ⟨k4, e⟩)) c
        · omega
      · exact absurd (.inl ⟨k3, k4⟩) c

theorem formOk_grow {xs : List S.Item} {F : List Int} (hF : S.FormOk xs F) {i : Nat} {x : S.Item} (hx : xs[i]? = some x) (h : (x.kind = 3 ∧ 1 ≤ F.getD i 0 ∧ F.getD i 0 ≤ 2) ∨ (x.kind = 4 ∧ F.getD i 0 = 1)) :
    S.FormOk xs (F.set i (F.getD i 0 + 1)) := by
  have hlt := (List.getElem?_eq_some_iff.1 hx).1
  refine ⟨by rw [List.length_set]; exact hF.1, fun j y hy => ?_⟩
  by_cases e : i = j
  · subst e
    rw [hx] at hy; cases hy
    rw [getD_set_self (by rw [hF.1]; exact hlt)]
    omega
  · rw [getD_set_other e]
    exact hF.2 j y hy

/-- Something that does not fit is made greater. -/
theorem inv_grow {xs : List S.Item} {base : Int} {F F1 : List Int} (hI : S.Inv xs base F) (hI1 : S.Inv xs base F1) (hw : ∀ x ∈ xs, 0 ≤ x.word ∧ x.word ≤ 4294967295)
    {i : Nat} {x : S.Item} (hx : xs[i]? = some x) (hsame : F1.getD i 0 = F.getD i 0) (hf : S.fit xs F base i x = false) : S.Inv xs base (F1.set i (F1.getD i 0 + 1)) := by
  have hlt := (List.getElem?_eq_some_iff.1 hx).1
  have h1 := fit_false hI.1 hx hf
  rw [← hsame] at h1
  refine ⟨formOk_grow hI1.1 hx h1, fun G hG j => ?_⟩
  by_cases e : i = j
  · subst e
    rw [getD_set_self (by rw [hI1.1.1]; exact hlt)]
    have hle := hI.2 G hG i
    rw [hsame]
    by_cases he : F.getD i 0 = G.getD i 0
    · have := fit_mono hI.1 hG.1 hw (hI.2 G hG) hx he hf
      rw [hG.2 i x hx] at this
      cases this
    · omega
  · rw [getD_set_other e]
    exact hI1.2 G hG j

theorem checkRes_fun {xs : List S.Item} {base r s : Int} (h : S.CheckRes xs base r) (k : S.CheckRes xs base s) : r = s := by
  unfold S.CheckRes at h k
  rcases h with ⟨h1, h2⟩ | ⟨h1, h2, h3, h4⟩ | ⟨h1, h2, h3, h4, h5⟩ | ⟨h1, h2, h3, h4, h5, h6⟩ | ⟨h1, h2, h3, h4, h5, h6⟩ <;>
  rcases k with ⟨k1, k2⟩ | ⟨k1, k2, k3, k4⟩ | ⟨k1, k2, k3, k4, k5⟩ | ⟨k1, k2, k3, k4, k5, k6⟩ | ⟨k1, k2, k3, k4, k5, k6⟩ <;>
  first
    | omega
    | (exact absurd ‹S.Dup xs› ‹¬ S.Dup xs›)
    | (exact absurd ‹S.Miss xs› ‹¬ S.Miss xs›)

theorem list_ext_getD {F G : List Int} (h : F.length = G.length) (k : ∀ i, F.getD i 0 = G.getD i 0) : F = G := by
  apply List.ext_getElem h
  intro i h1 h2
  have := k i
  simpa [h1, h2] using this

/-- How far forms may still grow. -/
def room (F : List Int) : Nat := (F.map fun f => (3 - f).toNat).sum
theorem room_set {F : List Int} {i : Nat} (h : i < F.length) (h3 : F.getD i 0 ≤ 2) : room (F.set i (F.getD i 0 + 1)) < room F := by
  induction F generalizing i with
  | nil => simp at h
  | cons f F ih =>
    cases i with
    | zero => simp [room] at *; omega
    | succ i =>
      have := ih (i := i) (by simpa using h) (by simpa using h3)
      simp [room] at *; omega

theorem firstErr_drop {xs : List S.Item} {k : Nat} {x : S.Item} (hx : xs[k]? = some x) : S.firstErr (xs.drop k) = if S.chkItem x ≠ 0 then S.chkItem x else S.firstErr (xs.drop (k + 1)) := by
  have hk := (List.getElem?_eq_some_iff.1 hx).1
  have he := (List.getElem?_eq_some_iff.1 hx).2
  rw [List.drop_eq_getElem_cons hk, he, S.firstErr]

theorem named_stands {xs : List S.Item} {base : Int} (h : S.CheckRes xs base 0) {i : Nat} {x : S.Item} (hx : xs[i]? = some x) (hn : S.named x = true) : 0 ≤ S.stands xs x.label := by
  rcases h with ⟨_, h⟩ | ⟨_, _, h, h'⟩ | ⟨_, _, _, _, h⟩ | ⟨_, _, _, _, _, h⟩ | ⟨_, _, _, _, hm, _⟩
  · omega
  · omega
  · omega
  · omega
  · have : ¬ S.stands xs x.label < 0 := fun hlt => hm ⟨i, x, hx, hn, hlt⟩
    omega
theorem base_ok {xs : List S.Item} {base : Int} (h : S.CheckRes xs base 0) : 0 ≤ base ∧ base ≤ 67108864 := by
  rcases h with ⟨_, h⟩ | ⟨h0, h1, _⟩ | ⟨h0, h1, _⟩ | ⟨h0, h1, _⟩ | ⟨h0, h1, _⟩
  · omega
  all_goals exact ⟨h0, h1⟩

end Go.Proofs.YtlldagdhlfpihaaGreatDoor
end

section
set_option linter.unusedVariables false
set_option linter.unusedSimpArgs false
set_option linter.unusedSectionVars false
namespace Go.Proofs.YtlldagdhlfpihaaGreatDoor
namespace S

/-- Where the label of an item stands; 0 if it looks at none. -/
def toOf (xs : List Item) (F : List Int) (base : Int) (x : Item) : Int := if named x = true then addr xs F base (stands xs x.label).toNat else 0
def wordsAt (xs : List Item) (F : List Int) (base : Int) (i : Nat) : List Int :=
  match xs[i]? with
  | none => []
  | some x => wordsOf x (F.getD i 0) (addr xs F base i) (toOf xs F base x)
/-- The words of the first items. -/
def outTo (xs : List Item) (F : List Int) (base : Int) : Nat → List Int
  | 0 => []
  | k + 1 => outTo xs F base k ++ wordsAt xs F base k
def placeAt (xs : List Item) (F : List Int) (base : Int) (i : Nat) : List (ByteArray × Int) :=
  match xs[i]? with
  | none => []
  | some x => if x.kind = 2 then [(x.label, addr xs F base i)] else []
/-- The places of the first items. -/
def placesTo (xs : List Item) (F : List Int) (base : Int) : Nat → List (ByteArray × Int)
  | 0 => []
  | k + 1 => placesTo xs F base k ++ placeAt xs F base k

end S

theorem kinds_ok {xs : List S.Item} (h : S.firstErr xs = 0) : ∀ x ∈ xs, 1 ≤ x.kind ∧ x.kind ≤ 8 := by
  induction xs with
  | nil => intro x hx; cases hx
  | cons y r ih =>
    intro x hx
    rw [S.firstErr] at h
    by_cases c : S.chkItem y = 0
    · rw [if_neg (by simp [c])] at h
      rcases List.mem_cons.1 hx with rfl | hx
      · revert c; unfold S.chkItem; grind
      · exact ih h x hx
    · rw [if_pos c] at h
      exact absurd h c

theorem words_length {x : S.Item} {form a t : Int} (hk : 1 ≤ x.kind ∧ x.kind ≤ 8) (h3 : x.kind = 3 → 1 ≤ form ∧ form ≤ 3) (h4 : x.kind = 4 → 1 ≤ form ∧ form ≤ 2) (hw : 0 ≤ x.word) :
    ((S.wordsOf x form a t).length : Int) = if x.kind = 2 then 0 else S.size x form := by
  have hc : x.kind = 1 ∨ x.kind = 2 ∨ x.kind = 3 ∨ x.kind = 4 ∨ x.kind = 5 ∨ x.kind = 6 ∨ x.kind = 7 ∨ x.kind = 8 := by omega
  rcases hc with h | h | h | h | h | h | h | h
  · simp [S.wordsOf, S.size, h]
  · simp [S.wordsOf, S.size, h]
  · have hf : form = 1 ∨ form = 2 ∨ form = 3 := by have := h3 h; omega
    rcases hf with rfl | rfl | rfl <;> simp [S.wordsOf, S.size, h]
  · have hf : form = 1 ∨ form = 2 := by have := h4 h; omega
    rcases hf with rfl | rfl <;> simp [S.wordsOf, S.size, h]
  · simp [S.wordsOf, S.size, h]
  · simp [S.wordsOf, S.size, h]
  · simp [S.wordsOf, S.size, h]
  · simp [S.wordsOf, S.size, h]; omega

theorem wordsAt_length {xs : List S.Item} {F : List Int} {base : Int} (hF : S.FormOk xs F) (hk : ∀ x ∈ xs, 1 ≤ x.kind ∧ x.kind ≤ 8) (hw : ∀ x ∈ xs, 0 ≤ x.word ∧ x.word ≤ 4294967295) (i : Nat) :
    ((S.wordsAt xs F base i).length : Int) = S.sizeAt xs F i := by
  unfold S.wordsAt S.sizeAt
  cases hx : xs[i]? with
  | none => simp
  | some x =>
    obtain ⟨h3, h4, _⟩ := hF.2 i x hx
    have hm := List.mem_of_getElem? hx
    simp only
    rw [words_length (hk x hm) h3 h4 (hw x hm).1]
    split
    · rename_i c; simp [S.size, c]
    · rfl
theorem outTo_length {xs : List S.Item} {F : List Int} {base : Int} (hF : S.FormOk xs F) (hk : ∀ x ∈ xs, 1 ≤ x.kind ∧ x.kind ≤ 8) (hw : ∀ x ∈ xs, 0 ≤ x.word ∧ x.word ≤ 4294967295) :
    ∀ i : Nat, ((S.outTo xs F base i).length : Int) = S.addr xs F base i - base
  | 0 => by simp [S.outTo, S.addr]
  | i + 1 => by
    have h1 := outTo_length (base := base) hF hk hw i
    have h2 := wordsAt_length (base := base) hF hk hw i
    rw [S.outTo, List.length_append, S.addr]
    omega
theorem placesTo_length (xs : List S.Item) (F : List Int) (base : Int) : ∀ i : Nat, (S.placesTo xs F base i).length ≤ i
  | 0 => by simp [S.placesTo]
  | i + 1 => by
    have h1 := placesTo_length xs F base i
    have h2 : (S.placeAt xs F base i).length ≤ 1 := by
      unfold S.placeAt
      split
      · simp
      · split <;> simp
    rw [S.placesTo, List.length_append]
    omega
theorem addr_le {xs : List S.Item} {F : List Int} {base : Int} (hF : S.FormOk xs F) (hw : ∀ x ∈ xs, 0 ≤ x.word ∧ x.word ≤ 4294967295) {i n : Nat} (h : i ≤ n) : S.addr xs F base i ≤ S.addr xs F base n := by
  obtain ⟨d, rfl⟩ : ∃ d, n = i + d := ⟨n - i, by omega⟩
  exact addr_up hF hw i d
theorem firstErr_of {xs : List S.Item} {base : Int} (h : S.CheckRes xs base 0) : S.firstErr xs = 0 := by
  rcases h with ⟨_, h⟩ | ⟨_, _, h, h'⟩ | ⟨_, _, h, _⟩ | ⟨_, _, h, _⟩ | ⟨_, _, h, _⟩
  · omega
  · omega
  all_goals exact h
theorem toOf_bd {xs : List S.Item} {F : List Int} {base : Int} (hF : S.FormOk xs F) (hw : ∀ x ∈ xs, 0 ≤ x.word ∧ x.word ≤ 4294967295) (hb : 0 ≤ base) (hm : S.addr xs F base xs.length ≤ 67108864) (x : S.Item) :
    0 ≤ S.toOf xs F base x ∧ S.toOf xs F base x ≤ 67108864 := by
  unfold S.toOf
  split
  · rcases stands_spec xs x.label with ⟨e, _⟩ | ⟨j, y, e, hj, _⟩
    · rw [e]
      have := (addr_bd (base := base) hF hw 0)
      have h2 := addr_le (base := base) hF hw (Nat.zero_le xs.length)
      have e0 : (-1 : Int).toNat = 0 := rfl
      rw [e0]
      omega
    · have hlt := (List.getElem?_eq_some_iff.1 hj).1
      rw [e, Int.toNat_natCast]
      have h1 := (addr_bd (base := base) hF hw j).1
      have h2 := addr_le (base := base) hF hw (Nat.le_of_lt hlt)
      omega
  · omega

end Go.Proofs.YtlldagdhlfpihaaGreatDoor
end

section
set_option linter.unusedVariables false
set_option linter.unusedSimpArgs false
set_option linter.unusedSectionVars false
namespace Go.Proofs.YtlldagdhlfpihaaGreatDoor
open Go.RowKit

/-! A machine stays a machine -/
theorem bits_bdB {a b : Int} (a0 : 0 ≤ a) (a1 : a ≤ 4294967295) (b0 : 0 ≤ b) (b1 : b ≤ 4294967295) :
    (0 ≤ bits .and .u32 a b ∧ bits .and .u32 a b ≤ 4294967295) ∧ (0 ≤ bits .or .u32 a b ∧ bits .or .u32 a b ≤ 4294967295) ∧ (0 ≤ bits .xor .u32 a b ∧ bits .xor .u32 a b ≤ 4294967295) := by
  have ha : a.toNat < 2 ^ 32 := by omega
  have hb : b.toNat < 2 ^ 32 := by omega
  refine ⟨?_, ?_, ?_⟩
  · rw [u32_and a0 a1 b0 b1]
    have := Nat.and_lt_two_pow a.toNat hb
    omega
  · rw [u32_or a0 a1 b0 b1]
    have := Nat.or_lt_two_pow ha hb
    omega
  · rw [u32_xor a0 a1 b0 b1]
    have := Nat.xor_lt_two_pow ha hb
    omega
theorem div_bd {a b : Int} (a0 : 0 ≤ a) (a1 : a ≤ 4294967295) (b0 : 0 ≤ b) : 0 ≤ a / b ∧ a / b ≤ 4294967295 := by
  refine ⟨Int.ediv_nonneg a0 b0, ?_⟩
  have := Int.ediv_le_self b a0
  omega
theorem mod_bd {a b : Int} (a0 : 0 ≤ a) (a1 : a ≤ 4294967295) (b0 : 0 ≤ b) : 0 ≤ a % b ∧ a % b ≤ 4294967295 := by
  by_cases h : b = 0
  · subst h; simp; exact ⟨a0, a1⟩
  · refine ⟨Int.emod_nonneg a h, ?_⟩
    have h1 := Int.emod_add_mul_ediv a b
    have h2 : 0 ≤ b * (a / b) := Int.mul_nonneg b0 (Int.ediv_nonneg a0 b0)
    omega
theorem mul_hi {a b : Int} (a0 : 0 ≤ a) (a1 : a ≤ 4294967295) (b0 : 0 ≤ b) (b1 : b ≤ 4294967295) : 0 ≤ a * b / 4294967296 ∧ a * b / 4294967296 ≤ 4294967295 := by
  have h1 : 0 ≤ a * b := Int.mul_nonneg a0 b0
  have h2 : a * b ≤ 4294967295 * 4294967295 := Int.mul_le_mul a1 b1 b0 (by omega)
  omega
theorem alu_bdB {op a b : Int} (a0 : 0 ≤ a) (a1 : a ≤ 4294967295) (b0 : 0 ≤ b) (b1 : b ≤ 4294967295) : 0 ≤ S.alu op a b ∧ S.alu op a b ≤ 4294967295 := by
  obtain ⟨h7, h8, h9⟩ := bits_bdB a0 a1 b0 b1
  have h5 := div_bd a0 a1 b0
  have h6 := mod_bd a0 a1 b0
  have h4 := mul_hi a0 a1 b0 b1
  have hpw : (0 : Int) ≤ 2 ^ (b % 32).toNat := Int.le_of_lt (Int.pow_pos (by omega))
  have h11 := div_bd a0 a1 hpw
  unfold S.alu
  by_cases c1 : op = 1
  · rw [if_pos c1]; exact u32_bd _
  rw [if_neg c1]
  by_cases c2 : op = 2
  · rw [if_pos c2]; exact u32_bd _
  rw [if_neg c2]
  by_cases c3 : op = 3
  · rw [if_pos c3]; exact u32_bd _
  rw [if_neg c3]
  by_cases c4 : op = 4
  · rw [if_pos c4]; exact h4
  rw [if_neg c4]
  by_cases c5 : op = 5
  · rw [if_pos c5]; exact h5
  rw [if_neg c5]
  by_cases c6 : op = 6
  · rw [if_pos c6]; exact h6
  rw [if_neg c6]
  by_cases c7 : op = 7
  · rw [if_pos c7]; exact h7
  rw [if_neg c7]
  by_cases c8 : op = 8
  · rw [if_pos c8]; exact h8
  rw [if_neg c8]
  by_cases c9 : op = 9
  · rw [if_pos c9]; exact h9
  rw [if_neg c9]
  by_cases c10 : op = 10
  · rw [if_pos c10]; exact u32_bd _
  rw [if_neg c10]
  by_cases c11 : op = 11
  · rw [if_pos c11]; exact h11
  rw [if_neg c11]
  by_cases c12 : op = 12
  · rw [if_pos c12]; exact u32_bd _
  rw [if_neg c12]
  by_cases c13 : op = 13
  · rw [if_pos c13]; unfold S.truth; split <;> decide
  rw [if_neg c13]; unfold S.truth; split <;> decide
theorem putOk {m : S.Mach} (h : m.Ok) {d v : Int} (hd : 0 ≤ d) (hv : 0 ≤ v ∧ v ≤ 4294967295) : (m.put d v).Ok := by
  unfold S.Mach.put
  by_cases h0 : d = 0
  · rw [if_pos h0]; exact h
  · rw [if_neg h0]
    have hg : ∀ i, (m.reg.set d.toNat v).getD i 0 = if d.toNat = i ∧ i < m.reg.length then v else m.reg.getD i 0 := fun i => by
      by_cases e : d.toNat = i
      · subst e
        by_cases hl : d.toNat < m.reg.length <;> simp [hl]
      · simp [e]
    refine ⟨by simpa using h.regs, fun i => ?_, ?_, h.mem, h.memw, h.place0, h.place1, h.inp, h.outp, h.code0, h.code1⟩
    · show 0 ≤ (m.reg.set d.toNat v).getD i 0 ∧ (m.reg.set d.toNat v).getD i 0 ≤ 4294967295
      rw [hg]; split
      · exact hv
      · exact h.word i
    · show (m.reg.set d.toNat v).getD 0 0 = 0
      rw [hg, if_neg (by omega)]; exact h.zero
theorem placed {m : S.Mach} (h : m.Ok) {p s : Int} (hp : 0 ≤ p ∧ p ≤ 4294967295) : ({ m with place := p, steps := s } : S.Mach).Ok :=
  ⟨h.regs, h.word, h.zero, h.mem, h.memw, hp.1, hp.2, h.inp, h.outp, h.code0, h.code1⟩
theorem rd_bd {m : S.Mach} (h : m.Ok) (i : Int) : 0 ≤ m.rd i ∧ m.rd i ≤ 4294967295 := h.word _
theorem actOk {m : S.Mach} (h : m.Ok) {x : S.Inst} (hd : 0 ≤ x.d) : (m.act x).1.Ok ∧ 0 ≤ (m.act x).2.1 ∧ (m.act x).2.1 ≤ 4294967295 := by
  have hn := u32_bd (m.place + 1)
  have ha := rd_bd h x.a
  have hb := rd_bd h x.b
  have hi := u32_bd x.imm
  unfold S.Mach.act
  simp only
  by_cases h1 : x.op ≤ 14
  · rw [if_pos h1]
    by_cases h2 : m.rd x.b = 0 ∧ (x.op = 5 ∨ x.op = 6)
    · rw [if_pos h2]; exact ⟨h, Int.le_refl (0 : Int), show (0 : Int) ≤ 4294967295 by decide⟩
    · rw [if_neg h2]; exact ⟨putOk h hd (alu_bdB ha.1 ha.2 hb.1 hb.2), hn⟩
  rw [if_neg h1]
  by_cases h2 : x.op ≤ 22
  · rw [if_pos h2]; exact ⟨putOk h hd (alu_bdB ha.1 ha.2 hi.1 hi.2), hn⟩
  rw [if_neg h2]
  by_cases h3 : x.op = 23
  · rw [if_pos h3]; exact ⟨putOk h hd (u32_bd _), hn⟩
  rw [if_neg h3]
  by_cases h4 : x.op = 24
  · rw [if_pos h4]
    by_cases h5 : S.u32m (m.rd x.a + S.u32m x.imm) < m.mem.length
    · rw [if_pos h5]; exact ⟨putOk h hd (h.memw _), hn⟩
    · rw [if_neg h5]; exact ⟨h, Int.le_refl (0 : Int), show (0 : Int) ≤ 4294967295 by decide⟩
  rw [if_neg h4]
  by_cases h5 : x.op = 25
  · rw [if_pos h5]
    by_cases h6 : S.u32m (m.rd x.a + S.u32m x.imm) < m.mem.length
    · rw [if_pos h6]
      refine ⟨⟨h.regs, h.word, h.zero, by simpa using h.mem, fun i => ?_, h.place0, h.place1, h.inp, h.outp, h.code0, h.code1⟩, hn⟩
      show 0 ≤ (m.mem.set (S.u32m (m.rd x.a + S.u32m x.imm)).toNat (m.rd x.b)).getD i 0 ∧ (m.mem.set (S.u32m (m.rd x.a + S.u32m x.imm)).toNat (m.rd x.b)).getD i 0 ≤ 4294967295
      generalize (S.u32m (m.rd x.a + S.u32m x.imm)).toNat = q
      by_cases e : q = i
      · subst e
        by_cases hl : q < m.mem.length
        · simp [hl]; exact hb
        · simp [hl]
      · have := h.memw i
        simp only [List.getD_eq_getElem?_getD, List.getElem?_set_ne e] at this ⊢
        exact this
    · rw [if_neg h6]; exact ⟨h, Int.le_refl (0 : Int), show (0 : Int) ≤ 4294967295 by decide⟩
  rw [if_neg h5]
  by_cases h6 : x.op ≤ 31
  · rw [if_pos h6]
    refine ⟨h, ?_⟩
    show 0 ≤ (if S.goes x.op (m.rd x.a) (m.rd x.b) = true then _ else _) ∧ (if S.goes x.op (m.rd x.a) (m.rd x.b) = true then _ else _) ≤ _
    split
    · exact u32_bd _
    · exact hn
  rw [if_neg h6]
  by_cases h7 : x.op = 32
  · rw [if_pos h7]; exact ⟨putOk h hd hn, u32_bd _⟩
  rw [if_neg h7]
  by_cases h8 : x.op = 33
  · rw [if_pos h8]; exact ⟨putOk h hd hn, u32_bd _⟩
  rw [if_neg h8]
  by_cases h9 : x.op = 34
  · rw [if_pos h9]
    cases hin : m.input with
    | nil => exact ⟨putOk h hd (show (0 : Int) ≤ 4294967295 ∧ (4294967295 : Int) ≤ 4294967295 by decide), hn⟩
    | cons y r =>
      have hy := h.inp y (by rw [hin]; simp)
      have hk : ({ m with input := r } : S.Mach).Ok := ⟨h.regs, h.word, h.zero, h.mem, h.memw, h.place0, h.place1, fun z hz => h.inp z (by rw [hin]; exact List.mem_cons_of_mem _ hz), h.outp, h.code0, h.code1⟩
      exact ⟨putOk hk hd (show 0 ≤ y ∧ y ≤ 4294967295 by omega), hn⟩
  rw [if_neg h9]
  by_cases h10 : x.op = 35
  · rw [if_pos h10]
    refine ⟨⟨h.regs, h.word, h.zero, h.mem, h.memw, h.place0, h.place1, h.inp, fun z hz => ?_, h.code0, h.code1⟩, hn⟩
    rcases List.mem_append.1 hz with hz | hz
    · exact h.outp z hz
    · rw [List.mem_singleton] at hz; omega
  rw [if_neg h10]
  exact ⟨⟨h.regs, h.word, h.zero, h.mem, h.memw, h.place0, h.place1, h.inp, h.outp, ha.1, ha.2⟩, h.place0, h.place1⟩

theorem steps_add (m : S.Mach) (a : Nat) : ∀ b : Nat, m.steps_ (a + b) = (m.steps_ a).steps_ b
  | 0 => rfl
  | b + 1 => by
    show (m.steps_ (a + b)).step = ((m.steps_ a).steps_ b).step
    rw [steps_add m a b]
theorem steps_one (m : S.Mach) : m.steps_ 1 = m.step := rfl
/-- A machine that does not run stays. -/
theorem steps_still {m : S.Mach} (h : m.state ≠ 0) : ∀ n : Nat, m.steps_ n = m
  | 0 => rfl
  | n + 1 => by
    show (m.steps_ n).step = m
    rw [steps_still h n]
    unfold S.Mach.step
    rw [if_pos h]

namespace S
/-- An assembled image: items, forms, how large the memory is, which items are code, where the stack is. -/
structure Img where
  xs : List Item
  F : List Int
  size : Int
  i0 : Nat
  i1 : Nat
  lo : Int
  hi : Int
namespace Img
def adr (I : Img) (i : Nat) : Int := addr I.xs I.F 0 i
def lab (I : Img) (s : ByteArray) : Int := I.adr (stands I.xs s).toNat
structure Ok (I : Img) : Prop where
  res : FormsRes I.xs 0 0 I.F
  words : ∀ x ∈ I.xs, 0 ≤ x.word ∧ x.word ≤ 4294967295
  i01 : I.i0 ≤ I.i1
  i1l : I.i1 ≤ I.xs.length
  size : I.adr I.xs.length < I.size
  size2 : I.size ≤ 335544320
  lo0 : 0 ≤ I.lo
  lohi : I.lo ≤ I.hi
  hisz : I.hi ≤ I.size
  apart : I.hi ≤ I.adr I.i0 ∨ I.adr I.i1 ≤ I.lo
/-- Is an address one of the code's, the stack's? -/
def code (I : Img) (a : Int) : Prop := I.adr I.i0 ≤ a ∧ a < I.adr I.i1
def stk (I : Img) (a : Int) : Prop := I.lo ≤ a ∧ a < I.hi
/-- The code stands in a memory. -/
def In (I : Img) (mem : List Int) : Prop := ∀ i, I.i0 ≤ i → i < I.i1 → ∀ j w, (wordsAt I.xs I.F 0 i)[j]? = some w → mem.getD ((I.adr i).toNat + j) 0 = w
end Img
end S

section
variable {I : S.Img} (hI : I.Ok)
include hI
theorem img_forms : S.FormOk I.xs I.F := by
  rcases hI.res with ⟨h, _⟩ | ⟨h, _⟩ | ⟨_, _, h, _⟩
  · exact absurd rfl h
  · omega
  · exact h.1
theorem img_stable : S.Stable I.xs 0 I.F := by
  rcases hI.res with ⟨h, _⟩ | ⟨h, _⟩ | ⟨_, _, h, h2, _⟩
  · exact absurd rfl h
  · omega
  · exact h2
theorem img_check : S.CheckRes I.xs 0 0 := by
  rcases hI.res with ⟨h, _⟩ | ⟨h, _⟩ | ⟨h, _⟩
  · exact absurd rfl h
  · omega
  · exact h
theorem img_small : I.adr I.xs.length ≤ 67108864 := by
  rcases hI.res with ⟨h, _⟩ | ⟨h, _⟩ | ⟨_, _, _, _, h⟩
  · exact absurd rfl h
  · omega
  · exact h
theorem img_dup : ¬ S.Dup I.xs := by
  rcases img_check hI with ⟨_, h⟩ | ⟨_, _, h, h2⟩ | ⟨_, _, _, _, h⟩ | ⟨_, _, _, _, _, h⟩ | ⟨_, _, _, h, _⟩
  · omega
  · exact absurd h2.symm h
  · omega
  · omega
  · exact h
theorem img_first : S.firstErr I.xs = 0 := by
  rcases img_check hI with ⟨_, h⟩ | ⟨_, _, h, h2⟩ | ⟨_, _, _, _, h⟩ | ⟨_, _, _, _, _, h⟩ | ⟨_, _, h, _, _⟩
  · omega
  · exact absurd h2.symm h
  · omega
  · omega
  · exact h
theorem img_le {i j : Nat} (h : i ≤ j) : I.adr i ≤ I.adr j := addr_le (img_forms hI) hI.words h
theorem img_0 (i : Nat) : 0 ≤ I.adr i := (addr_bd (img_forms hI) hI.words i).1
theorem img_top {i : Nat} (h : i ≤ I.xs.length) : I.adr i ≤ 67108864 := Int.le_trans (img_le hI h) (img_small hI)
/-- A label stands where it stands. -/
theorem img_label {i : Nat} {x : S.Item} (hx : I.xs[i]? = some x) (hk : x.kind = 2) : S.stands I.xs x.label = i := by
  by_cases h : S.stands I.xs x.label = i
  · exact h
  · exact absurd ⟨i, x, hx, hk, h⟩ (img_dup hI)
theorem img_chk {x : S.Item} {i : Nat} (hx : I.xs[i]? = some x) : S.chkItem x = 0 := by
  have h := img_first hI
  have hm := List.mem_of_getElem? hx
  generalize I.xs = l at h hm
  clear hx
  induction l with
  | nil => cases hm
  | cons y r ih =>
    rw [S.firstErr] at h
    by_cases c : S.chkItem y = 0
    · rw [if_neg (by simp [c])] at h
      rcases List.mem_cons.1 hm with rfl | hm
      · exact c
      · exact ih h hm
    · rw [if_pos c] at h; exact absurd h c
theorem img_next {i : Nat} {x : S.Item} (hx : I.xs[i]? = some x) : I.adr (i + 1) = I.adr i + S.size x (I.F.getD i 0) := by
  show S.addr I.xs I.F 0 i + S.sizeAt I.xs I.F i = _
  unfold S.sizeAt
  rw [hx]
  rfl
end

/-- What is fetched and done, where an instruction stands. -/
theorem step_inst {m : S.Mach} {x : S.Inst} (hr : m.state = 0) (hp : m.place < m.mem.length) (hw : m.mem.getD m.place.toNat 0 = S.wordOf x) (hg : S.good x = true) (ht : (m.act x).2.2 = 0) :
    m.step = { (m.act x).1 with place := (m.act x).2.1, steps := m.steps + 1 } := by
  have e : S.wordOf x = S.enc x := by unfold S.wordOf; rw [if_pos hg]
  obtain ⟨h1, h2⟩ := dec_enc hg
  unfold S.Mach.step
  rw [if_neg (by simp [hr]), if_neg (by omega), hw, e, h1, h2, if_neg (by simp), if_neg (by simp [ht])]

end Go.Proofs.YtlldagdhlfpihaaGreatDoor
end
