/- Plain mathematics: forms that grow to the least that fit. No program in sight. -/
import Derived.Test.YtidhglleeccpoaaDoorIsaD
set_option linter.unusedVariables false
set_option linter.unusedSimpArgs false
set_option linter.unusedSectionVars false
namespace Go.Proofs.YtidhglleeccpoaaDoor
namespace S

/-- All forms fit. -/
def Stable (xs : List Item) (base : Int) (G : List Int) : Prop := FormOk xs G ∧ ∀ (i : Nat) (x : Item), xs[i]? = some x → fit xs G base i x = true
/-- Forms that are below all that fit. -/
def Inv (xs : List Item) (base : Int) (F : List Int) : Prop := FormOk xs F ∧ ∀ G, Stable xs base G → ∀ i, F.getD i 0 ≤ G.getD i 0

def startForm (x : Item) : Int := if x.kind = 3 ∨ x.kind = 4 then 1 else 0

/-- What the forms of items are, or why there are none. -/
def FormsRes (xs : List Item) (base e : Int) (F : List Int) : Prop :=
  (e ≠ 0 ∧ CheckRes xs base e ∧ F = []) ∨
  (CheckRes xs base 0 ∧ e = 3 ∧ F = [] ∧ ∃ G, Inv xs base G ∧ most26 < addr xs G base xs.length) ∨
  (CheckRes xs base 0 ∧ e = 0 ∧ Inv xs base F ∧ Stable xs base F ∧ addr xs F base xs.length ≤ most26)

end S

theorem form_start (xs : List S.Item) (base : Int) : S.Inv xs base (xs.map S.startForm) := by
  have hg : ∀ (i : Nat) (x : S.Item), xs[i]? = some x → (xs.map S.startForm).getD i 0 = S.startForm x := by
    intro i x hx
    simp [List.getD_eq_getElem?_getD, hx]
  refine ⟨⟨by simp, fun i x hx => ?_⟩, fun G hG i => ?_⟩
  · rw [hg i x hx]
    unfold S.startForm
    grind
  · cases hx : xs[i]? with
    | none => simp [List.getD_eq_getElem?_getD, hx]; have : G[i]? = none := by
                rw [List.getElem?_eq_none_iff] at hx ⊢
                rw [hG.1.1]; exact hx
              simp [this]
    | some x =>
      rw [hg i x hx]
      obtain ⟨h3, h4, h5⟩ := hG.1.2 i x hx
      unfold S.startForm
      grind

theorem size_mono {x : S.Item} {f g : Int} (h : f ≤ g) (h3 : x.kind = 3 → 1 ≤ f ∧ g ≤ 3) : S.size x f ≤ S.size x g := by
  unfold S.size
  grind

/-- The distance of two places grows with the forms. -/
theorem addr_mono {xs : List S.Item} {F G : List Int} {base : Int} (hF : S.FormOk xs F) (hG : S.FormOk xs G) (h : ∀ i, F.getD i 0 ≤ G.getD i 0) (p : Nat) :
    ∀ d : Nat, S.addr xs F base (p + d) - S.addr xs F base p ≤ S.addr xs G base (p + d) - S.addr xs G base p
  | 0 => by simp
  | d + 1 => by
    have ih := addr_mono (base := base) hF hG h p d
    have hs : S.sizeAt xs F (p + d) ≤ S.sizeAt xs G (p + d) := by
      unfold S.sizeAt
      cases hx : xs[p + d]? with
      | none => simp
      | some x =>
        exact size_mono (h (p + d)) fun h3 => ⟨((hF.2 _ x hx).1 h3).1, ((hG.2 _ x hx).1 h3).2⟩
    show S.addr xs F base (p + d) + S.sizeAt xs F (p + d) - S.addr xs F base p ≤ S.addr xs G base (p + d) + S.sizeAt xs G (p + d) - S.addr xs G base p
    omega
theorem addr_up {xs : List S.Item} {F : List Int} {base : Int} (hF : S.FormOk xs F) (hw : ∀ x ∈ xs, 0 ≤ x.word ∧ x.word ≤ 4294967295) (p : Nat) :
    ∀ d : Nat, S.addr xs F base p ≤ S.addr xs F base (p + d)
  | 0 => by simp
  | d + 1 => by
    have ih := addr_up (base := base) hF hw p d
    have := (sizeAt_bd hF hw (p + d)).1
    show S.addr xs F base p ≤ S.addr xs F base (p + d) + S.sizeAt xs F (p + d)
    omega

/-- What does not fit does not fit with greater forms, if it is not greater itself. -/
theorem fit_mono {xs : List S.Item} {F G : List Int} {base : Int} (hF : S.FormOk xs F) (hG : S.FormOk xs G) (hw : ∀ x ∈ xs, 0 ≤ x.word ∧ x.word ≤ 4294967295) (h : ∀ i, F.getD i 0 ≤ G.getD i 0)
    {i : Nat} {x : S.Item} (hx : xs[i]? = some x) (hi : F.getD i 0 = G.getD i 0) (hf : S.fit xs F base i x = false) : S.fit xs G base i x = false := by
  have hlt := (List.getElem?_eq_some_iff.1 hx).1
  unfold S.fit at hf ⊢
  rw [← hi]
  split
  · rename_i c; rw [if_pos c] at hf; cases hf
  · rename_i c
    rw [if_neg c] at hf
    generalize (S.stands xs x.label).toNat = j at *
    rcases Nat.lt_or_ge i j with hij | hij
    · obtain ⟨d, rfl⟩ : ∃ d, j = (i + 1) + d := ⟨j - (i + 1), by omega⟩
      have h1 := addr_mono (base := base) hF hG h (i + 1) d
      have h2 := addr_up (base := base) hF hw (i + 1) d
      by_cases c2 : x.kind = 3 ∧ F.getD i 0 = 1
      · rw [if_pos c2] at hf ⊢
        rw [decide_eq_false_iff_not] at hf ⊢
        omega
      · rw [if_neg c2] at hf ⊢
        rw [decide_eq_false_iff_not] at hf ⊢
        omega
    · obtain ⟨d, hd⟩ : ∃ d, i + 1 = j + d := ⟨i + 1 - j, by omega⟩
      have h1 := addr_mono (base := base) hF hG h j d
      have h2 := addr_up (base := base) hF hw j d
      rw [← hd] at h1 h2
      by_cases c2 : x.kind = 3 ∧ F.getD i 0 = 1
      · rw [if_pos c2] at hf ⊢
        rw [decide_eq_false_iff_not] at hf ⊢
        omega
      · rw [if_neg c2] at hf ⊢
        rw [decide_eq_false_iff_not] at hf ⊢
        omega

theorem getD_set_self {F : List Int} {i : Nat} {v : Int} (h : i < F.length) : (F.set i v).getD i 0 = v := by simp [h]
theorem getD_set_other {F : List Int} {i j : Nat} {v : Int} (h : i ≠ j) : (F.set i v).getD j 0 = F.getD j 0 := by simp [List.getElem?_set_ne h]

theorem fit_false {xs : List S.Item} {F : List Int} {base : Int} (hF : S.FormOk xs F) {i : Nat} {x : S.Item} (hx : xs[i]? = some x) (hf : S.fit xs F base i x = false) :
    (x.kind = 3 ∧ 1 ≤ F.getD i 0 ∧ F.getD i 0 ≤ 2) ∨ (x.kind = 4 ∧ F.getD i 0 = 1) := by
  obtain ⟨h3, h4, _⟩ := hF.2 i x hx
  unfold S.fit at hf
  split at hf
  · cases hf
  · rename_i c
    by_cases k3 : x.kind = 3
    · have := h3 k3; left; refine ⟨k3, by omega, ?_⟩; by_cases e : F.getD i 0 = 3
      · exact absurd (.inr (.inl ⟨k3, e⟩)) c
      · omega
    · by_cases k4 : x.kind = 4
      · have := h4 k4; right; refine ⟨k4, ?_⟩; by_cases e : F.getD i 0 = 2
        · exact absurd (.inr (.inr ⟨k4, e⟩)) c
        · omega
      · exact absurd (.inl ⟨k3, k4⟩) c

theorem formOk_grow {xs : List S.Item} {F : List Int} (hF : S.FormOk xs F) {i : Nat} {x : S.Item} (hx : xs[i]? = some x) (h : (x.kind = 3 ∧ 1 ≤ F.getD i 0 ∧ F.getD i 0 ≤ 2) ∨ (x.kind = 4 ∧ F.getD i 0 = 1)) :
    S.FormOk xs (F.set i (F.getD i 0 + 1)) := by
  have hlt := (List.getElem?_eq_some_iff.1 hx).1
  refine ⟨by rw [List.length_set]; exact hF.1, fun j y hy => ?_⟩
  by_cases e : i = j
  · subst e
    rw [hx] at hy; cases hy
    rw [getD_set_self (by rw [hF.1]; exact hlt)]
    omega
  · rw [getD_set_other e]
    exact hF.2 j y hy

/-- Something that does not fit is made greater. -/
theorem inv_grow {xs : List S.Item} {base : Int} {F F1 : List Int} (hI : S.Inv xs base F) (hI1 : S.Inv xs base F1) (hw : ∀ x ∈ xs, 0 ≤ x.word ∧ x.word ≤ 4294967295)
    {i : Nat} {x : S.Item} (hx : xs[i]? = some x) (hsame : F1.getD i 0 = F.getD i 0) (hf : S.fit xs F base i x = false) : S.Inv xs base (F1.set i (F1.getD i 0 + 1)) := by
  have hlt := (List.getElem?_eq_some_iff.1 hx).1
  have h1 := fit_false hI.1 hx hf
  rw [← hsame] at h1
  refine ⟨formOk_grow hI1.1 hx h1, fun G hG j => ?_⟩
  by_cases e : i = j
  · subst e
    rw [getD_set_self (by rw [hI1.1.1]; exact hlt)]
    have hle := hI.2 G hG i
    rw [hsame]
    by_cases he : F.getD i 0 = G.getD i 0
    · have := fit_mono hI.1 hG.1 hw (hI.2 G hG) hx he hf
      rw [hG.2 i x hx] at this
      cases this
    · omega
  · rw [getD_set_other e]
    exact hI1.2 G hG j

theorem checkRes_fun {xs : List S.Item} {base r s : Int} (h : S.CheckRes xs base r) (k : S.CheckRes xs base s) : r = s := by
  unfold S.CheckRes at h k
  rcases h with ⟨h1, h2⟩ | ⟨h1, h2, h3, h4⟩ | ⟨h1, h2, h3, h4, h5⟩ | ⟨h1, h2, h3, h4, h5, h6⟩ | ⟨h1, h2, h3, h4, h5, h6⟩ <;>
  rcases k with ⟨k1, k2⟩ | ⟨k1, k2, k3, k4⟩ | ⟨k1, k2, k3, k4, k5⟩ | ⟨k1, k2, k3, k4, k5, k6⟩ | ⟨k1, k2, k3, k4, k5, k6⟩ <;>
  first
    | omega
    | (exact absurd ‹S.Dup xs› ‹¬ S.Dup xs›)
    | (exact absurd ‹S.Miss xs› ‹¬ S.Miss xs›)

theorem list_ext_getD {F G : List Int} (h : F.length = G.length) (k : ∀ i, F.getD i 0 = G.getD i 0) : F = G := by
  apply List.ext_getElem h
  intro i h1 h2
  have := k i
  simpa [h1, h2] using this

theorem inv_le_stable {xs : List S.Item} {base : Int} {F G : List Int} (hF : S.Inv xs base F) (hG : S.Stable xs base G) : S.addr xs F base xs.length ≤ S.addr xs G base xs.length := by
  have := addr_mono (base := base) hF.1 hG.1 (hF.2 G hG) 0 xs.length
  simp only [Nat.zero_add] at this
  simp only [S.addr] at this
  omega

theorem formsRes_fun {xs : List S.Item} {base e f : Int} {F G : List Int} (h : S.FormsRes xs base e F) (k : S.FormsRes xs base f G) : e = f ∧ F = G := by
  rcases h with ⟨h1, h2, h3⟩ | ⟨h1, h2, h3, H, h4, h5⟩ | ⟨h1, h2, h3, h4, h5⟩ <;>
  rcases k with ⟨k1, k2, k3⟩ | ⟨k1, k2, k3, K, k4, k5⟩ | ⟨k1, k2, k3, k4, k5⟩
  · exact ⟨checkRes_fun h2 k2, by rw [h3, k3]⟩
  · exact absurd (checkRes_fun h2 k1) h1
  · exact absurd (checkRes_fun h2 k1) h1
  · exact absurd (checkRes_fun k2 h1) k1
  · exact ⟨by omega, by rw [h3, k3]⟩
  · have := inv_le_stable h4 k4; omega
  · exact absurd (checkRes_fun k2 h1) k1
  · have := inv_le_stable k4 h4; omega
  · refine ⟨by omega, list_ext_getD (by rw [h3.1.1, k3.1.1]) fun i => ?_⟩
    have a := h3.2 G k4 i
    have b := k3.2 F h4 i
    omega

/-- How far forms may still grow. -/
def room (F : List Int) : Nat := (F.map fun f => (3 - f).toNat).sum
theorem room_set {F : List Int} {i : Nat} (h : i < F.length) (h3 : F.getD i 0 ≤ 2) : room (F.set i (F.getD i 0 + 1)) < room F := by
  induction F generalizing i with
  | nil => simp at h
  | cons f F ih =>
    cases i with
    | zero => simp [room] at *; omega
    | succ i =>
      have := ih (i := i) (by simpa using h) (by simpa using h3)
      simp [room] at *; omega

theorem firstErr_drop {xs : List S.Item} {k : Nat} {x : S.Item} (hx : xs[k]? = some x) : S.firstErr (xs.drop k) = if S.chkItem x ≠ 0 then S.chkItem x else S.firstErr (xs.drop (k + 1)) := by
  have hk := (List.getElem?_eq_some_iff.1 hx).1
  have he := (List.getElem?_eq_some_iff.1 hx).2
  rw [List.drop_eq_getElem_cons hk, he, S.firstErr]

def DupAt (xs : List S.Item) (i : Nat) : Prop := ∃ x, xs[i]? = some x ∧ x.kind = 2 ∧ S.stands xs x.label ≠ i
def MissAt (xs : List S.Item) (i : Nat) : Prop := ∃ x, xs[i]? = some x ∧ S.named x = true ∧ S.stands xs x.label < 0
theorem dup_none {xs : List S.Item} (h : ∀ m, m < xs.length → ¬ DupAt xs m) : ¬ S.Dup xs := fun ⟨i, x, h1, h2, h3⟩ => h i (List.getElem?_eq_some_iff.1 h1).1 ⟨x, h1, h2, h3⟩
theorem miss_none {xs : List S.Item} (h : ∀ m, m < xs.length → ¬ MissAt xs m) : ¬ S.Miss xs := fun ⟨i, x, h1, h2, h3⟩ => h i (List.getElem?_eq_some_iff.1 h1).1 ⟨x, h1, h2, h3⟩
theorem named_stands {xs : List S.Item} {base : Int} (h : S.CheckRes xs base 0) {i : Nat} {x : S.Item} (hx : xs[i]? = some x) (hn : S.named x = true) : 0 ≤ S.stands xs x.label := by
  rcases h with ⟨_, h⟩ | ⟨_, _, h, h'⟩ | ⟨_, _, _, _, h⟩ | ⟨_, _, _, _, _, h⟩ | ⟨_, _, _, _, hm, _⟩
  · omega
  · omega
  · omega
  · omega
  · have : ¬ S.stands xs x.label < 0 := fun hlt => hm ⟨i, x, hx, hn, hlt⟩
    omega
theorem base_ok {xs : List S.Item} {base : Int} (h : S.CheckRes xs base 0) : 0 ≤ base ∧ base ≤ 67108864 := by
  rcases h with ⟨_, h⟩ | ⟨h0, h1, _⟩ | ⟨h0, h1, _⟩ | ⟨h0, h1, _⟩ | ⟨h0, h1, _⟩
  · omega
  all_goals exact ⟨h0, h1⟩

end Go.Proofs.YtidhglleeccpoaaDoor
