/- Plain mathematics: forms are the least; where labels' places stand. No program in sight. -/
import Derived.Test.YtbgdomnalimjnaaAsmOut
set_option linter.unusedVariables false
set_option linter.unusedSimpArgs false
set_option linter.unusedSectionVars false
namespace Go.Proofs.Ytbgdomnalimjnaa

theorem sizeAt_set {xs : List S.Item} {F : List Int} {i : Nat} {v : Int} {x : S.Item} (hx : xs[i]? = some x) (hl : F.length = xs.length) (j : Nat) :
    S.sizeAt xs (F.set i v) j = if j = i then S.size x v else S.sizeAt xs F j := by
  have hi := (List.getElem?_eq_some_iff.1 hx).1
  by_cases e : j = i
  · subst e
    rw [if_pos rfl]
    simp only [S.sizeAt, hx]
    rw [getD_set_self (by omega)]
  · rw [if_neg e]
    simp only [S.sizeAt]
    rw [getD_set_other (fun h => e h.symm)]

/-- Addresses, where one form is made another. -/
theorem addr_set {xs : List S.Item} {F : List Int} {base : Int} {i : Nat} {v : Int} {x : S.Item} (hx : xs[i]? = some x) (hl : F.length = xs.length) : ∀ j : Nat,
    S.addr xs (F.set i v) base j = if j ≤ i then S.addr xs F base j else S.addr xs F base j - S.size x (F.getD i 0) + S.size x v
  | 0 => by simp [S.addr]
  | j + 1 => by
    have ih := addr_set (base := base) (v := v) hx hl j
    have hs := sizeAt_set (v := v) hx hl j
    show S.addr xs (F.set i v) base j + S.sizeAt xs (F.set i v) j = _
    rw [ih, hs]
    by_cases h1 : j + 1 ≤ i
    · rw [if_pos (by omega), if_neg (by omega), if_pos h1]; rfl
    · by_cases h2 : j = i
      · subst h2
        rw [if_pos (by omega), if_pos rfl, if_neg (by omega)]
        show _ = S.addr xs F base j + S.sizeAt xs F j - S.size x (F.getD j 0) + S.size x v
        have : S.sizeAt xs F j = S.size x (F.getD j 0) := by simp [S.sizeAt, hx]
        omega
      · rw [if_neg (by omega), if_neg h2, if_neg (by omega)]
        show _ = S.addr xs F base j + S.sizeAt xs F j - S.size x (F.getD i 0) + S.size x v
        omega

/-- A form that is greater than the least: the form before it does not fit. -/
theorem less_no_fit {xs : List S.Item} {base : Int} {F : List Int} (hI : S.Inv xs base F) (hS : S.Stable xs base F) (hw : ∀ x ∈ xs, 0 ≤ x.word ∧ x.word ≤ 4294967295)
    {i : Nat} {x : S.Item} (hx : xs[i]? = some x) (hk : (x.kind = 3 ∧ 2 ≤ F.getD i 0) ∨ (x.kind = 4 ∧ F.getD i 0 = 2)) : S.fit xs (F.set i (F.getD i 0 - 1)) base i x = false := by
  have hi := (List.getElem?_eq_some_iff.1 hx).1
  have hl := hI.1.1
  obtain ⟨h3, h4, _⟩ := hI.1.2 i x hx
  have hG : S.FormOk xs (F.set i (F.getD i 0 - 1)) := by
    refine ⟨by rw [List.length_set]; exact hl, fun j y hy => ?_⟩
    by_cases e : i = j
    · subst e
      rw [hx] at hy; cases hy
      rw [getD_set_self (by omega)]
      refine ⟨fun k => ?_, fun k => ?_, fun k3 k4 => ?_⟩
      · have := h3 k; omega
      · have := h4 k; omega
      · omega
    · rw [getD_set_other e]
      exact hI.1.2 j y hy
  have hle : ∀ j, (F.set i (F.getD i 0 - 1)).getD j 0 ≤ F.getD j 0 := by
    intro j
    by_cases e : i = j
    · subst e
      rw [getD_set_self (by omega)]; omega
    · rw [getD_set_other e]; omega
  cases hf : S.fit xs (F.set i (F.getD i 0 - 1)) base i x with
  | false => rfl
  | true =>
    have hst : S.Stable xs base (F.set i (F.getD i 0 - 1)) := by
      refine ⟨hG, fun j y hy => ?_⟩
      by_cases e : i = j
      · subst e
        rw [hx] at hy; cases hy
        exact hf
      · cases hc : S.fit xs (F.set i (F.getD i 0 - 1)) base j y with
        | true => rfl
        | false =>
          have := fit_mono hG hI.1 hw hle hy (getD_set_other e) hc
          rw [hS.2 j y hy] at this
          cases this
    have := hI.2 _ hst i
    rw [getD_set_self (by omega)] at this
    omega

/-- Which way a label lies. -/
theorem to_le {xs : List S.Item} {F : List Int} {base : Int} (hF : S.FormOk xs F) (hw : ∀ x ∈ xs, 0 ≤ x.word ∧ x.word ≤ 4294967295) {i j : Nat} {x : S.Item} (hx : xs[i]? = some x) (hk : x.kind = 3 ∨ x.kind = 4) :
    (j ≤ i → S.addr xs F base j ≤ S.addr xs F base i) ∧ (i < j → S.addr xs F base i + S.size x (F.getD i 0) ≤ S.addr xs F base j ∧ 1 ≤ S.size x (F.getD i 0)) := by
  refine ⟨fun h => addr_le hF hw h, fun h => ?_⟩
  have h1 := addr_le (base := base) hF hw (i := i + 1) (n := j) (by omega)
  have h2 : S.addr xs F base (i + 1) = S.addr xs F base i + S.size x (F.getD i 0) := by rw [S.addr]; simp [S.sizeAt, hx]
  obtain ⟨h3, h4, _⟩ := hF.2 i x hx
  refine ⟨by omega, ?_⟩
  unfold S.size
  grind

/-- What the law asks of a branch or jump. -/
theorem least_ways {xs : List S.Item} {base : Int} {F : List Int} (hI : S.Inv xs base F) (hS : S.Stable xs base F) (hw : ∀ x ∈ xs, 0 ≤ x.word ∧ x.word ≤ 4294967295)
    {i j : Nat} {x : S.Item} (hx : xs[i]? = some x) (hj : S.stands xs x.label = j) (a t f : Int) (ha : S.addr xs F base i = a) (ht : S.addr xs F base j = t) (hf : F.getD i 0 = f) :
    (x.kind = 3 ∧ f = 1) ∨ (x.kind = 3 ∧ f = 2 ∧ ((t ≤ a ∧ t - a - 1 < -32768) ∨ (a < t ∧ 32767 < t - a - 2))) ∨ (x.kind = 3 ∧ f = 3 ∧ (t ≤ a ∨ (a < t ∧ 1048575 < t - a - 4))) ∨
    (x.kind = 4 ∧ f = 1) ∨ (x.kind = 4 ∧ f = 2 ∧ ((t ≤ a ∧ t - a - 1 < -1048576) ∨ (a < t ∧ 1048575 < t - a - 3))) ∨ (x.kind ≠ 3 ∧ x.kind ≠ 4) := by
  obtain ⟨h3, h4, _⟩ := hI.1.2 i x hx
  rw [hf] at h3 h4
  have hl := hI.1.1
  have hi := (List.getElem?_eq_some_iff.1 hx).1
  by_cases k3 : x.kind = 3
  · obtain ⟨f1, f2⟩ := h3 k3
    obtain ⟨w1, w2⟩ := to_le (base := base) hI.1 hw (j := j) hx (.inl k3)
    rw [ha, ht] at w1
    rw [ha, ht, hf] at w2
    by_cases e1 : f = 1
    · exact .inl ⟨k3, e1⟩
    · have hn := less_no_fit hI hS hw hx (.inl ⟨k3, by omega⟩)
      rw [hf] at hn
      have hg : (F.set i (f - 1)).getD i 0 = f - 1 := getD_set_self (by omega)
      simp only [S.fit, hg, hj, Int.toNat_natCast] at hn
      rw [addr_set hx hl, addr_set hx hl, hf] at hn
      have hai : S.addr xs F base (i + 1) = a + S.size x f := by rw [S.addr, ha, ← hf]; simp [S.sizeAt, hx]
      rw [if_neg (by omega : ¬ (i + 1 ≤ i)), hai, ht] at hn
      have hs : ∀ g, S.size x g = if g = 3 then 4 else g := fun g => by simp [S.size, k3]
      rw [hs, hs] at hn
      rw [hs] at w2
      by_cases e2 : f = 2
      · subst e2
        right; left
        refine ⟨k3, rfl, ?_⟩
        by_cases hji : j ≤ i
        · have := w1 hji
          left
          simp [k3, hji] at hn
          omega
        · have := w2 (by omega)
          right
          simp [k3, hji] at hn
          simp at this
          omega
      · have e3 : f = 3 := by omega
        subst e3
        right; right; left
        refine ⟨k3, rfl, ?_⟩
        by_cases hji : j ≤ i
        · exact .inl (w1 hji)
        · have := w2 (by omega)
          right
          simp [k3, hji] at hn
          simp at this
          omega
  · by_cases k4 : x.kind = 4
    · obtain ⟨f1, f2⟩ := h4 k4
      obtain ⟨w1, w2⟩ := to_le (base := base) hI.1 hw (j := j) hx (.inr k4)
      rw [ha, ht] at w1
      rw [ha, ht, hf] at w2
      by_cases e1 : f = 1
      · exact .inr (.inr (.inr (.inl ⟨k4, e1⟩)))
      · have e2 : f = 2 := by omega
        subst e2
        have hn := less_no_fit hI hS hw hx (.inr ⟨k4, hf⟩)
        rw [hf] at hn
        have hg : (F.set i (2 - 1)).getD i 0 = 2 - 1 := getD_set_self (by omega)
        simp only [S.fit, hg, hj, Int.toNat_natCast] at hn
        rw [addr_set hx hl, addr_set hx hl, hf] at hn
        have hai : S.addr xs F base (i + 1) = a + S.size x 2 := by rw [S.addr, ha, ← hf]; simp [S.sizeAt, hx]
        rw [if_neg (by omega : ¬ (i + 1 ≤ i)), hai, ht] at hn
        have hs : ∀ g, S.size x g = 2 * g - 1 := fun g => by simp [S.size, k4]
        rw [hs, hs] at hn
        rw [hs] at w2
        refine .inr (.inr (.inr (.inr (.inl ⟨k4, rfl, ?_⟩))))
        by_cases hji : j ≤ i
        · have := w1 hji
          left
          simp [k4, hji] at hn
          omega
        · have := w2 (by omega)
          right
          simp [k4, hji] at hn
          omega
    · exact .inr (.inr (.inr (.inr (.inr ⟨k3, k4⟩))))

/-- The places are the labels' addresses. -/
theorem places_spec {xs : List S.Item} {F : List Int} {base : Int} (hd : ¬ S.Dup xs) : ∀ (n q : Nat) (s : ByteArray) (v : Int), (S.placesTo xs F base n)[q]? = some (s, v) →
    ∃ j : Nat, S.stands xs s = j ∧ v = S.addr xs F base j ∧ j < n
  | 0, q, s, v, h => by simp [S.placesTo] at h
  | n + 1, q, s, v, h => by
    rw [S.placesTo] at h
    by_cases hq : q < (S.placesTo xs F base n).length
    · rw [List.getElem?_append_left hq] at h
      obtain ⟨j, h1, h2, h3⟩ := places_spec hd n q s v h
      exact ⟨j, h1, h2, by omega⟩
    · rw [List.getElem?_append_right (by omega)] at h
      unfold S.placeAt at h
      cases hx : xs[n]? with
      | none => simp [hx] at h
      | some x =>
        simp only [hx] at h
        split at h
        · rename_i hk
          have h0 : q - (S.placesTo xs F base n).length = 0 := by
            have := (List.getElem?_eq_some_iff.1 h).1
            simp at this
            omega
          rw [h0] at h
          simp only [List.getElem?_cons_zero, Option.some.injEq, Prod.mk.injEq] at h
          refine ⟨n, ?_, h.2.symm, by omega⟩
          rw [← h.1]
          by_cases e : S.stands xs x.label = n
          · exact e
          · exact absurd ⟨n, x, hx, hk, e⟩ hd
        · simp at h
theorem places_has {xs : List S.Item} {F : List Int} {base : Int} {j : Nat} {s : ByteArray} (hs : S.stands xs s = j) : ∀ n : Nat, j < n → ∃ q : Nat, (S.placesTo xs F base n)[q]? = some (s, S.addr xs F base j)
  | 0, h => by omega
  | n + 1, h => by
    rw [S.placesTo]
    by_cases hj : j < n
    · obtain ⟨q, hq⟩ := places_has hs n hj
      refine ⟨q, ?_⟩
      rw [List.getElem?_append_left (List.getElem?_eq_some_iff.1 hq).1]
      exact hq
    · have e : j = n := by omega
      subst e
      rcases stands_spec xs s with ⟨h1, _⟩ | ⟨i, y, h1, h2, h3, h4, _⟩
      · omega
      · have : i = j := by omega
        subst this
        refine ⟨(S.placesTo xs F base i).length, ?_⟩
        rw [List.getElem?_append_right (by omega), Nat.sub_self]
        simp [S.placeAt, h2, h3, h4]

end Go.Proofs.Ytbgdomnalimjnaa
