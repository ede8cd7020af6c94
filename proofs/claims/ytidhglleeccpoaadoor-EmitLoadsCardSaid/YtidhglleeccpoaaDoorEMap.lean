/- Plain mathematics of frame maps: a map's words as sums of bits. -/
import Derived.Test.YtidhglleeccpoaaDoorEMak
import Derived.Test.YtidhglleeccpoaaDoorLay
set_option linter.unusedVariables false
set_option linter.unusedSimpArgs false
set_option linter.unusedSectionVars false
namespace Go.Proofs.YtidhglleeccpoaaDoor

/-- Horner's sum of bits. -/
def hw (f : Nat → Int) : Nat → Int
  | 0 => 0
  | k + 1 => 2 * hw f k + f k
theorem mapW_hw (l : List Int) (base : Int) : ∀ k, S.mapW l base k = hw (fun t => S.mapBit l (base + 31 - t)) k
  | 0 => rfl
  | k + 1 => by
    show 2 * S.mapW l base k + S.mapBit l (base + 31 - k) = 2 * hw _ k + _
    rw [mapW_hw l base k]
theorem hw_add (f : Nat → Int) (a : Nat) : ∀ b, hw f (a + b) = hw f a * 2 ^ b + hw (fun t => f (a + t)) b
  | 0 => by simp [hw]
  | b + 1 => by
    have ih := hw_add f a b
    show 2 * hw f (a + b) + f (a + b) = _
    rw [ih]
    show _ = hw f a * 2 ^ (b + 1) + (2 * hw (fun t => f (a + t)) b + f (a + b))
    rw [Int.pow_succ, ← Int.mul_assoc]
    generalize hw f a * 2 ^ b = x
    omega
theorem hw_bd {f : Nat → Int} (h : ∀ t, 0 ≤ f t ∧ f t ≤ 1) : ∀ k, 0 ≤ hw f k ∧ hw f k < 2 ^ k
  | 0 => by simp [hw]
  | k + 1 => by
    have ih := hw_bd h k
    have := h k
    show 0 ≤ 2 * hw f k + f k ∧ 2 * hw f k + f k < 2 ^ (k + 1)
    rw [Int.pow_succ]
    omega
theorem hw_zero {f : Nat → Int} : ∀ k, (∀ t, t < k → f t = 0) → hw f k = 0
  | 0, _ => rfl
  | k + 1, h => by
    show 2 * hw f k + f k = 0
    rw [hw_zero k (fun t ht => h t (by omega)), h k (by omega)]
    rfl
theorem hw_same {f g : Nat → Int} : ∀ k, (∀ t, t < k → f t = g t) → hw f k = hw g k
  | 0, _ => rfl
  | k + 1, h => by
    show 2 * hw f k + f k = 2 * hw g k + g k
    rw [hw_same k (fun t ht => h t (by omega)), h k (by omega)]
theorem hw_upd {f g : Nat → Int} (p : Nat) : ∀ k, p < k → (∀ t, t < k → g t = f t + (if t = p then 1 else 0)) → hw g k = hw f k + 2 ^ (k - 1 - p)
  | 0, h, _ => by omega
  | k + 1, h, hg => by
    show 2 * hw g k + g k = 2 * hw f k + f k + _
    by_cases hp : p = k
    · subst hp
      have e1 : hw g p = hw f p := hw_same p (fun t ht => by rw [hg t (by omega), if_neg (by omega), Int.add_zero])
      rw [e1, hg p (by omega), if_pos rfl, show p + 1 - 1 - p = 0 by omega]
      omega
    · rw [hw_upd p k (by omega) (fun t ht => hg t (by omega)), hg k (by omega), if_neg (fun e => hp e.symm)]
      have e : k + 1 - 1 - p = (k - 1 - p) + 1 := by omega
      rw [e, Int.pow_succ]
      omega
theorem mapBit_bd (l : List Int) (k : Int) : 0 ≤ S.mapBit l k ∧ S.mapBit l k ≤ 1 := by
  unfold S.mapBit
  split <;> simp
theorem mapW_bd (l : List Int) (base : Int) : 0 ≤ S.mapW l base 32 ∧ S.mapW l base 32 ≤ 4294967295 := by
  rw [mapW_hw]
  have := hw_bd (fun t => mapBit_bd l (base + 31 - t)) 32
  have e : (2 : Int) ^ 32 = 4294967296 := by decide
  rw [e] at this
  omega
theorem mapW_nil (base : Int) : S.mapW [] base 32 = 0 := by
  rw [mapW_hw]
  exact hw_zero 32 (fun t _ => by simp [S.mapBit])
theorem mapBit_snoc (l : List Int) (s k : Int) (h : s ∉ l) : S.mapBit (l ++ [s]) k = S.mapBit l k + (if k = s then 1 else 0) := by
  unfold S.mapBit
  by_cases h1 : k = s
  · subst h1
    simp [h]
  · simp [h1]
/-- A slot more: its word has a bit more; the others are as they were. -/
theorem mapW_snoc (l : List Int) (s : Int) (h : s ∉ l) (j : Int) : S.mapW (l ++ [s]) (32 * j) 32 = S.mapW l (32 * j) 32 + (if s / 32 = j then 2 ^ (s % 32).toNat else 0) := by
  rw [mapW_hw, mapW_hw]
  by_cases hj : s / 32 = j
  · rw [if_pos hj]
    have hp : (31 - s % 32).toNat < 32 := by omega
    rw [hw_upd (f := fun t : Nat => S.mapBit l (32 * j + 31 - t)) (31 - s % 32).toNat 32 hp (fun t ht => ?_)]
    · congr 2
      omega
    · rw [mapBit_snoc l s _ h]
      congr 1
      by_cases ht2 : t = (31 - s % 32).toNat
      · rw [if_pos ht2, if_pos (by omega)]
      · rw [if_neg ht2, if_neg (by omega)]
  · rw [if_neg hj, Int.add_zero]
    exact hw_same 32 (fun t ht => by
      rw [mapBit_snoc l s _ h, if_neg (by omega), Int.add_zero])
/-- Where all slots are below one, its word is below its bit. -/
theorem mapW_below (l : List Int) (s : Int) (h : ∀ x ∈ l, x < s) : S.mapW l (32 * (s / 32)) 32 < 2 ^ (s % 32).toNat := by
  rw [mapW_hw]
  have e : 32 = (32 - (s % 32).toNat) + (s % 32).toNat := by omega
  rw [e, hw_add, hw_zero (32 - (s % 32).toNat) (fun t ht => ?_)]
  · have := hw_bd (fun t => mapBit_bd l (32 * (s / 32) + 31 - ((32 - (s % 32).toNat + t : Nat) : Int))) (s % 32).toNat
    omega
  · unfold S.mapBit
    rw [if_neg]
    intro hm
    have := h _ hm
    omega
theorem rising_lt : ∀ {l : List Int}, S.rising l = true → ∀ (i j : Nat) (x y : Int), i < j → l[i]? = some x → l[j]? = some y → x < y
  | [], _, i, j, x, y, _, hx, _ => by simp at hx
  | [a], _, i, j, x, y, hij, hx, hy => by
    have := (List.getElem?_eq_some_iff.1 hy).1
    simp at this
    omega
  | a :: b :: r, h, i, j, x, y, hij, hx, hy => by
    simp only [S.rising, Bool.and_eq_true, decide_eq_true_eq] at h
    obtain ⟨h1, h2⟩ := h
    rcases i with _ | i
    · obtain rfl : a = x := by simpa using hx
      rcases j with _ | j
      · omega
      · rw [List.getElem?_cons_succ] at hy
        rcases j with _ | j
        · obtain rfl : b = y := by simpa using hy
          exact h1
        · have := rising_lt h2 0 (j + 1) b y (by omega) (by simp) hy
          omega
    · rcases j with _ | j
      · omega
      · rw [List.getElem?_cons_succ] at hx hy
        exact rising_lt h2 i j x y (by omega) hx hy
theorem take_lt {l : List Int} (h : S.rising l = true) {i : Nat} {s : Int} (hs : l[i]? = some s) : ∀ x ∈ l.take i, x < s := fun x hx => by
  obtain ⟨k, hk, rfl⟩ := List.getElem_of_mem hx
  simp only [List.length_take] at hk
  rw [List.getElem_take]
  exact rising_lt h k i _ s (by omega) (List.getElem?_eq_getElem (by omega)) hs
theorem slot_word {l : List Int} (h : S.rising l = true) (hs : ∀ s ∈ l, 0 ≤ s ∧ s < 16777216) {i : Nat} {s : Int} (hi : l[i]? = some s) {q : Nat} (hq : (q : Int) = s / 32) : q < S.mapLen l := by
  have hlt := (List.getElem?_eq_some_iff.1 hi).1
  have hge : l[l.length - 1]? = some (l[l.length - 1]'(by omega)) := List.getElem?_eq_getElem (by omega)
  have hlast : l.getLast? = some (l[l.length - 1]'(by omega)) := by rw [List.getLast?_eq_getElem?, hge]
  have hle : s ≤ l[l.length - 1]'(by omega) := by
    by_cases he : i = l.length - 1
    · subst he
      rw [hge] at hi
      simp only [Option.some.injEq] at hi
      omega
    · exact Int.le_of_lt (rising_lt h i (l.length - 1) _ _ (by omega) hi hge)
  have hb := hs _ (List.mem_of_getElem? hi)
  unfold S.mapLen
  rw [hlast]
  simp only
  generalize l[l.length - 1]'(by omega) = t at hle
  omega
theorem u32_or_low (k : Nat) (x : Int) (hk : k < 32) (h0 : 0 ≤ x) (h1 : x < 2 ^ k) : bits .or .u32 x (2 ^ k) = x + 2 ^ k := by
  have h2 : (2 : Int) ^ k ≤ 2147483648 := pow31 k hk
  have h3 : (0 : Int) < 2 ^ k := Int.pow_pos (by decide)
  have hj := u32_join k (2 ^ k) x (2 ^ k) rfl (by omega) (Int.emod_self) (by omega) h0 h1 (by omega)
  have hc : bits .or .u32 x (2 ^ k) = bits .or .u32 (2 ^ k) x := by
    show IntKind.u32.wrap ((BitVec.ofInt 32 x ||| BitVec.ofInt 32 (2 ^ k)).toNat : Int) = IntKind.u32.wrap ((BitVec.ofInt 32 (2 ^ k) ||| BitVec.ofInt 32 x).toNat : Int)
    rw [BitVec.or_comm]
  rw [hc, hj]
  omega

end Go.Proofs.YtidhglleeccpoaaDoor
