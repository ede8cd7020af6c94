/- Plain facts for the law EmitMaps: a frame map's bits; where words stand among the items. -/
import Derived.Test.YtkdalaiponchbaaDoorEEmP
import Derived.Test.YtkdalaiponchbaaDoorEMap
set_option linter.unusedVariables false
set_option linter.unusedSimpArgs false
set_option linter.unusedSectionVars false
namespace Go.Proofs.YtkdalaiponchbaaDoor
open Go.RowKit

/-- How many of a word's lowest k bits are 1. -/
def onesP (w : Int) : Nat → Int
  | 0 => 0
  | k + 1 => onesP w k + w / 2 ^ k % 2
theorem hw_bit {f : Nat → Int} (h : ∀ t, 0 ≤ f t ∧ f t ≤ 1) (n j : Nat) (hj : j < n) : hw f n / 2 ^ j % 2 = f (n - 1 - j) := by
  have e : n = (n - 1 - j + 1) + j := by omega
  have h1 := hw_add f (n - 1 - j + 1) j
  rw [← e] at h1
  have hr := hw_bd (fun t => h (n - 1 - j + 1 + t)) j
  have hf := h (n - 1 - j)
  have hp : (0 : Int) < 2 ^ j := Int.pow_pos (by omega)
  rw [h1, Int.add_comm, Int.add_mul_ediv_right _ _ (by omega), Int.ediv_eq_zero_of_lt hr.1 hr.2]
  show (0 + (2 * hw f (n - 1 - j) + f (n - 1 - j))) % 2 = _
  omega
theorem mapW_bit (l : List Int) (base : Int) (j : Nat) (hj : j < 32) : S.mapW l base 32 / 2 ^ j % 2 = S.mapBit l (base + j) := by
  rw [mapW_hw, hw_bit (fun t => mapBit_bd l (base + 31 - t)) 32 j hj]
  congr 1
  omega
/-- The bits of slots from a on, n of them. -/
def cntB (l : List Int) (a : Int) : Nat → Int
  | 0 => 0
  | n + 1 => cntB l a n + S.mapBit l (a + n)
theorem cntB_add (l : List Int) (a : Int) (m : Nat) : ∀ n : Nat, cntB l a (m + n) = cntB l a m + cntB l (a + m) n
  | 0 => by simp [cntB]
  | n + 1 => by
    show cntB l a (m + n) + S.mapBit l (a + ((m + n : Nat) : Int)) = cntB l a m + (cntB l (a + m) n + S.mapBit l (a + m + n))
    rw [cntB_add l a m n, show a + ((m + n : Nat) : Int) = a + m + n by omega]
    omega
theorem ones_word (l : List Int) (base : Int) : ∀ k : Nat, k ≤ 32 → onesP (S.mapW l base 32) k = cntB l base k
  | 0, _ => rfl
  | k + 1, h => by
    show onesP _ k + S.mapW l base 32 / 2 ^ k % 2 = cntB l base k + S.mapBit l (base + k)
    rw [ones_word l base k (by omega), mapW_bit l base k (by omega)]
theorem cntB_nil (a : Int) : ∀ n : Nat, cntB [] a n = 0
  | 0 => rfl
  | n + 1 => by
    show cntB [] a n + S.mapBit [] (a + n) = 0
    rw [cntB_nil a n]; simp [S.mapBit]
theorem cntB_snoc (l : List Int) (s a : Int) (hs : s ∉ l) : ∀ n : Nat, cntB (l ++ [s]) a n = cntB l a n + (if a ≤ s ∧ s < a + n then 1 else 0)
  | 0 => by
    show (0 : Int) = 0 + _
    rw [if_neg (by omega)]; rfl
  | n + 1 => by
    show cntB (l ++ [s]) a n + S.mapBit (l ++ [s]) (a + n) = cntB l a n + S.mapBit l (a + n) + _
    rw [cntB_snoc l s a hs n, mapBit_snoc l s _ hs]
    by_cases h1 : a + n = s
    · rw [if_neg (show ¬ (a ≤ s ∧ s < a + n) by omega), if_pos h1, if_pos (show a ≤ s ∧ s < a + ((n + 1 : Nat) : Int) by omega)]
      omega
    · rw [if_neg h1]
      by_cases h2 : a ≤ s ∧ s < a + n
      · rw [if_pos h2, if_pos (show a ≤ s ∧ s < a + ((n + 1 : Nat) : Int) by omega)]; omega
      · rw [if_neg h2, if_neg (show ¬ (a ≤ s ∧ s < a + ((n + 1 : Nat) : Int)) by omega)]; omega
theorem rising_take {l : List Int} (h : S.rising l = true) (k : Nat) : S.rising (l.take k) = true := by
  rw [rising_at] at h ⊢
  intro j hj
  rw [List.length_take] at hj
  have := h j (by omega)
  simp only [List.getD_eq_getElem?_getD, List.getElem?_take] at this ⊢
  rw [if_pos (by omega), if_pos (by omega)]
  exact this
/-- All slots of a map are counted. -/
theorem cntB_all {l : List Int} (hr : S.rising l = true) (n : Nat) (hs : ∀ s ∈ l, 0 ≤ s ∧ s < n) : ∀ k, k ≤ l.length → cntB (l.take k) 0 n = k
  | 0, _ => by simp [cntB_nil]
  | k + 1, h => by
    have hx : l[k]? = some l[k] := List.getElem?_eq_getElem (by omega)
    have e : l.take (k + 1) = l.take k ++ [l[k]] := by rw [List.take_add_one, hx]; rfl
    have hno : l[k] ∉ l.take k := fun hm => by have := take_lt hr hx _ hm; omega
    have hb := hs l[k] (List.getElem_mem (by omega))
    rw [e, cntB_snoc _ _ _ hno, cntB_all hr n hs k (by omega), if_pos (by omega)]
    omega
theorem map_total {l : List Int} (hr : S.rising l = true) (hs : ∀ s ∈ l, 0 ≤ s ∧ s < 16777216) : cntB l 0 (32 * S.mapLen l) = l.length := by
  have h := cntB_all hr (32 * S.mapLen l) (fun s hm => by
    have h1 := hs s hm
    obtain ⟨i, hi⟩ := List.mem_iff_getElem?.1 hm
    have h2 := slot_word hr hs hi (q := (s / 32).toNat) (by omega)
    omega) l.length (Nat.le_refl _)
  rwa [List.take_length] at h
/-- The words' bits, summed up to the k-th word. -/
theorem sum_words (l : List Int) (k : Nat) : cntB l 0 (32 * (k + 1)) = cntB l 0 (32 * k) + onesP (S.mapW l (32 * (k : Int)) 32) 32 := by
  rw [ones_word l _ 32 (Nat.le_refl _), show 32 * (k + 1) = 32 * k + 32 by omega, cntB_add]
  congr 2
  omega

/-- Words stand in frame maps alone. -/
def noW (l : List S.Item) : Prop := ∀ x ∈ l, x.kind ≠ 6
theorem eload_noW (d n : Int) : noW (S.eload d n) := by
  unfold S.eload noW
  intro x hx
  split at hx
  · simp at hx; subst hx; simp [S.iInst]
  · split at hx
    · simp at hx; subst hx; simp [S.iInst]
    · split at hx
      · simp at hx; subst hx; simp [S.iInst]
      · simp at hx; rcases hx with rfl | rfl <;> simp [S.iInst]
theorem noW_append {a b : List S.Item} (h1 : noW a) (h2 : noW b) : noW (a ++ b) := fun x hx => by
  rcases List.mem_append.1 hx with h | h
  · exact h1 x h
  · exact h2 x h
theorem noW_one {x : S.Item} (h : x.kind ≠ 6) : noW [x] := fun y hy => by
  have : y = x := by simpa using hy
  rw [this]; exact h
theorem noW_two {x y : S.Item} (h : x.kind ≠ 6) (h2 : y.kind ≠ 6) : noW [x, y] := fun z hz => by
  simp at hz; rcases hz with rfl | rfl <;> assumption
theorem eentry_noW (f : S.VFunc) : noW (S.eentry f) := by
  have h1 := eload_noW 3 (S.u32 (f.params - 1))
  have h2 := eload_noW 3 (S.u32 f.params)
  have h3 := eload_noW 3 (S.u32 f.need)
  have k2 : ∀ s : ByteArray, (S.iLabel s).kind ≠ 6 := fun s => by simp [S.iLabel]
  have k3 : ∀ (o a b : Int) (s : ByteArray), (S.iBranch o a b s).kind ≠ 6 := fun o a b s => by simp [S.iBranch]
  have k4 : ∀ (d : Int) (s : ByteArray), (S.iJump d s).kind ≠ 6 := fun d s => by simp [S.iJump]
  have k1 : ∀ o d a b i : Int, (S.iInst o d a b i).kind ≠ 6 := fun o d a b i => by simp [S.iInst]
  unfold S.eentry
  simp only []
  split
  · exact noW_append (noW_append (noW_append (noW_one (k2 _)) h1) (noW_two (k3 _ _ _ _) (k2 _))) (noW_append h1 (noW_one (k4 _ _)))
  · split
    · exact noW_append (noW_append (noW_append (noW_one (k2 _)) h2) (noW_two (k3 _ _ _ _) (k2 _))) (noW_append (noW_append (noW_append h3 (noW_two (k1 _ _ _ _ _) (k3 _ _ _ _))) h3) (noW_two (k4 _ _) (k2 _)))
    · exact noW_append (noW_append (noW_append (noW_one (k2 _)) h2) (noW_two (k3 _ _ _ _) (k2 _))) (fun x hx => by cases hx)
theorem eitems_noW (words : List Int) (i : S.VInst) (h : i.op ≠ 67) : noW (S.eitems words i) := by
  have h1 := eload_noW i.d (S.u32 i.imm)
  have h2 := eload_noW i.d (words.getD i.imm.toNat 0)
  have k0 : noW [] := fun x hx => by cases hx
  have k2 : ∀ s : ByteArray, (S.iLabel s).kind ≠ 6 := fun s => by simp [S.iLabel]
  have k3 : ∀ (o a b : Int) (s : ByteArray), (S.iBranch o a b s).kind ≠ 6 := fun o a b s => by simp [S.iBranch]
  have k4 : ∀ (d : Int) (s : ByteArray), (S.iJump d s).kind ≠ 6 := fun d s => by simp [S.iJump]
  have k1 : ∀ o d a b i : Int, (S.iInst o d a b i).kind ≠ 6 := fun o d a b i => by simp [S.iInst]
  have k5 : ∀ (d : Int) (s : ByteArray) (w : Int), (S.iAddr d s w).kind ≠ 6 := fun d s w => by simp [S.iAddr]
  have ht : noW (S.etail i.imm) := by
    unfold S.etail
    split
    · exact noW_one (k4 _ _)
    · intro x hx
      simp at hx
      rcases hx with rfl | rfl | rfl | rfl <;> exact k1 _ _ _ _ _
  have hs : noW (S.eslot i.imm).1 := by
    unfold S.eslot
    split
    · exact k0
    · exact noW_one (k5 _ _ _)
  have ite : ∀ {c : Prop} [Decidable c] {a b : List S.Item}, noW a → noW b → noW (if c then a else b) := fun ha hb => by split <;> assumption
  unfold S.eitems
  refine ite (noW_one (k3 _ _ _ _)) (ite (ite k0 (noW_one (k1 _ _ _ _ _))) (ite (noW_one (k2 _)) (ite (noW_one (k4 _ _)) ?_)))
  rw [if_neg h]
  exact ite ht (ite h1 (ite (noW_two (k5 _ _ _) (k1 _ _ _ _ _)) (ite h2 (ite (noW_one (k4 _ _)) (ite (noW_append hs (noW_one (k1 _ _ _ _ _))) (ite (noW_append hs (noW_one (k1 _ _ _ _ _))) (noW_one (k1 _ _ _ _ _))))))))

end Go.Proofs.YtkdalaiponchbaaDoor
