/- Plain: items whose size is plain (words, instructions, labels, places of labels): addresses, words, results. No program in sight. -/
import Derived.Test.YtbgdomnalimjnaaLinkM
import Derived.Test.YtbgdomnalimjnaaAsmMin
set_option linter.unusedVariables false
set_option linter.unusedSimpArgs false
set_option linter.unusedSectionVars false
namespace Go.Proofs.Ytbgdomnalimjnaa
namespace S
def flatK (xs : List Item) : Prop := ∀ x ∈ xs, x.kind = 1 ∨ x.kind = 2 ∨ x.kind = 6 ∨ x.kind = 7
def plainK (xs : List Item) : Prop := ∀ x ∈ xs, x.kind = 1 ∨ x.kind = 6
def word1 (x : Item) : Int := if x.kind = 1 then wordOf x.inst else x.word
end S

theorem stands_eq {xs : List S.Item} {lab : ByteArray} {j : Nat} {x : S.Item} (hx : xs[j]? = some x) (hk : x.kind = 2) (hl : x.label = lab) (hf : ∀ (m : Nat) (y : S.Item), m < j → xs[m]? = some y → ¬ (y.kind = 2 ∧ y.label = lab)) : S.stands xs lab = j := by
  rcases stands_spec xs lab with ⟨h1, h2⟩ | ⟨i, y, h1, h2, h3, h4, h5⟩
  · exact absurd ⟨hk, hl⟩ (h2 j x hx)
  · have : i = j := by
      rcases Nat.lt_trichotomy i j with h | h | h
      · exact absurd ⟨h3, h4⟩ (hf i y h h2)
      · exact h
      · exact absurd ⟨hk, hl⟩ (h5 j x h hx)
    rw [h1, this]
theorem stands_none {xs : List S.Item} {lab : ByteArray} (hf : ∀ (m : Nat) (y : S.Item), xs[m]? = some y → ¬ (y.kind = 2 ∧ y.label = lab)) : S.stands xs lab = -1 := by
  rcases stands_spec xs lab with ⟨h1, h2⟩ | ⟨i, y, h1, h2, h3, h4, h5⟩
  · exact h1
  · exact absurd ⟨h3, h4⟩ (hf i y h2)
theorem addr_flat {xs : List S.Item} (h : S.flatK xs) (F : List Int) (base : Int) : ∀ i : Nat, i ≤ xs.length → S.addr xs F base i = base + S.countI (xs.take i)
  | 0, _ => by simp [S.addr, S.countI]
  | i + 1, hi => by
    have hx : xs[i]? = some xs[i] := List.getElem?_eq_getElem (by omega)
    have hk := h xs[i] (List.getElem_mem _)
    have hs : S.sizeAt xs F i = if xs[i].kind = 2 then 0 else 1 := by
      unfold S.sizeAt S.size
      rw [hx]
      grind
    rw [S.addr, addr_flat h F base i (by omega), countI_take hx, hs]
    omega
theorem addr_flat_all {xs : List S.Item} (h : S.flatK xs) (F : List Int) (base : Int) : S.addr xs F base xs.length ≤ base + xs.length := by
  rw [addr_flat h F base xs.length (Nat.le_refl _), List.take_length]
  have := countI_bd xs
  omega
theorem flat_res {xs : List S.Item} {base : Int} (h : S.flatK xs) (hb : 0 ≤ base) (hl : base + xs.length ≤ S.most26) (he : S.firstErr xs = 0) (hd : ¬ S.Dup xs) (hm : ¬ S.Miss xs) : S.FormsRes xs base 0 (xs.map S.startForm) := by
  have hinv := form_start xs base
  refine .inr (.inr ⟨.inr (.inr (.inr (.inr ⟨hb, by omega, he, hd, hm, rfl⟩))), rfl, hinv, ⟨hinv.1, fun i x hx => ?_⟩, ?_⟩)
  · have hk := h x (List.mem_of_getElem? hx)
    rw [S.fit, if_pos (.inl ⟨by omega, by omega⟩)]
  · have := addr_flat_all h (xs.map S.startForm) base
    omega
theorem firstErr_zero {xs : List S.Item} (h : ∀ x ∈ xs, S.chkItem x = 0) : S.firstErr xs = 0 := by
  induction xs with
  | nil => rfl
  | cons x r ih =>
    rw [S.firstErr, if_neg (by simp [h x (List.mem_cons_self ..)])]
    exact ih fun y hy => h y (List.mem_cons_of_mem _ hy)
theorem firstErr_append (xs ys : List S.Item) : S.firstErr (xs ++ ys) = if S.firstErr xs ≠ 0 then S.firstErr xs else S.firstErr ys := by
  induction xs with
  | nil => simp [S.firstErr]
  | cons x r ih =>
    rw [List.cons_append, S.firstErr, S.firstErr, ih]
    by_cases h : S.chkItem x ≠ 0
    · simp [h]
    · simp only [if_neg h]
theorem firstErr_own (n : ByteArray) (xs : List S.Item) : S.firstErr (xs.map (S.ownItem n)) = S.firstErr xs := by
  induction xs with
  | nil => rfl
  | cons x r ih =>
    have e : S.chkItem (S.ownItem n x) = S.chkItem x := rfl
    rw [List.map_cons, S.firstErr, S.firstErr, ih, e]
theorem plain_flat {xs : List S.Item} (h : S.plainK xs) : S.flatK xs := fun x hx => by have := h x hx; omega
theorem plain_dup {xs : List S.Item} (h : S.plainK xs) : ¬ S.Dup xs := by
  rintro ⟨i, x, hx, hk, _⟩
  have := h x (List.mem_of_getElem? hx)
  omega
theorem plain_miss {xs : List S.Item} (h : S.plainK xs) : ¬ S.Miss xs := by
  rintro ⟨i, x, hx, hn, _⟩
  have := h x (List.mem_of_getElem? hx)
  simp only [S.named, decide_eq_true_eq] at hn
  omega
/-- Plain items: the number that answers is the first error. -/
theorem plain_res {xs : List S.Item} {base r : Int} {F : List Int} (h : S.plainK xs) (hb : 0 ≤ base) (hl : base + xs.length ≤ S.most26) (hr : S.FormsRes xs base r F) : r = S.firstErr xs := by
  by_cases he : S.firstErr xs = 0
  · have := (formsRes_fun hr (flat_res (plain_flat h) hb hl he (plain_dup h) (plain_miss h))).1
    omega
  · exact (formsRes_fun hr (.inl ⟨he, .inr (.inl ⟨hb, by omega, he, rfl⟩), rfl⟩)).1
theorem plain_out {xs : List S.Item} (h : S.plainK xs) (F : List Int) (base : Int) : ∀ i : Nat, i ≤ xs.length → S.outTo xs F base i = (xs.take i).map S.word1
  | 0, _ => by simp [S.outTo]
  | i + 1, hi => by
    have hlt : i < xs.length := by omega
    have hx : xs[i]? = some xs[i] := List.getElem?_eq_getElem hlt
    have hk := h xs[i] (List.getElem_mem _)
    rw [S.outTo, plain_out h F base i (by omega), List.take_succ_eq_append_getElem hlt, List.map_append]
    congr 1
    unfold S.wordsAt
    rw [hx]
    simp only [S.wordsOf, S.word1, List.map_cons, List.map_nil]
    grind
theorem plain_out_all {xs : List S.Item} (h : S.plainK xs) (F : List Int) (base : Int) : S.outTo xs F base xs.length = xs.map S.word1 := by
  rw [plain_out h F base _ (Nat.le_refl _), List.take_length]
theorem plain_own {n : ByteArray} {xs : List S.Item} (h : S.plainK xs) : S.plainK (xs.map (S.ownItem n)) := by
  intro x hx
  obtain ⟨y, hy, rfl⟩ := List.mem_map.1 hx
  exact h y hy
theorem word1_own (n : ByteArray) (xs : List S.Item) : (xs.map (S.ownItem n)).map S.word1 = xs.map S.word1 := by
  rw [List.map_map]
  rfl
theorem plain_app {xs ys : List S.Item} (h : S.plainK xs) (k : S.plainK ys) : S.plainK (xs ++ ys) := by
  intro x hx
  rcases List.mem_append.1 hx with h1 | h1
  · exact h x h1
  · exact k x h1

def nA : ByteArray := ⟨#[97]⟩
def nB : ByteArray := ⟨#[98]⟩
/-- Two objects of plain items, put together: the number. -/
theorem moved_num {x y : List S.Item} (hx : S.plainK x) (hy : S.plainK y) (lx : x.length ≤ 60) (ly : y.length ≤ 60) {base : Int} (hb : 0 ≤ base) (hb' : base ≤ 65535) {e f g : Int} {F G : List Int} {L : List Int} {P : List (ByteArray × Int)} {m : Nat} (hm : m ≤ 60)
    (he : S.FormsRes x base e F) (hf : S.FormsRes y (base + m) f G) (hg : LinkRes [⟨nA, x⟩, ⟨nB, y⟩] base g L P) :
    (e = 0 → f = 0 → g = 0 ∧ L = x.map S.word1 ++ y.map S.word1) ∧ (¬ (e = 0 ∧ f = 0) → g ≠ 0) := by
  have hj : S.joined [⟨nA, x⟩, ⟨nB, y⟩] = x.map (S.ownItem nA) ++ y.map (S.ownItem nB) := by simp [S.joined, S.itemsOf]
  have h26 : S.most26 = 67108864 := rfl
  have e1 := plain_res hx hb (by omega) he
  have e2 := plain_res hy (by omega) (by omega) hf
  have hp := plain_app (plain_own (n := nA) hx) (plain_own (n := nB) hy)
  have hn : S.namesOf [⟨nA, x⟩, ⟨nB, y⟩] = 0 := by
    have b1 : S.badN ⟨nA, x⟩ = false := by simp [S.badN, nA, S.ownB]
    have b2 : S.badN ⟨nB, y⟩ = false := by simp [S.badN, nB, S.ownB]
    have b3 : (nB = nA) = False := by simp [nA, nB]
    simp [S.namesOf, S.dupB, b1, b2, b3]
  rcases hg with ⟨g1, g2, _⟩ | ⟨_, H, g2, g3, _⟩
  · exact absurd (namesRes_fun g2 (namesOf_res _)) (by rw [hn]; exact g1)
  · rw [hj] at g2 g3
    have e3 := plain_res hp hb (by simp; omega) g2
    rw [firstErr_append, firstErr_own, firstErr_own, ← e1, ← e2] at e3
    constructor
    · intro h1 h2
      subst h1 h2
      have h0 : g = 0 := by simpa using e3
      refine ⟨h0, ?_⟩
      rw [if_pos h0] at g3
      rw [g3, plain_out_all hp, List.map_append, word1_own, word1_own]
    · intro h
      by_cases h1 : e = 0
      · have h2 : f ≠ 0 := fun k => h ⟨h1, k⟩
        rw [e3, if_neg (by omega)]
        exact h2
      · rw [e3, if_pos h1]
        exact h1

/-! ### Labels of one's own -/
def inst0 : S.Inst := ⟨0, 0, 0, 0, 0⟩
def wordsN (n : Nat) : List S.Item := (List.range n).map fun k : Nat => ⟨6, inst0, ⟨#[]⟩, (k : Int)⟩
def labI (s : ByteArray) : S.Item := ⟨2, inst0, s, 0⟩
def refI (s : ByteArray) : S.Item := ⟨7, inst0, s, 0⟩
def ownX (s t : ByteArray) (n k : Nat) : List S.Item := wordsN n ++ labI s :: refI s :: (wordsN k ++ [labI t, refI t])

theorem wordsN_len (n : Nat) : (wordsN n).length = n := by simp [wordsN]
theorem wordsN_mem {n : Nat} {x : S.Item} (h : x ∈ wordsN n) : x.kind = 6 ∧ x.label = ⟨#[]⟩ ∧ S.chkItem x = 0 ∧ 0 ≤ x.word ∧ x.word ≤ n := by
  obtain ⟨k, hk, rfl⟩ := List.mem_map.1 h
  have := List.mem_range.1 hk
  refine ⟨rfl, rfl, rfl, ?_, ?_⟩
  · show (0 : Int) ≤ (k : Int); omega
  · show (k : Int) ≤ n; omega
theorem wordsN_count (n : Nat) : S.countI (wordsN n) = n := by
  have h : ∀ l : List S.Item, (∀ x ∈ l, x.kind = 6) → S.countI l = l.length := by
    intro l
    induction l with
    | nil => intro _; rfl
    | cons x r ih =>
      intro hl
      have h1 := hl x (List.mem_cons_self ..)
      rw [S.countI, ih fun y hy => hl y (List.mem_cons_of_mem _ hy), if_neg (by omega), List.length_cons]
      omega
  rw [h _ fun x hx => (wordsN_mem hx).1, wordsN_len]
theorem ownX_at {s t : ByteArray} {n k i : Nat} {x : S.Item} (h : (ownX s t n k)[i]? = some x) :
    x ∈ wordsN n ∨ x ∈ wordsN k ∨ (i = n ∧ x = labI s) ∨ (i = n + 1 ∧ x = refI s) ∨ (i = n + 2 + k ∧ x = labI t) ∨ (i = n + 3 + k ∧ x = refI t) := by
  unfold ownX at h
  by_cases h1 : i < n
  · rw [List.getElem?_append_left (by rw [wordsN_len]; exact h1)] at h
    exact .inl (List.mem_of_getElem? h)
  rw [List.getElem?_append_right (by rw [wordsN_len]; omega), wordsN_len] at h
  match hd : i - n, h with
  | 0, h => simp at h; exact .inr (.inr (.inl ⟨by omega, h.symm⟩))
  | 1, h => simp at h; exact .inr (.inr (.inr (.inl ⟨by omega, h.symm⟩)))
  | j + 2, h =>
    simp only [List.getElem?_cons_succ] at h
    by_cases h2 : j < k
    · rw [List.getElem?_append_left (by rw [wordsN_len]; exact h2)] at h
      exact .inr (.inl (List.mem_of_getElem? h))
    rw [List.getElem?_append_right (by rw [wordsN_len]; omega), wordsN_len] at h
    match he : j - k, h with
    | 0, h => simp at h; exact .inr (.inr (.inr (.inr (.inl ⟨by omega, h.symm⟩))))
    | 1, h => simp at h; exact .inr (.inr (.inr (.inr (.inr ⟨by omega, h.symm⟩))))
    | q + 2, h => simp at h
theorem ownX_0 (s t : ByteArray) (n k : Nat) : (ownX s t n k)[n]? = some (labI s) := by
  unfold ownX
  rw [List.getElem?_append_right (by rw [wordsN_len]; omega), wordsN_len, Nat.sub_self]
  rfl
theorem ownX_1 (s t : ByteArray) (n k : Nat) : (ownX s t n k)[n + 1]? = some (refI s) := by
  unfold ownX
  rw [List.getElem?_append_right (by rw [wordsN_len]; omega), wordsN_len, Nat.add_sub_cancel_left]
  rfl
theorem ownX_2 (s t : ByteArray) (n k : Nat) : (ownX s t n k)[n + 2 + k]? = some (labI t) := by
  unfold ownX
  rw [List.getElem?_append_right (by rw [wordsN_len]; omega), wordsN_len, show n + 2 + k - n = k + 1 + 1 by omega]
  simp only [List.getElem?_cons_succ]
  rw [List.getElem?_append_right (by rw [wordsN_len]; omega), wordsN_len, Nat.sub_self]
  rfl
theorem ownX_3 (s t : ByteArray) (n k : Nat) : (ownX s t n k)[n + 3 + k]? = some (refI t) := by
  unfold ownX
  rw [List.getElem?_append_right (by rw [wordsN_len]; omega), wordsN_len, show n + 3 + k - n = (k + 1) + 1 + 1 by omega]
  simp only [List.getElem?_cons_succ]
  rw [List.getElem?_append_right (by rw [wordsN_len]; omega), wordsN_len, Nat.add_sub_cancel_left]
  rfl
theorem ownX_len (s t : ByteArray) (n k : Nat) : (ownX s t n k).length = n + 4 + k := by
  simp [ownX, wordsN_len]; omega
theorem ownX_flat (s t : ByteArray) (n k : Nat) : S.flatK (ownX s t n k) := by
  intro x hx
  obtain ⟨i, hi, rfl⟩ := List.getElem_of_mem hx
  rcases ownX_at (List.getElem?_eq_getElem hi) with h | h | ⟨_, h⟩ | ⟨_, h⟩ | ⟨_, h⟩ | ⟨_, h⟩
  · have := (wordsN_mem h).1; omega
  · have := (wordsN_mem h).1; omega
  all_goals (rw [h]; simp [labI, refI])
theorem ownX_err (s t : ByteArray) (n k : Nat) : S.firstErr (ownX s t n k) = 0 := by
  refine firstErr_zero fun x hx => ?_
  obtain ⟨i, hi, rfl⟩ := List.getElem_of_mem hx
  rcases ownX_at (List.getElem?_eq_getElem hi) with h | h | ⟨_, h⟩ | ⟨_, h⟩ | ⟨_, h⟩ | ⟨_, h⟩
  · exact (wordsN_mem h).2.2.1
  · exact (wordsN_mem h).2.2.1
  all_goals (rw [h]; rfl)
theorem ownX_stands_s (s t : ByteArray) (n k : Nat) : S.stands (ownX s t n k) s = n := by
  refine stands_eq (ownX_0 s t n k) rfl rfl fun m y hm hy => ?_
  rintro ⟨h1, h2⟩
  rcases ownX_at hy with h | h | ⟨_, h⟩ | ⟨_, h⟩ | ⟨_, h⟩ | ⟨_, h⟩
  · have := (wordsN_mem h).1; omega
  · have := (wordsN_mem h).1; omega
  all_goals omega
theorem ownX_stands_t {s t : ByteArray} (hst : s ≠ t) (n k : Nat) : S.stands (ownX s t n k) t = (n + 2 + k : Nat) := by
  refine stands_eq (ownX_2 s t n k) rfl rfl fun m y hm hy => ?_
  rintro ⟨h1, h2⟩
  rcases ownX_at hy with h | h | ⟨_, h⟩ | ⟨_, h⟩ | ⟨_, h⟩ | ⟨_, h⟩
  · have := (wordsN_mem h).1; omega
  · have := (wordsN_mem h).1; omega
  · rw [h] at h2; exact hst h2
  · rw [h] at h1; simp [refI] at h1
  all_goals omega
theorem ownX_dup {s t : ByteArray} (hst : s ≠ t) (n k : Nat) : ¬ S.Dup (ownX s t n k) := by
  rintro ⟨i, x, hx, hk, hs⟩
  rcases ownX_at hx with h | h | ⟨hi, h⟩ | ⟨_, h⟩ | ⟨hi, h⟩ | ⟨_, h⟩
  · have := (wordsN_mem h).1; omega
  · have := (wordsN_mem h).1; omega
  · rw [h] at hs; exact hs (by rw [hi]; exact ownX_stands_s s t n k)
  · rw [h] at hk; simp [refI] at hk
  · rw [h] at hs; exact hs (by rw [hi]; exact ownX_stands_t hst n k)
  · rw [h] at hk; simp [refI] at hk
theorem ownX_miss {s t : ByteArray} (hst : s ≠ t) (n k : Nat) : ¬ S.Miss (ownX s t n k) := by
  rintro ⟨i, x, hx, hn, hs⟩
  rcases ownX_at hx with h | h | ⟨hi, h⟩ | ⟨_, h⟩ | ⟨hi, h⟩ | ⟨_, h⟩
  · have := (wordsN_mem h).1; simp [S.named, this] at hn
  · have := (wordsN_mem h).1; simp [S.named, this] at hn
  · rw [h] at hn; simp [S.named, labI] at hn
  · rw [h] at hs
    have := ownX_stands_s s t n k
    have e : (refI s).label = s := rfl
    rw [e] at hs
    omega
  · rw [h] at hn; simp [S.named, labI] at hn
  · rw [h] at hs
    have := ownX_stands_t hst n k
    have e : (refI t).label = t := rfl
    rw [e] at hs
    omega
theorem ownX_res {s t : ByteArray} (hst : s ≠ t) {n k : Nat} (hn : n ≤ 30) (hk : k ≤ 30) : S.FormsRes (ownX s t n k) 0 0 ((ownX s t n k).map S.startForm) := by
  refine flat_res (ownX_flat s t n k) (Int.le_refl _) ?_ (ownX_err s t n k) (ownX_dup hst n k) (ownX_miss hst n k)
  have h26 : S.most26 = 67108864 := rfl
  rw [ownX_len]
  omega
theorem take_n (s t : ByteArray) (n k : Nat) : (ownX s t n k).take n = wordsN n := by
  unfold ownX
  rw [List.take_append_of_le_length (by rw [wordsN_len]; omega), List.take_of_length_le (by rw [wordsN_len]; omega)]
theorem ownX_c0 (s t : ByteArray) (n k : Nat) : S.countI ((ownX s t n k).take n) = n := by rw [take_n, wordsN_count]
theorem ownX_c1 (s t : ByteArray) (n k : Nat) : S.countI ((ownX s t n k).take (n + 1)) = n := by
  rw [countI_take (ownX_0 s t n k), ownX_c0]
  simp [labI]
theorem ownX_c2 (s t : ByteArray) (n k : Nat) : S.countI ((ownX s t n k).take (n + 2 + k)) = n + 1 + k := by
  have e : ownX s t n k = (wordsN n ++ labI s :: refI s :: wordsN k) ++ [labI t, refI t] := by simp [ownX]
  have l : (wordsN n ++ labI s :: refI s :: wordsN k).length = n + 2 + k := by simp [wordsN_len]; omega
  rw [e, List.take_append_of_le_length (by rw [l]; exact Nat.le_refl _), List.take_of_length_le (by rw [l]; exact Nat.le_refl _), countI_append, wordsN_count]
  simp only [S.countI, wordsN_count, labI, refI]
  simp
  omega
theorem ownX_c3 (s t : ByteArray) (n k : Nat) : S.countI ((ownX s t n k).take (n + 3 + k)) = n + 1 + k := by
  have h := countI_take (ownX_2 s t n k)
  rw [ownX_c2] at h
  rw [show n + 3 + k = n + 2 + k + 1 by omega, h]
  simp [labI]
theorem ownX_c4 (s t : ByteArray) (n k : Nat) : S.countI (ownX s t n k) = n + k + 2 := by
  have h := countI_take (ownX_3 s t n k)
  rw [ownX_c3, show n + 3 + k + 1 = (ownX s t n k).length by rw [ownX_len]; omega, List.take_length] at h
  rw [h]
  simp [refI]
  omega
theorem outTo_split (xs : List S.Item) (F : List Int) (base : Int) (i : Nat) : ∀ n : Nat, i < n → ∃ R, S.outTo xs F base n = S.outTo xs F base i ++ (S.wordsAt xs F base i ++ R)
  | 0, h => by omega
  | n + 1, h => by
    rw [S.outTo]
    by_cases hi : i < n
    · obtain ⟨R, hR⟩ := outTo_split xs F base i n hi
      exact ⟨R ++ S.wordsAt xs F base n, by rw [hR]; simp⟩
    · have : i = n := by omega
      subst this
      exact ⟨[], by simp⟩
theorem outTo_at {xs : List S.Item} {F : List Int} {base : Int} {i j n : Nat} {v : Int} (hi : i < n) (hl : (S.outTo xs F base i).length = j) (hw : S.wordsAt xs F base i = [v]) : (S.outTo xs F base n)[j]? = some v := by
  obtain ⟨R, hR⟩ := outTo_split xs F base i n hi
  rw [hR, hw, List.getElem?_append_right (by omega), hl, Nat.sub_self]
  rfl
theorem flat_outlen {xs : List S.Item} {base : Int} {F : List Int} (h : S.flatK xs) (hF : S.FormOk xs F) (hw : ∀ x ∈ xs, 0 ≤ x.word ∧ x.word ≤ 4294967295) {i : Nat} (hi : i ≤ xs.length) : ((S.outTo xs F base i).length : Int) = S.countI (xs.take i) := by
  rw [outTo_length hF (fun x hx => by have := h x hx; omega) hw, addr_flat h F base i hi]
  omega
theorem ownX_words (s t : ByteArray) {n k : Nat} (hn : n ≤ 30) (hk : k ≤ 30) : ∀ x ∈ ownX s t n k, 0 ≤ x.word ∧ x.word ≤ 4294967295 := by
  intro x hx
  obtain ⟨i, hi, rfl⟩ := List.getElem_of_mem hx
  rcases ownX_at (List.getElem?_eq_getElem hi) with h | h | ⟨_, h⟩ | ⟨_, h⟩ | ⟨_, h⟩ | ⟨_, h⟩
  · have := (wordsN_mem h).2.2.2; omega
  · have := (wordsN_mem h).2.2.2; omega
  all_goals (rw [h]; simp [labI, refI])
/-- The words and places of two objects, each with a label of its own. -/
theorem ownX_out {s t : ByteArray} (hst : s ≠ t) {n k : Nat} (hn : n ≤ 30) (hk : k ≤ 30) {F : List Int} (hres : S.FormsRes (ownX s t n k) 0 0 F) :
    ((S.outTo (ownX s t n k) F 0 (ownX s t n k).length).length : Int) = n + k + 2 ∧ (S.outTo (ownX s t n k) F 0 (ownX s t n k).length)[n]? = some (4 * (n : Int)) ∧ (S.outTo (ownX s t n k) F 0 (ownX s t n k).length)[n + 1 + k]? = some (4 * (n + 1 + k : Int)) ∧
      S.findP (S.placesTo (ownX s t n k) F 0 (ownX s t n k).length) s = some (n : Int) ∧ S.findP (S.placesTo (ownX s t n k) F 0 (ownX s t n k).length) t = some (n + 1 + k : Int) := by
  have hF : S.FormOk (ownX s t n k) F := by
    rcases hres with ⟨h, _⟩ | ⟨_, h, _⟩ | ⟨_, _, h3, _⟩
    · exact absurd rfl h
    · omega
    · exact h3.1
  have hfl := ownX_flat s t n k
  have hw := ownX_words s t hn hk
  have hlen := ownX_len s t n k
  have hst0 := ownX_stands_s s t n k
  have hst1 := ownX_stands_t hst n k
  have a0 : S.addr (ownX s t n k) F 0 n = n := by rw [addr_flat hfl F 0 n (by omega), ownX_c0]; omega
  have a2 : S.addr (ownX s t n k) F 0 (n + 2 + k) = n + 1 + k := by rw [addr_flat hfl F 0 _ (by omega), ownX_c2]; omega
  have fp : ∀ (P : List (ByteArray × Int)) (u : ByteArray) (v : Int), (∀ (q : Nat) (v' : Int), P[q]? = some (u, v') → v' = v) → (∃ q : Nat, P[q]? = some (u, v)) → S.findP P u = some v := by
    intro P u v
    induction P with
    | nil => rintro _ ⟨q, h⟩; simp at h
    | cons p r ih =>
      intro h1 h2
      rw [S.findP]
      by_cases hp : p.1 = u
      · rw [if_pos hp, h1 0 p.2 (by simp [← hp])]
      · rw [if_neg hp]
        refine ih (fun q v' hq => h1 (q + 1) v' (by simpa using hq)) ?_
        obtain ⟨q, hq⟩ := h2
        cases q with
        | zero => simp at hq; exact absurd (by rw [hq]) hp
        | succ q => exact ⟨q, by simpa using hq⟩
  refine ⟨?_, ?_, ?_, ?_, ?_⟩
  · rw [flat_outlen hfl hF hw (Nat.le_refl _), List.take_length, ownX_c4]
  · refine outTo_at (i := n + 1) (by omega) ?_ ?_
    · have := flat_outlen (base := 0) hfl hF hw (i := n + 1) (by omega)
      rw [ownX_c1] at this
      omega
    · unfold S.wordsAt
      rw [ownX_1]
      have e : S.toOf (ownX s t n k) F 0 (refI s) = n := by
        unfold S.toOf
        rw [if_pos (by simp [S.named, refI]), show (refI s).label = s from rfl, hst0, Int.toNat_natCast, a0]
      simp only [e]
      simp [S.wordsOf, refI]
      omega
  · refine outTo_at (i := n + 3 + k) (by omega) ?_ ?_
    · have := flat_outlen (base := 0) hfl hF hw (i := n + 3 + k) (by omega)
      rw [ownX_c3] at this
      omega
    · unfold S.wordsAt
      rw [ownX_3]
      have e : S.toOf (ownX s t n k) F 0 (refI t) = n + 1 + k := by
        unfold S.toOf
        rw [if_pos (by simp [S.named, refI]), show (refI t).label = t from rfl, hst1, Int.toNat_natCast, a2]
      simp only [e]
      simp [S.wordsOf, refI]
      omega
  · refine fp _ _ _ (fun q v' hq => ?_) ?_
    · obtain ⟨j, h1, h2, _⟩ := places_spec (ownX_dup hst n k) _ _ _ _ hq
      rw [hst0] at h1
      have : j = n := by omega
      rw [h2, this, a0]
    · obtain ⟨q, hq⟩ := places_has (F := F) (base := 0) hst0 (ownX s t n k).length (by omega)
      exact ⟨q, by rw [hq, a0]⟩
  · refine fp _ _ _ (fun q v' hq => ?_) ?_
    · obtain ⟨j, h1, h2, _⟩ := places_spec (ownX_dup hst n k) _ _ _ _ hq
      rw [hst1] at h1
      have : j = n + 2 + k := by omega
      rw [h2, this, a2]
    · obtain ⟨q, hq⟩ := places_has (F := F) (base := 0) hst1 (ownX s t n k).length (by omega)
      exact ⟨q, by rw [hq, a2]⟩

end Go.Proofs.Ytbgdomnalimjnaa
