/- Qb, Qc: joined.  The interpreter's frame and the machine's: what one operation makes of both. -/
import Derived.Test.YtlldagdhlfpihaaGreatDoorZQa
section
set_option linter.unusedVariables false
set_option linter.unusedSimpArgs false
set_option linter.unusedSectionVars false
namespace Go.Proofs.YtlldagdhlfpihaaGreatDoor
open Go.RowKit

/-- How many first cells of a block stay; none: the block is no row. -/
abbrev Rowed := Nat → Option Nat
mutual
/-- A value is a tree's. -/
def RepV (H : Rowed) (w : World) : S.AV → Value → Prop
  | .int k n, v => v = .int k n
  | .bool b, v => v = .bool b
  | .str s, v => v = .string s
  | .fn f, v => v = .func (.func f) #[] #[]
  | .row n cs, v => ∃ A c, v = .slice A n c ∧ (n = 0 → cs = []) ∧ (A = none → n = 0) ∧ (cs = [] ∨ ∃ b o h, A = some ⟨b, o, none⟩ ∧ H b = some h ∧ o + cs.length ≤ h ∧ RepC H w cs b o)
  | .agg cs, v => ∃ vs : List Value, v = .agg vs.toArray ∧ RepL H w cs vs
  | .tup xs, v => ∃ vs : List Value, v = .tuple vs.toArray ∧ RepT H w xs vs
  | .box _ _, _ => False
  | .ptr cs off, v => ∃ b o h, v = .pointer (some ⟨b, o + off, none⟩) ∧ H b = some h ∧ o + cs.length ≤ h ∧ RepC H w cs b o
  | .any, _ => True
/-- Values that lie in cells. -/
def RepL (H : Rowed) (w : World) : List S.AV → List Value → Prop
  | [], vs => vs = []
  | x :: r, vs => ∃ v rs, vs = v :: rs ∧ x.cell = true ∧ RepV H w x v ∧ RepL H w r rs
def RepT (H : Rowed) (w : World) : List S.AV → List Value → Prop
  | [], vs => vs = []
  | x :: r, vs => ∃ v rs, vs = v :: rs ∧ RepV H w x v ∧ RepT H w r rs
/-- Cells of a block from an offset on. -/
def RepC (H : Rowed) (w : World) : List S.AV → Nat → Nat → Prop
  | [], _, _ => True
  | x :: r, b, o => x.cell = true ∧ (∃ v, w.cell? ⟨b, o, none⟩ = some v ∧ RepV H w x v) ∧ RepC H w r b (o + 1)
end

/-- Rows stay, and may grow. -/
def Stay (H : Rowed) (w : World) (H' : Rowed) (w' : World) : Prop := ∀ b h, H b = some h → ∃ h', H' b = some h' ∧ h ≤ h' ∧ ∀ o, o < h → w'.cell? ⟨b, o, none⟩ = w.cell? ⟨b, o, none⟩
theorem Stay.refl (H : Rowed) (w : World) : Stay H w H w := fun b h e => ⟨h, e, Nat.le_refl _, fun _ _ => rfl⟩
theorem Stay.trans {H H' H2 : Rowed} {w w' w2 : World} (h : Stay H w H' w') (k : Stay H' w' H2 w2) : Stay H w H2 w2 := fun b n e => by
  obtain ⟨n', e', hn, hc⟩ := h b n e
  obtain ⟨n2, e2, hn2, hc2⟩ := k b n' e'
  exact ⟨n2, e2, Nat.le_trans hn hn2, fun o ho => (hc2 o (by omega)).trans (hc o ho)⟩

mutual
theorem RepV.stay {H H' : Rowed} {w w' : World} (hs : Stay H w H' w') : ∀ (x : S.AV) (v : Value), RepV H w x v → RepV H' w' x v
  | .int _ _, v, h | .bool _, v, h | .str _, v, h | .fn _, v, h => by
    rw [RepV] at h ⊢
    exact h
  | .row n cs, v, h => by
    rw [RepV] at h ⊢
    obtain ⟨A, c, e, h0, h1, h2⟩ := h
    refine ⟨A, c, e, h0, h1, ?_⟩
    rcases h2 with h2 | ⟨b, o, k, hA, hb, hl, hc⟩
    · exact .inl h2
    · obtain ⟨k', hb', hk, hcell⟩ := hs b k hb
      exact .inr ⟨b, o, k', hA, hb', by omega, RepC.stay hs cs b o k hl hcell hc⟩
  | .agg cs, v, h => by
    rw [RepV] at h ⊢
    obtain ⟨vs, e, h⟩ := h
    exact ⟨vs, e, RepL.stay hs cs vs h⟩
  | .tup xs, v, h => by
    rw [RepV] at h ⊢
    obtain ⟨vs, e, h⟩ := h
    exact ⟨vs, e, RepT.stay hs xs vs h⟩
  | .box _ _, v, h => by
    rw [RepV] at h
    exact h.elim
  | .ptr cs off, v, h => by
    rw [RepV] at h ⊢
    obtain ⟨b, o, k, e, hb, hl, hc⟩ := h
    obtain ⟨k', hb', hk, hcell⟩ := hs b k hb
    exact ⟨b, o, k', e, hb', by omega, RepC.stay hs cs b o k hl hcell hc⟩
  | .any, v, h => by
    rw [RepV]
    trivial
theorem RepL.stay {H H' : Rowed} {w w' : World} (hs : Stay H w H' w') : ∀ (xs : List S.AV) (vs : List Value), RepL H w xs vs → RepL H' w' xs vs
  | [], vs, h => by
    rw [RepL] at h ⊢
    exact h
  | x :: r, vs, h => by
    rw [RepL] at h ⊢
    obtain ⟨v, rs, e, hc, h1, h2⟩ := h
    exact ⟨v, rs, e, hc, RepV.stay hs x v h1, RepL.stay hs r rs h2⟩
theorem RepT.stay {H H' : Rowed} {w w' : World} (hs : Stay H w H' w') : ∀ (xs : List S.AV) (vs : List Value), RepT H w xs vs → RepT H' w' xs vs
  | [], vs, h => by
    rw [RepT] at h ⊢
    exact h
  | x :: r, vs, h => by
    rw [RepT] at h ⊢
    obtain ⟨v, rs, e, h1, h2⟩ := h
    exact ⟨v, rs, e, RepV.stay hs x v h1, RepT.stay hs r rs h2⟩
theorem RepC.stay {H H' : Rowed} {w w' : World} (hs : Stay H w H' w') : ∀ (xs : List S.AV) (b o k : Nat), o + xs.length ≤ k → (∀ o, o < k → w'.cell? ⟨b, o, none⟩ = w.cell? ⟨b, o, none⟩) → RepC H w xs b o → RepC H' w' xs b o
  | [], b, o, k, _, _, h => by
    rw [RepC]
    trivial
  | x :: r, b, o, k, hk, hcell, h => by
    rw [RepC] at h ⊢
    obtain ⟨hc, ⟨v, hv, h1⟩, h2⟩ := h
    rw [List.length_cons] at hk
    exact ⟨hc, ⟨v, by rw [hcell o (by omega)]; exact hv, RepV.stay hs x v h1⟩, RepC.stay hs r b (o + 1) k (by omega) hcell h2⟩
end

theorem RepL.length {H : Rowed} {w : World} : ∀ {xs : List S.AV} {vs : List Value}, RepL H w xs vs → vs.length = xs.length
  | [], vs, h => by rw [RepL] at h; subst h; rfl
  | x :: r, vs, h => by
    rw [RepL] at h
    obtain ⟨v, rs, rfl, _, _, h2⟩ := h
    rw [List.length_cons, List.length_cons, RepL.length h2]
theorem RepL.append {H : Rowed} {w : World} : ∀ {xs ys : List S.AV} {vs us : List Value}, RepL H w xs vs → RepL H w ys us → RepL H w (xs ++ ys) (vs ++ us)
  | [], ys, vs, us, h, k => by rw [RepL] at h; subst h; exact k
  | x :: r, ys, vs, us, h, k => by
    rw [RepL] at h
    obtain ⟨v, rs, rfl, hc, h1, h2⟩ := h
    rw [List.cons_append, List.cons_append, RepL]
    exact ⟨v, rs ++ us, rfl, hc, h1, RepL.append h2 k⟩
theorem RepL.take {H : Rowed} {w : World} : ∀ {xs : List S.AV} {vs : List Value} (n : Nat), RepL H w xs vs → RepL H w (xs.take n) (vs.take n)
  | xs, vs, 0, h => by rw [List.take_zero, List.take_zero, RepL]
  | [], vs, n + 1, h => by rw [RepL] at h; subst h; rw [List.take_nil, RepL, List.take_nil]
  | x :: r, vs, n + 1, h => by
    rw [RepL] at h
    obtain ⟨v, rs, rfl, hc, h1, h2⟩ := h
    rw [List.take_succ_cons, List.take_succ_cons, RepL]
    exact ⟨v, _, rfl, hc, h1, RepL.take n h2⟩
theorem RepL.drop {H : Rowed} {w : World} : ∀ {xs : List S.AV} {vs : List Value} (n : Nat), RepL H w xs vs → RepL H w (xs.drop n) (vs.drop n)
  | xs, vs, 0, h => h
  | [], vs, n + 1, h => by rw [RepL] at h; subst h; rw [List.drop_nil, RepL, List.drop_nil]
  | x :: r, vs, n + 1, h => by
    rw [RepL] at h
    obtain ⟨v, rs, rfl, hc, h1, h2⟩ := h
    exact RepL.drop n h2
theorem RepL.at_ {H : Rowed} {w : World} : ∀ {xs : List S.AV} {vs : List Value} {i : Nat} {x : S.AV}, RepL H w xs vs → xs[i]? = some x → ∃ v, vs[i]? = some v ∧ x.cell = true ∧ RepV H w x v
  | [], vs, i, x, h, hi => by simp at hi
  | y :: r, vs, 0, x, h, hi => by
    rw [RepL] at h
    obtain ⟨v, rs, rfl, hc, h1, h2⟩ := h
    simp at hi
    subst hi
    exact ⟨v, rfl, hc, h1⟩
  | y :: r, vs, i + 1, x, h, hi => by
    rw [RepL] at h
    obtain ⟨v, rs, rfl, hc, h1, h2⟩ := h
    obtain ⟨u, hu, h3⟩ := RepL.at_ h2 (by simpa using hi)
    exact ⟨u, by simpa using hu, h3⟩
theorem RepT.at_ {H : Rowed} {w : World} : ∀ {xs : List S.AV} {vs : List Value} {i : Nat} {x : S.AV}, RepT H w xs vs → xs[i]? = some x → ∃ v, vs[i]? = some v ∧ RepV H w x v
  | [], vs, i, x, h, hi => by simp at hi
  | y :: r, vs, 0, x, h, hi => by
    rw [RepT] at h
    obtain ⟨v, rs, rfl, h1, h2⟩ := h
    simp at hi
    subst hi
    exact ⟨v, rfl, h1⟩
  | y :: r, vs, i + 1, x, h, hi => by
    rw [RepT] at h
    obtain ⟨v, rs, rfl, h1, h2⟩ := h
    obtain ⟨u, hu, h3⟩ := RepT.at_ h2 (by simpa using hi)
    exact ⟨u, by simpa using hu, h3⟩
theorem RepT.length {H : Rowed} {w : World} : ∀ {xs : List S.AV} {vs : List Value}, RepT H w xs vs → vs.length = xs.length
  | [], vs, h => by rw [RepT] at h; subst h; rfl
  | x :: r, vs, h => by
    rw [RepT] at h
    obtain ⟨v, rs, rfl, _, h2⟩ := h
    rw [List.length_cons, List.length_cons, RepT.length h2]
/-- What lies in one cell is no struct. -/
theorem rep_one {H : Rowed} {w : World} {x : S.AV} {v : Value} (hc : x.cell = true) (h : RepV H w x v) : v.oneCell' = true ∧ v.cells = #[v] := by
  cases x <;> simp [S.AV.cell] at hc
  case int => rw [RepV] at h; subst h; exact ⟨rfl, rfl⟩
  case bool => rw [RepV] at h; subst h; exact ⟨rfl, rfl⟩
  case str => rw [RepV] at h; subst h; exact ⟨rfl, rfl⟩
  case fn => rw [RepV] at h; subst h; exact ⟨rfl, rfl⟩
  case row =>
    rw [RepV] at h
    obtain ⟨A, c, rfl, _⟩ := h
    exact ⟨rfl, rfl⟩
theorem RepL.one {H : Rowed} {w : World} : ∀ {xs : List S.AV} {vs : List Value}, RepL H w xs vs → ∀ v ∈ vs, v.oneCell' = true
  | [], vs, h, v, hv => by rw [RepL] at h; subst h; cases hv
  | x :: r, vs, h, v, hv => by
    rw [RepL] at h
    obtain ⟨u, rs, rfl, hc, h1, h2⟩ := h
    rcases List.mem_cons.1 hv with rfl | hv
    · exact (rep_one hc h1).1
    · exact RepL.one h2 v hv
/-- A value's cells. -/
theorem rep_cells {H : Rowed} {w : World} {x : S.AV} {v : Value} {cs : List S.AV} (h : RepV H w x v) (hc : x.cells = some cs) : ∃ vs, v.cells = vs.toArray ∧ RepL H w cs vs := by
  have one : x.cell = true → some [x] = some cs → ∃ vs, v.cells = vs.toArray ∧ RepL H w cs vs := fun h1 h2 => by
    cases h2
    refine ⟨[v], by rw [(rep_one h1 h).2], ?_⟩
    rw [RepL]
    exact ⟨v, [], rfl, h1, h, by rw [RepL]⟩
  cases x <;> simp only [S.AV.cells] at hc
  case int => exact one rfl hc
  case bool => exact one rfl hc
  case str => exact one rfl hc
  case fn => exact one rfl hc
  case row => exact one rfl hc
  case agg cs' =>
    cases hc
    rw [RepV] at h
    obtain ⟨vs, rfl, h⟩ := h
    exact ⟨vs, rfl, h⟩
  all_goals cases hc
/-- The cells of a row, as values. -/
theorem repC_list {H : Rowed} {w : World} : ∀ {xs : List S.AV} {b o : Nat}, RepC H w xs b o → ∃ vs, RepL H w xs vs ∧ w.rangeAt b o vs
  | [], b, o, _ => ⟨[], by rw [RepL], fun j v h => by simp at h⟩
  | x :: r, b, o, h => by
    rw [RepC] at h
    obtain ⟨hc, ⟨v, hv, h1⟩, h2⟩ := h
    obtain ⟨vs, h3, h4⟩ := repC_list h2
    refine ⟨v :: vs, by rw [RepL]; exact ⟨v, vs, rfl, hc, h1, h3⟩, fun j u hj => ?_⟩
    cases j with
    | zero => simp at hj; subst hj; exact hv
    | succ j => rw [show o + (j + 1) = o + 1 + j by omega]; exact h4 j u (by simpa using hj)
theorem repC_of {H : Rowed} {w : World} : ∀ {xs : List S.AV} {vs : List Value} {b o : Nat}, RepL H w xs vs → w.rangeAt b o vs → RepC H w xs b o
  | [], vs, b, o, _, _ => by rw [RepC]; trivial
  | x :: r, vs, b, o, h, hr => by
    rw [RepL] at h
    obtain ⟨v, rs, rfl, hc, h1, h2⟩ := h
    rw [RepC]
    refine ⟨hc, ⟨v, hr 0 v rfl, h1⟩, repC_of h2 fun j u hj => ?_⟩
    rw [show o + 1 + j = o + (j + 1) by omega]
    exact hr (j + 1) u (by simpa using hj)

end Go.Proofs.YtlldagdhlfpihaaGreatDoor
end

section
set_option linter.unusedVariables false
set_option linter.unusedSimpArgs false
set_option linter.unusedSectionVars false
namespace Go.Proofs.YtlldagdhlfpihaaGreatDoor
open Go.RowKit

/-- A slice that may grow in place: nil, or the only one of its block that does. -/
def TailOk (H : Rowed) (w : World) (B : Nat) (y : TypeId × Nat) (x : S.AV) (v : Value) : Prop := ∃ n cs, x = .row n cs ∧
  ((v = .slice none 0 0 ∧ n = 0) ∨ ∃ g cap cur, v = .slice (some ⟨g, 0, none⟩) n cap ∧ B ≤ g ∧ H g = some cs.length ∧ w.heap[g]? = some (.cells cur y.1 (0, 0)) ∧ n ≤ cap ∧ cap ≤ maxLen ∧ cur.size = cap * y.2 ∧ cs.length = n * y.2 ∧ 0 < y.2)
/-- What a slot holds. -/
def RepS (H : Rowed) (w : World) (φ : Nat → Nat) (s : S.St) (x : S.AV) (v : Value) : Prop := (∃ i off, x = .box i off ∧ (s.hp i).isSome = true ∧ v = .pointer (some ⟨φ i, off, none⟩)) ∨ RepV H w x v

structure Gam (B N : Nat) (w0 : World) (H0 : Rowed) (s : S.St) (a : Act) (w : World) (H : Rowed) (φ : Nat → Nat) : Prop where
  bel : Below B w0 w
  base : B ≤ w.heap.size
  old : ∀ b, b < B → H b = H0 b
  bnd : ∀ b h, H b = some h → b < w.heap.size
  size : a.tmps.size = N
  defs : a.defers = []
  slot : ∀ t x, s.sl t = some x → RepS H w φ s x (a.tmps.getD t undef)
  ent : ∀ i e cs, s.hp i = some (e, cs) → B ≤ φ i ∧ H (φ i) = none ∧ ∃ vs : List Value, w.heap[φ i]? = some (.cells vs.toArray e (0, 0)) ∧ RepL H w cs vs
  inj : ∀ i j, (s.hp i).isSome = true → (s.hp j).isSome = true → φ i = φ j → i = j
  tail : ∀ t y, s.tl t = some y → ∃ x, s.sl t = some x ∧ TailOk H w B y x (a.tmps.getD t undef)
  tinj : ∀ t t', t ≠ t' → (s.tl t).isSome = true → (s.tl t').isSome = true → ∀ g, (a.tmps.getD t undef).ownBlock = some g → (a.tmps.getD t' undef).ownBlock = some g → False

theorem TailOk.own {H : Rowed} {w : World} {B : Nat} {y : TypeId × Nat} {x : S.AV} {v : Value} (h : TailOk H w B y x v) {g : Nat} (hg : v.ownBlock = some g) : (∃ n, H g = some n) ∧ B ≤ g := by
  obtain ⟨n, cs, rfl, ⟨rfl, _⟩ | ⟨g', cap, cur, rfl, hb, hH, _⟩⟩ := h
  · simp [Value.ownBlock] at hg
  · simp [Value.ownBlock] at hg
    subst hg
    exact ⟨⟨_, hH⟩, hb⟩
theorem TailOk.keep {H H' : Rowed} {w w' : World} {B : Nat} {y : TypeId × Nat} {x : S.AV} {v : Value} (h : TailOk H w B y x v) (hk : ∀ g, v.ownBlock = some g → w'.heap[g]? = w.heap[g]? ∧ H' g = H g) : TailOk H' w' B y x v := by
  obtain ⟨n, cs, rfl, ⟨rfl, h0⟩ | ⟨g, cap, cur, rfl, hb, hH, hg, h1⟩⟩ := h
  · exact ⟨n, cs, rfl, .inl ⟨rfl, h0⟩⟩
  · obtain ⟨k1, k2⟩ := hk g rfl
    exact ⟨n, cs, rfl, .inr ⟨g, cap, cur, rfl, hb, k2.trans hH, k1.trans hg, h1⟩⟩

theorem put_slot {a : Act} {d t : Nat} {v : Value} (hd : d < a.tmps.size) : (a.put (some d) v).tmps.getD t undef = if t = d then v else a.tmps.getD t undef := by
  by_cases h : t = d
  · subst h
    rw [if_pos rfl]
    simp [Act.put, hd]
  · rw [if_neg h]
    simp [Act.put, Array.getElem?_setIfInBounds_ne (Ne.symm h)]

/-- One operation: what must hold of the world and the frame behind it. -/
theorem Gam.next {B N : Nat} {w0 : World} {H0 : Rowed} {s : S.St} {a : Act} {w : World} {H : Rowed} {φ : Nat → Nat} (h : Gam B N w0 H0 s a w H φ)
    {e : S.Eff} {w' : World} {H' : Rowed} {φ' : Nat → Nat} {dst : Option Tmp} {v : Value}
    (hdst : (dst = none ∧ e.dst = none) ∨ ∃ d x y, dst = some d ∧ e.dst = some (d, x, y) ∧ d < N ∧ RepS H' w' φ' (e.apply s) x v ∧ ∀ z, y = some z → TailOk H' w' B z x v ∧
      ∀ t g, t ≠ d → e.drop ≠ some t → (s.tl t).isSome = true → (a.tmps.getD t undef).ownBlock = some g → v.ownBlock ≠ some g)
    (hbel : Below B w w') (hstay : Stay H w H' w') (hold : ∀ b, b < B → H' b = H b) (hbnd : ∀ b n, H' b = some n → b < w'.heap.size)
    (hφ : ∀ i, (s.hp i).isSome = true → φ' i = φ i)
    (hent : ∀ i t cs, (e.apply s).hp i = some (t, cs) → B ≤ φ' i ∧ H' (φ' i) = none ∧ ∃ vs : List Value, w'.heap[φ' i]? = some (.cells vs.toArray t (0, 0)) ∧ RepL H' w' cs vs)
    (hinj : ∀ i j, ((e.apply s).hp i).isSome = true → ((e.apply s).hp j).isSome = true → φ' i = φ' j → i = j)
    (htl : ∀ t g, (∀ d x y, e.dst = some (d, x, y) → t ≠ d) → e.drop ≠ some t → (s.tl t).isSome = true → (a.tmps.getD t undef).ownBlock = some g → w'.heap[g]? = w.heap[g]? ∧ H' g = H g) :
    Gam B N w0 H0 (e.apply s) (a.put dst v) w' H' φ' := by
  have hkeep : ∀ i, (s.hp i).isSome = true → ((e.apply s).hp i).isSome = true := fun i hi => by
    unfold S.Eff.apply
    simp only
    split
    · split
      · rfl
      · exact hi
    · exact hi
  have holdS : ∀ x u, RepS H w φ s x u → RepS H' w' φ' (e.apply s) x u := fun x u hx => by
    rcases hx with ⟨i, off, rfl, hi, rfl⟩ | hx
    · exact .inl ⟨i, off, rfl, hkeep i hi, by rw [hφ i hi]⟩
    · exact .inr (RepV.stay hstay x u hx)
  rcases hdst with ⟨rfl, hn⟩ | ⟨d, x, y, rfl, hd, hdN, hx, hy⟩
  · have hsl : (e.apply s).sl = s.sl := by unfold S.Eff.apply; rw [hn]
    have hapt : (a.put none v) = a := rfl
    rw [hapt]
    have htlq : ∀ t z, (e.apply s).tl t = some z → s.tl t = some z ∧ e.drop ≠ some t := fun t z hz => by
      unfold S.Eff.apply at hz
      rw [hn] at hz
      simp only at hz
      split at hz
      · cases hz
      · rename_i hq; exact ⟨hz, hq⟩
    refine ⟨h.bel.trans hbel, Nat.le_trans h.base hbel.size, fun b hb => (hold b hb).trans (h.old b hb), hbnd, h.size, h.defs, fun t u ht => holdS u _ (h.slot t u (by rw [← hsl]; exact ht)), hent, hinj, fun t z hz => ?_, fun t t' hne ht ht' => ?_⟩
    · obtain ⟨hz1, hz2⟩ := htlq t z hz
      obtain ⟨u, hu, hok⟩ := h.tail t z hz1
      refine ⟨u, by rw [hsl]; exact hu, hok.keep fun g hg => htl t g (fun d x y hd => by rw [hn] at hd; cases hd) hz2 (by rw [hz1]; rfl) hg⟩
    · obtain ⟨z, hz⟩ := Option.isSome_iff_exists.1 ht
      obtain ⟨z', hz'⟩ := Option.isSome_iff_exists.1 ht'
      exact h.tinj t t' hne (by rw [(htlq t z hz).1]; rfl) (by rw [(htlq t' z' hz').1]; rfl)
  · have hds : d < a.tmps.size := by rw [h.size]; exact hdN
    have hput : ∀ t, (a.put (some d) v).tmps.getD t undef = if t = d then v else a.tmps.getD t undef := fun t => put_slot hds
    have hsl : ∀ t, (e.apply s).sl t = if t = d then some x else s.sl t := fun t => by unfold S.Eff.apply; rw [hd]
    have htlq : ∀ t, t ≠ d → ∀ z, (e.apply s).tl t = some z → s.tl t = some z ∧ e.drop ≠ some t := fun t hne z hz => by
      unfold S.Eff.apply at hz
      rw [hd] at hz
      simp only [if_neg hne] at hz
      split at hz
      · cases hz
      · rename_i hq; exact ⟨hz, hq⟩
    have htld : (e.apply s).tl d = y := by
      unfold S.Eff.apply
      rw [hd]
      simp
    refine ⟨h.bel.trans hbel, Nat.le_trans h.base hbel.size, fun b hb => (hold b hb).trans (h.old b hb), hbnd, by rw [← h.size]; simp [Act.put], h.defs, fun t u ht => ?_, hent, hinj, fun t z hz => ?_, fun t t' hne ht ht' g hg hg' => ?_⟩
    · rw [hsl] at ht
      rw [hput]
      by_cases c : t = d
      · rw [if_pos c] at ht ⊢
        cases ht
        exact hx
      · rw [if_neg c] at ht ⊢
        exact holdS u _ (h.slot t u ht)
    · by_cases c : t = d
      · subst c
        rw [htld] at hz
        refine ⟨x, by rw [hsl, if_pos rfl], ?_⟩
        rw [hput, if_pos rfl]
        exact (hy z hz).1
      · obtain ⟨hz1, hz2⟩ := htlq t c z hz
        obtain ⟨u, hu, hok⟩ := h.tail t z hz1
        refine ⟨u, by rw [hsl, if_neg c]; exact hu, ?_⟩
        rw [hput, if_neg c]
        exact hok.keep fun g hg => htl t g (fun d' x' y' hd' => by rw [hd] at hd'; cases hd'; exact c) hz2 (by rw [hz1]; rfl) hg
    · rw [hput] at hg hg'
      obtain ⟨z, hz⟩ := Option.isSome_iff_exists.1 ht
      obtain ⟨z', hz'⟩ := Option.isSome_iff_exists.1 ht'
      by_cases c : t = d
      · have c' : t' ≠ d := fun e => hne (by rw [c, e])
        rw [if_pos c] at hg
        rw [if_neg c'] at hg'
        subst c
        rw [htld] at hz
        obtain ⟨q1, q2⟩ := htlq t' c' z' hz'
        exact (hy z hz).2 t' g c' q2 (by rw [q1]; rfl) hg' hg
      · rw [if_neg c] at hg
        obtain ⟨q1, q2⟩ := htlq t c z hz
        by_cases c' : t' = d
        · rw [if_pos c'] at hg'
          subst c'
          rw [htld] at hz'
          exact (hy z' hz').2 t g c q2 (by rw [q1]; rfl) hg hg'
        · rw [if_neg c'] at hg'
          obtain ⟨q1', q2'⟩ := htlq t' c' z' hz'
          exact h.tinj t t' hne (by rw [q1]; rfl) (by rw [q1']; rfl) g hg hg'

/-- An operation that leaves a value and changes nothing else. -/
theorem Gam.value {B N : Nat} {w0 : World} {H0 : Rowed} {s : S.St} {a : Act} {w : World} {H : Rowed} {φ : Nat → Nat} (h : Gam B N w0 H0 s a w H φ)
    {d : Nat} (hd : d < N) {x : S.AV} {v : Value} (hx : RepS H w φ s x v) : Gam B N w0 H0 ((⟨some (d, x, none), none, none⟩ : S.Eff).apply s) (a.put (some d) v) w H φ :=
  h.next (.inr ⟨d, x, none, rfl, rfl, hd, hx, fun z hz => by cases hz⟩) (Below.refl _ _) (Stay.refl _ _) (fun _ _ => rfl) h.bnd (fun _ _ => rfl) h.ent h.inj (fun _ _ _ _ _ _ => ⟨rfl, rfl⟩)

end Go.Proofs.YtlldagdhlfpihaaGreatDoor
end
