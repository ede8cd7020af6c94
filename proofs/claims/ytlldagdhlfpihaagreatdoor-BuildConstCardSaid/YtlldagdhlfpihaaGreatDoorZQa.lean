/- A small interpreter of functions that put data together: what a function's operations leave, told of trees. Plain definitions, and why the order of a region's operations makes no difference. -/
import Derived.Test.YtlldagdhlfpihaaGreatDoorZOwnC
import Derived.Test.YtlldagdhlfpihaaGreatDoorZExt
import Derived.Deep.MidRow
import Derived.Deep.LoopGhost
set_option linter.unusedVariables false
set_option linter.unusedSimpArgs false
set_option linter.unusedSectionVars false
namespace Go.Proofs.YtlldagdhlfpihaaGreatDoor
open Go.RowKit

namespace S
/-- What a slot holds: numbers, texts, functions; a slice's cells; a struct's; several results; a place of the frame's own variable; a place in a slice. -/
inductive AV where
  | int (k : IntKind) (n : Int)
  | bool (b : Bool)
  | str (s : ByteArray)
  | fn (f : FuncId)
  | row (n : Nat) (cs : List AV)
  | agg (cs : List AV)
  | tup (vs : List AV)
  | box (id off : Nat)
  | ptr (cs : List AV) (off : Nat)
  | any

/-- May it lie in one cell? -/
def AV.cell : AV → Bool
  | .int _ _ | .bool _ | .str _ | .fn _ | .row _ _ => true
  | _ => false
def AV.cells : AV → Option (List AV)
  | .agg cs => some cs
  | .int k n => some [.int k n]
  | .bool b => some [.bool b]
  | .str s => some [.str s]
  | .fn f => some [.fn f]
  | .row n cs => some [.row n cs]
  | _ => none
/-- May it be handed to another function? -/
def AV.free : AV → Bool
  | .box _ _ | .ptr _ _ | .any => false
  | _ => true

abbrev Tail := Option (TypeId × Nat)
abbrev Ent := TypeId × List AV
/-- The frame: slots, which of them hold a slice that may grow in place, the frame's own variables. -/
structure St where
  sl : Nat → Option AV
  tl : Nat → Tail
  hp : Nat → Option Ent

/-- A reckoning that asks the frame. -/
inductive Rd (α : Type) where
  | done (a : α)
  | fail
  | sl (t : Nat) (k : Option AV → Rd α)
  | tl (t : Nat) (k : Tail → Rd α)
  | hp (i : Nat) (k : Option Ent → Rd α)
namespace Rd
def bind {α β : Type} : Rd α → (α → Rd β) → Rd β
  | .done a, f => f a
  | .fail, _ => .fail
  | .sl t k, f => .sl t fun x => (k x).bind f
  | .tl t k, f => .tl t fun x => (k x).bind f
  | .hp t k, f => .hp t fun x => (k x).bind f
def run {α : Type} : Rd α → St → Option (α × List Nat)
  | .done a, _ => some (a, [])
  | .fail, _ => none
  | .sl t k, s => match (k (s.sl t)).run s with | some (a, l) => some (a, (3 * t) :: l) | none => none
  | .tl t k, s => match (k (s.tl t)).run s with | some (a, l) => some (a, (3 * t + 1) :: l) | none => none
  | .hp t k, s => match (k (s.hp t)).run s with | some (a, l) => some (a, (3 * t + 2) :: l) | none => none
def ofOpt {α : Type} : Option α → Rd α
  | some a => .done a
  | none => .fail
end Rd

/-- What an operation changes. -/
structure Eff where
  dst : Option (Nat × AV × Tail)
  drop : Option Nat
  ent : Option (Nat × Ent)
def Eff.apply (e : Eff) (s : St) : St where
  sl := fun t => match e.dst with
    | some (d, v, _) => if t = d then some v else s.sl t
    | none => s.sl t
  tl := fun t => match e.dst with
    | some (d, _, z) => if t = d then z else if e.drop = some t then none else s.tl t
    | none => if e.drop = some t then none else s.tl t
  hp := fun i => match e.ent with
    | some (k, x) => if i = k then some x else s.hp i
    | none => s.hp i
def Eff.writes (e : Eff) : List Nat :=
  (match e.dst with | some (d, _, _) => [3 * d, 3 * d + 1] | none => []) ++ (match e.drop with | some t => [3 * t + 1] | none => []) ++ (match e.ent with | some (k, _) => [3 * k + 2] | none => [])

/-- The frames are alike at a place. -/
def same (r : Nat) (s s' : St) : Prop := if r % 3 = 0 then s.sl (r / 3) = s'.sl (r / 3) else if r % 3 = 1 then s.tl (r / 3) = s'.tl (r / 3) else s.hp (r / 3) = s'.hp (r / 3)
end S

open S in
theorem same_0 (t : Nat) (s s' : St) : same (3 * t) s s' ↔ s.sl t = s'.sl t := by
  unfold same
  rw [if_pos (by omega), show 3 * t / 3 = t by omega]
open S in
theorem same_1 (t : Nat) (s s' : St) : same (3 * t + 1) s s' ↔ s.tl t = s'.tl t := by
  unfold same
  rw [if_neg (by omega), if_pos (by omega), show (3 * t + 1) / 3 = t by omega]
open S in
theorem same_2 (t : Nat) (s s' : St) : same (3 * t + 2) s s' ↔ s.hp t = s'.hp t := by
  unfold same
  rw [if_neg (by omega), if_neg (by omega), show (3 * t + 2) / 3 = t by omega]
theorem S.same.refl (r : Nat) (s : S.St) : S.same r s s := by
  unfold S.same
  split
  · rfl
  · split <;> rfl
theorem S.same.trans {r : Nat} {a b c : S.St} (h : S.same r a b) (k : S.same r b c) : S.same r a c := by
  unfold S.same at *
  split at h
  · rw [if_pos (by assumption)] at k ⊢; exact h.trans k
  · rw [if_neg (by assumption)] at k ⊢
    split at h
    · rw [if_pos (by assumption)] at k ⊢; exact h.trans k
    · rw [if_neg (by assumption)] at k ⊢; exact h.trans k
theorem S.same.symm {r : Nat} {a b : S.St} (h : S.same r a b) : S.same r b a := by
  unfold S.same at *
  split at h
  · rw [if_pos (by assumption)]; exact h.symm
  · rw [if_neg (by assumption)]
    split at h
    · rw [if_pos (by assumption)]; exact h.symm
    · rw [if_neg (by assumption)]; exact h.symm
theorem st_ext {s s' : S.St} (h : ∀ r, S.same r s s') : s = s' := by
  obtain ⟨a, b, c⟩ := s
  obtain ⟨a', b', c'⟩ := s'
  have h1 : a = a' := funext fun t => (same_0 t _ _).1 (h _)
  have h2 : b = b' := funext fun t => (same_1 t _ _).1 (h _)
  have h3 : c = c' := funext fun t => (same_2 t _ _).1 (h _)
  rw [h1, h2, h3]
/-- A place is a slot, a slot's growing, or a variable. -/
theorem place_cases (r : Nat) : (∃ t, r = 3 * t) ∨ (∃ t, r = 3 * t + 1) ∨ ∃ t, r = 3 * t + 2 := by
  by_cases h : r % 3 = 0
  · exact .inl ⟨r / 3, by omega⟩
  · by_cases h1 : r % 3 = 1
    · exact .inr (.inl ⟨r / 3, by omega⟩)
    · exact .inr (.inr ⟨r / 3, by omega⟩)

open S in
/-- What an operation does not write stays. -/
theorem apply_not {e : Eff} {r : Nat} (h : r ∉ e.writes) (s : St) : same r (e.apply s) s := by
  obtain ⟨dst, drop, ent⟩ := e
  unfold Eff.writes at h
  simp only [List.mem_append, not_or] at h
  obtain ⟨⟨h1, h2⟩, h3⟩ := h
  rcases place_cases r with ⟨t, rfl⟩ | ⟨t, rfl⟩ | ⟨t, rfl⟩
  · rw [same_0]
    unfold Eff.apply
    rcases dst with _ | ⟨d, v, z⟩
    · rfl
    · simp only [List.mem_cons, List.not_mem_nil, or_false, not_or] at h1 ⊢
      rw [if_neg (by omega)]
  · rw [same_1]
    unfold Eff.apply
    have hd : drop ≠ some t := by
      rcases drop with _ | d
      · simp
      · simp only [List.mem_cons, List.not_mem_nil, or_false] at h2
        intro e
        cases e
        exact h2 rfl
    rcases dst with _ | ⟨d, v, z⟩
    · simp only; rw [if_neg hd]
    · simp only [List.mem_cons, List.not_mem_nil, or_false, not_or] at h1 ⊢
      rw [if_neg (by omega), if_neg hd]
  · rw [same_2]
    unfold Eff.apply
    rcases ent with _ | ⟨k, x⟩
    · rfl
    · simp only [List.mem_cons, List.not_mem_nil, or_false] at h3 ⊢
      rw [if_neg (by omega)]
open S in
/-- What it writes does not hang on the frame. -/
theorem apply_mem {e : Eff} {r : Nat} (h : r ∈ e.writes) (s s' : St) : same r (e.apply s) (e.apply s') := by
  obtain ⟨dst, drop, ent⟩ := e
  unfold Eff.writes at h
  rcases place_cases r with ⟨t, rfl⟩ | ⟨t, rfl⟩ | ⟨t, rfl⟩
  · rw [same_0]
    unfold Eff.apply
    rcases dst with _ | ⟨d, v, z⟩
    · exfalso
      rcases drop with _ | d <;> rcases ent with _ | ⟨k, x⟩ <;> simp at h <;> omega
    · by_cases c : t = d
      · simp only [c, if_true]
      · exfalso
        rcases drop with _ | d <;> rcases ent with _ | ⟨k, x⟩ <;> simp at h <;> omega
  · rw [same_1]
    unfold Eff.apply
    rcases dst with _ | ⟨d, v, z⟩
    · by_cases c : drop = some t
      · simp only [c, if_true]
      · exfalso
        rcases drop with _ | d <;> rcases ent with _ | ⟨k, x⟩ <;> simp at h c <;> omega
    · by_cases c0 : t = d
      · simp only [c0, if_true]
      · by_cases c : drop = some t
        · simp only [c, if_true, if_neg c0]
        · exfalso
          rcases drop with _ | d <;> rcases ent with _ | ⟨k, x⟩ <;> simp at h c <;> omega
  · rw [same_2]
    unfold Eff.apply
    rcases ent with _ | ⟨k, x⟩
    · exfalso
      rcases drop with _ | d <;> rcases dst with _ | ⟨d, v, z⟩ <;> simp at h <;> omega
    · by_cases c : t = k
      · simp only [c, if_true]
      · exfalso
        rcases drop with _ | d <;> rcases dst with _ | ⟨d, v, z⟩ <;> simp at h <;> omega
theorem apply_same {e : S.Eff} {r : Nat} {s s' : S.St} (h : S.same r s s') : S.same r (e.apply s) (e.apply s') := by
  by_cases c : r ∈ e.writes
  · exact apply_mem c s s'
  · exact ((apply_not c s).trans h).trans (apply_not c s').symm

/-- A reckoning gives the same where what it asked is the same. -/
theorem rd_congr {α : Type} : ∀ (m : S.Rd α) {s s' : S.St} {x : α} {l : List Nat}, m.run s = some (x, l) → (∀ r ∈ l, S.same r s s') → m.run s' = some (x, l)
  | .done a, s, s', x, l, h, _ => by
    unfold S.Rd.run at h ⊢
    exact h
  | .fail, s, s', x, l, h, _ => by simp [S.Rd.run] at h
  | .sl t k, s, s', x, l, h, hs => by
    unfold S.Rd.run at h ⊢
    cases hk : (k (s.sl t)).run s with
    | none => rw [hk] at h; simp at h
    | some p =>
      obtain ⟨a, l'⟩ := p
      rw [hk] at h
      simp only [Option.some.injEq, Prod.mk.injEq] at h
      obtain ⟨rfl, rfl⟩ := h
      have e : s.sl t = s'.sl t := (same_0 t s s').1 (hs _ List.mem_cons_self)
      have := rd_congr (k (s.sl t)) hk (s' := s') fun r hr => hs r (List.mem_cons_of_mem _ hr)
      rw [e] at this
      rw [this]
  | .tl t k, s, s', x, l, h, hs => by
    unfold S.Rd.run at h ⊢
    cases hk : (k (s.tl t)).run s with
    | none => rw [hk] at h; simp at h
    | some p =>
      obtain ⟨a, l'⟩ := p
      rw [hk] at h
      simp only [Option.some.injEq, Prod.mk.injEq] at h
      obtain ⟨rfl, rfl⟩ := h
      have e : s.tl t = s'.tl t := (same_1 t s s').1 (hs _ List.mem_cons_self)
      have := rd_congr (k (s.tl t)) hk (s' := s') fun r hr => hs r (List.mem_cons_of_mem _ hr)
      rw [e] at this
      rw [this]
  | .hp t k, s, s', x, l, h, hs => by
    unfold S.Rd.run at h ⊢
    cases hk : (k (s.hp t)).run s with
    | none => rw [hk] at h; simp at h
    | some p =>
      obtain ⟨a, l'⟩ := p
      rw [hk] at h
      simp only [Option.some.injEq, Prod.mk.injEq] at h
      obtain ⟨rfl, rfl⟩ := h
      have e : s.hp t = s'.hp t := (same_2 t s s').1 (hs _ List.mem_cons_self)
      have := rd_congr (k (s.hp t)) hk (s' := s') fun r hr => hs r (List.mem_cons_of_mem _ hr)
      rw [e] at this
      rw [this]
/-- A reckoning in two parts. -/
theorem rd_bind {α β : Type} : ∀ (m : S.Rd α) (f : α → S.Rd β) {s : S.St} {y : β} {l : List Nat}, (m.bind f).run s = some (y, l) → ∃ x l1 l2, m.run s = some (x, l1) ∧ (f x).run s = some (y, l2)
  | .done a, f, s, y, l, h => ⟨a, [], l, rfl, h⟩
  | .fail, f, s, y, l, h => by simp [S.Rd.bind, S.Rd.run] at h
  | .sl t k, f, s, y, l, h => by
    unfold S.Rd.bind S.Rd.run at h
    cases hk : ((k (s.sl t)).bind f).run s with
    | none => rw [hk] at h; simp at h
    | some p =>
      obtain ⟨a, l'⟩ := p
      rw [hk] at h
      simp only [Option.some.injEq, Prod.mk.injEq] at h
      obtain ⟨rfl, rfl⟩ := h
      obtain ⟨x, l1, l2, h1, h2⟩ := rd_bind (k (s.sl t)) f hk
      exact ⟨x, _, l2, by rw [S.Rd.run, h1], h2⟩
  | .tl t k, f, s, y, l, h => by
    unfold S.Rd.bind S.Rd.run at h
    cases hk : ((k (s.tl t)).bind f).run s with
    | none => rw [hk] at h; simp at h
    | some p =>
      obtain ⟨a, l'⟩ := p
      rw [hk] at h
      simp only [Option.some.injEq, Prod.mk.injEq] at h
      obtain ⟨rfl, rfl⟩ := h
      obtain ⟨x, l1, l2, h1, h2⟩ := rd_bind (k (s.tl t)) f hk
      exact ⟨x, _, l2, by rw [S.Rd.run, h1], h2⟩
  | .hp t k, f, s, y, l, h => by
    unfold S.Rd.bind S.Rd.run at h
    cases hk : ((k (s.hp t)).bind f).run s with
    | none => rw [hk] at h; simp at h
    | some p =>
      obtain ⟨a, l'⟩ := p
      rw [hk] at h
      simp only [Option.some.injEq, Prod.mk.injEq] at h
      obtain ⟨rfl, rfl⟩ := h
      obtain ⟨x, l1, l2, h1, h2⟩ := rd_bind (k (s.hp t)) f hk
      exact ⟨x, _, l2, by rw [S.Rd.run, h1], h2⟩
theorem rd_ofOpt {α : Type} {o : Option α} {s : S.St} {y : α} {l : List Nat} (h : (S.Rd.ofOpt o).run s = some (y, l)) : o = some y := by
  cases o with
  | none => simp [S.Rd.ofOpt, S.Rd.run] at h
  | some a => simp [S.Rd.ofOpt, S.Rd.run] at h; rw [h.1]
namespace S
/-- The frame behind those operations that are listed. -/
def stL (L : Nat → Bool) : List (Eff × List Nat) → Nat → St → St
  | [], _, s => s
  | (e, _) :: r, i, s => stL L r (i + 1) (if L i = true then e.apply s else s)
end S

/-- Lists that agree on who writes a place give the same there. -/
theorem stL_agree {L L' : Nat → Bool} {r : Nat} : ∀ (es : List (S.Eff × List Nat)) (i : Nat) (s s' : S.St), S.same r s s' → (∀ k e l, es[k]? = some (e, l) → r ∈ e.writes → L (i + k) = L' (i + k)) → S.same r (S.stL L es i s) (S.stL L' es i s')
  | [], i, s, s', h, _ => h
  | (e, l) :: es, i, s, s', h, hw => by
    unfold S.stL
    refine stL_agree es (i + 1) _ _ ?_ fun k e' l' hk hr => ?_
    · by_cases c : r ∈ e.writes
      · have := hw 0 e l rfl c
        rw [Nat.add_zero] at this
        rw [this]
        split
        · exact apply_same h
        · exact h
      · have h1 : S.same r (if L i = true then e.apply s else s) s := by
          split
          · exact apply_not c s
          · exact S.same.refl _ _
        have h2 : S.same r (if L' i = true then e.apply s' else s') s' := by
          split
          · exact apply_not c s'
          · exact S.same.refl _ _
        exact (h1.trans h).trans h2.symm
    · have := hw (k + 1) e' l' (by simpa using hk) hr
      rw [show i + 1 + k = i + (k + 1) by omega]
      exact this
/-- The last one who writes a place says what is there. -/
theorem stL_last {L : Nat → Bool} {r : Nat} : ∀ (es : List (S.Eff × List Nat)) (i k : Nat) (s s' : S.St) (e : S.Eff) (l : List Nat), es[k]? = some (e, l) → r ∈ e.writes → L (i + k) = true → (∀ j e' l', k < j → es[j]? = some (e', l') → r ∈ e'.writes → L (i + j) = false) → S.same r (S.stL L es i s) (e.apply s')
  | [], i, k, s, s', e, l, hk, _, _, _ => by simp at hk
  | (e0, l0) :: es, i, 0, s, s', e, l, hk, hr, hL, hn => by
    simp at hk
    obtain ⟨rfl, rfl⟩ := hk
    unfold S.stL
    rw [Nat.add_zero] at hL
    rw [if_pos hL]
    have key : ∀ (es : List (S.Eff × List Nat)) (i : Nat) (s : S.St), (∀ j e' l', es[j]? = some (e', l') → r ∈ e'.writes → L (i + j) = false) → S.same r (S.stL L es i s) s := by
      intro es
      induction es with
      | nil => intro i s _; exact S.same.refl _ _
      | cons p es ih =>
        obtain ⟨e1, l1⟩ := p
        intro i s h
        unfold S.stL
        refine (ih (i + 1) _ fun j e' l' hj hr => ?_).trans ?_
        · have := h (j + 1) e' l' (by simpa using hj) hr
          rw [show i + 1 + j = i + (j + 1) by omega]
          exact this
        · split
          · rename_i c
            refine apply_not (fun hm => ?_) s
            have := h 0 e1 l1 rfl hm
            rw [Nat.add_zero, c] at this
            cases this
          · exact S.same.refl _ _
    refine (key es (i + 1) _ fun j e' l' hj hr' => ?_).trans (apply_mem hr _ _)
    have := hn (j + 1) e' l' (by omega) (by simpa using hj) hr'
    rw [show i + 1 + j = i + (j + 1) by omega]
    exact this
  | (e0, l0) :: es, i, k + 1, s, s', e, l, hk, hr, hL, hn => by
    unfold S.stL
    refine stL_last es (i + 1) k _ s' e l (by simpa using hk) hr ?_ fun j e' l' hj hjk hr' => ?_
    · rw [show i + 1 + k = i + (k + 1) by omega]; exact hL
    · have := hn (j + 1) e' l' (by omega) (by simpa using hjk) hr'
      rw [show i + 1 + j = i + (j + 1) by omega]
      exact this

namespace S
/-- Which earlier operations each one waits for, as bits. -/
def befs : List Oper → List Nat → List Nat
  | [], acc => acc
  | o :: r, acc => befs r (acc ++ [o.after.toList.foldl (fun m e => if Region.binds .any e then m ||| (2 ^ e.on) ||| acc.getD e.on 0 else m) 0])
def meets (a b : List Nat) : Bool := a.any fun x => b.any fun y => Nat.beq x y
/-- Who writes what another one reads or writes, waits for it, or is waited for. -/
def apart1 (e : Eff) (rs : List Nat) (i : Nat) : List (Eff × List Nat) → List Nat → Bool
  | (e', rs') :: r, b :: br => (b.testBit i || (!meets e.writes (rs' ++ e'.writes) && !meets e'.writes rs)) && apart1 e rs i r br
  | _, _ => true
def apartB : List (Eff × List Nat) → List Nat → Nat → Bool
  | (e, rs) :: r, _ :: br, i => apart1 e rs i r br && apartB r br (i + 1)
  | _, _, _ => true
end S

theorem meets_mem {a b : List Nat} (h : S.meets a b = false) {x : Nat} (hx : x ∈ a) : x ∉ b := fun hb => by
  have h1 : S.meets a b = true := List.any_eq_true.2 ⟨x, hx, List.any_eq_true.2 ⟨x, hb, by rw [Nat.beq_eq]⟩⟩
  rw [h] at h1
  cases h1

theorem apart1_at {e : S.Eff} {rs : List Nat} {i : Nat} : ∀ (es : List (S.Eff × List Nat)) (bs : List Nat), S.apart1 e rs i es bs = true → ∀ (k : Nat) (e' : S.Eff) (rs' : List Nat) (b : Nat), es[k]? = some (e', rs') → bs[k]? = some b → b.testBit i = true ∨ (S.meets e.writes (rs' ++ e'.writes) = false ∧ S.meets e'.writes rs = false)
  | [], _, _, k, e', rs', b, hk, _ => by simp at hk
  | _ :: _, [], _, k, e', rs', b, _, hb => by simp at hb
  | (e1, r1) :: es, b1 :: bs, h, k, e', rs', b, hk, hb => by
    simp only [S.apart1, Bool.and_eq_true, Bool.or_eq_true, Bool.not_eq_true'] at h
    cases k with
    | zero =>
      simp at hk hb
      obtain ⟨rfl, rfl⟩ := hk
      subst hb
      exact h.1
    | succ k => exact apart1_at es bs h.2 k e' rs' b (by simpa using hk) (by simpa using hb)
theorem apartB_at : ∀ (es : List (S.Eff × List Nat)) (bs : List Nat) (i : Nat), S.apartB es bs i = true → ∀ (j k : Nat) (e : S.Eff) (rs : List Nat) (e' : S.Eff) (rs' : List Nat) (b : Nat), j < k → es[j]? = some (e, rs) → es[k]? = some (e', rs') → bs[k]? = some b → b.testBit (i + j) = true ∨ (S.meets e.writes (rs' ++ e'.writes) = false ∧ S.meets e'.writes rs = false)
  | [], _, _, _, j, k, e, rs, e', rs', b, _, hj, _, _ => by simp at hj
  | _ :: _, [], _, _, j, k, e, rs, e', rs', b, _, _, _, hb => by simp at hb
  | (e1, r1) :: es, b1 :: bs, i, h, j, k, e, rs, e', rs', b, hjk, hj, hk, hb => by
    simp only [S.apartB, Bool.and_eq_true] at h
    obtain ⟨k, rfl⟩ : ∃ k', k = k' + 1 := ⟨k - 1, by omega⟩
    cases j with
    | zero =>
      simp at hj
      obtain ⟨rfl, rfl⟩ := hj
      rw [Nat.add_zero]
      exact apart1_at es bs h.1 k e' rs' b (by simpa using hk) (by simpa using hb)
    | succ j =>
      rw [show i + (j + 1) = i + 1 + j by omega]
      exact apartB_at es bs (i + 1) h.2 j k e rs e' rs' b (by omega) (by simpa using hj) (by simpa using hk) (by simpa using hb)

theorem befs_length : ∀ (ops : List Oper) (acc : List Nat), (S.befs ops acc).length = acc.length + ops.length
  | [], acc => rfl
  | o :: r, acc => by rw [S.befs, befs_length r, List.length_append, List.length_cons, List.length_cons, List.length_nil]; omega
/-- What holds of an operation's bits holds where it holds of those that it waits for. -/
theorem befs_closed {ops : Array Oper} {C : Nat → Nat → Prop} : ∀ (pre : List Oper) (rest : List Oper) (acc : List Nat), ops.toList = pre ++ rest → acc.length = pre.length →
    (∀ i b, acc[i]? = some b → ∀ j, b.testBit j = true → C i j) →
    (∀ i j, Region.waitsFor .any ops i j = true → C i j) → (∀ i j k, Region.waitsFor .any ops i j = true → C j k → C i k) → ∀ i b, (S.befs rest acc)[i]? = some b → ∀ j, b.testBit j = true → C i j
  | pre, [], acc, _, _, h, _, _ => h
  | pre, o :: r, acc, e, hl, h, h1, h2 => by
    rw [S.befs]
    refine befs_closed (pre ++ [o]) r _ (by rw [e]; simp) (by simp [hl]) (fun i b hi j hj => ?_) h1 h2
    by_cases c : i < acc.length
    · rw [List.getElem?_append_left c] at hi
      exact h i b hi j hj
    · rw [List.getElem?_append_right (by omega)] at hi
      have hi0 : i - acc.length = 0 := by
        have := (List.getElem?_eq_some_iff.1 hi).1
        simp at this
        omega
      rw [hi0, List.getElem?_cons_zero] at hi
      have hi := Option.some.inj hi
      have hio : ops[i]? = some o := by
        rw [← Array.getElem?_toList, e, List.getElem?_append_right (by omega)]
        have : i - pre.length = 0 := by omega
        rw [this]
        rfl
      have key : ∀ (l : List Edge) (m : Nat), (∀ e' ∈ l, Region.binds .any e' = true → Region.waitsFor .any ops i e'.on = true) → (∀ j, m.testBit j = true → C i j) →
          ∀ j, (l.foldl (fun m e => if Region.binds .any e then m ||| (2 ^ e.on) ||| acc.getD e.on 0 else m) m).testBit j = true → C i j := by
        intro l
        induction l with
        | nil => intro m _ hm; exact hm
        | cons e' l ih =>
          intro m hl hm
          rw [List.foldl_cons]
          refine ih _ (fun x hx => hl x (List.mem_cons_of_mem _ hx)) fun j hj => ?_
          split at hj
          · rename_i hb
            have hw := hl e' List.mem_cons_self hb
            rw [Nat.testBit_or, Nat.testBit_or, Bool.or_eq_true, Bool.or_eq_true] at hj
            rcases hj with (hj | hj) | hj
            · exact hm j hj
            · rw [Nat.testBit_two_pow] at hj
              have : e'.on = j := by simpa using hj
              rw [← this]
              exact h1 i e'.on hw
            · rw [List.getD_eq_getElem?_getD] at hj
              cases ha : acc[e'.on]? with
              | none => rw [ha] at hj; simp at hj
              | some b' =>
                rw [ha] at hj
                exact h2 i e'.on j hw (h e'.on b' ha j (by simpa using hj))
          · exact hm j hj
      subst hi
      refine key o.after.toList 0 (fun e' he hb => ?_) (fun j hj => by simp at hj) j hj
      unfold Region.waitsFor
      rw [hio]
      simp only
      first | exact List.any_eq_true.2 ⟨e', he, by simp [hb]⟩ | (simp only [Array.any_eq_true']; exact ⟨e', by simpa using he, by simp [hb]⟩)

/-- One more operation behind those that are listed. -/
theorem stL_step {es : List (S.Eff × List Nat)} {bs : List Nat} (hA : S.apartB es bs 0 = true) (hl : bs.length = es.length) {L : Nat → Bool} (hcl : ∀ k b, bs[k]? = some b → L k = true → ∀ j, b.testBit j = true → L j = true)
    {i : Nat} {e : S.Eff} {rs : List Nat} (hi : es[i]? = some (e, rs)) (hun : L i = false) (hb : ∀ b, bs[i]? = some b → ∀ j, b.testBit j = true → L j = true) (s0 : S.St) :
    (∀ r ∈ rs, S.same r (S.stL (fun k => decide (k < i)) es 0 s0) (S.stL L es 0 s0)) ∧ S.stL (fun k => if k = i then true else L k) es 0 s0 = e.apply (S.stL L es 0 s0) := by
  have bits : ∀ k, k < es.length → ∃ b, bs[k]? = some b := fun k hk => ⟨bs[k], List.getElem?_eq_getElem (by omega)⟩
  have hlt : ∀ {k : Nat} {x : S.Eff × List Nat}, es[k]? = some x → k < es.length := fun h => (List.getElem?_eq_some_iff.1 h).1
  -- who stands behind it and is listed is apart from it
  have hbehind : ∀ k e' l', i < k → es[k]? = some (e', l') → L k = true → S.meets e.writes (l' ++ e'.writes) = false ∧ S.meets e'.writes rs = false := fun k e' l' hik hk hL => by
    obtain ⟨b, hbk⟩ := bits k (hlt hk)
    rcases apartB_at es bs 0 hA i k e rs e' l' b hik hi hk hbk with h | h
    · rw [Nat.zero_add] at h
      have := hcl k b hbk hL i h
      rw [hun] at this
      cases this
    · exact h
  refine ⟨fun r hr => ?_, st_ext fun r => ?_⟩
  · refine stL_agree es 0 s0 s0 (S.same.refl _ _) fun k e' l' hk hw => ?_
    rw [Nat.zero_add]
    rcases Nat.lt_trichotomy k i with h | h | h
    · rw [decide_eq_true h]
      obtain ⟨b, hbi⟩ := bits i (hlt hi)
      rcases apartB_at es bs 0 hA k i e' l' e rs b h hk hi hbi with h1 | h1
      · rw [Nat.zero_add] at h1
        exact (hb b hbi k h1).symm
      · exact absurd (List.mem_append_left _ hr) (meets_mem h1.1 hw)
    · subst h
      rw [hun]
      exact decide_eq_false (Nat.lt_irrefl _)
    · rw [decide_eq_false (by omega)]
      cases hL : L k with
      | false => rfl
      | true => exact absurd hr (meets_mem (hbehind k e' l' h hk hL).2 hw)
  · by_cases c : r ∈ e.writes
    · refine stL_last es 0 i s0 (S.stL L es 0 s0) e rs hi c (by rw [Nat.zero_add, if_pos rfl]) fun j e' l' hj hjk hw => ?_
      rw [Nat.zero_add, if_neg (by omega)]
      cases hL : L j with
      | false => rfl
      | true => exact absurd (List.mem_append_right _ hw) (meets_mem (hbehind j e' l' hj hjk hL).1 c)
    · refine (stL_agree es 0 s0 s0 (S.same.refl _ _) fun k e' l' hk hw => ?_).trans (apply_not c _).symm
      rw [Nat.zero_add]
      split
      · rename_i h
        subst h
        rw [hi] at hk
        cases hk
        exact absurd hw c
      · rfl

end Go.Proofs.YtlldagdhlfpihaaGreatDoor
