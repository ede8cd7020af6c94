/- Both machines beside each other in memory, and the machine of package mach beside others of its kind. -/
import Derived.Test.YtbgdomnalimjnaaMachX
set_option linter.unusedVariables false
set_option linter.unusedSimpArgs false
set_option linter.unusedSectionVars false
namespace Go.Proofs.Ytbgdomnalimjnaa
open Go.RowKit

structure Sides where
  vm : Value
  vo : Value
  A : Option Addr
  c : Nat
  rd : Nat
  vm2 : Value
  vo2 : Value
  A2 : Option Addr
  c2 : Nat

structure Two (w : World) (B p q : Nat) (inp : List Int) (m n : S.Mach) (s : Sides) : Prop where
  a : MAt w B p s.vm s.vo s.A s.c inp s.rd m
  b : RAt w B q s.vm2 s.vo2 s.A2 s.c2 n
  x : ∀ k, MFoot p s.vm s.vo k → ¬ MFoot q s.vm2 s.vo2 k
  xa : ∀ k o t, s.A = some ⟨k, o, t⟩ → ¬ MFoot q s.vm2 s.vo2 k
  xb : ∀ k o t, s.A2 = some ⟨k, o, t⟩ → ¬ MFoot p s.vm s.vo k
  lowA : ∀ k o t, s.A = some ⟨k, o, t⟩ → B ≤ k
def Both (w : World) (B p q : Nat) (inp : List Int) (m n : S.Mach) : Prop := ∃ s, Two w B p q inp m n s

/-- A foot whose row of output moved, at most to a new place. -/
theorem foot_moved {w : World} {p : Nat} {vm vo vo' : Value} {k : Nat} (hv : vo'.ownBlock = vo.ownBlock ∨ ∃ j, w.heap.size ≤ j ∧ vo'.ownBlock = some j) (hk : MFoot p vm vo' k) (hlt : k < w.heap.size) : MFoot p vm vo k := by
  rcases hk with e | e | e
  · exact .inl e
  · exact .inr (.inl e)
  · rcases hv with e2 | ⟨j, hj, e2⟩
    · exact .inr (.inr (e2 ▸ e))
    · rw [e2] at e; cases e; omega

section
variable {w w' : World} {B p q : Nat} {inp : List Int} {m n m' n' : S.Mach} {s : Sides}

theorem Two.both (h : Two w B p q inp m n s) : Both w B p q inp m n := ⟨s, h⟩
theorem Two.ran (h : Two w B p q inp m n s) (hr : RunAt w B p s.vm s.vo s.A s.c inp m' w') : Both w' B p q inp m' n ∧ Below B w w' := by
  obtain ⟨vo', rd', h1, h2, h3⟩ := hr
  have hq : RAt w' B q s.vm2 s.vo2 s.A2 s.c2 n := h.b.keep h2.size fun k hk => by
    rcases hk with hk | ⟨o, t, e⟩
    · exact h2.block k (h.b.foot_lt hk).2 fun hf => h.x k hf hk
    · exact h2.block k (h.b.la k o t e) (h.xb k o t e)
  refine ⟨⟨⟨s.vm, vo', s.A, s.c, rd', s.vm2, s.vo2, s.A2, s.c2⟩, h1, hq, fun k hf hg => ?_, h.xa, fun k o t e hf => ?_, h.lowA⟩, ⟨h2.os, h2.tape, h2.output, h2.size, fun k hk => ?_⟩⟩
  · exact h.x k (foot_moved h3 hf (h.b.foot_lt hg).2) hg
  · exact h.xb k o t e (foot_moved h3 hf (h.b.la k o t e))
  · have hp := h.a.lt
    have hl := h.a.low
    exact h2.block k (by omega) fun hf => by have := (h.a.foot_lt hf).1; omega
theorem Two.rran (h : Two w B p q inp m n s) (hr : RRun w B q s.vm2 s.vo2 s.A2 n' w') : Both w' B p q inp m n' ∧ Below B w w' := by
  obtain ⟨vo', A', c', h1, h2, h3, h4⟩ := hr
  have hp : MAt w' B p s.vm s.vo s.A s.c inp s.rd m := h.a.keep h2.size fun k hk => by
    rcases hk with hk | ⟨o, t, e⟩
    · exact h2.block k (h.a.foot_lt hk).2 fun hf => h.x k hk hf
    · exact h2.block k (h.a.la k o t e) (h.xa k o t e)
  refine ⟨⟨⟨s.vm, s.vo, s.A, s.c, s.rd, s.vm2, vo', A', c'⟩, hp, h1, fun k hf hg => ?_, fun k o t e hg => ?_, fun k o t e hf => ?_, h.lowA⟩, ⟨h2.os, h2.tape, h2.output, h2.size, fun k hk => ?_⟩⟩
  · exact h.x k hf (foot_moved h3 hg (h.a.foot_lt hf).2)
  · exact h.xa k o t e (foot_moved h3 hg (h.a.la k o t e))
  · obtain ⟨o', t', e'⟩ := h4 k o t e
    exact h.xb k o' t' e' hf
  · have hp := h.b.lt
    have hl := h.b.low
    exact h2.block k (by omega) fun hf => by have := (h.b.foot_lt hf).1; omega
theorem Two.below (h : Two w B p q inp m n s) (hb : Below w.heap.size w w') : Two w' B p q inp m n s :=
  ⟨h.a.below hb, h.b.below hb, h.x, h.xa, h.xb, h.lowA⟩
theorem Both.below (h : Both w B p q inp m n) (hb : Below w.heap.size w w') : Both w' B p q inp m n := by
  obtain ⟨s, hs⟩ := h
  exact ⟨s, hs.below hb⟩
/-- A write that leaves the output's row alone. -/
theorem MAt.ran {vm vo : Value} {A : Option Addr} {c rd : Nat} (h : MAt w' B p vm vo A c inp rd m') (ho : Only (MFoot p vm vo) w w') : RunAt w B p vm vo A c inp m' w' := ⟨vo, rd, h, ho, .inl rfl⟩
theorem RAt.rran {vm vo : Value} {A : Option Addr} {c : Nat} (h : RAt w' B p vm vo A c n') (ho : Only (MFoot p vm vo) w w') : RRun w B p vm vo A n' w' := ⟨vo, A, c, h, ho, .inl rfl, fun b o s e => ⟨o, s, e⟩⟩
end

/-! ### Machines of package mach beside each other -/
structure Mc where
  p : Nat
  vm : Value
  vo : Value
  A : Option Addr
  c : Nat
  inp : List Int
  rd : Nat
  m : S.Mach
def Mc.at_ (w : World) (B : Nat) (x : Mc) : Prop := MAt w B x.p x.vm x.vo x.A x.c x.inp x.rd x.m
def Mc.foot (x : Mc) (k : Nat) : Prop := MFoot x.p x.vm x.vo k
def Mc.src (x : Mc) (k : Nat) : Prop := ∃ o t, x.A = some ⟨k, o, t⟩
structure Mc.off (x y : Mc) : Prop where
  ff : ∀ k, x.foot k → ¬ y.foot k
  fs : ∀ k, x.foot k → ¬ y.src k
  sf : ∀ k, x.src k → ¬ y.foot k
theorem Mc.off.symm {x y : Mc} (h : x.off y) : y.off x := ⟨fun k a b => h.ff k b a, fun k a b => h.sf k b a, fun k a b => h.fs k b a⟩
structure Fam (w : World) (B : Nat) (l : List Mc) : Prop where
  at_ : ∀ x ∈ l, x.at_ w B
  off : l.Pairwise Mc.off

section
variable {w w' : World} {B : Nat} {l : List Mc} {x : Mc}
theorem Fam.below (h : Fam w B l) (hb : Below w.heap.size w w') : Fam w' B l := ⟨fun x hx => MAt.below (h.at_ x hx) hb, h.off⟩
/-- What holds of a machine behind a run. -/
structure Mc.Ran (w : World) (x y : Mc) : Prop where
  p : y.p = x.p
  vm : y.vm = x.vm
  A : y.A = x.A
  inp : y.inp = x.inp
  vo : y.vo.ownBlock = x.vo.ownBlock ∨ ∃ k, w.heap.size ≤ k ∧ y.vo.ownBlock = some k
theorem Mc.Ran.off {y z : Mc} (hr : x.Ran w y) (hz : z.at_ w B) (h : x.off z) : y.off z := by
  have hf : ∀ k, k < w.heap.size → y.foot k → x.foot k := fun k hk hy => by
    have h1 : MFoot x.p x.vm y.vo k := by
      have : MFoot y.p y.vm y.vo k := hy
      rwa [hr.p, hr.vm] at this
    exact foot_moved hr.vo h1 hk
  refine ⟨fun k a b => ?_, fun k a b => ?_, fun k a b => ?_⟩
  · exact h.ff k (hf k (MAt.foot_lt hz b).2 a) b
  · obtain ⟨o, t, e⟩ := b
    exact h.fs k (hf k (MAt.la hz k o t e) a) ⟨o, t, e⟩
  · obtain ⟨o, t, e⟩ := a
    exact h.sf k ⟨o, t, by rw [← hr.A]; exact e⟩ b
/-- The first of them runs. -/
theorem Fam.ran {r : List Mc} (h : Fam w B (x :: r)) {m' : S.Mach} (hr : RunAt w B x.p x.vm x.vo x.A x.c x.inp m' w') :
    ∃ y : Mc, y.m = m' ∧ y.p = x.p ∧ y.inp = x.inp ∧ Fam w' B (y :: r) ∧ Below B w w' := by
  obtain ⟨vo', rd', h1, h2, h3⟩ := hr
  have hx : x.at_ w B := h.at_ x (by simp)
  have hp := List.pairwise_cons.1 h.off
  refine ⟨⟨x.p, x.vm, vo', x.A, x.c, x.inp, rd', m'⟩, rfl, rfl, rfl, ⟨fun z hz => ?_, ?_⟩, ⟨h2.os, h2.tape, h2.output, h2.size, fun k hk => ?_⟩⟩
  · rcases List.mem_cons.1 hz with rfl | hz
    · exact h1
    · have hza := h.at_ z (by simp [hz])
      refine MAt.keep hza h2.size fun k hk => ?_
      rcases hk with hk | ⟨o, t, e⟩
      · exact h2.block k (MAt.foot_lt hza hk).2 fun hf => (hp.1 z hz).ff k hf hk
      · exact h2.block k (MAt.la hza k o t e) fun hf => (hp.1 z hz).fs k hf ⟨o, t, e⟩
  · refine List.pairwise_cons.2 ⟨fun z hz => ?_, hp.2⟩
    exact Mc.Ran.off (w := w) (x := x) ⟨rfl, rfl, rfl, rfl, h3⟩ (h.at_ z (by simp [hz])) (hp.1 z hz)
  · have hp := MAt.lt hx
    have hl := MAt.low hx
    exact h2.block k (by omega) fun hf => by have := (MAt.foot_lt hx hf).1; omega
theorem Fam.perm {l' : List Mc} (h : Fam w B l) (hp : l.Perm l') : Fam w B l' := ⟨fun x hx => h.at_ x (hp.mem_iff.2 hx), (hp.pairwise_iff (fun h => h.symm)).1 h.off⟩
end

end Go.Proofs.Ytbgdomnalimjnaa
