/- BLwA, BLwD: joined.  Walk of layer 25's double. -/
import Derived.Test.YtlldagdhlfpihaaGreatDoorZBMsP
section
set_option linter.unusedVariables false
set_option linter.unusedSimpArgs false
set_option linter.unusedSectionVars false
namespace Go.Proofs.YtlldagdhlfpihaaGreatDoor
open Go.RowKit

/-- Blocks from lo on, below B. -/
abbrev Rng (lo B : Nat) : Nat → Prop := fun k => lo ≤ k ∧ k < B
theorem keep_rng {w w' : World} {lo : Nat} (hb : Below w.heap.size w w') : KeepP (Rng lo w.heap.size) w w' := fun k o x hk hx => (hb.cell (p := ⟨k, o, none⟩) hk.2).trans hx
theorem rng_more {lo B B' : Nat} (h : B ≤ B') : ∀ k, Rng lo B k → Rng lo B' k := fun k hk => ⟨hk.1, Nat.lt_of_lt_of_le hk.2 h⟩
/-- An expression as a value, its memory in blocks of P. -/
def EValP (w : World) (P : Nat → Prop) (e : S.BE) (v : Value) : Prop :=
  ∃ A c, v = .agg #[.int .i64 e.op, .int .i64 e.n, .string e.name, .slice A e.kids.length c] ∧ e.name.size ≤ maxLen ∧ e.kids.length ≤ maxLen ∧ EListP w P A e.kids
theorem EValP.keep {w w' : World} {P : Nat → Prop} {e : S.BE} {v : Value} (hh : EValP w P e v) (h : KeepP P w w') : EValP w' P e v := by
  obtain ⟨A, c, h1, h2, h3, h4⟩ := hh
  exact ⟨A, c, h1, h2, h3, h4.keep h⟩
theorem EValP.more {w : World} {P Q : Nat → Prop} {e : S.BE} {v : Value} (hh : EValP w P e v) (h : ∀ k, P k → Q k) : EValP w Q e v := by
  obtain ⟨A, c, h1, h2, h3, h4⟩ := hh
  exact ⟨A, c, h1, h2, h3, h4.more h⟩
theorem EValP.on {w w' : World} {lo : Nat} {e : S.BE} {v : Value} (hh : EValP w (Rng lo w.heap.size) e v) (hb : Below w.heap.size w w') : EValP w' (Rng lo w'.heap.size) e v := (hh.keep (keep_rng hb)).more (rng_more hb.size)
/-- The call gives an expression, and leaves what there was. -/
def EPost (lo : Nat) (x : S.BE) (w : World) (e : Ending) (w' : World) : Prop := ∃ v, e = .returned v ∧ EValP w' (Rng lo w'.heap.size) x v ∧ Below w.heap.size w w'
theorem EVal.leaf (w : World) (P : Nat → Prop) (op n : Int) : EValP w P (.mk op n ⟨#[]⟩ []) (.agg #[.int .i64 op, .int .i64 n, .string ⟨#[]⟩, .slice none 0 0]) :=
  ⟨none, 0, rfl, by show (0 : Nat) ≤ maxLen; simp [maxLen], by show (0 : Nat) ≤ maxLen; simp [maxLen], .inl rfl⟩
set_option maxRecDepth 100000 in
theorem l_local (lo : Nat) (n : Int) (w : World) : Calls Tryz.prog 19 #[.int .i64 n] w (EPost lo (.mk 2 n ⟨#[]⟩ []) w) := by
  go_enter Tryz.func19, Tryz.ntmps19
  go_wp2_with fail
  (try simp only [Exit.inBlock, Exit.then])
  exact bodyPost_ret (v := .agg #[.int .i64 2, .int .i64 n, .string ⟨#[]⟩, .slice none 0 0]) (by simp [results, Tryz.results19, go_sem]) rfl ⟨_, rfl, EVal.leaf _ _ _ _, (Below.refl _ _).alloc (Nat.le_refl _) _⟩
set_option maxRecDepth 100000 in
theorem l_constant (lo : Nat) (n : Int) (w : World) : Calls Tryz.prog 12 #[.int .i64 n] w (EPost lo (.mk 1 n ⟨#[]⟩ []) w) := by
  go_enter Tryz.func12, Tryz.ntmps12
  go_wp2_with fail
  (try simp only [Exit.inBlock, Exit.then])
  exact bodyPost_ret (v := .agg #[.int .i64 1, .int .i64 n, .string ⟨#[]⟩, .slice none 0 0]) (by simp [results, Tryz.results12, go_sem]) rfl ⟨_, rfl, EVal.leaf _ _ _ _, (Below.refl _ _).alloc (Nat.le_refl _) _⟩
theorem ECellP.of {w : World} {P : Nat → Prop} {b o : Nat} {e : S.BE} {A : Option Addr} {c : Nat} (k0 : w.cell? ⟨b, o, none⟩ = some (.int .i64 e.op)) (k1 : w.cell? ⟨b, o + 1, none⟩ = some (.int .i64 e.n)) (k2 : w.cell? ⟨b, o + 2, none⟩ = some (.string e.name)) (k3 : w.cell? ⟨b, o + 3, none⟩ = some (.slice A e.kids.length c))
    (h1 : e.name.size ≤ maxLen) (h2 : e.kids.length ≤ maxLen) (h3 : EListP w P A e.kids) : ECellP w P b o e := by
  obtain ⟨op, n, nm, kids⟩ := e
  rw [ECellP]
  exact ⟨k0, k1, k2, h1, h2, A, c, k3, h3⟩
theorem EKidsP.two {w : World} {P : Nat → Prop} {b : Nat} {x y : S.BE} (hx : ECellP w P b 0 x) (hy : ECellP w P b 4 y) : EKidsP w P b 0 [x, y] := by
  rw [EKidsP, EKidsP, EKidsP]
  exact ⟨hx, hy, trivial⟩

set_option maxRecDepth 100000 in
set_option maxHeartbeats 1000000 in
theorem l_bin (lo : Nat) (op : Int) (x y : S.BE) (v u : Value) (w : World) (hlo : lo ≤ w.heap.size) (hx : EValP w (Rng lo w.heap.size) x v) (hy : EValP w (Rng lo w.heap.size) y u) : Calls Tryz.prog 20 #[.int .i64 op, v, u] w (EPost lo (.mk 4 op ⟨#[]⟩ [x, y]) w) := by
  obtain ⟨A1, c1, rfl, h1, h2, h3⟩ := hx
  obtain ⟨A2, c2, rfl, h4, h5, h6⟩ := hy
  go_enter Tryz.func20, Tryz.ntmps20
  go_wp2_with fail
  (try simp only [Exit.inBlock, Exit.then])
  have hb : Below w.heap.size w ((((w.alloc (.cells #[.int .i64 x.op, .int .i64 x.n, .string x.name, .slice A1 x.kids.length c1] 24)).alloc (.cells #[.int .i64 y.op, .int .i64 y.n, .string y.name, .slice A2 y.kids.length c2] 24)).alloc (.cells #[.int .i64 4, .int .i64 op, .string ⟨#[]⟩, .slice (some ⟨w.heap.size + 1 + 1 + 1, 0, none⟩) 2 2] 24)).alloc (.cells #[.int .i64 x.op, .int .i64 x.n, .string x.name, .slice A1 x.kids.length c1, .int .i64 y.op, .int .i64 y.n, .string y.name, .slice A2 y.kids.length c2] 24)) :=
    ((((Below.refl _ _).alloc (Nat.le_refl _) _).alloc (by simp) _).alloc (by simp; omega) _).alloc (by simp; omega) _
  have hn := heap_alloc_new (((w.alloc (.cells #[.int .i64 x.op, .int .i64 x.n, .string x.name, .slice A1 x.kids.length c1] 24)).alloc (.cells #[.int .i64 y.op, .int .i64 y.n, .string y.name, .slice A2 y.kids.length c2] 24)).alloc (.cells #[.int .i64 4, .int .i64 op, .string ⟨#[]⟩, .slice (some ⟨w.heap.size + 1 + 1 + 1, 0, none⟩) 2 2] 24)) (.cells #[.int .i64 x.op, .int .i64 x.n, .string x.name, .slice A1 x.kids.length c1, .int .i64 y.op, .int .i64 y.n, .string y.name, .slice A2 y.kids.length c2] 24)
  have hz : (((w.alloc (.cells #[.int .i64 x.op, .int .i64 x.n, .string x.name, .slice A1 x.kids.length c1] 24)).alloc (.cells #[.int .i64 y.op, .int .i64 y.n, .string y.name, .slice A2 y.kids.length c2] 24)).alloc (.cells #[.int .i64 4, .int .i64 op, .string ⟨#[]⟩, .slice (some ⟨w.heap.size + 1 + 1 + 1, 0, none⟩) 2 2] 24)).heap.size = w.heap.size + 1 + 1 + 1 := by simp
  rw [hz] at hn
  refine bodyPost_ret (v := .agg #[.int .i64 4, .int .i64 op, .string ⟨#[]⟩, .slice (some ⟨w.heap.size + 1 + 1 + 1, 0, none⟩) 2 2]) (by simp [results, Tryz.results20, go_sem]) rfl ⟨_, rfl, ⟨_, 2, rfl, by show (0 : Nat) ≤ maxLen; simp [maxLen], by show (2 : Nat) ≤ maxLen; simp [maxLen], ?_⟩, hb⟩
  refine .inr ⟨w.heap.size + 1 + 1 + 1, 0, rfl, ⟨by omega, by simp⟩, EKidsP.two ?_ ?_⟩
  · exact ECellP.of (A := A1) (c := c1) (by rw [Lib.cell_of_heap hn]; rfl) (by rw [Lib.cell_of_heap hn]; rfl) (by rw [Lib.cell_of_heap hn]; rfl) (by rw [Lib.cell_of_heap hn]; rfl) h1 h2 ((h3.keep (keep_rng hb)).more (rng_more hb.size))
  · exact ECellP.of (A := A2) (c := c2) (by rw [Lib.cell_of_heap hn]; rfl) (by rw [Lib.cell_of_heap hn]; rfl) (by rw [Lib.cell_of_heap hn]; rfl) (by rw [Lib.cell_of_heap hn]; rfl) h4 h5 ((h6.keep (keep_rng hb)).more (rng_more hb.size))

/-- A statement as a value. -/
def SValP (w : World) (P : Nat → Prop) (s : S.BS) (v : Value) : Prop := ∃ A1 c1 A2 c2 A3 c3 A4 c4, v = .agg #[.int .i64 s.op, .int .i64 s.n, .string s.name, .slice A1 s.exprs.length c1, .slice A2 s.regs.length c2, .slice A3 s.body.length c3, .slice A4 s.els.length c4] ∧
  s.name.size ≤ maxLen ∧ s.exprs.length ≤ maxLen ∧ s.regs.length ≤ maxLen ∧ s.body.length ≤ maxLen ∧ s.els.length ≤ maxLen ∧ EListP w P A1 s.exprs ∧ IntsP w P A2 s.regs ∧ SListP w P A3 s.body ∧ SListP w P A4 s.els
set_option maxRecDepth 100000 in
set_option maxHeartbeats 1000000 in
theorem l_back (lo : Nat) (x : S.BE) (v : Value) (w : World) (hlo : lo ≤ w.heap.size) (hx : EValP w (Rng lo w.heap.size) x v) : Calls Tryz.prog 18 #[v] w fun e w' => ∃ u, e = .returned u ∧ SValP w' (Rng lo w'.heap.size) (.mk 5 0 ⟨#[]⟩ [x] [4] [] []) u ∧ Below w.heap.size w w' := by
  obtain ⟨A1, c1, rfl, h1, h2, h3⟩ := hx
  go_enter Tryz.func18, Tryz.ntmps18
  go_wp2_with fail
  (try simp only [Exit.inBlock, Exit.then])
  have hb : Below w.heap.size w ((((w.alloc (.cells #[.int .i64 x.op, .int .i64 x.n, .string x.name, .slice A1 x.kids.length c1] 24)).alloc (.cells #[.int .i64 5, .int .i64 0, .string ⟨#[]⟩, .slice (some ⟨w.heap.size + 1 + 1 + 1, 0, none⟩) 1 1, .slice (some ⟨w.heap.size + 1 + 1, 0, none⟩) 1 1, .slice none 0 0, .slice none 0 0] 29)).alloc (.cells #[.int .i64 4] 3)).alloc (.cells #[.int .i64 x.op, .int .i64 x.n, .string x.name, .slice A1 x.kids.length c1] 24)) := ((((Below.refl _ _).alloc (Nat.le_refl _) _).alloc (by simp) _).alloc (by simp; omega) _).alloc (by simp; omega) _
  have hn := heap_alloc_new (((w.alloc (.cells #[.int .i64 x.op, .int .i64 x.n, .string x.name, .slice A1 x.kids.length c1] 24)).alloc (.cells #[.int .i64 5, .int .i64 0, .string ⟨#[]⟩, .slice (some ⟨w.heap.size + 1 + 1 + 1, 0, none⟩) 1 1, .slice (some ⟨w.heap.size + 1 + 1, 0, none⟩) 1 1, .slice none 0 0, .slice none 0 0] 29)).alloc (.cells #[.int .i64 4] 3)) (.cells #[.int .i64 x.op, .int .i64 x.n, .string x.name, .slice A1 x.kids.length c1] 24)
  have hz : (((w.alloc (.cells #[.int .i64 x.op, .int .i64 x.n, .string x.name, .slice A1 x.kids.length c1] 24)).alloc (.cells #[.int .i64 5, .int .i64 0, .string ⟨#[]⟩, .slice (some ⟨w.heap.size + 1 + 1 + 1, 0, none⟩) 1 1, .slice (some ⟨w.heap.size + 1 + 1, 0, none⟩) 1 1, .slice none 0 0, .slice none 0 0] 29)).alloc (.cells #[.int .i64 4] 3)).heap.size = w.heap.size + 1 + 1 + 1 := by simp
  have hz2 : ((w.alloc (.cells #[.int .i64 x.op, .int .i64 x.n, .string x.name, .slice A1 x.kids.length c1] 24)).alloc (.cells #[.int .i64 5, .int .i64 0, .string ⟨#[]⟩, .slice (some ⟨w.heap.size + 1 + 1 + 1, 0, none⟩) 1 1, .slice (some ⟨w.heap.size + 1 + 1, 0, none⟩) 1 1, .slice none 0 0, .slice none 0 0] 29)).heap.size = w.heap.size + 1 + 1 := by simp
  have hr0 := heap_alloc_new ((w.alloc (.cells #[.int .i64 x.op, .int .i64 x.n, .string x.name, .slice A1 x.kids.length c1] 24)).alloc (.cells #[.int .i64 5, .int .i64 0, .string ⟨#[]⟩, .slice (some ⟨w.heap.size + 1 + 1 + 1, 0, none⟩) 1 1, .slice (some ⟨w.heap.size + 1 + 1, 0, none⟩) 1 1, .slice none 0 0, .slice none 0 0] 29)) (.cells #[.int .i64 4] 3)
  have hr := (((Below.refl _ _).alloc (Nat.le_refl (((w.alloc (.cells #[.int .i64 x.op, .int .i64 x.n, .string x.name, .slice A1 x.kids.length c1] 24)).alloc (.cells #[.int .i64 5, .int .i64 0, .string ⟨#[]⟩, .slice (some ⟨w.heap.size + 1 + 1 + 1, 0, none⟩) 1 1, .slice (some ⟨w.heap.size + 1 + 1, 0, none⟩) 1 1, .slice none 0 0, .slice none 0 0] 29)).alloc (.cells #[.int .i64 4] 3)).heap.size) (.cells #[.int .i64 x.op, .int .i64 x.n, .string x.name, .slice A1 x.kids.length c1] 24)).block (((w.alloc (.cells #[.int .i64 x.op, .int .i64 x.n, .string x.name, .slice A1 x.kids.length c1] 24)).alloc (.cells #[.int .i64 5, .int .i64 0, .string ⟨#[]⟩, .slice (some ⟨w.heap.size + 1 + 1 + 1, 0, none⟩) 1 1, .slice (some ⟨w.heap.size + 1 + 1, 0, none⟩) 1 1, .slice none 0 0, .slice none 0 0] 29)).heap.size) (by rw [hz, hz2]; omega)).trans hr0
  rw [hz] at hn
  rw [hz2] at hr
  refine bodyPost_ret (v := .agg #[.int .i64 5, .int .i64 0, .string ⟨#[]⟩, .slice (some ⟨w.heap.size + 1 + 1 + 1, 0, none⟩) 1 1, .slice (some ⟨w.heap.size + 1 + 1, 0, none⟩) 1 1, .slice none 0 0, .slice none 0 0]) (by simp [results, Tryz.results18, go_sem]) rfl ⟨_, rfl, ⟨_, 1, _, 1, none, 0, none, 0, rfl, ?_⟩, hb⟩
  have m0 : (0 : Nat) ≤ maxLen := by simp [maxLen]
  have m1 : (1 : Nat) ≤ maxLen := by simp [maxLen]
  refine ⟨m0, m1, m1, m0, m0, .inr ⟨w.heap.size + 1 + 1 + 1, 0, rfl, ⟨by omega, by simp⟩, ?_⟩, fun _ => ⟨w.heap.size + 1 + 1, 0, rfl, ⟨by omega, by simp⟩, fun i y hy => ?_⟩, .inl rfl, .inl rfl⟩
  · show EKidsP _ _ _ _ [x]
    rw [EKidsP, EKidsP]
    exact ⟨ECellP.of (A := A1) (c := c1) (by rw [Lib.cell_of_heap hn]; rfl) (by rw [Lib.cell_of_heap hn]; rfl) (by rw [Lib.cell_of_heap hn]; rfl) (by rw [Lib.cell_of_heap hn]; rfl) h1 h2 ((h3.keep (keep_rng hb)).more (rng_more hb.size)), trivial⟩
  · match i, hy with
    | 0, hy =>
      have : y = 4 := by simpa [S.BS.regs] using hy.symm
      subst this
      rw [Lib.cell_of_heap hr]
      rfl
    | i + 1, hy => simp [S.BS.regs] at hy

end Go.Proofs.YtlldagdhlfpihaaGreatDoor
end

section
set_option linter.unusedVariables false
set_option linter.unusedSimpArgs false
set_option linter.unusedSectionVars false
namespace Go.Proofs.YtlldagdhlfpihaaGreatDoor
open Go.RowKit

def dblName : ByteArray := ⟨#[100, 111, 117, 98, 108, 101]⟩
def dblExpr : S.BE := .mk 4 1 ⟨#[]⟩ [.mk 2 0 ⟨#[]⟩ [], .mk 2 0 ⟨#[]⟩ []]
def dblStmt : S.BS := .mk 5 0 ⟨#[]⟩ [dblExpr] [4] [] []
def dbl : S.BR := ⟨dblName, 1, 1, false, [dblStmt]⟩
theorem cell_congr {w w' : World} {k o : Nat} (h : w'.heap[k]? = w.heap[k]?) : w'.cell? ⟨k, o, none⟩ = w.cell? ⟨k, o, none⟩ := by
  simp [World.cell?, h]
set_option maxRecDepth 100000 in
set_option maxHeartbeats 1000000 in
theorem l_double (w : World) : Calls Tryz.prog 15 #[] w fun e w' => ∃ A c, e = .returned (rVal dbl A c) ∧ RAt2 w' w'.heap.size dbl A ∧ Below w.heap.size w w' := by
  have hbX : Below w.heap.size w (w.alloc (.cells #[.string ⟨#[]⟩, .int .i64 0, .int .i64 0, .bool false, .slice none 0 0] 34)) := (Below.refl _ _).alloc (Nat.le_refl _) _
  have hrX := heap_alloc_new w (.cells #[.string ⟨#[]⟩, .int .i64 0, .int .i64 0, .bool false, .slice none 0 0] 34)
  have hzX : w.heap.size < (w.alloc (.cells #[.string ⟨#[]⟩, .int .i64 0, .int .i64 0, .bool false, .slice none 0 0] 34)).heap.size := by simp
  go_enter Tryz.func15, Tryz.ntmps15
  go_wp2_with fail
  generalize w.alloc (.cells #[.string ⟨#[]⟩, .int .i64 0, .int .i64 0, .bool false, .slice none 0 0] 34) = w1 at *
  have HbX := Lib.hid hbX
  have HrX := Lib.hid hrX
  clear hbX hrX
  refine (l_local (w.heap.size + 1) 0 w1).mono ?_
  rintro e w2 ⟨v2, rfl, e2, b2⟩
  have E2 := Lib.hid e2
  clear e2
  go_wp2_with fail
  refine (l_local (w.heap.size + 1) 0 w2).mono ?_
  rintro e w3 ⟨v3, rfl, e3, b3⟩
  have Hbin := Lib.hid (l_bin (w.heap.size + 1) 1 _ _ v2 v3 w3 (by have := b2.size; have := b3.size; omega) (E2.out.on b3) e3)
  clear e3
  go_wp2_with fail
  refine Hbin.out.mono ?_
  rintro e w4 ⟨v4, rfl, e4, b4⟩
  have Hbk := Lib.hid (l_back (w.heap.size + 1) _ v4 w4 (by have := b2.size; have := b3.size; have := b4.size; omega) e4)
  clear e4
  go_wp2_with fail
  refine Hbk.out.mono ?_
  rintro e w5 ⟨v5, rfl, e5, b5⟩
  have hz5 : w.heap.size < w5.heap.size := by have := b2.size; have := b3.size; have := b4.size; have := b5.size; omega
  have B15 := Lib.hid ((((b2.trans (b3.mono b2.size)).trans (b4.mono (by have := b2.size; have := b3.size; omega))).trans (b5.mono (by have := b2.size; have := b3.size; have := b4.size; omega))))
  have Hr5 := Lib.hid ((B15.out.block _ hzX).trans HrX.out)
  obtain ⟨A1, c1, A2, c2, A3, c3, A4, c4, rfl, hp⟩ := e5
  have HP := Lib.hid hp
  clear hp b2 b3 b4 b5 E2 Hbin Hbk
  simp only [S.BS.op, S.BS.n, S.BS.name, S.BS.exprs, S.BS.regs, S.BS.body, S.BS.els, List.length_cons, List.length_nil]
  have d0 : w5.cell? ⟨w.heap.size, 0, none⟩ = some (.string ⟨#[]⟩) := by rw [Lib.cell_of_heap Hr5.out]; rfl
  have f0 : w5.frozen? ⟨w.heap.size, 0, none⟩ = false := Lib.frozen_of_heap Hr5.out 0
  have d1 : w5.cell? ⟨w.heap.size, 1, none⟩ = some (.int .i64 0) := by rw [Lib.cell_of_heap Hr5.out]; rfl
  have f1 : w5.frozen? ⟨w.heap.size, 1, none⟩ = false := Lib.frozen_of_heap Hr5.out 1
  have d2 : w5.cell? ⟨w.heap.size, 2, none⟩ = some (.int .i64 0) := by rw [Lib.cell_of_heap Hr5.out]; rfl
  have f2 : w5.frozen? ⟨w.heap.size, 2, none⟩ = false := Lib.frozen_of_heap Hr5.out 2
  have d3 : w5.cell? ⟨w.heap.size, 3, none⟩ = some (.bool false) := by rw [Lib.cell_of_heap Hr5.out]; rfl
  have f3 : w5.frozen? ⟨w.heap.size, 3, none⟩ = false := Lib.frozen_of_heap Hr5.out 3
  have d4 : w5.cell? ⟨w.heap.size, 4, none⟩ = some (.slice none 0 0) := by rw [Lib.cell_of_heap Hr5.out]; rfl
  have f4 : w5.frozen? ⟨w.heap.size, 4, none⟩ = false := Lib.frozen_of_heap Hr5.out 4
  go_wp2_with fail
  (try simp only [Exit.inBlock, Exit.then])
  have hXz : (((((w5.setCell ⟨w.heap.size, 0, none⟩ (.string ⟨#[100, 111, 117, 98, 108, 101]⟩)).setCell ⟨w.heap.size, 1, none⟩ (.int .i64 1)).setCell ⟨w.heap.size, 2, none⟩ (.int .i64 1)).setCell ⟨w.heap.size, 3, none⟩ (.bool false)).setCell ⟨w.heap.size, 4, none⟩ (.slice (some ⟨w5.heap.size, 0, none⟩) 1 1)).heap.size = w5.heap.size := by simp [World.setCell]
  have hXk : ∀ k, k ≠ w.heap.size → (((((w5.setCell ⟨w.heap.size, 0, none⟩ (.string ⟨#[100, 111, 117, 98, 108, 101]⟩)).setCell ⟨w.heap.size, 1, none⟩ (.int .i64 1)).setCell ⟨w.heap.size, 2, none⟩ (.int .i64 1)).setCell ⟨w.heap.size, 3, none⟩ (.bool false)).setCell ⟨w.heap.size, 4, none⟩ (.slice (some ⟨w5.heap.size, 0, none⟩) 1 1)).heap[k]? = w5.heap[k]? := fun k hk => by
    rw [Below.heap_setCell _ _ _ _ hk, Below.heap_setCell _ _ _ _ hk, Below.heap_setCell _ _ _ _ hk, Below.heap_setCell _ _ _ _ hk, Below.heap_setCell _ _ _ _ hk]
  have hF : KeepP (Rng (w.heap.size + 1) w5.heap.size) w5 ((((((w5.setCell ⟨w.heap.size, 0, none⟩ (.string ⟨#[100, 111, 117, 98, 108, 101]⟩)).setCell ⟨w.heap.size, 1, none⟩ (.int .i64 1)).setCell ⟨w.heap.size, 2, none⟩ (.int .i64 1)).setCell ⟨w.heap.size, 3, none⟩ (.bool false)).setCell ⟨w.heap.size, 4, none⟩ (.slice (some ⟨w5.heap.size, 0, none⟩) 1 1)).alloc (.cells #[.int .i64 5, .int .i64 0, .string ⟨#[]⟩, .slice A1 1 c1, .slice A2 1 c2, .slice A3 0 c3, .slice A4 0 c4] 29)) := fun k o x hk hx => by
    rw [cell_congr (w := w5) (w' := (((((w5.setCell ⟨w.heap.size, 0, none⟩ (.string ⟨#[100, 111, 117, 98, 108, 101]⟩)).setCell ⟨w.heap.size, 1, none⟩ (.int .i64 1)).setCell ⟨w.heap.size, 2, none⟩ (.int .i64 1)).setCell ⟨w.heap.size, 3, none⟩ (.bool false)).setCell ⟨w.heap.size, 4, none⟩ (.slice (some ⟨w5.heap.size, 0, none⟩) 1 1)).alloc (.cells #[.int .i64 5, .int .i64 0, .string ⟨#[]⟩, .slice A1 1 c1, .slice A2 1 c2, .slice A3 0 c3, .slice A4 0 c4] 29)) ?_]
    · exact hx
    · rw [← hXk k (by have := hk.1; omega)]
      exact ((Below.refl _ _).alloc (Nat.le_refl _) _).block k (by rw [hXz]; exact hk.2)
  have hn := heap_alloc_new (((((w5.setCell ⟨w.heap.size, 0, none⟩ (.string ⟨#[100, 111, 117, 98, 108, 101]⟩)).setCell ⟨w.heap.size, 1, none⟩ (.int .i64 1)).setCell ⟨w.heap.size, 2, none⟩ (.int .i64 1)).setCell ⟨w.heap.size, 3, none⟩ (.bool false)).setCell ⟨w.heap.size, 4, none⟩ (.slice (some ⟨w5.heap.size, 0, none⟩) 1 1)) (.cells #[.int .i64 5, .int .i64 0, .string ⟨#[]⟩, .slice A1 1 c1, .slice A2 1 c2, .slice A3 0 c3, .slice A4 0 c4] 29)
  rw [hXz] at hn
  have hb : Below w.heap.size w ((((((w5.setCell ⟨w.heap.size, 0, none⟩ (.string ⟨#[100, 111, 117, 98, 108, 101]⟩)).setCell ⟨w.heap.size, 1, none⟩ (.int .i64 1)).setCell ⟨w.heap.size, 2, none⟩ (.int .i64 1)).setCell ⟨w.heap.size, 3, none⟩ (.bool false)).setCell ⟨w.heap.size, 4, none⟩ (.slice (some ⟨w5.heap.size, 0, none⟩) 1 1)).alloc (.cells #[.int .i64 5, .int .i64 0, .string ⟨#[]⟩, .slice A1 1 c1, .slice A2 1 c2, .slice A3 0 c3, .slice A4 0 c4] 29)) := by
    have b5 : Below w.heap.size w w5 := HbX.out.trans (B15.out.mono HbX.out.size)
    exact (((((b5.setCell (p := ⟨w.heap.size, 0, none⟩) (Nat.le_refl _) _).setCell (p := ⟨w.heap.size, 1, none⟩) (Nat.le_refl _) _).setCell (p := ⟨w.heap.size, 2, none⟩) (Nat.le_refl _) _).setCell (p := ⟨w.heap.size, 3, none⟩) (Nat.le_refl _) _).setCell (p := ⟨w.heap.size, 4, none⟩) (Nat.le_refl _) _).alloc (by rw [hXz]; omega) _
  have hFz2 : w5.heap.size < ((((((w5.setCell ⟨w.heap.size, 0, none⟩ (.string ⟨#[100, 111, 117, 98, 108, 101]⟩)).setCell ⟨w.heap.size, 1, none⟩ (.int .i64 1)).setCell ⟨w.heap.size, 2, none⟩ (.int .i64 1)).setCell ⟨w.heap.size, 3, none⟩ (.bool false)).setCell ⟨w.heap.size, 4, none⟩ (.slice (some ⟨w5.heap.size, 0, none⟩) 1 1)).alloc (.cells #[.int .i64 5, .int .i64 0, .string ⟨#[]⟩, .slice A1 1 c1, .slice A2 1 c2, .slice A3 0 c3, .slice A4 0 c4] 29)).heap.size := Nat.lt_of_lt_of_le (Nat.lt_succ_self _) (Nat.le_of_eq (by simp [World.setCell]))
  have hFz : w5.heap.size ≤ ((((((w5.setCell ⟨w.heap.size, 0, none⟩ (.string ⟨#[100, 111, 117, 98, 108, 101]⟩)).setCell ⟨w.heap.size, 1, none⟩ (.int .i64 1)).setCell ⟨w.heap.size, 2, none⟩ (.int .i64 1)).setCell ⟨w.heap.size, 3, none⟩ (.bool false)).setCell ⟨w.heap.size, 4, none⟩ (.slice (some ⟨w5.heap.size, 0, none⟩) 1 1)).alloc (.cells #[.int .i64 5, .int .i64 0, .string ⟨#[]⟩, .slice A1 1 c1, .slice A2 1 c2, .slice A3 0 c3, .slice A4 0 c4] 29)).heap.size := Nat.le_of_lt hFz2
  refine bodyPost_ret (v := rVal dbl (some ⟨w5.heap.size, 0, none⟩) 1) (by simp only [rVal, dbl, dblName, List.length_cons, List.length_nil]; simp only [results, Tryz.results15]; go_simp) rfl ⟨_, 1, rfl, ⟨?_, .inr ⟨w5.heap.size, 0, rfl, hFz2, ?_⟩, ?_⟩, hb⟩
  · show (6 : Nat) ≤ maxLen
    simp [maxLen]
  · obtain ⟨p1, p2, p3, p4, p5, p6, p7, p8, p9⟩ := HP.out
    have hlt : ∀ k, Rng (w.heap.size + 1) w5.heap.size k → k < ((((((w5.setCell ⟨w.heap.size, 0, none⟩ (.string ⟨#[100, 111, 117, 98, 108, 101]⟩)).setCell ⟨w.heap.size, 1, none⟩ (.int .i64 1)).setCell ⟨w.heap.size, 2, none⟩ (.int .i64 1)).setCell ⟨w.heap.size, 3, none⟩ (.bool false)).setCell ⟨w.heap.size, 4, none⟩ (.slice (some ⟨w5.heap.size, 0, none⟩) 1 1)).alloc (.cells #[.int .i64 5, .int .i64 0, .string ⟨#[]⟩, .slice A1 1 c1, .slice A2 1 c2, .slice A3 0 c3, .slice A4 0 c4] 29)).heap.size := fun k hk => Nat.lt_of_lt_of_le hk.2 hFz
    show SKids _ _ _ _ [dblStmt]
    rw [SKids, SKids, dblStmt, SCell]
    exact ⟨⟨by rw [Lib.cell_of_heap hn]; rfl, by rw [Lib.cell_of_heap hn]; rfl, by rw [Lib.cell_of_heap hn]; rfl, p1, p2, p3, p4, p5, ⟨A1, c1, by rw [Lib.cell_of_heap hn]; rfl, (p6.keep hF).to hlt⟩, ⟨A2, c2, by rw [Lib.cell_of_heap hn]; rfl, (p7.keep hF).to hlt⟩,
      ⟨A3, c3, by rw [Lib.cell_of_heap hn]; rfl, .inl rfl⟩, ⟨A4, c4, by rw [Lib.cell_of_heap hn]; rfl, .inl rfl⟩⟩, trivial⟩
  · show szSs [dblStmt] ≤ 1000000000
    simp [szSs, szS, dblStmt, dblExpr, szEs, szE]

end Go.Proofs.YtlldagdhlfpihaaGreatDoor
end
