/- The machine of pennantref02 in memory: what lies where, and what each kind of write makes of it. -/
import Derived.Test.YtbgdomnalimjnaaMachN
set_option linter.unusedVariables false
set_option linter.unusedSimpArgs false
set_option linter.unusedSectionVars false
namespace Go.Proofs.Ytbgdomnalimjnaa
open Go.RowKit

/-- The cells of the document's machine. -/
def rCells (m : S.Mach) (vm : Value) (A : Option Addr) (c : Nat) (vo : Value) : List Value :=
  m.reg.map (Value.int .u32) ++ [vm, .int .u32 m.place, .slice A m.input.length c, vo, .int .i64 m.state, .int .u32 m.code, .int .i64 m.trap, .int .i64 m.steps]

/-- The document's machine in memory. -/
structure RAt (w : World) (B p : Nat) (vm vo : Value) (A : Option Addr) (c : Nat) (m : S.Mach) : Prop where
  ok : m.Ok
  low : B ≤ p
  blk : ∃ cs, w.heap[p]? = some (.cells cs 88 (0, 0)) ∧ cs.toList = rCells m vm A c vo
  mem : w.ownsRow B 34 1 vm m.mem.length (m.mem.map (Value.int .u32))
  out : w.ownsRow B 5 1 vo m.out.length (m.out.map (Value.int .u8))
  rin : Reads w w.heap.size A (m.input.map (Value.int .u8))
  inl : m.input.length ≤ 4611686018427387904
  inc : m.input.length ≤ c ∧ c ≤ 9223372036854775807
  low0 : m.mem.length ≤ 4611686018427387904
  la : ∀ b o s, A = some ⟨b, o, s⟩ → b < w.heap.size
  d1 : ∀ b o s, A = some ⟨b, o, s⟩ → b ≠ p ∧ vm.ownBlock ≠ some b ∧ vo.ownBlock ≠ some b
  d2 : vm.ownBlock ≠ some p ∧ vo.ownBlock ≠ some p

section
variable {w w' : World} {B p : Nat} {vm vo : Value} {A : Option Addr} {c : Nat} {m : S.Mach}

theorem rCells_len (h : m.Ok) : (rCells m vm A c vo).length = 40 := by simp [rCells, h.regs]
theorem RAt.cell (h : RAt w B p vm vo A c m) (k : Nat) : w.cell? ⟨p, k, none⟩ = (rCells m vm A c vo)[k]? := by
  obtain ⟨cs, h1, h2⟩ := h.blk
  rw [cell_of_row w p k cs _ (0, 0) h1, ← h2]
  simp
theorem RAt.fz (h : RAt w B p vm vo A c m) (k : Nat) : w.frozen? ⟨p, k, none⟩ = false := by
  obtain ⟨cs, h1, h2⟩ := h.blk
  exact frozen_of_row w p k cs _ h1
theorem RAt.lt (h : RAt w B p vm vo A c m) : p < w.heap.size := by
  obtain ⟨cs, h1, h2⟩ := h.blk
  exact (Array.getElem?_eq_some_iff.1 h1).1
theorem rCells_reg (h : m.Ok) {k : Nat} (hk : k < 32) : (rCells m vm A c vo)[k]? = some (.int .u32 (m.reg.getD k 0)) := by
  unfold rCells
  rw [List.getElem?_append_left (by simp [h.regs]; exact hk), List.getElem?_map]
  have : k < m.reg.length := by rw [h.regs]; exact hk
  simp [this]
theorem rCells_hi (h : m.Ok) (k : Nat) : (rCells m vm A c vo)[32 + k]? = ([vm, .int .u32 m.place, .slice A m.input.length c, vo, .int .i64 m.state, .int .u32 m.code, .int .i64 m.trap, .int .i64 m.steps] : List Value)[k]? := by
  unfold rCells
  rw [List.getElem?_append_right (by simp [h.regs])]
  simp [h.regs]
theorem RAt.reg (h : RAt w B p vm vo A c m) {k : Nat} (hk : k < 32) : w.cell? ⟨p, k, none⟩ = some (.int .u32 (m.reg.getD k 0)) := (h.cell k).trans (rCells_reg h.ok hk)
theorem RAt.hi (h : RAt w B p vm vo A c m) (k : Nat) : w.cell? ⟨p, 32 + k, none⟩ = ([vm, .int .u32 m.place, .slice A m.input.length c, vo, .int .i64 m.state, .int .u32 m.code, .int .i64 m.trap, .int .i64 m.steps] : List Value)[k]? := (h.cell _).trans (rCells_hi h.ok k)
/-- All the cells above the registers. -/
theorem RAt.cells (h : RAt w B p vm vo A c m) : w.cell? ⟨p, 32, none⟩ = some vm ∧ w.cell? ⟨p, 33, none⟩ = some (.int .u32 m.place) ∧ w.cell? ⟨p, 34, none⟩ = some (.slice A m.input.length c) ∧
    w.cell? ⟨p, 35, none⟩ = some vo ∧ w.cell? ⟨p, 36, none⟩ = some (.int .i64 m.state) ∧ w.cell? ⟨p, 37, none⟩ = some (.int .u32 m.code) ∧ w.cell? ⟨p, 38, none⟩ = some (.int .i64 m.trap) ∧ w.cell? ⟨p, 39, none⟩ = some (.int .i64 m.steps) :=
  ⟨h.hi 0, h.hi 1, h.hi 2, h.hi 3, h.hi 4, h.hi 5, h.hi 6, h.hi 7⟩
theorem RAt.memv (h : RAt w B p vm vo A c m) : ∃ g cap, vm = .slice (some ⟨g, 0, none⟩) m.mem.length cap ∧ g < w.heap.size ∧ (∀ i, i < m.mem.length → w.cell? ⟨g, i, none⟩ = some (.int .u32 (m.mem.getD i 0))) ∧ ∀ i, w.frozen? ⟨g, i, none⟩ = false := by
  have hm := h.ok.mem
  rcases h.mem.2 with ⟨_, h2⟩ | ⟨g, cap, cur, rfl, h3, h4, h5, h6, h7, h8⟩
  · omega
  · refine ⟨g, cap, rfl, (Array.getElem?_eq_some_iff.1 h4).1, fun i hi => ?_, fun i => h.mem.frozenAt i⟩
    rw [h.mem.cellAt i (by omega), List.getElem?_map]
    simp [hi]

/-- What a machine lies in stays: it stays. -/
theorem RAt.keep (h : RAt w B p vm vo A c m) (hz : w.heap.size ≤ w'.heap.size) (hb : ∀ k, (MFoot p vm vo k ∨ ∃ o s, A = some ⟨k, o, s⟩) → w'.heap[k]? = w.heap[k]?) : RAt w' B p vm vo A c m := by
  refine ⟨h.ok, h.low, ?_, ?_, ?_, ?_, h.inl, h.inc, h.low0, fun b o s e => Nat.lt_of_lt_of_le (h.la b o s e) hz, h.d1, h.d2⟩
  · obtain ⟨cs, h1, h2⟩ := h.blk
    exact ⟨cs, by rw [hb p (.inl (.inl rfl))]; exact h1, h2⟩
  · exact ownsRow_same h.mem fun k hk => hb k (.inl (.inr (.inl hk)))
  · exact ownsRow_same h.out fun k hk => hb k (.inl (.inr (.inr hk)))
  · exact h.rin.same hz fun b o s e => hb b (.inr ⟨o, s, e⟩)
theorem RAt.foot_lt (h : RAt w B p vm vo A c m) {k : Nat} (hk : MFoot p vm vo k) : B ≤ k ∧ k < w.heap.size := by
  rcases hk with rfl | hk | hk
  · exact ⟨h.low, h.lt⟩
  · exact h.mem.lt k hk
  · exact h.out.lt k hk
theorem RAt.below (h : RAt w B p vm vo A c m) (hb : Below w.heap.size w w') : RAt w' B p vm vo A c m := by
  refine h.keep hb.size fun k hk => hb.block k ?_
  rcases hk with hk | ⟨o, s, e⟩
  · exact (h.foot_lt hk).2
  · exact h.la k o s e

theorem rat_rows_ne (h : RAt w B p vm vo A c m) : vm.ownBlock = none ∨ vm.ownBlock ≠ vo.ownBlock := rows_ne h.mem h.out (by decide)
theorem RAt.mem_ne (h : RAt w B p vm vo A c m) {k : Nat} (hk : vm.ownBlock = some k) : k ≠ p ∧ vo.ownBlock ≠ some k := by
  refine ⟨fun e => h.d2.1 (e ▸ hk), fun e => ?_⟩
  rcases rat_rows_ne h with h1 | h1
  · rw [h1] at hk; cases hk
  · exact h1 (hk.trans e.symm)

/-- One cell of the machine's own block is written. -/
theorem RAt.stored (h : RAt w B p vm vo A c m) (k : Nat) (u : Value) {m' : S.Mach} (hok : m'.Ok) (hmem : m'.mem = m.mem) (hout : m'.out = m.out) (hin : m'.input = m.input)
    (hc : rCells m' vm A c vo = (rCells m vm A c vo).set k u) : RAt (w.setCell ⟨p, k, none⟩ u) B p vm vo A c m' := by
  have hsame : ∀ j, j ≠ p → (w.setCell ⟨p, k, none⟩ u).heap[j]? = w.heap[j]? := fun j hj => Below.heap_setCell _ _ _ _ hj
  refine ⟨hok, h.low, ?_, ?_, ?_, ?_, by rw [hin]; exact h.inl, by rw [hin]; exact h.inc, by rw [hmem]; exact h.low0, fun b o s e => by have := h.la b o s e; simpa [World.setCell] using this, h.d1, h.d2⟩
  · obtain ⟨cs, h1, h2⟩ := h.blk
    refine ⟨cs.setIfInBounds k u, heap_setCell_same w p k cs _ u h1, ?_⟩
    rw [Array.toList_setIfInBounds, h2, hc]
  · rw [hmem]
    exact ownsRow_same h.mem fun j hj => hsame j fun e => h.d2.1 (e ▸ hj)
  · rw [hout]
    exact ownsRow_same h.out fun j hj => hsame j fun e => h.d2.2 (e ▸ hj)
  · rw [hin]
    exact h.rin.same (by simp [World.setCell]) fun b o s e => hsame b (h.d1 b o s e).1
end

section
variable {w w' : World} {B p : Nat} {vm vo : Value} {A : Option Addr} {c : Nat} {m : S.Mach}
theorem RAt.drewN (h : RAt w B p vm vo A c m) (n : Nat) : RAt (w.drewN n) B p vm vo A c m := h.keep (Nat.le_refl _) fun _ _ => rfl
theorem RAt.drew (h : RAt w B p vm vo A c m) : RAt w.drew B p vm vo A c m := h.keep (Nat.le_refl _) fun _ _ => rfl
theorem RAt.put (h : RAt w B p vm vo A c m) {d v : Int} (h0 : 0 < d) (h1 : d < 32) (hv : 0 ≤ v ∧ v ≤ 4294967295) : RAt (w.setCell ⟨p, d.toNat, none⟩ (.int .u32 v)) B p vm vo A c (m.put d v) := by
  have hok := ok_put h.ok (d := d) (by omega) hv
  have e : m.put d v = { m with reg := m.reg.set d.toNat v } := by unfold S.Mach.put; rw [if_neg (by omega)]
  rw [e] at hok ⊢
  refine h.stored d.toNat _ hok rfl rfl rfl ?_
  unfold rCells
  rw [List.set_append_left _ _ (by simp [h.ok.regs]; omega), List.map_set]
theorem rset (h : m.Ok) (k : Nat) (u : Value) : m.reg.map (Value.int .u32) ++ ([vm, .int .u32 m.place, .slice A m.input.length c, vo, .int .i64 m.state, .int .u32 m.code, .int .i64 m.trap, .int .i64 m.steps] : List Value).set k u = (rCells m vm A c vo).set (32 + k) u :=
  (set_hi m.reg h.regs k _ u).symm
theorem RAt.fell (h : RAt w B p vm vo A c m) (t : Int) : RAt ((w.setCell ⟨p, 36, none⟩ (.int .i64 2)).setCell ⟨p, 38, none⟩ (.int .i64 t)) B p vm vo A c (m.fell t) := by
  have ok1 : ({ m with state := 2 } : S.Mach).Ok := ⟨h.ok.regs, h.ok.word, h.ok.zero, h.ok.mem, h.ok.memw, h.ok.place0, h.ok.place1, h.ok.inp, h.ok.outp, h.ok.code0, h.ok.code1⟩
  have h1 : RAt (w.setCell ⟨p, 36, none⟩ (.int .i64 2)) B p vm vo A c { m with state := 2 } := h.stored 36 _ ok1 rfl rfl rfl (rset h.ok 4 _)
  exact h1.stored 38 _ ⟨h.ok.regs, h.ok.word, h.ok.zero, h.ok.mem, h.ok.memw, h.ok.place0, h.ok.place1, h.ok.inp, h.ok.outp, h.ok.code0, h.ok.code1⟩ rfl rfl rfl (rset ok1 6 _)
theorem RAt.halted (h : RAt w B p vm vo A c m) {a : Int} (ha : 0 ≤ a ∧ a ≤ 4294967295) : RAt ((w.setCell ⟨p, 36, none⟩ (.int .i64 1)).setCell ⟨p, 37, none⟩ (.int .u32 a)) B p vm vo A c { m with state := 1, code := a } := by
  have ok1 : ({ m with state := 1 } : S.Mach).Ok := ⟨h.ok.regs, h.ok.word, h.ok.zero, h.ok.mem, h.ok.memw, h.ok.place0, h.ok.place1, h.ok.inp, h.ok.outp, h.ok.code0, h.ok.code1⟩
  have h1 : RAt (w.setCell ⟨p, 36, none⟩ (.int .i64 1)) B p vm vo A c { m with state := 1 } := h.stored 36 _ ok1 rfl rfl rfl (rset h.ok 4 _)
  exact h1.stored 37 _ ⟨h.ok.regs, h.ok.word, h.ok.zero, h.ok.mem, h.ok.memw, h.ok.place0, h.ok.place1, h.ok.inp, h.ok.outp, ha.1, ha.2⟩ rfl rfl rfl (rset ok1 5 _)
theorem RAt.went (h : RAt w B p vm vo A c m) {tt : Int} (ht : 0 ≤ tt ∧ tt ≤ 4294967295) : RAt (w.setCell ⟨p, 33, none⟩ (.int .u32 tt)) B p vm vo A c { m with place := tt } :=
  h.stored 33 _ ⟨h.ok.regs, h.ok.word, h.ok.zero, h.ok.mem, h.ok.memw, ht.1, ht.2, h.ok.inp, h.ok.outp, h.ok.code0, h.ok.code1⟩ rfl rfl rfl (rset h.ok 1 _)
theorem RAt.stepped (h : RAt w B p vm vo A c m) (n : Int) : RAt (w.setCell ⟨p, 39, none⟩ (.int .i64 n)) B p vm vo A c { m with steps := n } :=
  h.stored 39 _ ⟨h.ok.regs, h.ok.word, h.ok.zero, h.ok.mem, h.ok.memw, h.ok.place0, h.ok.place1, h.ok.inp, h.ok.outp, h.ok.code0, h.ok.code1⟩ rfl rfl rfl (rset h.ok 7 _)
/-- A byte of the input is read: the slice begins one later. -/
theorem RAt.readOn (h : RAt w B p vm vo A c m) {x : Int} {r : List Int} (hx : m.input = x :: r) {A' : Option Addr} (hA : ∃ b off, A = some ⟨b, off, none⟩ ∧ (A' = some ⟨b, off + 1, none⟩ ∨ (A' = some ⟨b, off, none⟩ ∧ r = []))) : RAt (w.setCell ⟨p, 34, none⟩ (.slice A' r.length (c - 1))) B p vm vo A' (c - 1) { m with input := r } := by
  obtain ⟨b, off, rfl, hA'⟩ := hA
  have hsame : ∀ j, j ≠ p → (w.setCell ⟨p, 34, none⟩ (.slice A' r.length (c - 1))).heap[j]? = w.heap[j]? := fun j hj => Below.heap_setCell _ _ _ _ hj
  have hb : ∀ b' o s, A' = some ⟨b', o, s⟩ → b' = b := by
    intro b' o s e
    rcases hA' with e2 | ⟨e2, _⟩
    all_goals
      rw [e2] at e
      cases e
      rfl
  have hl := h.inl
  have hc := h.inc
  rw [hx] at hl hc
  simp only [List.length_cons] at hl hc
  refine ⟨⟨h.ok.regs, h.ok.word, h.ok.zero, h.ok.mem, h.ok.memw, h.ok.place0, h.ok.place1, fun y hy => h.ok.inp y (by rw [hx]; exact List.mem_cons_of_mem _ hy), h.ok.outp, h.ok.code0, h.ok.code1⟩, h.low, ?_, ?_, ?_, ?_, ?_, ?_, h.low0, ?_, ?_, h.d2⟩
  · obtain ⟨cs, h1, h2⟩ := h.blk
    refine ⟨cs.setIfInBounds 34 (.slice A' r.length (c - 1)), heap_setCell_same w p 34 cs _ _ h1, ?_⟩
    rw [Array.toList_setIfInBounds, h2]
    exact (rset h.ok 2 _).symm
  · exact ownsRow_same h.mem fun j hj => hsame j fun e => h.d2.1 (e ▸ hj)
  · exact ownsRow_same h.out fun j hj => hsame j fun e => h.d2.2 (e ▸ hj)
  · intro hp
    have hr := h.rin
    rw [hx] at hr
    obtain ⟨b1, o1, e1, hb1, hc1⟩ := hr (by simp)
    cases e1
    rcases hA' with e2 | ⟨_, e2⟩
    · refine ⟨b, off + 1, e2, by simpa [World.setCell] using hb1, fun i y hy => ?_⟩
      rw [World.cell?_of_block (w := w) (a := ⟨b, off + 1 + i, none⟩) (hsame b (h.d1 b off none rfl).1)]
      have := hc1 (i + 1) y (by simpa using hy)
      rw [show off + 1 + i = off + (i + 1) by omega]
      exact this
    · rw [e2] at hp; simp at hp
  · show r.length ≤ _; omega
  · show r.length ≤ c - 1 ∧ _; omega
  · intro b' o s e
    have h1 := hb b' o s e
    have := h.la b off none rfl
    subst h1
    simpa [World.setCell] using this
  · intro b' o s e
    rw [hb b' o s e]
    exact h.d1 b off none rfl
/-- A word of the memory is written. -/
theorem RAt.sw (h : RAt w B p vm vo A c m) {g cap i : Nat} (hv : vm = .slice (some ⟨g, 0, none⟩) m.mem.length cap) {b : Int} (hb : 0 ≤ b ∧ b ≤ 4294967295) (hi : i < m.mem.length) :
    RAt (w.setCell ⟨g, i, none⟩ (.int .u32 b)) B p vm vo A c { m with mem := m.mem.set i b } := by
  subst hv
  obtain ⟨n1, n2⟩ := h.mem_ne (k := g) rfl
  obtain ⟨s1, s2⟩ := h.mem.stored i (.int .u32 b)
  have hsame : ∀ j, j ≠ g → (w.setCell ⟨g, i, none⟩ (.int .u32 b)).heap[j]? = w.heap[j]? := fun j hj => Below.heap_setCell _ _ _ _ hj
  refine ⟨⟨h.ok.regs, h.ok.word, h.ok.zero, by simpa using h.ok.mem, fun j => ?_, h.ok.place0, h.ok.place1, h.ok.inp, h.ok.outp, h.ok.code0, h.ok.code1⟩, h.low, ?_, ?_, ?_, ?_, h.inl, h.inc, by simpa using h.low0, fun b o s e => by have := h.la b o s e; simpa [World.setCell] using this, h.d1, h.d2⟩
  · show 0 ≤ (m.mem.set i b).getD j 0 ∧ (m.mem.set i b).getD j 0 ≤ 4294967295
    rw [getD_set]
    split
    · exact hb
    · exact h.ok.memw j
  · obtain ⟨cs, h1, h2⟩ := h.blk
    exact ⟨cs, by rw [hsame p (Ne.symm n1)]; exact h1, h2⟩
  · simp only [List.length_set, List.map_set]
    exact s1
  · exact ownsRow_same h.out fun j hj => hsame j fun e => n2 (e ▸ hj)
  · exact h.rin.same (by simp [World.setCell]) fun b' o s e => hsame b' fun e2 => (h.d1 b' o s e).2.1 (by rw [e2]; rfl)
/-- The output grows: behind the append, and behind the store of what it gives. -/
theorem RAt.told (h : RAt w B p vm vo A c m) {vo' : Value} {x : Int} (hx : 0 ≤ x ∧ x ≤ 255) (ho : w'.ownsRow B 5 1 vo' (m.out.length + 1) (m.out.map (Value.int .u8) ++ [.int .u8 x])) (hg : w.grownBy w' vo.ownBlock)
    (hb : vo'.ownBlock = vo.ownBlock ∨ ∃ k, w.heap.size ≤ k ∧ vo'.ownBlock = some k) :
    RAt (w'.setCell ⟨p, 35, none⟩ vo') B p vm vo' A c { m with out := m.out ++ [x] } := by
  have hkeep : ∀ j, j < w.heap.size → vo.ownBlock ≠ some j → w'.heap[j]? = w.heap[j]? := fun j hj hn => hg.block j hj (fun e => hn e.symm)
  have hset : ∀ j, j ≠ p → (w'.setCell ⟨p, 35, none⟩ vo').heap[j]? = w'.heap[j]? := fun j hj => Below.heap_setCell _ _ _ _ hj
  have hlt := h.lt
  have hvop : vo'.ownBlock ≠ some p := by
    rcases hb with e | ⟨k, hk, e⟩
    · rw [e]; exact h.d2.2
    · rw [e]; intro q; cases q; omega
  refine ⟨⟨h.ok.regs, h.ok.word, h.ok.zero, h.ok.mem, h.ok.memw, h.ok.place0, h.ok.place1, h.ok.inp, fun y hy => ?_, h.ok.code0, h.ok.code1⟩, h.low, ?_, ?_, ?_, ?_, h.inl, h.inc, h.low0, fun b o s e => by have h1 := h.la b o s e; have h2 := hg.size; simp only [World.setCell]; simp; omega, fun b o s e => ?_, h.d2.1, hvop⟩
  · rcases List.mem_append.1 hy with hy | hy
    · exact h.ok.outp y hy
    · rw [List.mem_singleton.1 hy]; exact hx
  · obtain ⟨cs, h1, h2⟩ := h.blk
    have h1' : w'.heap[p]? = some (.cells cs 88 (0, 0)) := by rw [hkeep p hlt h.d2.2]; exact h1
    refine ⟨cs.setIfInBounds 35 vo', heap_setCell_same w' p 35 cs _ vo' h1', ?_⟩
    rw [Array.toList_setIfInBounds, h2]
    exact (rset h.ok 3 _).symm
  · refine ownsRow_same h.mem fun j hj => ?_
    obtain ⟨n1, n2⟩ := h.mem_ne hj
    rw [hset j n1]
    exact hkeep j (h.mem.lt j hj).2 n2
  · show (w'.setCell ⟨p, 35, none⟩ vo').ownsRow B 5 1 vo' (m.out ++ [x]).length ((m.out ++ [x]).map (Value.int .u8))
    rw [List.length_append, List.map_append]
    exact ownsRow_setCell_other ho hvop _
  · exact h.rin.same (by have := hg.size; simpa [World.setCell] using this) fun b o s e => by
      obtain ⟨d1, d2, d3⟩ := h.d1 b o s e
      rw [hset b d1]
      exact hkeep b (h.la b o s e) d3
  · obtain ⟨d1, d2, d3⟩ := h.d1 b o s e
    refine ⟨d1, d2, ?_⟩
    rcases hb with e2 | ⟨k, hk, e2⟩
    · rw [e2]; exact d3
    · rw [e2]
      intro q
      cases q
      have := h.la b o s e
      omega
end

end Go.Proofs.Ytbgdomnalimjnaa
