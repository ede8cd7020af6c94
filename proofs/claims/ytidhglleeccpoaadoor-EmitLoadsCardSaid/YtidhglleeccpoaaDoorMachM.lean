/- The machine of package mach in memory: what lies where, and what each kind of write makes of it. -/
import Derived.Test.YtidhglleeccpoaaDoorMachB
import Derived.Test.YtidhglleeccpoaaDoorOwnC
import Derived.Test.YtidhglleeccpoaaDoorProg
set_option linter.unusedVariables false
set_option linter.unusedSimpArgs false
set_option linter.unusedSectionVars false
namespace Go.Proofs.YtidhglleeccpoaaDoor
open Go.RowKit

/-- Blocks outside of a set stay as they were. -/
structure Only (F : Nat → Prop) (w w' : World) : Prop where
  os : w'.os = w.os
  tape : w'.tape = w.tape
  output : w'.output = w.output
  size : w.heap.size ≤ w'.heap.size
  block : ∀ k, k < w.heap.size → ¬ F k → w'.heap[k]? = w.heap[k]?

theorem Only.refl (F : Nat → Prop) (w : World) : Only F w w := ⟨rfl, rfl, rfl, Nat.le_refl _, fun _ _ _ => rfl⟩
theorem Only.trans {F G : Nat → Prop} {a b c : World} (h : Only F a b) (k : Only G b c) (hG : ∀ i, i < a.heap.size → G i → F i) : Only F a c :=
  ⟨k.os.trans h.os, k.tape.trans h.tape, k.output.trans h.output, Nat.le_trans h.size k.size, fun i hi hn => (k.block i (Nat.lt_of_lt_of_le hi h.size) (fun hg => hn (hG i hi hg))).trans (h.block i hi hn)⟩
theorem Only.of_below {F : Nat → Prop} {w w' : World} (h : Below w.heap.size w w') : Only F w w' := ⟨h.os, h.tape, h.output, h.size, fun k hk _ => h.block k hk⟩
theorem Only.setCell {F : Nat → Prop} (w : World) {p : Addr} (hp : F p.block) (u : Value) : Only F w (w.setCell p u) :=
  ⟨rfl, rfl, rfl, by simp [World.setCell], fun k _ hn => Below.heap_setCell _ _ _ _ (fun e => hn (e ▸ hp))⟩
theorem Only.of_grown {F : Nat → Prop} {w w' : World} {row : Option Nat} (hg : w.grownBy w' row) (hr : ∀ k, row = some k → F k) : Only F w w' :=
  ⟨hg.os, hg.tape, hg.output, hg.size, fun k hk hn => hg.block k hk (fun e => hn (hr k e.symm))⟩
theorem Only.below {F : Nat → Prop} {w w' : World} {B : Nat} (h : Only F w w') (hB : B ≤ w.heap.size) (hF : ∀ k, F k → B ≤ k) : Below B w w' :=
  ⟨h.os, h.tape, h.output, h.size, fun k hk => h.block k (by omega) (fun hf => by have := hF k hf; omega)⟩
theorem Only.weaken {F G : Nat → Prop} {w w' : World} (h : Only F w w') (hFG : ∀ k, k < w.heap.size → F k → G k) : Only G w w' :=
  ⟨h.os, h.tape, h.output, h.size, fun k hk hn => h.block k hk (fun hf => hn (hFG k hk hf))⟩

theorem ownsRow_same {w w' : World} {base : Nat} {e : TypeId} {size : Nat} {v : Value} {n : Nat} {xs : List Value} (h : w.ownsRow base e size v n xs) (hb : ∀ k, v.ownBlock = some k → w'.heap[k]? = w.heap[k]?) : w'.ownsRow base e size v n xs := by
  refine ⟨h.1, ?_⟩
  rcases h.2 with h2 | ⟨g, cap, cur, rfl, h3, h4, h5⟩
  · exact .inl h2
  · exact .inr ⟨g, cap, cur, rfl, h3, by rw [hb g rfl]; exact h4, h5⟩

/-- The cells of a machine. -/
def mCells (m : S.Mach) (vm : Value) (A : Option Addr) (l c rd : Nat) (vo : Value) : List Value :=
  m.reg.map (Value.int .u32) ++ [vm, .int .u32 m.place, .slice A l c, .int .i64 rd, vo, .int .i64 m.state, .int .u32 m.code, .int .i64 m.trap, .int .i64 m.steps]

/-- A machine in memory. -/
structure MAt (w : World) (B p : Nat) (vm vo : Value) (A : Option Addr) (c : Nat) (inp : List Int) (rd : Nat) (m : S.Mach) : Prop where
  ok : m.Ok
  low : B ≤ p
  blk : ∃ cs, w.heap[p]? = some (.cells cs 73 (0, 0)) ∧ cs.toList = mCells m vm A inp.length c rd vo
  mem : w.ownsRow B 22 1 vm m.mem.length (m.mem.map (Value.int .u32))
  out : w.ownsRow B 5 1 vo m.out.length (m.out.map (Value.int .u8))
  rin : Reads w w.heap.size A (inp.map (Value.int .u8))
  left : m.input = inp.drop rd
  rdle : rd ≤ inp.length
  inl : inp.length ≤ 4611686018427387904
  low0 : m.mem.length ≤ 4611686018427387904
  la : ∀ b o s, A = some ⟨b, o, s⟩ → b < w.heap.size
  d1 : ∀ b o s, A = some ⟨b, o, s⟩ → b ≠ p ∧ vm.ownBlock ≠ some b ∧ vo.ownBlock ≠ some b
  d2 : vm.ownBlock ≠ some p ∧ vo.ownBlock ≠ some p

/-- What a machine may write. -/
def MFoot (p : Nat) (vm vo : Value) (k : Nat) : Prop := k = p ∨ vm.ownBlock = some k ∨ vo.ownBlock = some k

theorem Reads.same {w w' : World} {A : Option Addr} {xs : List Value} (h : Reads w w.heap.size A xs) (hz : w.heap.size ≤ w'.heap.size) (hb : ∀ b o s, A = some ⟨b, o, s⟩ → w'.heap[b]? = w.heap[b]?) : Reads w' w'.heap.size A xs := fun hp => by
  obtain ⟨b, off, e, hbB, hc⟩ := h hp
  exact ⟨b, off, e, by omega, fun i x hx => (World.cell?_of_block (w := w) (a := ⟨b, off + i, none⟩) (hb b off none e)).trans (hc i x hx)⟩

section
variable {w w' : World} {B p : Nat} {vm vo : Value} {A : Option Addr} {c : Nat} {inp : List Int} {rd : Nat} {m : S.Mach}

theorem mCells_len (h : m.Ok) (l : Nat) : (mCells m vm A l c rd vo).length = 41 := by simp [mCells, h.regs]
theorem MAt.cell (h : MAt w B p vm vo A c inp rd m) (k : Nat) : w.cell? ⟨p, k, none⟩ = (mCells m vm A inp.length c rd vo)[k]? := by
  obtain ⟨cs, h1, h2⟩ := h.blk
  rw [cell_of_row w p k cs _ (0, 0) h1, ← h2]
  simp
theorem MAt.fz (h : MAt w B p vm vo A c inp rd m) (k : Nat) : w.frozen? ⟨p, k, none⟩ = false := by
  obtain ⟨cs, h1, h2⟩ := h.blk
  exact frozen_of_row w p k cs _ h1
theorem MAt.lt (h : MAt w B p vm vo A c inp rd m) : p < w.heap.size := by
  obtain ⟨cs, h1, h2⟩ := h.blk
  exact (Array.getElem?_eq_some_iff.1 h1).1
theorem mCells_reg (h : m.Ok) (l : Nat) {k : Nat} (hk : k < 32) : (mCells m vm A l c rd vo)[k]? = some (.int .u32 (m.reg.getD k 0)) := by
  unfold mCells
  rw [List.getElem?_append_left (by simp [h.regs]; exact hk), List.getElem?_map]
  have : k < m.reg.length := by rw [h.regs]; exact hk
  simp [this]
theorem mCells_hi (h : m.Ok) (l : Nat) (k : Nat) : (mCells m vm A l c rd vo)[32 + k]? = ([vm, .int .u32 m.place, .slice A l c, .int .i64 rd, vo, .int .i64 m.state, .int .u32 m.code, .int .i64 m.trap, .int .i64 m.steps] : List Value)[k]? := by
  unfold mCells
  rw [List.getElem?_append_right (by simp [h.regs])]
  simp [h.regs]
theorem MAt.reg (h : MAt w B p vm vo A c inp rd m) {k : Nat} (hk : k < 32) : w.cell? ⟨p, k, none⟩ = some (.int .u32 (m.reg.getD k 0)) := (h.cell k).trans (mCells_reg h.ok _ hk)
theorem MAt.hi (h : MAt w B p vm vo A c inp rd m) (k : Nat) : w.cell? ⟨p, 32 + k, none⟩ = ([vm, .int .u32 m.place, .slice A inp.length c, .int .i64 rd, vo, .int .i64 m.state, .int .u32 m.code, .int .i64 m.trap, .int .i64 m.steps] : List Value)[k]? := (h.cell _).trans (mCells_hi h.ok _ k)
/-- All the cells above the registers. -/
theorem MAt.cells (h : MAt w B p vm vo A c inp rd m) : w.cell? ⟨p, 32, none⟩ = some vm ∧ w.cell? ⟨p, 33, none⟩ = some (.int .u32 m.place) ∧ w.cell? ⟨p, 34, none⟩ = some (.slice A inp.length c) ∧ w.cell? ⟨p, 35, none⟩ = some (.int .i64 rd) ∧
    w.cell? ⟨p, 36, none⟩ = some vo ∧ w.cell? ⟨p, 37, none⟩ = some (.int .i64 m.state) ∧ w.cell? ⟨p, 38, none⟩ = some (.int .u32 m.code) ∧ w.cell? ⟨p, 39, none⟩ = some (.int .i64 m.trap) ∧ w.cell? ⟨p, 40, none⟩ = some (.int .i64 m.steps) :=
  ⟨h.hi 0, h.hi 1, h.hi 2, h.hi 3, h.hi 4, h.hi 5, h.hi 6, h.hi 7, h.hi 8⟩
theorem MAt.memv (h : MAt w B p vm vo A c inp rd m) : ∃ g cap, vm = .slice (some ⟨g, 0, none⟩) m.mem.length cap ∧ g < w.heap.size ∧ (∀ i, i < m.mem.length → w.cell? ⟨g, i, none⟩ = some (.int .u32 (m.mem.getD i 0))) ∧ ∀ i, w.frozen? ⟨g, i, none⟩ = false := by
  have hm := h.ok.mem
  rcases h.mem.2 with ⟨_, h2⟩ | ⟨g, cap, cur, rfl, h3, h4, h5, h6, h7, h8⟩
  · omega
  · refine ⟨g, cap, rfl, (Array.getElem?_eq_some_iff.1 h4).1, fun i hi => ?_, fun i => h.mem.frozenAt i⟩
    rw [h.mem.cellAt i (by omega), List.getElem?_map]
    simp [hi]

/-- What a machine lies in stays: it stays. -/
theorem MAt.keep (h : MAt w B p vm vo A c inp rd m) (hz : w.heap.size ≤ w'.heap.size) (hb : ∀ k, (MFoot p vm vo k ∨ ∃ o s, A = some ⟨k, o, s⟩) → w'.heap[k]? = w.heap[k]?) : MAt w' B p vm vo A c inp rd m := by
  refine ⟨h.ok, h.low, ?_, ?_, ?_, ?_, h.left, h.rdle, h.inl, h.low0, fun b o s e => Nat.lt_of_lt_of_le (h.la b o s e) hz, h.d1, h.d2⟩
  · obtain ⟨cs, h1, h2⟩ := h.blk
    exact ⟨cs, by rw [hb p (.inl (.inl rfl))]; exact h1, h2⟩
  · exact ownsRow_same h.mem fun k hk => hb k (.inl (.inr (.inl hk)))
  · exact ownsRow_same h.out fun k hk => hb k (.inl (.inr (.inr hk)))
  · exact h.rin.same hz fun b o s e => hb b (.inr ⟨o, s, e⟩)
theorem MAt.foot_lt (h : MAt w B p vm vo A c inp rd m) {k : Nat} (hk : MFoot p vm vo k) : B ≤ k ∧ k < w.heap.size := by
  rcases hk with rfl | hk | hk
  · exact ⟨h.low, h.lt⟩
  · exact h.mem.lt k hk
  · exact h.out.lt k hk
theorem MAt.below (h : MAt w B p vm vo A c inp rd m) (hb : Below w.heap.size w w') : MAt w' B p vm vo A c inp rd m := by
  refine h.keep hb.size fun k hk => hb.block k ?_
  rcases hk with hk | ⟨o, s, e⟩
  · exact (h.foot_lt hk).2
  · exact h.la k o s e

theorem mat_rows_ne (h : MAt w B p vm vo A c inp rd m) : vm.ownBlock = none ∨ vm.ownBlock ≠ vo.ownBlock := rows_ne h.mem h.out (by decide)
theorem MAt.mem_ne (h : MAt w B p vm vo A c inp rd m) {k : Nat} (hk : vm.ownBlock = some k) : k ≠ p ∧ vo.ownBlock ≠ some k := by
  refine ⟨fun e => h.d2.1 (e ▸ hk), fun e => ?_⟩
  rcases mat_rows_ne h with h1 | h1
  · rw [h1] at hk; cases hk
  · exact h1 (hk.trans e.symm)

/-- One cell of the machine's own block is written. -/
theorem MAt.stored (h : MAt w B p vm vo A c inp rd m) (k : Nat) (u : Value) {m' : S.Mach} {rd' : Nat} (hok : m'.Ok) (hmem : m'.mem = m.mem) (hout : m'.out = m.out) (hl : m'.input = inp.drop rd') (hr : rd' ≤ inp.length)
    (hc : mCells m' vm A inp.length c rd' vo = (mCells m vm A inp.length c rd vo).set k u) : MAt (w.setCell ⟨p, k, none⟩ u) B p vm vo A c inp rd' m' := by
  have hsame : ∀ j, j ≠ p → (w.setCell ⟨p, k, none⟩ u).heap[j]? = w.heap[j]? := fun j hj => Below.heap_setCell _ _ _ _ hj
  refine ⟨hok, h.low, ?_, ?_, ?_, ?_, hl, hr, h.inl, by rw [hmem]; exact h.low0, fun b o s e => by have := h.la b o s e; simpa [World.setCell] using this, h.d1, h.d2⟩
  · obtain ⟨cs, h1, h2⟩ := h.blk
    refine ⟨cs.setIfInBounds k u, heap_setCell_same w p k cs _ u h1, ?_⟩
    rw [Array.toList_setIfInBounds, h2, hc]
  · rw [hmem]
    exact ownsRow_same h.mem fun j hj => hsame j fun e => h.d2.1 (e ▸ hj)
  · rw [hout]
    exact ownsRow_same h.out fun j hj => hsame j fun e => h.d2.2 (e ▸ hj)
  · exact h.rin.same (by simp [World.setCell]) fun b o s e => hsame b (h.d1 b o s e).1
end

end Go.Proofs.YtidhglleeccpoaaDoor
