/- Plain: what each item of an image does to a machine's registers and memory. No program in sight. -/
import Derived.Test.YtlldagdhlfpihaaGreatDoorZBMach
set_option linter.unusedVariables false
set_option linter.unusedSimpArgs false
set_option linter.unusedSectionVars false
namespace Go.Proofs.YtlldagdhlfpihaaGreatDoor
open Go.RowKit

namespace S
/-- A machine's registers, memory, input and output, as functions. -/
structure Vw where
  reg : Int → Int
  mem : Int → Int
  inp : List Int
  out : List Int
namespace Vw
def set (V : Vw) (d v : Int) : Vw := { V with reg := fun j => if j = d then v else V.reg j }
def sto (V : Vw) (a v : Int) : Vw := { V with mem := fun b => if b = a then v else V.mem b }
end Vw
/-- The byte that is read next. -/
def inByte : List Int → Int
  | [] => 4294967295
  | x :: _ => x
def Mach.mv (m : Mach) (a : Int) : Int := m.mem.getD a.toNat 0
/-- A machine that runs, at an address, whose registers (but 25) and memory are these. -/
structure On (I : Img) (m : Mach) (V : Vw) (a : Int) : Prop where
  ok : m.Ok
  run : m.state = 0
  len : (m.mem.length : Int) = I.size
  code : I.In m.mem
  place : m.place = a
  reg : ∀ j, 0 ≤ j → j ≤ 31 → j ≠ 25 → m.rd j = V.reg j
  mem : ∀ b, 0 ≤ b → b < I.size → m.mv b = V.mem b
  inp : m.input = V.inp
  out : m.out = V.out
/-- A machine that has halted. -/
structure Off (I : Img) (m : Mach) (V : Vw) (code : Int) : Prop where
  ok : m.Ok
  end_ : m.state = 1
  codeIs : m.code = code
  len : (m.mem.length : Int) = I.size
  code : I.In m.mem
  place : I.code m.place
  reg : ∀ j, 0 ≤ j → j ≤ 31 → j ≠ 25 → m.rd j = V.reg j
  mem : ∀ b, 0 ≤ b → b < I.size → m.mv b = V.mem b
  inp : m.input = V.inp
  out : m.out = V.out
/-- Within so many steps a machine comes from there to there. -/
def Go (I : Img) (V : Vw) (a : Int) (n : Nat) (V' : Vw) (a' : Int) : Prop := ∀ m, On I m V a → ∃ k, k ≤ n ∧ On I (m.steps_ k) V' a'
def GoH (I : Img) (V : Vw) (a : Int) (n : Nat) (V' : Vw) (code : Int) : Prop := ∀ m, On I m V a → ∃ k, k ≤ n ∧ Off I (m.steps_ k) V' code
end S

theorem go_refl (I : S.Img) (V : S.Vw) (a : Int) : S.Go I V a 0 V a := fun m h => ⟨0, Nat.le_refl _, h⟩
theorem S.Go.trans {I : S.Img} {V V' V2 : S.Vw} {a b c : Int} {n k : Nat} (h : S.Go I V a n V' b) (h2 : S.Go I V' b k V2 c) : S.Go I V a (n + k) V2 c := fun m hm => by
  obtain ⟨i, hi, h3⟩ := h m hm
  obtain ⟨j, hj, h4⟩ := h2 _ h3
  exact ⟨i + j, by omega, by rw [steps_add]; exact h4⟩
theorem S.Go.halt {I : S.Img} {V V' V2 : S.Vw} {a b c : Int} {n k : Nat} (h : S.Go I V a n V' b) (h2 : S.GoH I V' b k V2 c) : S.GoH I V a (n + k) V2 c := fun m hm => by
  obtain ⟨i, hi, h3⟩ := h m hm
  obtain ⟨j, hj, h4⟩ := h2 _ h3
  exact ⟨i + j, by omega, by rw [steps_add]; exact h4⟩
theorem S.Go.more {I : S.Img} {V V' : S.Vw} {a b : Int} {n k : Nat} (h : S.Go I V a n V' b) (hk : n ≤ k) : S.Go I V a k V' b := fun m hm => by
  obtain ⟨i, hi, h3⟩ := h m hm
  exact ⟨i, by omega, h3⟩
theorem S.GoH.more {I : S.Img} {V V' : S.Vw} {a b : Int} {n k : Nat} (h : S.GoH I V a n V' b) (hk : n ≤ k) : S.GoH I V a k V' b := fun m hm => by
  obtain ⟨i, hi, h3⟩ := h m hm
  exact ⟨i, by omega, h3⟩
/-- Only what may be seen counts. -/
theorem S.On.ext {I : S.Img} {m : S.Mach} {V V' : S.Vw} {a : Int} (h : S.On I m V a) (hr : ∀ j, 0 ≤ j → j ≤ 31 → j ≠ 25 → V.reg j = V'.reg j) (hm : ∀ b, 0 ≤ b → b < I.size → V.mem b = V'.mem b) (hi : V.inp = V'.inp) (ho : V.out = V'.out) : S.On I m V' a :=
  ⟨h.ok, h.run, h.len, h.code, h.place, fun j h0 h1 h2 => (h.reg j h0 h1 h2).trans (hr j h0 h1 h2), fun b h0 h1 => (h.mem b h0 h1).trans (hm b h0 h1), h.inp.trans hi, h.out.trans ho⟩
theorem S.Go.ext {I : S.Img} {V V' V2 : S.Vw} {a b : Int} {n : Nat} (h : S.Go I V a n V' b) (hr : ∀ j, 0 ≤ j → j ≤ 31 → j ≠ 25 → V'.reg j = V2.reg j) (hm : ∀ b, 0 ≤ b → b < I.size → V'.mem b = V2.mem b) (hi : V'.inp = V2.inp) (ho : V'.out = V2.out) : S.Go I V a n V2 b := fun m h0 => by
  obtain ⟨k, hk, h1⟩ := h m h0
  exact ⟨k, hk, h1.ext hr hm hi ho⟩
theorem S.On.rbd {I : S.Img} {m : S.Mach} {V : S.Vw} {a : Int} (h : S.On I m V a) {j : Int} (h0 : 0 ≤ j) (h1 : j ≤ 31) (h2 : j ≠ 25) : 0 ≤ V.reg j ∧ V.reg j ≤ 4294967295 := by
  rw [← h.reg j h0 h1 h2]
  exact h.ok.word _
theorem S.On.zero {I : S.Img} {m : S.Mach} {V : S.Vw} {a : Int} (h : S.On I m V a) : V.reg 0 = 0 := by
  rw [← h.reg 0 (by decide) (by decide) (by decide)]
  exact h.ok.zero
/-- A way that asks something of the registers which each machine has. -/
theorem go_if {I : S.Img} {V V' : S.Vw} {a b : Int} {n : Nat} (h : ∀ m, S.On I m V a → S.Go I V a n V' b) : S.Go I V a n V' b := fun m hm => h m hm m hm
section
variable {I : S.Img} (hI : I.Ok)
include hI
/-- What is done where a word of an item stands that is an instruction. -/
theorem on_fetch {m : S.Mach} {V : S.Vw} {a : Int} (h : S.On I m V a) {i j : Nat} (h0 : I.i0 ≤ i) (h1 : i < I.i1) {y : S.Inst} (hj : (S.wordsAt I.xs I.F 0 i)[j]? = some (S.wordOf y)) (ha : a = I.adr i + j) (hg : S.good y = true) (ht : (m.act y).2.2 = 0) :
    m.step = { (m.act y).1 with place := (m.act y).2.1, steps := m.steps + 1 } ∧ S.u32m (m.place + 1) = I.adr i + j + 1 := by
  have hlt := (List.getElem?_eq_some_iff.1 hj).1
  have hl := wordsAt_length (base := 0) (img_forms hI) (kinds_ok (img_first hI)) hI.words i
  have hn : I.adr (i + 1) = I.adr i + S.sizeAt I.xs I.F i := rfl
  have h2 := img_top hI (i := i + 1) (by have := hI.i1l; omega)
  have h3 := img_le hI (i := i + 1) (j := I.xs.length) (by have := hI.i1l; omega)
  have h4 := hI.size
  have h5 := img_0 hI i
  have hp := h.place
  have hlen := h.len
  refine ⟨step_inst h.run (by omega) ?_ hg ht, ?_⟩
  · have := h.code i h0 h1 j _ hj
    rw [← this, hp, ha]
    congr 1
    omega
  · unfold S.u32m
    omega
/-- What an instruction leaves that sets a register. -/
theorem on_put {m : S.Mach} {V : S.Vw} {a : Int} (h : S.On I m V a) {y : S.Inst} {d v p : Int} (hd : 0 < d) (hd2 : d ≤ 31) (hs : m.step = { (m.act y).1 with place := (m.act y).2.1, steps := m.steps + 1 })
    (hy : 0 ≤ y.d) (ha : m.act y = (m.put d v, p, 0)) : S.On I m.step (V.set d v) p := by
  have hk := actOk h.ok (x := y) hy
  rw [hs, ha]
  rw [ha] at hk
  have e : m.put d v = { m with reg := m.reg.set d.toNat v } := by unfold S.Mach.put; rw [if_neg (by omega)]
  refine ⟨placed hk.1 hk.2, by rw [e]; exact h.run, by rw [e]; exact h.len, by rw [e]; exact h.code, rfl, fun j h0 h1 h2 => ?_, by rw [e]; exact h.mem, by rw [e]; exact h.inp, by rw [e]; exact h.out⟩
  rw [e]
  show (m.reg.set d.toNat v).getD j.toNat 0 = if j = d then v else V.reg j
  have hr := h.ok.regs
  by_cases c : j = d
  · subst c
    rw [if_pos rfl]
    have : j.toNat < m.reg.length := by omega
    simp [this]
  · rw [if_neg c, ← h.reg j h0 h1 h2]
    have : ¬ d.toNat = j.toNat := by omega
    show _ = m.reg.getD j.toNat 0
    simp [this]
/-- What an instruction leaves that only goes on. -/
theorem on_same {m : S.Mach} {V : S.Vw} {a : Int} (h : S.On I m V a) {y : S.Inst} {p : Int} (hs : m.step = { (m.act y).1 with place := (m.act y).2.1, steps := m.steps + 1 })
    (hy : 0 ≤ y.d) (ha : m.act y = (m, p, 0)) : S.On I m.step V p := by
  have hk := actOk h.ok (x := y) hy
  rw [hs, ha]
  rw [ha] at hk
  exact ⟨placed hk.1 hk.2, h.run, h.len, h.code, rfl, h.reg, h.mem, h.inp, h.out⟩

/-! Items -/
section
variable {i : Nat} (h0 : I.i0 ≤ i) (h1 : i < I.i1)
include h0 h1
theorem wordsAt_inst {y : S.Inst} {s : ByteArray} {w : Int} (hx : I.xs[i]? = some ⟨1, y, s, w⟩) : S.wordsAt I.xs I.F 0 i = [S.wordOf y] ∧ S.good y = true ∧ I.adr (i + 1) = I.adr i + 1 := by
  have hc := img_chk hI hx
  refine ⟨?_, ?_, ?_⟩
  · unfold S.wordsAt
    rw [hx]
    rfl
  · by_cases g : S.good y = true
    · exact g
    · exfalso
      simp [S.chkItem, S.chk, g] at hc
  · rw [img_next hI hx]
    rfl
/-- An instruction that sets a register. -/
theorem go_put {V V' : S.Vw} {y : S.Inst} {s : ByteArray} {w : Int} (hx : I.xs[i]? = some ⟨1, y, s, w⟩) {d v : Int} (hd : 0 < d) (hd2 : d ≤ 31) (hy : 0 ≤ y.d)
    (ha : ∀ m, S.On I m V (I.adr i) → m.act y = (m.put d v, S.u32m (m.place + 1), 0)) : S.Go I V (I.adr i) 1 (V.set d v) (I.adr (i + 1)) := fun m hm => by
  obtain ⟨hw, hg, hn⟩ := wordsAt_inst hI h0 h1 hx
  have ha' := ha m hm
  obtain ⟨hs, hp⟩ := on_fetch hI hm h0 h1 (j := 0) (y := y) (by rw [hw]; rfl) (by simp) hg (by rw [ha'])
  refine ⟨1, Nat.le_refl _, ?_⟩
  have := on_put hI hm hd hd2 hs hy ha'
  rw [hp] at this
  rw [steps_one, hn]
  simpa using this
theorem go_alu {V : S.Vw} {op d a b : Int} {s : ByteArray} {w : Int} (hx : I.xs[i]? = some ⟨1, ⟨op, d, a, b, 0⟩, s, w⟩) (ho : op ≤ 14) (hd : 0 < d) (hd2 : d ≤ 31)
    (ha : 0 ≤ a ∧ a ≤ 31 ∧ a ≠ 25) (hb : 0 ≤ b ∧ b ≤ 31 ∧ b ≠ 25) (hz : V.reg b = 0 → op ≠ 5 ∧ op ≠ 6) :
    S.Go I V (I.adr i) 1 (V.set d (S.alu op (V.reg a) (V.reg b))) (I.adr (i + 1)) := by
  refine go_put (V' := V) hI h0 h1 hx hd hd2 (by show 0 ≤ d; omega) fun m hm => ?_
  have e1 := hm.reg a ha.1 ha.2.1 ha.2.2
  have e2 := hm.reg b hb.1 hb.2.1 hb.2.2
  unfold S.Mach.act
  simp only [e1, e2, if_pos ho]
  rw [if_neg (fun q => by have := hz q.1; omega)]
theorem go_imm {V : S.Vw} {op d a n : Int} {s : ByteArray} {w : Int} (hx : I.xs[i]? = some ⟨1, ⟨op, d, a, 0, n⟩, s, w⟩) (ho : 15 ≤ op ∧ op ≤ 22) (hd : 0 < d) (hd2 : d ≤ 31) (ha : 0 ≤ a ∧ a ≤ 31 ∧ a ≠ 25) :
    S.Go I V (I.adr i) 1 (V.set d (S.alu (S.like op) (V.reg a) (S.u32m n))) (I.adr (i + 1)) := by
  refine go_put (V' := V) hI h0 h1 hx hd hd2 (by show 0 ≤ d; omega) fun m hm => ?_
  have e1 := hm.reg a ha.1 ha.2.1 ha.2.2
  unfold S.Mach.act
  simp only [e1]
  rw [if_neg (by omega), if_pos ho.2]
theorem go_addi {V : S.Vw} {d a n : Int} {s : ByteArray} {w : Int} (hx : I.xs[i]? = some ⟨1, ⟨15, d, a, 0, n⟩, s, w⟩) (hd : 0 < d) (hd2 : d ≤ 31) (ha : 0 ≤ a ∧ a ≤ 31 ∧ a ≠ 25) :
    S.Go I V (I.adr i) 1 (V.set d (S.u32m (V.reg a + n))) (I.adr (i + 1)) := by
  have h := go_imm (V := V) hI h0 h1 hx (by decide) hd hd2 ha
  have e : S.alu (S.like 15) (V.reg a) (S.u32m n) = S.u32m (V.reg a + n) := by
    show S.u32m (V.reg a + S.u32m n) = _
    unfold S.u32m
    omega
  rw [e] at h
  exact h
theorem go_move {V : S.Vw} {d a : Int} {s : ByteArray} {w : Int} (hx : I.xs[i]? = some ⟨1, ⟨15, d, a, 0, 0⟩, s, w⟩) (hd : 0 < d) (hd2 : d ≤ 31) (ha : 0 ≤ a ∧ a ≤ 31 ∧ a ≠ 25) :
    S.Go I V (I.adr i) 1 (V.set d (V.reg a)) (I.adr (i + 1)) := go_if fun m hm => by
  have hb := hm.rbd ha.1 ha.2.1 ha.2.2
  have h := go_addi (V := V) hI h0 h1 hx hd hd2 ha
  have e : S.u32m (V.reg a + 0) = V.reg a := by unfold S.u32m; omega
  rw [e] at h
  exact h
theorem go_lui {V : S.Vw} {d n : Int} {s : ByteArray} {w : Int} (hx : I.xs[i]? = some ⟨1, ⟨23, d, 0, 0, n⟩, s, w⟩) (hd : 0 < d) (hd2 : d ≤ 31) (hn : 0 ≤ n ∧ n ≤ 65535) :
    S.Go I V (I.adr i) 1 (V.set d (n * 65536)) (I.adr (i + 1)) := by
  refine go_put (V' := V) hI h0 h1 hx hd hd2 (by show 0 ≤ d; omega) fun m hm => ?_
  have e : S.u32m (S.u32m n * 65536) = n * 65536 := by unfold S.u32m; omega
  unfold S.Mach.act
  simp [e]
theorem go_lw {V : S.Vw} {d a n p : Int} {s : ByteArray} {w : Int} (hx : I.xs[i]? = some ⟨1, ⟨24, d, a, 0, n⟩, s, w⟩) (hd : 0 < d) (hd2 : d ≤ 31) (ha : 0 ≤ a ∧ a ≤ 31 ∧ a ≠ 25)
    (hp : p = S.u32m (V.reg a + n)) (hp2 : p < I.size) : S.Go I V (I.adr i) 1 (V.set d (V.mem p)) (I.adr (i + 1)) := by
  have hp0 : 0 ≤ p := by rw [hp]; exact (u32_bd _).1
  refine go_put (V' := V) hI h0 h1 hx hd hd2 (by show 0 ≤ d; omega) fun m hm => ?_
  have e1 := hm.reg a ha.1 ha.2.1 ha.2.2
  have e2 : S.u32m (V.reg a + S.u32m n) = p := by rw [hp]; unfold S.u32m; omega
  have hl := hm.len
  have hv := hm.mem p hp0 hp2
  unfold S.Mach.mv at hv
  unfold S.Mach.act
  simp only [e1, e2]
  rw [if_neg (by decide), if_neg (by decide), if_neg (by decide), if_pos trivial, if_pos (by omega), hv]
theorem go_sw {V : S.Vw} {a b n p : Int} {s : ByteArray} {w : Int} (hx : I.xs[i]? = some ⟨1, ⟨25, 0, a, b, n⟩, s, w⟩) (ha : 0 ≤ a ∧ a ≤ 31 ∧ a ≠ 25) (hb : 0 ≤ b ∧ b ≤ 31 ∧ b ≠ 25)
    (hp : p = S.u32m (V.reg a + n)) (hp2 : p < I.size) (hc : ¬ I.code p) : S.Go I V (I.adr i) 1 (V.sto p (V.reg b)) (I.adr (i + 1)) := fun m hm => by
  have hp0 : 0 ≤ p := by rw [hp]; exact (u32_bd _).1
  obtain ⟨hw, hg, hn⟩ := wordsAt_inst hI h0 h1 hx
  have e1 := hm.reg a ha.1 ha.2.1 ha.2.2
  have e2 := hm.reg b hb.1 hb.2.1 hb.2.2
  have e3 : S.u32m (V.reg a + S.u32m n) = p := by rw [hp]; unfold S.u32m; omega
  have hl := hm.len
  have ha' : m.act ⟨25, 0, a, b, n⟩ = ({ m with mem := m.mem.set p.toNat (V.reg b) }, S.u32m (m.place + 1), 0) := by
    unfold S.Mach.act
    simp only [e1, e2, e3]
    rw [if_neg (by decide), if_neg (by decide), if_neg (by decide), if_neg (by decide), if_pos trivial, if_pos (by omega)]
  obtain ⟨hs, hp1⟩ := on_fetch hI hm h0 h1 (j := 0) (y := ⟨25, 0, a, b, n⟩) (by rw [hw]; rfl) (by simp) hg (by rw [ha'])
  have hk := actOk hm.ok (x := ⟨25, 0, a, b, n⟩) (Int.le_refl _)
  rw [ha'] at hk
  refine ⟨1, Nat.le_refl _, ?_⟩
  rw [steps_one, hs, ha', hn]
  refine ⟨placed hk.1 hk.2, hm.run, by simpa using hm.len, fun k k0 k1 j v hv => ?_, by show S.u32m (m.place + 1) = _; rw [hp1]; simp, hm.reg, fun q q0 q1 => ?_, hm.inp, hm.out⟩
  · have hold := hm.code k k0 k1 j v hv
    have hlt := (List.getElem?_eq_some_iff.1 hv).1
    have hlen := wordsAt_length (base := 0) (img_forms hI) (kinds_ok (img_first hI)) hI.words k
    have hnx : I.adr (k + 1) = I.adr k + S.sizeAt I.xs I.F k := rfl
    have l1 := img_le hI (i := I.i0) (j := k) k0
    have l2 := img_le hI (i := k + 1) (j := I.i1) k1
    have l3 := img_0 hI k
    have hne : ¬ p.toNat = (I.adr k).toNat + j := by
      intro e
      exact hc ⟨by omega, by omega⟩
    show (m.mem.set p.toNat (V.reg b)).getD _ 0 = v
    rw [← hold]
    simp only [List.getD_eq_getElem?_getD, List.getElem?_set_ne hne]
  · show (m.mem.set p.toNat (V.reg b)).getD q.toNat 0 = if q = p then V.reg b else V.mem q
    by_cases c : q = p
    · subst c
      rw [if_pos rfl]
      have : q.toNat < m.mem.length := by omega
      simp [this]
    · rw [if_neg c, ← hm.mem q q0 q1]
      have : ¬ p.toNat = q.toNat := by omega
      show _ = m.mem.getD q.toNat 0
      simp only [List.getD_eq_getElem?_getD, List.getElem?_set_ne this]
theorem go_in {V : S.Vw} {d : Int} {s : ByteArray} {w : Int} (hx : I.xs[i]? = some ⟨1, ⟨34, d, 0, 0, 0⟩, s, w⟩) (hd : 0 < d) (hd2 : d ≤ 31) :
    S.Go I V (I.adr i) 1 (({ V with inp := V.inp.tail } : S.Vw).set d (S.inByte V.inp)) (I.adr (i + 1)) := fun m hm => by
  obtain ⟨hw, hg, hn⟩ := wordsAt_inst hI h0 h1 hx
  have hin := hm.inp
  obtain ⟨v, hv⟩ : ∃ v, v = (S.inByte V.inp) := ⟨_, rfl⟩
  have ha' : m.act ⟨34, d, 0, 0, 0⟩ = (({ m with input := V.inp.tail } : S.Mach).put d v, S.u32m (m.place + 1), 0) := by
    unfold S.Mach.act
    simp only [hin]
    rw [if_neg (by decide), if_neg (by decide), if_neg (by decide), if_neg (by decide), if_neg (by decide), if_neg (by decide), if_neg (by decide), if_neg (by decide), if_pos trivial, hv]
    cases hV : V.inp with
    | nil =>
      rw [hV] at hin
      simp only [List.tail_nil]
      have : ({ m with input := [] } : S.Mach) = m := by rw [← hin]
      rw [this]
      rfl
    | cons x r => rfl
  obtain ⟨hs, hp1⟩ := on_fetch hI hm h0 h1 (j := 0) (y := ⟨34, d, 0, 0, 0⟩) (by rw [hw]; rfl) (by simp) hg (by rw [ha'])
  have hk := actOk hm.ok (x := ⟨34, d, 0, 0, 0⟩) (by show 0 ≤ d; omega)
  rw [ha'] at hk
  refine ⟨1, Nat.le_refl _, ?_⟩
  rw [steps_one, hs, ha', hn, ← hv]
  have e : ({ m with input := V.inp.tail } : S.Mach).put d v = { m with input := V.inp.tail, reg := m.reg.set d.toNat v } := by unfold S.Mach.put; rw [if_neg (by omega)]
  refine ⟨placed hk.1 hk.2, by rw [e]; exact hm.run, by rw [e]; exact hm.len, by rw [e]; exact hm.code, by show S.u32m (m.place + 1) = _; rw [hp1]; simp, fun j j0 j1 j2 => ?_, by rw [e]; exact hm.mem, by rw [e]; rfl, by rw [e]; exact hm.out⟩
  rw [e]
  show (m.reg.set d.toNat v).getD j.toNat 0 = if j = d then v else V.reg j
  have hr := hm.ok.regs
  by_cases c : j = d
  · subst c
    rw [if_pos rfl]
    have : j.toNat < m.reg.length := by omega
    simp [this]
  · rw [if_neg c, ← hm.reg j j0 j1 j2]
    have : ¬ d.toNat = j.toNat := by omega
    show _ = m.reg.getD j.toNat 0
    simp [this]
theorem go_out {V : S.Vw} {a : Int} {s : ByteArray} {w : Int} (hx : I.xs[i]? = some ⟨1, ⟨35, 0, a, 0, 0⟩, s, w⟩) (ha : 0 ≤ a ∧ a ≤ 31 ∧ a ≠ 25) :
    S.Go I V (I.adr i) 1 { V with out := V.out ++ [V.reg a % 256] } (I.adr (i + 1)) := fun m hm => by
  obtain ⟨hw, hg, hn⟩ := wordsAt_inst hI h0 h1 hx
  have e1 := hm.reg a ha.1 ha.2.1 ha.2.2
  have ha' : m.act ⟨35, 0, a, 0, 0⟩ = ({ m with out := m.out ++ [V.reg a % 256] }, S.u32m (m.place + 1), 0) := by
    unfold S.Mach.act
    simp only [e1]
    rw [if_neg (by decide), if_neg (by decide), if_neg (by decide), if_neg (by decide), if_neg (by decide), if_neg (by decide), if_neg (by decide), if_neg (by decide), if_neg (by decide), if_pos trivial]
  obtain ⟨hs, hp1⟩ := on_fetch hI hm h0 h1 (j := 0) (y := ⟨35, 0, a, 0, 0⟩) (by rw [hw]; rfl) (by simp) hg (by rw [ha'])
  have hk := actOk hm.ok (x := ⟨35, 0, a, 0, 0⟩) (Int.le_refl _)
  rw [ha'] at hk
  refine ⟨1, Nat.le_refl _, ?_⟩
  rw [steps_one, hs, ha', hn]
  exact ⟨placed hk.1 hk.2, hm.run, hm.len, hm.code, by show S.u32m (m.place + 1) = _; rw [hp1]; simp, hm.reg, hm.mem, hm.inp, by show m.out ++ _ = _; rw [hm.out]⟩
theorem go_halt {V : S.Vw} {a : Int} {s : ByteArray} {w : Int} (hx : I.xs[i]? = some ⟨1, ⟨36, 0, a, 0, 0⟩, s, w⟩) (ha : 0 ≤ a ∧ a ≤ 31 ∧ a ≠ 25) :
    S.GoH I V (I.adr i) 1 V (V.reg a) := fun m hm => by
  obtain ⟨hw, hg, hn⟩ := wordsAt_inst hI h0 h1 hx
  have e1 := hm.reg a ha.1 ha.2.1 ha.2.2
  have ha' : m.act ⟨36, 0, a, 0, 0⟩ = ({ m with state := 1, code := V.reg a }, m.place, 0) := by
    unfold S.Mach.act
    simp only [e1]
    rw [if_neg (by decide), if_neg (by decide), if_neg (by decide), if_neg (by decide), if_neg (by decide), if_neg (by decide), if_neg (by decide), if_neg (by decide), if_neg (by decide), if_neg (by decide)]
  obtain ⟨hs, hp1⟩ := on_fetch hI hm h0 h1 (j := 0) (y := ⟨36, 0, a, 0, 0⟩) (by rw [hw]; rfl) (by simp) hg (by rw [ha'])
  have hk := actOk hm.ok (x := ⟨36, 0, a, 0, 0⟩) (Int.le_refl _)
  rw [ha'] at hk
  refine ⟨1, Nat.le_refl _, ?_⟩
  rw [steps_one, hs, ha']
  have l1 := img_le hI h0
  have l2 := img_le hI (i := i + 1) (j := I.i1) h1
  have hp := hm.place
  exact ⟨placed hk.1 hk.2, rfl, rfl, hm.len, hm.code, ⟨by show I.adr I.i0 ≤ m.place; omega, by show m.place < I.adr I.i1; omega⟩, hm.reg, hm.mem, hm.inp, hm.out⟩
theorem go_jalr {V : S.Vw} {a n : Int} {s : ByteArray} {w : Int} (hx : I.xs[i]? = some ⟨1, ⟨33, 0, a, 0, n⟩, s, w⟩) (ha : 0 ≤ a ∧ a ≤ 31 ∧ a ≠ 25) :
    S.Go I V (I.adr i) 1 V (S.u32m (V.reg a + n)) := fun m hm => by
  obtain ⟨hw, hg, hn⟩ := wordsAt_inst hI h0 h1 hx
  have e1 := hm.reg a ha.1 ha.2.1 ha.2.2
  have e3 : S.u32m (V.reg a + S.u32m n) = S.u32m (V.reg a + n) := by unfold S.u32m; omega
  have ha' : m.act ⟨33, 0, a, 0, n⟩ = (m, S.u32m (V.reg a + n), 0) := by
    unfold S.Mach.act S.Mach.put
    simp [e1, e3]
  obtain ⟨hs, hp1⟩ := on_fetch hI hm h0 h1 (j := 0) (y := ⟨33, 0, a, 0, n⟩) (by rw [hw]; rfl) (by simp) hg (by rw [ha'])
  exact ⟨1, Nat.le_refl _, on_same hI hm hs (Int.le_refl _) ha'⟩
theorem go_label {V : S.Vw} {y : S.Inst} {s : ByteArray} {w : Int} (hx : I.xs[i]? = some ⟨2, y, s, w⟩) : S.Go I V (I.adr i) 0 V (I.adr (i + 1)) := by
  have e : I.adr (i + 1) = I.adr i := by
    rw [img_next hI hx]
    simp [S.size]
  rw [e]
  exact go_refl _ _ _
end

end

end Go.Proofs.YtlldagdhlfpihaaGreatDoor
