/- The machine of package mach: walks of Step, Run. -/
import Derived.Test.YtlldagdhlfpihaaGreatDoorZMachP
import Derived.Test.YtlldagdhlfpihaaGreatDoorZIsaE
set_option linter.unusedVariables false
set_option linter.unusedSimpArgs false
set_option linter.unusedSectionVars false
namespace Go.Proofs.YtlldagdhlfpihaaGreatDoor
open Go.RowKit

theorem dec_ok {n : Int} (h : S.decE n = 0) : 1 ≤ (S.dec n).op ∧ (S.dec n).op ≤ 36 ∧ 0 ≤ (S.dec n).d ∧ (S.dec n).d ≤ 31 ∧ 0 ≤ (S.dec n).a ∧ (S.dec n).a ≤ 31 ∧ 0 ≤ (S.dec n).b ∧ (S.dec n).b ≤ 31 := by
  have hB : S.decB n = true := by
    unfold S.decE at h
    split at h
    · assumption
    · omega
  have hg : S.good (S.raw n) = true := by
    unfold S.decB at hB
    simp only [Bool.and_eq_true] at hB
    exact hB.1
  have e : S.dec n = S.raw n := by unfold S.dec; rw [if_pos hB]
  rw [e]
  obtain ⟨h1, h2, h3, h4, h5, h6, h7, h8, _⟩ := good_ways (op := (S.raw n).op) (d := (S.raw n).d) (a := (S.raw n).a) (b := (S.raw n).b) (imm := (S.raw n).imm) hg
  exact ⟨h1, h2, h3, h4, h5, h6, h7, h8⟩

theorem act_ways (m : S.Mach) (op d a b imm : Int) : m.act ⟨op, d, a, b, imm⟩ = (m, 0, 4) ∨ m.act ⟨op, d, a, b, imm⟩ = (m, 0, 2) ∨ (∃ v, m.act ⟨op, d, a, b, imm⟩ = (m.put d v, S.u32m (m.place + 1), 0)) ∨ (∃ l, m.act ⟨op, d, a, b, imm⟩ = ({ m with mem := l }, S.u32m (m.place + 1), 0)) ∨
    (∃ x, m.act ⟨op, d, a, b, imm⟩ = (m, S.u32m x, 0)) ∨ (∃ v x, m.act ⟨op, d, a, b, imm⟩ = (m.put d v, S.u32m x, 0)) ∨ (∃ v r, m.act ⟨op, d, a, b, imm⟩ = (({ m with input := r } : S.Mach).put d v, S.u32m (m.place + 1), 0)) ∨
    (∃ o, m.act ⟨op, d, a, b, imm⟩ = ({ m with out := o }, S.u32m (m.place + 1), 0) ∧ o.length = m.out.length + 1) ∨ (∃ v, m.act ⟨op, d, a, b, imm⟩ = ({ m with state := 1, code := v }, m.place, 0)) := by
  unfold S.Mach.act
  simp only
  by_cases h1 : op ≤ 14
  · rw [if_pos h1]
    by_cases h2 : m.rd b = 0 ∧ (op = 5 ∨ op = 6)
    · rw [if_pos h2]; exact .inl rfl
    · rw [if_neg h2]; exact .inr (.inr (.inl ⟨_, rfl⟩))
  rw [if_neg h1]
  by_cases h2 : op ≤ 22
  · rw [if_pos h2]; exact .inr (.inr (.inl ⟨_, rfl⟩))
  rw [if_neg h2]
  by_cases h3 : op = 23
  · rw [if_pos h3]; exact .inr (.inr (.inl ⟨_, rfl⟩))
  rw [if_neg h3]
  by_cases h4 : op = 24
  · rw [if_pos h4]
    by_cases h5 : S.u32m (m.rd a + S.u32m imm) < m.mem.length
    · rw [if_pos h5]; exact .inr (.inr (.inl ⟨_, rfl⟩))
    · rw [if_neg h5]; exact .inr (.inl rfl)
  rw [if_neg h4]
  by_cases h5 : op = 25
  · rw [if_pos h5]
    by_cases h6 : S.u32m (m.rd a + S.u32m imm) < m.mem.length
    · rw [if_pos h6]; exact .inr (.inr (.inr (.inl ⟨_, rfl⟩)))
    · rw [if_neg h6]; exact .inr (.inl rfl)
  rw [if_neg h5]
  by_cases h6 : op ≤ 31
  · rw [if_pos h6]
    by_cases h7 : S.goes op (m.rd a) (m.rd b) = true
    · rw [if_pos h7]; exact .inr (.inr (.inr (.inr (.inl ⟨_, rfl⟩))))
    · rw [if_neg h7]; exact .inr (.inr (.inr (.inr (.inl ⟨_, rfl⟩))))
  rw [if_neg h6]
  by_cases h7 : op = 32
  · rw [if_pos h7]; exact .inr (.inr (.inr (.inr (.inr (.inl ⟨_, _, rfl⟩)))))
  rw [if_neg h7]
  by_cases h8 : op = 33
  · rw [if_pos h8]; exact .inr (.inr (.inr (.inr (.inr (.inl ⟨_, _, rfl⟩)))))
  rw [if_neg h8]
  by_cases h9 : op = 34
  · rw [if_pos h9]
    cases hi : m.input with
    | nil => exact .inr (.inr (.inl ⟨_, rfl⟩))
    | cons x r => exact .inr (.inr (.inr (.inr (.inr (.inr (.inl ⟨_, _, rfl⟩))))))
  rw [if_neg h9]
  by_cases h10 : op = 35
  · rw [if_pos h10]; exact .inr (.inr (.inr (.inr (.inr (.inr (.inr (.inl ⟨_, rfl, by simp⟩)))))))
  rw [if_neg h10]
  exact .inr (.inr (.inr (.inr (.inr (.inr (.inr (.inr ⟨_, rfl⟩)))))))
theorem put_steps (m : S.Mach) (d v : Int) : (m.put d v).steps = m.steps := by unfold S.Mach.put; split <;> rfl
theorem act_bd {m : S.Mach} (h : m.Ok) {op d a b imm : Int} : 0 ≤ (m.act ⟨op, d, a, b, imm⟩).2.1 ∧ (m.act ⟨op, d, a, b, imm⟩).2.1 ≤ 4294967295 := by
  rcases act_ways m op d a b imm with e | e | ⟨v, e⟩ | ⟨l, e⟩ | ⟨x, e⟩ | ⟨v, x, e⟩ | ⟨v, r, e⟩ | ⟨o, e, eo⟩ | ⟨v, e⟩
  all_goals rw [e]
  · simp
  · simp
  all_goals first | exact u32_bd _ | exact ⟨h.place0, h.place1⟩
theorem act_keeps (m : S.Mach) (op d a b imm : Int) : (m.act ⟨op, d, a, b, imm⟩).1.steps = m.steps := by
  rcases act_ways m op d a b imm with e | e | ⟨v, e⟩ | ⟨l, e⟩ | ⟨x, e⟩ | ⟨v, x, e⟩ | ⟨v, r, e⟩ | ⟨o, e, eo⟩ | ⟨v, e⟩
  all_goals rw [e]
  all_goals first | rfl | exact put_steps _ _ _
theorem act_trap (m : S.Mach) (op d a b imm : Int) (h : (m.act ⟨op, d, a, b, imm⟩).2.2 ≠ 0) : (m.act ⟨op, d, a, b, imm⟩).1 = m := by
  rcases act_ways m op d a b imm with e | e | ⟨v, e⟩ | ⟨l, e⟩ | ⟨x, e⟩ | ⟨v, x, e⟩ | ⟨v, r, e⟩ | ⟨o, e, eo⟩ | ⟨v, e⟩
  all_goals rw [e] at h ⊢
  all_goals exact absurd rfl h
theorem put_out (m : S.Mach) (d v : Int) : (m.put d v).out = m.out := by unfold S.Mach.put; split <;> rfl
theorem act_out (m : S.Mach) (op d a b imm : Int) : (m.act ⟨op, d, a, b, imm⟩).1.out.length ≤ m.out.length + 1 := by
  rcases act_ways m op d a b imm with e | e | ⟨v, e⟩ | ⟨l, e⟩ | ⟨x, e⟩ | ⟨v, x, e⟩ | ⟨v, r, e⟩ | ⟨o, e, eo⟩ | ⟨v, e⟩
  all_goals rw [e]
  all_goals simp only [put_out]
  all_goals omega
theorem step_grow (m : S.Mach) : m.step.out.length ≤ m.out.length + 1 ∧ m.steps ≤ m.step.steps ∧ m.step.steps ≤ m.steps + 1 := by
  unfold S.Mach.step
  by_cases h1 : m.state ≠ 0
  · rw [if_pos h1]; omega
  rw [if_neg h1]
  by_cases h2 : (m.mem.length : Int) ≤ m.place
  · rw [if_pos h2]; simp only [S.Mach.fell]; omega
  rw [if_neg h2]
  by_cases h3 : S.decE (m.mem.getD m.place.toNat 0) ≠ 0
  · rw [if_pos h3]; simp only [S.Mach.fell]; omega
  rw [if_neg h3]
  by_cases h4 : (m.act (S.dec (m.mem.getD m.place.toNat 0))).2.2 ≠ 0
  · rw [if_pos h4]; simp only [S.Mach.fell]; omega
  rw [if_neg h4]
  have := act_out m (S.dec (m.mem.getD m.place.toNat 0)).op (S.dec (m.mem.getD m.place.toNat 0)).d (S.dec (m.mem.getD m.place.toNat 0)).a (S.dec (m.mem.getD m.place.toNat 0)).b (S.dec (m.mem.getD m.place.toNat 0)).imm
  exact ⟨this, by show m.steps ≤ m.steps + 1; omega, Int.le_refl _⟩
theorem steps_grow (m : S.Mach) : ∀ k : Nat, (m.steps_ k).out.length ≤ m.out.length + k ∧ m.steps ≤ (m.steps_ k).steps ∧ (m.steps_ k).steps ≤ m.steps + k
  | 0 => by simp [S.Mach.steps_]
  | k + 1 => by
    obtain ⟨h1, h2, h3⟩ := steps_grow m k
    obtain ⟨g1, g2, g3⟩ := step_grow (m.steps_ k)
    show (m.steps_ k).step.out.length ≤ _ ∧ _ ≤ (m.steps_ k).step.steps ∧ (m.steps_ k).step.steps ≤ _
    omega
theorem step_stop {m : S.Mach} (h : m.state ≠ 0) : m.step = m := by unfold S.Mach.step; rw [if_pos h]
theorem steps_stop {m : S.Mach} {k : Nat} (h : (m.steps_ k).state ≠ 0) : ∀ j : Nat, m.steps_ (k + j) = m.steps_ k
  | 0 => rfl
  | j + 1 => by
    have := steps_stop h j
    show (m.steps_ (k + j)).step = _
    rw [this, step_stop h]
theorem set5 {w : World} {b : Nat} {cs : Array Value} {t : TypeId} (h : w.heap[b]? = some (.cells cs t (0, 0))) (hs : cs.size = 5) (v0 v1 v2 v3 v4 : Value) {w' : World}
    (he : w' = (((((w.setCell ⟨b, 0, none⟩ v0).setCell ⟨b, 1, none⟩ v1).setCell ⟨b, 2, none⟩ v2).setCell ⟨b, 3, none⟩ v3).setCell ⟨b, 4, none⟩ v4)) :
    b < w'.heap.size ∧ (w'.cell? ⟨b, 0, none⟩ = some v0 ∧ w'.cell? ⟨b, 1, none⟩ = some v1 ∧ w'.cell? ⟨b, 2, none⟩ = some v2 ∧ w'.cell? ⟨b, 3, none⟩ = some v3 ∧ w'.cell? ⟨b, 4, none⟩ = some v4) ∧ Below b w w' := by
  subst he
  have h1 := heap_setCell_same w b 0 cs t v0 h
  have h2 := heap_setCell_same _ b 1 _ t v1 h1
  have h3 := heap_setCell_same _ b 2 _ t v2 h2
  have h4 := heap_setCell_same _ b 3 _ t v3 h3
  have h5 := heap_setCell_same _ b 4 _ t v4 h4
  refine ⟨(Array.getElem?_eq_some_iff.1 h5).1, ⟨?_, ?_, ?_, ?_, ?_⟩, ?_⟩
  · rw [blk_cellM h5]; simp [hs]
  · rw [blk_cellM h5]; simp [hs]
  · rw [blk_cellM h5]; simp [hs]
  · rw [blk_cellM h5]; simp [hs]
  · rw [blk_cellM h5]; simp [hs]
  · exact ((((((Below.refl b w).setCell (p := ⟨b, 0, none⟩) (Nat.le_refl _) _).setCell (p := ⟨b, 1, none⟩) (Nat.le_refl _) _).setCell (p := ⟨b, 2, none⟩) (Nat.le_refl _) _).setCell (p := ⟨b, 3, none⟩) (Nat.le_refl _) _).setCell (p := ⟨b, 4, none⟩) (Nat.le_refl _) _)
theorem alloc5 (w : World) (t : TypeId) (v0 v1 v2 v3 v4 : Value) {w' : World} (he : w' = w.alloc (.cells #[v0, v1, v2, v3, v4] t)) :
    w.heap.size < w'.heap.size ∧ (w'.cell? ⟨w.heap.size, 0, none⟩ = some v0 ∧ w'.cell? ⟨w.heap.size, 1, none⟩ = some v1 ∧ w'.cell? ⟨w.heap.size, 2, none⟩ = some v2 ∧ w'.cell? ⟨w.heap.size, 3, none⟩ = some v3 ∧ w'.cell? ⟨w.heap.size, 4, none⟩ = some v4) ∧ Below w.heap.size w w' := by
  subst he
  obtain ⟨x1, x2, x3⟩ := one_allocM w #[v0, v1, v2, v3, v4] t
  exact ⟨by omega, ⟨by rw [blk_cellM x1]; rfl, by rw [blk_cellM x1]; rfl, by rw [blk_cellM x1]; rfl, by rw [blk_cellM x1]; rfl, by rw [blk_cellM x1]; rfl⟩, x2⟩
/-- The instruction's block, made behind the call. -/
theorem inst_after {w1 w2 w' : World} {t : TypeId} {v0 v1 v2 v3 v4 : Value} (hb : Below w1.drew.heap.size w1.drew w2) (he : w' = w2.alloc (.cells #[v0, v1, v2, v3, v4] t)) :
    w2.heap.size < w'.heap.size ∧ (w'.cell? ⟨w2.heap.size, 0, none⟩ = some v0 ∧ w'.cell? ⟨w2.heap.size, 1, none⟩ = some v1 ∧ w'.cell? ⟨w2.heap.size, 2, none⟩ = some v2 ∧ w'.cell? ⟨w2.heap.size, 3, none⟩ = some v3 ∧ w'.cell? ⟨w2.heap.size, 4, none⟩ = some v4) ∧ Below w1.heap.size w1 w' := by
  obtain ⟨h1, h2, h3⟩ := alloc5 w2 t v0 v1 v2 v3 v4 he
  have hb' : Below w1.heap.size w1.drew w2 := hb
  exact ⟨h1, h2, (((Below.refl _ _).drew).trans hb').trans (h3.mono hb'.size)⟩
/-- The instruction's block, made ahead of the call. -/
theorem inst_before {w1 w2 w' : World} {t : TypeId} {z v0 v1 v2 v3 v4 : Value} (hb0 : Below (w1.alloc (.cells #[z, z, z, z, z] t)).drew.heap.size (w1.alloc (.cells #[z, z, z, z, z] t)).drew w2)
    (he : w' = (((((w2.setCell ⟨w1.heap.size, 0, none⟩ v0).setCell ⟨w1.heap.size, 1, none⟩ v1).setCell ⟨w1.heap.size, 2, none⟩ v2).setCell ⟨w1.heap.size, 3, none⟩ v3).setCell ⟨w1.heap.size, 4, none⟩ v4)) :
    w1.heap.size < w'.heap.size ∧ (w'.cell? ⟨w1.heap.size, 0, none⟩ = some v0 ∧ w'.cell? ⟨w1.heap.size, 1, none⟩ = some v1 ∧ w'.cell? ⟨w1.heap.size, 2, none⟩ = some v2 ∧ w'.cell? ⟨w1.heap.size, 3, none⟩ = some v3 ∧ w'.cell? ⟨w1.heap.size, 4, none⟩ = some v4) ∧ Below w1.heap.size w1 w' := by
  have hz : (w1.alloc (.cells #[z, z, z, z, z] t)).heap.size = w1.heap.size + 1 := by simp
  have hb : Below (w1.heap.size + 1) (w1.alloc (.cells #[z, z, z, z, z] t)) w2 := by
    rw [← hz]
    exact ((Below.refl _ _).drew).trans hb0
  have hk : w2.heap[w1.heap.size]? = some (.cells #[z, z, z, z, z] t (0, 0)) := (hb.block w1.heap.size (Nat.lt_succ_self _)).trans (heap_alloc_new w1 (.cells #[z, z, z, z, z] t))
  obtain ⟨h1, h2, h3⟩ := set5 hk rfl v0 v1 v2 v3 v4 he
  exact ⟨h1, h2, (((Below.refl w1.heap.size w1).alloc (Nat.le_refl w1.heap.size) _).trans (hb.mono (Nat.le_succ _))).trans h3⟩

section
variable {w w' : World} {B p : Nat} {vm vo : Value} {A : Option Addr} {c : Nat} {inp : List Int} {rd : Nat} {m : S.Mach}

def StepPost (w : World) (B p : Nat) (vm vo : Value) (A : Option Addr) (c : Nat) (inp : List Int) (m' : S.Mach) (e : Ending) (w' : World) : Prop :=
  e = .returned (.int .i64 m'.state) ∧ ∃ vo' rd', MAt w' B p vm vo' A c inp rd' m' ∧ Only (MFoot p vm vo) w w' ∧ (vo'.ownBlock = vo.ownBlock ∨ ∃ k, w.heap.size ≤ k ∧ vo'.ownBlock = some k)

set_option maxRecDepth 100000 in
set_option maxHeartbeats 8000000 in
theorem mach_Step (h : MAt w B p vm vo A c inp rd m) (hol : m.out.length ≤ 1000000000) (hst : 0 ≤ m.steps ∧ m.steps ≤ 1000000000) :
    Calls Tryz.prog 25 #[.pointer (some ⟨p, 0, none⟩)] w (StepPost w B p vm vo A c inp m.step) := by
  have hpw := h.lt
  have hp0 := h.ok.place0
  have hp1 := h.ok.place1
  have hl0 := h.low0
  obtain ⟨g, cap, hvm, hg, hmc, hfz⟩ := h.memv
  obtain ⟨c32, c33, _, _, _, c37, _, _, _⟩ := h.cells
  by_cases hs : m.state = 0
  rotate_left
  · have d1 : (m.state != 0) = true := by simpa using hs
    have Hst := Lib.hid (show m.step = m by unfold S.Mach.step; rw [if_pos hs])
    clear hs hmc
    go_enter Tryz.func25, Tryz.ntmps25
    go_wp2_with fail
    refine (mach_is h).mono ?_
    rintro e w2 ⟨rfl, rfl⟩
    go_wp2_with fail
    go_ret
    rw [Hst.out]
    exact ⟨rfl, vo, rd, h, Only.refl _ _, .inl rfl⟩
  · have d1 : (m.state != 0) = false := by simp [hs]
    have Hs := Lib.hid hs
    have hw1 : IntKind.u64.wrap m.place = m.place := by simp [IntKind.wrap, IntKind.signed, IntKind.bits]; omega
    have hw2 : IntKind.u64.wrap (m.mem.length : Int) = m.mem.length := by simp [IntKind.wrap, IntKind.signed, IntKind.bits]; omega
    have Hvm := Lib.hid hvm
    have Hmc := Lib.hid hmc
    rw [hvm] at c32
    clear hs hvm hmc
    by_cases hpl : (m.mem.length : Int) ≤ m.place
    · have Hst := Lib.hid (show m.step = m.fell 3 by unfold S.Mach.step; rw [if_neg (by simp [Hs.out]), if_pos hpl])
      go_enter Tryz.func25, Tryz.ntmps25
      go_wp2_with fail
      refine (mach_is h).mono ?_
      rintro e w2 ⟨rfl, rfl⟩
      go_wp2_with fail
      go_quiet (fail)
      go_wp2_with fail
      refine (mach_fell 3 (h.drewN _)).mono ?_
      rintro e w3 ⟨rfl, hM3, hO3⟩
      go_wp2_with fail
      go_ret
      rw [Hst.out]
      exact ⟨rfl, vo, rd, hM3, (Only.drewN _ _).trans (foot_p hO3) (fun _ _ h => h), .inl rfl⟩
    · obtain ⟨t, ht⟩ : ∃ t : Nat, m.place = t := ⟨m.place.toNat, by omega⟩
      have htl : t < m.mem.length := by omega
      have Hdl := Lib.hid (show decide (m.mem.length ≤ t) = false by simpa using htl)
      have hmt := Hmc.out t htl
      have hmw := h.ok.memw t
      have HE : Hid (m.mem.getD m.place.toNat 0 = m.mem.getD t 0 ∧ ¬ (m.mem.length : Int) ≤ m.place) := Lib.hid ⟨by rw [ht, Int.toNat_natCast], hpl⟩
      have Ht := Lib.hid ht
      rw [ht] at c33 hw1 hpl
      clear ht hp0 hp1 Hmc
      generalize m.mem.getD t 0 = mw at *
      obtain ⟨mw0, mw1⟩ := hmw
      go_enter Tryz.func25, Tryz.ntmps25
      go_wp2_with fail
      refine (mach_is h).mono ?_
      rintro e w2 ⟨rfl, rfl⟩
      go_wp2_with fail
      go_quiet (fail)
      go_upto_region 7 with fail
      have hM1 := h.drewN nq
      have hO1 := Only.drewN (F := MFoot p vm vo) w nq
      have c32' : (w.drewN nq).cell? ⟨p, 32, none⟩ = some (.slice (some ⟨g, 0, none⟩) m.mem.length cap) := c32
      have c33' : (w.drewN nq).cell? ⟨p, 33, none⟩ = some (.int .u32 t) := c33
      have hmt' : (w.drewN nq).cell? ⟨g, t, none⟩ = some (.int .u32 mw) := hmt
      have hpw' : p < (w.drewN nq).heap.size := hpw
      have hg' : g < (w.drewN nq).heap.size := hg
      have hz1 : w.heap.size ≤ (w.drewN nq).heap.size := Nat.le_refl _
      generalize w.drewN nq = w1 at *
      clear c32 c33 hmt c37
      rw [Hdl.out]
      go_cut [3, 4] from 36 to 49 (fun v3 v4 wc => ∃ nb, v3 = .pointer (some ⟨nb, 0, none⟩) ∧ v4 = .int .i64 (S.decE mw) ∧ nb < wc.heap.size ∧ (wc.cell? ⟨nb, 0, none⟩ = some (.int .i64 (S.dec mw).op) ∧ wc.cell? ⟨nb, 1, none⟩ = some (.int .i64 (S.dec mw).d) ∧ wc.cell? ⟨nb, 2, none⟩ = some (.int .i64 (S.dec mw).a) ∧ wc.cell? ⟨nb, 3, none⟩ = some (.int .i64 (S.dec mw).b) ∧ wc.cell? ⟨nb, 4, none⟩ = some (.int .i64 (S.dec mw).imm)) ∧ Below w1.heap.size w1 wc)
      case first =>
        go_region_with (go_at_call 57; refine (isa_Decode _ _ mw0 mw1).mono ?_; rintro e w2 ⟨rfl, hb2⟩; obtain ⟨hq1, hq2⟩ := bcell hb2; have hz2 := hb2.size)
        all_goals
          simp only [List.getElem_toArray, List.getElem_cons_succ, List.getElem_cons_zero, Act.put, List.setIfInBounds_toArray, List.set_cons_succ, List.set_cons_zero]
          go_wp2_with fail
          go_meet
          first
            | (refine ⟨w2.heap.size, by kernel_rfl, by kernel_rfl, ?_⟩; with_reducible exact inst_after hb2 rfl)
            | (refine ⟨w1.heap.size, by kernel_rfl, by kernel_rfl, ?_⟩; with_reducible exact inst_before hb2 rfl)
            | skip
      case rest =>
        obtain ⟨nb, rfl, rfl, hnb, ⟨q0, q1, q2, q3, q4⟩, hbc⟩ := hcut
        have hM2 := hM1.below hbc
        have hO2 := hO1.trans (Only.of_below (F := MFoot p vm vo) hbc) (fun _ _ h => h)
        by_cases hE0 : S.decE mw = 0
        · obtain ⟨o1, o2, d1, d2, a1, a2, b1, b2⟩ := dec_ok hE0
          have Hst0 : Hid (m.step = if (m.act (S.dec mw)).2.2 ≠ 0 then m.fell (m.act (S.dec mw)).2.2 else { (m.act (S.dec mw)).1 with place := (m.act (S.dec mw)).2.1, steps := m.steps + 1 }) := Lib.hid (by
            unfold S.Mach.step
            rw [if_neg (by simp [Hs.out]), if_neg (by have := HE.out.2; omega), HE.out.1, if_neg (by simp [hE0])])
          generalize hdw : S.dec mw = dw at *
          obtain ⟨op, dd, da, db, imm⟩ := dw
          simp only at o1 o2 d1 d2 a1 a2 b1 b2 q0 q1 q2 q3 q4
          rw [hE0]
          have hdo := mach_do op dd da db imm hM2 ⟨o1, o2⟩ ⟨d1, by omega⟩ ⟨a1, by omega⟩ ⟨b1, by omega⟩ hol
          have hto := act_bd (op := op) (d := dd) (a := da) (b := db) (imm := imm) h.ok
          have hks := act_keeps m op dd da db imm
          have hmt := act_trap m op dd da db imm
          generalize m.act ⟨op, dd, da, db, imm⟩ = r at *
          obtain ⟨m2, tt, tr⟩ := r
          simp only at hto hks hmt Hst0
          have Hdo := Lib.hid hdo
          clear hdo hE0 hdw
          go_wp2_with fail
          refine Hdo.out.mono ?_
          rintro e w3 ⟨rfl, vo', rd', hM3, hO3, hv3⟩
          have hO13 := hO2.trans hO3 (fun _ _ h => h)
          have hv3' : vo'.ownBlock = vo.ownBlock ∨ ∃ k, w.heap.size ≤ k ∧ vo'.ownBlock = some k := by
            rcases hv3 with e | ⟨k, hk, e⟩
            · exact .inl e
            · exact .inr ⟨k, by have := hO2.size; omega, e⟩
          have hvf : ∀ k, k < w.heap.size → vo'.ownBlock = some k → vo.ownBlock = some k := by
            intro k hk e
            rcases hv3' with e2 | ⟨k2, hk2, e2⟩
            · rw [← e2]; exact e
            · rw [e2] at e; cases e; omega
          clear Hdo
          simp only
          by_cases htr : tr = 0
          · subst htr
            have Hst := Lib.hid (show m.step = { m2 with place := tt, steps := m.steps + 1 } by rw [Hst0.out, if_neg (by simp)])
            have hW := hM3.went hto
            have f33 := hM3.fz 33
            obtain ⟨_, e33, _, _, _, _, _, _, _⟩ := hM3.cells
            have f40 := hW.fz 40
            obtain ⟨_, _, _, _, _, e37, _, _, e40⟩ := hW.cells
            have hpw3 := hM3.lt
            have hS := hW.stepped (m.steps + 1)
            obtain ⟨_, _, _, _, _, g37, _, _, _⟩ := hS.cells
            simp only [hks] at e40
            have HS := Lib.hid hS
            clear hS hW
            go_wp2_with fail
            go_ret
            rw [Hst.out]
            exact ⟨rfl, vo', rd', HS.out, hO13.trans ((Only.setCell (F := MFoot p vm vo) _ (.inl rfl) _).trans (Only.setCell (F := MFoot p vm vo) _ (.inl rfl) _) (fun _ _ h => h)) (fun _ _ h => h), hv3'⟩
          · have dT : (tr != 0) = true := by simpa using htr
            have Hst := Lib.hid (show m.step = m.fell tr by rw [Hst0.out, if_pos htr])
            have hm2 : m2 = m := hmt htr
            clear htr
            go_wp2_with fail
            refine (mach_fell tr hM3).mono ?_
            rintro e w4 ⟨rfl, hM4, hO4⟩
            go_wp2_with fail
            go_ret
            rw [Hst.out]
            rw [hm2] at hM4
            exact ⟨rfl, vo', rd', hM4, hO13.trans (foot_p hO4) (fun _ _ h => h), hv3'⟩
        · have dE := int_bneM hE0
          have Hst := Lib.hid (show m.step = m.fell 1 by
            unfold S.Mach.step
            rw [if_neg (by simp [Hs.out]), if_neg (by have := HE.out.2; omega), HE.out.1, if_pos hE0])
          clear hE0
          go_wp2_with fail
          refine (mach_fell 1 hM2).mono ?_
          rintro e w3 ⟨rfl, hM3, hO3⟩
          go_wp2_with fail
          go_ret
          rw [Hst.out]
          exact ⟨rfl, vo, rd, hM3, hO2.trans (foot_p hO3) (fun _ _ h => h), .inl rfl⟩
end

end Go.Proofs.YtlldagdhlfpihaaGreatDoor
