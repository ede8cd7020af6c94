/- The machine of pennantref02: walks of Step, Run. -/
import Derived.Test.YtbgdomnalimjnaaMrefP
import Derived.Test.YtbgdomnalimjnaaMachU
import Derived.Test.YtbgdomnalimjnaaRefDec
set_option linter.unusedVariables false
set_option linter.unusedSimpArgs false
set_option linter.unusedSectionVars false
namespace Go.Proofs.Ytbgdomnalimjnaa
open Go.RowKit

theorem dec_imm {n : Int} (h : S.decE n = 0) : -1000000000 ≤ (S.dec n).imm ∧ (S.dec n).imm ≤ 1000000000 := by
  have hB : S.decB n = true := by
    unfold S.decE at h
    split at h
    · assumption
    · omega
  have hg : S.good (S.raw n) = true := by
    unfold S.decB at hB
    simp only [Bool.and_eq_true] at hB
    exact hB.1
  have e : S.dec n = S.raw n := by unfold S.dec; rw [if_pos hB]
  rw [e]
  obtain ⟨_, _, _, _, _, _, _, _, hw⟩ := good_ways (op := (S.raw n).op) (d := (S.raw n).d) (a := (S.raw n).a) (b := (S.raw n).b) (imm := (S.raw n).imm) hg
  rcases hw with ⟨_, _, _, _, _, h1, h2⟩ | ⟨_, _, _, _, _, h1, h2⟩ | ⟨_, _, _, _, _, h1, h2⟩ | ⟨_, _, _, _, _, h1, h2⟩ | ⟨_, _, _, _, _, h1, h2⟩ | ⟨_, _, _, _, _, h1, h2⟩ | ⟨_, _, _, _, _, h1, h2⟩
  all_goals omega
theorem put_state (m : S.Mach) (d v : Int) : (m.put d v).state = m.state := by unfold S.Mach.put; split <;> rfl
theorem act_state (m : S.Mach) (op d a b imm : Int) (h : m.state = 0) : (m.act ⟨op, d, a, b, imm⟩).1.state = 0 ∨ (m.act ⟨op, d, a, b, imm⟩).1.state = 1 := by
  rcases act_ways m op d a b imm with e | e | ⟨v, e⟩ | ⟨l, e⟩ | ⟨x, e⟩ | ⟨v, x, e⟩ | ⟨v, r, e⟩ | ⟨o, e, eo⟩ | ⟨v, e⟩
  all_goals rw [e]
  all_goals simp only [put_state]
  all_goals first | exact .inl h | exact .inr rfl | simp [h]
/-- What a step makes of a machine that runs, by the document's do. -/
theorem step_rdo {m : S.Mach} (hs : m.state = 0) (hp : ¬ (m.mem.length : Int) ≤ m.place) {op d a b imm : Int} (hE : S.decE (m.mem.getD m.place.toNat 0) = 0) (hd : S.dec (m.mem.getD m.place.toNat 0) = ⟨op, d, a, b, imm⟩) :
    ((rdo m ⟨op, d, a, b, imm⟩).state = 2 ∧ m.step = rdo m ⟨op, d, a, b, imm⟩) ∨ ((rdo m ⟨op, d, a, b, imm⟩).state ≠ 2 ∧ (rdo m ⟨op, d, a, b, imm⟩).steps = m.steps ∧ m.step = { rdo m ⟨op, d, a, b, imm⟩ with steps := m.steps + 1 }) := by
  have hk := act_keeps m op d a b imm
  have ha := act_state m op d a b imm hs
  have hst : m.step = if (m.act ⟨op, d, a, b, imm⟩).2.2 ≠ 0 then m.fell (m.act ⟨op, d, a, b, imm⟩).2.2 else { (m.act ⟨op, d, a, b, imm⟩).1 with place := (m.act ⟨op, d, a, b, imm⟩).2.1, steps := m.steps + 1 } := by
    unfold S.Mach.step
    rw [if_neg (by simp [hs]), if_neg hp, if_neg (fun q => q hE), hd]
  rw [hst]
  unfold rdo
  by_cases h : (m.act ⟨op, d, a, b, imm⟩).2.2 ≠ 0
  · rw [if_pos h, if_pos h]
    exact .inl ⟨rfl, rfl⟩
  · rw [if_neg h, if_neg h]
    refine .inr ⟨?_, hk, rfl⟩
    show (m.act ⟨op, d, a, b, imm⟩).1.state ≠ 2
    omega

section
variable {w w' : World} {B p : Nat} {vm vo : Value} {A : Option Addr} {c : Nat} {m : S.Mach}
theorem RRun.next {w w1 w2 : World} {m1 m2 : S.Mach} {vo1 : Value} {A1 : Option Addr} {c1 : Nat} (h1 : RAt w1 B p vm vo1 A1 c1 m1) (h2 : Only (MFoot p vm vo) w w1) (h3 : vo1.ownBlock = vo.ownBlock ∨ ∃ k, w.heap.size ≤ k ∧ vo1.ownBlock = some k) (h4 : ∀ b o s, A1 = some ⟨b, o, s⟩ → ∃ o' s', A = some ⟨b, o', s'⟩) (hs : RRun w1 B p vm vo1 A1 m2 w2) : RRun w B p vm vo A m2 w2 := by
  obtain ⟨vo2, A2, c2, k1, k2, k3, k4⟩ := hs
  have hz := h2.size
  refine ⟨vo2, A2, c2, k1, h2.trans k2 (fun i hi hf => ?_), ?_, fun b o s e => ?_⟩
  · rcases hf with e | e | e
    · exact .inl e
    · exact .inr (.inl e)
    · rcases h3 with e2 | ⟨k, hk, e2⟩
      · exact .inr (.inr (e2 ▸ e))
      · rw [e2] at e; cases e; omega
  · rcases k3 with e | ⟨k, hk, e⟩
    · rw [e]; exact h3
    · exact .inr ⟨k, by omega, e⟩
  · obtain ⟨o', s', e'⟩ := k4 b o s e
    exact h4 b o' s' e'

set_option maxRecDepth 100000 in
set_option maxHeartbeats 8000000 in
theorem ref2_Step (h : RAt w B p vm vo A c m) (hol : m.out.length ≤ 1000000) (hst : 0 ≤ m.steps ∧ m.steps ≤ 1000000) :
    Calls Try.prog 16 #[.pointer (some ⟨p, 0, none⟩)] w fun e w' => e = .returned (.int .i64 m.step.state) ∧ RRun w B p vm vo A m.step w' := by
  have hpw := h.lt
  have hp0 := h.ok.place0
  have hp1 := h.ok.place1
  have hl0 := h.low0
  obtain ⟨g, cap, hvm, hg, hmc, hfz⟩ := h.memv
  obtain ⟨c32, c33, _, _, c36, _, _, _⟩ := h.cells
  by_cases hs : m.state = 0
  rotate_left
  · have d1 : (m.state != 0) = true := by simpa using hs
    have Hst := Lib.hid (show m.step = m by unfold S.Mach.step; rw [if_pos hs])
    clear hs hmc
    go_enter Try.func16, Try.ntmps16
    go_wp2_with fail
    go_ret
    rw [Hst.out]
    exact ⟨rfl, rdo_end h (Only.refl _ _)⟩
  · have d1 : (m.state != 0) = false := by simp [hs]
    have Hs := Lib.hid hs
    have hw1 : IntKind.i64.wrap m.place = m.place := by rw [IntWalk.i64_in _ (by omega)]
    have hw2 : IntKind.i64.wrap (m.mem.length : Int) = m.mem.length := by rw [IntWalk.i64_in _ (by omega)]
    have Hvm := Lib.hid hvm
    have Hmc := Lib.hid hmc
    rw [hvm] at c32
    clear hs hvm hmc
    by_cases hpl : (m.mem.length : Int) ≤ m.place
    · have Hst := Lib.hid (show m.step = m.fell 3 by unfold S.Mach.step; rw [if_neg (by simp [Hs.out]), if_pos hpl])
      go_enter Try.func16, Try.ntmps16
      go_wp2_with fail
      go_quiet (fail)
      go_wp2_with fail
      refine (ref2_fall 3 (h.drewN _)).mono ?_
      rintro e w3 ⟨rfl, hM3, hO3⟩
      go_wp2_with fail
      go_ret
      rw [Hst.out]
      exact ⟨rfl, rdo_end hM3 ((Only.drewN _ _).trans (foot_p hO3) (fun _ _ h => h))⟩
    · obtain ⟨t, ht⟩ : ∃ t : Nat, m.place = t := ⟨m.place.toNat, by omega⟩
      have htl : t < m.mem.length := by omega
      have Hdl := Lib.hid (show decide (m.mem.length ≤ t) = false by simpa using htl)
      have hmt := Hmc.out t htl
      have hmw := h.ok.memw t
      have HE : Hid (m.mem.getD m.place.toNat 0 = m.mem.getD t 0) := Lib.hid (by rw [ht, Int.toNat_natCast])
      have Hpl := Lib.hid hpl
      rw [ht] at c33 hw1 hpl
      clear ht hp0 hp1 Hmc
      generalize m.mem.getD t 0 = mw at *
      obtain ⟨mw0, mw1⟩ := hmw
      go_enter Try.func16, Try.ntmps16
      go_wp2_with fail
      go_quiet (fail)
      go_upto_region 6 with fail
      have hM1 := h.drewN nq
      have hO1 := Only.drewN (F := MFoot p vm vo) w nq
      have c32' : (w.drewN nq).cell? ⟨p, 32, none⟩ = some (.slice (some ⟨g, 0, none⟩) m.mem.length cap) := c32
      have c33' : (w.drewN nq).cell? ⟨p, 33, none⟩ = some (.int .u32 t) := c33
      have hmt' : (w.drewN nq).cell? ⟨g, t, none⟩ = some (.int .u32 mw) := hmt
      have hpw' : p < (w.drewN nq).heap.size := hpw
      have hg' : g < (w.drewN nq).heap.size := hg
      have hz1 : w.heap.size ≤ (w.drewN nq).heap.size := Nat.le_refl _
      generalize w.drewN nq = w1 at *
      clear c32 c33 hmt c36
      try rw [Hdl.out]
      go_cut [3, 4] from 27 to 40 (fun v3 v4 wc => ∃ nb, v3 = .pointer (some ⟨nb, 0, none⟩) ∧ v4 = .int .i64 (S.decE mw) ∧ nb < wc.heap.size ∧ (wc.cell? ⟨nb, 0, none⟩ = some (.int .i64 (S.dec mw).op) ∧ wc.cell? ⟨nb, 1, none⟩ = some (.int .i64 (S.dec mw).d) ∧ wc.cell? ⟨nb, 2, none⟩ = some (.int .i64 (S.dec mw).a) ∧ wc.cell? ⟨nb, 3, none⟩ = some (.int .i64 (S.dec mw).b) ∧ wc.cell? ⟨nb, 4, none⟩ = some (.int .i64 (S.dec mw).imm)) ∧ Below w1.heap.size w1 wc)
      case first =>
        go_region_with (go_at_call 52; refine (ref_Decode _ _ mw0 mw1).mono ?_; rintro e w2 ⟨rfl, hb2⟩; obtain ⟨hq1, hq2⟩ := bcell hb2; have hz2 := hb2.size)
        all_goals
          simp only [List.getElem_toArray, List.getElem_cons_succ, List.getElem_cons_zero, Act.put, List.setIfInBounds_toArray, List.set_cons_succ, List.set_cons_zero]
          go_wp2_with fail
          go_meet
          first
            | (refine ⟨w2.heap.size, by kernel_rfl, by kernel_rfl, ?_⟩; with_reducible exact inst_after hb2 rfl)
            | (refine ⟨w1.heap.size, by kernel_rfl, by kernel_rfl, ?_⟩; with_reducible exact inst_before hb2 rfl)
            | skip
      case rest =>
        obtain ⟨nb, rfl, rfl, hnb, ⟨q0, q1, q2, q3, q4⟩, hbc⟩ := hcut
        have hM2 := hM1.below hbc
        have hO2 := hO1.trans (Only.of_below (F := MFoot p vm vo) hbc) (fun _ _ h => h)
        by_cases hE0 : S.decE mw = 0
        · obtain ⟨o1, o2, d1, d2, a1, a2, b1, b2⟩ := dec_ok hE0
          have him := dec_imm hE0
          have hsr := fun (op d a b imm : Int) (hd : S.dec mw = ⟨op, d, a, b, imm⟩) => step_rdo (m := m) (op := op) (d := d) (a := a) (b := b) (imm := imm) Hs.out (by have := Hpl.out; omega) (by rw [HE.out]; exact hE0) (by rw [HE.out]; exact hd)
          generalize hdw : S.dec mw = dw at *
          obtain ⟨op, dd, da, db, imm⟩ := dw
          simp only at o1 o2 d1 d2 a1 a2 b1 b2 q0 q1 q2 q3 q4 him
          rw [hE0]
          have hdo := ref2_do op dd da db imm hM2 ⟨o1, o2⟩ ⟨d1, by omega⟩ ⟨a1, by omega⟩ ⟨b1, by omega⟩ hol him
          have Hsr := Lib.hid (hsr op dd da db imm rfl)
          have Hdo := Lib.hid hdo
          generalize rdo m ⟨op, dd, da, db, imm⟩ = m2 at *
          clear hdo hE0 hdw hsr
          go_wp2_with fail
          refine Hdo.out.mono ?_
          rintro e w3 ⟨rfl, vo', A', c', hM3, hO3, hv3, hA3⟩
          have hO13 := hO2.trans hO3 (fun _ _ h => h)
          have hv3' : vo'.ownBlock = vo.ownBlock ∨ ∃ k, w.heap.size ≤ k ∧ vo'.ownBlock = some k := by
            rcases hv3 with e | ⟨k, hk, e⟩
            · exact .inl e
            · exact .inr ⟨k, by have := hO2.size; omega, e⟩
          have hcs := hM3.cells
          obtain ⟨_, _, _, _, e36, _, _, e39⟩ := hcs
          have hp3 := hM3.lt
          have f39 := hM3.fz 39
          clear Hdo
          rcases Hsr.out with ⟨h2, hS⟩ | ⟨h2, hS1, hS2⟩
          · have dT : (m2.state != 2) = false := by simp [h2]
            have HS := Lib.hid hS
            clear h2 hS Hsr
            go_wp2_with fail
            go_ret
            rw [HS.out]
            exact ⟨rfl, vo', A', c', hM3, hO13, hv3', hA3⟩
          · have dT : (m2.state != 2) = true := by simpa using h2
            have HS := Lib.hid hS2
            have hT := hM3.stepped (m.steps + 1)
            obtain ⟨_, _, _, _, g36, _, _, _⟩ := hT.cells
            have HT := Lib.hid hT
            rw [hS1] at e39
            clear h2 hS1 hS2 Hsr hT
            go_wp2_with fail
            go_ret
            rw [HS.out]
            exact ⟨rfl, vo', A', c', HT.out, hO13.trans (Only.setCell (F := MFoot p vm vo) _ (.inl rfl) _) (fun _ _ h => h), hv3', hA3⟩
        · have dE := int_bneM hE0
          have Hst := Lib.hid (show m.step = m.fell 1 by
            unfold S.Mach.step
            rw [if_neg (by simp [Hs.out]), if_neg (by have := Hpl.out; omega), HE.out, if_pos hE0])
          clear hE0
          go_wp2_with fail
          refine (ref2_fall 1 hM2).mono ?_
          rintro e w3 ⟨rfl, hM3, hO3⟩
          go_wp2_with fail
          go_ret
          rw [Hst.out]
          exact ⟨rfl, rdo_end hM3 (hO2.trans (foot_p hO3) (fun _ _ h => h))⟩

set_option maxRecDepth 100000 in
set_option maxHeartbeats 4000000 in
theorem ref2_Run (fuel : Int) (h : RAt w B p vm vo A c m) (hol : m.out.length ≤ 500000) (hst : 0 ≤ m.steps ∧ m.steps ≤ 500000) (hf : fuel ≤ 100000) :
    Calls Try.prog 40 #[.pointer (some ⟨p, 0, none⟩), .int .i64 fuel] w fun e w' => e = .returned (.int .i64 (m.steps_ fuel.toNat).state) ∧ RRun w B p vm vo A (m.steps_ fuel.toNat) w' := by
  have hlt := h.lt
  go_enter Try.func40, Try.ntmps40
  go_wp2_with fail
  go_loopw [5] (fun i wr => ∃ k : Nat, k ≤ fuel.toNat ∧ i = .int .i64 k ∧ RRun w B p vm vo A (m.steps_ k) wr) (fun i _ => fuel.toNat - (intOf i).toNat)
  case atStart => exact ⟨0, by omega, rfl, rdo_end h (Only.refl _ _)⟩
  case round =>
    obtain ⟨k, hk, rfl, vo1, A1, c1, hM1, hO1, hv1, hA1⟩ := hrel
    have hg := steps_grow m k
    obtain ⟨_, _, _, _, c36, _⟩ := hM1.cells
    have hp1 := hM1.lt
    by_cases hlt2 : (k : Int) < fuel
    · by_cases hs : (m.steps_ k).state = 0
      · have d0 : ((m.steps_ k).state == 0) = true := by simp [hs]
        clear hs
        go_wp2_with fail
        refine (ref2_Step hM1 (by omega) (by omega)).mono ?_
        rintro e w3 ⟨rfl, hR3⟩
        have hR' : RRun w B p vm vo A (m.steps_ (k + 1)) w3 := RRun.next hM1 hO1 hv1 hA1 hR3
        go_wp2_with fail
        go_roundw
        case rel => exact ⟨k + 1, by omega, by go_num, hR'⟩
        case measure => simp [intOf]; omega
      · have d0 : ((m.steps_ k).state == 0) = false := by simpa using hs
        have hstop := steps_stop (m := m) (k := k) hs (fuel.toNat - k)
        rw [show k + (fuel.toNat - k) = fuel.toNat by omega] at hstop
        have Hstop := Lib.hid hstop
        clear hs hstop
        go_wp2_with fail
        go_ret
        rw [Hstop.out]
        exact ⟨rfl, vo1, A1, c1, hM1, hO1, hv1, hA1⟩
    · have hke : k = fuel.toNat := by omega
      have Hke := Lib.hid hke
      clear hke
      go_wp2_with fail
      go_ret
      rw [← Hke.out]
      exact ⟨rfl, vo1, A1, c1, hM1, hO1, hv1, hA1⟩
end

end Go.Proofs.Ytbgdomnalimjnaa
