/- Walks of build's check: the shape of statements. (printed by genbshp.py) -/
import Derived.Test.YtlldagdhlfpihaaGreatDoorZBFmd
set_option linter.unusedVariables false
set_option linter.unusedSimpArgs false
set_option linter.unusedSectionVars false
namespace Go.Proofs.YtlldagdhlfpihaaGreatDoor
open Go.RowKit

set_option maxRecDepth 100000 in
set_option maxHeartbeats 2000000 in
theorem b_shaped (rn : ByteArray) (P L : Int) (bh : Bool) (Ab : Option Addr) (nb cb : Nat) (op n : Int) (nm : ByteArray) (N1 N3 N4 : Nat) (regs : List Int) (A1 A2 A3 A4 : Option Addr) (c1 c2 c3 c4 : Nat) (w : World) (hnm : nm.size ≤ maxLen) (hreg : Ints w w.heap.size A2 regs) (hrl : regs.length ≤ maxLen) :
    Calls Tryz.prog 81 #[.agg #[.string rn, .int .i64 P, .int .i64 L, .bool bh, .slice Ab nb cb], .agg #[.int .i64 op, .int .i64 n, .string nm, .slice A1 N1 c1, .slice A2 regs.length c2, .slice A3 N3 c3, .slice A4 N4 c4]] w
      fun x w' => x = .returned (.bool (S.shapedS L op n nm N1 regs N3 N4)) ∧ Below w.heap.size w w' := by
  have Hris := Lib.hid (fun (W : World) (hb : Below w.heap.size w W) => b_rising A2 c2 regs W ((hreg.below hb).more hb.size) hrl)
  have hh0 : S.shapedS L op n nm N1 regs N3 N4 = (decide (1 ≤ op ∧ op ≤ 11) && (decide (op = 5) || decide (regs.length = 0)) && S.risingB regs && (decide (1 ≤ S.bodiesS op) || decide (N3 = 0)) && (decide (2 ≤ S.bodiesS op) || decide (N4 = 0)) &&
    S.numS L op n && decide (N1 = S.exprsS op regs.length) && (S.namedS op == (nm.toList != ([] : List UInt8))) && (!S.namedS op || S.labB nm)) := by
    rw [str_ne0]; rfl
  have Hh := Lib.hid hh0
  have Hlab := Lib.hid (fun W => b_label nm W hnm)
  clear hh0 hnm hreg hrl
  generalize S.risingB regs = ρ at *
  obtain ⟨N2, hN2⟩ : ∃ N2, N2 = regs.length := ⟨_, rfl⟩
  rw [← hN2] at Hris Hh ⊢
  have HN2 := Lib.hid hN2
  clear hN2
  obtain ⟨res, hres⟩ : ∃ res, res = S.shapedS L op n nm N1 regs N3 N4 := ⟨_, rfl⟩
  rw [← hres] at Hh ⊢
  clear hres
  obtain ⟨t1, t2, t3, t4⟩ := two_blocks w (.cells #[.string rn, .int .i64 P, .int .i64 L, .bool bh, .slice Ab nb cb] 34) (.cells #[.int .i64 op, .int .i64 n, .string nm, .slice A1 N1 c1, .slice A2 N2 c2, .slice A3 N3 c3, .slice A4 N4 c4] 29)
  go_enter Tryz.func81, Tryz.ntmps81
  go_upto_region 1 with fail
  generalize (w.alloc (.cells #[.string rn, .int .i64 P, .int .i64 L, .bool bh, .slice Ab nb cb] 34)).alloc (.cells #[.int .i64 op, .int .i64 n, .string nm, .slice A1 N1 c1, .slice A2 N2 c2, .slice A3 N3 c3, .slice A4 N4 c4] 29) = w2 at *
  have q0 : w2.cell? ⟨w.heap.size + 1, 0, none⟩ = some (.int .i64 op) := by rw [Lib.cell_of_heap t2]; rfl
  have q1 : w2.cell? ⟨w.heap.size + 1, 1, none⟩ = some (.int .i64 n) := by rw [Lib.cell_of_heap t2]; rfl
  go_quiet (fail)
  have HW := Lib.hid (show RE w (w2.drewN nq) (.cells #[.string rn, .int .i64 P, .int .i64 L, .bool bh, .slice Ab nb cb] 34) (.cells #[.int .i64 op, .int .i64 n, .string nm, .slice A1 N1 c1, .slice A2 N2 c2, .slice A3 N3 c3, .slice A4 N4 c4] 29) from ⟨t1, t2, below_drewN t3 nq, by show _ ≤ w2.heap.size; omega⟩)
  clear q0 q1 t1 t2 t3 t4
  generalize w2.drewN nq = w3 at *
  have q0 : w3.cell? ⟨w.heap.size + 1, 0, none⟩ = some (.int .i64 op) := by rw [Lib.cell_of_heap HW.out.e]; rfl
  have q1 : w3.cell? ⟨w.heap.size + 1, 1, none⟩ = some (.int .i64 n) := by rw [Lib.cell_of_heap HW.out.e]; rfl
  have q2 : w3.cell? ⟨w.heap.size, 2, none⟩ = some (.int .i64 L) := by rw [Lib.cell_of_heap HW.out.r]; rfl
  have q3 : w3.cell? ⟨w.heap.size + 1, 4, none⟩ = some (.slice A2 N2 c2) := by rw [Lib.cell_of_heap HW.out.e]; rfl
  go_upto_block 0 with fail
  clear q0
  by_cases hop : 1 ≤ op ∧ op ≤ 11
  · go_cut [5, 6, 7, 8] (fun v5 v6 v7 v8 wc => v5 = .int .i64 (S.exprsS op N2 : Nat) ∧ v6 = .bool (S.namedS op) ∧ v7 = .bool (S.numS L op n) ∧ v8 = .int .i64 (S.bodiesS op) ∧ Hid (RE w wc (.cells #[.string rn, .int .i64 P, .int .i64 L, .bool bh, .slice Ab nb cb] 34) (.cells #[.int .i64 op, .int .i64 n, .string nm, .slice A1 N1 c1, .slice A2 N2 c2, .slice A3 N3 c3, .slice A4 N4 c4] 29)))
    case first =>
      rcases (show op = 1 ∨ op = 2 ∨ op = 3 ∨ op = 4 ∨ op = 5 ∨ op = 6 ∨ op = 7 ∨ op = 8 ∨ op = 9 ∨ op = 10 ∨ op = 11 by omega) with rfl | rfl | rfl | rfl | rfl | rfl | rfl | rfl | rfl | rfl | rfl
      · by_cases h1 : 0 ≤ n
        · by_cases h2 : n < L
          · have He := Lib.hid (show true = S.numS L 1 n from (decide_eq_true ⟨h1, h2⟩).symm)
            go_wp2_with fail
            go_meet
            exact ⟨rfl, rfl, by rw [← He.out], rfl, HW⟩
          · have He := Lib.hid (show false = S.numS L 1 n from (decide_eq_false (by omega)).symm)
            go_wp2_with fail
            go_meet
            exact ⟨rfl, rfl, by rw [← He.out], rfl, HW⟩
        · have He := Lib.hid (show false = S.numS L 1 n from (decide_eq_false (by omega)).symm)
          go_wp2_with fail
          go_meet
          exact ⟨rfl, rfl, by rw [← He.out], rfl, HW⟩
      · go_wp2_with fail
        refine (b_within n w3).mono ?_
        rintro e4 w4 ⟨rfl, rfl⟩
        go_wp2_with fail
        go_meet
        exact ⟨rfl, rfl, rfl, rfl, HW⟩
      · go_wp2_with fail
        go_meet
        exact ⟨rfl, rfl, rfl, rfl, HW⟩
      · go_wp2_with fail
        go_meet
        exact ⟨rfl, rfl, rfl, rfl, HW⟩
      · go_wp2_with fail
        go_meet
        exact ⟨rfl, rfl, rfl, rfl, HW⟩
      · go_wp2_with fail
        go_meet
        exact ⟨rfl, rfl, rfl, rfl, HW⟩
      · go_wp2_with fail
        go_meet
        exact ⟨rfl, rfl, rfl, rfl, HW⟩
      · go_wp2_with fail
        go_meet
        exact ⟨rfl, rfl, rfl, rfl, HW⟩
      · go_wp2_with fail
        refine (b_visible n w3).mono ?_
        rintro e4 w4 ⟨rfl, rfl⟩
        go_wp2_with fail
        go_meet
        exact ⟨rfl, rfl, rfl, rfl, HW⟩
      · go_wp2_with fail
        go_meet
        exact ⟨rfl, rfl, rfl, rfl, HW⟩
      · go_wp2_with fail
        go_meet
        exact ⟨rfl, rfl, rfl, rfl, HW⟩
    case rest =>
      obtain ⟨rfl, rfl, rfl, rfl, HWc⟩ := hcut
      have Hh2 := Hh.out
      rw [decide_eq_true hop, Bool.true_and] at Hh2
      have Hh3 := Lib.hid Hh2
      clear Hh2 hop Hh HW q1 q2 q3
      have q0 : wc.cell? ⟨w.heap.size + 1, 0, none⟩ = some (.int .i64 op) := by rw [Lib.cell_of_heap HWc.out.e]; rfl
      have q2 : wc.cell? ⟨w.heap.size + 1, 2, none⟩ = some (.string nm) := by rw [Lib.cell_of_heap HWc.out.e]; rfl
      have q3 : wc.cell? ⟨w.heap.size + 1, 3, none⟩ = some (.slice A1 N1 c1) := by rw [Lib.cell_of_heap HWc.out.e]; rfl
      have q4 : wc.cell? ⟨w.heap.size + 1, 4, none⟩ = some (.slice A2 N2 c2) := by rw [Lib.cell_of_heap HWc.out.e]; rfl
      have q5 : wc.cell? ⟨w.heap.size + 1, 5, none⟩ = some (.slice A3 N3 c3) := by rw [Lib.cell_of_heap HWc.out.e]; rfl
      have q6 : wc.cell? ⟨w.heap.size + 1, 6, none⟩ = some (.slice A4 N4 c4) := by rw [Lib.cell_of_heap HWc.out.e]; rfl
      generalize S.exprsS op N2 = K at *
      generalize S.namedS op = M at *
      generalize S.numS L op n = Q at *
      generalize S.bodiesS op = D at *
      have Hr := Lib.hid (Hris.out wc HWc.out.b)
      have Hl := Lib.hid (Hlab.out wc)
      generalize S.labB nm = B at *
      clear Hris Hlab HN2
      obtain ⟨V, hV⟩ : ∃ V : Bool, V = ((decide (op = 5) || decide (N2 = 0)) && ρ && (decide (1 ≤ D) || decide (N3 = 0)) && (decide (2 ≤ D) || decide (N4 = 0))) := ⟨_, rfl⟩
      have Hh4 := Lib.hid (show res = (V && Q && decide (N1 = K) && (M == (nm.toList != ([] : List UInt8))) && (!M || B)) from by rw [hV]; exact Hh3.out)
      clear Hh3
      go_upto_region 22 with fail
      go_cut [86] (fun v w5 => v = .bool (!V) ∧ wc = w5)
      case first =>
        clear Hl Hh4 q2 q3
        by_cases h5 : op = 5
        · subst h5
          cases ρ with
          | false =>
            have HV := Lib.hid (show V = false from by rw [hV]; simp)
            clear hV
            go_wp2_with fail
            refine Hr.out.mono ?_
            rintro e4 w4 ⟨rfl, rfl⟩
            go_wp2_with fail
            go_meet
            exact ⟨by rw [HV.out]; rfl, rfl⟩
          | true =>
            by_cases d1 : D < 1
            · by_cases z3 : N3 = 0
              · subst z3
                by_cases z4 : N4 = 0
                · subst z4
                  have HV := Lib.hid (show V = true from by rw [hV]; simp)
                  clear hV
                  go_wp2_with fail
                  refine Hr.out.mono ?_
                  rintro e4 w4 ⟨rfl, rfl⟩
                  go_wp2_with fail
                  go_meet
                  exact ⟨by rw [HV.out]; rfl, rfl⟩
                · have p4 : 0 < N4 := by omega
                  have HV := Lib.hid (show V = false from by rw [hV, decide_eq_false z4, decide_eq_false (show ¬ 2 ≤ D by omega)]; simp)
                  clear hV z4
                  go_wp2_with fail
                  refine Hr.out.mono ?_
                  rintro e4 w4 ⟨rfl, rfl⟩
                  go_wp2_with fail
                  go_meet
                  exact ⟨by rw [HV.out]; rfl, rfl⟩
              · have p3 : 0 < N3 := by omega
                have HV := Lib.hid (show V = false from by rw [hV, decide_eq_false z3, decide_eq_false (show ¬ 1 ≤ D by omega)]; simp)
                clear hV z3
                go_wp2_with fail
                refine Hr.out.mono ?_
                rintro e4 w4 ⟨rfl, rfl⟩
                go_wp2_with fail
                go_meet
                exact ⟨by rw [HV.out]; rfl, rfl⟩
            · by_cases d2 : D < 2
              · by_cases z4 : N4 = 0
                · subst z4
                  have HV := Lib.hid (show V = true from by rw [hV, decide_eq_true (show 1 ≤ D by omega)]; simp)
                  clear hV
                  go_wp2_with fail
                  refine Hr.out.mono ?_
                  rintro e4 w4 ⟨rfl, rfl⟩
                  go_wp2_with fail
                  go_meet
                  exact ⟨by rw [HV.out]; rfl, rfl⟩
                · have p4 : 0 < N4 := by omega
                  have HV := Lib.hid (show V = false from by rw [hV, decide_eq_false z4, decide_eq_false (show ¬ 2 ≤ D by omega)]; simp)
                  clear hV z4
                  go_wp2_with fail
                  refine Hr.out.mono ?_
                  rintro e4 w4 ⟨rfl, rfl⟩
                  go_wp2_with fail
                  go_meet
                  exact ⟨by rw [HV.out]; rfl, rfl⟩
              · have HV := Lib.hid (show V = true from by rw [hV, decide_eq_true (show 1 ≤ D by omega), decide_eq_true (show 2 ≤ D by omega)]; simp)
                clear hV
                go_wp2_with fail
                refine Hr.out.mono ?_
                rintro e4 w4 ⟨rfl, rfl⟩
                go_wp2_with fail
                go_meet
                exact ⟨by rw [HV.out]; rfl, rfl⟩
        · have n5 : (op != 5) = true := by simp [h5]
          by_cases z2 : N2 = 0
          · subst z2
            clear h5
            cases ρ with
            | false =>
              have HV := Lib.hid (show V = false from by rw [hV]; simp)
              clear hV
              go_wp2_with fail
              refine Hr.out.mono ?_
              rintro e4 w4 ⟨rfl, rfl⟩
              go_wp2_with fail
              go_meet
              exact ⟨by rw [HV.out]; rfl, rfl⟩
            | true =>
              by_cases d1 : D < 1
              · by_cases z3 : N3 = 0
                · subst z3
                  by_cases z4 : N4 = 0
                  · subst z4
                    have HV := Lib.hid (show V = true from by rw [hV]; simp)
                    clear hV
                    go_wp2_with fail
                    refine Hr.out.mono ?_
                    rintro e4 w4 ⟨rfl, rfl⟩
                    go_wp2_with fail
                    go_meet
                    exact ⟨by rw [HV.out]; rfl, rfl⟩
                  · have p4 : 0 < N4 := by omega
                    have HV := Lib.hid (show V = false from by rw [hV, decide_eq_false z4, decide_eq_false (show ¬ 2 ≤ D by omega)]; simp)
                    clear hV z4
                    go_wp2_with fail
                    refine Hr.out.mono ?_
                    rintro e4 w4 ⟨rfl, rfl⟩
                    go_wp2_with fail
                    go_meet
                    exact ⟨by rw [HV.out]; rfl, rfl⟩
                · have p3 : 0 < N3 := by omega
                  have HV := Lib.hid (show V = false from by rw [hV, decide_eq_false z3, decide_eq_false (show ¬ 1 ≤ D by omega)]; simp)
                  clear hV z3
                  go_wp2_with fail
                  refine Hr.out.mono ?_
                  rintro e4 w4 ⟨rfl, rfl⟩
                  go_wp2_with fail
                  go_meet
                  exact ⟨by rw [HV.out]; rfl, rfl⟩
              · by_cases d2 : D < 2
                · by_cases z4 : N4 = 0
                  · subst z4
                    have HV := Lib.hid (show V = true from by rw [hV, decide_eq_true (show 1 ≤ D by omega)]; simp)
                    clear hV
                    go_wp2_with fail
                    refine Hr.out.mono ?_
                    rintro e4 w4 ⟨rfl, rfl⟩
                    go_wp2_with fail
                    go_meet
                    exact ⟨by rw [HV.out]; rfl, rfl⟩
                  · have p4 : 0 < N4 := by omega
                    have HV := Lib.hid (show V = false from by rw [hV, decide_eq_false z4, decide_eq_false (show ¬ 2 ≤ D by omega)]; simp)
                    clear hV z4
                    go_wp2_with fail
                    refine Hr.out.mono ?_
                    rintro e4 w4 ⟨rfl, rfl⟩
                    go_wp2_with fail
                    go_meet
                    exact ⟨by rw [HV.out]; rfl, rfl⟩
                · have HV := Lib.hid (show V = true from by rw [hV, decide_eq_true (show 1 ≤ D by omega), decide_eq_true (show 2 ≤ D by omega)]; simp)
                  clear hV
                  go_wp2_with fail
                  refine Hr.out.mono ?_
                  rintro e4 w4 ⟨rfl, rfl⟩
                  go_wp2_with fail
                  go_meet
                  exact ⟨by rw [HV.out]; rfl, rfl⟩
          · have p2 : 0 < N2 := by omega
            have HV := Lib.hid (show V = false from by rw [hV, decide_eq_false h5, decide_eq_false z2]; simp)
            clear hV z2 h5
            go_wp2_with fail
            go_meet
            exact ⟨by rw [HV.out]; rfl, rfl⟩
      case rest =>
        obtain ⟨rfl, rfl⟩ := hcut
        clear hV
        cases V with
        | false =>
          have Hf := Lib.hid (Hh4.out.trans (show _ = false by simp))
          go_wp2_with fail
          go_ret
          exact ⟨ret_bool Hf.out.symm, HWc.out.b⟩
        | true =>
          cases Q with
          | false =>
            have Hf := Lib.hid (Hh4.out.trans (show _ = false by simp))
            go_wp2_with fail
            go_ret
            exact ⟨ret_bool Hf.out.symm, HWc.out.b⟩
          | true =>
            by_cases hk : N1 = K
            · subst hk
              by_cases hn0 : nm.toList = []
              · have hie : nm.toList.isEmpty = true := by simp [hn0]
                cases M with
                | true =>
                  have Hf := Lib.hid (Hh4.out.trans (show _ = false by simp [hn0]))
                  go_wp2_with fail
                  go_ret
                  exact ⟨ret_bool Hf.out.symm, HWc.out.b⟩
                | false =>
                  have Hf := Lib.hid (Hh4.out.trans (show _ = true by simp [hn0]))
                  go_wp2_with fail
                  go_ret
                  exact ⟨ret_bool Hf.out.symm, HWc.out.b⟩
              · have hie : nm.toList.isEmpty = false := by simp [hn0]
                cases M with
                | false =>
                  have Hf := Lib.hid (Hh4.out.trans (show _ = false by simp [hn0]))
                  go_wp2_with fail
                  go_ret
                  exact ⟨ret_bool Hf.out.symm, HWc.out.b⟩
                | true =>
                  have Hf := Lib.hid (Hh4.out.trans (show _ = B by simp [hn0]))
                  go_wp2_with fail
                  refine Hl.out.mono ?_
                  rintro e4 w4 ⟨rfl, rfl⟩
                  go_wp2_with fail
                  go_ret
                  exact ⟨ret_bool Hf.out.symm, HWc.out.b⟩
            · have Hf := Lib.hid (Hh4.out.trans (show _ = false by simp [hk]))
              have hne : ((N1 : Int) == (K : Int)) = false := by simp; omega
              clear hk
              go_wp2_with fail
              go_ret
              exact ⟨ret_bool Hf.out.symm, HWc.out.b⟩
  · have Hf := Lib.hid (show res = false from by rw [Hh.out, decide_eq_false hop]; simp)
    have n1 : (op == 1) = false := by simp; omega
    have n2 : (op == 2) = false := by simp; omega
    have n3 : (op == 3) = false := by simp; omega
    have n4 : (op == 4) = false := by simp; omega
    have n5 : (op == 5) = false := by simp; omega
    have n6 : (op == 6) = false := by simp; omega
    have n7 : (op == 7) = false := by simp; omega
    have n8 : (op == 8) = false := by simp; omega
    have n9 : (op == 9) = false := by simp; omega
    have n10 : (op == 10) = false := by simp; omega
    have n11 : (op == 11) = false := by simp; omega
    clear hop
    go_wp2_with fail
    go_ret
    exact ⟨ret_bool Hf.out.symm, HW.out.b⟩

end Go.Proofs.YtlldagdhlfpihaaGreatDoor
