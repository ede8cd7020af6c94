/- The document's text of an instruction: walk of pennantref01.Text. -/
import Derived.Test.YtjhchgbeglhoaaaDoorINum
import Derived.Test.YtjhchgbeglhoaaaDoorIsaB
set_option linter.unusedVariables false
set_option linter.unusedSimpArgs false
set_option linter.unusedSectionVars false
namespace Go.Proofs.YtjhchgbeglhoaaaDoor
open Go.RowKit

theorem str_app2 (a m b : List UInt8) : (⟨a.toArray⟩ : ByteArray) ++ ⟨m.toArray⟩ ++ ⟨b.toArray⟩ = ⟨(a ++ (m ++ b)).toArray⟩ := by
  rw [str_app, str_app, List.append_assoc]
theorem str_part2 (T : List UInt8) (n : Int) : (⟨T.toArray⟩ : ByteArray) ++ ⟨#[32, 114]⟩ ++ ⟨(S.itoa n).toArray⟩ = ⟨(T ++ S.part true [114] n).toArray⟩ := str_app2 T [32, 114] (S.itoa n)
theorem str_part1 (T : List UInt8) (n : Int) {K : Int} (h : 0 < K) : (⟨T.toArray⟩ : ByteArray) ++ ⟨#[32]⟩ ++ ⟨(S.itoa n).toArray⟩ = ⟨(T ++ S.part (decide (0 < K)) [] n).toArray⟩ := by
  rw [decide_eq_true h]; exact str_app2 T [32] (S.itoa n)
theorem str_val {a b : ByteArray} (h : a = b) : Value.string a = .string b := by rw [h]

set_option maxRecDepth 100000 in
set_option maxHeartbeats 2000000 in
theorem ref_Text (op d a b imm : Int) (w : World) : Calls Tryd.prog 22 #[.agg #[.int .i64 op, .int .i64 d, .int .i64 a, .int .i64 b, .int .i64 imm]] w fun e w' => e = .returned (.string ⟨(S.text ⟨op, d, a, b, imm⟩).toArray⟩) ∧ Below w.heap.size w w' := by
  go_enter Tryd.func22, Tryd.ntmps22
  go_upto_region 1 with fail
  obtain ⟨x1, x2, x3⟩ := one_allocN w #[.int .i64 op, .int .i64 d, .int .i64 a, .int .i64 b, .int .i64 imm] 27
  generalize w.alloc (.cells #[.int .i64 op, .int .i64 d, .int .i64 a, .int .i64 b, .int .i64 imm] 27) = wb at *
  have q0 := (cell_of_row wb w.heap.size 0 _ _ (0, 0) x1).trans (show (#[Value.int .i64 op, .int .i64 d, .int .i64 a, .int .i64 b, .int .i64 imm])[0]? = some (.int .i64 op) from rfl)
  have q1 := (cell_of_row wb w.heap.size 1 _ _ (0, 0) x1).trans (show (#[Value.int .i64 op, .int .i64 d, .int .i64 a, .int .i64 b, .int .i64 imm])[1]? = some (.int .i64 d) from rfl)
  have q2 := (cell_of_row wb w.heap.size 2 _ _ (0, 0) x1).trans (show (#[Value.int .i64 op, .int .i64 d, .int .i64 a, .int .i64 b, .int .i64 imm])[2]? = some (.int .i64 a) from rfl)
  have q3 := (cell_of_row wb w.heap.size 3 _ _ (0, 0) x1).trans (show (#[Value.int .i64 op, .int .i64 d, .int .i64 a, .int .i64 b, .int .i64 imm])[3]? = some (.int .i64 b) from rfl)
  have q4 := (cell_of_row wb w.heap.size 4 _ _ (0, 0) x1).trans (show (#[Value.int .i64 op, .int .i64 d, .int .i64 a, .int .i64 b, .int .i64 imm])[4]? = some (.int .i64 imm) from rfl)
  have gb : w.heap.size < wb.heap.size := by omega
  clear x1 x3
  cases hg : S.good ⟨op, d, a, b, imm⟩ with
  | false =>
    have Ht := Lib.hid (show S.text ⟨op, d, a, b, imm⟩ = [63] by unfold S.text; rw [if_neg (by rw [hg]; simp)])
    have hc : S.chk ⟨op, d, a, b, imm⟩ = 11 := by unfold S.chk; rw [if_neg (by rw [hg]; simp)]
    clear hg
    go_wp2_with fail
    refine (ref_Check op d a b imm wb).mono ?_
    rintro e w2 ⟨rfl, hb⟩
    rw [hc]
    go_wp2_with fail
    go_ret
    exact ⟨by rw [Ht.out]; rfl, x2.trans (hb.mono (Nat.le_of_lt gb))⟩
  | true =>
    have Ht := Lib.hid (show S.text ⟨op, d, a, b, imm⟩ = S.nameL op ++ (S.part (S.hasD (S.form op)) [114] d ++ (S.part (S.hasA (S.form op)) [114] a ++ (S.part (S.hasB (S.form op)) [114] b ++ S.part (decide (0 < S.bitsOf (S.form op))) [] imm))) by unfold S.text; rw [if_pos hg])
    have hc : S.chk ⟨op, d, a, b, imm⟩ = 0 := by unfold S.chk; rw [if_pos hg]
    obtain ⟨o1, o2, d1, d2, a1, a2, b1, b2, hw⟩ := good_ways hg
    have hib : -1048576 ≤ imm ∧ imm ≤ 1048575 := by rcases hw with hw | hw | hw | hw | hw | hw | hw <;> omega
    have hnl : (S.nameL op).length ≤ 5 := by
      have := name_short ⟨op.toNat, by omega⟩
      have e : ((op.toNat : Nat) : Int) = op := by omega
      simpa [e] using this
    have pd := part_short (S.hasD (S.form op)) [114] (n := d) (by simp) (by omega)
    have pa := part_short (S.hasA (S.form op)) [114] (n := a) (by simp) (by omega)
    have pb := part_short (S.hasB (S.form op)) [114] (n := b) (by simp) (by omega)
    clear hg hw
    go_wp2_with fail
    refine (ref_Check op d a b imm wb).mono ?_
    rintro e w2 ⟨rfl, hb⟩
    rw [hc]
    clear hc
    have r0 := (hb.cell (p := ⟨w.heap.size, 0, none⟩) gb).trans q0
    have r1 := (hb.cell (p := ⟨w.heap.size, 1, none⟩) gb).trans q1
    have r2 := (hb.cell (p := ⟨w.heap.size, 2, none⟩) gb).trans q2
    have r3 := (hb.cell (p := ⟨w.heap.size, 3, none⟩) gb).trans q3
    have r4 := (hb.cell (p := ⟨w.heap.size, 4, none⟩) gb).trans q4
    have g2 : w.heap.size < w2.heap.size := Nat.lt_of_lt_of_le gb hb.size
    go_wp2_with fail
    refine (ref_Name op w2).mono ?_
    rintro e w3 ⟨rfl, rfl⟩
    obtain ⟨T0, hT0⟩ : ∃ T0, T0 = S.nameL op := ⟨_, rfl⟩
    rw [← hT0] at hnl ⊢
    rw [← hT0] at Ht
    clear hT0
    have H0 := Lib.hid (x2.trans (hb.mono (Nat.le_of_lt gb)))
    clear x2 hb q0 q1 q2 q3 q4 gb
    go_wp2_with fail
    refine (ref_HasD op w2).mono ?_
    rintro e wx ⟨rfl, rfl⟩
    obtain ⟨B0, hB0⟩ : ∃ B, B = S.hasD (S.form op) := ⟨_, rfl⟩
    rw [← hB0] at pd Ht ⊢
    clear hB0
    go_upto_if 12 with fail
    go_cut [3] (fun v wc => v = .string ⟨(T0 ++ S.part B0 [114] d).toArray⟩ ∧ Below w2.heap.size w2 wc)
    case first =>
      cases B0 with
      | false =>
        go_wp2_with fail
        go_meet
        case rel => exact ⟨str_val (by simp [S.part]), Below.refl _ _⟩
      | true =>
        have hil := itoa_len d
        go_wp2_with fail
        refine (ref_Digits d (by omega) w2).mono ?_
        rintro e wy ⟨rfl, hy⟩
        have Hs := Lib.hid (str_part2 T0 d)
        generalize S.itoa d = L at *
        go_wp2_with fail
        go_meet
        case rel => exact ⟨str_val Hs.out, hy⟩
    case rest =>
      obtain ⟨rfl, hb0⟩ := hcut
      have H1 := Lib.hid (H0.out.trans (hb0.mono (Nat.le_of_lt g2)))
      have s00 := (hb0.cell (p := ⟨w.heap.size, 0, none⟩) g2).trans r0
      have s01 := (hb0.cell (p := ⟨w.heap.size, 1, none⟩) g2).trans r1
      have s02 := (hb0.cell (p := ⟨w.heap.size, 2, none⟩) g2).trans r2
      have s03 := (hb0.cell (p := ⟨w.heap.size, 3, none⟩) g2).trans r3
      have s04 := (hb0.cell (p := ⟨w.heap.size, 4, none⟩) g2).trans r4
      have gk0 : w.heap.size < wc.heap.size := Nat.lt_of_lt_of_le g2 hb0.size
      clear r0 r1 r2 r3 r4 g2 hb0
      have r0 := s00; clear s00 -- s00 => r0
      have r1 := s01; clear s01 -- s01 => r1
      have r2 := s02; clear s02 -- s02 => r2
      have r3 := s03; clear s03 -- s03 => r3
      have r4 := s04; clear s04 -- s04 => r4
      have g2 := gk0
      clear gk0
      obtain ⟨T1, hT1⟩ : ∃ T, T = T0 ++ S.part B0 [114] d := ⟨_, rfl⟩
      have hnl0 : T1.length ≤ 15 := by rw [hT1, List.length_append]; omega
      rw [← hT1]
      rw [← List.append_assoc, ← hT1] at Ht
      clear hT1
      clear hnl
      have hnl := hnl0
      clear hnl0
      generalize wc = w10 at *
      go_wp2_with fail
      refine (ref_HasA op w10).mono ?_
      rintro e wx ⟨rfl, rfl⟩
      obtain ⟨B1, hB1⟩ : ∃ B, B = S.hasA (S.form op) := ⟨_, rfl⟩
      rw [← hB1] at pa Ht ⊢
      clear hB1
      go_upto_if 21 with fail
      go_cut [3] (fun v wc => v = .string ⟨(T1 ++ S.part B1 [114] a).toArray⟩ ∧ Below w10.heap.size w10 wc)
      case first =>
        cases B1 with
        | false =>
          go_wp2_with fail
          go_meet
          case rel => exact ⟨str_val (by simp [S.part]), Below.refl _ _⟩
        | true =>
          have hil := itoa_len a
          go_wp2_with fail
          refine (ref_Digits a (by omega) w10).mono ?_
          rintro e wy ⟨rfl, hy⟩
          have Hs := Lib.hid (str_part2 T1 a)
          generalize S.itoa a = L at *
          go_wp2_with fail
          go_meet
          case rel => exact ⟨str_val Hs.out, hy⟩
      case rest =>
        obtain ⟨rfl, hb1⟩ := hcut
        have H2 := Lib.hid (H1.out.trans (hb1.mono (Nat.le_of_lt g2)))
        have s10 := (hb1.cell (p := ⟨w.heap.size, 0, none⟩) g2).trans r0
        have s11 := (hb1.cell (p := ⟨w.heap.size, 1, none⟩) g2).trans r1
        have s12 := (hb1.cell (p := ⟨w.heap.size, 2, none⟩) g2).trans r2
        have s13 := (hb1.cell (p := ⟨w.heap.size, 3, none⟩) g2).trans r3
        have s14 := (hb1.cell (p := ⟨w.heap.size, 4, none⟩) g2).trans r4
        have gk1 : w.heap.size < wc.heap.size := Nat.lt_of_lt_of_le g2 hb1.size
        clear r0 r1 r2 r3 r4 g2 hb1
        have r0 := s10; clear s10 -- s10 => r0
        have r1 := s11; clear s11 -- s11 => r1
        have r2 := s12; clear s12 -- s12 => r2
        have r3 := s13; clear s13 -- s13 => r3
        have r4 := s14; clear s14 -- s14 => r4
        have g2 := gk1
        clear gk1
        obtain ⟨T2, hT2⟩ : ∃ T, T = T1 ++ S.part B1 [114] a := ⟨_, rfl⟩
        have hnl1 : T2.length ≤ 25 := by rw [hT2, List.length_append]; omega
        rw [← hT2]
        rw [← List.append_assoc, ← hT2] at Ht
        clear hT2
        clear hnl
        have hnl := hnl1
        clear hnl1
        generalize wc = w11 at *
        go_wp2_with fail
        refine (ref_HasB op w11).mono ?_
        rintro e wx ⟨rfl, rfl⟩
        obtain ⟨B2, hB2⟩ : ∃ B, B = S.hasB (S.form op) := ⟨_, rfl⟩
        rw [← hB2] at pb Ht ⊢
        clear hB2
        go_upto_if 30 with fail
        go_cut [3] (fun v wc => v = .string ⟨(T2 ++ S.part B2 [114] b).toArray⟩ ∧ Below w11.heap.size w11 wc)
        case first =>
          cases B2 with
          | false =>
            go_wp2_with fail
            go_meet
            case rel => exact ⟨str_val (by simp [S.part]), Below.refl _ _⟩
          | true =>
            have hil := itoa_len b
            go_wp2_with fail
            refine (ref_Digits b (by omega) w11).mono ?_
            rintro e wy ⟨rfl, hy⟩
            have Hs := Lib.hid (str_part2 T2 b)
            generalize S.itoa b = L at *
            go_wp2_with fail
            go_meet
            case rel => exact ⟨str_val Hs.out, hy⟩
        case rest =>
          obtain ⟨rfl, hb2⟩ := hcut
          have H3 := Lib.hid (H2.out.trans (hb2.mono (Nat.le_of_lt g2)))
          have s20 := (hb2.cell (p := ⟨w.heap.size, 0, none⟩) g2).trans r0
          have s21 := (hb2.cell (p := ⟨w.heap.size, 1, none⟩) g2).trans r1
          have s22 := (hb2.cell (p := ⟨w.heap.size, 2, none⟩) g2).trans r2
          have s23 := (hb2.cell (p := ⟨w.heap.size, 3, none⟩) g2).trans r3
          have s24 := (hb2.cell (p := ⟨w.heap.size, 4, none⟩) g2).trans r4
          have gk2 : w.heap.size < wc.heap.size := Nat.lt_of_lt_of_le g2 hb2.size
          clear r0 r1 r2 r3 r4 g2 hb2
          have r0 := s20; clear s20 -- s20 => r0
          have r1 := s21; clear s21 -- s21 => r1
          have r2 := s22; clear s22 -- s22 => r2
          have r3 := s23; clear s23 -- s23 => r3
          have r4 := s24; clear s24 -- s24 => r4
          have g2 := gk2
          clear gk2
          obtain ⟨T3, hT3⟩ : ∃ T, T = T2 ++ S.part B2 [114] b := ⟨_, rfl⟩
          have hnl2 : T3.length ≤ 35 := by rw [hT3, List.length_append]; omega
          rw [← hT3]
          rw [← List.append_assoc, ← hT3] at Ht
          clear hT3
          clear hnl
          have hnl := hnl2
          clear hnl2
          generalize wc = w12 at *
          go_wp2_with fail
          refine (ref_Bits op w12).mono ?_
          rintro e wx ⟨rfl, rfl⟩
          obtain ⟨K, hK⟩ : ∃ K, K = S.bitsOf (S.form op) := ⟨_, rfl⟩
          rw [← hK] at Ht ⊢
          clear hK
          go_upto_if 40 with fail
          go_cut [3] (fun v wc => v = .string ⟨(T3 ++ S.part (decide (0 < K)) [] imm).toArray⟩ ∧ Below w12.heap.size w12 wc)
          case first =>
            by_cases hK : 0 < K
            · skip
              have hil := itoa_len imm
              go_wp2_with fail
              refine (ref_Digits imm (by omega) w12).mono ?_
              rintro e wy ⟨rfl, hy⟩
              have Hs := Lib.hid (str_part1 T3 imm hK)
              generalize S.itoa imm = L at *
              go_wp2_with fail
              go_meet
              case rel => exact ⟨str_val Hs.out, hy⟩
            · skip
              go_wp2_with fail
              go_meet
              case rel => exact ⟨str_val (by simp [S.part, hK]), Below.refl _ _⟩
          case rest =>
            obtain ⟨rfl, hb3⟩ := hcut
            have H4 := Lib.hid (H3.out.trans (hb3.mono (Nat.le_of_lt g2)))
            go_wp2_with fail
            go_ret
            exact ⟨by rw [Ht.out]; rfl, H4.out⟩

end Go.Proofs.YtjhchgbeglhoaaaDoor
