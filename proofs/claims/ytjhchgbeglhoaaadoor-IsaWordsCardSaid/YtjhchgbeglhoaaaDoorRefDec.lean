/- pennantref01.Decode at any word. -/
import Derived.Test.YtjhchgbeglhoaaaDoorIsaE
set_option linter.unusedVariables false
set_option linter.unusedSimpArgs false
set_option linter.unusedSectionVars false
namespace Go.Proofs.YtjhchgbeglhoaaaDoor
open Go.RowKit

set_option maxHeartbeats 1600000 in
theorem ref_Decode_0 (n : Int) (w : World) (h0 : 0 ≤ n) (h1 : n ≤ 4294967295) (hS : S.form (n / 67108864) = 0) :
    Calls Tryd.prog 24 #[.int .u32 n] w (DecRes n w) := by
  have hl : ¬ S.least (n / 67108864) < 0 := by
    have e := form_ways (n / 67108864)
    unfold S.least; grind
  have hmo : S.most (n / 67108864) = 0 := by
    have e := form_ways (n / 67108864)
    unfold S.most; grind
  have hd : S.hasD (S.form (n / 67108864)) = false := by rw [hS]; rfl
  have ha : S.hasA (S.form (n / 67108864)) = false := by rw [hS]; rfl
  have hb : S.hasB (S.form (n / 67108864)) = false := by rw [hS]; rfl
  have hr : S.raw n = ⟨n / 67108864, 0, 0, 0, 0⟩ := by
    simp only [S.raw, S.opOf, S.rawD, S.rawA, S.rawB, S.rawI, hd, ha, hb]
    simp [hS, hl]
  have hgm : decide (S.most (n / 67108864) < 0) = false := by
    rw [hmo]
    simp
  have Hr := Lib.hid hr
  have HD := Lib.hid hd
  have HA := Lib.hid ha
  have HB := Lib.hid hb
  have HI := Lib.hid (show S.bitsOf (S.form (n / 67108864)) = 0 by rw [hS]; rfl)
  have hgl : decide (S.least (n / 67108864) < 0) = false := by simpa using hl
  clear hS hd ha hb hr hl hmo
  go_enter Tryd.func24, Tryd.ntmps24
  go_wp2_with fail
  refine (ref_HasD _ _).mono ?_
  rintro e w' ⟨rfl, rfl⟩
  rw [HD.out]
  go_wp2_with fail
  refine (ref_HasA _ _).mono ?_
  rintro e w' ⟨rfl, rfl⟩
  rw [HA.out]
  go_wp2_with fail
  refine (ref_HasB _ _).mono ?_
  rintro e w' ⟨rfl, rfl⟩
  rw [HB.out]
  go_wp2_with fail
  refine (ref_Bits _ _).mono ?_
  rintro e w' ⟨rfl, rfl⟩
  rw [HI.out]
  go_wp2_with fail
  refine (ref_Encode_any _ _ _ _ _ _).mono ?_
  rintro e w' ⟨rfl, hb⟩
  rw [← Hr.out]
  have hb0 : Below w.heap.size w w' := Below.trans ((((Below.refl _ _).alloc (Nat.le_refl _) _).alloc (by simp) _)) (hb.mono (by simp; omega))
  obtain ⟨hc1, hc2⟩ := bcell hb
  have hz := hb.size
  clear hb
  simp at hz
  have Hb := Lib.hid hb0
  clear hb0
  have g0 : w.heap.size < w'.heap.size := by omega
  have g1 : w.heap.size + 1 < w'.heap.size := by omega
  have gx : w.heap.size < w.heap.size + 1 + 1 := by omega
  rcases dec_ways n with ⟨e1, e2, e3, e4⟩ | ⟨e1, e2, e3, e4⟩ | ⟨e1, e3, e4⟩
  · rw [e1, e2]
    have hne : (n != n) = false := by simp
    have E3 := Lib.hid e3
    have E4 := Lib.hid e4
    clear e1 e2 e3 e4
    go_wp2_with fail
    refine bodyPost_ret (v := .tuple #[.agg #[.int .i64 (n / 67108864), .int .i64 (0), .int .i64 (0), .int .i64 (0), .int .i64 (0)], .int .i64 0]) (by simp [results, Tryd.results24, go_sem, hc1, g0, g1, gx]) rfl ⟨?_, ?_⟩
    · rw [E3.out, E4.out, Hr.out]
    · exact below_five Hb.out (Nat.le_refl _) _ _ _ _ _
  · rw [e1]
    generalize S.wordOf (S.raw n) = wd at *
    have hne : (wd != n) = true := by rw [bne_iff_ne]; exact e2
    have E3 := Lib.hid e3
    have E4 := Lib.hid e4
    clear e1 e2 e3 e4
    go_wp2_with fail
    refine bodyPost_ret (v := .tuple #[.agg #[.int .i64 0, .int .i64 0, .int .i64 0, .int .i64 0, .int .i64 0], .int .i64 11]) (by simp [results, Tryd.results24, go_sem, hc1, g0, g1, gx]) rfl ⟨?_, ?_⟩
    · rw [E3.out, E4.out]
    · exact below_five Hb.out (Nat.le_refl _) _ _ _ _ _
  · rw [e1]
    have E3 := Lib.hid e3
    have E4 := Lib.hid e4
    clear e1 e3 e4
    go_wp2_with fail
    refine bodyPost_ret (v := .tuple #[.agg #[.int .i64 0, .int .i64 0, .int .i64 0, .int .i64 0, .int .i64 0], .int .i64 11]) (by simp [results, Tryd.results24, go_sem, hc1, g0, g1, gx]) rfl ⟨?_, ?_⟩
    · rw [E3.out, E4.out]
    · exact below_five Hb.out (Nat.le_refl _) _ _ _ _ _

set_option maxHeartbeats 1600000 in
theorem ref_Decode_1 (n : Int) (w : World) (h0 : 0 ≤ n) (h1 : n ≤ 4294967295) (hS : S.form (n / 67108864) = 1) :
    Calls Tryd.prog 24 #[.int .u32 n] w (DecRes n w) := by
  have hl : ¬ S.least (n / 67108864) < 0 := by
    have e := form_ways (n / 67108864)
    unfold S.least; grind
  have hmo : S.most (n / 67108864) = 0 := by
    have e := form_ways (n / 67108864)
    unfold S.most; grind
  have hd : S.hasD (S.form (n / 67108864)) = true := by rw [hS]; rfl
  have ha : S.hasA (S.form (n / 67108864)) = true := by rw [hS]; rfl
  have hb : S.hasB (S.form (n / 67108864)) = true := by rw [hS]; rfl
  have hr : S.raw n = ⟨n / 67108864, n / 2097152 % 32, n / 65536 % 32, n / 2048 % 32, 0⟩ := by
    simp only [S.raw, S.opOf, S.rawD, S.rawA, S.rawB, S.rawI, hd, ha, hb]
    simp [hS, hl]
  have hgm : decide (S.most (n / 67108864) < 0) = false := by
    rw [hmo]
    simp
  have Hr := Lib.hid hr
  have HD := Lib.hid hd
  have HA := Lib.hid ha
  have HB := Lib.hid hb
  have HI := Lib.hid (show S.bitsOf (S.form (n / 67108864)) = 0 by rw [hS]; rfl)
  have hgl : decide (S.least (n / 67108864) < 0) = false := by simpa using hl
  clear hS hd ha hb hr hl hmo
  go_enter Tryd.func24, Tryd.ntmps24
  go_wp2_with fail
  refine (ref_HasD _ _).mono ?_
  rintro e w' ⟨rfl, rfl⟩
  rw [HD.out]
  go_wp2_with fail
  refine (ref_HasA _ _).mono ?_
  rintro e w' ⟨rfl, rfl⟩
  rw [HA.out]
  go_wp2_with fail
  refine (ref_HasB _ _).mono ?_
  rintro e w' ⟨rfl, rfl⟩
  rw [HB.out]
  go_wp2_with fail
  refine (ref_Bits _ _).mono ?_
  rintro e w' ⟨rfl, rfl⟩
  rw [HI.out]
  go_wp2_with fail
  refine (ref_Encode_any _ _ _ _ _ _).mono ?_
  rintro e w' ⟨rfl, hb⟩
  rw [← Hr.out]
  have hb0 : Below w.heap.size w w' := Below.trans ((((Below.refl _ _).alloc (Nat.le_refl _) _).alloc (by simp) _)) (hb.mono (by simp; omega))
  obtain ⟨hc1, hc2⟩ := bcell hb
  have hz := hb.size
  clear hb
  simp at hz
  have Hb := Lib.hid hb0
  clear hb0
  have g0 : w.heap.size < w'.heap.size := by omega
  have g1 : w.heap.size + 1 < w'.heap.size := by omega
  have gx : w.heap.size < w.heap.size + 1 + 1 := by omega
  rcases dec_ways n with ⟨e1, e2, e3, e4⟩ | ⟨e1, e2, e3, e4⟩ | ⟨e1, e3, e4⟩
  · rw [e1, e2]
    have hne : (n != n) = false := by simp
    have E3 := Lib.hid e3
    have E4 := Lib.hid e4
    clear e1 e2 e3 e4
    go_wp2_with fail
    refine bodyPost_ret (v := .tuple #[.agg #[.int .i64 (n / 67108864), .int .i64 (n / 2097152 % 32), .int .i64 (n / 65536 % 32), .int .i64 (n / 2048 % 32), .int .i64 (0)], .int .i64 0]) (by simp [results, Tryd.results24, go_sem, hc1, g0, g1, gx]) rfl ⟨?_, ?_⟩
    · rw [E3.out, E4.out, Hr.out]
    · exact below_five Hb.out (Nat.le_refl _) _ _ _ _ _
  · rw [e1]
    generalize S.wordOf (S.raw n) = wd at *
    have hne : (wd != n) = true := by rw [bne_iff_ne]; exact e2
    have E3 := Lib.hid e3
    have E4 := Lib.hid e4
    clear e1 e2 e3 e4
    go_wp2_with fail
    refine bodyPost_ret (v := .tuple #[.agg #[.int .i64 0, .int .i64 0, .int .i64 0, .int .i64 0, .int .i64 0], .int .i64 11]) (by simp [results, Tryd.results24, go_sem, hc1, g0, g1, gx]) rfl ⟨?_, ?_⟩
    · rw [E3.out, E4.out]
    · exact below_five Hb.out (Nat.le_refl _) _ _ _ _ _
  · rw [e1]
    have E3 := Lib.hid e3
    have E4 := Lib.hid e4
    clear e1 e3 e4
    go_wp2_with fail
    refine bodyPost_ret (v := .tuple #[.agg #[.int .i64 0, .int .i64 0, .int .i64 0, .int .i64 0, .int .i64 0], .int .i64 11]) (by simp [results, Tryd.results24, go_sem, hc1, g0, g1, gx]) rfl ⟨?_, ?_⟩
    · rw [E3.out, E4.out]
    · exact below_five Hb.out (Nat.le_refl _) _ _ _ _ _

set_option maxHeartbeats 1600000 in
theorem ref_Decode_2u (n : Int) (w : World) (h0 : 0 ≤ n) (h1 : n ≤ 4294967295) (hS : S.form (n / 67108864) = 2) (hl : ¬ S.least (n / 67108864) < 0) :
    Calls Tryd.prog 24 #[.int .u32 n] w (DecRes n w) := by
  have hd : S.hasD (S.form (n / 67108864)) = true := by rw [hS]; rfl
  have ha : S.hasA (S.form (n / 67108864)) = true := by rw [hS]; rfl
  have hb : S.hasB (S.form (n / 67108864)) = false := by rw [hS]; rfl
  have hr : S.raw n = ⟨n / 67108864, n / 2097152 % 32, n / 65536 % 32, 0, n % 65536⟩ := by
    simp only [S.raw, S.opOf, S.rawD, S.rawA, S.rawB, S.rawI, hd, ha, hb]
    simp [hS, hl]
  have Hr := Lib.hid hr
  have HD := Lib.hid hd
  have HA := Lib.hid ha
  have HB := Lib.hid hb
  have HI := Lib.hid (show S.bitsOf (S.form (n / 67108864)) = 16 by rw [hS]; rfl)
  have hgl : decide (S.least (n / 67108864) < 0) = false := by simpa using hl
  clear hS hd ha hb hr hl
  have m0 : 0 ≤ n % 65536 := by omega
  have m1 : n % 65536 ≤ 65535 := by omega
  rcases Bool.eq_false_or_eq_true (decide (S.most (n / 67108864) < n % 65536)) with hgm | hgm
  all_goals
    go_enter Tryd.func24, Tryd.ntmps24
    go_wp2_with fail
    refine (ref_HasD _ _).mono ?_
    rintro e w' ⟨rfl, rfl⟩
    rw [HD.out]
    go_wp2_with fail
    refine (ref_HasA _ _).mono ?_
    rintro e w' ⟨rfl, rfl⟩
    rw [HA.out]
    go_wp2_with fail
    refine (ref_HasB _ _).mono ?_
    rintro e w' ⟨rfl, rfl⟩
    rw [HB.out]
    go_wp2_with fail
    refine (ref_Bits _ _).mono ?_
    rintro e w' ⟨rfl, rfl⟩
    rw [HI.out]
    go_wp2_with fail
    go_loop [7, 8] (fun s i => ∃ k : Nat, k ≤ 16 ∧ i = .int .i64 k ∧ s = .int .i64 (2 ^ k)) (fun _ i => 16 - (intOf i).toNat)
    case atStart => exact ⟨0, by omega, rfl, rfl⟩
    case round =>
      obtain ⟨k, hk, rfl, rfl⟩ := hrel
      by_cases hlt : k < 16
      · have hp : (2 : Int) ^ k ≤ 2147483648 := pow31 k (by omega)
        have hp0 : (0 : Int) < 2 ^ k := Int.pow_pos (by omega)
        have hps := Lib.hid (Int.pow_succ 2 k)
        generalize hpk : (2 : Int) ^ k = pk at *
        clear hpk
        go_wp2_with fail
        refine (ref_Bits _ _).mono ?_
        rintro e w' ⟨rfl, rfl⟩
        rw [HI.out]
        go_wp2_with fail
        go_round
        case rel => exact ⟨k + 1, by omega, by go_num, by rw [hps.out]; go_num⟩
        case measure => simp [intOf]; omega
      · have hke : k = 16 := by omega
        subst hke
        clear hlt hk
        go_wp2_with fail
        refine (ref_Bits _ _).mono ?_
        rintro e w' ⟨rfl, rfl⟩
        rw [HI.out]
        go_wp2_with fail
        go_quiet ((first
          | (go_at_call 46; exact quiet_left (ref_Most _ _))
          | (go_at_call 16; exact quiet_left (ref_Least _ _))))
        go_wp2_with fail
        refine (ref_Encode_any _ _ _ _ _ _).mono ?_
        rintro e w' ⟨rfl, hb⟩
        rw [← Hr.out]
        have hb0 : Below w.heap.size w w' := Below.trans (below_drewN (((Below.refl _ _).alloc (Nat.le_refl _) _).alloc (by simp) _) _) (hb.mono (by simp; omega))
        obtain ⟨hc1, hc2⟩ := bcell hb
        have hz := hb.size
        clear hb
        simp at hz
        have Hb := Lib.hid hb0
        clear hb0
        have g0 : w.heap.size < w'.heap.size := by omega
        have g1 : w.heap.size + 1 < w'.heap.size := by omega
        have gx : w.heap.size < w.heap.size + 1 + 1 := by omega
        rcases dec_ways n with ⟨e1, e2, e3, e4⟩ | ⟨e1, e2, e3, e4⟩ | ⟨e1, e3, e4⟩
        · rw [e1, e2]
          have hne : (n != n) = false := by simp
          have E3 := Lib.hid e3
          have E4 := Lib.hid e4
          clear e1 e2 e3 e4
          go_wp2_with fail
          refine bodyPost_ret (v := .tuple #[.agg #[.int .i64 (n / 67108864), .int .i64 (n / 2097152 % 32), .int .i64 (n / 65536 % 32), .int .i64 (0), .int .i64 (n % 65536)], .int .i64 0]) (by simp [results, Tryd.results24, go_sem, hc1, g0, g1, gx]) rfl ⟨?_, ?_⟩
          · rw [E3.out, E4.out, Hr.out]
          · exact below_five Hb.out (Nat.le_refl _) _ _ _ _ _
        · rw [e1]
          generalize S.wordOf (S.raw n) = wd at *
          have hne : (wd != n) = true := by rw [bne_iff_ne]; exact e2
          have E3 := Lib.hid e3
          have E4 := Lib.hid e4
          clear e1 e2 e3 e4
          go_wp2_with fail
          refine bodyPost_ret (v := .tuple #[.agg #[.int .i64 0, .int .i64 0, .int .i64 0, .int .i64 0, .int .i64 0], .int .i64 11]) (by simp [results, Tryd.results24, go_sem, hc1, g0, g1, gx]) rfl ⟨?_, ?_⟩
          · rw [E3.out, E4.out]
          · exact below_five Hb.out (Nat.le_refl _) _ _ _ _ _
        · rw [e1]
          have E3 := Lib.hid e3
          have E4 := Lib.hid e4
          clear e1 e3 e4
          go_wp2_with fail
          refine bodyPost_ret (v := .tuple #[.agg #[.int .i64 0, .int .i64 0, .int .i64 0, .int .i64 0, .int .i64 0], .int .i64 11]) (by simp [results, Tryd.results24, go_sem, hc1, g0, g1, gx]) rfl ⟨?_, ?_⟩
          · rw [E3.out, E4.out]
          · exact below_five Hb.out (Nat.le_refl _) _ _ _ _ _

set_option maxHeartbeats 1600000 in
theorem ref_Decode_2p (n : Int) (w : World) (h0 : 0 ≤ n) (h1 : n ≤ 4294967295) (hS : S.form (n / 67108864) = 2) (hl : S.least (n / 67108864) < 0) (hm : n % 65536 < 32768) :
    Calls Tryd.prog 24 #[.int .u32 n] w (DecRes n w) := by
  have hmo : S.most (n / 67108864) = 32767 := by
    have e := form_ways (n / 67108864)
    have e2 : (S.least (n / 67108864) < 0 ∧ n / 67108864 ≠ 23) ∧ n / 67108864 ≠ 32 := ⟨⟨hl, by omega⟩, by omega⟩
    revert e2; unfold S.least S.most; grind
  have hd : S.hasD (S.form (n / 67108864)) = true := by rw [hS]; rfl
  have ha : S.hasA (S.form (n / 67108864)) = true := by rw [hS]; rfl
  have hb : S.hasB (S.form (n / 67108864)) = false := by rw [hS]; rfl
  have hr : S.raw n = ⟨n / 67108864, n / 2097152 % 32, n / 65536 % 32, 0, n % 65536⟩ := by
    simp only [S.raw, S.opOf, S.rawD, S.rawA, S.rawB, S.rawI, hd, ha, hb]
    simp [hS, hl, hm]
    try omega
  have hgm : decide (S.most (n / 67108864) < n % 65536) = false := by
    rw [hmo]
    simp
    omega
  have Hr := Lib.hid hr
  have HD := Lib.hid hd
  have HA := Lib.hid ha
  have HB := Lib.hid hb
  have HI := Lib.hid (show S.bitsOf (S.form (n / 67108864)) = 16 by rw [hS]; rfl)
  have hgl : decide (S.least (n / 67108864) < 0) = true := by simpa using hl
  clear hS hd ha hb hr hl hmo
  have m0 : 0 ≤ n % 65536 := by omega
  have m1 : n % 65536 ≤ 65535 := by omega
  go_enter Tryd.func24, Tryd.ntmps24
  go_wp2_with fail
  refine (ref_HasD _ _).mono ?_
  rintro e w' ⟨rfl, rfl⟩
  rw [HD.out]
  go_wp2_with fail
  refine (ref_HasA _ _).mono ?_
  rintro e w' ⟨rfl, rfl⟩
  rw [HA.out]
  go_wp2_with fail
  refine (ref_HasB _ _).mono ?_
  rintro e w' ⟨rfl, rfl⟩
  rw [HB.out]
  go_wp2_with fail
  refine (ref_Bits _ _).mono ?_
  rintro e w' ⟨rfl, rfl⟩
  rw [HI.out]
  go_wp2_with fail
  go_loop [7, 8] (fun s i => ∃ k : Nat, k ≤ 16 ∧ i = .int .i64 k ∧ s = .int .i64 (2 ^ k)) (fun _ i => 16 - (intOf i).toNat)
  case atStart => exact ⟨0, by omega, rfl, rfl⟩
  case round =>
    obtain ⟨k, hk, rfl, rfl⟩ := hrel
    by_cases hlt : k < 16
    · have hp : (2 : Int) ^ k ≤ 2147483648 := pow31 k (by omega)
      have hp0 : (0 : Int) < 2 ^ k := Int.pow_pos (by omega)
      have hps := Lib.hid (Int.pow_succ 2 k)
      generalize hpk : (2 : Int) ^ k = pk at *
      clear hpk
      go_wp2_with fail
      refine (ref_Bits _ _).mono ?_
      rintro e w' ⟨rfl, rfl⟩
      rw [HI.out]
      go_wp2_with fail
      go_round
      case rel => exact ⟨k + 1, by omega, by go_num, by rw [hps.out]; go_num⟩
      case measure => simp [intOf]; omega
    · have hke : k = 16 := by omega
      subst hke
      clear hlt hk
      go_wp2_with fail
      refine (ref_Bits _ _).mono ?_
      rintro e w' ⟨rfl, rfl⟩
      rw [HI.out]
      go_wp2_with fail
      go_quiet ((first
        | (go_at_call 46; exact quiet_left (ref_Most _ _))
        | (go_at_call 16; exact quiet_left (ref_Least _ _))))
      go_wp2_with fail
      refine (ref_Encode_any _ _ _ _ _ _).mono ?_
      rintro e w' ⟨rfl, hb⟩
      rw [← Hr.out]
      have hb0 : Below w.heap.size w w' := Below.trans (below_drewN (((Below.refl _ _).alloc (Nat.le_refl _) _).alloc (by simp) _) _) (hb.mono (by simp; omega))
      obtain ⟨hc1, hc2⟩ := bcell hb
      have hz := hb.size
      clear hb
      simp at hz
      have Hb := Lib.hid hb0
      clear hb0
      have g0 : w.heap.size < w'.heap.size := by omega
      have g1 : w.heap.size + 1 < w'.heap.size := by omega
      have gx : w.heap.size < w.heap.size + 1 + 1 := by omega
      rcases dec_ways n with ⟨e1, e2, e3, e4⟩ | ⟨e1, e2, e3, e4⟩ | ⟨e1, e3, e4⟩
      · rw [e1, e2]
        have hne : (n != n) = false := by simp
        have E3 := Lib.hid e3
        have E4 := Lib.hid e4
        clear e1 e2 e3 e4
        go_wp2_with fail
        refine bodyPost_ret (v := .tuple #[.agg #[.int .i64 (n / 67108864), .int .i64 (n / 2097152 % 32), .int .i64 (n / 65536 % 32), .int .i64 (0), .int .i64 (n % 65536)], .int .i64 0]) (by simp [results, Tryd.results24, go_sem, hc1, g0, g1, gx]) rfl ⟨?_, ?_⟩
        · rw [E3.out, E4.out, Hr.out]
        · exact below_five Hb.out (Nat.le_refl _) _ _ _ _ _
      · rw [e1]
        generalize S.wordOf (S.raw n) = wd at *
        have hne : (wd != n) = true := by rw [bne_iff_ne]; exact e2
        have E3 := Lib.hid e3
        have E4 := Lib.hid e4
        clear e1 e2 e3 e4
        go_wp2_with fail
        refine bodyPost_ret (v := .tuple #[.agg #[.int .i64 0, .int .i64 0, .int .i64 0, .int .i64 0, .int .i64 0], .int .i64 11]) (by simp [results, Tryd.results24, go_sem, hc1, g0, g1, gx]) rfl ⟨?_, ?_⟩
        · rw [E3.out, E4.out]
        · exact below_five Hb.out (Nat.le_refl _) _ _ _ _ _
      · rw [e1]
        have E3 := Lib.hid e3
        have E4 := Lib.hid e4
        clear e1 e3 e4
        go_wp2_with fail
        refine bodyPost_ret (v := .tuple #[.agg #[.int .i64 0, .int .i64 0, .int .i64 0, .int .i64 0, .int .i64 0], .int .i64 11]) (by simp [results, Tryd.results24, go_sem, hc1, g0, g1, gx]) rfl ⟨?_, ?_⟩
        · rw [E3.out, E4.out]
        · exact below_five Hb.out (Nat.le_refl _) _ _ _ _ _

set_option maxHeartbeats 1600000 in
theorem ref_Decode_2n (n : Int) (w : World) (h0 : 0 ≤ n) (h1 : n ≤ 4294967295) (hS : S.form (n / 67108864) = 2) (hl : S.least (n / 67108864) < 0) (hm : 32768 ≤ n % 65536) :
    Calls Tryd.prog 24 #[.int .u32 n] w (DecRes n w) := by
  have hmo : S.most (n / 67108864) = 32767 := by
    have e := form_ways (n / 67108864)
    have e2 : (S.least (n / 67108864) < 0 ∧ n / 67108864 ≠ 23) ∧ n / 67108864 ≠ 32 := ⟨⟨hl, by omega⟩, by omega⟩
    revert e2; unfold S.least S.most; grind
  have hd : S.hasD (S.form (n / 67108864)) = true := by rw [hS]; rfl
  have ha : S.hasA (S.form (n / 67108864)) = true := by rw [hS]; rfl
  have hb : S.hasB (S.form (n / 67108864)) = false := by rw [hS]; rfl
  have hr : S.raw n = ⟨n / 67108864, n / 2097152 % 32, n / 65536 % 32, 0, n % 65536 - 65536⟩ := by
    simp only [S.raw, S.opOf, S.rawD, S.rawA, S.rawB, S.rawI, hd, ha, hb]
    simp [hS, hl, hm]
  have hgm : decide (S.most (n / 67108864) < n % 65536) = true := by
    rw [hmo]
    simp
    omega
  have Hr := Lib.hid hr
  have HD := Lib.hid hd
  have HA := Lib.hid ha
  have HB := Lib.hid hb
  have HI := Lib.hid (show S.bitsOf (S.form (n / 67108864)) = 16 by rw [hS]; rfl)
  have hgl : decide (S.least (n / 67108864) < 0) = true := by simpa using hl
  clear hS hd ha hb hr hl hmo
  have m0 : 0 ≤ n % 65536 := by omega
  have m1 : n % 65536 ≤ 65535 := by omega
  go_enter Tryd.func24, Tryd.ntmps24
  go_wp2_with fail
  refine (ref_HasD _ _).mono ?_
  rintro e w' ⟨rfl, rfl⟩
  rw [HD.out]
  go_wp2_with fail
  refine (ref_HasA _ _).mono ?_
  rintro e w' ⟨rfl, rfl⟩
  rw [HA.out]
  go_wp2_with fail
  refine (ref_HasB _ _).mono ?_
  rintro e w' ⟨rfl, rfl⟩
  rw [HB.out]
  go_wp2_with fail
  refine (ref_Bits _ _).mono ?_
  rintro e w' ⟨rfl, rfl⟩
  rw [HI.out]
  go_wp2_with fail
  go_loop [7, 8] (fun s i => ∃ k : Nat, k ≤ 16 ∧ i = .int .i64 k ∧ s = .int .i64 (2 ^ k)) (fun _ i => 16 - (intOf i).toNat)
  case atStart => exact ⟨0, by omega, rfl, rfl⟩
  case round =>
    obtain ⟨k, hk, rfl, rfl⟩ := hrel
    by_cases hlt : k < 16
    · have hp : (2 : Int) ^ k ≤ 2147483648 := pow31 k (by omega)
      have hp0 : (0 : Int) < 2 ^ k := Int.pow_pos (by omega)
      have hps := Lib.hid (Int.pow_succ 2 k)
      generalize hpk : (2 : Int) ^ k = pk at *
      clear hpk
      go_wp2_with fail
      refine (ref_Bits _ _).mono ?_
      rintro e w' ⟨rfl, rfl⟩
      rw [HI.out]
      go_wp2_with fail
      go_round
      case rel => exact ⟨k + 1, by omega, by go_num, by rw [hps.out]; go_num⟩
      case measure => simp [intOf]; omega
    · have hke : k = 16 := by omega
      subst hke
      clear hlt hk
      go_wp2_with fail
      refine (ref_Bits _ _).mono ?_
      rintro e w' ⟨rfl, rfl⟩
      rw [HI.out]
      go_wp2_with fail
      go_quiet ((first
        | (go_at_call 46; exact quiet_left (ref_Most _ _))
        | (go_at_call 16; exact quiet_left (ref_Least _ _))))
      go_wp2_with fail
      refine (ref_Encode_any _ _ _ _ _ _).mono ?_
      rintro e w' ⟨rfl, hb⟩
      rw [← Hr.out]
      have hb0 : Below w.heap.size w w' := Below.trans (Below.setCell (p := ⟨w.heap.size + 1, 4, none⟩) (below_drewN (((Below.refl _ _).alloc (Nat.le_refl _) _).alloc (by simp) _) _) (Nat.le_succ _) _) (hb.mono (by simp; omega))
      obtain ⟨hc1, hc2⟩ := bcell hb
      have hz := hb.size
      clear hb
      simp at hz
      have Hb := Lib.hid hb0
      clear hb0
      have g0 : w.heap.size < w'.heap.size := by omega
      have g1 : w.heap.size + 1 < w'.heap.size := by omega
      have gx : w.heap.size < w.heap.size + 1 + 1 := by omega
      rcases dec_ways n with ⟨e1, e2, e3, e4⟩ | ⟨e1, e2, e3, e4⟩ | ⟨e1, e3, e4⟩
      · rw [e1, e2]
        have hne : (n != n) = false := by simp
        have E3 := Lib.hid e3
        have E4 := Lib.hid e4
        clear e1 e2 e3 e4
        go_wp2_with fail
        refine bodyPost_ret (v := .tuple #[.agg #[.int .i64 (n / 67108864), .int .i64 (n / 2097152 % 32), .int .i64 (n / 65536 % 32), .int .i64 (0), .int .i64 (n % 65536 - 65536)], .int .i64 0]) (by simp [results, Tryd.results24, go_sem, hc1, g0, g1, gx]) rfl ⟨?_, ?_⟩
        · rw [E3.out, E4.out, Hr.out]
        · exact below_five Hb.out (Nat.le_refl _) _ _ _ _ _
      · rw [e1]
        generalize S.wordOf (S.raw n) = wd at *
        have hne : (wd != n) = true := by rw [bne_iff_ne]; exact e2
        have E3 := Lib.hid e3
        have E4 := Lib.hid e4
        clear e1 e2 e3 e4
        go_wp2_with fail
        refine bodyPost_ret (v := .tuple #[.agg #[.int .i64 0, .int .i64 0, .int .i64 0, .int .i64 0, .int .i64 0], .int .i64 11]) (by simp [results, Tryd.results24, go_sem, hc1, g0, g1, gx]) rfl ⟨?_, ?_⟩
        · rw [E3.out, E4.out]
        · exact below_five Hb.out (Nat.le_refl _) _ _ _ _ _
      · rw [e1]
        have E3 := Lib.hid e3
        have E4 := Lib.hid e4
        clear e1 e3 e4
        go_wp2_with fail
        refine bodyPost_ret (v := .tuple #[.agg #[.int .i64 0, .int .i64 0, .int .i64 0, .int .i64 0, .int .i64 0], .int .i64 11]) (by simp [results, Tryd.results24, go_sem, hc1, g0, g1, gx]) rfl ⟨?_, ?_⟩
        · rw [E3.out, E4.out]
        · exact below_five Hb.out (Nat.le_refl _) _ _ _ _ _

set_option maxHeartbeats 1600000 in
theorem ref_Decode_3 (n : Int) (w : World) (h0 : 0 ≤ n) (h1 : n ≤ 4294967295) (hS : S.form (n / 67108864) = 3) :
    Calls Tryd.prog 24 #[.int .u32 n] w (DecRes n w) := by
  have hl : ¬ S.least (n / 67108864) < 0 := by
    have e := form_ways (n / 67108864)
    unfold S.least; grind
  have hd : S.hasD (S.form (n / 67108864)) = true := by rw [hS]; rfl
  have ha : S.hasA (S.form (n / 67108864)) = false := by rw [hS]; rfl
  have hb : S.hasB (S.form (n / 67108864)) = false := by rw [hS]; rfl
  have hr : S.raw n = ⟨n / 67108864, n / 2097152 % 32, 0, 0, n % 65536⟩ := by
    simp only [S.raw, S.opOf, S.rawD, S.rawA, S.rawB, S.rawI, hd, ha, hb]
    simp [hS, hl]
  have Hr := Lib.hid hr
  have HD := Lib.hid hd
  have HA := Lib.hid ha
  have HB := Lib.hid hb
  have HI := Lib.hid (show S.bitsOf (S.form (n / 67108864)) = 16 by rw [hS]; rfl)
  have hgl : decide (S.least (n / 67108864) < 0) = false := by simpa using hl
  clear hS hd ha hb hr hl
  have m0 : 0 ≤ n % 65536 := by omega
  have m1 : n % 65536 ≤ 65535 := by omega
  rcases Bool.eq_false_or_eq_true (decide (S.most (n / 67108864) < n % 65536)) with hgm | hgm
  all_goals
    go_enter Tryd.func24, Tryd.ntmps24
    go_wp2_with fail
    refine (ref_HasD _ _).mono ?_
    rintro e w' ⟨rfl, rfl⟩
    rw [HD.out]
    go_wp2_with fail
    refine (ref_HasA _ _).mono ?_
    rintro e w' ⟨rfl, rfl⟩
    rw [HA.out]
    go_wp2_with fail
    refine (ref_HasB _ _).mono ?_
    rintro e w' ⟨rfl, rfl⟩
    rw [HB.out]
    go_wp2_with fail
    refine (ref_Bits _ _).mono ?_
    rintro e w' ⟨rfl, rfl⟩
    rw [HI.out]
    go_wp2_with fail
    go_loop [7, 8] (fun s i => ∃ k : Nat, k ≤ 16 ∧ i = .int .i64 k ∧ s = .int .i64 (2 ^ k)) (fun _ i => 16 - (intOf i).toNat)
    case atStart => exact ⟨0, by omega, rfl, rfl⟩
    case round =>
      obtain ⟨k, hk, rfl, rfl⟩ := hrel
      by_cases hlt : k < 16
      · have hp : (2 : Int) ^ k ≤ 2147483648 := pow31 k (by omega)
        have hp0 : (0 : Int) < 2 ^ k := Int.pow_pos (by omega)
        have hps := Lib.hid (Int.pow_succ 2 k)
        generalize hpk : (2 : Int) ^ k = pk at *
        clear hpk
        go_wp2_with fail
        refine (ref_Bits _ _).mono ?_
        rintro e w' ⟨rfl, rfl⟩
        rw [HI.out]
        go_wp2_with fail
        go_round
        case rel => exact ⟨k + 1, by omega, by go_num, by rw [hps.out]; go_num⟩
        case measure => simp [intOf]; omega
      · have hke : k = 16 := by omega
        subst hke
        clear hlt hk
        go_wp2_with fail
        refine (ref_Bits _ _).mono ?_
        rintro e w' ⟨rfl, rfl⟩
        rw [HI.out]
        go_wp2_with fail
        go_quiet ((first
          | (go_at_call 46; exact quiet_left (ref_Most _ _))
          | (go_at_call 16; exact quiet_left (ref_Least _ _))))
        go_wp2_with fail
        refine (ref_Encode_any _ _ _ _ _ _).mono ?_
        rintro e w' ⟨rfl, hb⟩
        rw [← Hr.out]
        have hb0 : Below w.heap.size w w' := Below.trans (below_drewN (((Below.refl _ _).alloc (Nat.le_refl _) _).alloc (by simp) _) _) (hb.mono (by simp; omega))
        obtain ⟨hc1, hc2⟩ := bcell hb
        have hz := hb.size
        clear hb
        simp at hz
        have Hb := Lib.hid hb0
        clear hb0
        have g0 : w.heap.size < w'.heap.size := by omega
        have g1 : w.heap.size + 1 < w'.heap.size := by omega
        have gx : w.heap.size < w.heap.size + 1 + 1 := by omega
        rcases dec_ways n with ⟨e1, e2, e3, e4⟩ | ⟨e1, e2, e3, e4⟩ | ⟨e1, e3, e4⟩
        · rw [e1, e2]
          have hne : (n != n) = false := by simp
          have E3 := Lib.hid e3
          have E4 := Lib.hid e4
          clear e1 e2 e3 e4
          go_wp2_with fail
          refine bodyPost_ret (v := .tuple #[.agg #[.int .i64 (n / 67108864), .int .i64 (n / 2097152 % 32), .int .i64 (0), .int .i64 (0), .int .i64 (n % 65536)], .int .i64 0]) (by simp [results, Tryd.results24, go_sem, hc1, g0, g1, gx]) rfl ⟨?_, ?_⟩
          · rw [E3.out, E4.out, Hr.out]
          · exact below_five Hb.out (Nat.le_refl _) _ _ _ _ _
        · rw [e1]
          generalize S.wordOf (S.raw n) = wd at *
          have hne : (wd != n) = true := by rw [bne_iff_ne]; exact e2
          have E3 := Lib.hid e3
          have E4 := Lib.hid e4
          clear e1 e2 e3 e4
          go_wp2_with fail
          refine bodyPost_ret (v := .tuple #[.agg #[.int .i64 0, .int .i64 0, .int .i64 0, .int .i64 0, .int .i64 0], .int .i64 11]) (by simp [results, Tryd.results24, go_sem, hc1, g0, g1, gx]) rfl ⟨?_, ?_⟩
          · rw [E3.out, E4.out]
          · exact below_five Hb.out (Nat.le_refl _) _ _ _ _ _
        · rw [e1]
          have E3 := Lib.hid e3
          have E4 := Lib.hid e4
          clear e1 e3 e4
          go_wp2_with fail
          refine bodyPost_ret (v := .tuple #[.agg #[.int .i64 0, .int .i64 0, .int .i64 0, .int .i64 0, .int .i64 0], .int .i64 11]) (by simp [results, Tryd.results24, go_sem, hc1, g0, g1, gx]) rfl ⟨?_, ?_⟩
          · rw [E3.out, E4.out]
          · exact below_five Hb.out (Nat.le_refl _) _ _ _ _ _

set_option maxHeartbeats 1600000 in
theorem ref_Decode_4p (n : Int) (w : World) (h0 : 0 ≤ n) (h1 : n ≤ 4294967295) (hS : S.form (n / 67108864) = 4) (hm : n % 65536 < 32768) :
    Calls Tryd.prog 24 #[.int .u32 n] w (DecRes n w) := by
  have hl : S.least (n / 67108864) < 0 := by
    have e := form_ways (n / 67108864)
    unfold S.least; grind
  have hmo : S.most (n / 67108864) = 32767 := by
    have e := form_ways (n / 67108864)
    have e2 : (S.least (n / 67108864) < 0 ∧ n / 67108864 ≠ 23) ∧ n / 67108864 ≠ 32 := ⟨⟨hl, by omega⟩, by omega⟩
    revert e2; unfold S.least S.most; grind
  have hd : S.hasD (S.form (n / 67108864)) = false := by rw [hS]; rfl
  have ha : S.hasA (S.form (n / 67108864)) = true := by rw [hS]; rfl
  have hb : S.hasB (S.form (n / 67108864)) = true := by rw [hS]; rfl
  have hr : S.raw n = ⟨n / 67108864, 0, n / 2097152 % 32, n / 65536 % 32, n % 65536⟩ := by
    simp only [S.raw, S.opOf, S.rawD, S.rawA, S.rawB, S.rawI, hd, ha, hb]
    simp [hS, hl, hm]
    try omega
  have hgm : decide (S.most (n / 67108864) < n % 65536) = false := by
    rw [hmo]
    simp
    omega
  have Hr := Lib.hid hr
  have HD := Lib.hid hd
  have HA := Lib.hid ha
  have HB := Lib.hid hb
  have HI := Lib.hid (show S.bitsOf (S.form (n / 67108864)) = 16 by rw [hS]; rfl)
  have hgl : decide (S.least (n / 67108864) < 0) = true := by simpa using hl
  clear hS hd ha hb hr hl hmo
  have m0 : 0 ≤ n % 65536 := by omega
  have m1 : n % 65536 ≤ 65535 := by omega
  go_enter Tryd.func24, Tryd.ntmps24
  go_wp2_with fail
  refine (ref_HasD _ _).mono ?_
  rintro e w' ⟨rfl, rfl⟩
  rw [HD.out]
  go_wp2_with fail
  refine (ref_HasA _ _).mono ?_
  rintro e w' ⟨rfl, rfl⟩
  rw [HA.out]
  go_wp2_with fail
  refine (ref_HasB _ _).mono ?_
  rintro e w' ⟨rfl, rfl⟩
  rw [HB.out]
  go_wp2_with fail
  refine (ref_Bits _ _).mono ?_
  rintro e w' ⟨rfl, rfl⟩
  rw [HI.out]
  go_wp2_with fail
  go_loop [7, 8] (fun s i => ∃ k : Nat, k ≤ 16 ∧ i = .int .i64 k ∧ s = .int .i64 (2 ^ k)) (fun _ i => 16 - (intOf i).toNat)
  case atStart => exact ⟨0, by omega, rfl, rfl⟩
  case round =>
    obtain ⟨k, hk, rfl, rfl⟩ := hrel
    by_cases hlt : k < 16
    · have hp : (2 : Int) ^ k ≤ 2147483648 := pow31 k (by omega)
      have hp0 : (0 : Int) < 2 ^ k := Int.pow_pos (by omega)
      have hps := Lib.hid (Int.pow_succ 2 k)
      generalize hpk : (2 : Int) ^ k = pk at *
      clear hpk
      go_wp2_with fail
      refine (ref_Bits _ _).mono ?_
      rintro e w' ⟨rfl, rfl⟩
      rw [HI.out]
      go_wp2_with fail
      go_round
      case rel => exact ⟨k + 1, by omega, by go_num, by rw [hps.out]; go_num⟩
      case measure => simp [intOf]; omega
    · have hke : k = 16 := by omega
      subst hke
      clear hlt hk
      go_wp2_with fail
      refine (ref_Bits _ _).mono ?_
      rintro e w' ⟨rfl, rfl⟩
      rw [HI.out]
      go_wp2_with fail
      go_quiet ((first
        | (go_at_call 46; exact quiet_left (ref_Most _ _))
        | (go_at_call 16; exact quiet_left (ref_Least _ _))))
      go_wp2_with fail
      refine (ref_Encode_any _ _ _ _ _ _).mono ?_
      rintro e w' ⟨rfl, hb⟩
      rw [← Hr.out]
      have hb0 : Below w.heap.size w w' := Below.trans (below_drewN (((Below.refl _ _).alloc (Nat.le_refl _) _).alloc (by simp) _) _) (hb.mono (by simp; omega))
      obtain ⟨hc1, hc2⟩ := bcell hb
      have hz := hb.size
      clear hb
      simp at hz
      have Hb := Lib.hid hb0
      clear hb0
      have g0 : w.heap.size < w'.heap.size := by omega
      have g1 : w.heap.size + 1 < w'.heap.size := by omega
      have gx : w.heap.size < w.heap.size + 1 + 1 := by omega
      rcases dec_ways n with ⟨e1, e2, e3, e4⟩ | ⟨e1, e2, e3, e4⟩ | ⟨e1, e3, e4⟩
      · rw [e1, e2]
        have hne : (n != n) = false := by simp
        have E3 := Lib.hid e3
        have E4 := Lib.hid e4
        clear e1 e2 e3 e4
        go_wp2_with fail
        refine bodyPost_ret (v := .tuple #[.agg #[.int .i64 (n / 67108864), .int .i64 (0), .int .i64 (n / 2097152 % 32), .int .i64 (n / 65536 % 32), .int .i64 (n % 65536)], .int .i64 0]) (by simp [results, Tryd.results24, go_sem, hc1, g0, g1, gx]) rfl ⟨?_, ?_⟩
        · rw [E3.out, E4.out, Hr.out]
        · exact below_five Hb.out (Nat.le_refl _) _ _ _ _ _
      · rw [e1]
        generalize S.wordOf (S.raw n) = wd at *
        have hne : (wd != n) = true := by rw [bne_iff_ne]; exact e2
        have E3 := Lib.hid e3
        have E4 := Lib.hid e4
        clear e1 e2 e3 e4
        go_wp2_with fail
        refine bodyPost_ret (v := .tuple #[.agg #[.int .i64 0, .int .i64 0, .int .i64 0, .int .i64 0, .int .i64 0], .int .i64 11]) (by simp [results, Tryd.results24, go_sem, hc1, g0, g1, gx]) rfl ⟨?_, ?_⟩
        · rw [E3.out, E4.out]
        · exact below_five Hb.out (Nat.le_refl _) _ _ _ _ _
      · rw [e1]
        have E3 := Lib.hid e3
        have E4 := Lib.hid e4
        clear e1 e3 e4
        go_wp2_with fail
        refine bodyPost_ret (v := .tuple #[.agg #[.int .i64 0, .int .i64 0, .int .i64 0, .int .i64 0, .int .i64 0], .int .i64 11]) (by simp [results, Tryd.results24, go_sem, hc1, g0, g1, gx]) rfl ⟨?_, ?_⟩
        · rw [E3.out, E4.out]
        · exact below_five Hb.out (Nat.le_refl _) _ _ _ _ _

set_option maxHeartbeats 1600000 in
theorem ref_Decode_4n (n : Int) (w : World) (h0 : 0 ≤ n) (h1 : n ≤ 4294967295) (hS : S.form (n / 67108864) = 4) (hm : 32768 ≤ n % 65536) :
    Calls Tryd.prog 24 #[.int .u32 n] w (DecRes n w) := by
  have hl : S.least (n / 67108864) < 0 := by
    have e := form_ways (n / 67108864)
    unfold S.least; grind
  have hmo : S.most (n / 67108864) = 32767 := by
    have e := form_ways (n / 67108864)
    have e2 : (S.least (n / 67108864) < 0 ∧ n / 67108864 ≠ 23) ∧ n / 67108864 ≠ 32 := ⟨⟨hl, by omega⟩, by omega⟩
    revert e2; unfold S.least S.most; grind
  have hd : S.hasD (S.form (n / 67108864)) = false := by rw [hS]; rfl
  have ha : S.hasA (S.form (n / 67108864)) = true := by rw [hS]; rfl
  have hb : S.hasB (S.form (n / 67108864)) = true := by rw [hS]; rfl
  have hr : S.raw n = ⟨n / 67108864, 0, n / 2097152 % 32, n / 65536 % 32, n % 65536 - 65536⟩ := by
    simp only [S.raw, S.opOf, S.rawD, S.rawA, S.rawB, S.rawI, hd, ha, hb]
    simp [hS, hl, hm]
  have hgm : decide (S.most (n / 67108864) < n % 65536) = true := by
    rw [hmo]
    simp
    omega
  have Hr := Lib.hid hr
  have HD := Lib.hid hd
  have HA := Lib.hid ha
  have HB := Lib.hid hb
  have HI := Lib.hid (show S.bitsOf (S.form (n / 67108864)) = 16 by rw [hS]; rfl)
  have hgl : decide (S.least (n / 67108864) < 0) = true := by simpa using hl
  clear hS hd ha hb hr hl hmo
  have m0 : 0 ≤ n % 65536 := by omega
  have m1 : n % 65536 ≤ 65535 := by omega
  go_enter Tryd.func24, Tryd.ntmps24
  go_wp2_with fail
  refine (ref_HasD _ _).mono ?_
  rintro e w' ⟨rfl, rfl⟩
  rw [HD.out]
  go_wp2_with fail
  refine (ref_HasA _ _).mono ?_
  rintro e w' ⟨rfl, rfl⟩
  rw [HA.out]
  go_wp2_with fail
  refine (ref_HasB _ _).mono ?_
  rintro e w' ⟨rfl, rfl⟩
  rw [HB.out]
  go_wp2_with fail
  refine (ref_Bits _ _).mono ?_
  rintro e w' ⟨rfl, rfl⟩
  rw [HI.out]
  go_wp2_with fail
  go_loop [7, 8] (fun s i => ∃ k : Nat, k ≤ 16 ∧ i = .int .i64 k ∧ s = .int .i64 (2 ^ k)) (fun _ i => 16 - (intOf i).toNat)
  case atStart => exact ⟨0, by omega, rfl, rfl⟩
  case round =>
    obtain ⟨k, hk, rfl, rfl⟩ := hrel
    by_cases hlt : k < 16
    · have hp : (2 : Int) ^ k ≤ 2147483648 := pow31 k (by omega)
      have hp0 : (0 : Int) < 2 ^ k := Int.pow_pos (by omega)
      have hps := Lib.hid (Int.pow_succ 2 k)
      generalize hpk : (2 : Int) ^ k = pk at *
      clear hpk
      go_wp2_with fail
      refine (ref_Bits _ _).mono ?_
      rintro e w' ⟨rfl, rfl⟩
      rw [HI.out]
      go_wp2_with fail
      go_round
      case rel => exact ⟨k + 1, by omega, by go_num, by rw [hps.out]; go_num⟩
      case measure => simp [intOf]; omega
    · have hke : k = 16 := by omega
      subst hke
      clear hlt hk
      go_wp2_with fail
      refine (ref_Bits _ _).mono ?_
      rintro e w' ⟨rfl, rfl⟩
      rw [HI.out]
      go_wp2_with fail
      go_quiet ((first
        | (go_at_call 46; exact quiet_left (ref_Most _ _))
        | (go_at_call 16; exact quiet_left (ref_Least _ _))))
      go_wp2_with fail
      refine (ref_Encode_any _ _ _ _ _ _).mono ?_
      rintro e w' ⟨rfl, hb⟩
      rw [← Hr.out]
      have hb0 : Below w.heap.size w w' := Below.trans (Below.setCell (p := ⟨w.heap.size + 1, 4, none⟩) (below_drewN (((Below.refl _ _).alloc (Nat.le_refl _) _).alloc (by simp) _) _) (Nat.le_succ _) _) (hb.mono (by simp; omega))
      obtain ⟨hc1, hc2⟩ := bcell hb
      have hz := hb.size
      clear hb
      simp at hz
      have Hb := Lib.hid hb0
      clear hb0
      have g0 : w.heap.size < w'.heap.size := by omega
      have g1 : w.heap.size + 1 < w'.heap.size := by omega
      have gx : w.heap.size < w.heap.size + 1 + 1 := by omega
      rcases dec_ways n with ⟨e1, e2, e3, e4⟩ | ⟨e1, e2, e3, e4⟩ | ⟨e1, e3, e4⟩
      · rw [e1, e2]
        have hne : (n != n) = false := by simp
        have E3 := Lib.hid e3
        have E4 := Lib.hid e4
        clear e1 e2 e3 e4
        go_wp2_with fail
        refine bodyPost_ret (v := .tuple #[.agg #[.int .i64 (n / 67108864), .int .i64 (0), .int .i64 (n / 2097152 % 32), .int .i64 (n / 65536 % 32), .int .i64 (n % 65536 - 65536)], .int .i64 0]) (by simp [results, Tryd.results24, go_sem, hc1, g0, g1, gx]) rfl ⟨?_, ?_⟩
        · rw [E3.out, E4.out, Hr.out]
        · exact below_five Hb.out (Nat.le_refl _) _ _ _ _ _
      · rw [e1]
        generalize S.wordOf (S.raw n) = wd at *
        have hne : (wd != n) = true := by rw [bne_iff_ne]; exact e2
        have E3 := Lib.hid e3
        have E4 := Lib.hid e4
        clear e1 e2 e3 e4
        go_wp2_with fail
        refine bodyPost_ret (v := .tuple #[.agg #[.int .i64 0, .int .i64 0, .int .i64 0, .int .i64 0, .int .i64 0], .int .i64 11]) (by simp [results, Tryd.results24, go_sem, hc1, g0, g1, gx]) rfl ⟨?_, ?_⟩
        · rw [E3.out, E4.out]
        · exact below_five Hb.out (Nat.le_refl _) _ _ _ _ _
      · rw [e1]
        have E3 := Lib.hid e3
        have E4 := Lib.hid e4
        clear e1 e3 e4
        go_wp2_with fail
        refine bodyPost_ret (v := .tuple #[.agg #[.int .i64 0, .int .i64 0, .int .i64 0, .int .i64 0, .int .i64 0], .int .i64 11]) (by simp [results, Tryd.results24, go_sem, hc1, g0, g1, gx]) rfl ⟨?_, ?_⟩
        · rw [E3.out, E4.out]
        · exact below_five Hb.out (Nat.le_refl _) _ _ _ _ _

set_option maxHeartbeats 1600000 in
theorem ref_Decode_5p (n : Int) (w : World) (h0 : 0 ≤ n) (h1 : n ≤ 4294967295) (hS : S.form (n / 67108864) = 5) (hm : n % 2097152 < 1048576) :
    Calls Tryd.prog 24 #[.int .u32 n] w (DecRes n w) := by
  have hl : S.least (n / 67108864) < 0 := by
    have e := form_ways (n / 67108864)
    unfold S.least; grind
  have hmo : S.most (n / 67108864) = 1048575 := by
    have e := form_ways (n / 67108864)
    have e2 : (S.least (n / 67108864) < 0 ∧ n / 67108864 ≠ 23) ∧ n / 67108864 = 32 := ⟨⟨hl, by omega⟩, by omega⟩
    revert e2; unfold S.least S.most; grind
  have hd : S.hasD (S.form (n / 67108864)) = true := by rw [hS]; rfl
  have ha : S.hasA (S.form (n / 67108864)) = false := by rw [hS]; rfl
  have hb : S.hasB (S.form (n / 67108864)) = false := by rw [hS]; rfl
  have hr : S.raw n = ⟨n / 67108864, n / 2097152 % 32, 0, 0, n % 2097152⟩ := by
    simp only [S.raw, S.opOf, S.rawD, S.rawA, S.rawB, S.rawI, hd, ha, hb]
    simp [hS, hl, hm]
    try omega
  have hgm : decide (S.most (n / 67108864) < n % 2097152) = false := by
    rw [hmo]
    simp
    omega
  have Hr := Lib.hid hr
  have HD := Lib.hid hd
  have HA := Lib.hid ha
  have HB := Lib.hid hb
  have HI := Lib.hid (show S.bitsOf (S.form (n / 67108864)) = 21 by rw [hS]; rfl)
  have hgl : decide (S.least (n / 67108864) < 0) = true := by simpa using hl
  clear hS hd ha hb hr hl hmo
  have m0 : 0 ≤ n % 2097152 := by omega
  have m1 : n % 2097152 ≤ 2097151 := by omega
  go_enter Tryd.func24, Tryd.ntmps24
  go_wp2_with fail
  refine (ref_HasD _ _).mono ?_
  rintro e w' ⟨rfl, rfl⟩
  rw [HD.out]
  go_wp2_with fail
  refine (ref_HasA _ _).mono ?_
  rintro e w' ⟨rfl, rfl⟩
  rw [HA.out]
  go_wp2_with fail
  refine (ref_HasB _ _).mono ?_
  rintro e w' ⟨rfl, rfl⟩
  rw [HB.out]
  go_wp2_with fail
  refine (ref_Bits _ _).mono ?_
  rintro e w' ⟨rfl, rfl⟩
  rw [HI.out]
  go_wp2_with fail
  go_loop [7, 8] (fun s i => ∃ k : Nat, k ≤ 21 ∧ i = .int .i64 k ∧ s = .int .i64 (2 ^ k)) (fun _ i => 21 - (intOf i).toNat)
  case atStart => exact ⟨0, by omega, rfl, rfl⟩
  case round =>
    obtain ⟨k, hk, rfl, rfl⟩ := hrel
    by_cases hlt : k < 21
    · have hp : (2 : Int) ^ k ≤ 2147483648 := pow31 k (by omega)
      have hp0 : (0 : Int) < 2 ^ k := Int.pow_pos (by omega)
      have hps := Lib.hid (Int.pow_succ 2 k)
      generalize hpk : (2 : Int) ^ k = pk at *
      clear hpk
      go_wp2_with fail
      refine (ref_Bits _ _).mono ?_
      rintro e w' ⟨rfl, rfl⟩
      rw [HI.out]
      go_wp2_with fail
      go_round
      case rel => exact ⟨k + 1, by omega, by go_num, by rw [hps.out]; go_num⟩
      case measure => simp [intOf]; omega
    · have hke : k = 21 := by omega
      subst hke
      clear hlt hk
      go_wp2_with fail
      refine (ref_Bits _ _).mono ?_
      rintro e w' ⟨rfl, rfl⟩
      rw [HI.out]
      go_wp2_with fail
      go_quiet ((first
        | (go_at_call 46; exact quiet_left (ref_Most _ _))
        | (go_at_call 16; exact quiet_left (ref_Least _ _))))
      go_wp2_with fail
      refine (ref_Encode_any _ _ _ _ _ _).mono ?_
      rintro e w' ⟨rfl, hb⟩
      rw [← Hr.out]
      have hb0 : Below w.heap.size w w' := Below.trans (below_drewN (((Below.refl _ _).alloc (Nat.le_refl _) _).alloc (by simp) _) _) (hb.mono (by simp; omega))
      obtain ⟨hc1, hc2⟩ := bcell hb
      have hz := hb.size
      clear hb
      simp at hz
      have Hb := Lib.hid hb0
      clear hb0
      have g0 : w.heap.size < w'.heap.size := by omega
      have g1 : w.heap.size + 1 < w'.heap.size := by omega
      have gx : w.heap.size < w.heap.size + 1 + 1 := by omega
      rcases dec_ways n with ⟨e1, e2, e3, e4⟩ | ⟨e1, e2, e3, e4⟩ | ⟨e1, e3, e4⟩
      · rw [e1, e2]
        have hne : (n != n) = false := by simp
        have E3 := Lib.hid e3
        have E4 := Lib.hid e4
        clear e1 e2 e3 e4
        go_wp2_with fail
        refine bodyPost_ret (v := .tuple #[.agg #[.int .i64 (n / 67108864), .int .i64 (n / 2097152 % 32), .int .i64 (0), .int .i64 (0), .int .i64 (n % 2097152)], .int .i64 0]) (by simp [results, Tryd.results24, go_sem, hc1, g0, g1, gx]) rfl ⟨?_, ?_⟩
        · rw [E3.out, E4.out, Hr.out]
        · exact below_five Hb.out (Nat.le_refl _) _ _ _ _ _
      · rw [e1]
        generalize S.wordOf (S.raw n) = wd at *
        have hne : (wd != n) = true := by rw [bne_iff_ne]; exact e2
        have E3 := Lib.hid e3
        have E4 := Lib.hid e4
        clear e1 e2 e3 e4
        go_wp2_with fail
        refine bodyPost_ret (v := .tuple #[.agg #[.int .i64 0, .int .i64 0, .int .i64 0, .int .i64 0, .int .i64 0], .int .i64 11]) (by simp [results, Tryd.results24, go_sem, hc1, g0, g1, gx]) rfl ⟨?_, ?_⟩
        · rw [E3.out, E4.out]
        · exact below_five Hb.out (Nat.le_refl _) _ _ _ _ _
      · rw [e1]
        have E3 := Lib.hid e3
        have E4 := Lib.hid e4
        clear e1 e3 e4
        go_wp2_with fail
        refine bodyPost_ret (v := .tuple #[.agg #[.int .i64 0, .int .i64 0, .int .i64 0, .int .i64 0, .int .i64 0], .int .i64 11]) (by simp [results, Tryd.results24, go_sem, hc1, g0, g1, gx]) rfl ⟨?_, ?_⟩
        · rw [E3.out, E4.out]
        · exact below_five Hb.out (Nat.le_refl _) _ _ _ _ _

set_option maxHeartbeats 1600000 in
theorem ref_Decode_5n (n : Int) (w : World) (h0 : 0 ≤ n) (h1 : n ≤ 4294967295) (hS : S.form (n / 67108864) = 5) (hm : 1048576 ≤ n % 2097152) :
    Calls Tryd.prog 24 #[.int .u32 n] w (DecRes n w) := by
  have hl : S.least (n / 67108864) < 0 := by
    have e := form_ways (n / 67108864)
    unfold S.least; grind
  have hmo : S.most (n / 67108864) = 1048575 := by
    have e := form_ways (n / 67108864)
    have e2 : (S.least (n / 67108864) < 0 ∧ n / 67108864 ≠ 23) ∧ n / 67108864 = 32 := ⟨⟨hl, by omega⟩, by omega⟩
    revert e2; unfold S.least S.most; grind
  have hd : S.hasD (S.form (n / 67108864)) = true := by rw [hS]; rfl
  have ha : S.hasA (S.form (n / 67108864)) = false := by rw [hS]; rfl
  have hb : S.hasB (S.form (n / 67108864)) = false := by rw [hS]; rfl
  have hr : S.raw n = ⟨n / 67108864, n / 2097152 % 32, 0, 0, n % 2097152 - 2097152⟩ := by
    simp only [S.raw, S.opOf, S.rawD, S.rawA, S.rawB, S.rawI, hd, ha, hb]
    simp [hS, hl, hm]
  have hgm : decide (S.most (n / 67108864) < n % 2097152) = true := by
    rw [hmo]
    simp
    omega
  have Hr := Lib.hid hr
  have HD := Lib.hid hd
  have HA := Lib.hid ha
  have HB := Lib.hid hb
  have HI := Lib.hid (show S.bitsOf (S.form (n / 67108864)) = 21 by rw [hS]; rfl)
  have hgl : decide (S.least (n / 67108864) < 0) = true := by simpa using hl
  clear hS hd ha hb hr hl hmo
  have m0 : 0 ≤ n % 2097152 := by omega
  have m1 : n % 2097152 ≤ 2097151 := by omega
  go_enter Tryd.func24, Tryd.ntmps24
  go_wp2_with fail
  refine (ref_HasD _ _).mono ?_
  rintro e w' ⟨rfl, rfl⟩
  rw [HD.out]
  go_wp2_with fail
  refine (ref_HasA _ _).mono ?_
  rintro e w' ⟨rfl, rfl⟩
  rw [HA.out]
  go_wp2_with fail
  refine (ref_HasB _ _).mono ?_
  rintro e w' ⟨rfl, rfl⟩
  rw [HB.out]
  go_wp2_with fail
  refine (ref_Bits _ _).mono ?_
  rintro e w' ⟨rfl, rfl⟩
  rw [HI.out]
  go_wp2_with fail
  go_loop [7, 8] (fun s i => ∃ k : Nat, k ≤ 21 ∧ i = .int .i64 k ∧ s = .int .i64 (2 ^ k)) (fun _ i => 21 - (intOf i).toNat)
  case atStart => exact ⟨0, by omega, rfl, rfl⟩
  case round =>
    obtain ⟨k, hk, rfl, rfl⟩ := hrel
    by_cases hlt : k < 21
    · have hp : (2 : Int) ^ k ≤ 2147483648 := pow31 k (by omega)
      have hp0 : (0 : Int) < 2 ^ k := Int.pow_pos (by omega)
      have hps := Lib.hid (Int.pow_succ 2 k)
      generalize hpk : (2 : Int) ^ k = pk at *
      clear hpk
      go_wp2_with fail
      refine (ref_Bits _ _).mono ?_
      rintro e w' ⟨rfl, rfl⟩
      rw [HI.out]
      go_wp2_with fail
      go_round
      case rel => exact ⟨k + 1, by omega, by go_num, by rw [hps.out]; go_num⟩
      case measure => simp [intOf]; omega
    · have hke : k = 21 := by omega
      subst hke
      clear hlt hk
      go_wp2_with fail
      refine (ref_Bits _ _).mono ?_
      rintro e w' ⟨rfl, rfl⟩
      rw [HI.out]
      go_wp2_with fail
      go_quiet ((first
        | (go_at_call 46; exact quiet_left (ref_Most _ _))
        | (go_at_call 16; exact quiet_left (ref_Least _ _))))
      go_wp2_with fail
      refine (ref_Encode_any _ _ _ _ _ _).mono ?_
      rintro e w' ⟨rfl, hb⟩
      rw [← Hr.out]
      have hb0 : Below w.heap.size w w' := Below.trans (Below.setCell (p := ⟨w.heap.size + 1, 4, none⟩) (below_drewN (((Below.refl _ _).alloc (Nat.le_refl _) _).alloc (by simp) _) _) (Nat.le_succ _) _) (hb.mono (by simp; omega))
      obtain ⟨hc1, hc2⟩ := bcell hb
      have hz := hb.size
      clear hb
      simp at hz
      have Hb := Lib.hid hb0
      clear hb0
      have g0 : w.heap.size < w'.heap.size := by omega
      have g1 : w.heap.size + 1 < w'.heap.size := by omega
      have gx : w.heap.size < w.heap.size + 1 + 1 := by omega
      rcases dec_ways n with ⟨e1, e2, e3, e4⟩ | ⟨e1, e2, e3, e4⟩ | ⟨e1, e3, e4⟩
      · rw [e1, e2]
        have hne : (n != n) = false := by simp
        have E3 := Lib.hid e3
        have E4 := Lib.hid e4
        clear e1 e2 e3 e4
        go_wp2_with fail
        refine bodyPost_ret (v := .tuple #[.agg #[.int .i64 (n / 67108864), .int .i64 (n / 2097152 % 32), .int .i64 (0), .int .i64 (0), .int .i64 (n % 2097152 - 2097152)], .int .i64 0]) (by simp [results, Tryd.results24, go_sem, hc1, g0, g1, gx]) rfl ⟨?_, ?_⟩
        · rw [E3.out, E4.out, Hr.out]
        · exact below_five Hb.out (Nat.le_refl _) _ _ _ _ _
      · rw [e1]
        generalize S.wordOf (S.raw n) = wd at *
        have hne : (wd != n) = true := by rw [bne_iff_ne]; exact e2
        have E3 := Lib.hid e3
        have E4 := Lib.hid e4
        clear e1 e2 e3 e4
        go_wp2_with fail
        refine bodyPost_ret (v := .tuple #[.agg #[.int .i64 0, .int .i64 0, .int .i64 0, .int .i64 0, .int .i64 0], .int .i64 11]) (by simp [results, Tryd.results24, go_sem, hc1, g0, g1, gx]) rfl ⟨?_, ?_⟩
        · rw [E3.out, E4.out]
        · exact below_five Hb.out (Nat.le_refl _) _ _ _ _ _
      · rw [e1]
        have E3 := Lib.hid e3
        have E4 := Lib.hid e4
        clear e1 e3 e4
        go_wp2_with fail
        refine bodyPost_ret (v := .tuple #[.agg #[.int .i64 0, .int .i64 0, .int .i64 0, .int .i64 0, .int .i64 0], .int .i64 11]) (by simp [results, Tryd.results24, go_sem, hc1, g0, g1, gx]) rfl ⟨?_, ?_⟩
        · rw [E3.out, E4.out]
        · exact below_five Hb.out (Nat.le_refl _) _ _ _ _ _

set_option maxHeartbeats 1600000 in
theorem ref_Decode_6 (n : Int) (w : World) (h0 : 0 ≤ n) (h1 : n ≤ 4294967295) (hS : S.form (n / 67108864) = 6) :
    Calls Tryd.prog 24 #[.int .u32 n] w (DecRes n w) := by
  have hl : ¬ S.least (n / 67108864) < 0 := by
    have e := form_ways (n / 67108864)
    unfold S.least; grind
  have hmo : S.most (n / 67108864) = 0 := by
    have e := form_ways (n / 67108864)
    unfold S.most; grind
  have hd : S.hasD (S.form (n / 67108864)) = true := by rw [hS]; rfl
  have ha : S.hasA (S.form (n / 67108864)) = false := by rw [hS]; rfl
  have hb : S.hasB (S.form (n / 67108864)) = false := by rw [hS]; rfl
  have hr : S.raw n = ⟨n / 67108864, n / 2097152 % 32, 0, 0, 0⟩ := by
    simp only [S.raw, S.opOf, S.rawD, S.rawA, S.rawB, S.rawI, hd, ha, hb]
    simp [hS, hl]
  have hgm : decide (S.most (n / 67108864) < 0) = false := by
    rw [hmo]
    simp
  have Hr := Lib.hid hr
  have HD := Lib.hid hd
  have HA := Lib.hid ha
  have HB := Lib.hid hb
  have HI := Lib.hid (show S.bitsOf (S.form (n / 67108864)) = 0 by rw [hS]; rfl)
  have hgl : decide (S.least (n / 67108864) < 0) = false := by simpa using hl
  clear hS hd ha hb hr hl hmo
  go_enter Tryd.func24, Tryd.ntmps24
  go_wp2_with fail
  refine (ref_HasD _ _).mono ?_
  rintro e w' ⟨rfl, rfl⟩
  rw [HD.out]
  go_wp2_with fail
  refine (ref_HasA _ _).mono ?_
  rintro e w' ⟨rfl, rfl⟩
  rw [HA.out]
  go_wp2_with fail
  refine (ref_HasB _ _).mono ?_
  rintro e w' ⟨rfl, rfl⟩
  rw [HB.out]
  go_wp2_with fail
  refine (ref_Bits _ _).mono ?_
  rintro e w' ⟨rfl, rfl⟩
  rw [HI.out]
  go_wp2_with fail
  refine (ref_Encode_any _ _ _ _ _ _).mono ?_
  rintro e w' ⟨rfl, hb⟩
  rw [← Hr.out]
  have hb0 : Below w.heap.size w w' := Below.trans ((((Below.refl _ _).alloc (Nat.le_refl _) _).alloc (by simp) _)) (hb.mono (by simp; omega))
  obtain ⟨hc1, hc2⟩ := bcell hb
  have hz := hb.size
  clear hb
  simp at hz
  have Hb := Lib.hid hb0
  clear hb0
  have g0 : w.heap.size < w'.heap.size := by omega
  have g1 : w.heap.size + 1 < w'.heap.size := by omega
  have gx : w.heap.size < w.heap.size + 1 + 1 := by omega
  rcases dec_ways n with ⟨e1, e2, e3, e4⟩ | ⟨e1, e2, e3, e4⟩ | ⟨e1, e3, e4⟩
  · rw [e1, e2]
    have hne : (n != n) = false := by simp
    have E3 := Lib.hid e3
    have E4 := Lib.hid e4
    clear e1 e2 e3 e4
    go_wp2_with fail
    refine bodyPost_ret (v := .tuple #[.agg #[.int .i64 (n / 67108864), .int .i64 (n / 2097152 % 32), .int .i64 (0), .int .i64 (0), .int .i64 (0)], .int .i64 0]) (by simp [results, Tryd.results24, go_sem, hc1, g0, g1, gx]) rfl ⟨?_, ?_⟩
    · rw [E3.out, E4.out, Hr.out]
    · exact below_five Hb.out (Nat.le_refl _) _ _ _ _ _
  · rw [e1]
    generalize S.wordOf (S.raw n) = wd at *
    have hne : (wd != n) = true := by rw [bne_iff_ne]; exact e2
    have E3 := Lib.hid e3
    have E4 := Lib.hid e4
    clear e1 e2 e3 e4
    go_wp2_with fail
    refine bodyPost_ret (v := .tuple #[.agg #[.int .i64 0, .int .i64 0, .int .i64 0, .int .i64 0, .int .i64 0], .int .i64 11]) (by simp [results, Tryd.results24, go_sem, hc1, g0, g1, gx]) rfl ⟨?_, ?_⟩
    · rw [E3.out, E4.out]
    · exact below_five Hb.out (Nat.le_refl _) _ _ _ _ _
  · rw [e1]
    have E3 := Lib.hid e3
    have E4 := Lib.hid e4
    clear e1 e3 e4
    go_wp2_with fail
    refine bodyPost_ret (v := .tuple #[.agg #[.int .i64 0, .int .i64 0, .int .i64 0, .int .i64 0, .int .i64 0], .int .i64 11]) (by simp [results, Tryd.results24, go_sem, hc1, g0, g1, gx]) rfl ⟨?_, ?_⟩
    · rw [E3.out, E4.out]
    · exact below_five Hb.out (Nat.le_refl _) _ _ _ _ _

set_option maxHeartbeats 1600000 in
theorem ref_Decode_7 (n : Int) (w : World) (h0 : 0 ≤ n) (h1 : n ≤ 4294967295) (hS : S.form (n / 67108864) = 7) :
    Calls Tryd.prog 24 #[.int .u32 n] w (DecRes n w) := by
  have hl : ¬ S.least (n / 67108864) < 0 := by
    have e := form_ways (n / 67108864)
    unfold S.least; grind
  have hmo : S.most (n / 67108864) = 0 := by
    have e := form_ways (n / 67108864)
    unfold S.most; grind
  have hd : S.hasD (S.form (n / 67108864)) = false := by rw [hS]; rfl
  have ha : S.hasA (S.form (n / 67108864)) = true := by rw [hS]; rfl
  have hb : S.hasB (S.form (n / 67108864)) = false := by rw [hS]; rfl
  have hr : S.raw n = ⟨n / 67108864, 0, n / 2097152 % 32, 0, 0⟩ := by
    simp only [S.raw, S.opOf, S.rawD, S.rawA, S.rawB, S.rawI, hd, ha, hb]
    simp [hS, hl]
  have hgm : decide (S.most (n / 67108864) < 0) = false := by
    rw [hmo]
    simp
  have Hr := Lib.hid hr
  have HD := Lib.hid hd
  have HA := Lib.hid ha
  have HB := Lib.hid hb
  have HI := Lib.hid (show S.bitsOf (S.form (n / 67108864)) = 0 by rw [hS]; rfl)
  have hgl : decide (S.least (n / 67108864) < 0) = false := by simpa using hl
  clear hS hd ha hb hr hl hmo
  go_enter Tryd.func24, Tryd.ntmps24
  go_wp2_with fail
  refine (ref_HasD _ _).mono ?_
  rintro e w' ⟨rfl, rfl⟩
  rw [HD.out]
  go_wp2_with fail
  refine (ref_HasA _ _).mono ?_
  rintro e w' ⟨rfl, rfl⟩
  rw [HA.out]
  go_wp2_with fail
  refine (ref_HasB _ _).mono ?_
  rintro e w' ⟨rfl, rfl⟩
  rw [HB.out]
  go_wp2_with fail
  refine (ref_Bits _ _).mono ?_
  rintro e w' ⟨rfl, rfl⟩
  rw [HI.out]
  go_wp2_with fail
  refine (ref_Encode_any _ _ _ _ _ _).mono ?_
  rintro e w' ⟨rfl, hb⟩
  rw [← Hr.out]
  have hb0 : Below w.heap.size w w' := Below.trans ((((Below.refl _ _).alloc (Nat.le_refl _) _).alloc (by simp) _)) (hb.mono (by simp; omega))
  obtain ⟨hc1, hc2⟩ := bcell hb
  have hz := hb.size
  clear hb
  simp at hz
  have Hb := Lib.hid hb0
  clear hb0
  have g0 : w.heap.size < w'.heap.size := by omega
  have g1 : w.heap.size + 1 < w'.heap.size := by omega
  have gx : w.heap.size < w.heap.size + 1 + 1 := by omega
  rcases dec_ways n with ⟨e1, e2, e3, e4⟩ | ⟨e1, e2, e3, e4⟩ | ⟨e1, e3, e4⟩
  · rw [e1, e2]
    have hne : (n != n) = false := by simp
    have E3 := Lib.hid e3
    have E4 := Lib.hid e4
    clear e1 e2 e3 e4
    go_wp2_with fail
    refine bodyPost_ret (v := .tuple #[.agg #[.int .i64 (n / 67108864), .int .i64 (0), .int .i64 (n / 2097152 % 32), .int .i64 (0), .int .i64 (0)], .int .i64 0]) (by simp [results, Tryd.results24, go_sem, hc1, g0, g1, gx]) rfl ⟨?_, ?_⟩
    · rw [E3.out, E4.out, Hr.out]
    · exact below_five Hb.out (Nat.le_refl _) _ _ _ _ _
  · rw [e1]
    generalize S.wordOf (S.raw n) = wd at *
    have hne : (wd != n) = true := by rw [bne_iff_ne]; exact e2
    have E3 := Lib.hid e3
    have E4 := Lib.hid e4
    clear e1 e2 e3 e4
    go_wp2_with fail
    refine bodyPost_ret (v := .tuple #[.agg #[.int .i64 0, .int .i64 0, .int .i64 0, .int .i64 0, .int .i64 0], .int .i64 11]) (by simp [results, Tryd.results24, go_sem, hc1, g0, g1, gx]) rfl ⟨?_, ?_⟩
    · rw [E3.out, E4.out]
    · exact below_five Hb.out (Nat.le_refl _) _ _ _ _ _
  · rw [e1]
    have E3 := Lib.hid e3
    have E4 := Lib.hid e4
    clear e1 e3 e4
    go_wp2_with fail
    refine bodyPost_ret (v := .tuple #[.agg #[.int .i64 0, .int .i64 0, .int .i64 0, .int .i64 0, .int .i64 0], .int .i64 11]) (by simp [results, Tryd.results24, go_sem, hc1, g0, g1, gx]) rfl ⟨?_, ?_⟩
    · rw [E3.out, E4.out]
    · exact below_five Hb.out (Nat.le_refl _) _ _ _ _ _

theorem ref_Decode (n : Int) (w : World) (h0 : 0 ≤ n) (h1 : n ≤ 4294967295) :
    Calls Tryd.prog 24 #[.int .u32 n] w
      fun e w' => e = .returned (.tuple #[.agg #[.int .i64 (S.dec n).op, .int .i64 (S.dec n).d, .int .i64 (S.dec n).a, .int .i64 (S.dec n).b, .int .i64 (S.dec n).imm], .int .i64 (S.decE n)]) ∧ Below w.heap.size w w' := by
  show Calls Tryd.prog 24 #[.int .u32 n] w (DecRes n w)
  rcases form_ways (n / 67108864) with ⟨h, _⟩ | ⟨h, _⟩ | ⟨h, _⟩ | ⟨h, _⟩ | ⟨h, _⟩ | ⟨h, _⟩ | ⟨h, _⟩ | ⟨h, _⟩
  · exact ref_Decode_0 n w h0 h1 h
  · exact ref_Decode_1 n w h0 h1 h
  · by_cases hl : S.least (n / 67108864) < 0
    · by_cases hm : n % 65536 < 32768
      · exact ref_Decode_2p n w h0 h1 h hl hm
      · exact ref_Decode_2n n w h0 h1 h hl (by omega)
    · exact ref_Decode_2u n w h0 h1 h hl
  · exact ref_Decode_3 n w h0 h1 h
  · by_cases hm : n % 65536 < 32768
    · exact ref_Decode_4p n w h0 h1 h hm
    · exact ref_Decode_4n n w h0 h1 h (by omega)
  · by_cases hm : n % 2097152 < 1048576
    · exact ref_Decode_5p n w h0 h1 h hm
    · exact ref_Decode_5n n w h0 h1 h (by omega)
  · exact ref_Decode_6 n w h0 h1 h
  · exact ref_Decode_7 n w h0 h1 h

end Go.Proofs.YtjhchgbeglhoaaaDoor
