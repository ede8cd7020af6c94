/- Walks of the functions of pennantref02 that only reckon. -/
import Derived.Test.YtbgdomnalimjnaaMachA
set_option linter.unusedVariables false
set_option linter.unusedSimpArgs false
set_option linter.unusedSectionVars false
namespace Go.Proofs.Ytbgdomnalimjnaa
open Go.RowKit

theorem int_bne' {a b : Int} (h : a ≠ b) : (a == b) = false := by simp [h]
theorem ref2_signed (a : Int) (w : World) (a0 : 0 ≤ a) (a1 : a ≤ 4294967295) :
    Calls Try.prog 112 #[.int .u32 a] w fun e w' => e = .returned (.int .i64 (S.sgn a)) ∧ w = w' := by
  go_enter Try.func112, Try.ntmps112
  go_wp2
  all_goals
    go_ret
    exact ⟨ret_int (by unfold S.sgn; split <;> omega), rfl⟩
theorem ref2_word (n : Int) (w : World) (h0 : -4611686018427387904 ≤ n) (h1 : n ≤ 4611686018427387904) :
    Calls Try.prog 80 #[.int .i64 n] w fun e w' => e = .returned (.int .u32 (S.u32 n)) ∧ w = w' := by
  by_cases hn : 0 ≤ n
  · have m0 : 0 ≤ n % 4294967296 := by omega
    have m1 : n % 4294967296 ≤ 4294967295 := by omega
    go_enter Try.func80, Try.ntmps80
    go_wp2
    go_ret
    exact ⟨ret_int (by simp [S.u32]), rfl⟩
  · have ht : n.tmod 4294967296 = -((-n) % 4294967296) := by
      rw [Int.tmod_eq_emod]
      split <;> omega
    by_cases hz : (-n) % 4294967296 = 0
    · have ht' : n.tmod 4294967296 = 0 := by omega
      clear ht
      have hr : S.u32 n = 0 := by unfold S.u32; omega
      have Hr := Lib.hid hr
      clear hr hz
      go_enter Try.func80, Try.ntmps80
      go_wp2
      go_ret
      exact ⟨ret_int (by rw [Hr.out]), rfl⟩
    · obtain ⟨r, hr⟩ : ∃ r : Int, r = -((-n) % 4294967296) := ⟨_, rfl⟩
      rw [← hr] at ht
      have r0 : r < 0 := by omega
      have r1 : -4294967295 ≤ r := by omega
      have hu : S.u32 n = r + 4294967296 := by unfold S.u32; omega
      have Hu := Lib.hid hu
      clear hr hz hu
      go_enter Try.func80, Try.ntmps80
      go_wp2
      go_ret
      exact ⟨ret_int (by rw [Hu.out]), rfl⟩
theorem ref2_power (n : Int) (w : World) (h0 : 0 ≤ n) (h1 : n ≤ 4294967295) :
    Calls Try.prog 110 #[.int .u32 n] w fun e w' => e = .returned (.int .i64 (2 ^ (n % 32).toNat)) ∧ w = w' := by
  have m0 : 0 ≤ n % 32 := by omega
  have m1 : n % 32 ≤ 31 := by omega
  go_enter Try.func110, Try.ntmps110
  go_wp2_with fail
  go_loop [3, 4] (fun s i => ∃ k : Nat, (k : Int) ≤ n % 32 ∧ i = .int .u32 k ∧ s = .int .i64 (2 ^ k)) (fun _ i => 32 - (intOf i).toNat)
  case atStart => exact ⟨0, by omega, rfl, rfl⟩
  case round =>
    obtain ⟨k, hk, rfl, rfl⟩ := hrel
    have hp : (2 : Int) ^ k ≤ 2147483648 := pow31 k (by omega)
    have hp0 : (0 : Int) < 2 ^ k := Int.pow_pos (by omega)
    have hps := Lib.hid (Int.pow_succ 2 k)
    by_cases hlt : (k : Int) < n % 32
    · generalize hpk : (2 : Int) ^ k = pk at *
      clear hpk
      go_wp2_with fail
      go_round
      case rel => exact ⟨k + 1, by omega, by go_num, by rw [hps.out]; go_num⟩
      case measure => simp [intOf]; omega
    · have hke : (n % 32).toNat = k := by omega
      have Hk := Lib.hid hke
      clear hke
      go_wp2_with fail
      go_ret
      exact ⟨ret_int (by rw [Hk.out]), rfl⟩

theorem ref2_below (a b : Int) (w : World) (a0 : -2147483648 ≤ a) (a1 : a ≤ 2147483647) (b0 : 1 ≤ b) (b1 : b ≤ 2147483648) :
    Calls Try.prog 111 #[.int .i64 a, .int .i64 b] w fun e w' => e = .returned (.int .i64 (a / b)) ∧ w = w' := by
  have hb : ¬ b = 0 := by omega
  by_cases ha : 0 ≤ a
  · have q0 : 0 ≤ a / b := Int.ediv_nonneg ha (by omega)
    have q1 : a / b ≤ 2147483647 := Int.le_trans (Int.ediv_le_self b ha) a1
    have r0 : 0 ≤ a % b := Int.emod_nonneg _ hb
    have r1 : a % b < b := Int.emod_lt_of_pos _ (by omega)
    rcases Bool.eq_false_or_eq_true (a % b != 0) with hr | hr
    all_goals
      go_enter Try.func111, Try.ntmps111
      go_wp2
      go_ret
      exact ⟨rfl, rfl⟩
  · have hq : a.tdiv b = if a % b = 0 then a / b else a / b + 1 := by
      rw [Int.tdiv_eq_ediv]
      have hs : b.sign = 1 := Int.sign_eq_one_of_pos (by omega)
      rw [hs]
      by_cases hd : b ∣ a
      · have := Int.emod_eq_zero_of_dvd hd
        simp [hd, this]
      · have h1 : ¬ a % b = 0 := fun h => hd (Int.dvd_of_emod_eq_zero h)
        simp [hd, h1, ha]
    have hm : a.tmod b = if a % b = 0 then 0 else a % b - b := by
      rw [Int.tmod_eq_emod]
      have hn : (b.natAbs : Int) = b := by omega
      by_cases hd : b ∣ a
      · have := Int.emod_eq_zero_of_dvd hd
        simp [hd, this]
      · have h1 : ¬ a % b = 0 := fun h => hd (Int.dvd_of_emod_eq_zero h)
        rw [if_neg (fun h => h.elim ha hd), if_neg h1, hn]
    have q0 : -2147483648 ≤ a / b := by
      have := Int.le_ediv_of_mul_le (show 0 < b by omega) (show -2147483648 * b ≤ a by
        have : -2147483648 * b ≤ -2147483648 * 1 := by omega
        omega)
      exact this
    have q1 : a / b ≤ 0 := by
      have := Int.ediv_neg_of_neg_of_pos (show a < 0 by omega) (show 0 < b by omega)
      omega
    by_cases hz : a % b = 0
    · rw [if_pos hz] at hq hm
      have hz' := Lib.hid hz
      clear hz
      go_enter Try.func111, Try.ntmps111
      go_wp2
      go_ret
      exact ⟨rfl, rfl⟩
    · rw [if_neg hz] at hq hm
      have r1 : a % b - b < 0 := by have := Int.emod_lt_of_pos a (show 0 < b by omega); omega
      obtain ⟨r, hr⟩ : ∃ r : Int, r = a % b - b := ⟨_, rfl⟩
      rw [← hr] at hm r1
      have hrb : (r != 0) = true := by rw [bne_iff_ne]; omega
      clear hz hr
      go_enter Try.func111, Try.ntmps111
      go_wp2
      go_ret
      exact ⟨ret_int (by omega), rfl⟩

theorem ref2_goes (op a b : Int) (w : World) (a0 : 0 ≤ a) (a1 : a ≤ 4294967295) (b0 : 0 ≤ b) (b1 : b ≤ 4294967295) :
    Calls Try.prog 84 #[.int .i64 op, .int .u32 a, .int .u32 b] w fun e w' => e = .returned (.bool (S.goes op a b)) ∧ w = w' := by
  by_cases h28 : op = 28
  · subst h28
    go_enter Try.func84, Try.ntmps84
    go_wp2_with fail
    refine (ref2_signed _ _ a0 a1).mono ?_
    rintro e w' ⟨rfl, rfl⟩
    go_wp2_with fail
    refine (ref2_signed _ _ b0 b1).mono ?_
    rintro e w' ⟨rfl, rfl⟩
    go_wp2_with fail
    go_ret
    exact ⟨ret_bool (by simp [S.goes]), rfl⟩
  by_cases h29 : op = 29
  · subst h29
    go_enter Try.func84, Try.ntmps84
    go_wp2_with fail
    refine (ref2_signed _ _ a0 a1).mono ?_
    rintro e w' ⟨rfl, rfl⟩
    go_wp2_with fail
    refine (ref2_signed _ _ b0 b1).mono ?_
    rintro e w' ⟨rfl, rfl⟩
    go_wp2_with fail
    go_ret
    exact ⟨ret_bool (by simp [S.goes]), rfl⟩
  have d28 := int_bne' h28
  have d29 := int_bne' h29
  clear h28 h29
  go_enter Try.func84, Try.ntmps84
  go_wp2
  all_goals
    go_ret
    refine ⟨ret_bool ?_, rfl⟩
    first
      | grind [S.goes]
      | simp_all [S.goes]

end Go.Proofs.Ytbgdomnalimjnaa
