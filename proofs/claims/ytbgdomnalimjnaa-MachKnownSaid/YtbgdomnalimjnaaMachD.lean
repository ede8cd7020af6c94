/- Walks of pennantref02.like and reckon. -/
import Derived.Test.YtbgdomnalimjnaaMachC
set_option linter.unusedVariables false
set_option linter.unusedSimpArgs false
set_option linter.unusedSectionVars false
namespace Go.Proofs.Ytbgdomnalimjnaa
open Go.RowKit

theorem ref2_like (op : Int) (w : World) (h : 15 ≤ op ∧ op ≤ 22) :
    Calls Try.prog 83 #[.int .i64 op] w fun e w' => e = .returned (.int .i64 (S.like op)) ∧ Below w.heap.size w w' := by
  have hc : op = 15 ∨ op = 16 ∨ op = 17 ∨ op = 18 ∨ op = 19 ∨ op = 20 ∨ op = 21 ∨ op = 22 := by omega
  rcases hc with rfl | rfl | rfl | rfl | rfl | rfl | rfl | rfl
  all_goals
    go_enter Try.func83, Try.ntmps83
    go_wp2_with fail
    go_ret
    exact ⟨ret_int (by simp [S.like]), (Below.refl _ _).alloc (Nat.le_refl _) _⟩

theorem ediv_bd {a p : Int} (h0 : -2147483648 ≤ a) (h1 : a ≤ 2147483647) (hp : 1 ≤ p) : -2147483648 ≤ a / p ∧ a / p ≤ 2147483647 := by
  refine ⟨Int.le_ediv_of_mul_le (by omega) ?_, ?_⟩
  · have : -2147483648 * p ≤ -2147483648 * 1 := by omega
    omega
  · by_cases h : 0 ≤ a
    · exact Int.le_trans (Int.ediv_le_self _ h) h1
    · have := Int.ediv_neg_of_neg_of_pos (show a < 0 by omega) (show 0 < p by omega)
      omega
def Reck (op a b : Int) (w : World) (e : Ending) (w' : World) : Prop := e = .returned (.int .u32 (S.alu op a b)) ∧ w = w'
set_option maxHeartbeats 1000000 in
theorem ref2_reckon (op : Int) (x y : Nat) (w : World) (hx : x < 4294967296) (hy : y < 4294967296) (ho : 1 ≤ op ∧ op ≤ 14) (hz : ¬ (y = 0 ∧ (op = 5 ∨ op = 6))) :
    Calls Try.prog 82 #[.int .i64 op, .int .u32 x, .int .u32 y] w (Reck op x y w) := by
  have hc : op = 5 ∨ op = 6 ∨ op = 7 ∨ op = 8 ∨ op = 9 ∨ op = 1 ∨ op = 2 ∨ op = 13 ∨ op = 12 ∨ op = 10 ∨ op = 11 ∨ op = 3 ∨ op = 4 ∨ op = 14 := by omega
  have a0 : (0 : Int) ≤ x := by omega
  have a1 : (x : Int) ≤ 4294967295 := by omega
  have b0 : (0 : Int) ≤ y := by omega
  have b1 : (y : Int) ≤ 4294967295 := by omega
  have m0 : (0 : Int) ≤ x * y := Int.mul_nonneg a0 b0
  have m1 : (x : Int) * y ≤ 4294967295 * 4294967295 := Int.mul_le_mul a1 b1 b0 (by omega)
  have hand := u32_and a0 a1 b0 b1
  have hor := u32_or a0 a1 b0 b1
  have hxor := u32_xor a0 a1 b0 b1
  simp only [Int.toNat_natCast] at hand hor hxor
  have Ha := Lib.hid hand
  have Ho := Lib.hid hor
  have Hx := Lib.hid hxor
  have hs1 := sgn_bd a0 a1
  have hs2 := sgn_bd b0 b1
  obtain ⟨s0, s1⟩ := hs1
  obtain ⟨t0, t1⟩ := hs2
  clear hand hor hxor ho
  have hp : (2 : Int) ^ ((y : Int) % 32).toNat ≤ 2147483648 := pow31 _ (by omega)
  have hp0 : (0 : Int) < 2 ^ ((y : Int) % 32).toNat := Int.pow_pos (by omega)
  have hp1 : 1 ≤ (2 : Int) ^ ((y : Int) % 32).toNat := by omega
  rcases hc with rfl | rfl | rfl | rfl | rfl | rfl | rfl | rfl | rfl | rfl | rfl | rfl | rfl | rfl
  · have hyz : ¬ (y : Int) = 0 := by omega
    have hy1 : (1 : Int) ≤ y := by omega
    have q0 : 0 ≤ (x : Int) / y := Int.ediv_nonneg a0 b0
    have q1 : (x : Int) / y ≤ 4294967295 := Int.le_trans (Int.ediv_le_self _ a0) a1
    clear hz hp hp0 hp1
    go_enter Try.func82, Try.ntmps82
    go_wp2_with fail
    go_ret
    exact ⟨ret_int (by simp [S.alu]), rfl⟩
  · have hyz : ¬ (y : Int) = 0 := by omega
    have hy1 : (1 : Int) ≤ y := by omega
    have q0 : 0 ≤ (x : Int) % y := Int.emod_nonneg _ hyz
    have q1 : (x : Int) % y ≤ 4294967295 := by have := Int.emod_lt_of_pos (x : Int) (show (0 : Int) < y by omega); omega
    clear hz hp hp0 hp1
    go_enter Try.func82, Try.ntmps82
    go_wp2_with fail
    go_ret
    exact ⟨ret_int (by simp [S.alu]), rfl⟩
  · clear hz hp hp0 hp1
    go_enter Try.func82, Try.ntmps82
    go_wp2_with fail
    refine (ref2_and x y _ hx hy).mono ?_
    rintro e w' ⟨rfl, rfl⟩
    go_wp2_with fail
    go_ret
    exact ⟨ret_int (by simp [S.alu, Ha.out]), rfl⟩
  · clear hz hp hp0 hp1
    go_enter Try.func82, Try.ntmps82
    go_wp2_with fail
    refine (ref2_or x y _ hx hy).mono ?_
    rintro e w' ⟨rfl, rfl⟩
    go_wp2_with fail
    go_ret
    exact ⟨ret_int (by simp [S.alu, Ho.out]), rfl⟩
  · clear hz hp hp0 hp1
    go_enter Try.func82, Try.ntmps82
    go_wp2_with fail
    refine (ref2_xor x y _ hx hy).mono ?_
    rintro e w' ⟨rfl, rfl⟩
    go_wp2_with fail
    go_ret
    exact ⟨ret_int (by simp [S.alu, Hx.out]), rfl⟩
  · clear hz hp hp0 hp1
    go_enter Try.func82, Try.ntmps82
    go_wp2_with fail
    refine (ref2_word _ _ (by omega) (by omega)).mono ?_
    rintro e w' ⟨rfl, rfl⟩
    go_wp2_with fail
    go_ret
    exact ⟨ret_int (by simp [S.alu]), rfl⟩
  · clear hz hp hp0 hp1
    go_enter Try.func82, Try.ntmps82
    go_wp2_with fail
    refine (ref2_word _ _ (by omega) (by omega)).mono ?_
    rintro e w' ⟨rfl, rfl⟩
    go_wp2_with fail
    go_ret
    exact ⟨ret_int (by simp [S.alu]), rfl⟩
  · clear hz hp hp0 hp1
    go_enter Try.func82, Try.ntmps82
    go_wp2_with fail
    refine (ref2_signed _ _ a0 a1).mono ?_
    rintro e w' ⟨rfl, rfl⟩
    go_wp2_with fail
    refine (ref2_signed _ _ b0 b1).mono ?_
    rintro e w' ⟨rfl, rfl⟩
    by_cases hlt : S.sgn x < S.sgn y
    all_goals
      go_wp2_with fail
      go_ret
      exact ⟨ret_int (by simp [S.alu, S.truth, hlt]), rfl⟩
  · clear hz
    go_enter Try.func82, Try.ntmps82
    go_wp2_with fail
    refine (ref2_signed _ _ a0 a1).mono ?_
    rintro e w' ⟨rfl, rfl⟩
    go_wp2_with fail
    refine (ref2_power _ _ b0 b1).mono ?_
    rintro e w' ⟨rfl, rfl⟩
    have Hal := Lib.hid (show S.alu 12 x y = S.u32 (S.sgn x / 2 ^ ((y : Int) % 32).toNat) by simp [S.alu])
    generalize (2 : Int) ^ ((y : Int) % 32).toNat = p at *
    go_wp2_with fail
    refine (ref2_below _ _ _ s0 s1 hp1 hp).mono ?_
    rintro e w' ⟨rfl, rfl⟩
    obtain ⟨q0, q1⟩ := ediv_bd s0 s1 hp1
    go_wp2_with fail
    refine (ref2_word _ _ (by omega) (by omega)).mono ?_
    rintro e w' ⟨rfl, rfl⟩
    go_wp2_with fail
    go_ret
    exact ⟨ret_int (by rw [Hal.out]), rfl⟩
  · clear hz
    have q0 : (0 : Int) ≤ x * 2 ^ ((y : Int) % 32).toNat := Int.mul_nonneg a0 (by omega)
    have q1 : (x : Int) * 2 ^ ((y : Int) % 32).toNat ≤ 4294967295 * 2147483648 := Int.mul_le_mul a1 hp (by omega) (by omega)
    go_enter Try.func82, Try.ntmps82
    go_wp2_with fail
    refine (ref2_power _ _ b0 b1).mono ?_
    rintro e w' ⟨rfl, rfl⟩
    have Hal := Lib.hid (show S.alu 10 x y = S.u32 (x * 2 ^ ((y : Int) % 32).toNat) by simp [S.alu])
    generalize (2 : Int) ^ ((y : Int) % 32).toNat = p at *
    go_wp2_with fail
    go_ret
    exact ⟨ret_int (by rw [Hal.out]; simp [S.u32]), rfl⟩
  · clear hz
    go_enter Try.func82, Try.ntmps82
    go_wp2_with fail
    refine (ref2_power _ _ b0 b1).mono ?_
    rintro e w' ⟨rfl, rfl⟩
    have Hal := Lib.hid (show S.alu 11 x y = x / 2 ^ ((y : Int) % 32).toNat by simp [S.alu])
    generalize (2 : Int) ^ ((y : Int) % 32).toNat = p at *
    have q0 : 0 ≤ (x : Int) / p := Int.ediv_nonneg a0 (by omega)
    have q1 : (x : Int) / p ≤ 4294967295 := Int.le_trans (Int.ediv_le_self _ a0) a1
    have hpz : ¬ p = 0 := by omega
    go_wp2_with fail
    go_ret
    exact ⟨ret_int (by rw [Hal.out]), rfl⟩
  · clear hz hp hp0 hp1
    go_enter Try.func82, Try.ntmps82
    go_wp2_with fail
    go_ret
    exact ⟨ret_int (by simp [S.alu, S.u32]), rfl⟩
  · clear hz hp hp0 hp1
    go_enter Try.func82, Try.ntmps82
    go_wp2_with fail
    go_ret
    exact ⟨ret_int (by simp [S.alu, S.u32]), rfl⟩
  · clear hz hp hp0 hp1
    by_cases hlt : (x : Int) < y
    all_goals
      go_enter Try.func82, Try.ntmps82
      go_wp2_with fail
      go_ret
      exact ⟨ret_int (by simp [S.alu, S.truth]; omega), rfl⟩

end Go.Proofs.Ytbgdomnalimjnaa
