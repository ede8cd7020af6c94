/- The maker of items, more: load, tail, slot. -/
import Derived.Test.YtkdalaiponchbaaDoorEMak
import Derived.Test.YtkdalaiponchbaaDoorBits
set_option linter.unusedVariables false
set_option linter.unusedSimpArgs false
set_option linter.unusedSectionVars false
namespace Go.Proofs.YtkdalaiponchbaaDoor
open Go.RowKit

theorem mk_app {base mb : Nat} {wv : Value} {xs ys zs : List S.Item} {w : World} (h : MkAt base mb wv (xs ++ ys ++ zs) w) : MkAt base mb wv (xs ++ (ys ++ zs)) w := by rw [← List.append_assoc]; exact h

set_option maxRecDepth 100000 in
set_option maxHeartbeats 1000000 in
theorem mk_load (base mb : Nat) (wv : Value) (xs : List S.Item) (w : World) (h : MkAt base mb wv xs w) (hbw : base ≤ w.heap.size) (hl : xs.length ≤ 899999000) (d n : Int) (h0 : 0 ≤ n) (h1 : n ≤ 4294967295) :
    Calls Tryd.prog 54 #[.pointer (some ⟨mb, 0, none⟩), .int .i64 d, .int .u32 n] w (MkPost base mb wv xs (S.eload d n) w) := by
  by_cases c1 : n < 32768
  · have He := Lib.hid (show S.eload d n = [S.iInst 15 d 0 0 n] by unfold S.eload; rw [if_pos c1])
    have hw : IntKind.i32.wrap n = n := by rw [IntKind.wrap_i32]; omega
    go_enter Tryd.func54, Tryd.ntmps54
    go_wp2_with fail
    refine (mk_inst base mb wv xs w h hbw (by omega) 15 d 0 0 n).mono ?_
    rintro e w' ⟨rfl, h2, h3⟩
    go_wp2_with fail
    go_end0
    exact ⟨rfl, by rw [He.out]; exact h2, h3⟩
  · by_cases c2 : 4294934528 ≤ n
    · have He := Lib.hid (show S.eload d n = [S.iInst 15 d 0 0 (n - 4294967296)] by unfold S.eload; rw [if_neg c1, if_pos c2])
      have hw : IntKind.i32.wrap n = n - 4294967296 := by rw [IntKind.wrap_i32]; omega
      go_enter Tryd.func54, Tryd.ntmps54
      go_wp2_with fail
      refine (mk_inst base mb wv xs w h hbw (by omega) 15 d 0 0 (n - 4294967296)).mono ?_
      rintro e w' ⟨rfl, h2, h3⟩
      go_wp2_with fail
      go_end0
      exact ⟨rfl, by rw [He.out]; exact h2, h3⟩
    · have hm := u32_mask 16 n 65536 65535 rfl rfl (by omega) h0 (by omega)
      have hd0 : 0 ≤ n / 65536 := by omega
      have hd1 : n / 65536 ≤ 65535 := by omega
      have hm0 : 0 ≤ n % 65536 := by omega
      have hm1 : n % 65536 ≤ 65535 := by omega
      have hw : ∃ k, IntKind.i32.wrap n = k ∧ (k < -32768 ∨ 32767 < k) ∧ -2147483648 ≤ k ∧ k ≤ 2147483647 := ⟨_, rfl, by rw [IntKind.wrap_i32]; omega, by rw [IntKind.wrap_i32]; omega, by rw [IntKind.wrap_i32]; omega⟩
      obtain ⟨k, hk, hk2, hk3, hk4⟩ := hw
      by_cases c3 : n % 65536 = 0
      · have He := Lib.hid (show S.eload d n = [S.iInst 23 d 0 0 (n / 65536)] by unfold S.eload; rw [if_neg c1, if_neg c2, if_pos c3])
        rcases hk2 with hk2 | hk2
        all_goals
          go_enter Tryd.func54, Tryd.ntmps54
          go_wp2_with fail
          refine (mk_inst base mb wv xs w h hbw (by omega) 23 d 0 0 (n / 65536)).mono ?_
          rintro e w' ⟨rfl, h2, h3⟩
          go_wp2_with fail
          go_end0
          exact ⟨rfl, by rw [He.out]; exact h2, h3⟩
      · have He := Lib.hid (show S.eload d n = [S.iInst 23 d 0 0 (n / 65536), S.iInst 17 d d 0 (n % 65536)] by unfold S.eload; rw [if_neg c1, if_neg c2, if_neg c3])
        rcases hk2 with hk2 | hk2
        all_goals
          go_enter Tryd.func54, Tryd.ntmps54
          go_wp2_with fail
          refine (mk_inst base mb wv xs w h hbw (by omega) 23 d 0 0 (n / 65536)).mono ?_
          rintro e w' ⟨rfl, h2, h3⟩
          go_wp2_with fail
          refine (mk_inst base mb wv (xs ++ [S.iInst 23 d 0 0 (n / 65536)]) w' h2 (Nat.le_trans hbw h3.size) (by simp; omega) 17 d d 0 (n % 65536)).mono ?_
          rintro e w2 ⟨rfl, h4, h5⟩
          go_wp2_with fail
          go_end0
          exact ⟨rfl, by rw [He.out]; exact mk_app h4, h3.trans h5⟩

set_option maxRecDepth 100000 in
set_option maxHeartbeats 1000000 in
theorem mk_slot (base mb : Nat) (wv : Value) (xs : List S.Item) (w : World) (h : MkAt base mb wv xs w) (hbw : base ≤ w.heap.size) (hl : xs.length ≤ 899999000) (n : Int) (h0 : 0 ≤ n) (h1 : n ≤ 16777216) :
    Calls Tryd.prog 60 #[.pointer (some ⟨mb, 0, none⟩), .int .i64 n] w fun e w' => e = .returned (.tuple #[.int .i64 (S.eslot n).2.1, .int .i64 (S.eslot n).2.2]) ∧ MkAt base mb wv (xs ++ (S.eslot n).1) w' ∧ BK base w w' := by
  by_cases c1 : n < 1024
  · have He := Lib.hid (show S.eslot n = ([], 0, 32 + n) by unfold S.eslot; rw [if_pos c1])
    go_enter Tryd.func60, Tryd.ntmps60
    go_wp2_with fail
    go_ret2
    exact ⟨by rw [He.out]; rfl, by rw [He.out]; simpa using h, BK.refl _ _⟩
  · have hm : S.u32 (n - 1024) = n - 1024 := by unfold S.u32; omega
    have He := Lib.hid (show S.eslot n = ([S.iAddr 25 S.moreLab (n - 1024)], 25, 0) by unfold S.eslot; rw [if_neg c1, hm])
    have hw : IntKind.u32.wrap (n - 1024) = n - 1024 := by rw [IntKind.wrap_u32]; omega
    clear hm
    go_enter Tryd.func60, Tryd.ntmps60
    go_wp2_with fail
    refine (mk_one base mb wv xs (S.iAddr 25 S.moreLab (n - 1024)) w h hbw (by omega) (by simp [S.iAddr]; omega) (by simp [S.iAddr]; omega)).mono ?_
    rintro e w' ⟨rfl, h2, h3⟩
    go_wp2_with fail
    go_ret2
    exact ⟨by rw [He.out]; rfl, by rw [He.out]; exact h2, h3⟩

end Go.Proofs.YtkdalaiponchbaaDoor
