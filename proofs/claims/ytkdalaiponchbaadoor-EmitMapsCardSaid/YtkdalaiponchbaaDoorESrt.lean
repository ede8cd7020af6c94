/- Walks: slices.IsSorted at []int; is a list rising? -/
import Derived.Test.YtkdalaiponchbaaDoorESlc
set_option linter.unusedVariables false
set_option linter.unusedSimpArgs false
set_option linter.unusedSectionVars false
namespace Go.Proofs.YtkdalaiponchbaaDoor
open Go.RowKit

def upTo : List Int → Bool
  | [] => true
  | [_] => true
  | x :: y :: r => decide (x ≤ y) && upTo (y :: r)
theorem upTo_of : ∀ (l : List Int), (∀ j, j + 1 < l.length → l.getD j 0 ≤ l.getD (j + 1) 0) → upTo l = true
  | [], _ => rfl
  | [_], _ => rfl
  | x :: y :: r, h => by
    have h0 := h 0 (by simp)
    have h1 := upTo_of (y :: r) (fun j hj => by simpa using h (j + 1) (by simp at *; omega))
    simp only [List.getD_cons_zero, List.getD_cons_succ] at h0
    simp [upTo, h0, h1]
theorem upTo_at : ∀ (l : List Int), upTo l = true → ∀ j, j + 1 < l.length → l.getD j 0 ≤ l.getD (j + 1) 0
  | [], _, j, h => by simp at h
  | [_], _, j, h => by simp at h
  | x :: y :: r, h, 0, _ => by
    simp only [upTo, Bool.and_eq_true, decide_eq_true_eq] at h
    simpa using h.1
  | x :: y :: r, h, j + 1, hj => by
    simp only [upTo, Bool.and_eq_true, decide_eq_true_eq] at h
    have := upTo_at (y :: r) h.2 j (by simp at *; omega)
    simpa using this
theorem upTo_false {l : List Int} {j : Nat} (hj : j + 1 < l.length) (h : l.getD (j + 1) 0 < l.getD j 0) : upTo l = false := by
  cases e : upTo l with
  | false => rfl
  | true => have := upTo_at l e j hj; omega

set_option maxRecDepth 100000 in
set_option maxHeartbeats 1000000 in
theorem s_IsSortedQ (B : Nat) (w : World) (A : Option Addr) (l : List Int) (c : Nat) (hA : Ints w B A l) (hl : l.length ≤ 1000000) :
    Calls Tryd.prog 40 #[.slice A l.length c] w fun e w' => e = .returned (.bool (upTo l)) ∧ ∃ n, w' = w.drewN n := by
  obtain ⟨N, hN⟩ : ∃ N : Nat, N = l.length := ⟨_, rfl⟩
  rw [← hN] at hl ⊢
  have HN := Lib.hid hN
  clear hN
  have wr0 : IntKind.i64.wrap ((N : Int) - 1) = (N : Int) - 1 := by rw [IntWalk.i64_in _ (by omega)]
  go_enter Tryd.func40, Tryd.ntmps40
  go_wp2_with fail
  go_loopw [3, 7] (fun v3 v7 wr => ∃ k : Int, -1 ≤ k ∧ k < N ∧ v3 = .int .i64 k ∧ (∃ n, wr = w.drewN n) ∧ Hid (∀ j : Nat, k ≤ j → j + 1 < N → l.getD j 0 ≤ l.getD (j + 1) 0)) (fun v3 _ _ => (intOf v3 + 1).toNat)
  case atStart => exact ⟨(N : Int) - 1, by omega, by omega, rfl, ⟨0, rfl⟩, Lib.hid (fun j h1 h2 => by omega)⟩
  case round =>
    obtain ⟨k, hk0, hk1, rfl, ⟨n, rfl⟩, hpre⟩ := hrel
    by_cases h0 : 0 < k
    · obtain ⟨m, rfl⟩ : ∃ m : Nat, k = (m : Int) + 1 := ⟨(k - 1).toNat, by omega⟩
      have hm1 : m + 1 < N := by omega
      have hm0 : m < N := by omega
      have hAd := hA
      obtain ⟨b, off, hAe, hbB, hc1⟩ := hAd.at_ (k := m + 1) (by rw [← HN.out]; exact hm1)
      obtain ⟨b', off', hAe', _, hc0⟩ := hAd.at_ (k := m) (by rw [← HN.out]; exact hm0)
      rw [hAe] at hAe'
      cases hAe'
      obtain ⟨x, hx⟩ : ∃ x, x = l.getD m 0 := ⟨_, rfl⟩
      obtain ⟨y, hy⟩ : ∃ y, y = l.getD (m + 1) 0 := ⟨_, rfl⟩
      rw [← hx] at hc0
      rw [← hy] at hc1
      have Hx := Lib.hid hx
      have Hy := Lib.hid hy
      have e1 : ((m : Int) + 1).toNat = m + 1 := by omega
      have e2 : IntKind.i64.wrap ((m : Int) + 1 - 1) = (m : Int) := by rw [IntWalk.i64_in _ (by omega)]; omega
      have e3 : IntKind.i64.wrap (m : Int) = (m : Int) := by rw [IntWalk.i64_in _ (by omega)]
      have i1 : (m : Int) + 1 < (N : Int) := by omega
      have i2 : (0 : Int) ≤ (m : Int) + 1 := by omega
      have i3 : (m : Int) < (N : Int) := by omega
      have i4 : (0 : Int) ≤ (m : Int) := by omega
      subst hAe
      clear hx hy hA hAd
      by_cases hlt : y < x
      · have hd : decide (y < x) = true := by simpa using hlt
        have Hlt := Lib.hid hlt
        have Hr := Lib.hid (upTo_false (l := l) (j := m) (by rw [← HN.out]; exact hm1) (by rw [← Hx.out, ← Hy.out]; exact hlt))
        have hcl := fun w => Tryd.cmp_Less_int2 y x w
        rw [hd] at hcl
        have Hcl := Lib.hid hcl
        clear hcl hlt hd wr0
        go_upto_region 4 with fail
        go_quiet ((go_at_call 66; first | exact Calls.quiet_of_same (Hcl.out _) | exact quiet_add_left ((Hcl.out _).mono fun _ _ h => ⟨h.1, h.2.symm⟩)))
        go_wp2_with fail
        go_ret
        exact ⟨by rw [Hr.out]; rfl, by first | exact ⟨_, rfl⟩ | exact ⟨_, World.drewN_drewN _ _ _⟩⟩
      · have hd : decide (y < x) = false := by simpa using hlt
        have Hlt := Lib.hid hlt
        have hcl := fun w => Tryd.cmp_Less_int2 y x w
        rw [hd] at hcl
        have Hcl := Lib.hid hcl
        clear hcl hlt hd wr0
        go_upto_region 4 with fail
        go_quiet ((go_at_call 66; first | exact Calls.quiet_of_same (Hcl.out _) | exact quiet_add_left ((Hcl.out _).mono fun _ _ h => ⟨h.1, h.2.symm⟩)))
        go_wp2_with fail
        go_roundw
        case rel =>
          refine ⟨(m : Int), by omega, by omega, by go_num, by first | exact ⟨_, rfl⟩ | exact ⟨_, World.drewN_drewN _ _ _⟩, Lib.hid (fun j h1 h2 => ?_)⟩
          by_cases e : j = m
          · subst e
            rw [← Hx.out, ← Hy.out]
            have := Hlt.out
            omega
          · exact hpre.out j (by omega) h2
        case measure => simp [intOf]; omega
    · have hk : k = 0 ∨ k = -1 := by omega
      have Hr := Lib.hid (upTo_of l (fun j hj => hpre.out j (by omega) (by rw [HN.out]; exact hj)))
      clear hA hpre
      go_wp2_with fail
      go_ret
      exact ⟨by rw [Hr.out]; rfl, by first | exact ⟨_, rfl⟩ | exact ⟨_, World.drewN_drewN _ _ _⟩⟩
theorem s_IsSorted (B : Nat) (w : World) (A : Option Addr) (l : List Int) (c : Nat) (hA : Ints w B A l) (hB : B ≤ w.heap.size) (hl : l.length ≤ 1000000) :
    Calls Tryd.prog 40 #[.slice A l.length c] w fun e w' => e = .returned (.bool (upTo l)) ∧ Below w.heap.size w w' :=
  (s_IsSortedQ B w A l c hA hl).mono fun _ _ ⟨h1, n, h2⟩ => ⟨h1, by rw [h2]; exact below_drewN (Below.refl _ _) n⟩

end Go.Proofs.YtkdalaiponchbaaDoor
