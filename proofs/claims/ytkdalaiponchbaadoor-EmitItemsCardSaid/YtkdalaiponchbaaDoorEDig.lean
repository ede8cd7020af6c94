/- The document's digits and labels: walks of pennantref24.Digits, number, Label. -/
import Derived.Test.YtkdalaiponchbaaDoorELab
import Derived.Test.YtkdalaiponchbaaDoorExt
set_option linter.unusedVariables false
set_option linter.unusedSimpArgs false
set_option linter.unusedSectionVars false
namespace Go.Proofs.YtkdalaiponchbaaDoor
open Go.RowKit

set_option maxRecDepth 100000 in
set_option maxHeartbeats 1000000 in
theorem r24_Digits_step (n : Int) (hn : 0 ≤ n ∧ n ≤ 9223372036854775807) (w : World)
    (ih : ∀ (w : World), 10 ≤ n → Calls Tryd.prog 29 #[.int .i64 (n / 10)] w fun e w' => e = .returned (.string ⟨(S.itoa (n / 10)).toArray⟩) ∧ Below w.heap.size w w') :
    Calls Tryd.prog 29 #[.int .i64 n] w fun e w' => e = .returned (.string ⟨(S.itoa n).toArray⟩) ∧ Below w.heap.size w w' := by
  have IH := Lib.hid ih
  clear ih
  by_cases h2 : n < 10
  · have He := Lib.hid (itoa_small (n := n) (by omega))
    have hc := conv_one w
    go_enter Tryd.func29, Tryd.ntmps29
    go_wp2_with fail
    go_ret
    refine ⟨?_, (one_allocN w _ _).2.1⟩
    rw [He.out, show (48 + n).toNat = 48 + n.toNat by omega]
    rfl
  · have he := itoa_big (n := n) (by omega)
    have hl := itoa_len (n / 10)
    have hq : n.tdiv 10 = n / 10 := Int.tdiv_eq_ediv_of_nonneg (by omega)
    have hm : n.tmod 10 = n % 10 := Int.tmod_eq_emod_of_nonneg (by omega)
    have hd := itoa_small (n := n % 10) (by omega)
    rw [hd, show 48 + (n % 10).toNat = (48 + n % 10).toNat by omega] at he
    have Hs := Lib.hid (str_app (S.itoa (n / 10)) [UInt8.ofNat (48 + n % 10).toNat])
    have hc := fun w => conv_one w (48 + n % 10)
    have IH2 := Lib.hid (fun w => IH.out w (by omega))
    have wr1 : IntKind.i64.wrap (n / 10) = n / 10 := by rw [IntWalk.i64_in _ (by omega)]
    have wr2 : IntKind.i64.wrap (48 + n % 10) = 48 + n % 10 := by rw [IntWalk.i64_in _ (by omega)]
    have wr3 : IntKind.u8.wrap (48 + n % 10) = 48 + n % 10 := by rw [IntKind.wrap_u8]; omega
    generalize S.itoa (n / 10) = l at *
    have hno : ¬ (9223372036854775807 < l.length + 1) := by omega
    go_enter Tryd.func29, Tryd.ntmps29
    go_upto_region 3 with fail
    refine wp_region_any (by kernel_rfl) ?_
    change wpAny _ _ _ _ 11 _ _ (World.drew _)
    refine wpAny_take (i := 0) (v := ?v0) rfl (by kernel_rfl) (by kernel_rfl) (by kernel_rfl) (fun _ _ _ h => h) (Or.inl ⟨by rfl, ?y0⟩) ?z0
    case y0 => (intro w; first | (go_simp; done) | (go_simp; with_reducible rfl))
    refine wpAny_take (i := 1) (v := ?v1) rfl (by kernel_rfl) (by kernel_rfl) (by kernel_rfl) (fun _ _ _ h => h) (Or.inl ⟨by rfl, ?y1⟩) ?z1
    case y1 => (intro w; first | (go_simp; done) | (go_simp; with_reducible rfl))
    refine wpAny_take (i := 3) (v := ?v3) rfl (by kernel_rfl) (by kernel_rfl) (by kernel_rfl) (fun _ _ _ h => h) (Or.inl ⟨by rfl, ?y3⟩) ?z3
    case y3 => (intro w; first | (go_simp; done) | (go_simp; with_reducible rfl))
    refine wpAny_take (i := 4) (v := ?v4) rfl (by kernel_rfl) (by kernel_rfl) (by kernel_rfl) (fun _ _ _ h => h) (Or.inl ⟨by rfl, ?y4⟩) ?z4
    case y4 => (intro w; first | (go_simp; done) | (go_simp; with_reducible rfl))
    refine wpAny_take (i := 5) (v := ?v5) rfl (by kernel_rfl) (by kernel_rfl) (by kernel_rfl) (fun _ _ _ h => h) (Or.inl ⟨by rfl, ?y5⟩) ?z5
    case y5 => (intro w; first | (go_simp; done) | (go_simp; with_reducible rfl))
    refine wpAny_take (i := 6) (v := ?v6) rfl (by kernel_rfl) (by kernel_rfl) (by kernel_rfl) (fun _ _ _ h => h) (Or.inl ⟨by rfl, ?y6⟩) ?z6
    case y6 => (intro w; first | (go_simp; done) | (go_simp; with_reducible rfl))
    -- ORDERS
    have he' := he
    clear he hd IH
    have hd0 : Below w.heap.size w (World.drew w) := Below.drew (Below.refl _ _)
    refine wpAny_ready (rs := [2, 7]) (by kernel_rfl) (by simp) ?_
    refine AllReady.cons rfl (fun K hK => ?_) ?_
    · go_simp
      go_wp2_with (go_at_call 29; refine (IH2.out _).mono ?_; rintro e w2 ⟨rfl, hb⟩)
      have hz2 : Below w.heap.size w w2 := (hd0).trans (hb.mono (hd0).size)
      refine wpAny_ready (rs := [7]) (by kernel_rfl) (by simp) ?_
      refine AllReady.cons rfl (fun K hK => ?_) ?_
      · go_simp
        refine hK _ _ ?_
        clear hK K
        have hcv := hc w2
        refine wpAny_ready (rs := [8]) (by kernel_rfl) (by simp) ?_
        refine AllReady.cons rfl (fun K hK => ?_) ?_
        · go_simp
          refine hK _ _ ?_
          clear hK K
          refine wpAny_take (i := 9) (v := ?v9n1) rfl (by kernel_rfl) (by kernel_rfl) (by kernel_rfl) (fun _ _ _ h => h) (Or.inl ⟨by rfl, ?y9n1⟩) ?z9n1
          case y9n1 => (intro w; first | (go_simp; done) | (go_simp; with_reducible rfl))
          refine wpAny_take (i := 10) (v := ?v10n2) rfl (by kernel_rfl) (by kernel_rfl) (by kernel_rfl) (fun _ _ _ h => h) (Or.inl ⟨by rfl, ?y10n2⟩) ?z10n2
          case y10n2 => (intro w; first | (go_simp; done) | (go_simp; with_reducible rfl))
          refine wpAny_done (by kernel_rfl) ?_ _
          go_wp2_with fail
          go_ret
          exact ⟨by rw [he']; exact ret_str Hs.out, (hz2).trans (((Below.refl _ _).alloc (Nat.le_refl _) _).mono (hz2).size)⟩
        exact AllReady.nil
      exact AllReady.nil
    refine AllReady.cons rfl (fun K hK => ?_) ?_
    · go_simp
      refine hK _ _ ?_
      clear hK K
      have hzA : Below w.heap.size w (World.drew (w.alloc (.cells #[.int .u8 (48 + n % 10)] 5))) := Below.drew ((Below.refl _ _).alloc (Nat.le_refl _) _)
      have hcell : (World.drew (w.alloc (.cells #[.int .u8 (48 + n % 10)] 5))).cell? ⟨w.heap.size, 0, none⟩ = some (.int .u8 (48 + n % 10)) := cell_of_row _ _ _ _ _ (0, 0) (one_allocN w _ _).1
      have hcA := conv_at (World.drew (w.alloc (.cells #[.int .u8 (48 + n % 10)] 5))) w.heap.size (48 + n % 10) hcell
      refine wpAny_ready (rs := [2, 8]) (by kernel_rfl) (by simp) ?_
      refine AllReady.cons rfl (fun K hK => ?_) ?_
      · go_simp
        go_wp2_with (go_at_call 29; refine (IH2.out _).mono ?_; rintro e w2 ⟨rfl, hb⟩)
        have hz2 : Below w.heap.size w w2 := (hzA).trans (hb.mono (hzA).size)
        have hcv := conv_at w2 w.heap.size (48 + n % 10) ((hb.cell (p := ⟨w.heap.size, 0, none⟩) (by simp)).trans hcell)
        refine wpAny_ready (rs := [8]) (by kernel_rfl) (by simp) ?_
        refine AllReady.cons rfl (fun K hK => ?_) ?_
        · go_simp
          refine hK _ _ ?_
          clear hK K
          refine wpAny_take (i := 9) (v := ?v9n3) rfl (by kernel_rfl) (by kernel_rfl) (by kernel_rfl) (fun _ _ _ h => h) (Or.inl ⟨by rfl, ?y9n3⟩) ?z9n3
          case y9n3 => (intro w; first | (go_simp; done) | (go_simp; with_reducible rfl))
          refine wpAny_take (i := 10) (v := ?v10n4) rfl (by kernel_rfl) (by kernel_rfl) (by kernel_rfl) (fun _ _ _ h => h) (Or.inl ⟨by rfl, ?y10n4⟩) ?z10n4
          case y10n4 => (intro w; first | (go_simp; done) | (go_simp; with_reducible rfl))
          refine wpAny_done (by kernel_rfl) ?_ _
          go_wp2_with fail
          go_ret
          exact ⟨by rw [he']; exact ret_str Hs.out, hz2⟩
        exact AllReady.nil
      refine AllReady.cons rfl (fun K hK => ?_) ?_
      · go_simp
        refine hK _ _ ?_
        clear hK K
        refine wpAny_ready (rs := [2]) (by kernel_rfl) (by simp) ?_
        refine AllReady.cons rfl (fun K hK => ?_) ?_
        · go_simp
          go_wp2_with (go_at_call 29; refine (IH2.out _).mono ?_; rintro e w2 ⟨rfl, hb⟩)
          have hz2 : Below w.heap.size w w2 := (hzA).trans (hb.mono (hzA).size)
          refine wpAny_take (i := 9) (v := ?v9n5) rfl (by kernel_rfl) (by kernel_rfl) (by kernel_rfl) (fun _ _ _ h => h) (Or.inl ⟨by rfl, ?y9n5⟩) ?z9n5
          case y9n5 => (intro w; first | (go_simp; done) | (go_simp; with_reducible rfl))
          refine wpAny_take (i := 10) (v := ?v10n6) rfl (by kernel_rfl) (by kernel_rfl) (by kernel_rfl) (fun _ _ _ h => h) (Or.inl ⟨by rfl, ?y10n6⟩) ?z10n6
          case y10n6 => (intro w; first | (go_simp; done) | (go_simp; with_reducible rfl))
          refine wpAny_done (by kernel_rfl) ?_ _
          go_wp2_with fail
          go_ret
          exact ⟨by rw [he']; exact ret_str Hs.out, hz2⟩
        exact AllReady.nil
      exact AllReady.nil
    exact AllReady.nil

theorem r24_Digits_any : ∀ (k : Nat) (n : Int), 0 ≤ n → n ≤ 9223372036854775807 → n < k → ∀ w : World,
    Calls Tryd.prog 29 #[.int .i64 n] w fun e w' => e = .returned (.string ⟨(S.itoa n).toArray⟩) ∧ Below w.heap.size w w'
  | 0, n, h0, _, h, w => by omega
  | k + 1, n, h0, h1, h, w => r24_Digits_step n ⟨h0, h1⟩ w fun w h10 => r24_Digits_any k (n / 10) (by omega) (by omega) (by omega) w
theorem r24_Digits (n : Int) (h0 : 0 ≤ n) (h1 : n ≤ 9223372036854775807) (w : World) :
    Calls Tryd.prog 29 #[.int .i64 n] w fun e w' => e = .returned (.string ⟨(S.itoa n).toArray⟩) ∧ Below w.heap.size w w' := r24_Digits_any (n.toNat + 1) n h0 h1 (by omega) w

/-- A number below 0, a digit less. -/
theorem itoa_up {m : Int} (h : -9223372036854775808 ≤ m ∧ m < -9) : S.itoa (-m) = S.itoa (-(m.tdiv 10)) ++ [UInt8.ofNat (48 - m.tmod 10).toNat] ∧ -9223372036854775808 ≤ m.tdiv 10 ∧ m.tdiv 10 < 0 ∧ m < m.tdiv 10 ∧ -9 ≤ m.tmod 10 ∧ m.tmod 10 ≤ 0 := by
  have hq : m.tdiv 10 = -((-m) / 10) := by
    conv => lhs; rw [show m = -(-m) by omega]
    rw [Int.neg_tdiv, Int.tdiv_eq_ediv_of_nonneg (by omega)]
  have hm : m.tmod 10 = -((-m) % 10) := by
    conv => lhs; rw [show m = -(-m) by omega]
    rw [Int.neg_tmod, Int.tmod_eq_emod_of_nonneg (by omega)]
  rw [hq, hm]
  refine ⟨?_, by omega, by omega, by omega, by omega, by omega⟩
  rw [Int.neg_neg, itoa_big (n := -m) (by omega), itoa_small (n := (-m) % 10) (by omega), show (48 - -(-m % 10)).toNat = 48 + (-m % 10).toNat by omega]

set_option maxRecDepth 100000 in
set_option maxHeartbeats 1000000 in
theorem r24_number (n : Int) (h : I64 n) (w : World) : Calls Tryd.prog 46 #[.int .i64 n] w fun e w' => e = .returned (.string ⟨(S.itoa n).toArray⟩) ∧ Below w.heap.size w w' := by
  obtain ⟨h0, h1⟩ := h
  by_cases hn : 0 ≤ n
  · go_enter Tryd.func46, Tryd.ntmps46
    go_wp2_with fail
    refine (r24_Digits n hn h1 w).mono ?_
    rintro e w2 ⟨rfl, hb⟩
    go_wp2_with fail
    go_ret
    exact ⟨rfl, hb⟩
  · have hnl := itoa_len n
    have Hn := Lib.hid (itoa_neg (n := n) (by omega))
    go_enter Tryd.func46, Tryd.ntmps46
    go_wp2_with fail
    go_loopw [0, 3] (fun v0 v3 wr => ∃ (m : Int) (l : List UInt8), v0 = .int .i64 m ∧ v3 = .string ⟨l.toArray⟩ ∧ -9223372036854775808 ≤ m ∧ m < 0 ∧ S.itoa (-n) = S.itoa (-m) ++ l ∧ Below w.heap.size w wr) (fun v0 _ _ => (-(intOf v0)).toNat)
    case atStart => exact ⟨n, [], rfl, rfl, h0, by omega, by simp, Below.refl _ _⟩
    case round =>
      obtain ⟨m, l, rfl, rfl, m0, m1, hi, hb⟩ := hrel
      have hll : l.length ≤ 22 := by
        have := itoa_len (-n)
        rw [hi, List.length_append] at this
        omega
      have Hi := Lib.hid hi
      clear hi
      by_cases hm : m < -9
      · obtain ⟨e1, q1, q2, q3, r1, r2⟩ := itoa_up ⟨m0, hm⟩
        have E1 := Lib.hid e1
        clear e1
        have wr3 : IntKind.u8.wrap (48 - m.tmod 10) = 48 - m.tmod 10 := by rw [IntKind.wrap_u8]; omega
        have hc := conv_one wr (48 - m.tmod 10)
        have Hs := Lib.hid (str_app [UInt8.ofNat (48 - m.tmod 10).toNat] l)
        go_wp2_with fail
        go_roundw
        case rel =>
          refine ⟨m.tdiv 10, [UInt8.ofNat (48 - m.tmod 10).toNat] ++ l, rfl, by rw [← Hs.out], q1, q2, by rw [Hi.out, E1.out, List.append_assoc], hb.trans (((Below.refl _ _).alloc (Nat.le_refl _) _).mono hb.size)⟩
        case measure =>
          simp only [intOf]
          omega
      · have He := Lib.hid (itoa_small (n := -m) (by omega))
        have wr3 : IntKind.u8.wrap (48 - m) = 48 - m := by rw [IntKind.wrap_u8]; omega
        have hc := conv_one wr (48 - m)
        go_wp2_with fail
        go_ret
        refine ⟨?_, hb.trans (((Below.refl _ _).alloc (Nat.le_refl _) _).mono hb.size)⟩
        rw [Hn.out, Hi.out, He.out, show 48 + (-m).toNat = (48 - m).toNat by omega]
        refine ret_str ?_
        have h1 := str_app [45] [UInt8.ofNat (48 - m).toNat]
        have h2 := str_app ([45] ++ [UInt8.ofNat (48 - m).toNat]) l
        rw [← h1] at h2
        exact h2

theorem r24_Label (n : Int) (h : I64 n) (w : World) : Calls Tryd.prog 16 #[.int .i64 n] w fun e w' => e = .returned (.string (S.rt n)) ∧ Below w.heap.size w w' := by
  have Hs := Lib.hid (str_app [114, 116] (S.itoa n))
  have hl := itoa_len n
  go_enter Tryd.func16, Tryd.ntmps16
  go_wp2_with fail
  refine (r24_number n h w).mono ?_
  rintro e w2 ⟨rfl, hb⟩
  have Hr := Lib.hid (show S.rt n = ⟨([114, 116] ++ S.itoa n).toArray⟩ from rfl)
  generalize S.itoa n = l at *
  go_wp2_with fail
  go_ret
  exact ⟨by rw [Hr.out]; exact ret_str Hs.out, hb⟩

end Go.Proofs.YtkdalaiponchbaaDoor
