/- The document's digits: walk of pennantref01.Digits. -/
import Derived.Test.YtjhchgbeglhoaaaDoorIRefN
import Derived.Laws.BytesArg
set_option linter.unusedVariables false
set_option linter.unusedSimpArgs false
set_option linter.unusedSectionVars false
namespace Go.Proofs.YtjhchgbeglhoaaaDoor
open Go.RowKit

theorem itoa_small {n : Int} (h : 0 ≤ n ∧ n < 10) : S.itoa n = [UInt8.ofNat (48 + n.toNat)] := by
  rw [itoa_eq (by omega)]
  unfold Lib.itoa
  rw [if_neg (by omega), Lib.decDigits_one (by omega)]
theorem itoa_neg {n : Int} (h : -1000000000000000000 < n ∧ n < 0) : S.itoa n = 45 :: S.itoa (-n) := by
  rw [itoa_eq (by omega), itoa_eq (by omega)]
  unfold Lib.itoa
  rw [if_pos (by omega), if_neg (by omega), show n.natAbs = (-n).toNat by omega]
theorem itoa_big {n : Int} (h : 10 ≤ n ∧ n < 1000000000000000000) : S.itoa n = S.itoa (n / 10) ++ S.itoa (n % 10) := by
  rw [itoa_eq (by omega), itoa_eq (by omega), itoa_small (by omega)]
  unfold Lib.itoa
  rw [if_neg (by omega), if_neg (by omega)]
  conv => lhs; rw [Lib.decDigits, dif_neg (by omega)]
  rw [show n.toNat / 10 = (n / 10).toNat by omega, show n.toNat % 10 = (n % 10).toNat by omega]
theorem digF_len_all : ∀ (f u : Nat), (S.digF f u).length ≤ f + 1
  | 0, u => by simp [S.digF]
  | f + 1, u => by
    simp only [S.digF]
    split
    · simp
    · have := digF_len_all f (u / 10)
      rw [List.length_append]
      simp
      omega
theorem itoa_len (n : Int) : (S.itoa n).length ≤ 22 := by
  unfold S.itoa
  have h1 := digF_len_all 20 n.natAbs
  have h2 := digF_len_all 20 n.toNat
  split
  · simp; omega
  · omega
theorem str_app (a b : List UInt8) : (⟨a.toArray⟩ : ByteArray) ++ ⟨b.toArray⟩ = ⟨(a ++ b).toArray⟩ := by
  apply ByteArray.ext
  apply Array.toList_inj.1
  rw [Go.Joins.data_append]
theorem ret_str {a b : ByteArray} (h : a = b) : Ending.returned (.string a) = .returned (.string b) := by rw [h]
theorem str_one (c : Int) : strOfNums [c] = ⟨#[UInt8.ofNat c.toNat]⟩ := rfl
theorem conv_one (w : World) (c : Int) : (convert 58 9 (.slice (some ⟨w.heap.size, 0, none⟩) 1 1)).run Tryd.prog (w.alloc (.cells #[.int .u8 c] 5)) = .ok (.string ⟨#[UInt8.ofNat c.toNat]⟩) (w.alloc (.cells #[.int .u8 c] 5)) := by
  refine run_convert_bytes_arg _ 58 5 Tryd.underlying58 Tryd.underlying5 w.heap.size 0 1 1 [c] rfl (fun i hi => ?_) 9 Tryd.underlying9
  rw [cell_of_row _ _ _ _ _ (0, 0) (one_allocN w #[.int .u8 c] 5).1]
  have : i = 0 := by omega
  subst this
  rfl

set_option maxRecDepth 100000 in
set_option maxHeartbeats 1000000 in
theorem ref_Digits_step (n : Int) (hn : -1000000000000000000 < n ∧ n < 1000000000000000000) (w : World)
    (ih : ∀ (m : Int) (w : World), m.natAbs < n.natAbs ∨ (n < 0 ∧ m = -n ∧ m < 10) → Calls Tryd.prog 44 #[.int .i64 m] w fun e w' => e = .returned (.string ⟨(S.itoa m).toArray⟩) ∧ Below w.heap.size w w') :
    Calls Tryd.prog 44 #[.int .i64 n] w fun e w' => e = .returned (.string ⟨(S.itoa n).toArray⟩) ∧ Below w.heap.size w w' := by
  have IH := Lib.hid ih
  clear ih
  by_cases h1 : n < 0
  · by_cases h2 : -10 < n
    · have he := itoa_neg (n := n) (by omega)
      have hl := itoa_len (-n)
      go_enter Tryd.func44, Tryd.ntmps44
      go_wp2_with fail
      refine (IH.out (-n) w (.inr ⟨h1, rfl, by omega⟩)).mono ?_
      rintro e w2 ⟨rfl, hb⟩
      have Hs := Lib.hid (str_app [45] (S.itoa (-n)))
      have He := Lib.hid he
      clear he
      generalize S.itoa (-n) = l at *
      go_wp2_with fail
      go_ret
      exact ⟨by rw [He.out]; exact ret_str Hs.out, hb⟩
    · have hq : n.tdiv 10 = -((-n) / 10) := by
        conv => lhs; rw [show n = -(-n) by omega]
        rw [Int.neg_tdiv, Int.tdiv_eq_ediv_of_nonneg (by omega)]
      have hm : n.tmod 10 = -((-n) % 10) := by
        conv => lhs; rw [show n = -(-n) by omega]
        rw [Int.neg_tmod, Int.tmod_eq_emod_of_nonneg (by omega)]
      have he : S.itoa n = S.itoa (n.tdiv 10) ++ S.itoa (-(n.tmod 10)) := by
        rw [hq, hm, itoa_neg (n := n) (by omega), itoa_big (n := -n) (by omega), itoa_neg (n := -((-n) / 10)) (by omega), Int.neg_neg, Int.neg_neg]
        rfl
      have hl := itoa_len (n.tdiv 10)
      have hl2 := itoa_len (-(n.tmod 10))
      have q1 : (n.tdiv 10).natAbs < n.natAbs := by rw [hq]; omega
      have q2 : (-(n.tmod 10)).natAbs < n.natAbs := by rw [hm]; omega
      have q3 : -10 < n.tmod 10 ∧ n.tmod 10 ≤ 0 := by rw [hm]; omega
      clear hq hm
      go_enter Tryd.func44, Tryd.ntmps44
      go_wp2_with fail
      refine (IH.out (n.tdiv 10) w (.inl q1)).mono ?_
      rintro e w2 ⟨rfl, hb⟩
      have Hs := Lib.hid (str_app (S.itoa (n.tdiv 10)) (S.itoa (-(n.tmod 10))))
      have He := Lib.hid he
      have H2 := Lib.hid (fun w => IH.out (-(n.tmod 10)) w (.inl q2))
      clear he
      generalize S.itoa (n.tdiv 10) = l at *
      generalize S.itoa (-(n.tmod 10)) = l2 at *
      go_wp2_with fail
      refine (H2.out w2).mono ?_
      rintro e w3 ⟨rfl, hb3⟩
      go_wp2_with fail
      go_ret
      exact ⟨by rw [He.out]; exact ret_str Hs.out, hb.trans (hb3.mono hb.size)⟩
  · by_cases h2 : n < 10
    · have He := Lib.hid (itoa_small (n := n) (by omega))
      have hc := conv_one w
      go_enter Tryd.func44, Tryd.ntmps44
      go_wp2_with fail
      go_ret
      refine ⟨?_, (one_allocN w _ _).2.1⟩
      rw [He.out, show (48 + n).toNat = 48 + n.toNat by omega]
      rfl
    · have he := itoa_big (n := n) (by omega)
      have hl := itoa_len (n / 10)
      have hl2 := itoa_len (n % 10)
      have q1 : (n / 10).natAbs < n.natAbs := by omega
      have q2 : (n % 10).natAbs < n.natAbs := by omega
      go_enter Tryd.func44, Tryd.ntmps44
      go_wp2_with fail
      refine (IH.out (n / 10) w (.inl q1)).mono ?_
      rintro e w2 ⟨rfl, hb⟩
      have Hs := Lib.hid (str_app (S.itoa (n / 10)) (S.itoa (n % 10)))
      have He := Lib.hid he
      have H2 := Lib.hid (fun w => IH.out (n % 10) w (.inl q2))
      clear he
      generalize S.itoa (n / 10) = l at *
      generalize S.itoa (n % 10) = l2 at *
      go_wp2_with fail
      refine (H2.out w2).mono ?_
      rintro e w3 ⟨rfl, hb3⟩
      go_wp2_with fail
      go_ret
      exact ⟨by rw [He.out]; exact ret_str Hs.out, hb.trans (hb3.mono hb.size)⟩

theorem ref_Digits_any : ∀ (k : Nat) (n : Int), (-1000000000000000000 < n ∧ n < 1000000000000000000) → 2 * n.natAbs + (if n < 0 then 1 else 0) < k → ∀ w : World,
    Calls Tryd.prog 44 #[.int .i64 n] w fun e w' => e = .returned (.string ⟨(S.itoa n).toArray⟩) ∧ Below w.heap.size w w'
  | 0, n, _, h, w => by omega
  | k + 1, n, hn, h, w => ref_Digits_step n hn w fun m w hm => ref_Digits_any k m (by rcases hm with hm | hm <;> omega) (by
      rcases hm with hm | ⟨h1, h2, h3⟩
      · split <;> (split at h <;> omega)
      · rw [if_neg (by omega)]
        rw [if_pos h1] at h
        omega) w
theorem ref_Digits (n : Int) (hn : -1000000000000000000 < n ∧ n < 1000000000000000000) (w : World) :
    Calls Tryd.prog 44 #[.int .i64 n] w fun e w' => e = .returned (.string ⟨(S.itoa n).toArray⟩) ∧ Below w.heap.size w w' := ref_Digits_any _ n hn (Nat.lt_succ_self _) w

end Go.Proofs.YtjhchgbeglhoaaaDoor
