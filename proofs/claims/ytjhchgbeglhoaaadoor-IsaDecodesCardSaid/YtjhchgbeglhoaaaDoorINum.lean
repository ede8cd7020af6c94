/- The document's numbers: walk of pennantref01.Number. -/
import Derived.Test.YtjhchgbeglhoaaaDoorIDig
set_option linter.unusedVariables false
set_option linter.unusedSimpArgs false
set_option linter.unusedSectionVars false
namespace Go.Proofs.YtjhchgbeglhoaaaDoor
open Go.RowKit

theorem refDig_bd {n : Int} {k : Nat} (h : 0 ≤ n ∧ n < 10 ^ k) (c : UInt8) : 0 ≤ S.refDig n c ∧ S.refDig n c < 10 ^ (k + 1) := by
  unfold S.refDig
  rw [Int.pow_succ]
  split
  · omega
  · omega
theorem fold_bd (l : List UInt8) : ∀ k, 0 ≤ (l.take k).foldl S.refDig 0 ∧ (l.take k).foldl S.refDig 0 < 10 ^ k
  | 0 => by simp
  | k + 1 => by
    by_cases h : k < l.length
    · rw [List.take_succ_eq_append_getElem h, List.foldl_append]
      exact refDig_bd (fold_bd l k) _
    · have h1 := fold_bd l k
      rw [List.take_of_length_le (by omega)] at h1 ⊢
      refine ⟨h1.1, ?_⟩
      rw [Int.pow_succ]
      omega

theorem head_is {l : List UInt8} (h : 0 < l.length) (e : l.getD 0 0 = 45) : l.head? = some 45 := by
  cases l with
  | nil => simp at h
  | cons c r => simpa using e
theorem head_not {l : List UInt8} (h : 0 < l.length) (e : ¬ l.getD 0 0 = 45) : ¬ l.head? = some 45 := by
  cases l with
  | nil => simp at h
  | cons c r => simpa using e

set_option maxRecDepth 100000 in
set_option maxHeartbeats 1000000 in
theorem ref_Number (s : ByteArray) (hs : s.size ≤ 1000000) (w : World) : Calls Tryd.prog 52 #[.string s] w fun e w' => e = .returned (.int .i64 (S.refNum s.data.toList)) ∧ w = w' := by
  obtain ⟨l, hl⟩ : ∃ l, l = s.data.toList := ⟨_, rfl⟩
  have hsz : s.size = l.length := by rw [hl]; simp
  have hget : ∀ i (hi : i < s.size), s[i] = l.getD i 0 := fun i hi => by
    subst hl
    have h2 : i < s.data.toList.length := by simpa using hi
    rw [List.getD_eq_getElem?_getD, List.getElem?_eq_getElem h2]
    rfl
  rw [← hl]
  have Hget := Lib.hid hget
  clear hget hl
  go_enter Tryd.func52, Tryd.ntmps52
  go_wp2_with fail
  go_loopw [3, 4] (fun v3 v4 wr => ∃ i : Nat, i ≤ l.length ∧ i ≤ 9 ∧ v4 = .int .i64 i ∧ v3 = .int .i64 ((l.take i).foldl S.refDig 0) ∧ wr = w) (fun _ v4 _ => 9 - (intOf v4).toNat)
  case atStart => exact ⟨0, by omega, by omega, rfl, rfl, rfl⟩
  case round =>
    obtain ⟨i, hi, hi9, rfl, rfl, rfl⟩ := hrel
    have hf := fold_bd l i
    have hp : (10 : Int) ^ i ≤ 1000000000 := by
      rcases i with _ | _ | _ | _ | _ | _ | _ | _ | _ | _ | i
      all_goals first | decide | omega
    by_cases h1 : i < l.length
    · by_cases h2 : i < 9
      · have hi2 : i < s.size := by omega
        have hg := Hget.out i hi2
        have Hn := Lib.hid (show (l.take (i + 1)).foldl S.refDig 0 = S.refDig ((l.take i).foldl S.refDig 0) (s[i]'hi2) by rw [List.take_succ_eq_append_getElem h1, List.foldl_append, hg]; simp [h1])
        clear hg
        generalize (l.take i).foldl S.refDig 0 = n at *
        have hb : (s[i]'hi2).toNat < 256 := UInt8.toNat_lt _
        by_cases h48 : (48 : Int) ≤ (s[i]'hi2).toNat
        · by_cases h57 : ((s[i]'hi2).toNat : Int) ≤ 57
          · have Hd := Lib.hid (show S.refDig n (s[i]'hi2) = 10 * n + (((s[i]'hi2).toNat : Int) - 48) by unfold S.refDig; rw [if_pos (by omega)])
            go_wp2_with fail
            go_roundw
            case rel => exact ⟨i + 1, by omega, by omega, by go_num, by rw [Hn.out, Hd.out], by first | trivial | rfl⟩
            case measure =>
              simp only [intOf]
              omega
          · have Hd := Lib.hid (show S.refDig n (s[i]'hi2) = n by unfold S.refDig; rw [if_neg (by omega)])
            go_wp2_with fail
            go_roundw
            case rel => exact ⟨i + 1, by omega, by omega, by go_num, by rw [Hn.out, Hd.out], by first | trivial | rfl⟩
            case measure =>
              simp only [intOf]
              omega
        · have Hd := Lib.hid (show S.refDig n (s[i]'hi2) = n by unfold S.refDig; rw [if_neg (by omega)])
          go_wp2_with fail
          go_roundw
          case rel => exact ⟨i + 1, by omega, by omega, by go_num, by rw [Hn.out, Hd.out], by first | trivial | rfl⟩
          case measure =>
            simp only [intOf]
            omega
      · have hi9' : i = 9 := by omega
        have hl0 : 0 < l.length := by omega
        by_cases h45 : l.getD 0 0 = 45
        · have hg := Hget.out 0 (by omega)
          have Hr := Lib.hid (show S.refNum l = -((l.take i).foldl S.refDig 0) by unfold S.refNum; rw [if_pos (head_is hl0 h45), show l.take 9 = l.take i by rw [hi9']])
          have d0 : (((s[0]'(by omega)).toNat : Int) == 45) = true := by rw [hg, h45]; rfl
          clear hg
          generalize (l.take i).foldl S.refDig 0 = n at *
          go_wp2_with fail
          go_ret
          exact ⟨by rw [Hr.out]; rfl, rfl⟩
        · have hg := Hget.out 0 (by omega)
          have Hr := Lib.hid (show S.refNum l = (l.take i).foldl S.refDig 0 by unfold S.refNum; rw [if_neg (head_not hl0 h45), show l.take 9 = l.take i by rw [hi9']])
          have d0 : (((s[0]'(by omega)).toNat : Int) == 45) = false := by
            rw [hg]
            have : (l.getD 0 0).toNat ≠ 45 := fun e => h45 (UInt8.toNat_inj.1 (by rw [e]; rfl))
            exact beq_eq_false_iff_ne.2 (fun e => this (by omega))
          clear hg
          generalize (l.take i).foldl S.refDig 0 = n at *
          go_wp2_with fail
          go_ret
          exact ⟨by rw [Hr.out]; rfl, rfl⟩
    · have hie : i = l.length := by omega
      have htk : l.take 9 = l.take i := by rw [List.take_of_length_le (by omega), List.take_of_length_le (by omega)]
      by_cases hl0 : 0 < l.length
      · skip
        by_cases h45 : l.getD 0 0 = 45
        · have hg := Hget.out 0 (by omega)
          have Hr := Lib.hid (show S.refNum l = -((l.take i).foldl S.refDig 0) by unfold S.refNum; rw [if_pos (head_is hl0 h45), htk])
          have d0 : (((s[0]'(by omega)).toNat : Int) == 45) = true := by rw [hg, h45]; rfl
          clear hg
          generalize (l.take i).foldl S.refDig 0 = n at *
          go_wp2_with fail
          go_ret
          exact ⟨by rw [Hr.out]; rfl, rfl⟩
        · have hg := Hget.out 0 (by omega)
          have Hr := Lib.hid (show S.refNum l = (l.take i).foldl S.refDig 0 by unfold S.refNum; rw [if_neg (head_not hl0 h45), htk])
          have d0 : (((s[0]'(by omega)).toNat : Int) == 45) = false := by
            rw [hg]
            have : (l.getD 0 0).toNat ≠ 45 := fun e => h45 (UInt8.toNat_inj.1 (by rw [e]; rfl))
            exact beq_eq_false_iff_ne.2 (fun e => this (by omega))
          clear hg
          generalize (l.take i).foldl S.refDig 0 = n at *
          go_wp2_with fail
          go_ret
          exact ⟨by rw [Hr.out]; rfl, rfl⟩
      · have hn : l = [] := List.eq_nil_of_length_eq_zero (by omega)
        have Hr := Lib.hid (show S.refNum l = 0 by rw [hn]; rfl)
        have hi0 : i = 0 := by omega
        have hfold : (l.take i).foldl S.refDig 0 = 0 := by rw [hn]; simp
        rw [hfold]
        clear hfold hf hn htk hie
        subst hi0
        go_wp2_with fail
        go_ret
        exact ⟨by rw [Hr.out]; rfl, rfl⟩

end Go.Proofs.YtjhchgbeglhoaaaDoor
