/- Walk of few, of the laws of layer 4. -/
import Derived.Test.YtbgdomnalimjnaaLinkK
set_option linter.unusedVariables false
set_option linter.unusedSimpArgs false
set_option linter.unusedSectionVars false
namespace Go.Proofs.Ytbgdomnalimjnaa
open Go.RowKit

def ObjFew (o : S.Obj) : Prop := o.items.length ≤ 60 ∧ o.name.size ≤ 40 ∧ ∀ x ∈ o.items, x.label.size ≤ 40
def Few (os : List S.Obj) : Prop := os.length ≤ 8 ∧ ∀ o ∈ os, ObjFew o
def FewPost (os : List S.Obj) (w : World) (e : Ending) (w' : World) : Prop := ∃ b, e = .returned (.bool b) ∧ (b = true → Few os) ∧ w = w'

set_option maxRecDepth 100000 in
set_option maxHeartbeats 4000000 in
theorem law_few (A : Option Addr) (c B : Nat) (os : List S.Obj) (w : World) (hi : Objs w B A os) (hl : os.length ≤ 9223372036854775807) (hil : ∀ (k : Nat) (o : S.Obj), os[k]? = some o → o.items.length ≤ 9223372036854775807) :
    Calls Try.prog 23 #[.slice A os.length c] w (FewPost os w) := by
  have Hil := Lib.hid hil
  clear hil
  go_enter Try.func23, Try.ntmps23
  go_wp2_with fail
  go_loop [3, 4] (fun n i => ∃ (k : Nat) (m : Int), k ≤ os.length ∧ k ≤ 9 ∧ i = .int .i64 k ∧ n = .int .i64 m ∧ 0 ≤ m ∧ m ≤ k * 257698037700 ∧ ∀ (q : Nat) (o : S.Obj), q < k → os[q]? = some o → ObjFew o) (fun _ i => os.length - (intOf i).toNat)
  case atStart => exact ⟨0, 0, by omega, by omega, rfl, rfl, by omega, by omega, fun q o h => by omega⟩
  case round =>
    obtain ⟨k, m, hk, hk9, rfl, rfl, m0, m1, hg⟩ := hrel
    have Hg := Lib.hid hg
    clear hg
    by_cases hlt : k < os.length ∧ k < 9
    · obtain ⟨h1, h2⟩ := hlt
      obtain ⟨b, off, x, rfl, hb, hx, hc0, ⟨Ai, ci, hc1, hI⟩, hn, hlab⟩ := hi.at_ h1
      have hli := Hil.out k x hx
      have Hx := Lib.hid hx
      have Hlab := Lib.hid hlab
      clear hx hlab
      unfold maxLen at hn
      by_cases hit : x.items.length ≤ 60
      · by_cases hnm : x.name.size ≤ 40
        · go_wp2_with fail
          go_loop [3, 5] (fun n i => ∃ (q : Nat) (p : Int), q ≤ x.items.length ∧ i = .int .i64 q ∧ n = .int .i64 p ∧ 0 ≤ p ∧ p ≤ m + q * 4294967295 ∧ ∀ (r : Nat) (y : S.Item), r < q → x.items[r]? = some y → y.label.size ≤ 40) (fun _ i => x.items.length - (intOf i).toNat)
          case atStart => exact ⟨0, m, by omega, rfl, rfl, m0, by omega, fun r y h => by omega⟩
          case round =>
            obtain ⟨q, p, hq, rfl, rfl, p0, p1, hl2⟩ := hrel
            have Hl2 := Lib.hid hl2
            clear hl2
            by_cases hql : q < x.items.length
            · obtain ⟨bi, oi, y, rfl, hbi, hy, k0, k1, k2, k3, k4, k5, k6, k7, y0, y1⟩ := hI.at_ hql
              have hls := Hlab.out _ (List.mem_of_getElem? hy)
              have Hy := Lib.hid hy
              clear hy
              unfold maxLen at hls
              by_cases h40 : y.label.size ≤ 40
              · by_cases h8 : y.kind = 8
                · have d8 := int_beq h8
                  have H8 := Lib.hid h8
                  clear h8
                  go_wp2_with fail
                  go_round
                  case rel =>
                    refine ⟨q + 1, _, by omega, by go_num, rfl, by omega, by push_cast; omega, fun r z hr hz => ?_⟩
                    by_cases e : r = q
                    · subst e
                      rw [Hy.out] at hz
                      cases hz
                      exact h40
                    · exact Hl2.out r z (by omega) hz
                  case measure => simp [intOf]; omega
                · have d8 := int_bne h8
                  have H8 := Lib.hid h8
                  clear h8
                  go_wp2_with fail
                  go_round
                  case rel =>
                    refine ⟨q + 1, p, by omega, by go_num, rfl, by omega, by push_cast; omega, fun r z hr hz => ?_⟩
                    by_cases e : r = q
                    · subst e
                      rw [Hy.out] at hz
                      cases hz
                      exact h40
                    · exact Hl2.out r z (by omega) hz
                  case measure => simp [intOf]; omega
              · go_wp2_with fail
                go_ret
                exact ⟨false, rfl, by simp, rfl⟩
            · have hqe : q = x.items.length := by omega
              have Hqe := Lib.hid hqe
              clear hqe
              go_wp2_with fail
              go_round
              case rel =>
                refine ⟨k + 1, p, by omega, by omega, by go_num, rfl, by omega, by push_cast; omega, fun r o hr ho => ?_⟩
                by_cases e : r = k
                · subst e
                  rw [Hx.out] at ho
                  cases ho
                  refine ⟨hit, hnm, fun z hz => ?_⟩
                  obtain ⟨t, ht, rfl⟩ := List.getElem_of_mem hz
                  exact Hl2.out t _ (by have := Hqe.out; omega) (List.getElem?_eq_getElem ht)
                · exact Hg.out r o (by omega) ho
              case measure => simp [intOf]; omega
        · go_wp2_with fail
          go_ret
          exact ⟨false, rfl, by simp, rfl⟩
      · go_wp2_with fail
        go_ret
        exact ⟨false, rfl, by simp, rfl⟩
    · by_cases h8 : os.length ≤ 8
      · have hke : k = os.length := by omega
        have hfew : Few os := by
          refine ⟨h8, fun o ho => ?_⟩
          obtain ⟨t, ht, rfl⟩ := List.getElem_of_mem ho
          exact Hg.out t _ (by omega) (List.getElem?_eq_getElem ht)
        have Hfew := Lib.hid hfew
        have hnl : ¬ k < os.length := by omega
        clear hke hfew hlt
        rcases (show m ≤ 4194304 ∨ (¬ m ≤ 4194304 ∧ 134217728 < m) ∨ (¬ m ≤ 4194304 ∧ ¬ 134217728 < m) by omega) with h | ⟨h, h'⟩ | ⟨h, h'⟩
        all_goals
          go_wp2_with fail
          go_ret
          exact ⟨_, rfl, fun _ => Hfew.out, rfl⟩
      · have hkn : ¬ k < 9 := by omega
        clear hlt
        by_cases hkl : k < os.length
        all_goals
          go_wp2_with fail
          go_ret
          exact ⟨false, rfl, by simp, rfl⟩

end Go.Proofs.Ytbgdomnalimjnaa
