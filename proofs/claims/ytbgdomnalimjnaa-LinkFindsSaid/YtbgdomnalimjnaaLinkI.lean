/- Walk of link.Size. -/
import Derived.Test.YtbgdomnalimjnaaLinkG
set_option linter.unusedVariables false
set_option linter.unusedSimpArgs false
set_option linter.unusedSectionVars false
namespace Go.Proofs.Ytbgdomnalimjnaa
open Go.RowKit

theorem countO_take {os : List S.Obj} {k : Nat} {x : S.Obj} (hx : os[k]? = some x) : S.countO (os.take (k + 1)) = S.countO (os.take k) + S.countI x.items := by
  have hk := (List.getElem?_eq_some_iff.1 hx).1
  have he : os[k] = x := (List.getElem?_eq_some_iff.1 hx).2
  rw [List.take_succ_eq_append_getElem hk, he, countO_append]
  simp [S.countO]
theorem countI_take {xs : List S.Item} {q : Nat} {x : S.Item} (hx : xs[q]? = some x) : S.countI (xs.take (q + 1)) = S.countI (xs.take q) + (if x.kind = 2 then 0 else 1) := by
  have hk := (List.getElem?_eq_some_iff.1 hx).1
  have he : xs[q] = x := (List.getElem?_eq_some_iff.1 hx).2
  rw [List.take_succ_eq_append_getElem hk, he, countI_append]
  simp [S.countI]
theorem countO_bd (os : List S.Obj) (h : ∀ o ∈ os, o.items.length ≤ 1048576) : 0 ≤ S.countO os ∧ S.countO os ≤ os.length * 1048576 := by
  induction os with
  | nil => simp [S.countO]
  | cons x r ih =>
    have h1 := ih fun o ho => h o (List.mem_cons_of_mem _ ho)
    have h2 := countI_bd x.items
    have h3 := h x (List.mem_cons_self ..)
    simp only [S.countO, List.length_cons]
    omega

set_option maxRecDepth 100000 in
set_option maxHeartbeats 1000000 in
theorem link_Size (A : Option Addr) (c : Nat) (os : List S.Obj) (w : World) (hi : Objs w w.heap.size A os) (hl : os.length ≤ 1048576) (hit : ∀ o ∈ os, o.items.length ≤ 1048576) :
    Calls Try.prog 31 #[.slice A os.length c] w fun e w' => e = .returned (.int .i64 (S.countO os)) ∧ Below w.heap.size w w' := by
  have Hit := Lib.hid hit
  clear hit
  go_enter Try.func31, Try.ntmps31
  go_wp2_with fail
  go_loopw [3, 10] (fun n i wr => ∃ k : Nat, k ≤ os.length ∧ i = .int .i64 k ∧ n = .int .i64 (S.countO (os.take k)) ∧ Below w.heap.size w wr) (fun _ i _ => os.length - (intOf i).toNat)
  case atStart => exact ⟨0, by omega, rfl, rfl, Below.refl _ _⟩
  case round =>
    obtain ⟨k, hk, rfl, rfl, hbk⟩ := hrel
    by_cases hlt : k < os.length
    · obtain ⟨b, off, x, rfl, hb, hx, hc0, ⟨Ai, ci, hc1, hI⟩, hn, hlab⟩ := (hi.below hbk).at_ hlt
      have hzk := hbk.size
      have hbr : b < wr.heap.size := by omega
      have hcb := countO_bd (os.take k) fun o ho => Hit.out o (List.mem_of_mem_take ho)
      rw [List.length_take] at hcb
      have hil := Hit.out x (List.mem_of_getElem? hx)
      have Hct := Lib.hid (countO_take hx)
      clear hx hlab
      obtain ⟨nm, its⟩ := x
      simp only at hc0 hc1 hn hil hI
      obtain ⟨x1, x2, x3⟩ := one_allocL wr #[.string nm, .slice Ai its.length ci] 66
      go_upto_region 5 with fail
      generalize wr.alloc (.cells #[.string nm, .slice Ai its.length ci] 66) = wX at *
      have hX1 : wX.cell? ⟨wr.heap.size, 1, none⟩ = some (.slice Ai its.length ci) := by simp [World.cell?, x1]
      have hbX := hbk.trans (x2.mono (by omega))
      have hIX := hI.below (x2.mono (by omega))
      have hzX : wr.heap.size < wX.heap.size := by omega
      clear x1 x2 x3 hc0 hc1 hI
      obtain ⟨wo, hwo⟩ : ∃ wo : World, wo = wr := ⟨_, rfl⟩
      subst hwo
      generalize S.countO (os.take k) = n0 at *
      obtain ⟨c0, c1⟩ := hcb
      go_wp2_with fail
      go_loopw [3, 17] (fun n i wr => ∃ q : Nat, q ≤ its.length ∧ i = .int .i64 q ∧ n = .int .i64 (n0 + S.countI (its.take q)) ∧ Below wX.heap.size wX wr) (fun _ i _ => its.length - (intOf i).toNat)
      case atStart => exact ⟨0, by omega, rfl, by simp [S.countI], Below.refl _ _⟩
      case round =>
        obtain ⟨q, hq, rfl, rfl, hbq⟩ := hrel
        have hzq := hbq.size
        have hib := countI_bd (its.take q)
        rw [List.length_take] at hib
        obtain ⟨i0, i1⟩ := hib
        by_cases hql : q < its.length
        · obtain ⟨bi, oi, y, rfl, hbi, hy, k0, k1, k2, k3, k4, k5, k6, k7, _, _⟩ := (hIX.below (hbq.mono (by omega))).at_ hql
          have Hci := Lib.hid (countI_take hy)
          clear hy
          have g1 : bi < wr.heap.size := by omega
          generalize S.countI (its.take q) = m0 at *
          by_cases hk2 : y.kind = 2
          · have hd : (y.kind != 2) = false := by simp [hk2]
            have Hk2 := Lib.hid hk2
            clear hk2
            go_wp2_with fail
            go_roundw
            case rel => exact ⟨q + 1, by omega, by go_num, by rw [Hci.out, if_pos Hk2.out]; simp, hbq.alloc (by omega) _⟩
            case measure => simp [intOf]; omega
          · have hd : (y.kind != 2) = true := by simpa using hk2
            have Hk2 := Lib.hid hk2
            clear hk2
            go_wp2_with fail
            go_roundw
            case rel => exact ⟨q + 1, by omega, by go_num, by rw [Hci.out, if_neg Hk2.out]; go_num, hbq.alloc (by omega) _⟩
            case measure => simp [intOf]; omega
        · have hqe : q = its.length := by omega
          subst hqe
          have hfin : S.countO (os.take (k + 1)) = n0 + S.countI (its.take its.length) := by rw [Hct.out, List.take_length]
          have Hfin := Lib.hid hfin
          clear hfin
          go_wp2_with fail
          go_roundw
          case rel => exact ⟨k + 1, by omega, by go_num, by rw [Hfin.out], hbX.trans (hbq.mono (by omega))⟩
          case measure => simp [intOf]; omega
    · have hke : k = os.length := by omega
      subst hke
      rw [List.take_length]
      go_wp2_with fail
      go_ret
      exact ⟨rfl, hbk⟩

end Go.Proofs.Ytbgdomnalimjnaa
