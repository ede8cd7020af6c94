/- Walk of pennantref04.Items. -/
import Derived.Test.YtbgdomnalimjnaaLinkG
set_option linter.unusedVariables false
set_option linter.unusedSimpArgs false
set_option linter.unusedSectionVars false
namespace Go.Proofs.Ytbgdomnalimjnaa
open Go.RowKit

theorem items_step {J its : List S.Item} {nm : ByteArray} {q : Nat} {y : S.Item} (hy : its[q]? = some y) :
    (J ++ (its.take (q + 1)).map (S.ownItem nm)).flatMap itemCells = (J ++ (its.take q).map (S.ownItem nm)).flatMap itemCells ++ itemCells (S.ownItem nm y) := by
  have hk := (List.getElem?_eq_some_iff.1 hy).1
  have he : its[q] = y := (List.getElem?_eq_some_iff.1 hy).2
  rw [List.take_succ_eq_append_getElem hk, he, List.map_append, ← List.append_assoc, List.flatMap_append]
  simp
set_option maxRecDepth 100000 in
set_option maxHeartbeats 4000000 in
theorem ref4_Items (A : Option Addr) (c : Nat) (os : List S.Obj) (w : World) (hi : Objs w w.heap.size A os) (hl : os.length ≤ 1048576) (ht : (S.joined os).length ≤ 1048576)
    (hsz : ∀ (k : Nat) (o : S.Obj), os[k]? = some o → ∀ x ∈ o.items, o.name.size + x.label.size ≤ 9223372036854775807) :
    Calls Try.prog 25 #[.slice A os.length c] w (JoinPost os w) := by
  have Hsz := Lib.hid hsz
  clear hsz
  go_enter Try.func25, Try.ntmps25
  go_wp2_with fail
  go_loopw [3, 4] (fun v i wr => ∃ k : Nat, k ≤ os.length ∧ i = .int .i64 k ∧ wr.ownsRow w.heap.size 57 8 v (S.joined (os.take k)).length ((S.joined (os.take k)).flatMap itemCells) ∧ Below w.heap.size w wr) (fun _ i _ => os.length - (intOf i).toNat)
  case atStart => exact ⟨0, by omega, rfl, by simp [S.joined]; exact World.ownsRow_nil _ _ _ _, Below.refl _ _⟩
  case round =>
    obtain ⟨k, hk, rfl, ho, hbk⟩ := hrel
    by_cases hlt : k < os.length
    · obtain ⟨b, off, x, rfl, hb, hx, hc0, ⟨Ai, ci, hc1, hI⟩, hn, hlab⟩ := (hi.below hbk).at_ hlt
      have hzk := hbk.size
      have hjk := Lib.hid (joined_take hx)
      have hle := joined_le (os := os) (k + 1)
      rw [hjk.out, List.length_append] at hle
      have hil : (S.joined (os.take k)).length + x.items.length ≤ 1048576 := by
        have : (S.itemsOf x).length = x.items.length := by simp [S.itemsOf]
        omega
      have Hx := Lib.hid hx
      have Hlab := Lib.hid hlab
      clear hx hlab
      obtain ⟨nm, its⟩ := x
      simp only at hc0 hc1 hn hil hI
      have hbr : b < wr.heap.size := by omega
      obtain ⟨wo, hwo⟩ : ∃ wo : World, wo = wr := ⟨_, rfl⟩
      subst hwo
      generalize hJ : S.joined (os.take k) = J at *
      have HJ := Lib.hid hJ
      clear hJ
      go_wp2_with fail
      go_loopw [3, 5] (fun v i wr => ∃ q : Nat, q ≤ its.length ∧ i = .int .i64 q ∧ wr.ownsRow w.heap.size 57 8 v (J.length + q) ((J ++ (its.take q).map (S.ownItem nm)).flatMap itemCells) ∧ Below w.heap.size w wr) (fun _ i _ => its.length - (intOf i).toNat)
      case atStart => exact ⟨0, by omega, rfl, by simpa using ho, hbk⟩
      case round =>
        obtain ⟨q, hq, rfl, hoq, hbq⟩ := hrel
        have hzq := hbq.size
        obtain ⟨b2, off2, x2, e2, hb2, hx2, hd0, ⟨Ai2, ci2, hd1, hI2⟩, _, _⟩ := (hi.below hbq).at_ hlt
        cases e2
        rw [Hx.out] at hx2
        cases hx2
        simp only at hd0 hd1 hI2
        have g0 : b < wr.heap.size := by omega
        by_cases hql : q < its.length
        · obtain ⟨bi, oi, y, rfl, hbi, hy, k0, k1, k2, k3, k4, k5, k6, k7, y0, y1⟩ := hI2.at_ hql
          have g1 : bi < wr.heap.size := by omega
          have hmem := List.mem_of_getElem? hy
          have hls := Hlab.out _ hmem
          have hns := Hsz.out _ _ Hx.out _ hmem
          have Hy := Lib.hid hy
          clear hy hmem
          obtain ⟨kind, ⟨op, d, a, b', imm⟩, lab, wd⟩ := y
          simp only at k0 k1 k2 k3 k4 k5 k6 k7 y0 y1 hls hns
          have hnext := Lib.hid (items_step (J := J) (nm := nm) Hy.out)
          cases hown : S.ownB lab
          · have H := Lib.hid hown
            clear hown
            have hq1 := hoq.alloc (.cells #[.int .i64 kind, .int .i64 op, .int .i64 d, .int .i64 a, .int .i64 b', .int .i64 imm, .string lab, .int .u32 wd] 57)
            go_wp2_with fail
            refine (ref_own _ _ hls).mono ?_
            rintro e w' ⟨rfl, rfl⟩
            rw [H.out]
            go_wp2_with (at_builtin
                         refine wpList_push rfl (.tmp 43) (.tmp 45) _ rfl w.heap.size 57 item_info Try.underlying47 rfl (by decide) #[.int .i64 kind, .int .i64 op, .int .i64 d, .int .i64 a, .int .i64 b', .int .i64 imm, .string lab, .int .u32 wd] _ _ _ rfl hq1 rfl (by show Value.slice (some ⟨wr.heap.size + 1, 0, none⟩) 1 1 = _; simp) rfl (by simp [Value.oneCell']) (by simp only [maxLen]; omega) (by omega) (by simp; omega) ?_
                         intro v' w5 ho5 hg5 hb5 hat5)
            have hfin : w5.ownsRow w.heap.size 57 8 v' (J.length + (q + 1)) ((J ++ (its.take (q + 1)).map (S.ownItem nm)).flatMap itemCells) := by
              rw [hnext.out]
              have e : S.owned nm lab = lab := by simp [S.owned, H.out]
              simp only [S.ownItem, e]
              exact ho5
            exact ⟨⟨q + 1, by omega, by go_num, hfin, (hbq.alloc (by omega) _).trans hb5⟩, by simp [intOf]; omega⟩
          · have H := Lib.hid hown
            clear hown
            have hq1 : ((wr.alloc (.cells #[.int .i64 kind, .int .i64 op, .int .i64 d, .int .i64 a, .int .i64 b', .int .i64 imm, .string (nm ++ lab), .int .u32 wd] 57)).drew).ownsRow w.heap.size 57 8 _ (J.length + q) ((J ++ (its.take q).map (S.ownItem nm)).flatMap itemCells) := hoq.alloc _
            have hcat : ¬ 9223372036854775807 < nm.size + lab.size := by omega
            go_wp2_with fail
            refine (ref_own _ _ hls).mono ?_
            rintro e w' ⟨rfl, rfl⟩
            rw [H.out]
            go_wp2_with fail
            go_region
            go_wp2_with (at_builtin
                         refine wpList_push rfl (.tmp 43) (.tmp 45) _ rfl w.heap.size 57 item_info Try.underlying47 rfl (by decide) #[.int .i64 kind, .int .i64 op, .int .i64 d, .int .i64 a, .int .i64 b', .int .i64 imm, .string (nm ++ lab), .int .u32 wd] _ _ _ rfl hq1 rfl (by show Value.slice (some ⟨wr.heap.size + 1, 0, none⟩) 1 1 = _; simp) rfl (by simp [Value.oneCell']) (by simp only [maxLen]; omega) (by omega) (by simp; omega) ?_
                         intro v' w5 ho5 hg5 hb5 hat5)
            have hfin : w5.ownsRow w.heap.size 57 8 v' (J.length + (q + 1)) ((J ++ (its.take (q + 1)).map (S.ownItem nm)).flatMap itemCells) := by
              rw [hnext.out]
              have e : S.owned nm lab = nm ++ lab := by simp [S.owned, H.out]
              simp only [S.ownItem, e]
              exact ho5
            exact ⟨⟨q + 1, by omega, by go_num, hfin, ((hbq.alloc (by omega) _).drew).trans hb5⟩, by simp [intOf]; omega⟩
        · have hqe : q = its.length := by omega
          subst hqe
          rw [List.take_length] at hoq
          have hfin := hoq
          have e3 : J.length + its.length = (S.joined (os.take (k + 1))).length := by
            rw [hjk.out, List.length_append]
            simp [S.itemsOf]
          have e4 : J ++ its.map (S.ownItem nm) = S.joined (os.take (k + 1)) := hjk.out.symm
          rw [e3, e4] at hfin
          have Hfin := Lib.hid hfin
          clear hfin hoq e3 e4
          go_wp2_with fail
          go_roundw
          case rel => exact ⟨k + 1, by omega, by go_num, Hfin.out, hbq⟩
          case measure => simp [intOf]; omega
    · have hke : k = os.length := by omega
      subst hke
      rw [List.take_length] at ho
      go_wp2_with fail
      go_ret
      exact ⟨_, rfl, ho, hbk⟩

end Go.Proofs.Ytbgdomnalimjnaa
