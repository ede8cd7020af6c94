/- Walk of link.joined. -/
import Derived.Test.YtbgdomnalimjnaaLinkD
import Derived.Test.YtbgdomnalimjnaaExt
import Derived.Deep.DeepCutAuto
set_option linter.unusedVariables false
set_option linter.unusedSimpArgs false
set_option linter.unusedSectionVars false
namespace Go.Proofs.Ytbgdomnalimjnaa
open Go.RowKit

def JoinPost (os : List S.Obj) (w : World) (e : Ending) (w' : World) : Prop :=
  ∃ v, e = .returned v ∧ w'.ownsRow w.heap.size 57 8 v (S.joined os).length ((S.joined os).flatMap itemCells) ∧ Below w.heap.size w w'
theorem joined_take {os : List S.Obj} {k : Nat} {x : S.Obj} (hx : os[k]? = some x) : S.joined (os.take (k + 1)) = S.joined (os.take k) ++ S.itemsOf x := by
  have hk := (List.getElem?_eq_some_iff.1 hx).1
  have he : os[k] = x := by
    have := List.getElem?_eq_getElem hk
    rw [hx] at this
    exact (Option.some.inj this).symm
  rw [List.take_succ_eq_append_getElem hk, he]
  simp [S.joined]
theorem joined_le {os : List S.Obj} (k : Nat) : (S.joined (os.take k)).length ≤ (S.joined os).length := by
  have h : S.joined os = S.joined (os.take k) ++ S.joined (os.drop k) := by
    unfold S.joined
    rw [← List.flatMap_append, List.take_append_drop]
  rw [h, List.length_append]
  omega

set_option maxRecDepth 100000 in
set_option maxHeartbeats 4000000 in
theorem link_joined (A : Option Addr) (c : Nat) (os : List S.Obj) (w : World) (hi : Objs w w.heap.size A os) (hl : os.length ≤ 1048576) (ht : (S.joined os).length ≤ 1048576)
    (hsz : ∀ (k : Nat) (o : S.Obj), os[k]? = some o → ∀ x ∈ o.items, o.name.size + x.label.size ≤ 9223372036854775807) :
    Calls Try.prog 61 #[.slice A os.length c] w (JoinPost os w) := by
  have Hsz := Lib.hid hsz
  clear hsz
  go_enter Try.func61, Try.ntmps61
  go_wp2_with fail
  go_loopw [3, 10] (fun v i wr => ∃ k : Nat, k ≤ os.length ∧ i = .int .i64 k ∧ wr.ownsRow w.heap.size 57 8 v (S.joined (os.take k)).length ((S.joined (os.take k)).flatMap itemCells) ∧ Below w.heap.size w wr) (fun _ i _ => os.length - (intOf i).toNat)
  case atStart => exact ⟨0, by omega, rfl, by simp [S.joined]; exact World.ownsRow_nil _ _ _ _, Below.refl _ _⟩
  case round =>
    obtain ⟨k, hk, rfl, ho, hbk⟩ := hrel
    by_cases hlt : k < os.length
    · obtain ⟨b, off, x, rfl, hb, hx, hc0, ⟨Ai, ci, hc1, hI⟩, hn, hlab⟩ := (hi.below hbk).at_ hlt
      have hzk := hbk.size
      have hbr : b < wr.heap.size := by omega
      have hjk := Lib.hid (joined_take hx)
      have hle := joined_le (os := os) (k + 1)
      rw [hjk.out, List.length_append] at hle
      have hil : x.items.length ≤ 1048576 := by
        have : (S.itemsOf x).length = x.items.length := by simp [S.itemsOf]
        omega
      have Hx := Lib.hid hx
      have Hlab := Lib.hid hlab
      clear hx hlab
      obtain ⟨nm, its⟩ := x
      simp only at hc0 hc1 hn hil hI
      obtain ⟨x1, x2, x3⟩ := one_allocL wr #[.string nm, .slice Ai its.length ci] 66
      go_upto_region 5 with fail
      generalize wr.alloc (.cells #[.string nm, .slice Ai its.length ci] 66) = wX at *
      have hX0 : wX.cell? ⟨wr.heap.size, 0, none⟩ = some (.string nm) := by simp [World.cell?, x1]
      have hX1 : wX.cell? ⟨wr.heap.size, 1, none⟩ = some (.slice Ai its.length ci) := by simp [World.cell?, x1]
      have hzX : wr.heap.size < wX.heap.size := by omega
      have hoX := ownsRow_below ho x2
      have hbX := hbk.trans (x2.mono (by omega))
      have hIX := (hI.below (x2.mono (by omega))).more (B' := wX.heap.size) (by omega)
      clear x1 x2 x3 ho hc0 hc1 hI
      go_wp2_with fail
      refine (clone_items _ _ _ _ hIX hil).mono ?_
      rintro e w1 ⟨v1, rfl, ho1, hb1⟩
      have hz1 := hb1.size
      have hX0' : w1.cell? ⟨wr.heap.size, 0, none⟩ = some (.string nm) := (hb1.cell (p := ⟨wr.heap.size, 0, none⟩) hzX).trans hX0
      obtain ⟨A1, c1, rfl⟩ := ownsRow_form ho1
      clear hX0 hX1
      go_wp2_with fail
      obtain ⟨wo, hwo⟩ : ∃ wo : World, wo = wr := ⟨_, rfl⟩
      subst hwo
      go_loopw [19] (fun i wi => ∃ q : Nat, q ≤ its.length ∧ i = .int .i64 q ∧ wi.ownsRow wX.heap.size 57 8 (.slice A1 its.length c1) its.length ((mixed nm its q).flatMap itemCells) ∧ Below wX.heap.size wX wi) (fun i _ => its.length - (intOf i).toNat)
      case atStart => exact ⟨0, by omega, rfl, by rw [mixed_zero]; exact ho1, hb1⟩
      case round =>
        obtain ⟨q, hq, rfl, hoq, hbq⟩ := hrel
        by_cases hql : q < its.length
        · obtain ⟨g, rfl, hg1, hg2, hg3, hg4, hg5⟩ := ownsRow_at hoq (by omega)
          have hzi := hbq.size
          have hcl : wr.cell? ⟨g, q * 8 + 6, none⟩ = some (.string its[q].label) := by
            rw [hg4 _ (by omega), flat_item _ q _ (mixed_at nm its q hql) 6 (by omega)]
            rfl
          have hcn : wr.cell? ⟨wo.heap.size, 0, none⟩ = some (.string nm) := by
            have h1 := hbq.cell (p := ⟨wo.heap.size, 0, none⟩) hzX
            have h2 := hb1.cell (p := ⟨wo.heap.size, 0, none⟩) hzX
            exact h1.trans (h2.symm.trans hX0')
          have hmem : its[q] ∈ its := List.getElem_mem hql
          have hls := Hlab.out _ hmem
          have hns := Hsz.out _ _ Hx.out _ hmem
          simp only at hns
          have hfz := hg5 (q * 8 + 6)
          clear hg4 hg5
          have hE := ext_cells wr
          have g1 : wo.heap.size < wr.heap.size := by omega
          go_upto_region 9 with fail
          refine wp_region_ext_plan 12 1 [0, 1, 2, 3, 4, 5, 6, 7, 8, 9, 10, 11] (by kernel_rfl) (by kernel_rfl) (fun _ _ _ _ _ h => h) ?_
          repeat (first
            | (refine plan_cons rfl ?_; go_big_quiet_step ((go_at_call 89; exact ext_of_same (link_owned _ _ _ hls hns)))))
          refine wpQuiet_nil ?_
          rintro w2 ⟨⟨w3, hb2⟩, rfl⟩
          simp only [List.drop_succ_cons, List.drop_zero]
          have hcl2 : w2.cell? ⟨g, q * 8 + 6, none⟩ = some (.string its[q].label) := (hb2.cell (p := ⟨g, q * 8 + 6, none⟩) hg2).trans hcl
          have hfz2 : w2.frozen? ⟨g, q * 8 + 6, none⟩ = false := (hb2.frozen (p := ⟨g, q * 8 + 6, none⟩) hg2).trans hfz
          have hoq2 := ownsRow_below hoq hb2
          have hst := hoq2.stored (q * 8 + 6) (.string (S.owned nm its[q].label))
          rw [mixed_store nm its q hql] at hst
          have Hst := Lib.hid hst
          have hbq2 := hbq.trans (hb2.mono hzi)
          clear hE hst
          go_wp2_with fail
          go_roundw
          case rel => exact ⟨q + 1, by omega, by go_num, Hst.out.1, hbq2.setCell (p := ⟨g, q * 8 + 6, none⟩) hg1 _⟩
          case measure => simp [intOf]; omega
        · have hqe : q = its.length := by omega
          subst hqe
          rw [mixed_all] at hoq
          have hzi := hbq.size
          have hoX2 := ownsRow_below hoX hbq
          have hbw := hbX.trans (hbq.mono (by omega))
          have hww : ∀ x ∈ its.map (S.ownItem nm), 0 ≤ x.word ∧ x.word ≤ 4294967295 := by
            intro x hx
            obtain ⟨y, hy, rfl⟩ := List.mem_map.1 hx
            exact hIX.words y hy
          have hrd := (Items.of_own hoq hww).reads
          have hA1 : A1 = none → its.length = 0 := fun h => ownsRow_none hoq h
          have hfl : ((its.map (S.ownItem nm)).flatMap itemCells).length = its.length * 8 := by rw [flat8_len, List.length_map]
          have hlj : (S.joined (os.take k)).length + its.length ≤ 1048576 := by
            have : (S.itemsOf ⟨nm, its⟩).length = its.length := by simp [S.itemsOf]
            omega
          have hone := cells_one (its.map (S.ownItem nm))
          have Hoq := Lib.hid hoq
          clear hoq hoX hww
          go_wp2_with (at_builtin
                       refine wpList_appendsN rfl (.tmp 35) (.tmp 36) _ rfl w.heap.size 57 item_info Try.underlying47 rfl (by decide) _ _ _ rfl hoX2 wr.heap.size A1 its.length c1 _ rfl hfl hA1 hrd hone (by simp only [maxLen]; omega) (by omega) (by omega) ?_
                       intro v' w3 ho3 hg3 hb3 hat3)
          have hfin : w3.ownsRow w.heap.size 57 8 v' (S.joined (os.take (k + 1))).length ((S.joined (os.take (k + 1))).flatMap itemCells) := by
            rw [hjk.out, List.length_append, List.flatMap_append]
            have e : (S.itemsOf ⟨nm, its⟩).length = its.length := by simp [S.itemsOf]
            rw [e]
            exact ho3
          exact ⟨⟨k + 1, by omega, by go_num, hfin, hbw.trans hb3⟩, by simp [intOf]; omega⟩
    · have hke : k = os.length := by omega
      subst hke
      rw [List.take_length] at ho
      go_wp2_with fail
      go_ret
      exact ⟨_, rfl, ho, hbk⟩

end Go.Proofs.Ytbgdomnalimjnaa
