/- pennantref20.Check. -/
import Derived.Test.YtkdalaiponchbaaDoorR20A
import Derived.BigQuiet
set_option linter.unusedVariables false
set_option linter.unusedSimpArgs false
set_option linter.unusedSectionVars false
namespace Go.Proofs.YtkdalaiponchbaaDoor
open Go.RowKit

theorem int_neT {a b : Int} (h : a ≠ b) : (a != b) = true := by simp [h]

set_option maxRecDepth 100000 in
set_option maxHeartbeats 1000000 in
theorem r_Check_bad (f : S.VFunc) (A : Option Addr) (c : Nat) (n : Nat) (w : World) (h : ¬ vhead f ∨ n = 0) :
    Calls Tryd.prog 45 #[.agg (vfCells f (.slice A n c))] w fun e w' => e = .returned (.int .i64 2) ∧ Below w.heap.size w w' := by
  obtain ⟨fn, regs, slots, need, params, rest, insts⟩ := f
  unfold vhead at h
  simp only at h
  unfold vfCells
  have hc : regs < 32 ∨ (32 ≤ regs ∧ need < 0) ∨ (32 ≤ regs ∧ 0 ≤ need ∧ slots < 0) ∨ (32 ≤ regs ∧ 0 ≤ need ∧ 0 ≤ slots ∧ params < 0) ∨ (32 ≤ regs ∧ 0 ≤ need ∧ 0 ≤ slots ∧ 0 ≤ params ∧ n = 0) := by omega
  clear h
  rcases hc with h1 | ⟨h1, h2⟩ | ⟨h1, h2, h3⟩ | ⟨h1, h2, h3, h4⟩ | ⟨h1, h2, h3, h4, rfl⟩
  all_goals
    go_enter Tryd.func45, Tryd.ntmps45
    go_wp2_with fail
    go_ret
    exact ⟨rfl, (Below.refl _ _).alloc (Nat.le_refl _) _⟩

set_option maxRecDepth 100000 in
set_option maxHeartbeats 4000000 in
theorem r_Check (f : S.VFunc) (A : Option Addr) (c : Nat) (xs : List VL) (hfi : f.insts = xs.map VL.i) (w : World) (hv : VLs w w.heap.size A xs) (hok : ∀ x ∈ xs, VOk w w.heap.size x) (hlen : xs.length ≤ 1000000) :
    Calls Tryd.prog 45 #[.agg (vfCells f (.slice A xs.length c))] w fun e w' => e = .returned (.int .i64 (S.vchk f.regs f.need f.slots f.params f.insts)) ∧ Below w.heap.size w w' := by
  by_cases hh : ¬ vhead f ∨ xs.length = 0
  · rw [vchk_one f (by
      rcases hh with h | h
      · exact Or.inl h
      · refine Or.inr (Or.inr ?_)
        rw [hfi, List.eq_nil_of_length_eq_zero h]; rfl)]
    exact r_Check_bad f A c xs.length w hh
  have hh1 : vhead f := Classical.byContradiction fun h => hh (Or.inl h)
  have hh2 : xs.length ≠ 0 := fun h => hh (Or.inr h)
  have Hall := Lib.hid (vchk_all f hh1)
  have Hone := Lib.hid (vchk_one f)
  have Hfi := Lib.hid hfi
  obtain ⟨fn, regs, slots, need, params, rest, insts⟩ := f
  unfold vhead at hh1
  simp only at hh1 hfi
  obtain ⟨h1, h2, h3, h4⟩ := hh1
  unfold vfCells
  have Hin := Lib.hid (fun (x : VL) (hx : x ∈ xs) (W : World) (hb : Below w.heap.size w W) => r_inst fn regs slots need params rest A c xs x W (hv.below hb |>.more (Below.size hb)) hlen (((hok x hx).below hb).more (Below.size hb)))
  rw [← hfi] at Hin
  obtain ⟨N, hN⟩ : ∃ N : Nat, N = xs.length := ⟨_, rfl⟩
  rw [← hN] at hlen hh2 Hin ⊢
  have HN := Lib.hid hN
  have HNl := Lib.hid (show insts.length = N by rw [hfi, List.length_map, ← hN])
  have Hins := Lib.hid (show ∀ (k : Nat) (x : VL), xs[k]? = some x → insts[k]? = some x.i from fun k x hx => by rw [hfi, List.getElem?_map, hx]; rfl)
  have Hv := Lib.hid hv
  clear hN hh hfi hv hok
  have n1 : ¬ regs < 32 := by omega
  have n2 : ¬ need < 0 := by omega
  have n3 : ¬ slots < 0 := by omega
  have n4 : ¬ params < 0 := by omega
  have n5 : ((N : Int) == 0) = false := int_bne (by omega)
  have HbW := Lib.hid (show Below w.heap.size w (w.alloc (.cells #[.int .i64 fn, .int .i64 regs, .int .i64 slots, .int .i64 need, .int .i64 params, .bool rest, .slice A N c] 24)) from (Below.refl _ _).alloc (Nat.le_refl _) _)
  have hz0 : (w.alloc (.cells #[.int .i64 fn, .int .i64 regs, .int .i64 slots, .int .i64 need, .int .i64 params, .bool rest, .slice A N c] 24)).heap.size = w.heap.size + 1 := by simp
  have hcr := heap_alloc_new w (.cells #[.int .i64 fn, .int .i64 regs, .int .i64 slots, .int .i64 need, .int .i64 params, .bool rest, .slice A N c] 24)
  go_enter Tryd.func45, Tryd.ntmps45
  go_upto_region 1 with fail
  generalize w.alloc (.cells #[.int .i64 fn, .int .i64 regs, .int .i64 slots, .int .i64 need, .int .i64 params, .bool rest, .slice A N c] 24) = W0 at *
  have Hc := Lib.hid (fun (w1 : World) (hb : Below W0.heap.size W0 w1) => (show w1.cell? ⟨w.heap.size, 0, none⟩ = some (.int .i64 fn) ∧ w1.cell? ⟨w.heap.size, 1, none⟩ = some (.int .i64 regs) ∧ w1.cell? ⟨w.heap.size, 2, none⟩ = some (.int .i64 slots) ∧ w1.cell? ⟨w.heap.size, 3, none⟩ = some (.int .i64 need) ∧ w1.cell? ⟨w.heap.size, 4, none⟩ = some (.int .i64 params) ∧ w1.cell? ⟨w.heap.size, 5, none⟩ = some (.bool rest) ∧ w1.cell? ⟨w.heap.size, 6, none⟩ = some (.slice A N c) from by
    have e1 := (hb.block w.heap.size (by omega)).trans hcr
    refine ⟨?_, ?_, ?_, ?_, ?_, ?_, ?_⟩
    all_goals (rw [Lib.cell_of_heap e1]; rfl)))
  obtain ⟨f0, f1, f2, f3, f4, f5, f6⟩ := Hc.out W0 (Below.refl _ _)
  have Hz0 := Lib.hid hz0
  clear hcr hz0
  go_wp2_with fail
  clear f0 f1 f2 f3 f4 f5 f6 n1 n2 n3 n4 n5
  go_loopw [3] (fun v3 wl => ∃ k : Nat, k ≤ N ∧ v3 = .int .i64 k ∧ Hid (Below W0.heap.size W0 wl) ∧ Hid (∀ i ∈ insts.take k, S.vinst regs insts i = true)) (fun v3 _ => N - (intOf v3).toNat)
  case atStart => exact ⟨0, by omega, rfl, Lib.hid (Below.refl _ _), Lib.hid (by simp)⟩
  case round =>
    obtain ⟨k, hk, rfl, HR, HE⟩ := hrel
    have hzr : w.heap.size < wr.heap.size := by have := HR.out.size; have := Hz0.out; omega
    have hwr := HbW.out.trans (HR.out.mono HbW.out.size)
    by_cases hlt : k < N
    · have hkx : k < xs.length := by rw [← HN.out]; exact hlt
      obtain ⟨b, off, x, hAe, hbB, hge, hVA⟩ := ((Hv.out.below hwr)).at_ hkx
      subst hAe
      obtain ⟨f0, f1, f2, f3, f4, f5, f6⟩ := Hc.out wr HR.out
      have Hge := Lib.hid (Hins.out k x hge)
      have Hil := Lib.hid ((mv_split insts k x.i (Hins.out k x hge)).2)
      obtain ⟨q0, q1, q2, q3, q4, q5, q6, q7⟩ := hVA
      have hbr : b < wr.heap.size := by omega
      obtain ⟨vi, hvi⟩ : ∃ vi, vi = S.vinst regs insts x.i := ⟨_, rfl⟩
      have hin := fun y : Ext wr => Hin.out x (List.mem_of_getElem? hge) y.val (hwr.trans (y.property.mono hwr.size))
      unfold viCells at hin
      rw [← hvi] at hin
      have Hinx := Lib.hid hin
      have Hvi := Lib.hid hvi
      clear hin hvi hge hkx
      go_upto_region 6 with fail
      refine wp_region_ext (by kernel_rfl) (by kernel_rfl) ?_
      have hE := ext_cells wr
      repeat (first
        | go_big_quiet_step ((go_at_call 69; exact ext_of (Hinx.out _))))
      refine wpQuiet_nil ?_
      rintro w5 ⟨⟨_, hb5⟩, rfl⟩
      have Z5 := Lib.hid (HR.out.trans (hb5.mono HR.out.size))
      clear hE hb5 f0 f1 f2 f3 f4 f5 f6 q0 q1 q2 q3 q4 q5 q6 q7
      cases hq : vi with
      | false =>
        subst hq
        go_wp2_with fail
        go_ret
        exact ⟨by rw [Hone.out (Or.inr (Or.inl ⟨x.i, List.mem_of_getElem? Hge.out, Hvi.out.symm⟩))]; rfl, HbW.out.trans (Z5.out.mono HbW.out.size)⟩
      | true =>
        subst hq
        go_wp2_with fail
        go_roundw
        case rel =>
          refine ⟨k + 1, by omega, by go_num, Z5, Lib.hid (fun y hy => ?_)⟩
          rw [Hil.out] at hy
          rcases List.mem_append.1 hy with hy | hy
          · exact HE.out y hy
          · have : y = x.i := by simpa using hy
            rw [this]; exact Hvi.out.symm
        case measure => simp [intOf]; omega
    · have hkN : N = k := by omega
      subst hkN
      obtain ⟨f0, f1, f2, f3, f4, f5, f6⟩ := Hc.out wr HR.out
      have hlx : xs.length - 1 < xs.length := by rw [← HN.out]; omega
      obtain ⟨b, off, x, hAe, hbB, hge, hVA⟩ := ((Hv.out.below hwr)).at_ hlx
      rw [← HN.out] at hVA
      subst hAe
      have Hvl := Lib.hid (vlast_eq xs x hge)
      have Hwr := Lib.hid hwr
      obtain ⟨q0, q1, q2, q3, q4, q5, q6, q7⟩ := hVA
      have hw1 : IntKind.i64.wrap ((N : Int) - 1) = ((N - 1 : Nat) : Int) := by rw [IntWalk.i64_in _ (by omega)]; omega
      have hb1 : (0 : Int) ≤ ((N - 1 : Nat) : Int) := by omega
      have hb2 : ((N - 1 : Nat) : Int) < (N : Int) := by omega
      have hit : insts.take N = insts := by rw [← HNl.out, List.take_length]
      rw [hit] at HE
      clear hge q1 q2 q3 q4 q5 q6 q7 hit hwr
      have ho : x.i.op = 66 ∨ x.i.op = 68 ∨ x.i.op = 72 ∨ (x.i.op ≠ 66 ∧ x.i.op ≠ 68 ∧ x.i.op ≠ 72) := by omega
      rcases ho with o | o | o | ⟨o, o', o''⟩
      · have Ho := Lib.hid o
        rw [o] at q0
        clear o
        go_wp2_with fail
        go_ret
        exact ⟨by rw [Hall.out HE.out (by rw [Hfi.out, Hvl.out, decide_eq_true (by have := Ho.out; omega)])]; rfl, Hwr.out⟩
      · have Ho := Lib.hid o
        rw [o] at q0
        clear o
        go_wp2_with fail
        go_ret
        exact ⟨by rw [Hall.out HE.out (by rw [Hfi.out, Hvl.out, decide_eq_true (by have := Ho.out; omega)])]; rfl, Hwr.out⟩
      · have Ho := Lib.hid o
        rw [o] at q0
        clear o
        go_wp2_with fail
        go_ret
        exact ⟨by rw [Hall.out HE.out (by rw [Hfi.out, Hvl.out, decide_eq_true (by have := Ho.out; omega)])]; rfl, Hwr.out⟩
      · have Ho := Lib.hid (And.intro o (And.intro o' o''))
        have m1 := int_neT o
        have m2 := int_neT o'
        have m3 := int_neT o''
        clear o o' o''
        go_wp2_with fail
        go_ret
        exact ⟨by rw [Hone.out (Or.inr (Or.inr (by rw [Hfi.out, Hvl.out, decide_eq_false (by have := Ho.out; omega)])))]; rfl, Hwr.out⟩


theorem ints_getD {l : List Int} {k : Nat} {x : Int} (h : l.getD k 0 = x) (hk : k < l.length) : l[k]? = some x := by
  rw [← h]; simp [hk]
def okTo (slots : Int) (l : List Int) (k : Nat) : Prop := ∀ j, j < k → S.slotOk slots (l.getD j 0) = true ∧ (0 < j → l.getD (j - 1) 0 < l.getD j 0)
theorem ok_all {slots : Int} {l : List Int} (h : okTo slots l l.length) : (l.all (S.slotOk slots) && S.rising l) = true := by
  rw [Bool.and_eq_true]
  refine ⟨List.all_eq_true.2 fun s hs => ?_, (rising_at l).2 fun j hj => ?_⟩
  · obtain ⟨i, hi, rfl⟩ := List.getElem_of_mem hs
    have := (h i hi).1
    simpa [hi] using this
  · exact (h (j + 1) hj).2 (by omega)
theorem ok_slot {slots : Int} {l : List Int} {k : Nat} (hk : k < l.length) (h : S.slotOk slots (l.getD k 0) = false) : (l.all (S.slotOk slots) && S.rising l) = false := by
  rw [Bool.and_eq_false_iff]
  refine Or.inl ?_
  rw [List.all_eq_false]
  exact ⟨l[k], List.getElem_mem hk, by simpa [hk] using h⟩
theorem ok_rise {slots : Int} {l : List Int} {k : Nat} (hk : k < l.length) (h0 : 0 < k) (h : l.getD k 0 ≤ l.getD (k - 1) 0) : (l.all (S.slotOk slots) && S.rising l) = false := by
  rw [Bool.and_eq_false_iff]
  refine Or.inr ?_
  rw [← Bool.not_eq_true]
  intro hr
  have := (rising_at l).1 hr (k - 1) (by omega)
  rw [show k - 1 + 1 = k by omega] at this
  omega

set_option maxRecDepth 100000 in
set_option maxHeartbeats 2000000 in
theorem r_slots (fn regs slots need params : Int) (rest : Bool) (I : Value) (A : Option Addr) (c : Nat) (l : List Int) (w : World) (hA : Ints w w.heap.size A l) (hlen : l.length ≤ 1000000) :
    Calls Tryd.prog 44 #[.agg #[.int .i64 fn, .int .i64 regs, .int .i64 slots, .int .i64 need, .int .i64 params, .bool rest, I], .slice A l.length c] w fun e w' => e = .returned (.bool (l.all (S.slotOk slots) && S.rising l)) ∧ Below w.heap.size w w' := by
  obtain ⟨N, hN⟩ : ∃ N : Nat, N = l.length := ⟨_, rfl⟩
  rw [← hN] at hlen ⊢
  have HN := Lib.hid hN
  have HA := Lib.hid hA
  obtain ⟨R, hR⟩ : ∃ R, R = (l.all (S.slotOk slots) && S.rising l) := ⟨_, rfl⟩
  rw [← hR]
  have HR := Lib.hid hR
  clear hN hA hR
  have HbW := Lib.hid (show Below w.heap.size w (w.alloc (.cells #[.int .i64 fn, .int .i64 regs, .int .i64 slots, .int .i64 need, .int .i64 params, .bool rest, I] 24)) from (Below.refl _ _).alloc (Nat.le_refl _) _)
  have hz0 : (w.alloc (.cells #[.int .i64 fn, .int .i64 regs, .int .i64 slots, .int .i64 need, .int .i64 params, .bool rest, I] 24)).heap.size = w.heap.size + 1 := by simp
  have hcr := heap_alloc_new w (.cells #[.int .i64 fn, .int .i64 regs, .int .i64 slots, .int .i64 need, .int .i64 params, .bool rest, I] 24)
  go_enter Tryd.func44, Tryd.ntmps44
  go_upto_region 1 with fail
  generalize w.alloc (.cells #[.int .i64 fn, .int .i64 regs, .int .i64 slots, .int .i64 need, .int .i64 params, .bool rest, I] 24) = W0 at *
  have Hc := Lib.hid (fun (w1 : World) (hb : Below W0.heap.size W0 w1) => (show w1.cell? ⟨w.heap.size, 2, none⟩ = some (.int .i64 slots) from by
    have e1 := (hb.block w.heap.size (by omega)).trans hcr
    rw [Lib.cell_of_heap e1]; rfl))
  clear hcr hz0
  go_wp2_with fail
  go_loopw [5] (fun v5 wl => ∃ k : Nat, k ≤ N ∧ v5 = .int .i64 k ∧ Hid (Below W0.heap.size W0 wl) ∧ Hid (okTo slots l k)) (fun v5 _ => N - (intOf v5).toNat)
  case atStart => exact ⟨0, by omega, rfl, Lib.hid (Below.refl _ _), Lib.hid (fun j hj => by omega)⟩
  case round =>
    obtain ⟨k, hk, rfl, Hw, HK⟩ := hrel
    have f2 := Hc.out wr Hw.out
    have hwr := HbW.out.trans (Hw.out.mono HbW.out.size)
    by_cases hlt : k < N
    · have hkl : k < l.length := by rw [← HN.out]; exact hlt
      obtain ⟨b, off, hAe, hbB, hcx⟩ := (HA.out.below hwr).at_ hkl
      subst hAe
      have hcy := fun (h0 : 0 < k) => (HA.out.below hwr).at_ (k := k - 1) (by omega)
      obtain ⟨x, hx⟩ : ∃ x, x = l.getD k 0 := ⟨_, rfl⟩
      rw [← hx] at hcx
      have Hx := Lib.hid hx
      have Hkl := Lib.hid hkl
      have Hwr := Lib.hid hwr
      have Hcy := Lib.hid hcy
      have hk0 : (0 : Int) ≤ (k : Int) := by omega
      have hkN : (k : Int) < (N : Int) := by omega
      have hwk : IntKind.i64.wrap ((k : Int) + 1) = ((k + 1 : Nat) : Int) := by rw [IntWalk.i64_in _ (by omega)]; omega
      have Hso := Lib.hid (show S.slotOk slots x = decide (0 ≤ x ∧ x < slots) from rfl)
      clear hx hkl hwr hcy
      have ho : x < 0 ∨ (0 ≤ x ∧ slots ≤ x) ∨ (0 ≤ x ∧ x < slots) := by omega
      go_upto_region 4 with fail
      rcases ho with h1 | ⟨h1, h2⟩ | ⟨h1, h2⟩
      · have hs := Lib.hid (show S.slotOk slots (l.getD k 0) = false by rw [← Hx.out, Hso.out, decide_eq_false (by omega)])
        have d1 : decide (x < 0) = true := decide_eq_true h1
        clear h1 Hso hwk
        go_quiet (fail)
        go_wp2_with fail
        go_ret
        exact ⟨by rw [HR.out, ok_slot Hkl.out hs.out]; rfl, by first | exact Hwr.out | exact below_drewN Hwr.out _ | exact Hwr.out.drew⟩
      · have hs := Lib.hid (show S.slotOk slots (l.getD k 0) = false by rw [← Hx.out, Hso.out, decide_eq_false (by omega)])
        have d1 : decide (x < 0) = false := decide_eq_false (by omega)
        have d2 : decide (slots ≤ x) = true := decide_eq_true h2
        clear h1 h2 Hso hwk
        go_quiet (fail)
        go_wp2_with fail
        go_ret
        exact ⟨by rw [HR.out, ok_slot Hkl.out hs.out]; rfl, by first | exact Hwr.out | exact below_drewN Hwr.out _ | exact Hwr.out.drew⟩
      · have hs := Lib.hid (show S.slotOk slots (l.getD k 0) = true by rw [← Hx.out, Hso.out, decide_eq_true (by omega)])
        have d1 : decide (x < 0) = false := decide_eq_false (by omega)
        have d2 : decide (slots ≤ x) = false := decide_eq_false (by omega)
        clear h1 h2 Hso
        by_cases h0 : 0 < k
        · obtain ⟨b2, off2, e2, hb2, hcy⟩ := Hcy.out h0
          cases e2
          obtain ⟨y, hy⟩ : ∃ y, y = l.getD (k - 1) 0 := ⟨_, rfl⟩
          rw [← hy] at hcy
          have Hy := Lib.hid hy
          have d3 : decide ((0 : Int) < (k : Int)) = true := decide_eq_true (by omega)
          have hw1 : IntKind.i64.wrap ((k : Int) - 1) = ((k - 1 : Nat) : Int) := by rw [IntWalk.i64_in _ (by omega)]; omega
          have hk1 : (0 : Int) ≤ ((k - 1 : Nat) : Int) := by omega
          have hk2 : ((k - 1 : Nat) : Int) < (N : Int) := by omega
          clear hy Hcy
          by_cases hxy : x ≤ y
          · have d4 : decide (x ≤ y) = true := decide_eq_true hxy
            have Hxy := Lib.hid hxy
            clear hxy
            go_quiet (fail)
            go_wp2_with fail
            go_ret
            exact ⟨by rw [HR.out, ok_rise Hkl.out (by omega) (by rw [← Hx.out, ← Hy.out]; exact Hxy.out)]; rfl, by first | exact Hwr.out | exact below_drewN Hwr.out _ | exact Hwr.out.drew⟩
          · have d4 : decide (x ≤ y) = false := decide_eq_false hxy
            have Hxy := Lib.hid hxy
            clear hxy
            go_quiet (fail)
            go_wp2_with fail
            go_roundw
            case rel =>
              refine ⟨k + 1, by omega, by first | rfl | go_num, Lib.hid (by first | exact Hw.out | exact below_drewN Hw.out _ | exact Hw.out.drew), Lib.hid (fun j hj => ?_)⟩
              by_cases hjk : j = k
              · subst hjk
                exact ⟨hs.out, fun _ => by rw [← Hx.out, ← Hy.out]; have := Hxy.out; omega⟩
              · exact HK.out j (by omega)
            case measure => simp [intOf]; omega
        · have d3 : decide ((0 : Int) < (k : Int)) = false := decide_eq_false (by omega)
          clear Hcy
          go_quiet (fail)
          go_wp2_with fail
          go_roundw
          case rel =>
            refine ⟨k + 1, by omega, by first | rfl | go_num, Lib.hid (by first | exact Hw.out | exact below_drewN Hw.out _ | exact Hw.out.drew), Lib.hid (fun j hj => ?_)⟩
            by_cases hjk : j = k
            · subst hjk
              exact ⟨hs.out, fun h => absurd h h0⟩
            · exact HK.out j (by omega)
          case measure => simp [intOf]; omega
    · have hkN : N = k := by omega
      subst hkN
      have Hok := Lib.hid (ok_all (slots := slots) (l := l) (by rw [← HN.out]; exact HK.out))
      have Hwr := Lib.hid hwr
      clear hwr
      go_wp2_with fail
      go_ret
      exact ⟨by rw [HR.out, Hok.out]; rfl, Hwr.out⟩


end Go.Proofs.YtkdalaiponchbaaDoor
