/- pennantref20: reg, Goes, stands, inst. -/
import Derived.Test.YtkdalaiponchbaaDoorEIck
set_option linter.unusedVariables false
set_option linter.unusedSimpArgs false
set_option linter.unusedSectionVars false
namespace Go.Proofs.YtkdalaiponchbaaDoor
open Go.RowKit

theorem or_dec (x : Bool) {p : Prop} [Decidable p] (h : p) : (x || decide p) = true := by rw [decide_eq_true h, Bool.or_true]
theorem two_cellsR (w : World) (a b : Obj) : ((w.alloc a).alloc b).heap[w.heap.size]? = some a ∧ ((w.alloc a).alloc b).heap[w.heap.size + 1]? = some b := by
  have h0 : (w.alloc a).heap.size = w.heap.size + 1 := by simp
  have b1 := (Below.refl (w.alloc a).heap.size (w.alloc a)).alloc (Nat.le_refl _) b
  refine ⟨?_, ?_⟩
  · rw [b1.block _ (by omega)]
    exact heap_alloc_new w a
  · rw [← h0]
    exact heap_alloc_new _ b

set_option maxRecDepth 100000 in
set_option maxHeartbeats 1000000 in
theorem r_reg (fn regs slots need params : Int) (rest : Bool) (I : Value) (r : Int) (w : World) :
    Calls Tryd.prog 89 #[.agg #[.int .i64 fn, .int .i64 regs, .int .i64 slots, .int .i64 need, .int .i64 params, .bool rest, I], .int .i64 r] w fun e w' => e = .returned (.bool (S.regOf regs r)) ∧ Below w.heap.size w w' := by
  have Hr := Lib.hid (show S.regOf regs r = decide (0 ≤ r ∧ r < regs) from rfl)
  have ho : r < 0 ∨ (0 ≤ r ∧ r < regs) ∨ (0 ≤ r ∧ regs ≤ r) := by omega
  rcases ho with h | ⟨h, h'⟩ | ⟨h, h'⟩
  all_goals
    go_enter Tryd.func89, Tryd.ntmps89
    go_wp2_with fail
    go_ret
    exact ⟨ret_bool (by rw [Hr.out, Bool.eq_iff_iff]; simp <;> omega), (Below.refl _ _).alloc (Nat.le_refl _) _⟩

set_option maxRecDepth 100000 in
set_option maxHeartbeats 1000000 in
theorem r_Goes (op d a b imm label : Int) (U M : Value) (w : World) :
    Calls Tryd.prog 87 #[.agg #[.int .i64 op, .int .i64 d, .int .i64 a, .int .i64 b, .int .i64 imm, .int .i64 label, U, M]] w fun e w' => e = .returned (.bool (decide ((26 ≤ op ∧ op ≤ 31) ∨ op = 66))) ∧ Below w.heap.size w w' := by
  have ho : op < 26 ∨ (26 ≤ op ∧ op ≤ 31) ∨ (31 < op ∧ op ≠ 66) ∨ op = 66 := by omega
  rcases ho with h | ⟨h, h'⟩ | ⟨h, h'⟩ | rfl
  all_goals
    go_enter Tryd.func87, Tryd.ntmps87
    go_wp2_with fail
    go_ret
    exact ⟨ret_bool (by rw [Bool.eq_iff_iff]; simp <;> omega), (Below.refl _ _).alloc (Nat.le_refl _) _⟩

set_option maxRecDepth 100000 in
set_option maxHeartbeats 1000000 in
theorem r_stands (fn regs slots need params : Int) (rest : Bool) (A : Option Addr) (c : Nat) (xs : List VL) (lab : Int) (w : World) (hv : VLs w w.heap.size A xs) (hlen : xs.length ≤ 1000000) :
    Calls Tryd.prog 88 #[.agg #[.int .i64 fn, .int .i64 regs, .int .i64 slots, .int .i64 need, .int .i64 params, .bool rest, .slice A xs.length c], .int .i64 lab] w fun e w' => e = .returned (.int .i64 (S.vstands (xs.map VL.i) lab)) ∧ Below w.heap.size w w' := by
  obtain ⟨N, hN⟩ : ∃ N : Nat, N = xs.length := ⟨_, rfl⟩
  rw [← hN] at hlen ⊢
  have HN := Lib.hid hN
  have Hv := Lib.hid hv
  clear hN hv
  have hb1 : Below w.heap.size w (w.alloc (.cells #[.int .i64 fn, .int .i64 regs, .int .i64 slots, .int .i64 need, .int .i64 params, .bool rest, .slice A N c] 24)) := (Below.refl _ _).alloc (Nat.le_refl _) _
  have hc6 : (w.alloc (.cells #[.int .i64 fn, .int .i64 regs, .int .i64 slots, .int .i64 need, .int .i64 params, .bool rest, .slice A N c] 24)).cell? ⟨w.heap.size, 6, none⟩ = some (.slice A N c) := (cell_row_new w #[.int .i64 fn, .int .i64 regs, .int .i64 slots, .int .i64 need, .int .i64 params, .bool rest, .slice A N c] 24 6).trans rfl
  go_enter Tryd.func88, Tryd.ntmps88
  go_upto_region 1 with fail
  generalize w.alloc (.cells #[.int .i64 fn, .int .i64 regs, .int .i64 slots, .int .i64 need, .int .i64 params, .bool rest, .slice A N c] 24) = w1 at *
  go_wp2_with fail
  go_loopw [5, 6] (fun v5 v6 wl => w1 = wl ∧ ∃ k : Nat, k ≤ N ∧ v6 = .int .i64 k ∧ v5 = .int .i64 (S.vstands ((xs.take k).map VL.i) lab)) (fun _ v6 _ => N - (intOf v6).toNat)
  case atStart => exact ⟨rfl, 0, by omega, rfl, rfl⟩
  case round =>
    obtain ⟨rfl, k, hk, rfl, rfl⟩ := hrel
    by_cases hlt : k < N
    · have hkx : k < xs.length := by rw [← HN.out]; exact hlt
      obtain ⟨b, off, x, hAe, hbB, hge, hVA⟩ := ((Hv.out.below hb1)).at_ hkx
      subst hAe
      have Hil := Lib.hid ((mv_split xs k x hge).2)
      obtain ⟨q0, q1, q2, q3, q4, q5, q6, q7⟩ := hVA
      have hvb := vst_nn ((xs.take k).map VL.i) lab
      rw [List.length_map, List.length_take] at hvb
      have Ha := Lib.hid (vst_add ((xs.take k).map VL.i) x.i lab)
      obtain ⟨v, hv⟩ : ∃ v, v = S.vstands ((xs.take k).map VL.i) lab := ⟨_, rfl⟩
      rw [← hv] at Ha hvb ⊢
      have hv0 : 0 ≤ v ∧ v ≤ 1000000 := by omega
      obtain ⟨hv0, hv1⟩ := hv0
      clear hge hv hvb
      by_cases o1 : x.i.op = 65
      · have Ho1 := Lib.hid o1
        rw [o1] at q0
        by_cases o2 : x.i.label = lab
        · have Ho2 := Lib.hid o2
          rw [o2] at q5
          clear o1 o2
          go_wp2_with fail
          go_roundw
          case rel =>
            refine ⟨trivial, k + 1, by omega, by go_num, ?_⟩
            rw [Hil.out, List.map_append, List.map_singleton, Ha.out, if_pos ⟨Ho1.out, Ho2.out⟩]
          case measure => simp [intOf]; omega
        · have Ho2 := Lib.hid o2
          have n2 := int_bne o2
          clear o1
          go_wp2_with fail
          go_roundw
          case rel =>
            refine ⟨trivial, k + 1, by omega, by go_num, ?_⟩
            rw [Hil.out, List.map_append, List.map_singleton, Ha.out, if_neg (fun h => Ho2.out h.2), Int.add_zero]
          case measure => simp [intOf]; omega
      · have Ho1 := Lib.hid o1
        have n1 := int_bne o1
        go_wp2_with fail
        go_roundw
        case rel =>
          refine ⟨trivial, k + 1, by omega, by go_num, ?_⟩
          rw [Hil.out, List.map_append, List.map_singleton, Ha.out, if_neg (fun h => Ho1.out h.1), Int.add_zero]
        case measure => simp [intOf]; omega
    · have hkN : k = N := by omega
      subst hkN
      have ht := Lib.hid (show xs.take k = xs by rw [HN.out, List.take_length])
      go_wp2_with fail
      go_ret
      exact ⟨by rw [ht.out]; rfl, hb1⟩


set_option maxRecDepth 100000 in
set_option maxHeartbeats 4000000 in
theorem r_inst (fn regs slots need params : Int) (rest : Bool) (A : Option Addr) (c : Nat) (xs : List VL) (x : VL) (w : World) (hv : VLs w w.heap.size A xs) (hlen : xs.length ≤ 1000000) (hx : VOk w w.heap.size x) :
    Calls Tryd.prog 69 #[.agg #[.int .i64 fn, .int .i64 regs, .int .i64 slots, .int .i64 need, .int .i64 params, .bool rest, .slice A xs.length c], .agg (viCells x.i (.slice x.U x.i.uses.length x.cu) (.slice x.M x.i.map.length x.cm))] w fun e w' => e = .returned (.bool (S.vinst regs (xs.map VL.i) x.i)) ∧ Below w.heap.size w w' := by
  obtain ⟨N, hN⟩ : ∃ N : Nat, N = xs.length := ⟨_, rfl⟩
  have hst := fun W hb => r_stands fn regs slots need params rest A c xs x.i.label W (hv.below hb |>.more (Below.size hb)) hlen
  obtain ⟨⟨op, d, a, b, imm, label, uses, map⟩, U, cu, M, cm⟩ := x
  obtain ⟨us, mp, ul, ml, un, mn, xop, xd, ximm, xlab⟩ := hx
  simp only at us ul xd
  unfold viCells
  simp only
  have Hvi := Lib.hid (show S.vinst regs (xs.map VL.i) ⟨op, d, a, b, imm, label, uses, map⟩ = (S.vform ⟨op, d, a, b, imm, label, uses, map⟩ && (!S.vgoes ⟨op, d, a, b, imm, label, uses, map⟩ || decide (S.vstands (xs.map VL.i) label = 1)) && uses.all (S.regOf regs) && S.regOf regs a && S.regOf regs b && (S.regOf regs d || decide (op = 67 ∧ d < 0))) from rfl)
  obtain ⟨vn, hvn⟩ : ∃ vn, vn = S.vstands (xs.map VL.i) label := ⟨_, rfl⟩
  rw [← hvn] at hst Hvi
  rw [← hN] at hst ⊢
  have Hst := Lib.hid hst
  have Hreg := Lib.hid (fun r W => r_reg fn regs slots need params rest (.slice A N c) r W)
  have Hgo := Lib.hid (fun W => r_Goes op d a b imm label (.slice U uses.length cu) (.slice M map.length cm) W)
  have Hen := Lib.hid (fun W => ref_Encode_any op 0 0 0 imm W)
  obtain ⟨q, hq⟩ : ∃ q, q = S.chk ⟨op, 0, 0, 0, imm⟩ := ⟨_, rfl⟩
  rw [← hq] at Hen
  have hqg := chk_is0 ⟨op, 0, 0, 0, imm⟩
  rw [← hq] at hqg
  have Hqg := Lib.hid hqg
  have Hus := Lib.hid us
  obtain ⟨nu, hnu⟩ : ∃ nu, nu = uses.length := ⟨_, rfl⟩
  have Hnu := Lib.hid hnu
  have hul : nu ≤ 40 := by rw [hnu]; exact ul
  have hW0 := two_cellsR w (.cells #[.int .i64 fn, .int .i64 regs, .int .i64 slots, .int .i64 need, .int .i64 params, .bool rest, .slice A N c] 24) (.cells #[.int .i64 op, .int .i64 d, .int .i64 a, .int .i64 b, .int .i64 imm, .int .i64 label, .slice U uses.length cu, .slice M map.length cm] 44)
  have hb0 : Below w.heap.size w ((w.alloc (.cells #[.int .i64 fn, .int .i64 regs, .int .i64 slots, .int .i64 need, .int .i64 params, .bool rest, .slice A N c] 24)).alloc (.cells #[.int .i64 op, .int .i64 d, .int .i64 a, .int .i64 b, .int .i64 imm, .int .i64 label, .slice U uses.length cu, .slice M map.length cm] 44)) := ((Below.refl _ _).alloc (Nat.le_refl _) _).alloc (by simp) _
  have hs0 : ((w.alloc (.cells #[.int .i64 fn, .int .i64 regs, .int .i64 slots, .int .i64 need, .int .i64 params, .bool rest, .slice A N c] 24)).alloc (.cells #[.int .i64 op, .int .i64 d, .int .i64 a, .int .i64 b, .int .i64 imm, .int .i64 label, .slice U uses.length cu, .slice M map.length cm] 44)).heap.size = w.heap.size + 2 := by simp
  obtain ⟨W0, hWW⟩ : ∃ W0, W0 = ((w.alloc (.cells #[.int .i64 fn, .int .i64 regs, .int .i64 slots, .int .i64 need, .int .i64 params, .bool rest, .slice A N c] 24)).alloc (.cells #[.int .i64 op, .int .i64 d, .int .i64 a, .int .i64 b, .int .i64 imm, .int .i64 label, .slice U uses.length cu, .slice M map.length cm] 44)) := ⟨_, rfl⟩
  rw [← hWW] at hW0 hb0 hs0
  have Hc := Lib.hid (fun (w1 : World) (hb : Below W0.heap.size W0 w1) => (show w1.cell? ⟨w.heap.size, 0, none⟩ = some (.int .i64 fn) ∧ w1.cell? ⟨w.heap.size, 1, none⟩ = some (.int .i64 regs) ∧ w1.cell? ⟨w.heap.size, 2, none⟩ = some (.int .i64 slots) ∧ w1.cell? ⟨w.heap.size, 3, none⟩ = some (.int .i64 need) ∧ w1.cell? ⟨w.heap.size, 4, none⟩ = some (.int .i64 params) ∧ w1.cell? ⟨w.heap.size, 5, none⟩ = some (.bool rest) ∧ w1.cell? ⟨w.heap.size, 6, none⟩ = some (.slice A N c) ∧ w1.cell? ⟨w.heap.size + 1, 0, none⟩ = some (.int .i64 op) ∧ w1.cell? ⟨w.heap.size + 1, 1, none⟩ = some (.int .i64 d) ∧ w1.cell? ⟨w.heap.size + 1, 2, none⟩ = some (.int .i64 a) ∧ w1.cell? ⟨w.heap.size + 1, 3, none⟩ = some (.int .i64 b) ∧ w1.cell? ⟨w.heap.size + 1, 4, none⟩ = some (.int .i64 imm) ∧ w1.cell? ⟨w.heap.size + 1, 5, none⟩ = some (.int .i64 label) ∧ w1.cell? ⟨w.heap.size + 1, 6, none⟩ = some (.slice U uses.length cu) ∧ w1.cell? ⟨w.heap.size + 1, 7, none⟩ = some (.slice M map.length cm) from by
    have e1 := (hb.block w.heap.size (by omega)).trans hW0.1
    have e2 := (hb.block (w.heap.size + 1) (by omega)).trans hW0.2
    refine ⟨?_, ?_, ?_, ?_, ?_, ?_, ?_, ?_, ?_, ?_, ?_, ?_, ?_, ?_, ?_⟩
    all_goals first
      | (rw [Lib.cell_of_heap e1]; rfl)
      | (rw [Lib.cell_of_heap e2]; rfl)))
  rw [← hnu] at Hc Hgo hWW ⊢
  clear hst hvn hv hN hq hqg us ul hnu hW0 mp ml mn un
  have hbW := hb0
  have HbW := Lib.hid hb0
  obtain ⟨f0, f1, f2, f3, f4, f5, f6, i0, i1, i2, i3, i4, i5, i6, i7⟩ := Hc.out W0 (Below.refl _ _)
  have ho : (op < 1 ∨ (31 < op ∧ op < 64) ∨ 72 < op) ∨ (1 ≤ op ∧ op ≤ 25 ∧ q ≠ 0) ∨ (1 ≤ op ∧ op ≤ 25 ∧ q = 0) ∨ (26 ≤ op ∧ op ≤ 31) ∨ (64 ≤ op ∧ op ≤ 72) := by omega
  rcases ho with ho | ⟨o1, o2, o3⟩ | ⟨o1, o2, o3⟩ | ho
  · have Hf := Lib.hid (show S.vform ⟨op, d, a, b, imm, label, uses, map⟩ = false by
      unfold S.vform S.vplain
      simp only
      rw [decide_eq_false (by omega), Bool.false_and, decide_eq_false (by omega)]; rfl)
    clear xop xd ximm xlab
    go_enter Tryd.func69, Tryd.ntmps69
    go_upto_region 1 with fail
    rw [← hWW]
    clear hWW
    rcases ho with h | ⟨h, h'⟩ | h
    all_goals
      go_wp2_with fail
      go_ret
      exact ⟨by rw [Hvi.out, Hf.out]; rfl, HbW.out⟩
  · have Hf := Lib.hid (show S.vform ⟨op, d, a, b, imm, label, uses, map⟩ = false by
      unfold S.vform S.vplain
      simp only
      rw [← Hqg.out, decide_eq_false o3, Bool.and_false, decide_eq_false (by omega)]; rfl)
    clear xop xd ximm xlab
    have n3 := int_bne o3
    go_enter Tryd.func69, Tryd.ntmps69
    go_upto_region 1 with fail
    rw [← hWW]
    clear hWW
    go_wp2_with fail
    refine (Hen.out _).mono ?_
    rintro e w2 ⟨rfl, hb2⟩
    go_wp2_with fail
    go_ret
    exact ⟨by rw [Hvi.out, Hf.out]; rfl, HbW.out.trans (hb2.mono HbW.out.size)⟩
  · have Hf := Lib.hid (show S.vform ⟨op, d, a, b, imm, label, uses, map⟩ = true by
      unfold S.vform S.vplain
      simp only
      rw [← Hqg.out, decide_eq_true o3, decide_eq_true (by omega)]; rfl)
    have Hg := Lib.hid (show (!S.vgoes ⟨op, d, a, b, imm, label, uses, map⟩ || decide (vn = 1)) = true by
      unfold S.vgoes
      simp only
      rw [decide_eq_false (by omega)]; rfl)
    subst o3
    have n65 : ¬ op = 65 := by omega
    have n66 : ¬ (26 ≤ op ∧ op ≤ 31 ∨ op = 66) := by omega
    rw [decide_eq_false n66] at Hgo
    clear n66
    clear xop xd ximm xlab
    go_enter Tryd.func69, Tryd.ntmps69
    go_upto_region 1 with fail
    rw [← hWW]
    clear hWW
    go_wp2_with fail
    refine (Hen.out _).mono ?_
    rintro e w2 ⟨rfl, hb2⟩
    have Z2 := Lib.hid hb2
    clear f0 f1 f2 f3 f4 f5 f6 i0 i1 i2 i3 i4 i5 i6 i7 hb2
    obtain ⟨f0, f1, f2, f3, f4, f5, f6, i0, i1, i2, i3, i4, i5, i6, i7⟩ := Hc.out w2 Z2.out
    go_wp2_with fail
    refine (Hgo.out _).mono ?_
    rintro e w3 ⟨rfl, hb3⟩
    have Z3 := Lib.hid (Z2.out.trans (hb3.mono Z2.out.size))
    clear f0 f1 f2 f3 f4 f5 f6 i0 i1 i2 i3 i4 i5 i6 i7 hb3
    obtain ⟨f0, f1, f2, f3, f4, f5, f6, i0, i1, i2, i3, i4, i5, i6, i7⟩ := Hc.out w3 Z3.out
    go_wp2_with fail
    clear f0 f1 f2 f3 f4 f5 f6 i0 i1 i2 i3 i4 i5 i6 i7
    go_loopw [7] (fun v7 wl => ∃ k : Nat, k ≤ nu ∧ v7 = .int .i64 k ∧ Hid (Below W0.heap.size W0 wl) ∧ Hid (∀ r ∈ uses.take k, S.regOf regs r = true)) (fun v7 _ => nu - (intOf v7).toNat)
    case atStart => exact ⟨0, by omega, rfl, Z3, Lib.hid (by simp)⟩
    case round =>
      obtain ⟨k, hk, rfl, Hw, HU⟩ := hrel
      obtain ⟨f0, f1, f2, f3, f4, f5, f6, i0, i1, i2, i3, i4, i5, i6, i7⟩ := Hc.out wr Hw.out
      have hz0 := Hw.out.size
      have hzw : w.heap.size < wr.heap.size := by omega
      have hzw1 : w.heap.size + 1 < wr.heap.size := by omega
      by_cases hlt : k < nu
      · have hku : k < uses.length := by rw [← Hnu.out]; exact hlt
        obtain ⟨b', off, hAe, hbB, hcu⟩ := ((Hus.out.below (HbW.out.trans (Hw.out.mono HbW.out.size)))).at_ hku
        subst hAe
        obtain ⟨r, hr⟩ : ∃ r, r = uses.getD k 0 := ⟨_, rfl⟩
        rw [← hr] at hcu
        have hge : uses[k]? = some r := by rw [hr]; simp [hku]
        have Hil := Lib.hid (mv_split uses k r hge).2
        have hmem := List.mem_of_getElem? hge
        have Hmem := Lib.hid hmem
        have hbr : b' < wr.heap.size := by omega
        obtain ⟨br, hbr'⟩ : ∃ br, br = S.regOf regs r := ⟨_, rfl⟩
        have Hry := Lib.hid (fun y : Ext wr => Hreg.out r y.val)
        rw [← hbr'] at Hry
        have Hbr := Lib.hid hbr'
        clear hr hge hmem hbr' hku
        go_upto_region 12 with fail
        refine wp_region_ext (by kernel_rfl) (by kernel_rfl) ?_
        have hE := ext_cells wr
        repeat (first
          | go_big_quiet_step ((go_at_call 89; exact ext_of (Hry.out _))))
        refine wpQuiet_nil ?_
        rintro w5 ⟨⟨_, hb5⟩, rfl⟩
        have Z5 := Lib.hid (Hw.out.trans (hb5.mono hz0))
        clear hE hb5 f0 f1 f2 f3 f4 f5 f6 i0 i1 i2 i3 i4 i5 i6 i7
        cases hq : br with
        | false =>
          subst hq
          go_wp2_with fail
          go_ret
          refine ⟨?_, HbW.out.trans (Z5.out.mono HbW.out.size)⟩
          have hno : uses.all (S.regOf regs) = false := by
            rw [List.all_eq_false]
            exact ⟨r, Hmem.out, by rw [← Hbr.out]; simp⟩
          rw [Hvi.out, hno]
          simp
        | true =>
          subst hq
          go_wp2_with fail
          go_roundw
          case rel =>
            refine ⟨k + 1, by omega, by go_num, Z5, Lib.hid (fun y hy => ?_)⟩
            rw [Hil.out] at hy
            rcases List.mem_append.1 hy with hy | hy
            · exact HU.out y hy
            · have : y = r := by simpa using hy
              rw [this]; exact Hbr.out.symm
          case measure => simp [intOf]; omega
      · have hkn : k = nu := by omega
        subst hkn
        have HA := Lib.hid (show uses.all (S.regOf regs) = true by
          rw [List.all_eq_true]
          intro y hy
          exact HU.out y (by rw [Hnu.out, List.take_length]; exact hy))
        obtain ⟨ra, hra⟩ : ∃ ra, ra = S.regOf regs a := ⟨_, rfl⟩
        obtain ⟨rb, hrb⟩ : ∃ rb, rb = S.regOf regs b := ⟨_, rfl⟩
        obtain ⟨rd, hrd⟩ : ∃ rd, rd = S.regOf regs d := ⟨_, rfl⟩
        have Hra := Lib.hid (fun W => Hreg.out a W)
        have Hrb := Lib.hid (fun W => Hreg.out b W)
        have Hrd := Lib.hid (fun W => Hreg.out d W)
        rw [← hra] at Hra
        rw [← hrb] at Hrb
        rw [← hrd] at Hrd
        rw [← hra, ← hrb, ← hrd] at Hvi
        clear hra hrb hrd
        go_wp2_with fail
        refine (Hra.out _).mono ?_
        rintro e w6 ⟨rfl, hb6⟩
        have Z6 := Lib.hid (Hw.out.trans (hb6.mono Hw.out.size))
        clear hb6 f0 f1 f2 f3 f4 f5 f6 i0 i1 i2 i3 i4 i5 i6 i7
        cases hra : ra with
        | false =>
          subst hra
          go_wp2_with fail
          go_ret
          exact ⟨by rw [Hvi.out]; simp, HbW.out.trans (Z6.out.mono HbW.out.size)⟩
        | true =>
          subst hra
          obtain ⟨f0, f1, f2, f3, f4, f5, f6, i0, i1, i2, i3, i4, i5, i6, i7⟩ := Hc.out w6 Z6.out
          go_wp2_with fail
          refine (Hrb.out _).mono ?_
          rintro e w7 ⟨rfl, hb7⟩
          have Z7 := Lib.hid (Z6.out.trans (hb7.mono Z6.out.size))
          clear hb7 f0 f1 f2 f3 f4 f5 f6 i0 i1 i2 i3 i4 i5 i6 i7
          cases hrb : rb with
          | false =>
            subst hrb
            go_wp2_with fail
            go_ret
            exact ⟨by rw [Hvi.out]; simp, HbW.out.trans (Z7.out.mono HbW.out.size)⟩
          | true =>
            subst hrb
            obtain ⟨f0, f1, f2, f3, f4, f5, f6, i0, i1, i2, i3, i4, i5, i6, i7⟩ := Hc.out w7 Z7.out
            go_wp2_with fail
            refine (Hrd.out _).mono ?_
            rintro e w8 ⟨rfl, hb8⟩
            have Z8 := Lib.hid (Z7.out.trans (hb8.mono Z7.out.size))
            clear hb8 f0 f1 f2 f3 f4 f5 f6 i0 i1 i2 i3 i4 i5 i6 i7
            cases hrd : rd with
            | true =>
              subst hrd
              go_wp2_with fail
              go_ret
              exact ⟨by rw [Hvi.out, HA.out, Hf.out, Hg.out]; simp, HbW.out.trans (Z8.out.mono HbW.out.size)⟩
            | false =>
              subst hrd
              obtain ⟨f0, f1, f2, f3, f4, f5, f6, i0, i1, i2, i3, i4, i5, i6, i7⟩ := Hc.out w8 Z8.out
              by_cases p1 : op = 67
              · try (exfalso; omega)
                all_goals have P1 := Lib.hid p1
                all_goals rw [p1] at i0
                all_goals by_cases p2 : d < 0
                all_goals
                  have P2 := Lib.hid p2
                  go_wp2_with fail
                  all_goals go_ret
                  all_goals exact ⟨ret_bool (by rw [Hvi.out, HA.out, Hf.out, Hg.out]; simp [P1.out, P2.out] <;> omega), HbW.out.trans (Z8.out.mono HbW.out.size)⟩
              · have P1 := Lib.hid p1
                have np := int_bne p1
                go_wp2_with fail
                go_ret
                exact ⟨ret_bool (by rw [Hvi.out, HA.out, Hf.out, Hg.out]; simp [P1.out]), HbW.out.trans (Z8.out.mono HbW.out.size)⟩
  · have Hf := Lib.hid (show S.vform ⟨op, d, a, b, imm, label, uses, map⟩ = true by
      unfold S.vform
      simp only
      rw [decide_eq_true (show (26 ≤ op ∧ op ≤ 31) ∨ (64 ≤ op ∧ op ≤ 72) by omega), Bool.or_true])
    have n25 : ¬ op ≤ 25 := by omega
    have hw : (¬ op = 65 ∧ ¬ (26 ≤ op ∧ op ≤ 31 ∨ op = 66)) ∨ (op = 65 ∧ ¬ (26 ≤ op ∧ op ≤ 31 ∨ op = 66)) ∨ (26 ≤ op ∧ op ≤ 31 ∨ op = 66) := by omega
    rcases hw with ⟨n65, n66⟩ | hw
    · have Hg := Lib.hid (show (!S.vgoes ⟨op, d, a, b, imm, label, uses, map⟩ || decide (vn = 1)) = true by
        unfold S.vgoes
        simp only
        rw [decide_eq_false (by omega)]; rfl)
      rw [decide_eq_false n66] at Hgo
      have m65 := int_bne n65
      clear n66
      have hoo := ho
      clear ho
      have h1 : ¬ op < 1 := by omega
      have h2 : ¬ 72 < op := by omega
      have h3 : op ≤ 31 ∨ 64 ≤ op := by omega
      clear hoo
      rcases h3 with h3 | h3
      all_goals
        clear xop xd ximm xlab
        go_enter Tryd.func69, Tryd.ntmps69
        go_upto_region 1 with fail
        rw [← hWW]
        clear hWW
        go_wp2_with fail
        refine (Hgo.out _).mono ?_
        rintro e w3 ⟨rfl, hb3⟩
        have Z3 := Lib.hid hb3
        clear f0 f1 f2 f3 f4 f5 f6 i0 i1 i2 i3 i4 i5 i6 i7 hb3
        obtain ⟨f0, f1, f2, f3, f4, f5, f6, i0, i1, i2, i3, i4, i5, i6, i7⟩ := Hc.out w3 Z3.out
        go_wp2_with fail
        clear f0 f1 f2 f3 f4 f5 f6 i0 i1 i2 i3 i4 i5 i6 i7
        go_loopw [7] (fun v7 wl => ∃ k : Nat, k ≤ nu ∧ v7 = .int .i64 k ∧ Hid (Below W0.heap.size W0 wl) ∧ Hid (∀ r ∈ uses.take k, S.regOf regs r = true)) (fun v7 _ => nu - (intOf v7).toNat)
        case atStart => exact ⟨0, by omega, rfl, Z3, Lib.hid (by simp)⟩
        case round =>
          obtain ⟨k, hk, rfl, Hw, HU⟩ := hrel
          obtain ⟨f0, f1, f2, f3, f4, f5, f6, i0, i1, i2, i3, i4, i5, i6, i7⟩ := Hc.out wr Hw.out
          have hz0 := Hw.out.size
          have hzw : w.heap.size < wr.heap.size := by omega
          have hzw1 : w.heap.size + 1 < wr.heap.size := by omega
          by_cases hlt : k < nu
          · have hku : k < uses.length := by rw [← Hnu.out]; exact hlt
            obtain ⟨b', off, hAe, hbB, hcu⟩ := ((Hus.out.below (HbW.out.trans (Hw.out.mono HbW.out.size)))).at_ hku
            subst hAe
            obtain ⟨r, hr⟩ : ∃ r, r = uses.getD k 0 := ⟨_, rfl⟩
            rw [← hr] at hcu
            have hge : uses[k]? = some r := by rw [hr]; simp [hku]
            have Hil := Lib.hid (mv_split uses k r hge).2
            have hmem := List.mem_of_getElem? hge
            have Hmem := Lib.hid hmem
            have hbr : b' < wr.heap.size := by omega
            obtain ⟨br, hbr'⟩ : ∃ br, br = S.regOf regs r := ⟨_, rfl⟩
            have Hry := Lib.hid (fun y : Ext wr => Hreg.out r y.val)
            rw [← hbr'] at Hry
            have Hbr := Lib.hid hbr'
            clear hr hge hmem hbr' hku
            go_upto_region 12 with fail
            refine wp_region_ext (by kernel_rfl) (by kernel_rfl) ?_
            have hE := ext_cells wr
            repeat (first
              | go_big_quiet_step ((go_at_call 89; exact ext_of (Hry.out _))))
            refine wpQuiet_nil ?_
            rintro w5 ⟨⟨_, hb5⟩, rfl⟩
            have Z5 := Lib.hid (Hw.out.trans (hb5.mono hz0))
            clear hE hb5 f0 f1 f2 f3 f4 f5 f6 i0 i1 i2 i3 i4 i5 i6 i7
            cases hq : br with
            | false =>
              subst hq
              go_wp2_with fail
              go_ret
              refine ⟨?_, HbW.out.trans (Z5.out.mono HbW.out.size)⟩
              have hno : uses.all (S.regOf regs) = false := by
                rw [List.all_eq_false]
                exact ⟨r, Hmem.out, by rw [← Hbr.out]; simp⟩
              rw [Hvi.out, hno]
              simp
            | true =>
              subst hq
              go_wp2_with fail
              go_roundw
              case rel =>
                refine ⟨k + 1, by omega, by go_num, Z5, Lib.hid (fun y hy => ?_)⟩
                rw [Hil.out] at hy
                rcases List.mem_append.1 hy with hy | hy
                · exact HU.out y hy
                · have : y = r := by simpa using hy
                  rw [this]; exact Hbr.out.symm
              case measure => simp [intOf]; omega
          · have hkn : k = nu := by omega
            subst hkn
            have HA := Lib.hid (show uses.all (S.regOf regs) = true by
              rw [List.all_eq_true]
              intro y hy
              exact HU.out y (by rw [Hnu.out, List.take_length]; exact hy))
            obtain ⟨ra, hra⟩ : ∃ ra, ra = S.regOf regs a := ⟨_, rfl⟩
            obtain ⟨rb, hrb⟩ : ∃ rb, rb = S.regOf regs b := ⟨_, rfl⟩
            obtain ⟨rd, hrd⟩ : ∃ rd, rd = S.regOf regs d := ⟨_, rfl⟩
            have Hra := Lib.hid (fun W => Hreg.out a W)
            have Hrb := Lib.hid (fun W => Hreg.out b W)
            have Hrd := Lib.hid (fun W => Hreg.out d W)
            rw [← hra] at Hra
            rw [← hrb] at Hrb
            rw [← hrd] at Hrd
            rw [← hra, ← hrb, ← hrd] at Hvi
            clear hra hrb hrd
            go_wp2_with fail
            refine (Hra.out _).mono ?_
            rintro e w6 ⟨rfl, hb6⟩
            have Z6 := Lib.hid (Hw.out.trans (hb6.mono Hw.out.size))
            clear hb6 f0 f1 f2 f3 f4 f5 f6 i0 i1 i2 i3 i4 i5 i6 i7
            cases hra : ra with
            | false =>
              subst hra
              go_wp2_with fail
              go_ret
              exact ⟨by rw [Hvi.out]; simp, HbW.out.trans (Z6.out.mono HbW.out.size)⟩
            | true =>
              subst hra
              obtain ⟨f0, f1, f2, f3, f4, f5, f6, i0, i1, i2, i3, i4, i5, i6, i7⟩ := Hc.out w6 Z6.out
              go_wp2_with fail
              refine (Hrb.out _).mono ?_
              rintro e w7 ⟨rfl, hb7⟩
              have Z7 := Lib.hid (Z6.out.trans (hb7.mono Z6.out.size))
              clear hb7 f0 f1 f2 f3 f4 f5 f6 i0 i1 i2 i3 i4 i5 i6 i7
              cases hrb : rb with
              | false =>
                subst hrb
                go_wp2_with fail
                go_ret
                exact ⟨by rw [Hvi.out]; simp, HbW.out.trans (Z7.out.mono HbW.out.size)⟩
              | true =>
                subst hrb
                obtain ⟨f0, f1, f2, f3, f4, f5, f6, i0, i1, i2, i3, i4, i5, i6, i7⟩ := Hc.out w7 Z7.out
                go_wp2_with fail
                refine (Hrd.out _).mono ?_
                rintro e w8 ⟨rfl, hb8⟩
                have Z8 := Lib.hid (Z7.out.trans (hb8.mono Z7.out.size))
                clear hb8 f0 f1 f2 f3 f4 f5 f6 i0 i1 i2 i3 i4 i5 i6 i7
                cases hrd : rd with
                | true =>
                  subst hrd
                  go_wp2_with fail
                  go_ret
                  exact ⟨by rw [Hvi.out, HA.out, Hf.out, Hg.out]; simp, HbW.out.trans (Z8.out.mono HbW.out.size)⟩
                | false =>
                  subst hrd
                  obtain ⟨f0, f1, f2, f3, f4, f5, f6, i0, i1, i2, i3, i4, i5, i6, i7⟩ := Hc.out w8 Z8.out
                  by_cases p1 : op = 67
                  · try (exfalso; omega)
                    all_goals have P1 := Lib.hid p1
                    all_goals rw [p1] at i0
                    all_goals by_cases p2 : d < 0
                    all_goals
                      have P2 := Lib.hid p2
                      go_wp2_with fail
                      all_goals go_ret
                      all_goals exact ⟨ret_bool (by rw [Hvi.out, HA.out, Hf.out, Hg.out]; simp [P1.out, P2.out] <;> omega), HbW.out.trans (Z8.out.mono HbW.out.size)⟩
                  · have P1 := Lib.hid p1
                    have np := int_bne p1
                    go_wp2_with fail
                    go_ret
                    exact ⟨ret_bool (by rw [Hvi.out, HA.out, Hf.out, Hg.out]; simp [P1.out]), HbW.out.trans (Z8.out.mono HbW.out.size)⟩
    · have Hvg := Lib.hid (show S.vgoes ⟨op, d, a, b, imm, label, uses, map⟩ = true by
        unfold S.vgoes
        simp only
        rw [decide_eq_true (by omega)])
      have h1 : ¬ op < 1 := by omega
      have h2 : ¬ 72 < op := by omega
      have hw2 : (op = 65 ∧ (decide (26 ≤ op ∧ op ≤ 31 ∨ op = 66)) = false) ∨ (op ≤ 31 ∧ (decide (26 ≤ op ∧ op ≤ 31 ∨ op = 66)) = true) ∨ (op = 66 ∧ (decide (26 ≤ op ∧ op ≤ 31 ∨ op = 66)) = true) := by
        rcases hw with ⟨hw, hw'⟩ | hw
        · exact Or.inl ⟨hw, decide_eq_false hw'⟩
        · rcases hw with ⟨hw, hw'⟩ | hw'
          · exact Or.inr (Or.inl ⟨hw', decide_eq_true (Or.inl ⟨hw, hw'⟩)⟩)
          · exact Or.inr (Or.inr ⟨hw', decide_eq_true (Or.inr hw')⟩)
      clear hw ho
      rcases hw2 with ⟨h3, h4⟩ | ⟨h3, h4⟩ | ⟨h3, h4⟩
      all_goals
        rw [h4] at Hgo
        clear h4
        have n67 : (op == 67) = false := int_bne (by omega)
        have N67 := Lib.hid (show ¬ op = 67 by omega)
        (try subst h3)
        clear xop xd ximm xlab
        go_enter Tryd.func69, Tryd.ntmps69
        go_upto_region 1 with fail
        rw [← hWW]
        clear hWW
        go_wp2_with fail
        refine (Hgo.out _).mono ?_
        rintro e w3 ⟨rfl, hb3⟩
        have Z3 := Lib.hid hb3
        clear f0 f1 f2 f3 f4 f5 f6 i0 i1 i2 i3 i4 i5 i6 i7 hb3
        obtain ⟨f0, f1, f2, f3, f4, f5, f6, i0, i1, i2, i3, i4, i5, i6, i7⟩ := Hc.out w3 Z3.out
        go_wp2_with fail
        refine (Hst.out _ (HbW.out.trans (Z3.out.mono HbW.out.size))).mono ?_
        rintro e w4 ⟨rfl, hb4⟩
        have Z4 := Lib.hid (Z3.out.trans (hb4.mono Z3.out.size))
        clear f0 f1 f2 f3 f4 f5 f6 i0 i1 i2 i3 i4 i5 i6 i7 hb4
        by_cases hv1 : vn = 1
        · have Hg := Lib.hid (fun x : Bool => or_dec x hv1)
          subst hv1
          obtain ⟨f0, f1, f2, f3, f4, f5, f6, i0, i1, i2, i3, i4, i5, i6, i7⟩ := Hc.out w4 Z4.out
          go_wp2_with fail
          clear f0 f1 f2 f3 f4 f5 f6 i0 i1 i2 i3 i4 i5 i6 i7
          go_loopw [7] (fun v7 wl => ∃ k : Nat, k ≤ nu ∧ v7 = .int .i64 k ∧ Hid (Below W0.heap.size W0 wl) ∧ Hid (∀ r ∈ uses.take k, S.regOf regs r = true)) (fun v7 _ => nu - (intOf v7).toNat)
          case atStart => exact ⟨0, by omega, rfl, Z4, Lib.hid (by simp)⟩
          case round =>
            obtain ⟨k, hk, rfl, Hw, HU⟩ := hrel
            obtain ⟨f0, f1, f2, f3, f4, f5, f6, i0, i1, i2, i3, i4, i5, i6, i7⟩ := Hc.out wr Hw.out
            have hz0 := Hw.out.size
            have hzw : w.heap.size < wr.heap.size := by omega
            have hzw1 : w.heap.size + 1 < wr.heap.size := by omega
            by_cases hlt : k < nu
            · have hku : k < uses.length := by rw [← Hnu.out]; exact hlt
              obtain ⟨b', off, hAe, hbB, hcu⟩ := ((Hus.out.below (HbW.out.trans (Hw.out.mono HbW.out.size)))).at_ hku
              subst hAe
              obtain ⟨r, hr⟩ : ∃ r, r = uses.getD k 0 := ⟨_, rfl⟩
              rw [← hr] at hcu
              have hge : uses[k]? = some r := by rw [hr]; simp [hku]
              have Hil := Lib.hid (mv_split uses k r hge).2
              have hmem := List.mem_of_getElem? hge
              have Hmem := Lib.hid hmem
              have hbr : b' < wr.heap.size := by omega
              obtain ⟨br, hbr'⟩ : ∃ br, br = S.regOf regs r := ⟨_, rfl⟩
              have Hry := Lib.hid (fun y : Ext wr => Hreg.out r y.val)
              rw [← hbr'] at Hry
              have Hbr := Lib.hid hbr'
              clear hr hge hmem hbr' hku
              go_upto_region 12 with fail
              refine wp_region_ext (by kernel_rfl) (by kernel_rfl) ?_
              have hE := ext_cells wr
              repeat (first
                | go_big_quiet_step ((go_at_call 89; exact ext_of (Hry.out _))))
              refine wpQuiet_nil ?_
              rintro w5 ⟨⟨_, hb5⟩, rfl⟩
              have Z5 := Lib.hid (Hw.out.trans (hb5.mono hz0))
              clear hE hb5 f0 f1 f2 f3 f4 f5 f6 i0 i1 i2 i3 i4 i5 i6 i7
              cases hq : br with
              | false =>
                subst hq
                go_wp2_with fail
                go_ret
                refine ⟨?_, HbW.out.trans (Z5.out.mono HbW.out.size)⟩
                have hno : uses.all (S.regOf regs) = false := by
                  rw [List.all_eq_false]
                  exact ⟨r, Hmem.out, by rw [← Hbr.out]; simp⟩
                rw [Hvi.out, hno]
                simp
              | true =>
                subst hq
                go_wp2_with fail
                go_roundw
                case rel =>
                  refine ⟨k + 1, by omega, by go_num, Z5, Lib.hid (fun y hy => ?_)⟩
                  rw [Hil.out] at hy
                  rcases List.mem_append.1 hy with hy | hy
                  · exact HU.out y hy
                  · have : y = r := by simpa using hy
                    rw [this]; exact Hbr.out.symm
                case measure => simp [intOf]; omega
            · have hkn : k = nu := by omega
              subst hkn
              have HA := Lib.hid (show uses.all (S.regOf regs) = true by
                rw [List.all_eq_true]
                intro y hy
                exact HU.out y (by rw [Hnu.out, List.take_length]; exact hy))
              obtain ⟨ra, hra⟩ : ∃ ra, ra = S.regOf regs a := ⟨_, rfl⟩
              obtain ⟨rb, hrb⟩ : ∃ rb, rb = S.regOf regs b := ⟨_, rfl⟩
              obtain ⟨rd, hrd⟩ : ∃ rd, rd = S.regOf regs d := ⟨_, rfl⟩
              have Hra := Lib.hid (fun W => Hreg.out a W)
              have Hrb := Lib.hid (fun W => Hreg.out b W)
              have Hrd := Lib.hid (fun W => Hreg.out d W)
              rw [← hra] at Hra
              rw [← hrb] at Hrb
              rw [← hrd] at Hrd
              rw [← hra, ← hrb, ← hrd] at Hvi
              clear hra hrb hrd
              go_wp2_with fail
              refine (Hra.out _).mono ?_
              rintro e w6 ⟨rfl, hb6⟩
              have Z6 := Lib.hid (Hw.out.trans (hb6.mono Hw.out.size))
              clear hb6 f0 f1 f2 f3 f4 f5 f6 i0 i1 i2 i3 i4 i5 i6 i7
              cases hra : ra with
              | false =>
                subst hra
                go_wp2_with fail
                go_ret
                exact ⟨by rw [Hvi.out]; simp, HbW.out.trans (Z6.out.mono HbW.out.size)⟩
              | true =>
                subst hra
                obtain ⟨f0, f1, f2, f3, f4, f5, f6, i0, i1, i2, i3, i4, i5, i6, i7⟩ := Hc.out w6 Z6.out
                go_wp2_with fail
                refine (Hrb.out _).mono ?_
                rintro e w7 ⟨rfl, hb7⟩
                have Z7 := Lib.hid (Z6.out.trans (hb7.mono Z6.out.size))
                clear hb7 f0 f1 f2 f3 f4 f5 f6 i0 i1 i2 i3 i4 i5 i6 i7
                cases hrb : rb with
                | false =>
                  subst hrb
                  go_wp2_with fail
                  go_ret
                  exact ⟨by rw [Hvi.out]; simp, HbW.out.trans (Z7.out.mono HbW.out.size)⟩
                | true =>
                  subst hrb
                  obtain ⟨f0, f1, f2, f3, f4, f5, f6, i0, i1, i2, i3, i4, i5, i6, i7⟩ := Hc.out w7 Z7.out
                  go_wp2_with fail
                  refine (Hrd.out _).mono ?_
                  rintro e w8 ⟨rfl, hb8⟩
                  have Z8 := Lib.hid (Z7.out.trans (hb8.mono Z7.out.size))
                  clear hb8 f0 f1 f2 f3 f4 f5 f6 i0 i1 i2 i3 i4 i5 i6 i7
                  cases hrd : rd with
                  | true =>
                    subst hrd
                    go_wp2_with fail
                    go_ret
                    exact ⟨by rw [Hvi.out, HA.out, Hf.out, Hg.out]; simp, HbW.out.trans (Z8.out.mono HbW.out.size)⟩
                  | false =>
                    subst hrd
                    obtain ⟨f0, f1, f2, f3, f4, f5, f6, i0, i1, i2, i3, i4, i5, i6, i7⟩ := Hc.out w8 Z8.out
                    go_wp2_with fail
                    go_ret
                    exact ⟨ret_bool (by rw [Hvi.out, HA.out, Hf.out, Hg.out]; simp [N67.out]), HbW.out.trans (Z8.out.mono HbW.out.size)⟩
        · have Hv1 := Lib.hid hv1
          have nv := int_bne hv1
          go_wp2_with fail
          go_ret
          exact ⟨by rw [Hvi.out, Hvg.out, decide_eq_false Hv1.out]; simp, HbW.out.trans (Z4.out.mono HbW.out.size)⟩

end Go.Proofs.YtkdalaiponchbaaDoor
