/- The laws of layer 2: alike. -/
import Derived.Test.YtbgdomnalimjnaaMachX
import Derived.Test.YtbgdomnalimjnaaExtB
import Derived.Laws.BytesArg
import Derived.BigQuiet
set_option linter.unusedVariables false
set_option linter.unusedSimpArgs false
set_option linter.unusedSectionVars false
namespace Go.Proofs.Ytbgdomnalimjnaa
open Go.RowKit

set_option maxRecDepth 100000 in
theorem conv_row {w : World} {B : Nat} {A : Option Addr} {n m c : Nat} {xs : List Int} (h : w.ownsRow B 5 1 (.slice A m c) n (xs.map (Value.int .u8))) :
    (convert 23 9 (.slice A m c)).run Try.prog w = .ok (.string (strOfNums xs)) w := by
  have hl : xs.length = n := by have := h.1; simpa using this
  rcases h.2 with ⟨e, hn⟩ | ⟨g, cap, cur, e, h3, h4, h5, h6, h7, h8⟩
  · injection e with e1 e2 e3
    subst e1 hn
    have hx : xs = [] := List.eq_nil_of_length_eq_zero hl
    subst hx
    exact run_convert_bytes_nil w 23 5 Try.underlying23 Try.underlying5 _ _ 9 Try.underlying9
  · injection e with e1 e2 e3
    subst e1 e2 e3
    refine run_convert_bytes_arg w 23 5 Try.underlying23 Try.underlying5 g 0 m c xs hl (fun i hi => ?_) 9 Try.underlying9
    rw [Nat.zero_add, h.cellAt i (by omega), List.getElem?_map]
    have : i < xs.length := by omega
    simp [this]

theorem drewN_cell {w w' : World} {n : Nat} (h : w' = w.drewN n) (a : Addr) : w'.cell? a = w.cell? a := by rw [h]; rfl
theorem drewN_size {w w' : World} {n : Nat} (h : w' = w.drewN n) : w'.heap.size = w.heap.size := by rw [h]; rfl
theorem drewN_frozen {w w' : World} {n : Nat} (h : w' = w.drewN n) (a : Addr) : w'.frozen? a = w.frozen? a := by rw [h]; rfl

set_option maxRecDepth 100000 in
set_option maxHeartbeats 8000000 in
theorem law2_alike {w : World} {B p q c c2 rd : Nat} {vm vo vm2 vo2 : Value} {A A2 : Option Addr} {inp : List Int} {m : S.Mach} (hM : MAt w B p vm vo A c inp rd m) (hQ : RAt w B q vm2 vo2 A2 c2 m) (hol : m.out.length ≤ 1000000) :
    Calls Try.prog 17 #[.pointer (some ⟨p, 0, none⟩), .pointer (some ⟨q, 0, none⟩)] w fun e w' => e = .returned (.bool true) ∧ Below w.heap.size w w' := by
  have HM := Lib.hid hM
  have HQ := Lib.hid hQ
  have hp := hM.lt
  have hq := hQ.lt
  have hlo := hM.low0
  clear hM hQ
  go_enter Try.func17, Try.ntmps17
  go_wp2_with fail
  go_loopw [5] (fun v wr => ∃ i : Int, -1 ≤ i ∧ i ≤ 33 ∧ v = .int .i64 i ∧ wr = w) (fun v _ => (33 - intOf v).toNat)
  case atStart => exact ⟨-1, by omega, by omega, rfl, rfl⟩
  case round =>
    obtain ⟨i, hi0, hi1, rfl, rfl⟩ := hrel
    by_cases hlt : i < 33
    · by_cases hneg : i < 0
      · have Hv := Lib.hid (show m.regV i = 0 by unfold S.Mach.regV; rw [if_neg (by omega)])
        go_wp2_with fail
        refine (mach_Reg _ HM.out).mono ?_
        rintro e w2 ⟨rfl, rfl⟩
        rw [Hv.out]
        go_wp2_with fail
        go_roundw
        all_goals first
          | exact ⟨i + 1, by omega, by omega, by go_num, by first | trivial | rfl⟩
          | (simp [intOf] <;> omega)
      · by_cases hbig : 32 ≤ i
        · have Hv := Lib.hid (show m.regV i = 0 by unfold S.Mach.regV; rw [if_neg (by omega)])
          go_wp2_with fail
          refine (mach_Reg _ HM.out).mono ?_
          rintro e w2 ⟨rfl, rfl⟩
          rw [Hv.out]
          go_wp2_with fail
          go_roundw
          all_goals first
            | exact ⟨i + 1, by omega, by omega, by go_num, by first | trivial | rfl⟩
            | (simp [intOf] <;> omega)
        · obtain ⟨k, rfl⟩ : ∃ k : Nat, i = k := ⟨i.toNat, by omega⟩
          have hk : k < 32 := by omega
          have Hv := Lib.hid (show m.regV k = m.reg.getD k 0 by unfold S.Mach.regV; rw [if_pos (by omega)]; rfl)
          have hr := HQ.out.reg hk
          generalize m.reg.getD k 0 = rv at *
          go_wp2_with fail
          refine (mach_Reg _ HM.out).mono ?_
          rintro e w2 ⟨rfl, rfl⟩
          rw [Hv.out]
          go_wp2_with fail
          go_roundw
          all_goals first
            | exact ⟨k + 1, by omega, by omega, by go_num, by first | trivial | rfl⟩
            | exact ⟨⟨k + 1, by omega, by omega, by first | rfl | go_num, by first | trivial | rfl⟩, by show (33 - ((k : Int) + 1)).toNat < (33 - (k : Int)).toNat; omega⟩
            | (simp [intOf] <;> omega)
    · go_wp2_with fail
      go_loopw [7] (fun v w2 => ∃ i : Nat, i ≤ m.mem.length ∧ v = .int .i64 i ∧ Below wr.heap.size wr w2) (fun v _ => m.mem.length - (intOf v).toNat)
      case atStart => exact ⟨0, by omega, rfl, Below.refl _ _⟩
      case round =>
        obtain ⟨i, hi, rfl, hb2⟩ := hrel
        have hM := HM.out.below hb2
        have hQ := HQ.out.below hb2
        obtain ⟨g, cap, hvm, hg, hmc, hfz⟩ := hQ.memv
        obtain ⟨c32, c33, c34, c35, c36, c37, c38, c39⟩ := hQ.cells
        rw [hvm] at c32
        have hq2 := hQ.lt
        have HM2 := Lib.hid hM
        have HQ2 := Lib.hid hQ
        by_cases hlt2 : i < m.mem.length
        · have hct := hmc i hlt2
          have hft := hfz i
          have Hv := Lib.hid (show m.memV i = m.mem.getD i 0 by unfold S.Mach.memV; rw [if_pos (by omega)]; rfl)
          have Hb := Lib.hid (show m.memB i = true by unfold S.Mach.memB; rw [decide_eq_true_eq]; omega)
          clear hmc hfz hM hQ
          generalize m.mem.getD i 0 = v at *
          go_wp2_with fail
          refine (mach_Mem _ HM2.out).mono ?_
          rintro e w3 ⟨rfl, n, hn3⟩
          rw [Hv.out, Hb.out]
          have hct3 := (drewN_cell hn3 _).trans hct
          have c3 := (drewN_cell hn3 _).trans c32
          have hft3 := (drewN_frozen hn3 _).trans hft
          have hb3 := below_drewN hb2 n
          rw [← hn3] at hb3
          have hz3 := drewN_size hn3
          have hq3 : q < w3.heap.size := by rw [hz3]; exact hq2
          have hg3 : g < w3.heap.size := by rw [hz3]; exact hg
          clear c32 c33 c34 c35 c36 c37 c38 c39 hn3 hct hft hz3
          go_wp2_with fail
          go_roundw
          all_goals first
            | exact ⟨i + 1, by omega, by go_num, hb3⟩
            | exact ⟨⟨i + 1, by omega, by first | rfl | go_num, hb3⟩, by simp [intOf] <;> omega⟩
            | (simp [intOf] <;> omega)
        · have hke : i = m.mem.length := by omega
          subst hke
          clear hmc hfz hM hQ
          have Hv1 := Lib.hid (show m.memV (-1) = 0 by unfold S.Mach.memV; rw [if_neg (by omega)])
          have Hb1 := Lib.hid (show m.memB (-1) = false by unfold S.Mach.memB; rw [decide_eq_false_iff_not]; omega)
          have Hv2 := Lib.hid (show m.memV m.mem.length = 0 by unfold S.Mach.memV; rw [if_neg (by omega)])
          have Hb2 := Lib.hid (show m.memB m.mem.length = false by unfold S.Mach.memB; rw [decide_eq_false_iff_not]; omega)
          have hor : ∃ ao co, vo2 = .slice ao m.out.length co := ownsRow_form HQ2.out.out
          obtain ⟨ao, co, rfl⟩ := ownsRow_form HQ2.out.out
          go_wp2_with fail
          refine (mach_Mem _ HM2.out).mono ?_
          rintro e w3 ⟨rfl, n, hn3⟩
          rw [Hv1.out, Hb1.out]
          have hb3 := below_drewN hb2 n
          rw [← hn3] at hb3
          have HM3 := Lib.hid (show MAt w3 B p vm vo A c inp rd m by rw [hn3]; exact HM2.out.drewN n)
          have HQ3 := Lib.hid (show RAt w3 B q vm2 (.slice ao m.out.length co) A2 c2 m by rw [hn3]; exact HQ2.out.drewN n)
          have c3 := (drewN_cell hn3 _).trans c32
          have hz3 := drewN_size hn3
          have hq3 : q < w3.heap.size := by rw [hz3]; exact hq2
          clear c32 c33 c34 c35 c36 c37 c38 c39 hz3 hn3 hb2
          go_wp2_with fail
          refine (mach_Mem _ HM3.out).mono ?_
          rintro e w4 ⟨rfl, n4, hn4⟩
          rw [Hv2.out, Hb2.out]
          have hb4 := below_drewN hb3 n4
          rw [← hn4] at hb4
          have HM4 := Lib.hid (show MAt w4 B p vm vo A c inp rd m by rw [hn4]; exact HM3.out.drewN n4)
          have HQ4 := Lib.hid (show RAt w4 B q vm2 (.slice ao m.out.length co) A2 c2 m by rw [hn4]; exact HQ3.out.drewN n4)
          obtain ⟨_, c33, _, c35, c36, c37, c38, c39⟩ := HQ4.out.cells
          have hq4 := HQ4.out.lt
          have hcs := bcell hb4
          clear c3 hn4 hb3
          go_upto_region 17 with fail
          refine wp_region_ext_any 52 (Array.replicate 52 true ++ Array.replicate 11 false) (by kernel_rfl) (by kernel_rfl) ?_
          have hE := ext_cells w4
          have hES := ext_size w4
          simp only [List.take_succ_cons, List.take_zero]
          repeat (first
            | go_big_quiet_step ((first
              | (go_at_call 19; exact ext_of_same (mach_Place (HM4.out.below (Subtype.property _))))
              | (go_at_call 21; exact ext_of_same (mach_State (HM4.out.below (Subtype.property _))))
              | (go_at_call 45; exact ext_of_same (mach_Code (HM4.out.below (Subtype.property _))))
              | (go_at_call 46; exact ext_of_same (mach_Trap (HM4.out.below (Subtype.property _))))
              | (go_at_call 36; exact ext_of_same (mach_Steps (HM4.out.below (Subtype.property _)))))))
          refine wpQuiet_nil ?_
          rintro _ ⟨⟨w5, hb5⟩, rfl⟩
          have HM5 := Lib.hid (HM4.out.below hb5)
          have HQ5 := Lib.hid (HQ4.out.below hb5)
          have hq5 := HQ5.out.lt
          obtain ⟨_, _, _, c355, _, _, _, _⟩ := HQ5.out.cells
          have hd5 := conv_row HQ5.out.out
          have hb5z := hb4.trans (hb5.mono hb4.size)
          clear hE hES hcs c33 c35 c36 c37 c38 c39 hb5
          change wpAny _ _ _ _ 11 _ _ _
          refine wpAny_take (i := 52) (v := ?v52n1) rfl (by kernel_rfl) (by kernel_rfl) (by kernel_rfl) (fun _ _ _ h => h) (Or.inl ⟨by rfl, ?y52n1⟩) ?z52n1
          case y52n1 => (intro w; first | (go_simp; done) | (go_simp; with_reducible rfl))
          refine wpAny_take (i := 55) (v := ?v55n2) rfl (by kernel_rfl) (by kernel_rfl) (by kernel_rfl) (fun _ _ _ h => h) (Or.inl ⟨by rfl, ?y55n2⟩) ?z55n2
          case y55n2 => (intro w; first | (go_simp; done) | (go_simp; with_reducible rfl))
          refine wpAny_take (i := 56) (v := ?v56n3) rfl (by kernel_rfl) (by kernel_rfl) (by kernel_rfl) (fun _ _ _ h => h) (Or.inl ⟨by rfl, ?y56n3⟩) ?z56n3
          case y56n3 => (intro w; first | (go_simp; done) | (go_simp; with_reducible rfl))
          refine wpAny_take (i := 57) (v := ?v57n4) rfl (by kernel_rfl) (by kernel_rfl) (by kernel_rfl) (fun _ _ _ h => h) (Or.inl ⟨by rfl, ?y57n4⟩) ?z57n4
          case y57n4 => (intro w; first | (go_simp; done) | (go_simp; with_reducible rfl))
          refine wpAny_ready (rs := [53, 58]) (by kernel_rfl) (by simp) ?_
          refine AllReady.cons rfl (fun K hK => ?_) ?_
          · go_simp
            go_wp2_with (go_at_call 37; refine (mach_Out HM5.out hol).mono ?_; rintro e w6 ⟨A6, c6, rfl, ho6, hb6⟩)
            have hs6 := conv_row ho6
            have hd6 := conv_row (HQ5.out.below hb6).out
            have c356 := (hb6.cell (p := ⟨q, 35, none⟩) hq5).trans c355
            have hbz : Below _ _ w6 := hb5z.trans (hb6.mono hb5z.size)
            clear ho6 hb6 hb5z
            refine wpAny_ready (rs := [54, 58]) (by kernel_rfl) (by simp) ?_
            refine AllReady.cons rfl (fun K hK => ?_) ?_
            · go_simp
              refine hK _ _ ?_
              clear hK K
              refine wpAny_ready (rs := [58]) (by kernel_rfl) (by simp) ?_
              refine AllReady.cons rfl (fun K hK => ?_) ?_
              · go_simp
                refine hK _ _ ?_
                clear hK K
                refine wpAny_ready (rs := [59]) (by kernel_rfl) (by simp) ?_
                refine AllReady.cons rfl (fun K hK => ?_) ?_
                · go_simp
                  refine hK _ _ ?_
                  clear hK K
                  refine wpAny_take (i := 60) (v := ?v60n5) rfl (by kernel_rfl) (by kernel_rfl) (by kernel_rfl) (fun _ _ _ h => h) (Or.inl ⟨by rfl, ?y60n5⟩) ?z60n5
                  case y60n5 => (intro w; first | (go_simp; done) | (go_simp; with_reducible rfl))
                  refine wpAny_take (i := 61) (v := ?v61n6) rfl (by kernel_rfl) (by kernel_rfl) (by kernel_rfl) (fun _ _ _ h => h) (Or.inl ⟨by rfl, ?y61n6⟩) ?z61n6
                  case y61n6 => (intro w; first | (go_simp; done) | (go_simp; with_reducible rfl))
                  refine wpAny_take (i := 62) (v := ?v62n7) rfl (by kernel_rfl) (by kernel_rfl) (by kernel_rfl) (fun _ _ _ h => h) (Or.inl ⟨by rfl, ?y62n7⟩) ?z62n7
                  case y62n7 => (intro w; first | (go_simp; done) | (go_simp; with_reducible rfl))
                  refine wpAny_done (by kernel_rfl) ?_ _
                  go_wp2_with fail
                  go_ret
                  all_goals exact ⟨rfl, by assumption⟩
                exact AllReady.nil
              exact AllReady.nil
            refine AllReady.cons rfl (fun K hK => ?_) ?_
            · go_simp
              refine hK _ _ ?_
              clear hK K
              refine wpAny_ready (rs := [54, 59]) (by kernel_rfl) (by simp) ?_
              refine AllReady.cons rfl (fun K hK => ?_) ?_
              · go_simp
                refine hK _ _ ?_
                clear hK K
                refine wpAny_ready (rs := [59]) (by kernel_rfl) (by simp) ?_
                refine AllReady.cons rfl (fun K hK => ?_) ?_
                · go_simp
                  refine hK _ _ ?_
                  clear hK K
                  refine wpAny_take (i := 60) (v := ?v60n8) rfl (by kernel_rfl) (by kernel_rfl) (by kernel_rfl) (fun _ _ _ h => h) (Or.inl ⟨by rfl, ?y60n8⟩) ?z60n8
                  case y60n8 => (intro w; first | (go_simp; done) | (go_simp; with_reducible rfl))
                  refine wpAny_take (i := 61) (v := ?v61n9) rfl (by kernel_rfl) (by kernel_rfl) (by kernel_rfl) (fun _ _ _ h => h) (Or.inl ⟨by rfl, ?y61n9⟩) ?z61n9
                  case y61n9 => (intro w; first | (go_simp; done) | (go_simp; with_reducible rfl))
                  refine wpAny_take (i := 62) (v := ?v62n10) rfl (by kernel_rfl) (by kernel_rfl) (by kernel_rfl) (fun _ _ _ h => h) (Or.inl ⟨by rfl, ?y62n10⟩) ?z62n10
                  case y62n10 => (intro w; first | (go_simp; done) | (go_simp; with_reducible rfl))
                  refine wpAny_done (by kernel_rfl) ?_ _
                  go_wp2_with fail
                  go_ret
                  all_goals exact ⟨rfl, by assumption⟩
                exact AllReady.nil
              refine AllReady.cons rfl (fun K hK => ?_) ?_
              · go_simp
                refine hK _ _ ?_
                clear hK K
                refine wpAny_ready (rs := [54]) (by kernel_rfl) (by simp) ?_
                refine AllReady.cons rfl (fun K hK => ?_) ?_
                · go_simp
                  refine hK _ _ ?_
                  clear hK K
                  refine wpAny_take (i := 60) (v := ?v60n11) rfl (by kernel_rfl) (by kernel_rfl) (by kernel_rfl) (fun _ _ _ h => h) (Or.inl ⟨by rfl, ?y60n11⟩) ?z60n11
                  case y60n11 => (intro w; first | (go_simp; done) | (go_simp; with_reducible rfl))
                  refine wpAny_take (i := 61) (v := ?v61n12) rfl (by kernel_rfl) (by kernel_rfl) (by kernel_rfl) (fun _ _ _ h => h) (Or.inl ⟨by rfl, ?y61n12⟩) ?z61n12
                  case y61n12 => (intro w; first | (go_simp; done) | (go_simp; with_reducible rfl))
                  refine wpAny_take (i := 62) (v := ?v62n13) rfl (by kernel_rfl) (by kernel_rfl) (by kernel_rfl) (fun _ _ _ h => h) (Or.inl ⟨by rfl, ?y62n13⟩) ?z62n13
                  case y62n13 => (intro w; first | (go_simp; done) | (go_simp; with_reducible rfl))
                  refine wpAny_done (by kernel_rfl) ?_ _
                  go_wp2_with fail
                  go_ret
                  all_goals exact ⟨rfl, by assumption⟩
                exact AllReady.nil
              exact AllReady.nil
            exact AllReady.nil
          refine AllReady.cons rfl (fun K hK => ?_) ?_
          · go_simp
            refine hK _ _ ?_
            clear hK K
            refine wpAny_ready (rs := [53, 59]) (by kernel_rfl) (by simp) ?_
            refine AllReady.cons rfl (fun K hK => ?_) ?_
            · go_simp
              go_wp2_with (go_at_call 37; refine (mach_Out HM5.out hol).mono ?_; rintro e w6 ⟨A6, c6, rfl, ho6, hb6⟩)
              have hs6 := conv_row ho6
              have hd6 := conv_row (HQ5.out.below hb6).out
              have c356 := (hb6.cell (p := ⟨q, 35, none⟩) hq5).trans c355
              have hbz : Below _ _ w6 := hb5z.trans (hb6.mono hb5z.size)
              clear ho6 hb6 hb5z
              refine wpAny_ready (rs := [54, 59]) (by kernel_rfl) (by simp) ?_
              refine AllReady.cons rfl (fun K hK => ?_) ?_
              · go_simp
                refine hK _ _ ?_
                clear hK K
                refine wpAny_ready (rs := [59]) (by kernel_rfl) (by simp) ?_
                refine AllReady.cons rfl (fun K hK => ?_) ?_
                · go_simp
                  refine hK _ _ ?_
                  clear hK K
                  refine wpAny_take (i := 60) (v := ?v60n14) rfl (by kernel_rfl) (by kernel_rfl) (by kernel_rfl) (fun _ _ _ h => h) (Or.inl ⟨by rfl, ?y60n14⟩) ?z60n14
                  case y60n14 => (intro w; first | (go_simp; done) | (go_simp; with_reducible rfl))
                  refine wpAny_take (i := 61) (v := ?v61n15) rfl (by kernel_rfl) (by kernel_rfl) (by kernel_rfl) (fun _ _ _ h => h) (Or.inl ⟨by rfl, ?y61n15⟩) ?z61n15
                  case y61n15 => (intro w; first | (go_simp; done) | (go_simp; with_reducible rfl))
                  refine wpAny_take (i := 62) (v := ?v62n16) rfl (by kernel_rfl) (by kernel_rfl) (by kernel_rfl) (fun _ _ _ h => h) (Or.inl ⟨by rfl, ?y62n16⟩) ?z62n16
                  case y62n16 => (intro w; first | (go_simp; done) | (go_simp; with_reducible rfl))
                  refine wpAny_done (by kernel_rfl) ?_ _
                  go_wp2_with fail
                  go_ret
                  all_goals exact ⟨rfl, by assumption⟩
                exact AllReady.nil
              refine AllReady.cons rfl (fun K hK => ?_) ?_
              · go_simp
                refine hK _ _ ?_
                clear hK K
                refine wpAny_ready (rs := [54]) (by kernel_rfl) (by simp) ?_
                refine AllReady.cons rfl (fun K hK => ?_) ?_
                · go_simp
                  refine hK _ _ ?_
                  clear hK K
                  refine wpAny_take (i := 60) (v := ?v60n17) rfl (by kernel_rfl) (by kernel_rfl) (by kernel_rfl) (fun _ _ _ h => h) (Or.inl ⟨by rfl, ?y60n17⟩) ?z60n17
                  case y60n17 => (intro w; first | (go_simp; done) | (go_simp; with_reducible rfl))
                  refine wpAny_take (i := 61) (v := ?v61n18) rfl (by kernel_rfl) (by kernel_rfl) (by kernel_rfl) (fun _ _ _ h => h) (Or.inl ⟨by rfl, ?y61n18⟩) ?z61n18
                  case y61n18 => (intro w; first | (go_simp; done) | (go_simp; with_reducible rfl))
                  refine wpAny_take (i := 62) (v := ?v62n19) rfl (by kernel_rfl) (by kernel_rfl) (by kernel_rfl) (fun _ _ _ h => h) (Or.inl ⟨by rfl, ?y62n19⟩) ?z62n19
                  case y62n19 => (intro w; first | (go_simp; done) | (go_simp; with_reducible rfl))
                  refine wpAny_done (by kernel_rfl) ?_ _
                  go_wp2_with fail
                  go_ret
                  all_goals exact ⟨rfl, by assumption⟩
                exact AllReady.nil
              exact AllReady.nil
            refine AllReady.cons rfl (fun K hK => ?_) ?_
            · go_simp
              refine hK _ _ ?_
              clear hK K
              refine wpAny_ready (rs := [53]) (by kernel_rfl) (by simp) ?_
              refine AllReady.cons rfl (fun K hK => ?_) ?_
              · go_simp
                go_wp2_with (go_at_call 37; refine (mach_Out HM5.out hol).mono ?_; rintro e w6 ⟨A6, c6, rfl, ho6, hb6⟩)
                have hs6 := conv_row ho6
                have hd6 := conv_row (HQ5.out.below hb6).out
                have c356 := (hb6.cell (p := ⟨q, 35, none⟩) hq5).trans c355
                have hbz : Below _ _ w6 := hb5z.trans (hb6.mono hb5z.size)
                clear ho6 hb6 hb5z
                refine wpAny_ready (rs := [54]) (by kernel_rfl) (by simp) ?_
                refine AllReady.cons rfl (fun K hK => ?_) ?_
                · go_simp
                  refine hK _ _ ?_
                  clear hK K
                  refine wpAny_take (i := 60) (v := ?v60n20) rfl (by kernel_rfl) (by kernel_rfl) (by kernel_rfl) (fun _ _ _ h => h) (Or.inl ⟨by rfl, ?y60n20⟩) ?z60n20
                  case y60n20 => (intro w; first | (go_simp; done) | (go_simp; with_reducible rfl))
                  refine wpAny_take (i := 61) (v := ?v61n21) rfl (by kernel_rfl) (by kernel_rfl) (by kernel_rfl) (fun _ _ _ h => h) (Or.inl ⟨by rfl, ?y61n21⟩) ?z61n21
                  case y61n21 => (intro w; first | (go_simp; done) | (go_simp; with_reducible rfl))
                  refine wpAny_take (i := 62) (v := ?v62n22) rfl (by kernel_rfl) (by kernel_rfl) (by kernel_rfl) (fun _ _ _ h => h) (Or.inl ⟨by rfl, ?y62n22⟩) ?z62n22
                  case y62n22 => (intro w; first | (go_simp; done) | (go_simp; with_reducible rfl))
                  refine wpAny_done (by kernel_rfl) ?_ _
                  go_wp2_with fail
                  go_ret
                  all_goals exact ⟨rfl, by assumption⟩
                exact AllReady.nil
              exact AllReady.nil
            exact AllReady.nil
          exact AllReady.nil

end Go.Proofs.Ytbgdomnalimjnaa
