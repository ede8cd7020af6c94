/- The laws of layer 2: same. -/
import Derived.Test.YtbgdomnalimjnaaMachY
import Derived.Test.YtbgdomnalimjnaaWorksB
set_option linter.unusedVariables false
set_option linter.unusedSimpArgs false
set_option linter.unusedSectionVars false
namespace Go.Proofs.Ytbgdomnalimjnaa
open Go.RowKit

/-- Alike, as far as one sees it from outside. -/
structure S.Mach.Seen (m n : S.Mach) : Prop where
  reg : n.reg = m.reg
  mem : n.mem = m.mem
  place : n.place = m.place
  state : n.state = m.state
  code : n.code = m.code
  trap : n.trap = m.trap
  steps : n.steps = m.steps
  out : n.out = m.out
theorem S.Mach.Seen.refl (m : S.Mach) : m.Seen m := ⟨rfl, rfl, rfl, rfl, rfl, rfl, rfl, rfl⟩
theorem S.Mach.Seen.regV {m n : S.Mach} (h : m.Seen n) (i : Int) : n.regV i = m.regV i := by unfold S.Mach.regV; rw [h.reg]
theorem S.Mach.Seen.memV {m n : S.Mach} (h : m.Seen n) (i : Int) : n.memV i = m.memV i := by unfold S.Mach.memV; rw [h.mem]
theorem S.Mach.Seen.memB {m n : S.Mach} (h : m.Seen n) (i : Int) : n.memB i = m.memB i := by unfold S.Mach.memB; rw [h.mem]

theorem seen_Place {w : World} {B p c rd : Nat} {vm vo : Value} {A : Option Addr} {inp : List Int} {m : S.Mach} {a : Int} (h : MAt w B p vm vo A c inp rd m) (e : m.place = a) : Calls Try.prog 19 #[.pointer (some ⟨p, 0, none⟩)] w fun e w' => e = .returned (.int .u32 a) ∧ w = w' := by
  subst e
  exact mach_Place h
theorem seen_State {w : World} {B p c rd : Nat} {vm vo : Value} {A : Option Addr} {inp : List Int} {m : S.Mach} {a : Int} (h : MAt w B p vm vo A c inp rd m) (e : m.state = a) : Calls Try.prog 21 #[.pointer (some ⟨p, 0, none⟩)] w fun e w' => e = .returned (.int .i64 a) ∧ w = w' := by
  subst e
  exact mach_State h
theorem seen_Code {w : World} {B p c rd : Nat} {vm vo : Value} {A : Option Addr} {inp : List Int} {m : S.Mach} {a : Int} (h : MAt w B p vm vo A c inp rd m) (e : m.code = a) : Calls Try.prog 45 #[.pointer (some ⟨p, 0, none⟩)] w fun e w' => e = .returned (.int .u32 a) ∧ w = w' := by
  subst e
  exact mach_Code h
theorem seen_Trap {w : World} {B p c rd : Nat} {vm vo : Value} {A : Option Addr} {inp : List Int} {m : S.Mach} {a : Int} (h : MAt w B p vm vo A c inp rd m) (e : m.trap = a) : Calls Try.prog 46 #[.pointer (some ⟨p, 0, none⟩)] w fun e w' => e = .returned (.int .i64 a) ∧ w = w' := by
  subst e
  exact mach_Trap h
theorem seen_Steps {w : World} {B p c rd : Nat} {vm vo : Value} {A : Option Addr} {inp : List Int} {m : S.Mach} {a : Int} (h : MAt w B p vm vo A c inp rd m) (e : m.steps = a) : Calls Try.prog 36 #[.pointer (some ⟨p, 0, none⟩)] w fun e w' => e = .returned (.int .i64 a) ∧ w = w' := by
  subst e
  exact mach_Steps h

set_option maxRecDepth 100000 in
set_option maxHeartbeats 8000000 in
theorem law2_same {w : World} {B p q c c2 rd rd2 : Nat} {vm vo vm2 vo2 : Value} {A A2 : Option Addr} {inp inp2 : List Int} {m n : S.Mach} (hM : MAt w B p vm vo A c inp rd m) (hQ : MAt w B q vm2 vo2 A2 c2 inp2 rd2 n) (hmn : m.Seen n) (hol : m.out.length ≤ 1000000) :
    Calls Try.prog 22 #[.pointer (some ⟨p, 0, none⟩), .pointer (some ⟨q, 0, none⟩), .int .i64 300] w fun e w' => e = .returned (.bool true) ∧ Below w.heap.size w w' := by
  have HM := Lib.hid hM
  have HQ := Lib.hid hQ
  have HS := Lib.hid hmn
  clear hM hQ hmn
  go_enter Try.func22, Try.ntmps22
  go_wp2_with fail
  go_loopw [7] (fun v wr => ∃ i : Nat, i ≤ 32 ∧ v = .int .i64 i ∧ wr = w) (fun v _ => 32 - (intOf v).toNat)
  case atStart => exact ⟨0, by omega, rfl, rfl⟩
  case round =>
    obtain ⟨i, hi, rfl, rfl⟩ := hrel
    by_cases hlt : i < 32
    · go_wp2_with fail
      refine (mach_Reg _ HM.out).mono ?_
      rintro e w2 ⟨rfl, rfl⟩
      have hv := HS.out.regV i
      generalize m.regV i = rv at *
      go_wp2_with fail
      refine (mach_Reg _ HQ.out).mono ?_
      rintro e w2 ⟨rfl, rfl⟩
      rw [hv]
      clear hv
      go_wp2_with fail
      go_roundw
      all_goals first
        | exact ⟨i + 1, by omega, by first | rfl | go_num, by first | trivial | rfl⟩
        | exact ⟨⟨i + 1, by omega, by first | rfl | go_num, by first | trivial | rfl⟩, by simp only [intOf]; omega⟩
        | (simp only [intOf]; omega)
    · go_wp2_with fail
      go_loopw [8] (fun v w2 => ∃ i : Nat, i ≤ 300 ∧ v = .int .i64 i ∧ Below wr.heap.size wr w2) (fun v _ => 300 - (intOf v).toNat)
      case atStart => exact ⟨0, by omega, rfl, Below.refl _ _⟩
      case round =>
        obtain ⟨i, hi, rfl, hb2⟩ := hrel
        have HM2 := Lib.hid (HM.out.below hb2)
        have HQ2 := Lib.hid (HQ.out.below hb2)
        by_cases hlt2 : i < 300
        · have hv := HS.out.memV i
          have hvb := HS.out.memB i
          go_wp2_with fail
          refine (mach_Mem _ HM2.out).mono ?_
          rintro e w3 ⟨rfl, n3, hn3⟩
          have hb3 := below_drewN hb2 n3
          rw [← hn3] at hb3
          have HQ3 := Lib.hid (HQ.out.below hb3)
          clear hn3
          generalize m.memV i = rv at *
          generalize m.memB i = rb at *
          go_wp2_with fail
          refine (mach_Mem _ HQ3.out).mono ?_
          rintro e w4 ⟨rfl, n4, hn4⟩
          have hb4 := below_drewN hb3 n4
          rw [← hn4] at hb4
          rw [hv, hvb]
          clear hn4 hv hvb hb3
          go_wp2_with fail
          go_roundw
          all_goals first
            | exact ⟨i + 1, by omega, by first | rfl | go_num, hb4⟩
            | exact ⟨⟨i + 1, by omega, by first | rfl | go_num, hb4⟩, by simp only [intOf]; omega⟩
            | (simp only [intOf]; omega)
        · obtain ⟨e1, e2, e3, e4, e5, e6, e7, e8⟩ := HS.out
          go_upto_region 13 with fail
          refine wp_region_ext_any 34 (Array.replicate 34 true ++ Array.replicate 9 false) (by kernel_rfl) (by kernel_rfl) ?_
          have hE := ext_cells wr
          have hES := ext_size wr
          simp only [List.take_succ_cons, List.take_zero]
          repeat (first
            | go_big_quiet_step ((first
              | (go_at_call 19; first | exact ext_of_same (seen_Place (HM2.out.below (Subtype.property _)) rfl) | exact ext_of_same (seen_Place (HQ2.out.below (Subtype.property _)) e3))
              | (go_at_call 21; first | exact ext_of_same (seen_State (HM2.out.below (Subtype.property _)) rfl) | exact ext_of_same (seen_State (HQ2.out.below (Subtype.property _)) e4))
              | (go_at_call 45; first | exact ext_of_same (seen_Code (HM2.out.below (Subtype.property _)) rfl) | exact ext_of_same (seen_Code (HQ2.out.below (Subtype.property _)) e5))
              | (go_at_call 46; first | exact ext_of_same (seen_Trap (HM2.out.below (Subtype.property _)) rfl) | exact ext_of_same (seen_Trap (HQ2.out.below (Subtype.property _)) e6))
              | (go_at_call 36; first | exact ext_of_same (seen_Steps (HM2.out.below (Subtype.property _)) rfl) | exact ext_of_same (seen_Steps (HQ2.out.below (Subtype.property _)) e7)))))
          refine wpQuiet_nil ?_
          rintro _ ⟨⟨w5, hb5⟩, rfl⟩
          have HM5 := Lib.hid (HM2.out.below hb5)
          have HQ5 := Lib.hid (HQ2.out.below hb5)
          have hb5z := hb2.trans (hb5.mono hb2.size)
          clear hE hES hb5
          change wpAny _ _ _ _ 9 _ _ _
          refine wpAny_take (i := 34) (v := ?v34n1) rfl (by kernel_rfl) (by kernel_rfl) (by kernel_rfl) (fun _ _ _ h => h) (Or.inl ⟨by rfl, ?y34n1⟩) ?z34n1
          case y34n1 => (intro w; first | (go_simp; done) | (go_simp; with_reducible rfl))
          refine wpAny_take (i := 37) (v := ?v37n2) rfl (by kernel_rfl) (by kernel_rfl) (by kernel_rfl) (fun _ _ _ h => h) (Or.inl ⟨by rfl, ?y37n2⟩) ?z37n2
          case y37n2 => (intro w; first | (go_simp; done) | (go_simp; with_reducible rfl))
          refine wpAny_ready (rs := [35]) (by kernel_rfl) (by simp) ?_
          refine AllReady.cons rfl (fun K hK => ?_) ?_
          · go_simp
            go_wp2_with (go_at_call 37; refine (mach_Out HM5.out hol).mono ?_; rintro e w6 ⟨A6, c6, rfl, ho6, hb6⟩)
            have hs6 := conv_row ho6
            have HQ6 := Lib.hid (HQ5.out.below hb6)
            have hb6z := hb5z.trans (hb6.mono hb5z.size)
            have HO6 := Lib.hid ho6
            clear ho6 hb6 hb5z
            refine wpAny_ready (rs := [36, 38]) (by kernel_rfl) (by simp) ?_
            refine AllReady.cons rfl (fun K hK => ?_) ?_
            · go_simp
              refine hK _ _ ?_
              clear hK K
              refine wpAny_ready (rs := [38]) (by kernel_rfl) (by simp) ?_
              refine AllReady.cons rfl (fun K hK => ?_) ?_
              · go_simp
                go_wp2_with (go_at_call 37; refine (mach_Out HQ6.out (by rw [e8]; exact hol)).mono ?_; rintro e w7 ⟨A7, c7, rfl, ho7, hb7⟩)
                have hs67 := conv_row (ownsRow_below HO6.out hb7)
                have hs7 := conv_row ho7
                rw [e8] at hs7
                have hbz : Below _ _ w7 := hb6z.trans (hb7.mono hb6z.size)
                try rw [e8]
                clear ho7 hb7 hb6z
                refine wpAny_ready (rs := [39]) (by kernel_rfl) (by simp) ?_
                refine AllReady.cons rfl (fun K hK => ?_) ?_
                · go_simp
                  refine hK _ _ ?_
                  clear hK K
                  refine wpAny_take (i := 40) (v := ?v40n3) rfl (by kernel_rfl) (by kernel_rfl) (by kernel_rfl) (fun _ _ _ h => h) (Or.inl ⟨by rfl, ?y40n3⟩) ?z40n3
                  case y40n3 => (intro w; first | (go_simp; done) | (go_simp; with_reducible rfl))
                  refine wpAny_take (i := 41) (v := ?v41n4) rfl (by kernel_rfl) (by kernel_rfl) (by kernel_rfl) (fun _ _ _ h => h) (Or.inl ⟨by rfl, ?y41n4⟩) ?z41n4
                  case y41n4 => (intro w; first | (go_simp; done) | (go_simp; with_reducible rfl))
                  refine wpAny_take (i := 42) (v := ?v42n5) rfl (by kernel_rfl) (by kernel_rfl) (by kernel_rfl) (fun _ _ _ h => h) (Or.inl ⟨by rfl, ?y42n5⟩) ?z42n5
                  case y42n5 => (intro w; first | (go_simp; done) | (go_simp; with_reducible rfl))
                  refine wpAny_done (by kernel_rfl) ?_ _
                  go_wp2_with fail
                  go_ret
                  all_goals exact ⟨rfl, by assumption⟩
                exact AllReady.nil
              exact AllReady.nil
            refine AllReady.cons rfl (fun K hK => ?_) ?_
            · go_simp
              go_wp2_with (go_at_call 37; refine (mach_Out HQ6.out (by rw [e8]; exact hol)).mono ?_; rintro e w7 ⟨A7, c7, rfl, ho7, hb7⟩)
              have hs67 := conv_row (ownsRow_below HO6.out hb7)
              have hs7 := conv_row ho7
              rw [e8] at hs7
              have hbz : Below _ _ w7 := hb6z.trans (hb7.mono hb6z.size)
              try rw [e8]
              clear ho7 hb7 hb6z
              refine wpAny_ready (rs := [36, 39]) (by kernel_rfl) (by simp) ?_
              refine AllReady.cons rfl (fun K hK => ?_) ?_
              · go_simp
                refine hK _ _ ?_
                clear hK K
                refine wpAny_ready (rs := [39]) (by kernel_rfl) (by simp) ?_
                refine AllReady.cons rfl (fun K hK => ?_) ?_
                · go_simp
                  refine hK _ _ ?_
                  clear hK K
                  refine wpAny_take (i := 40) (v := ?v40n6) rfl (by kernel_rfl) (by kernel_rfl) (by kernel_rfl) (fun _ _ _ h => h) (Or.inl ⟨by rfl, ?y40n6⟩) ?z40n6
                  case y40n6 => (intro w; first | (go_simp; done) | (go_simp; with_reducible rfl))
                  refine wpAny_take (i := 41) (v := ?v41n7) rfl (by kernel_rfl) (by kernel_rfl) (by kernel_rfl) (fun _ _ _ h => h) (Or.inl ⟨by rfl, ?y41n7⟩) ?z41n7
                  case y41n7 => (intro w; first | (go_simp; done) | (go_simp; with_reducible rfl))
                  refine wpAny_take (i := 42) (v := ?v42n8) rfl (by kernel_rfl) (by kernel_rfl) (by kernel_rfl) (fun _ _ _ h => h) (Or.inl ⟨by rfl, ?y42n8⟩) ?z42n8
                  case y42n8 => (intro w; first | (go_simp; done) | (go_simp; with_reducible rfl))
                  refine wpAny_done (by kernel_rfl) ?_ _
                  go_wp2_with fail
                  go_ret
                  all_goals exact ⟨rfl, by assumption⟩
                exact AllReady.nil
              refine AllReady.cons rfl (fun K hK => ?_) ?_
              · go_simp
                refine hK _ _ ?_
                clear hK K
                refine wpAny_ready (rs := [36]) (by kernel_rfl) (by simp) ?_
                refine AllReady.cons rfl (fun K hK => ?_) ?_
                · go_simp
                  refine hK _ _ ?_
                  clear hK K
                  refine wpAny_take (i := 40) (v := ?v40n9) rfl (by kernel_rfl) (by kernel_rfl) (by kernel_rfl) (fun _ _ _ h => h) (Or.inl ⟨by rfl, ?y40n9⟩) ?z40n9
                  case y40n9 => (intro w; first | (go_simp; done) | (go_simp; with_reducible rfl))
                  refine wpAny_take (i := 41) (v := ?v41n10) rfl (by kernel_rfl) (by kernel_rfl) (by kernel_rfl) (fun _ _ _ h => h) (Or.inl ⟨by rfl, ?y41n10⟩) ?z41n10
                  case y41n10 => (intro w; first | (go_simp; done) | (go_simp; with_reducible rfl))
                  refine wpAny_take (i := 42) (v := ?v42n11) rfl (by kernel_rfl) (by kernel_rfl) (by kernel_rfl) (fun _ _ _ h => h) (Or.inl ⟨by rfl, ?y42n11⟩) ?z42n11
                  case y42n11 => (intro w; first | (go_simp; done) | (go_simp; with_reducible rfl))
                  refine wpAny_done (by kernel_rfl) ?_ _
                  go_wp2_with fail
                  go_ret
                  all_goals exact ⟨rfl, by assumption⟩
                exact AllReady.nil
              exact AllReady.nil
            exact AllReady.nil
          exact AllReady.nil

end Go.Proofs.Ytbgdomnalimjnaa
