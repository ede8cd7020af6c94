/- Walk of the law LinkFinds. -/
import Derived.Test.YtbgdomnalimjnaaLinkN
set_option linter.unusedVariables false
set_option linter.unusedSimpArgs false
set_option linter.unusedSectionVars false
namespace Go.Proofs.Ytbgdomnalimjnaa
open Go.RowKit

theorem findP_append (a b : List (ByteArray × Int)) (s : ByteArray) : S.findP (a ++ b) s = if (S.findP a s).isSome = true then S.findP a s else S.findP b s := by
  induction a with
  | nil => simp [S.findP]
  | cons p r ih =>
    rw [List.cons_append, S.findP, S.findP, ih]
    by_cases h : p.1 = s
    · simp [h]
    · simp only [if_neg h]
theorem findP_take {L : List (ByteArray × Int)} {k : Nat} {n s : ByteArray} {v : Int} (h : L[k]? = some (n, v)) : S.findP (L.take (k + 1)) s = if (S.findP (L.take k) s).isSome = true then S.findP (L.take k) s else if n = s then some v else none := by
  have hk := (List.getElem?_eq_some_iff.1 h).1
  have he : L[k] = (n, v) := (List.getElem?_eq_some_iff.1 h).2
  rw [List.take_succ_eq_append_getElem hk, he, findP_append]
  rfl

set_option maxRecDepth 100000 in
set_option maxHeartbeats 8000000 in
theorem law_LinkFinds (A : Option Addr) (c : Nat) (os : List S.Obj) (base : Int) (s : ByteArray) (w : World) (hi : Objs w w.heap.size A os) (hl : os.length ≤ 9223372036854775807) (hil : ∀ (k : Nat) (o : S.Obj), os[k]? = some o → o.items.length ≤ 9223372036854775807) :
    Calls Try.prog 6 #[.slice A os.length c, .int .i64 base, .string s] w fun e w' => e = .returned (.bool true) ∧ Below w.heap.size w w' := by
  have Hil := Lib.hid hil
  have Hjw := Lib.hid (joined_words hi)
  clear hil
  go_enter Try.func6, Try.ntmps6
  go_wp2_with fail
  refine (law_few _ _ _ _ _ hi hl Hil.out).mono ?_
  rintro e _ ⟨b, rfl, hb, rfl⟩
  cases b
  · clear hb
    go_wp2_with fail
    refine (law4_works _).mono ?_
    rintro e w1 ⟨rfl, hb1⟩
    go_wp2_with fail
    go_ret
    exact ⟨rfl, hb1⟩
  · have h60 := (hb rfl).2
    obtain ⟨f1, f2, f3, f4⟩ := few_bounds (hb rfl)
    have f8 := (hb rfl).1
    have F3 := Lib.hid f3
    have F4 := Lib.hid f4
    have H60 := Lib.hid h60
    clear f3 f4 hb h60
    go_wp2_with fail
    refine (link_Link _ _ _ _ _ hi f1 f2 F3.out).mono ?_
    rintro e w2 ⟨vo, vp, r, L, P, rfl, hres, ho2, hp2, hb2⟩
    obtain ⟨sL, sP⟩ := linkRes_small hres Hjw.out f2
    have Hres := Lib.hid hres
    clear hres
    obtain ⟨Ao, co, rfl⟩ := ownsRow_form ho2
    obtain ⟨Ap, cp, rfl⟩ := ownsRow_form hp2
    have hP2 := ReadsP.of_own hp2
    have hz2 := hb2.size
    clear ho2 hp2
    obtain ⟨x1, x2, x3⟩ := one_allocL w2 #[.slice Ao L.length co, .slice Ap P.length cp] 51
    go_upto_region 4 with fail
    generalize w2.alloc (.cells #[.slice Ao L.length co, .slice Ap P.length cp] 51) = w3 at *
    have hX0 : w3.cell? ⟨w2.heap.size, 0, none⟩ = some (.slice Ao L.length co) := by simp [World.cell?, x1]
    have hX1 : w3.cell? ⟨w2.heap.size, 1, none⟩ = some (.slice Ap P.length cp) := by simp [World.cell?, x1]
    have hz3 := x2.size
    have hb03 := hb2.trans (x2.mono (by omega))
    have hP3 := hP2.below x2
    clear x1 hP2 hb2
    go_wp2_with fail
    refine (ref4_Link _ _ _ _ _ ((hi.below hb03).more (by omega)) f1 f2 F3.out).mono ?_
    rintro e w4 ⟨vo', vp', r', L', P', rfl, hres', ho4, hp4, hb4⟩
    obtain ⟨e0, eL, eP⟩ := linkRes_fun Hres.out hres'
    subst e0 eL eP
    clear hres'
    obtain ⟨Ao', co', rfl⟩ := ownsRow_form ho4
    obtain ⟨Ap', cp', rfl⟩ := ownsRow_form hp4
    have hP4 := ReadsP.of_own hp4
    have hz4 := hb4.size
    have hY0 := (hb4.cell (p := ⟨w2.heap.size, 0, none⟩) (show w2.heap.size < w3.heap.size by omega)).trans hX0
    have hY1 := (hb4.cell (p := ⟨w2.heap.size, 1, none⟩) (show w2.heap.size < w3.heap.size by omega)).trans hX1
    have hb04 := hb03.trans (hb4.mono (by omega))
    have hPP := (hP3.below (hb4.mono hz3))
    have g2 : w2.heap.size < w4.heap.size := by omega
    clear ho4 hp4 hX0 hX1 hP3 hb03 hb4 x2
    go_wp2_with fail
    refine (link_Find (.bool true) _ _ _ _ _ P s w4 (hPP.more (by omega)) sP).mono ?_
    rintro e w5 ⟨rfl, hb5⟩
    have hz5 := hb5.size
    have hb05 := hb04.trans (hb5.mono (by omega))
    have hP5 := hP4.below hb5
    clear hb5 hb04 hP4 hPP hY0 hY1
    go_wp2_with fail
    go_loopw [14, 15, 16] (fun v so i wr => ∃ (k n : Nat), k ≤ P.length ∧ i = .int .i64 k ∧ v = .int .i64 ((S.findP (P.take k) s).getD 0) ∧ so = .bool (S.findP (P.take k) s).isSome ∧ wr = w5.drewN n) (fun _ _ i _ => P.length - (intOf i).toNat)
    case atStart => exact ⟨0, 0, by omega, rfl, rfl, rfl, rfl⟩
    case round =>
      obtain ⟨k, n, hk, rfl, rfl, rfl, rfl⟩ := hrel
      by_cases hlt : k < P.length
      · obtain ⟨b, off, nm, v, rfl, hb, hx, hc0, hc1⟩ := hP5.at_ hlt
        have Ht := Lib.hid (findP_take (s := s) hx)
        clear hx
        cases hf : S.findP (P.take k) s with
        | some u =>
          rw [hf] at Ht
          have Ht' := Lib.hid (show S.findP (P.take (k + 1)) s = some u by rw [Ht.out]; rfl)
          by_cases hs : nm = s
          · have ds := lab_eq hs
            clear hs
            go_wp2_with fail
            go_roundw
            case rel => exact ⟨k + 1, n, by omega, by go_num, by rw [Ht'.out], by rw [Ht'.out], rfl⟩
            case measure => simp [intOf]; omega
          · have ds := lab_ne hs
            clear hs
            go_wp2_with fail
            go_roundw
            case rel => exact ⟨k + 1, n, by omega, by go_num, by rw [Ht'.out], by rw [Ht'.out], rfl⟩
            case measure => simp [intOf]; omega
        | none =>
          rw [hf] at Ht
          by_cases hs : nm = s
          · have ds := lab_eq hs
            have Ht' := Lib.hid (show S.findP (P.take (k + 1)) s = some v by rw [Ht.out, if_pos hs]; rfl)
            clear hs
            go_wp2_with fail
            go_roundw
            case rel => exact ⟨k + 1, n, by omega, by go_num, by rw [Ht'.out]; rfl, by rw [Ht'.out]; rfl, rfl⟩
            case measure => simp [intOf]; omega
          · have ds := lab_ne hs
            have Ht' := Lib.hid (show S.findP (P.take (k + 1)) s = none by rw [Ht.out, if_neg hs]; rfl)
            clear hs
            go_wp2_with fail
            go_roundw
            case rel => exact ⟨k + 1, n, by omega, by go_num, by rw [Ht'.out], by rw [Ht'.out], rfl⟩
            case measure => simp [intOf]; omega
      · have hke : k = P.length := by omega
        subst hke
        rw [List.take_length]
        have hi5 := hi.below hb05
        clear hP5
        go_wp2_with fail
        go_loop [17, 18] (fun m i => ∃ q : Nat, q ≤ os.length ∧ i = .int .i64 q ∧ m = .int .i64 (S.countO (os.take q))) (fun _ i => os.length - (intOf i).toNat)
        case atStart => exact ⟨0, by omega, rfl, rfl⟩
        case round =>
          obtain ⟨q, hq, rfl, rfl⟩ := hrel
          by_cases hql : q < os.length
          · obtain ⟨b, off, x, rfl, hb, hx, hc0, ⟨Ai, ci, hc1, hI⟩, hn, hlab⟩ := hi5.at_ hql
            have hil := (H60.out x (List.mem_of_getElem? hx)).1
            have hcb := countO_bd (os.take q) fun o ho => F4.out o (List.mem_of_mem_take ho)
            rw [List.length_take] at hcb
            obtain ⟨u0, u1⟩ := hcb
            have Hct := Lib.hid (countO_take hx)
            clear hx hlab
            generalize S.countO (os.take q) = n0 at *
            go_wp2_with fail
            go_loop [17, 19] (fun m i => ∃ t : Nat, t ≤ x.items.length ∧ i = .int .i64 t ∧ m = .int .i64 (n0 + S.countI (x.items.take t))) (fun _ i => x.items.length - (intOf i).toNat)
            case atStart => exact ⟨0, by omega, rfl, by simp [S.countI]⟩
            case round =>
              obtain ⟨t, ht, rfl, rfl⟩ := hrel
              have hib := countI_bd (x.items.take t)
              rw [List.length_take] at hib
              obtain ⟨i0, i1⟩ := hib
              by_cases htl : t < x.items.length
              · obtain ⟨bi, oi, y, rfl, hbi, hy, k0, k1, k2, k3, k4, k5, k6, k7, _, _⟩ := hI.at_ htl
                have Hci := Lib.hid (countI_take hy)
                clear hy
                generalize S.countI (x.items.take t) = m0 at *
                by_cases hk2 : y.kind = 2
                · have hd : (y.kind != 2) = false := by simp [hk2]
                  have Hk2 := Lib.hid hk2
                  clear hk2
                  go_wp2_with fail
                  go_round
                  case rel => exact ⟨t + 1, by omega, by go_num, by rw [Hci.out, if_pos Hk2.out]; simp⟩
                  case measure => simp [intOf]; omega
                · have hd : (y.kind != 2) = true := by simpa using hk2
                  have Hk2 := Lib.hid hk2
                  clear hk2
                  go_wp2_with fail
                  go_round
                  case rel => exact ⟨t + 1, by omega, by go_num, by rw [Hci.out, if_neg Hk2.out]; go_num⟩
                  case measure => simp [intOf]; omega
              · have hte : t = x.items.length := by omega
                have hfin : S.countO (os.take (q + 1)) = n0 + S.countI (x.items.take t) := by rw [Hct.out, hte, List.take_length]
                have Hfin := Lib.hid hfin
                clear hfin hte
                go_wp2_with fail
                go_round
                case rel => exact ⟨q + 1, by omega, by go_num, by rw [Hfin.out]⟩
                case measure => simp [intOf]; omega
          · have hqe : q = os.length := by omega
            subst hqe
            rw [List.take_length]
            generalize (S.findP P s).getD 0 = v0
            generalize (S.findP P s).isSome = b0
            have hvv : (v0 == v0) = true := by simp
            have hbb : (b0 == b0) = true := by simp
            have hcc : (S.countO os == S.countO os) = true := by simp
            go_wp2_with fail
            refine (link_Size _ _ _ (w5.drewN n) (show Objs (w5.drewN n) (w5.drewN n).heap.size _ os from (hi5.more (show w.heap.size ≤ w5.heap.size by omega)).below (below_drewN (Below.refl _ _) n)) f1 F4.out).mono ?_
            rintro e w6 ⟨rfl, hb6⟩
            have hb6' : Below w5.heap.size w5 w6 := (below_drewN (Below.refl _ _) n).trans hb6
            have hz6 := hb6'.size
            go_wp2_with fail
            refine (law4_works _).mono ?_
            rintro e w7 ⟨rfl, hb7⟩
            go_wp2_with fail
            go_ret
            exact ⟨rfl, (hb05.trans (hb6'.mono (by omega))).trans (hb7.mono (by omega))⟩

end Go.Proofs.Ytbgdomnalimjnaa
