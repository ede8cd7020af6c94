/- Walk of the law LinkImages. -/
import Derived.Test.YtbgdomnalimjnaaLinkN
set_option linter.unusedVariables false
set_option linter.unusedSimpArgs false
set_option linter.unusedSectionVars false
namespace Go.Proofs.Ytbgdomnalimjnaa
open Go.RowKit

set_option maxRecDepth 100000 in
set_option maxHeartbeats 8000000 in
theorem law_LinkImages (A : Option Addr) (c : Nat) (os : List S.Obj) (base : Int) (w : World) (hi : Objs w w.heap.size A os) (hl : os.length ≤ 9223372036854775807) (hil : ∀ (k : Nat) (o : S.Obj), os[k]? = some o → o.items.length ≤ 9223372036854775807) :
    Calls Try.prog 5 #[.slice A os.length c, .int .i64 base] w fun e w' => e = .returned (.bool true) ∧ Below w.heap.size w w' := by
  have Hil := Lib.hid hil
  have Hjw := Lib.hid (joined_words hi)
  clear hil
  go_enter Try.func5, Try.ntmps5
  go_wp2_with fail
  refine (law_few _ _ _ _ _ hi hl Hil.out).mono ?_
  rintro e _ ⟨b, rfl, hb, rfl⟩
  cases b
  · clear hb
    go_wp2_with fail
    refine (law4_works _).mono ?_
    rintro e w1 ⟨rfl, hb1⟩
    go_wp2_with fail
    go_ret
    exact ⟨rfl, hb1⟩
  · obtain ⟨f1, f2, f3, f4⟩ := few_bounds (hb rfl)
    have F3 := Lib.hid f3
    clear f3 f4 hb
    go_wp2_with fail
    refine (ref4_Items _ _ _ _ hi f1 f2 F3.out).mono ?_
    rintro e w1 ⟨v1, rfl, ho1, hb1⟩
    obtain ⟨A1, c1, rfl⟩ := ownsRow_form ho1
    have hI1 := Items.of_own ho1 Hjw.out
    have hz1 := hb1.size
    clear ho1
    go_wp2_with fail
    refine (link_Link _ _ _ _ _ ((hi.below hb1).more hz1) f1 f2 F3.out).mono ?_
    rintro e w2 ⟨vo, vp, r, L, P, rfl, hres, ho2, hp2, hb2⟩
    obtain ⟨sL, sP⟩ := linkRes_small hres Hjw.out f2
    have Hres := Lib.hid hres
    clear hres
    obtain ⟨Ao, co, rfl⟩ := ownsRow_form ho2
    obtain ⟨Ap, cp, rfl⟩ := ownsRow_form hp2
    have hR2 := Reads.of_own ho2
    have hP2 := ReadsP.of_own hp2
    have hI2 := hI1.below hb2
    have hb02 := hb1.trans (hb2.mono hz1)
    have hz2 := hb2.size
    clear ho2 hp2 hI1
    obtain ⟨x1, x2, x3⟩ := one_allocL w2 #[.slice Ao L.length co, .slice Ap P.length cp] 51
    go_upto_region 5 with fail
    generalize w2.alloc (.cells #[.slice Ao L.length co, .slice Ap P.length cp] 51) = w3 at *
    have hX0 : w3.cell? ⟨w2.heap.size, 0, none⟩ = some (.slice Ao L.length co) := by simp [World.cell?, x1]
    have hX1 : w3.cell? ⟨w2.heap.size, 1, none⟩ = some (.slice Ap P.length cp) := by simp [World.cell?, x1]
    have hz3 := x2.size
    have hb03 := hb02.trans (x2.mono (by omega))
    have hR3 := hR2.below x2
    have hP3 := hP2.below x2
    have hI3 := hI2.below (x2.mono hz2)
    clear x1 hR2 hP2 hI2 hb02 hb1 hb2
    go_wp2_with fail
    refine (ref4_Link _ _ _ _ _ ((hi.below hb03).more (by omega)) f1 f2 F3.out).mono ?_
    rintro e w4 ⟨vo', vp', r', L', P', rfl, hres', ho4, hp4, hb4⟩
    obtain ⟨e0, eL, eP⟩ := linkRes_fun Hres.out hres'
    subst e0 eL eP
    clear hres'
    obtain ⟨Ao', co', rfl⟩ := ownsRow_form ho4
    obtain ⟨Ap', cp', rfl⟩ := ownsRow_form hp4
    have hR4 := Reads.of_own ho4
    have hP4 := ReadsP.of_own hp4
    have hz4 := hb4.size
    have hY0 := (hb4.cell (p := ⟨w2.heap.size, 0, none⟩) (show w2.heap.size < w3.heap.size by omega)).trans hX0
    have hY1 := (hb4.cell (p := ⟨w2.heap.size, 1, none⟩) (show w2.heap.size < w3.heap.size by omega)).trans hX1
    have hb04 := hb03.trans (hb4.mono (by omega))
    have hRR := hR3.below (hb4.mono hz3)
    have hPP := (hP3.below (hb4.mono hz3))
    have hII := hI3.below (hb4.mono (by omega))
    clear ho4 hp4 hX0 hX1 hR3 hP3 hI3 hb03 hb4 x2
    go_wp2_with fail
    refine (ref4_Items _ _ _ _ ((hi.below hb04).more (by omega)) f1 f2 F3.out).mono ?_
    rintro e w5 ⟨v5, rfl, ho5, hb5⟩
    obtain ⟨A5, c5, rfl⟩ := ownsRow_form ho5
    have hI5 := Items.of_own ho5 Hjw.out
    have hz5 := hb5.size
    have hZ0 := (hb5.cell (p := ⟨w2.heap.size, 0, none⟩) (show w2.heap.size < w4.heap.size by omega)).trans hY0
    have hZ1 := (hb5.cell (p := ⟨w2.heap.size, 1, none⟩) (show w2.heap.size < w4.heap.size by omega)).trans hY1
    have hb05 := hb04.trans (hb5.mono (by omega))
    have hR5 := hRR.below (hb5.mono (by omega))
    have hR5' := hR4.below hb5
    have hP5 := hPP.below (hb5.mono (by omega))
    have hP5' := hP4.below hb5
    have hI5' := hII.below (hb5.mono (by omega))
    clear hRR hR4 hPP hP4 hII hb5 hY0 hY1 hb04
    have g2 : w2.heap.size < w5.heap.size := by omega
    go_wp2_with fail
    go_loopw [12] (fun i wr => ∃ (k n : Nat), k ≤ (S.joined os).length ∧ i = .int .i64 k ∧ wr = w5.drewN n) (fun i _ => (S.joined os).length - (intOf i).toNat)
    case atStart => exact ⟨0, 0, by omega, rfl, rfl⟩
    case round =>
      obtain ⟨k, n, hk, rfl, rfl⟩ := hrel
      by_cases hlt : k < (S.joined os).length
      · obtain ⟨b, off, x, rfl, hb, hx, q0, q1, q2, q3, q4, q5, q6, q7, _, _⟩ := hI5.at_ hlt
        obtain ⟨b', off', x', rfl, hb', hx', p0, p1, p2, p3, p4, p5, p6, p7, _, _⟩ := hI5'.at_ hlt
        rw [hx] at hx'
        cases hx'
        clear hx
        go_wp2_with fail
        go_quiet (fail)
        go_wp2_with fail
        go_roundw
        case rel => exact ⟨k + 1, _, by omega, by go_num, rfl⟩
        case measure => simp [intOf]; omega
      · have hrr : (r == r) = true := by simp
        go_wp2_with fail
        refine (ref4_Words _ _ _ _ _ _ L (w5.drewN n) hR5 hR5' (by omega)).mono ?_
        rintro e w6 ⟨rfl, hb6⟩
        have hb6' : Below w5.heap.size w5 w6 := (below_drewN (Below.refl _ _) n).trans hb6
        have hU1 := (hb6'.cell (p := ⟨w2.heap.size, 1, none⟩) g2).trans hZ1
        have hz6 := hb6'.size
        go_wp2_with fail
        refine (ref4_Places _ _ _ _ _ _ P w6 (hP5.below (hb6'.mono (by omega))) (hP5'.below (hb6'.mono (by omega))) (by omega)).mono ?_
        rintro e w7 ⟨rfl, hb7⟩
        have hz7 := hb7.size
        go_wp2_with fail
        refine (law4_works _).mono ?_
        rintro e w8 ⟨rfl, hb8⟩
        go_wp2_with fail
        go_ret
        exact ⟨rfl, (hb05.trans (hb6'.mono (by omega))).trans ((hb7.trans (hb8.mono hz7)).mono (by omega))⟩

end Go.Proofs.Ytbgdomnalimjnaa
