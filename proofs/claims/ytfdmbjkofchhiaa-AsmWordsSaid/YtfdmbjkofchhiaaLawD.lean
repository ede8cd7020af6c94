/- Walk of the law AsmWords. -/
import Derived.Test.YtfdmbjkofchhiaaLawC
set_option linter.unusedVariables false
set_option linter.unusedSimpArgs false
set_option linter.unusedSectionVars false
namespace Go.Proofs.Ytfdmbjkofchhiaa
open Go.RowKit

theorem formsRes_len {xs : List S.Item} {base r : Int} {F : List Int} (h : S.FormsRes xs base r F) : F.length ≤ xs.length := by
  rcases h with ⟨_, _, h⟩ | ⟨_, _, h, _⟩ | ⟨_, _, h, _⟩
  · simp [h]
  · simp [h]
  · rw [h.1.1]; exact Nat.le_refl _
theorem formsRes_small {xs : List S.Item} {base r : Int} {F : List Int} (h : S.FormsRes xs base r F) (hw : ∀ x ∈ xs, 0 ≤ x.word ∧ x.word ≤ 4294967295) :
    (if r = 0 then S.outTo xs F base xs.length else []).length ≤ 67108864 ∧ (if r = 0 then S.placesTo xs F base xs.length else []).length ≤ xs.length := by
  by_cases e : r = 0
  · subst e
    simpa using formsRes_bd h hw
  · simp [e]

set_option maxRecDepth 100000 in
set_option maxHeartbeats 4000000 in
theorem law_AsmWords (A : Option Addr) (c : Nat) (xs : List S.Item) (base : Int) (w : World) (hi : Items w w.heap.size A xs) (hlab : ∀ (k : Nat) (x : S.Item), xs[k]? = some x → x.label.size ≤ maxLen) :
    Calls Try.prog 3 #[.slice A xs.length c, .int .i64 base] w fun e w' => e = .returned (.bool true) ∧ Below w.heap.size w w' := by
  have Hlab := Lib.hid hlab
  have Hw := Lib.hid hi.words
  clear hlab
  go_enter Try.func3, Try.ntmps3
  go_wp2_with fail
  refine (law_large _ _ _ _ _ hi).mono ?_
  rintro e _ ⟨b, rfl, hb60, rfl⟩
  cases b
  rotate_left
  · clear hb60
    go_wp2_with fail
    refine (law_awake _).mono ?_
    rintro e w1 ⟨rfl, hb⟩
    go_wp2_with fail
    go_ret
    exact ⟨rfl, hb⟩
  · have h60 := hb60 rfl
    clear hb60
    go_wp2_with fail
    refine (asm_Assemble _ _ _ _ _ hi (by omega) Hlab.out).mono ?_
    rintro e w1 ⟨vo, vp, r, F, rfl, hres, ho1, hp1, hb1⟩
    have Hres := Lib.hid hres
    obtain ⟨hs1, hs2⟩ := formsRes_small hres Hw.out
    clear hres
    have hz1 := hb1.size
    go_wp2_with fail
    refine (ref_Assemble _ _ _ _ _ ((hi.below hb1).more hz1) (by omega)).mono ?_
    rintro e w2 ⟨vo', vp', r', F', rfl, hres', ho2, hp2, hb2⟩
    obtain ⟨e0, eF⟩ := formsRes_fun Hres.out hres'
    subst e0 eF
    clear hres'
    generalize (if r = 0 then S.outTo xs F base xs.length else []) = L at *
    generalize (if r = 0 then S.placesTo xs F base xs.length else []) = M at *
    have ho1' := ownsRow_below ho1 hb2
    have hp1' := ownsRow_below hp1 hb2
    obtain ⟨Ao, co, rfl⟩ := ownsRow_form ho1
    obtain ⟨Ap, cp, rfl⟩ := ownsRow_form hp1
    obtain ⟨Ao', co', rfl⟩ := ownsRow_form ho2
    obtain ⟨Ap', cp', rfl⟩ := ownsRow_form hp2
    have hr1 := Reads.of_own ho1'
    have hr2 := Reads.of_own ho2
    have hq1 := ReadsP.of_own hp1'
    have hq2 := ReadsP.of_own hp2
    have hb02 := hb1.trans (hb2.mono hz1)
    have hz2 := hb02.size
    have hrr : (r != r) = false := by simp
    clear ho1 ho1' hp1 hp1' ho2 hp2
    go_wp2_with fail
    refine (ref_Same _ _ _ _ _ _ L _ hr1 hr2 (by omega)).mono ?_
    rintro e w3 ⟨rfl, hb3⟩
    go_wp2_with fail
    refine (ref_Places _ _ _ _ _ _ M _ (hq1.below hb3) (hq2.below hb3) (by omega)).mono ?_
    rintro e w4 ⟨rfl, hb4⟩
    have hz3 := hb3.size
    have hb04 := hb02.trans ((hb3.trans (hb4.mono hz3)).mono hz2)
    have hz4 := hb04.size
    clear hr1 hr2 hq1 hq2 hb1 hb2 hb3 hb4 hs1 hs2 hz1 hz2 hz3
    go_wp2_with fail
    refine (asm_Forms _ _ _ _ _ ((hi.below hb04).more hz4) (by omega) Hlab.out).mono ?_
    rintro e w5 ⟨v, r1, F1, rfl, hres1, hF1, hb5⟩
    obtain ⟨e1, eF1⟩ := formsRes_fun Hres.out hres1
    subst e1 eF1
    clear hres1
    have hb05 := hb04.trans (hb5.mono hz4)
    have hz5 := hb05.size
    go_wp2_with fail
    refine (ref_Forms _ _ _ _ _ ((hi.below hb05).more hz5) (by omega)).mono ?_
    rintro e w6 ⟨v', r2, F2, rfl, hres2, hF2, hb6⟩
    obtain ⟨e2, eF2⟩ := formsRes_fun Hres.out hres2
    subst e2 eF2
    clear hres2
    have hb06 := hb05.trans (hb6.mono hz5)
    have hz6 := hb06.size
    have hF1' := ownsRow_below hF1 hb6
    obtain ⟨A1, c1, rfl⟩ := ownsRow_form hF1
    obtain ⟨A2, c2, rfl⟩ := ownsRow_form hF2
    have hI1 := Ints.of_own hF1'
    have hI2 := Ints.of_own hF2
    have hi6 := hi.below hb06
    have hFl := formsRes_len Hres.out
    have hll : ((F.length : Int) != F.length) = false := by simp
    clear hF1 hF1' hF2 hb5 hb6 hb04 hb05 hz4 hz5
    go_wp2_with fail
    go_loopw [13] (fun i wr => ∃ k : Nat, k ≤ F.length ∧ i = .int .i64 k ∧ Below w6.heap.size w6 wr) (fun i _ => F.length - (intOf i).toNat)
    case atStart => exact ⟨0, by omega, rfl, Below.refl _ _⟩
    case round =>
      obtain ⟨k, hk, rfl, hbk⟩ := hrel
      have hzk := hbk.size
      by_cases hlt : k < F.length
      · obtain ⟨b, off, x, rfl, hb, hx, hc0, hc1, hc2, hc3, hc4, hc5, hc6, hc7, hw0, hw1⟩ := (hi6.below (hbk.mono hz6)).at_ (k := k) (by omega)
        obtain ⟨b1, o1, rfl, hbb1, hd1⟩ := (hI1.below hbk).at_ hlt
        obtain ⟨b2, o2, rfl, hbb2, hd2⟩ := (hI2.below hbk).at_ hlt
        have hbr : b < wr.heap.size ∧ b1 < wr.heap.size ∧ b2 < wr.heap.size ∧ k < xs.length := by omega
        obtain ⟨g0, g1, g2, g3⟩ := hbr
        clear hx hc0 hc2 hc3 hc4 hc5 hc6 hc7
        generalize F.getD k 0 = fk at *
        generalize x.inst.op = op at *
        have hff : (fk != fk) = false := by simp
        have htt : (S.turned op != S.turned op) = false := by simp
        go_wp2_with fail
        refine wp_region_ext (by kernel_rfl) (by kernel_rfl) ?_
        have hE := ext_cells wr
        repeat (first
          | go_big_quiet_step ((first
            | (go_at_call 15; exact ext_of_same (asm_Turned _ _))
            | (go_at_call 16; exact ext_of_same (ref_Turned _ _)))))
        refine wpQuiet_nil ?_
        intro w7 hx7
        have hb7 := ext_out hx7
        clear hE hx7
        go_wp2_with fail
        go_roundw
        case rel => exact ⟨k + 1, by omega, by go_num, hbk.trans (hb7.mono hzk)⟩
        case measure => simp [intOf]; omega
      · go_wp2_with fail
        refine (law_awake _).mono ?_
        rintro e w7 ⟨rfl, hb7⟩
        go_wp2_with fail
        go_ret
        exact ⟨rfl, (hb06.trans (hbk.mono hz6)).trans (hb7.mono (by omega))⟩

end Go.Proofs.Ytfdmbjkofchhiaa
