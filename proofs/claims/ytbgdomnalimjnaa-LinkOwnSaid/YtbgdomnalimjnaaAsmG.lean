/- Walk of pennantref03.Forms. -/
import Derived.Test.YtbgdomnalimjnaaAsmD
import Derived.Test.YtbgdomnalimjnaaAsmE
import Derived.Test.YtbgdomnalimjnaaAsmF
import Derived.Test.YtbgdomnalimjnaaAsmLfp
import Derived.Deep.LoopGhost
set_option linter.unusedVariables false
set_option linter.unusedSimpArgs false
set_option linter.unusedSectionVars false
namespace Go.Proofs.Ytbgdomnalimjnaa
open Go.RowKit

theorem named_stands {xs : List S.Item} {base : Int} (h : S.CheckRes xs base 0) {i : Nat} {x : S.Item} (hx : xs[i]? = some x) (hn : S.named x = true) : 0 ≤ S.stands xs x.label := by
  rcases h with ⟨_, h⟩ | ⟨_, _, h, h'⟩ | ⟨_, _, _, _, h⟩ | ⟨_, _, _, _, _, h⟩ | ⟨_, _, _, _, hm, _⟩
  · omega
  · omega
  · omega
  · omega
  · have : ¬ S.stands xs x.label < 0 := fun hlt => hm ⟨i, x, hx, hn, hlt⟩
    omega
theorem base_ok {xs : List S.Item} {base : Int} (h : S.CheckRes xs base 0) : 0 ≤ base ∧ base ≤ 67108864 := by
  rcases h with ⟨_, h⟩ | ⟨h0, h1, _⟩ | ⟨h0, h1, _⟩ | ⟨h0, h1, _⟩ | ⟨h0, h1, _⟩
  · omega
  all_goals exact ⟨h0, h1⟩

set_option maxRecDepth 100000 in
set_option maxHeartbeats 4000000 in
theorem ref_Forms (A : Option Addr) (c : Nat) (xs : List S.Item) (base : Int) (w : World) (hi : Items w w.heap.size A xs) (hl : xs.length ≤ 1048576) :
    Calls Try.prog 90 #[.slice A xs.length c, .int .i64 base] w
      fun e w' => ∃ v r F, e = .returned (.tuple #[v, .int .i64 r]) ∧ S.FormsRes xs base r F ∧ w'.ownsRow w.heap.size 3 1 v F.length (F.map (Value.int .i64)) ∧ Below w.heap.size w w' := by
  have hw := Lib.hid hi.words
  go_enter Try.func90, Try.ntmps90
  go_wp2_with fail
  refine (ref_CheckItems _ _ _ _ _ hi hl).mono ?_
  rintro e w1 ⟨r, rfl, hres, hb1⟩
  by_cases hr : r = 0
  · subst hr
    obtain ⟨hb0, hb26⟩ := base_ok hres
    have Hres := Lib.hid hres
    clear hres
    have hz1 := hb1.size
    go_wp2_with fail
    go_loopw [7, 8] (fun v i wr => ∃ k : Nat, k ≤ xs.length ∧ i = .int .i64 k ∧ wr.ownsRow w.heap.size 3 1 v k (((xs.take k).map S.startForm).map (Value.int .i64)) ∧ Below w.heap.size w wr) (fun _ i _ => xs.length - (intOf i).toNat)
    case atStart => exact ⟨0, by omega, rfl, by simpa using World.ownsRow_nil _ _ _ _, hb1⟩
    case round =>
      obtain ⟨k, hk, rfl, ho, hbk⟩ := hrel
      have hzk := hbk.size
      by_cases hlt : k < xs.length
      · obtain ⟨b, off, x, rfl, hb, hx, hc0, hc1, hc2, hc3, hc4, hc5, hc6, hc7, hw0, hw1⟩ := (hi.below hbk).at_ hlt
        have Hx := Lib.hid hx
        clear hx hc1 hc2 hc3 hc4 hc5 hc6 hc7
        have hst : S.startForm x = 1 ∧ ((x.kind == 3) = true ∨ ((x.kind == 3) = false ∧ (x.kind == 4) = true)) ∨ S.startForm x = 0 ∧ (x.kind == 3) = false ∧ (x.kind == 4) = false := by
          unfold S.startForm; by_cases a : x.kind = 3 <;> by_cases b : x.kind = 4 <;> simp [a, b]
        rcases hst with ⟨hs, h3 | ⟨h3, h4⟩⟩ | ⟨hs, h3, h4⟩
        all_goals
          have Hs := Lib.hid hs
          clear hs
          go_wp2_with (at_builtin
                       refine wpList_push rfl (.tmp 38) (.tmp 40) _ rfl w.heap.size 3 int_info Try.underlying82 rfl (by decide) #[.int .i64 _] _ _ _ rfl ho rfl rfl rfl (by simp [Value.oneCell']) (by simp only [maxLen]; omega) (by omega) (by omega) ?_
                       intro v' w' hown1 hg1 hb2 hat1)
          go_roundw
          case rel =>
            refine ⟨k + 1, by omega, by go_num, ?_, hbk.trans hb2⟩
            have e : xs.take (k + 1) = xs.take k ++ [x] := by rw [List.take_add_one, Hx.out]; rfl
            rw [e, List.map_append, List.map_append, List.map_singleton, List.map_singleton, Hs.out]
            exact hown1
          case measure => simp [intOf]; omega
      · have hkl : k = xs.length := by omega
        subst hkl
        rw [List.take_length] at ho
        obtain ⟨Af, cf, rfl⟩ := ownsRow_form ho
        go_wp2_with fail
        go_loopg [11] (room (xs.map S.startForm)) (fun m i wr => ∃ F, m = room F ∧ S.Inv xs base F ∧ wr.ownsRow w.heap.size 3 1 (.slice Af xs.length cf) xs.length (F.map (Value.int .i64)) ∧ Below w.heap.size w wr)
        case atStart => exact ⟨_, rfl, form_start xs base, ho, hbk⟩
        case round =>
          obtain ⟨F, hm, hinv, hoF, hbF⟩ := hrel
          have Hm := Lib.hid hm
          have Hinv := Lib.hid hinv
          have HFl := Lib.hid hinv.1.1
          clear hm hinv ho hbk hzk
          have hzF := hbF.size
          have hiF : Items wr wr.heap.size A xs := (hi.below hbF).more hzF
          have hIF : Ints wr wr.heap.size Af F := Ints.of_own hoF
          have hAt := ref_At A Af c cf xs F base wr hiF hIF Hinv.out.1 hl hb0 hb26 hw.out
          rw [HFl.out] at hAt
          have HAt := Lib.hid hAt
          clear hAt
          go_wp2_with fail
          refine HAt.out.mono ?_
          rintro e w2 ⟨va, rfl, hoa, hb2⟩
          obtain ⟨Aa, ca, rfl⟩ := ownsRow_form hoa
          have hIa : Ints w2 w2.heap.size Aa (addrs xs F base (xs.length + 1)) := Ints.of_own hoa
          obtain ⟨ga, oa, hA0, hga, hca⟩ := hIa.some_ (addrs_some xs F base (xs.length + 1) xs.length (by omega))
          subst hA0
          have hz2 := hb2.size
          have hoF2 := ownsRow_below hoF hb2
          by_cases hlong : 67108864 < S.addr xs F base xs.length
          · go_wp2_with fail
            go_ret2
            refine ⟨_, 3, [], rfl, .inr (.inl ⟨Hres.out, rfl, rfl, F, Hinv.out, hlong⟩), World.ownsRow_nil _ _ _ _, hbF.trans (hb2.mono hzF)⟩
          · have hlong' : S.addr xs F base xs.length ≤ 67108864 := by omega
            clear hlong
            go_wp2_with fail
            have hbF2 := hbF.trans (hb2.mono hzF)
            have hiF2 : Items w2 w2.heap.size A xs := (hi.below hbF2).more hbF2.size
            have hIF2 : Ints w2 w2.heap.size Af F := Ints.of_own hoF2
            go_loopw [11] (fun i w3 => ∃ j : Nat, j ≤ xs.length ∧ i = .int .i64 j ∧ (∀ m x, m < j → xs[m]? = some x → S.fit xs F base m x = true) ∧ Below w2.heap.size w2 w3) (fun i _ => xs.length - (intOf i).toNat)
            case atStart => exact ⟨0, by omega, rfl, fun m x hm => by omega, Below.refl _ _⟩
            case round =>
              obtain ⟨j, hj, rfl, hfits, hb3⟩ := hrel
              have Hfits := Lib.hid hfits
              clear hfits
              have hz3 := hb3.size
              by_cases hlt : j < xs.length
              · obtain ⟨x, Hx⟩ : ∃ x, Hid (xs[j]? = some x) := ⟨xs[j], List.getElem?_eq_getElem hlt⟩
                have hfc := ref_fits A Af (some ⟨ga, oa, none⟩) c cf ca xs F base j x _ ((hiF2.below hb3).more hz3) ((hIF2.below hb3).more hz3) ((hIa.below hb3).more hz3) Hinv.out.1 Hx.out (named_stands Hres.out Hx.out) hl hb0 hb26 hw.out
                rw [HFl.out] at hfc
                have Hfc := Lib.hid hfc
                clear hfc
                rcases Bool.eq_false_or_eq_true (S.fit xs F base j x) with hf | hf
                · go_wp2_with (go_at_call 116; refine Hfc.out.mono ?_; rintro e w' ⟨rfl, hb4⟩)
                  go_roundw
                  case rel =>
                    refine ⟨j + 1, by omega, by go_num, fun m y hm hy => ?_, hb3.trans (hb4.mono hz3)⟩
                    by_cases hmj : m < j
                    · exact Hfits.out m y hmj hy
                    · have : m = j := by omega
                      subst this
                      rw [Hx.out] at hy; cases hy
                      exact hf
                  case measure => simp [intOf]; omega
                · go_wp2_with fail
                  refine Hfc.out.mono ?_
                  rintro e w4 ⟨rfl, hb4⟩
                  have ho4 := ownsRow_below (ownsRow_below hoF2 hb3) hb4
                  obtain ⟨gf, hA0, hgf1, hgf2, hgf3, hgf4, hgf5⟩ := ownsRow_at ho4 (by omega)
                  subst hA0
                  have hcj : w4.cell? ⟨gf, j, none⟩ = some (.int .i64 (F.getD j 0)) := by
                    rw [hgf4 j (by omega), List.getElem?_map, List.getD_eq_getElem?_getD]
                    have : j < F.length := by rw [HFl.out]; exact hlt
                    simp [this]
                  have hfj := hgf5 j
                  have hff := fit_false Hinv.out.1 Hx.out hf
                  have hfk : 1 ≤ F.getD j 0 ∧ F.getD j 0 ≤ 2 := by
                    rcases hff with ⟨_, h1, h2⟩ | ⟨_, h1⟩
                    · exact ⟨h1, h2⟩
                    · rw [h1]; omega
                  obtain ⟨hfk1, hfk2⟩ := hfk
                  have Hff := Lib.hid hff
                  have hjne : ((j : Int) == (xs.length : Int)) = false := int_bne (by omega)
                  have hst := ho4.stored j (.int .i64 (F.getD j 0 + 1))
                  have hgrow := Lib.hid (inv_grow Hinv.out Hinv.out hw.out Hx.out rfl hf)
                  have hroom := Lib.hid (room_set (F := F) (i := j) (by rw [HFl.out]; exact hlt) hfk2)
                  clear hff hgf4 hgf5 hca
                  generalize hfe : F.getD j 0 = fj at *
                  have Hfe := Lib.hid hfe
                  clear hfe
                  obtain ⟨hst1, hst2⟩ := hst
                  have hb24 : Below w.heap.size w w4 := hbF2.trans ((hb3.mono hbF2.size).trans (hb4.mono (Nat.le_trans hbF2.size hz3)))
                  have hbs : Below w.heap.size w (w4.setCell ⟨gf, j, none⟩ (.int .i64 (fj + 1))) := hb24.setCell hgf1 _
                  go_wp2_with fail
                  go_roundg (room (F.set j (fj + 1)))
                  case measure => rw [Hm.out]; exact hroom.out
                  case rel =>
                    refine ⟨_, rfl, hgrow.out, ?_, hbs⟩
                    rw [List.map_set]
                    exact hst1
              · have hjl : j = xs.length := by omega
                subst hjl
                have hbz : Below w.heap.size w _ := hbF2.trans (hb3.mono hbF2.size)
                go_wp2_with fail
                go_ret2
                refine ⟨_, 0, F, rfl, .inr (.inr ⟨Hres.out, rfl, Hinv.out, ⟨Hinv.out.1, fun m x hx => Hfits.out m x (List.getElem?_eq_some_iff.1 hx).1 hx⟩, hlong'⟩), ?_, hbz⟩
                rw [HFl.out]
                exact ownsRow_below hoF2 hb3
  · have hd := int_bne hr
    clear hr
    go_wp2_with fail
    go_ret2
    refine ⟨_, r, [], rfl, .inl ⟨by simpa using hd, hres, rfl⟩, World.ownsRow_nil _ _ _ _, hb1⟩

end Go.Proofs.Ytbgdomnalimjnaa
