/- Walk of pennantref04.Link. -/
import Derived.Test.YtbgdomnalimjnaaLinkJ
set_option linter.unusedVariables false
set_option linter.unusedSimpArgs false
set_option linter.unusedSectionVars false
namespace Go.Proofs.Ytbgdomnalimjnaa
open Go.RowKit

def Linked3 (os : List S.Obj) (base : Int) (w : World) (e : Ending) (w' : World) : Prop :=
  ∃ vo vp r L P, e = .returned (.tuple #[vo, vp, .int .i64 r]) ∧ LinkRes os base r L P ∧
    w'.ownsRow w.heap.size 34 1 vo L.length (L.map (Value.int .u32)) ∧ w'.ownsRow w.heap.size 64 2 vp P.length (P.flatMap placeCells) ∧ Below w.heap.size w w'

set_option maxRecDepth 100000 in
set_option maxHeartbeats 4000000 in
theorem ref4_Link (A : Option Addr) (c : Nat) (os : List S.Obj) (base : Int) (w : World) (hi : Objs w w.heap.size A os) (hl : os.length ≤ 1048576) (ht : (S.joined os).length ≤ 1048576)
    (hsz : ∀ (k : Nat) (o : S.Obj), os[k]? = some o → ∀ x ∈ o.items, o.name.size + x.label.size ≤ 9223372036854775807) :
    Calls Try.prog 27 #[.slice A os.length c, .int .i64 base] w (Linked3 os base w) := by
  have Hsz := Lib.hid hsz
  clear hsz
  go_enter Try.func27, Try.ntmps27
  go_wp2_with fail
  go_loopw [7] (fun i wr => ∃ k n : Nat, k ≤ os.length ∧ i = .int .i64 k ∧ NoDup os k ∧ wr = w.drewN n) (fun i _ => os.length - (intOf i).toNat)
  case atStart => exact ⟨0, 0, by omega, rfl, fun i j a b h => by omega, rfl⟩
  case round =>
    obtain ⟨k, n, hk, rfl, hd, rfl⟩ := hrel
    have Hd := Lib.hid hd
    clear hd
    by_cases hlt : k < os.length
    · obtain ⟨b, off, x, rfl, hb, hx, hc0, _, hn, _⟩ := hi.at_ hlt
      have Hx := Lib.hid hx
      clear hx
      go_wp2_with fail
      go_loopw [8] (fun i wr => ∃ j m : Nat, j ≤ k ∧ i = .int .i64 j ∧ (∀ (q : Nat) (y : S.Obj), q < j → os[q]? = some y → x.name ≠ y.name) ∧ wr = w.drewN m) (fun i _ => k - (intOf i).toNat)
      case atStart => exact ⟨0, n, by omega, rfl, fun q y h => by omega, rfl⟩
      case round =>
        obtain ⟨j, m, hj, rfl, hne, rfl⟩ := hrel
        have Hne := Lib.hid hne
        clear hne
        by_cases hjl : j < k
        · obtain ⟨b2, off2, y, e2, _, hy, hd0, _, hn2, _⟩ := hi.at_ (k := j) (by omega)
          cases e2
          have Hy := Lib.hid hy
          clear hy
          by_cases hs : x.name = y.name
          · have ds := lab_eq hs
            have Hs := Lib.hid hs
            clear hs
            go_wp2_with fail
            go_quiet (fail)
            go_wp2_with fail
            go_ret3
            exact ⟨_, _, 14, [], [], rfl, .inl ⟨by omega, .inl ⟨⟨k, j, x, y, hjl, Hx.out, Hy.out, Hs.out⟩, rfl⟩, rfl, rfl⟩, World.ownsRow_nil _ _ _ _, World.ownsRow_nil _ _ _ _, below_drewN (below_drewN (Below.refl _ _) _) _⟩
          · have ds := lab_ne hs
            have Hs := Lib.hid hs
            clear hs
            go_wp2_with fail
            go_quiet (fail)
            go_wp2_with fail
            go_roundw
            case rel =>
              refine ⟨j + 1, _, by omega, by go_num, fun q z hq hz => ?_, rfl⟩
              by_cases e : q = j
              · subst e
                rw [Hy.out] at hz
                cases hz
                exact Hs.out
              · exact Hne.out q z (by omega) hz
            case measure => simp [intOf]; omega
        · have hje : j = k := by omega
          subst hje
          go_wp2_with fail
          go_roundw
          case rel =>
            refine ⟨j + 1, _, by omega, by go_num, fun i' j' a' b' h1 h2 h3 h4 => ?_, rfl⟩
            by_cases e : i' = j
            · subst e
              rw [Hx.out] at h3
              cases h3
              exact Hne.out j' b' h2 h4
            · exact Hd.out i' j' a' b' (by omega) h2 h3 h4
          case measure => simp [intOf]; omega
    · have hke : k = os.length := by omega
      subst hke
      have hdup : ¬ S.DupN os := by
        rintro ⟨i, j, a, b, hj, ha, hb, e⟩
        exact Hd.out i j a b (List.getElem?_eq_some_iff.1 ha).1 hj ha hb e
      have Hdup := Lib.hid hdup
      clear hdup
      go_wp2_with fail
      go_loop [9] (fun i => ∃ q : Nat, q ≤ os.length ∧ i = .int .i64 q ∧ ∀ (m : Nat) (y : S.Obj), m < q → os[m]? = some y → S.badN y = false) (fun i => os.length - (intOf i).toNat)
      case atStart => exact ⟨0, by omega, rfl, fun m y h => by omega⟩
      case round =>
        obtain ⟨q, hq, rfl, hg⟩ := hrel
        have Hg := Lib.hid hg
        clear hg
        by_cases hql : q < os.length
        · obtain ⟨b, off, x, rfl, hb, hx, hc0, _, hn, _⟩ := hi.at_ hql
          have Hx := Lib.hid hx
          clear hx
          have hn' := hn
          unfold maxLen at hn'
          by_cases h0 : x.name.size = 0
          · have hz : ((x.name.size : Int) == 0) = true := by simp [h0]
            have hbad : S.badN x = true := by
              have e : x.name.data.toList = [] := List.eq_nil_of_length_eq_zero (by simpa using h0)
              simp [S.badN, e]
            have Hbad := Lib.hid hbad
            clear h0 hbad
            go_wp2_with fail
            go_ret3
            exact ⟨_, _, 2, [], [], rfl, .inl ⟨by omega, .inr (.inl ⟨Hdup.out, ⟨x, List.mem_of_getElem? Hx.out, Hbad.out⟩, rfl⟩), rfl, rfl⟩, World.ownsRow_nil _ _ _ _, World.ownsRow_nil _ _ _ _, below_drewN (Below.refl _ _) _⟩
          · have hz : ((x.name.size : Int) == 0) = false := by rw [beq_eq_false_iff_ne]; omega
            have he : x.name.data.toList.isEmpty = false := by
              cases hq' : x.name.data.toList with
              | nil => exact absurd (by have := congrArg List.length hq'; simpa using this) h0
              | cons a r => rfl
            cases hown : S.ownB x.name
            · have hbad : S.badN x = false := by simp [S.badN, hown, he]
              have Hbad := Lib.hid hbad
              have Ho := Lib.hid hown
              clear hbad hown he h0
              go_wp2_with fail
              refine (ref_own _ _ hn).mono ?_
              rintro e w' ⟨rfl, rfl⟩
              rw [Ho.out]
              go_wp2_with fail
              go_round
              case rel =>
                refine ⟨q + 1, by omega, by go_num, fun m y hm hy => ?_⟩
                by_cases e : m = q
                · subst e
                  rw [Hx.out] at hy
                  cases hy
                  exact Hbad.out
                · exact Hg.out m y (by omega) hy
              case measure => simp [intOf]; omega
            · have hbad : S.badN x = true := by simp [S.badN, hown]
              have Hbad := Lib.hid hbad
              have Ho := Lib.hid hown
              clear hbad hown he h0
              go_wp2_with fail
              refine (ref_own _ _ hn).mono ?_
              rintro e w' ⟨rfl, rfl⟩
              rw [Ho.out]
              go_wp2_with fail
              go_ret3
              exact ⟨_, _, 2, [], [], rfl, .inl ⟨by omega, .inr (.inl ⟨Hdup.out, ⟨x, List.mem_of_getElem? Hx.out, Hbad.out⟩, rfl⟩), rfl, rfl⟩, World.ownsRow_nil _ _ _ _, World.ownsRow_nil _ _ _ _, below_drewN (Below.refl _ _) _⟩
        · have hqe : q = os.length := by omega
          subst hqe
          have hn0 : S.NamesRes os 0 := by
            refine .inr (.inr ⟨Hdup.out, fun o ho => ?_, rfl⟩)
            obtain ⟨m, hm, rfl⟩ := List.getElem_of_mem ho
            exact Hg.out m _ hm (List.getElem?_eq_getElem hm)
          have Hn0 := Lib.hid hn0
          clear hn0
          go_wp2_with fail
          refine (ref4_Items _ _ _ (w.drewN n) (show Objs (w.drewN n) (w.drewN n).heap.size _ os from hi.below (below_drewN (Below.refl w.heap.size w) n)) hl ht Hsz.out).mono ?_
          rintro e w2 ⟨v2, rfl, ho2, hb2⟩
          have hz2 : w.heap.size ≤ w2.heap.size := hb2.size
          have hb02 : Below w.heap.size w w2 := (below_drewN (Below.refl _ _) n).trans hb2
          have hww : ∀ x ∈ S.joined os, 0 ≤ x.word ∧ x.word ≤ 4294967295 := joined_words hi
          obtain ⟨A2, c2, rfl⟩ := ownsRow_form ho2
          go_wp2_with fail
          refine (ref_Assemble _ _ _ _ _ (Items.of_own ho2 hww) ht).mono ?_
          rintro e w3 ⟨vo, vp, r, F, rfl, hres, ho, hp, hb3⟩
          have hb03 := hb02.trans (hb3.mono hz2)
          obtain ⟨Ao, co, rfl⟩ := ownsRow_form ho
          obtain ⟨Ap, cp, rfl⟩ := ownsRow_form hp
          have hbd : r = 0 → (S.outTo (S.joined os) F base (S.joined os).length).length ≤ 67108864 := fun h => by
            subst h
            exact formsRes_small' hres hww
          have Hbd := Lib.hid hbd
          have Hres := Lib.hid hres
          have Ho := Lib.hid (ownsRow_base ho hz2)
          have Hp := Lib.hid (ownsRow_base hp hz2)
          have Hb03 := Lib.hid hb03
          clear ho2 hww hb2 hb02 hres ho hp hb3 hb03 hbd
          by_cases hr : r = 0
          · subst hr
            have hlen := Hbd.out rfl
            have ho' := Ho.out
            have hp' := Hp.out
            simp only [if_true] at ho' hp'
            have Ho2 := Lib.hid ho'
            have Hp2 := Lib.hid hp'
            clear ho' hp'
            simp only [if_true]
            go_wp2_with fail
            go_ret3
            exact ⟨_, _, 0, _, _, rfl, .inr ⟨Hn0.out, F, Hres.out, rfl, rfl⟩, Ho2.out, Hp2.out, Hb03.out⟩
          · have hd := int_bne hr
            have Hr := Lib.hid hr
            clear hr
            rw [if_neg Hr.out, if_neg Hr.out]
            go_wp2_with fail
            go_ret3
            exact ⟨_, _, r, [], [], rfl, .inr ⟨Hn0.out, F, Hres.out, by rw [if_neg Hr.out], by rw [if_neg Hr.out]⟩, World.ownsRow_nil _ _ _ _, World.ownsRow_nil _ _ _ _, Hb03.out⟩

end Go.Proofs.Ytbgdomnalimjnaa
