/- Walk of link.Link. -/
import Derived.Test.YtbgdomnalimjnaaLinkE
import Derived.Test.YtbgdomnalimjnaaAsmQ
set_option linter.unusedVariables false
set_option linter.unusedSimpArgs false
set_option linter.unusedSectionVars false
namespace Go.Proofs.Ytbgdomnalimjnaa
open Go.RowKit

theorem formsRes_small' {xs : List S.Item} {base : Int} {F : List Int} (h : S.FormsRes xs base 0 F) (hw : ∀ x ∈ xs, 0 ≤ x.word ∧ x.word ≤ 4294967295) : (S.outTo xs F base xs.length).length ≤ 67108864 := by
  rcases h with ⟨h, _⟩ | ⟨_, h, _⟩ | ⟨h1, _, h3, h4, h5⟩
  · exact absurd rfl h
  · omega
  · have h6 := outTo_length (base := base) h3.1 (kinds_ok (firstErr_of h1)) hw xs.length
    have h7 : 0 ≤ base := by
      rcases h1 with ⟨_, h⟩ | ⟨h, _⟩ | ⟨h, _⟩ | ⟨h, _⟩ | ⟨h, _⟩
      · omega
      all_goals exact h
    have h8 : S.addr xs F base xs.length ≤ 67108864 := h5
    omega
theorem joined_words {w : World} {B : Nat} {A : Option Addr} {os : List S.Obj} (hi : Objs w B A os) : ∀ x ∈ S.joined os, 0 ≤ x.word ∧ x.word ≤ 4294967295 := by
  intro x hx
  obtain ⟨o, ho, hx⟩ := List.mem_flatMap.1 hx
  obtain ⟨y, hy, rfl⟩ := List.mem_map.1 hx
  obtain ⟨k, hk, rfl⟩ := List.getElem_of_mem ho
  obtain ⟨b, off, o', _, _, h1, _, ⟨A', c', _, h2⟩, _, _⟩ := hi.at_ hk
  rw [List.getElem?_eq_getElem hk] at h1
  cases h1
  exact h2.words y hy
theorem joined_labels {os : List S.Obj} (hsz : ∀ (k : Nat) (o : S.Obj), os[k]? = some o → ∀ x ∈ o.items, o.name.size + x.label.size ≤ 9223372036854775807) : ∀ x ∈ S.joined os, x.label.size ≤ maxLen := by
  intro x hx
  obtain ⟨o, ho, hx⟩ := List.mem_flatMap.1 hx
  obtain ⟨y, hy, rfl⟩ := List.mem_map.1 hx
  obtain ⟨k, hk, rfl⟩ := List.getElem_of_mem ho
  have h1 := hsz k _ (List.getElem?_eq_getElem hk) y hy
  have h2 := owned_size os[k].name y.label
  show (S.owned os[k].name y.label).size ≤ maxLen
  unfold maxLen
  omega
/-- What Link answers: a number, words, places. -/
def LinkRes (os : List S.Obj) (base r : Int) (L : List Int) (P : List (ByteArray × Int)) : Prop :=
  (r ≠ 0 ∧ S.NamesRes os r ∧ L = [] ∧ P = []) ∨
  (S.NamesRes os 0 ∧ ∃ F, S.FormsRes (S.joined os) base r F ∧ L = (if r = 0 then S.outTo (S.joined os) F base (S.joined os).length else []) ∧ P = (if r = 0 then S.placesTo (S.joined os) F base (S.joined os).length else []))
def Linked (os : List S.Obj) (base : Int) (w : World) (e : Ending) (w' : World) : Prop :=
  ∃ vo vp r L P, e = .returned (.tuple #[.agg #[vo, vp], .int .i64 r]) ∧ LinkRes os base r L P ∧
    w'.ownsRow w.heap.size 34 1 vo L.length (L.map (Value.int .u32)) ∧ w'.ownsRow w.heap.size 64 2 vp P.length (P.flatMap placeCells) ∧ Below w.heap.size w w'

set_option maxRecDepth 100000 in
set_option maxHeartbeats 4000000 in
theorem link_Link (A : Option Addr) (c : Nat) (os : List S.Obj) (base : Int) (w : World) (hi : Objs w w.heap.size A os) (hl : os.length ≤ 1048576) (ht : (S.joined os).length ≤ 1048576)
    (hsz : ∀ (k : Nat) (o : S.Obj), os[k]? = some o → ∀ x ∈ o.items, o.name.size + x.label.size ≤ 9223372036854775807) :
    Calls Try.prog 26 #[.slice A os.length c, .int .i64 base] w (Linked os base w) := by
  have Hsz := Lib.hid hsz
  clear hsz
  go_enter Try.func26, Try.ntmps26
  go_wp2_with fail
  refine (link_checked _ _ _ _ ((hi.below ((Below.refl _ _).alloc (Nat.le_refl _) _)).more (by simp)) hl).mono ?_
  rintro e w1 ⟨r0, rfl, hn0, hb1⟩
  have Hn0 := Lib.hid hn0
  clear hn0
  obtain ⟨hc1, hc2⟩ := bcell hb1
  have hz1 := hb1.size
  simp at hz1
  have g0 : w.heap.size < w1.heap.size := by omega
  have hb01 := Below.trans ((Below.refl w.heap.size w).alloc (Nat.le_refl _) _) (hb1.mono (by simp))
  have Hb01 := Lib.hid hb01
  clear hb01 hb1
  by_cases hr : r0 = 0
  · subst hr
    go_wp2_with fail
    refine (link_joined _ _ _ _ ((hi.below Hb01.out).more (by omega)) hl ht Hsz.out).mono ?_
    rintro e w2 ⟨v2, rfl, ho2, hb2⟩
    obtain ⟨A2, c2, rfl⟩ := ownsRow_form ho2
    have hww : ∀ x ∈ S.joined os, 0 ≤ x.word ∧ x.word ≤ 4294967295 := joined_words hi
    have hlb : ∀ (k : Nat) (x : S.Item), (S.joined os)[k]? = some x → x.label.size ≤ maxLen := fun k x hx => joined_labels Hsz.out x (List.mem_of_getElem? hx)
    have hz2 := hb2.size
    have hb02 := Hb01.out.trans (hb2.mono (by omega))
    have Hb02 := Lib.hid hb02
    go_wp2_with fail
    refine (asm_Assemble _ _ _ _ _ (Items.of_own ho2 hww) ht hlb).mono ?_
    rintro e w3 ⟨vo, vp, r, F, rfl, hres, ho, hp, hb3⟩
    have hz3 := hb3.size
    have hb03 := hb02.trans (hb3.mono (by omega))
    have Hb03 := Lib.hid hb03
    obtain ⟨Ao, co, rfl⟩ := ownsRow_form ho
    obtain ⟨Ap, cp, rfl⟩ := ownsRow_form hp
    have Hres := Lib.hid hres
    have hlt2 : w.heap.size < w2.heap.size := by omega
    have Ho := Lib.hid ho
    have Hp := Lib.hid hp
    have hcc : ∀ o, w3.cell? ⟨w.heap.size, o, none⟩ = w1.cell? ⟨w.heap.size, o, none⟩ := fun o =>
      (hb3.cell (p := ⟨w.heap.size, o, none⟩) (show w.heap.size < w2.heap.size by omega)).trans (hb2.cell (p := ⟨w.heap.size, o, none⟩) g0)
    have hff : ∀ o, w3.frozen? ⟨w.heap.size, o, none⟩ = w1.frozen? ⟨w.heap.size, o, none⟩ := fun o =>
      (hb3.frozen (p := ⟨w.heap.size, o, none⟩) (show w.heap.size < w2.heap.size by omega)).trans (hb2.frozen (p := ⟨w.heap.size, o, none⟩) g0)
    have hbd : r = 0 → (S.outTo (S.joined os) F base (S.joined os).length).length ≤ 67108864 := fun h => by
      subst h
      exact formsRes_small' hres hww
    have Hbd := Lib.hid hbd
    clear ho2 hww hlb hb2 hb02 hres ho hp hb3 hb03 hbd
    by_cases hr : r = 0
    · subst hr
      have hlen := Hbd.out rfl
      have ho' := Ho.out
      have hp' := Hp.out
      simp only [if_true] at ho' hp'
      have Ho2 := Lib.hid ho'
      have Hp2 := Lib.hid hp'
      clear ho' hp'
      simp only [if_true]
      go_wp2_with fail
      refine bodyPost_ret (v := .tuple #[.agg #[.slice Ao (S.outTo (S.joined os) F base (S.joined os).length).length co, .slice Ap (S.placesTo (S.joined os) F base (S.joined os).length).length cp], .int .i64 0]) (by simp [results, Try.results26, go_sem, hc1, hcc, g0]) rfl ⟨_, _, 0, _, _, rfl, .inr ⟨Hn0.out, F, Hres.out, rfl, rfl⟩, ?_, ?_, ?_⟩
      · exact ownsRow_base (ownsRow_setCell_below (ownsRow_setCell_below Ho2.out (a := ⟨w.heap.size, 0, none⟩) hlt2 _) (a := ⟨w.heap.size, 1, none⟩) hlt2 _) (Nat.le_of_lt hlt2)
      · exact ownsRow_base (ownsRow_setCell_below (ownsRow_setCell_below Hp2.out (a := ⟨w.heap.size, 0, none⟩) hlt2 _) (a := ⟨w.heap.size, 1, none⟩) hlt2 _) (Nat.le_of_lt hlt2)
      · exact (Hb03.out.setCell (p := ⟨w.heap.size, 0, none⟩) (Nat.le_refl _) _).setCell (p := ⟨w.heap.size, 1, none⟩) (Nat.le_refl _) _
    · have hd := int_bne hr
      have Hr := Lib.hid hr
      clear hr
      rw [if_neg Hr.out, if_neg Hr.out]
      go_wp2_with fail
      refine bodyPost_ret (v := .tuple #[.agg #[.slice none 0 0, .slice none 0 0], .int .i64 r]) (by simp [results, Try.results26, go_sem, hc1, hcc, g0]) rfl ⟨_, _, r, [], [], rfl, .inr ⟨Hn0.out, F, Hres.out, by rw [if_neg Hr.out], by rw [if_neg Hr.out]⟩, World.ownsRow_nil _ _ _ _, World.ownsRow_nil _ _ _ _, ?_⟩
      exact (Hb03.out.setCell (p := ⟨w.heap.size, 0, none⟩) (Nat.le_refl _) _).setCell (p := ⟨w.heap.size, 1, none⟩) (Nat.le_refl _) _
  · have hd := int_bne hr
    have Hr := Lib.hid hr
    clear hr
    go_wp2_with fail
    refine bodyPost_ret (v := .tuple #[.agg #[.slice none 0 0, .slice none 0 0], .int .i64 r0]) (by simp [results, Try.results26, go_sem, hc1, g0]) rfl ⟨_, _, r0, [], [], rfl, .inl ⟨Hr.out, Hn0.out, rfl, rfl⟩, World.ownsRow_nil _ _ _ _, World.ownsRow_nil _ _ _ _, ?_⟩
    exact (Hb01.out.setCell (p := ⟨w.heap.size, 0, none⟩) (Nat.le_refl _) _).setCell (p := ⟨w.heap.size, 1, none⟩) (Nat.le_refl _) _

end Go.Proofs.Ytbgdomnalimjnaa
