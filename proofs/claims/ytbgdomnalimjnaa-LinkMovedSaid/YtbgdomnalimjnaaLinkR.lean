/- Walk of the law LinkMoved. -/
import Derived.Test.YtbgdomnalimjnaaLinkN
import Derived.Test.YtbgdomnalimjnaaLinkPl
set_option linter.unusedVariables false
set_option linter.unusedSimpArgs false
set_option linter.unusedSectionVars false
namespace Go.Proofs.Ytbgdomnalimjnaa
open Go.RowKit

/-- The plain ones among the first items. -/
def plainOf (l : List S.Item) : List S.Item := (l.take 60).filter fun x => decide (x.kind = 6 ∨ x.kind = 1)
def PlainPost (l : List S.Item) (w : World) (e : Ending) (w' : World) : Prop :=
  ∃ A c, e = .returned (.slice A (plainOf l).length c) ∧ Items w' w'.heap.size A (plainOf l) ∧ Below w.heap.size w w'
theorem plainOf_plain (l : List S.Item) : S.plainK (plainOf l) := by
  intro x hx
  have := (List.mem_filter.1 hx).2
  simp only [decide_eq_true_eq] at this
  omega
theorem plainOf_len (l : List S.Item) : (plainOf l).length ≤ 60 := by
  have h1 := List.length_filter_le (fun x : S.Item => decide (x.kind = 6 ∨ x.kind = 1)) (l.take 60)
  have h2 : (l.take 60).length ≤ 60 := by rw [List.length_take]; omega
  unfold plainOf
  omega
theorem plainOf_mem {l : List S.Item} {x : S.Item} (h : x ∈ plainOf l) : x ∈ l := List.mem_of_mem_take (List.mem_filter.1 h).1
theorem filt_take {l : List S.Item} {k : Nat} {x : S.Item} (hx : l[k]? = some x) : (l.take (k + 1)).filter (fun x => decide (x.kind = 6 ∨ x.kind = 1)) = (l.take k).filter (fun x => decide (x.kind = 6 ∨ x.kind = 1)) ++ (if x.kind = 6 ∨ x.kind = 1 then [x] else []) := by
  have hk := (List.getElem?_eq_some_iff.1 hx).1
  have he : l[k] = x := (List.getElem?_eq_some_iff.1 hx).2
  rw [List.take_succ_eq_append_getElem hk, he, List.filter_append]
  by_cases h : x.kind = 6 ∨ x.kind = 1 <;> simp [h]

def pf (l : List S.Item) (k : Nat) : List S.Item := (l.take k).filter fun x => decide (x.kind = 6 ∨ x.kind = 1)
theorem pf_step {l : List S.Item} {k : Nat} {x : S.Item} (hx : l[k]? = some x) : pf l (k + 1) = pf l k ++ [x] ∧ (x.kind = 6 ∨ x.kind = 1) ∨ pf l (k + 1) = pf l k ∧ ¬ (x.kind = 6 ∨ x.kind = 1) := by
  have h := filt_take hx
  by_cases c : x.kind = 6 ∨ x.kind = 1
  · rw [if_pos c] at h; exact .inl ⟨h, c⟩
  · rw [if_neg c, List.append_nil] at h; exact .inr ⟨h, c⟩
theorem pf_len (l : List S.Item) (k : Nat) : (pf l k).length ≤ k := by
  have h1 := List.length_filter_le (fun x : S.Item => decide (x.kind = 6 ∨ x.kind = 1)) (l.take k)
  have h2 : (l.take k).length ≤ k := by rw [List.length_take]; omega
  unfold pf
  omega
theorem pf_end {l : List S.Item} {k : Nat} (h : k ≤ l.length ∧ k ≤ 60 ∧ ¬ (k < l.length ∧ k < 60)) : pf l k = plainOf l := by
  unfold pf plainOf
  by_cases c : k = 60
  · rw [c]
  · rw [List.take_of_length_le (show l.length ≤ k by omega), List.take_of_length_le (show l.length ≤ 60 by omega)]

set_option maxRecDepth 100000 in
set_option maxHeartbeats 4000000 in
theorem law4_plain (A : Option Addr) (c : Nat) (xs : List S.Item) (w : World) (hi : Items w w.heap.size A xs) (hl : xs.length ≤ 9223372036854775807) :
    Calls Try.prog 32 #[.slice A xs.length c] w (PlainPost xs w) := by
  go_enter Try.func32, Try.ntmps32
  go_wp2_with fail
  go_loopw [3, 4] (fun v i wr => ∃ k : Nat, k ≤ xs.length ∧ k ≤ 60 ∧ i = .int .i64 k ∧ wr.ownsRow w.heap.size 57 8 v (pf xs k).length ((pf xs k).flatMap itemCells) ∧ Below w.heap.size w wr) (fun _ i _ => xs.length - (intOf i).toNat)
  case atStart => exact ⟨0, by omega, by omega, rfl, by simp [pf]; exact World.ownsRow_nil _ _ _ _, Below.refl _ _⟩
  case round =>
    obtain ⟨k, hk, hk60, rfl, ho, hbk⟩ := hrel
    have hzk := hbk.size
    have hpl := pf_len xs k
    by_cases hlt : k < xs.length ∧ k < 60
    · obtain ⟨hl1, hl2⟩ := hlt
      obtain ⟨b, off, y, rfl, hb, hy, k0, k1, k2, k3, k4, k5, k6, k7, y0, y1⟩ := (hi.below hbk).at_ hl1
      have g0 : b < wr.heap.size := by omega
      have hnext := Lib.hid (pf_step hy)
      clear hy
      obtain ⟨kind, ⟨op, d, a, b', imm⟩, lab, wd⟩ := y
      simp only at k0 k1 k2 k3 k4 k5 k6 k7 y0 y1
      have hq1 := ho.alloc (.cells #[.int .i64 kind, .int .i64 op, .int .i64 d, .int .i64 a, .int .i64 b', .int .i64 imm, .string lab, .int .u32 wd] 57)
      have hbq := hbk.alloc (by omega) (.cells #[.int .i64 kind, .int .i64 op, .int .i64 d, .int .i64 a, .int .i64 b', .int .i64 imm, .string lab, .int .u32 wd] 57)
      rcases (show kind = 6 ∨ (kind ≠ 6 ∧ kind = 1) ∨ (kind ≠ 6 ∧ kind ≠ 1) by omega) with h | ⟨h', h⟩ | ⟨h', h⟩
      · have d6 := int_beq h
        have hfx := Lib.hid (hnext.out.resolve_right (fun q => q.2 (.inl h))).1
        clear h hnext
        go_wp2_with (at_builtin
                     refine wpList_push rfl (.tmp 28) (.tmp 30) _ rfl w.heap.size 57 item_info Try.underlying47 rfl (by decide) #[.int .i64 kind, .int .i64 op, .int .i64 d, .int .i64 a, .int .i64 b', .int .i64 imm, .string lab, .int .u32 wd] _ _ _ rfl hq1 rfl (by show Value.slice (some ⟨wr.heap.size + 1, 0, none⟩) 1 1 = _; simp) rfl (by simp [Value.oneCell']) (by simp only [maxLen]; omega) (by omega) (by simp; omega) ?_
                     intro v' w5 ho5 hg5 hb5 hat5)
        have hfin : w5.ownsRow w.heap.size 57 8 v' (pf xs (k + 1)).length ((pf xs (k + 1)).flatMap itemCells) := by
          rw [hfx.out, List.length_append, List.flatMap_append]
          exact ho5
        exact ⟨⟨k + 1, by omega, by omega, by go_num, hfin, hbq.trans hb5⟩, by simp [intOf]; omega⟩
      · have d6 := int_bne h'
        have d1 := int_beq h
        have hfx := Lib.hid (hnext.out.resolve_right (fun q => q.2 (.inr h))).1
        clear h h' hnext
        go_wp2_with (at_builtin
                     refine wpList_push rfl (.tmp 28) (.tmp 30) _ rfl w.heap.size 57 item_info Try.underlying47 rfl (by decide) #[.int .i64 kind, .int .i64 op, .int .i64 d, .int .i64 a, .int .i64 b', .int .i64 imm, .string lab, .int .u32 wd] _ _ _ rfl hq1 rfl (by show Value.slice (some ⟨wr.heap.size + 1, 0, none⟩) 1 1 = _; simp) rfl (by simp [Value.oneCell']) (by simp only [maxLen]; omega) (by omega) (by simp; omega) ?_
                     intro v' w5 ho5 hg5 hb5 hat5)
        have hfin : w5.ownsRow w.heap.size 57 8 v' (pf xs (k + 1)).length ((pf xs (k + 1)).flatMap itemCells) := by
          rw [hfx.out, List.length_append, List.flatMap_append]
          exact ho5
        exact ⟨⟨k + 1, by omega, by omega, by go_num, hfin, hbq.trans hb5⟩, by simp [intOf]; omega⟩
      · have d6 := int_bne h'
        have d1 := int_bne h
        have hfx := Lib.hid (hnext.out.resolve_left (fun q => by have := q.2; simp only at this; omega)).1
        clear h h' hnext
        go_wp2_with fail
        go_roundw
        case rel => exact ⟨k + 1, by omega, by omega, by go_num, by rw [hfx.out]; exact hq1, hbq⟩
        case measure => simp [intOf]; omega
    · have Hlt := Lib.hid hlt
      have hfin : pf xs k = plainOf xs := pf_end ⟨hk, hk60, hlt⟩
      have Hfin := Lib.hid hfin
      obtain ⟨A', c', rfl⟩ := ownsRow_form ho
      rw [hfin] at ho
      have hres := Items.of_own ho (fun x hx => hi.words x (plainOf_mem hx))
      clear hfin ho hlt hpl
      by_cases hkl : k < xs.length
      · have hk0 : ¬ k < 60 := by have := Hlt.out; omega
        go_wp2_with fail
        go_ret
        exact ⟨A', c', by rw [Hfin.out]; rfl, hres, hbk⟩
      · go_wp2_with fail
        go_ret
        exact ⟨A', c', by rw [Hfin.out]; rfl, hres, hbk⟩

theorem getD_app_left {p q : List Int} {i : Nat} (h : i < p.length) : (p ++ q).getD i 0 = p.getD i 0 := by
  simp [List.getElem?_append_left h]
theorem getD_app_right {p q : List Int} {i : Nat} (h : ¬ i < p.length) : (p ++ q).getD i 0 = q.getD (i - p.length) 0 := by
  simp [List.getElem?_append_right (show p.length ≤ i by omega)]
theorem reads_getD {w : World} {B : Nat} {A : Option Addr} {L : List Int} (h : Reads w B A (L.map (Value.int .u32))) {i : Nat} (hi : i < L.length) : ∃ b off, A = some ⟨b, off, none⟩ ∧ b < B ∧ w.cell? ⟨b, off + i, none⟩ = some (.int .u32 (L.getD i 0)) :=
  reads_at h (by simp [hi])

theorem plain_list {X : List S.Item} (hX : S.plainK X) {base r : Int} {F : List Int} : (if r = 0 then S.outTo X F base X.length else []).length ≤ X.length ∧ (r = 0 → (if r = 0 then S.outTo X F base X.length else []) = X.map S.word1) := by
  by_cases e : r = 0
  · rw [if_pos e, plain_out_all hX]
    exact ⟨by simp, fun _ => rfl⟩
  · rw [if_neg e]
    exact ⟨by simp, fun h => absurd h e⟩

set_option maxRecDepth 100000 in
set_option maxHeartbeats 8000000 in
theorem law_LinkMoved (A A' : Option Addr) (c c' : Nat) (xs ys : List S.Item) (base : Int) (w : World) (hi : Items w w.heap.size A xs) (hi' : Items w w.heap.size A' ys) (hl : xs.length ≤ 9223372036854775807) (hl' : ys.length ≤ 9223372036854775807)
    (hb0 : 0 ≤ base) (hb1 : base ≤ 65535) (hsz : ∀ x ∈ xs, x.label.size ≤ 4611686018427387904) (hsz' : ∀ x ∈ ys, x.label.size ≤ 4611686018427387904) :
    Calls Try.prog 7 #[.slice A xs.length c, .slice A' ys.length c', .int .u16 base] w fun e w' => e = .returned (.bool true) ∧ Below w.heap.size w w' := by
  have Hsx := Lib.hid fun x (h : x ∈ plainOf xs) => hsz x (plainOf_mem h)
  have Hsy := Lib.hid fun x (h : x ∈ plainOf ys) => hsz' x (plainOf_mem h)
  have HX := Lib.hid (plainOf_plain xs)
  have HY := Lib.hid (plainOf_plain ys)
  have lx := plainOf_len xs
  have ly := plainOf_len ys
  clear hsz hsz'
  go_enter Try.func7, Try.ntmps7
  go_wp2_with fail
  refine (law4_plain _ _ _ _ hi hl).mono ?_
  rintro e w1 ⟨A1, c1, rfl, hI1, hb1'⟩
  have hz1 := hb1'.size
  go_wp2_with fail
  refine (law4_plain _ _ _ _ ((hi'.below hb1').more hz1) hl').mono ?_
  rintro e w2 ⟨A2, c2, rfl, hI2, hb2⟩
  have hz2 := hb2.size
  generalize plainOf xs = X at *
  generalize plainOf ys = Y at *
  have hI12 := (hI1.below hb2).more hz2
  have hb02 := hb1'.trans (hb2.mono hz1)
  clear hI1 hb1' hb2 hi hi'
  go_wp2_with fail
  refine (asm_Assemble _ _ _ _ _ hI12 (by omega) (fun k x hx => by have := Hsx.out x (List.mem_of_getElem? hx); simp only [maxLen]; omega)).mono ?_
  rintro e w3 ⟨vo, vp, r, F, rfl, hres, ho3, hp3, hb3⟩
  have Hres := Lib.hid hres
  obtain ⟨l1, l2⟩ := plain_list HX.out (base := base) (r := r) (F := F)
  have HL1 := Lib.hid l2
  obtain ⟨Ao, co, rfl⟩ := ownsRow_form ho3
  obtain ⟨Ap, cp, rfl⟩ := ownsRow_form hp3
  have hR3 := Reads.of_own ho3
  have hz3 := hb3.size
  have hI13 := (hI12.below hb3).more hz3
  have hI23 := (hI2.below hb3).more hz3
  have hb03 := hb02.trans (hb3.mono (by omega))
  generalize (if r = 0 then S.outTo X F base X.length else []) = L1 at *
  generalize (if r = 0 then S.placesTo X F base X.length else []) = P1 at *
  clear hres l2 ho3 hp3 hI12 hI2 hb02 hb3
  have hbL : base + (L1.length : Int) ≤ 65595 := by omega
  go_wp2_with fail
  refine (asm_Assemble _ _ _ _ _ hI23 (by omega) (fun k x hx => by have := Hsy.out x (List.mem_of_getElem? hx); simp only [maxLen]; omega)).mono ?_
  rintro e w4 ⟨vo', vp', f, G, rfl, hres', ho4, hp4, hb4⟩
  have Hres' := Lib.hid hres'
  obtain ⟨k1, k2⟩ := plain_list HY.out (base := base + L1.length) (r := f) (F := G)
  have HL2 := Lib.hid k2
  obtain ⟨Ao', co', rfl⟩ := ownsRow_form ho4
  obtain ⟨Ap', cp', rfl⟩ := ownsRow_form hp4
  have hR4' := Reads.of_own ho4
  have hz4 := hb4.size
  have hI14 := (hI13.below hb4).more hz4
  have hI24 := (hI23.below hb4).more hz4
  have hR4 := hR3.below hb4
  have hb04 := hb03.trans (hb4.mono (by omega))
  generalize (if f = 0 then S.outTo Y G (base + L1.length) Y.length else []) = L2 at *
  generalize (if f = 0 then S.placesTo Y G (base + L1.length) Y.length else []) = P2 at *
  clear hres' k2 ho4 hp4 hI13 hI23 hb03 hb4 hR3
  go_wp2_with fail
  obtain ⟨x1, x2, x3⟩ := one_allocL w4 #[.string ⟨#[97]⟩, .slice A1 X.length c1, .string ⟨#[98]⟩, .slice A2 Y.length c2] 66
  generalize w4.alloc (.cells #[.string ⟨#[97]⟩, .slice A1 X.length c1, .string ⟨#[98]⟩, .slice A2 Y.length c2] 66) = w5 at *
  have g5 : w4.heap.size < w5.heap.size := by omega
  have hO := Objs.lit2 (B := w5.heap.size) (a := ⟨nA, X⟩) (o := ⟨nB, Y⟩) x1 g5 ((hI14.below x2).more x2.size) ((hI24.below x2).more x2.size) (by
    intro q hq
    simp only [List.mem_cons, List.not_mem_nil, or_false] at hq
    rcases hq with rfl | rfl
    · exact ⟨show (1 : Nat) ≤ maxLen by decide, fun y hy => by have := Hsx.out y hy; simp only [maxLen]; omega⟩
    · exact ⟨show (1 : Nat) ≤ maxLen by decide, fun y hy => by have := Hsy.out y hy; simp only [maxLen]; omega⟩)
  have hsz : ∀ (k : Nat) (o : S.Obj), [(⟨nA, X⟩ : S.Obj), ⟨nB, Y⟩][k]? = some o → ∀ x ∈ o.items, o.name.size + x.label.size ≤ 9223372036854775807 := by
    intro k o ho x hx
    have hm := List.mem_of_getElem? ho
    simp only [List.mem_cons, List.not_mem_nil, or_false] at hm
    rcases hm with rfl | rfl
    · have := Hsx.out x hx
      have e : nA.size = 1 := rfl
      simp only [e]; omega
    · have := Hsy.out x hx
      have e : nB.size = 1 := rfl
      simp only [e]; omega
  have hjl : (S.joined [⟨nA, X⟩, ⟨nB, Y⟩]).length ≤ 1048576 := by simp [S.joined, S.itemsOf]; omega
  have hb05 := hb04.trans (x2.mono (by omega))
  have hR5 := hR4.below (x2.mono (by omega))
  have hR5' := hR4'.below x2
  have hcall : Calls Try.prog 26 #[.slice (some ⟨w4.heap.size, 0, none⟩) 2 2, .int .i64 base] w5 (Linked [⟨nA, X⟩, ⟨nB, Y⟩] base w5) := link_Link _ _ _ _ _ hO (by simp) hjl hsz
  have Hcall := Lib.hid hcall
  have Hjw := Lib.hid (joined_words hO)
  clear hcall x1 x3 hsz hO hI14 hI24 hb04 hR4 hR4'
  refine Hcall.out.mono ?_
  rintro e w6 ⟨vo6, vp6, g, L, P, rfl, hres6, ho6, hp6, hb6⟩
  have hmv := moved_num HX.out HY.out lx ly hb0 hb1 (by omega) Hres.out Hres'.out hres6
  obtain ⟨sL, sP⟩ := linkRes_small hres6 Hjw.out hjl
  have Hmv := Lib.hid hmv
  obtain ⟨Ao6, co6, rfl⟩ := ownsRow_form ho6
  obtain ⟨Ap6, cp6, rfl⟩ := ownsRow_form hp6
  have hR6 := Reads.of_own ho6
  have hz6 := hb6.size
  have hb06 := hb05.trans (hb6.mono (by omega))
  have hS6 := hR5.below (hb6.mono (by omega))
  have hS6' := hR5'.below (hb6.mono (by omega))
  clear Hcall hmv hres6 hjl ho6 hp6 hb05 hb6 hR5 hR5' x2
  obtain ⟨x1, x2, x3⟩ := one_allocL w6 #[.slice Ao6 L.length co6, .slice Ap6 P.length cp6] 51
  go_upto_region 5 with fail
  generalize w6.alloc (.cells #[.slice Ao6 L.length co6, .slice Ap6 P.length cp6] 51) = w7 at *
  have g7 : w6.heap.size < w7.heap.size := by omega
  have hX0 : w7.cell? ⟨w6.heap.size, 0, none⟩ = some (.slice Ao6 L.length co6) := by rw [blk_cell x1]; rfl
  have hR7 := hR6.below x2
  have hS7 := hS6.below (x2.mono (by omega))
  have hS7' := hS6'.below (x2.mono (by omega))
  have hb07 := hb06.trans (x2.mono (by omega))
  clear x1 x2 x3 hR6 hS6 hS6' hb06
  by_cases hef : r = 0 ∧ f = 0
  · obtain ⟨rfl, rfl⟩ := hef
    obtain ⟨rfl, hL⟩ := Hmv.out.1 rfl rfl
    rw [← HL1.out rfl, ← HL2.out rfl] at hL
    subst hL
    clear Hmv
    rw [List.length_append] at hX0 sL
    have hdl : (((L1.length + L2.length : Nat) : Int) != (L1.length : Int) + L2.length) = false := by simp
    go_wp2_with fail
    go_loopw [17] (fun i wr => ∃ (k n : Nat), k ≤ L1.length + L2.length ∧ i = .int .i64 k ∧ wr = w7.drewN n) (fun i _ => L1.length + L2.length - (intOf i).toNat)
    case atStart => exact ⟨0, 0, by omega, rfl, rfl⟩
    case round =>
      obtain ⟨k, n, hk, rfl, rfl⟩ := hrel
      by_cases hlt : k < L1.length + L2.length
      · obtain ⟨b, off, rfl, hb, hc⟩ := reads_getD hR7 (i := k) (by rw [List.length_append]; exact hlt)
        by_cases hk1 : k < L1.length
        · obtain ⟨b', off', rfl, hb', hc'⟩ := reads_getD hS7 hk1
          rw [getD_app_left hk1] at hc
          generalize L1.getD k 0 = v at *
          have hvv : (v != v) = false := by simp
          have hk2 : ¬ ((L1.length : Int) ≤ (k : Int)) := by omega
          have hk3 : ¬ (L1.length ≤ k) := by omega
          go_wp2_with fail
          go_quiet (fail)
          go_wp2_with fail
          go_roundw
          case rel => exact ⟨k + 1, _, by omega, by go_num, rfl⟩
          case measure => simp [intOf]; omega
        · obtain ⟨j, hkj⟩ : ∃ j, k = L1.length + j := ⟨k - L1.length, by omega⟩
          obtain ⟨b', off', rfl, hb', hc'⟩ := reads_getD hS7' (i := j) (by omega)
          rw [getD_app_right hk1, show k - L1.length = j by omega] at hc
          generalize L2.getD j 0 = v at *
          have hvv : (v != v) = false := by simp
          have hjl : j < L2.length := by omega
          have hk2 : (L1.length : Int) ≤ (k : Int) := by omega
          have hk3 : L1.length ≤ k := by omega
          have hsub : (k : Int) - (L1.length : Int) = (j : Int) := by omega
          have Hkj := Lib.hid hkj
          clear hkj
          go_wp2_with fail
          go_quiet (fail)
          go_wp2_with fail
          go_roundw
          case rel => exact ⟨k + 1, _, by omega, by go_num, rfl⟩
          case measure => simp [intOf]; omega
      · go_wp2_with fail
        refine (law4_works _).mono ?_
        rintro e w8 ⟨rfl, hb8⟩
        go_wp2_with fail
        go_ret
        exact ⟨rfl, (below_drewN hb07 _).trans (hb8.mono (show w.heap.size ≤ w7.heap.size by omega))⟩
  · have hg := Hmv.out.2 hef
    have dg := int_bne hg
    have hor : (r ≠ 0) ∨ (r = 0 ∧ f ≠ 0) := by omega
    have Hg := Lib.hid hg
    clear Hmv hef hg
    rcases hor with h | ⟨h, h'⟩
    · have dr := int_bne h
      clear h
      go_wp2_with fail
      refine (law4_works _).mono ?_
      rintro e w8 ⟨rfl, hb8⟩
      go_wp2_with fail
      go_ret
      exact ⟨ret_bool (by simpa using Hg.out), hb07.trans (hb8.mono (by omega))⟩
    · have dr := int_bne h'
      subst h
      clear h'
      go_wp2_with fail
      refine (law4_works _).mono ?_
      rintro e w8 ⟨rfl, hb8⟩
      go_wp2_with fail
      go_ret
      exact ⟨ret_bool (by simpa using Hg.out), hb07.trans (hb8.mono (by omega))⟩

end Go.Proofs.Ytbgdomnalimjnaa
