/- The maker of items, more: tail, frame. -/
import Derived.Test.YtidhglleeccpoaaDoorELab
import Derived.Test.YtidhglleeccpoaaDoorEMap
import Derived.BigRegion
set_option linter.unusedVariables false
set_option linter.unusedSimpArgs false
set_option linter.unusedSectionVars false
namespace Go.Proofs.YtidhglleeccpoaaDoor
open Go.RowKit

theorem u32_info : (Tryd.prog.info? 22).map (fun i => (i.zero, i.size, i.bytes)) = some (some (.int .u32 0), 1, 4) := by kernel_rfl

set_option maxRecDepth 100000 in
set_option maxHeartbeats 1000000 in
theorem mk_tail (base mb : Nat) (wv : Value) (xs : List S.Item) (w : World) (hL : LVE w) (h3b : 3 ≤ base) (h : MkAt base mb wv xs w) (hbw : base ≤ w.heap.size) (hl : xs.length ≤ 899999000) (n : Int) (hn : I64 n) :
    Calls Tryd.prog 41 #[.pointer (some ⟨mb, 0, none⟩), .int .i64 n] w (MkPost base mb wv xs (S.etail n) w) := by
  by_cases c1 : 0 ≤ n
  · have He := Lib.hid (show S.etail n = [S.iJump 0 (S.inner n)] by unfold S.etail; rw [if_pos c1])
    go_enter Tryd.func41, Tryd.ntmps41
    go_wp2_with fail
    refine (e_inner n hn w hL).mono ?_
    rintro e w1 ⟨rfl, hb1⟩
    have H1 := Lib.hid (h.keep hb1)
    have HB := Lib.hid (BK.of hb1 hbw)
    generalize S.inner n = s at *
    clear hb1
    go_wp2_with fail
    refine (mk_jump base mb wv xs w1 H1.out (Nat.le_trans hbw HB.out.size) (by omega) 0 s).mono ?_
    rintro e w2 ⟨rfl, h2, h3⟩
    go_wp2_with fail
    go_end0
    exact ⟨rfl, by rw [He.out]; exact h2, HB.out.trans h3⟩
  · have He := Lib.hid (show S.etail n = [S.iInst 20 25 1 0 2, S.iInst 24 25 25 0 1, S.iInst 20 25 25 0 2, S.iInst 33 0 25 0 0] by unfold S.etail; rw [if_neg c1])
    go_enter Tryd.func41, Tryd.ntmps41
    go_wp2_with fail
    refine (mk_inst base mb wv xs w h hbw (by omega) 20 25 1 0 2).mono ?_
    rintro e w1 ⟨rfl, h1, hb1⟩
    go_wp2_with fail
    refine (mk_inst base mb wv _ w1 h1 (Nat.le_trans hbw hb1.size) (by simp; omega) 24 25 25 0 1).mono ?_
    rintro e w2 ⟨rfl, h2, hb2⟩
    have hb2' := hb1.trans hb2
    go_wp2_with fail
    refine (mk_inst base mb wv _ w2 h2 (Nat.le_trans hbw hb2'.size) (by simp; omega) 20 25 25 0 2).mono ?_
    rintro e w3 ⟨rfl, h3, hb3⟩
    have hb3' := hb2'.trans hb3
    go_wp2_with fail
    refine (mk_inst base mb wv _ w3 h3 (Nat.le_trans hbw hb3'.size) (by simp; omega) 33 0 25 0 0).mono ?_
    rintro e w4 ⟨rfl, h4, hb4⟩
    go_wp2_with fail
    go_end0
    refine ⟨rfl, ?_, hb3'.trans hb4⟩
    rw [He.out]
    simpa using h4

theorem row_of_own {w : World} {base g n : Nat} {e : TypeId} {xs : List Value} (h : w.ownsRow base e 1 (.slice (some ⟨g, 0, none⟩) n n) n xs) : base ≤ g ∧ w.heap[g]? = some (.cells xs.toArray e (0, 0)) := by
  rcases h.2 with ⟨h1, _⟩ | ⟨g', cap, cur, h1, h2, h3, h4, h5, h6, h7⟩
  · simp at h1
  · simp only [Value.slice.injEq, Option.some.injEq, Addr.mk.injEq, and_true] at h1
    obtain ⟨rfl, _, rfl⟩ := h1
    refine ⟨h2, ?_⟩
    rw [h3]
    have e1 : cur.toList = xs := by
      rw [← h7, List.take_of_length_le (by simp [h6])]
    rw [← e1]
theorem rowset {g j : Nat} {xs : List Value} {t : TypeId} {w : World} (h : w.heap[g]? = some (.cells xs.toArray t (0, 0))) (v : Value) : (w.setCell ⟨g, j, none⟩ v).heap[g]? = some (.cells (xs.set j v).toArray t (0, 0)) := by
  rw [setCell_eq_setRow w g j xs.toArray t (0, 0) v h, setRow_heap w g _ _ t _ h]
  simp
def rowW (l : List Int) (n : Nat) : List Value := (List.range n).map fun (j : Nat) => Value.int .u32 (S.mapW l (32 * (j : Int)) 32)
theorem rowW_snoc (l : List Int) (s : Int) (n q k : Nat) (x : Int) (h : s ∉ l) (hq : (q : Int) = s / 32) (hk : (k : Int) = s % 32) (hx : x = S.mapW l (32 * (q : Int)) 32) : rowW (l ++ [s]) n = (rowW l n).set q (.int .u32 (x + 2 ^ k)) := by
  unfold rowW
  apply List.ext_getElem
  · simp
  · intro i h1 h2
    simp only [List.getElem_map, List.getElem_range, List.getElem_set]
    rw [mapW_snoc l s h]
    by_cases e : q = i
    · subst e
      rw [if_pos rfl, if_pos (by omega), ← hx, show (s % 32).toNat = k by omega]
    · rw [if_neg e, if_neg (by omega), Int.add_zero]
theorem row_get (l : List Int) (n j : Nat) (hj : j < n) : (rowW l n)[j]? = some (.int .u32 (S.mapW l (32 * (j : Int)) 32)) := by
  simp [rowW, hj]

set_option maxRecDepth 100000 in
set_option maxHeartbeats 2000000 in
theorem mk_frame (base mb : Nat) (wv : Value) (xs : List S.Item) (w : World) (h : MkAt base mb wv xs w) (hbw : base ≤ w.heap.size) (hl : xs.length ≤ 899000000) (A : Option Addr) (l : List Int) (c : Nat) (hA : Ints w w.heap.size A l) (hr : S.rising l = true) (hs : ∀ s ∈ l, 0 ≤ s ∧ s < 16777216) (hll : l.length ≤ 1000000) :
    Calls Tryd.prog 40 #[.pointer (some ⟨mb, 0, none⟩), .slice A l.length c] w (MkPost base mb wv xs (S.eframe l) w) := by
  have hn : ∃ n : Nat, n = S.mapLen l ∧ n ≤ 524288 := ⟨_, rfl, by
    unfold S.mapLen
    split
    · omega
    · rename_i s hs'
      have := hs s (List.mem_of_getLast? hs')
      omega⟩
  obtain ⟨n, hn, hn1⟩ := hn
  have HN := Lib.hid hn
  obtain ⟨N, hN⟩ : ∃ N : Nat, N = l.length := ⟨_, rfl⟩
  rw [← hN] at hll ⊢
  have HNl := Lib.hid hN
  clear hN hn
  go_enter Tryd.func40, Tryd.ntmps40
  go_upto_if 12 with fail
  go_cut [4] (fun v wc => v = .int .i64 (n : Int) ∧ w = wc)
  case first =>
    by_cases h0 : N = 0
    · have hl0 := List.eq_nil_of_length_eq_zero (HNl.out.symm.trans h0)
      subst h0
      have hn0 : n = 0 := by rw [HN.out, hl0]; rfl
      subst hn0
      clear hl0
      go_wp2_with fail
      go_meet
      case rel => exact ⟨rfl, rfl⟩
    · have hN := HNl.out
      have hn := HN.out
      obtain ⟨m, rfl⟩ : ∃ m, N = m + 1 := ⟨N - 1, by omega⟩
      obtain ⟨b, off, hAe, hbl, hcl⟩ := hA.at_ (k := m) (by omega)
      obtain ⟨s, hsd⟩ : ∃ s, s = l.getD m 0 := ⟨_, rfl⟩
      have hml : m < l.length := by omega
      have hge : l[m]? = some s := by rw [hsd]; simp [hml]
      have hsb := hs s (List.mem_of_getElem? hge)
      have hlast : l.getLast? = some s := by rw [List.getLast?_eq_getElem?, show l.length - 1 = m by omega, hge]
      have hnn : n = (s / 32 + 1).toNat := by rw [hn]; unfold S.mapLen; rw [hlast]
      have hni : (n : Int) = s / 32 + 1 := by omega
      have hq : s.tdiv 32 = s / 32 := Int.tdiv_eq_ediv_of_nonneg hsb.1
      rw [← hsd] at hcl
      subst hAe
      have hmb : m ≤ 1000000 := by omega
      have HNI := Lib.hid hni
      clear hA hn hr hs hsd hml hge hlast hnn h0 h hN hni
      go_wp2_with fail
      go_meet
      case rel => exact ⟨by rw [HNI.out], rfl⟩
  case rest =>
    obtain ⟨rfl, rfl⟩ := hcut
    have Hh := Lib.hid h
    clear h
    go_wp2_with (refine wpList_makeN rfl (.tmp 21) (.tmp 21) _ rfl w.heap.size 22 u32_info Tryd.underlying35 rfl .i64 .i64 n n n rfl rfl rfl rfl (by omega) (by simp only [maxLen]; omega) (Nat.le_refl _) ?_)
    intro w1 ho1 hb1
    obtain ⟨_, hr1⟩ := row_of_own ho1
    obtain ⟨g, hg⟩ : ∃ g, g = w.heap.size := ⟨_, rfl⟩
    have Hg := Lib.hid hg
    have hglt : g < w1.heap.size := by
      rcases Nat.lt_or_ge g w1.heap.size with h' | h'
      · exact h'
      · rw [← hg] at hr1; simp [Array.getElem?_eq_none h'] at hr1
    rw [← hg] at hr1 ⊢
    have hr1' : w1.heap[g]? = some (.cells (rowW (l.take 0) n).toArray 22 (0, 0)) := by
      rw [hr1]
      have e : List.replicate n (Value.int .u32 0) = rowW (l.take 0) n := by
        unfold rowW
        rw [List.take_zero]
        apply List.ext_getElem
        · simp
        · intro i h1 h2
          simp [mapW_nil]
      rw [← e]
    have hA1 := hA.below hb1
    clear ho1 hr1 hg
    go_wp2_with fail
    go_loopw [7, 25] (fun _ v25 wr => ∃ i : Nat, i ≤ N ∧ v25 = .int .i64 i ∧ wr.heap[g]? = some (.cells (rowW (l.take i) n).toArray 22 (0, 0)) ∧ Below g w1 wr) (fun _ v25 _ => N - (intOf v25).toNat)
    case atStart => exact ⟨0, by omega, rfl, hr1', Below.refl _ _⟩
    case round =>
      obtain ⟨i, hi, rfl, hrow, hbr⟩ := hrel
      by_cases hlt : i < N
      · have hN := HNl.out
        obtain ⟨b, off, hAe, hbl, hcl⟩ := hA1.at_ (k := i) (by omega)
        have hil : i < l.length := by omega
        obtain ⟨s, hsd⟩ : ∃ s, s = l.getD i 0 := ⟨_, rfl⟩
        have hge : l[i]? = some s := by rw [hsd]; simp [hil]
        have hsb := hs s (List.mem_of_getElem? hge)
        rw [← hsd] at hcl
        have hcr := (hbr.cell (p := ⟨b, off + i, none⟩) (by rw [Hg.out]; exact hbl)).trans hcl
        obtain ⟨q, hqd⟩ : ∃ q : Nat, (q : Int) = s / 32 := ⟨(s / 32).toNat, by omega⟩
        obtain ⟨k, hkd⟩ : ∃ k : Nat, (k : Int) = s % 32 := ⟨(s % 32).toNat, by omega⟩
        have hq : s.tdiv 32 = (q : Int) := (Int.tdiv_eq_ediv_of_nonneg hsb.1).trans hqd.symm
        have hm : s.tmod 32 = (k : Int) := (Int.tmod_eq_emod_of_nonneg hsb.1).trans hkd.symm
        have hqn : q < n := by
          rw [HN.out]
          exact slot_word hr hs hge hqd
        have hk32 : k < 32 := by omega
        obtain ⟨x, hx⟩ : ∃ x, x = S.mapW (l.take i) (32 * (q : Int)) 32 := ⟨_, rfl⟩
        have hxb := mapW_bd (l.take i) (32 * (q : Int))
        have hxl : x < 2 ^ k := by
          rw [hx, hqd, show k = (s % 32).toNat by omega]
          exact mapW_below _ _ (take_lt hr hge)
        rw [← hx] at hxb
        have hcx : wr.cell? ⟨g, q, none⟩ = some (.int .u32 x) := by
          rw [cell_of_row wr g q _ _ (0, 0) hrow]
          simp [rowW, hqn, hx]
        have hfx : wr.frozen? ⟨g, q, none⟩ = false := Lib.frozen_of_heap hrow q
        have hor := u32_or_low k x hk32 hxb.1 hxl
        have hp := pow31 k hk32
        have hpp : (0 : Int) < 2 ^ k := Int.pow_pos (by decide)
        have HX := Lib.hid hx
        have HQ := Lib.hid hqd
        have HK := Lib.hid hkd
        clear hx hqd hkd
        have HGe := Lib.hid hge
        clear hsd hge hN hil
        subst hAe
        go_upto_region 7 with fail
        have HS := Lib.hid hs
        have HR := Lib.hid hr
        clear hs hr
        go_big_region
        clear hxb hxl hor hp hpp hcr hcx hfx
        go_wp2_with fail
        go_roundw
        case rel =>
          refine ⟨i + 1, by omega, by go_num, ?_, (hbr.setCell (p := ⟨g, q, none⟩) (Nat.le_refl _) _).trans (Below.drew (Below.refl _ _))⟩
          have e : l.take (i + 1) = l.take i ++ [s] := by rw [List.take_add_one, HGe.out]; rfl
          rw [e, rowW_snoc (l.take i) s n q k x (fun hm => by have := take_lt HR.out HGe.out s hm; omega) HQ.out HK.out HX.out]
          exact rowset hrow _
        case measure => simp [intOf]; omega
      · have hiN : i = N := by omega
        subst hiN
        have hN := HNl.out
        have hlt' : l.take i = l := by rw [hN]; exact List.take_length
        rw [hlt'] at hrow
        clear hlt' hN
        have hb0 : Below w.heap.size w wr := hb1.trans (by rw [← Hg.out]; exact hbr)
        have h0 := Lib.hid (Hh.out.keep hb0)
        have Hrow := Lib.hid hrow
        have HA := Lib.hid hA
        clear hs hr hA hb1 hbr hr1' hA1 hrow
        have wr1 : IntKind.u32.wrap (n : Int) = n := by rw [IntKind.wrap_u32]; omega
        go_wp2_with fail
        refine (mk_one base mb wv xs (S.iWord n) wr h0.out (Nat.le_trans hbw hb0.size) (by omega) (by simp [S.iWord]) (by simp [S.iWord]; omega)).mono ?_
        rintro e w2 ⟨rfl, h2, hb2⟩
        have Hrow2 := Lib.hid (hb2.keep g _ _ _ Hrow.out (by decide) (by decide))
        have H2 := Lib.hid h2
        have HB2 := Lib.hid ((BK.of hb0 hbw).trans hb2)
        clear hb2 hb0 h0 Hrow h2 wr1
        go_wp2_with fail
        go_loopw [9, 48] (fun _ v48 wl => ∃ j : Nat, j ≤ n ∧ v48 = .int .i64 j ∧ MkAt base mb wv (xs ++ S.iWord n :: (List.range j).map fun (t : Nat) => S.iWord (S.mapW l (32 * (t : Int)) 32)) wl ∧ BK base w wl ∧ Hid (wl.heap[g]? = some (.cells (rowW l n).toArray 22 (0, 0)))) (fun _ v48 _ => n - (intOf v48).toNat)
        case atStart => exact ⟨0, by omega, rfl, by simpa using H2.out, HB2.out, Hrow2⟩
        case round =>
          obtain ⟨j, hj, rfl, hm, hbl, hrow⟩ := hrel
          by_cases hlt : j < n
          · have hcell : wr.cell? ⟨g, j, none⟩ = some (.int .u32 (S.mapW l (32 * (j : Int)) 32)) := (cell_of_row _ g j _ _ (0, 0) hrow.out).trans (by simpa using row_get l n j hlt)
            have hyb := mapW_bd l (32 * (j : Int))
            obtain ⟨y, hy⟩ : ∃ y, y = S.mapW l (32 * (j : Int)) 32 := ⟨_, rfl⟩
            rw [← hy] at hcell hyb
            have Hy := Lib.hid hy
            clear hy
            go_wp2_with fail
            refine (mk_one base mb wv _ (S.iWord y) wr hm (Nat.le_trans hbw hbl.size) (by simp; omega) (by simp [S.iWord, hyb]) (by simp [S.iWord, hyb])).mono ?_
            rintro e w3 ⟨rfl, h3, hb3⟩
            have Hrow3 := Lib.hid (hb3.keep g _ _ _ hrow.out (by decide) (by decide))
            have H3 := Lib.hid h3
            have HB3 := Lib.hid (hbl.trans hb3)
            clear hb3 hbl hm h3 hcell hyb
            go_wp2_with fail
            go_roundw
            case rel =>
              refine ⟨j + 1, by omega, by go_num, ?_, HB3.out, Hrow3⟩
              rw [List.range_succ, List.map_append, List.map_singleton, ← Hy.out]
              simpa using H3.out
            case measure => simp [intOf]; omega
          · have hjn : j = n := by omega
            subst hjn
            go_wp2_with fail
            go_end0
            refine ⟨rfl, ?_, hbl⟩
            unfold S.eframe
            rw [← HN.out]
            exact hm

end Go.Proofs.YtidhglleeccpoaaDoor
