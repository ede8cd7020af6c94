/- pennantlaw24.few. -/
import Derived.Test.YtkdalaiponchbaaDoorEEmt
import Derived.BigQuiet
set_option linter.unusedVariables false
set_option linter.unusedSimpArgs false
set_option linter.unusedSectionVars false
namespace Go.Proofs.YtkdalaiponchbaaDoor
open Go.RowKit

/-- May a function be gone through? -/
def fewB (slots : Int) (xs : List VL) : Bool := (xs.take 301).all (fun x => decide (x.i.uses.length ≤ 40 ∧ x.i.map.length ≤ 40)) && decide (xs.length ≤ 300 ∧ slots ≤ 60000)
theorem few_all {slots : Int} {xs : List VL} (h : fewB slots xs = true) : xs.length ≤ 300 ∧ slots ≤ 60000 ∧ ∀ x ∈ xs, x.i.uses.length ≤ 40 ∧ x.i.map.length ≤ 40 := by
  unfold fewB at h
  obtain ⟨h1, h2⟩ := (Bool.and_eq_true _ _).mp h
  have h3 := of_decide_eq_true h2
  refine ⟨h3.1, h3.2, fun x hx => ?_⟩
  rw [List.take_of_length_le (by omega)] at h1
  exact of_decide_eq_true (List.all_eq_true.1 h1 x hx)

set_option maxRecDepth 100000 in
set_option maxHeartbeats 2000000 in
theorem l_few (fn regs slots need params : Int) (rest : Bool) (A : Option Addr) (c : Nat) (xs : List VL) (w : World) (hv : VLs w w.heap.size A xs) (hl : xs.length ≤ 9223372036854775807) (hok : ∀ x ∈ xs, x.i.uses.length ≤ 9223372036854775807 ∧ x.i.map.length ≤ 9223372036854775807) :
    Calls Tryd.prog 8 #[.agg #[.int .i64 fn, .int .i64 regs, .int .i64 slots, .int .i64 need, .int .i64 params, .bool rest, .slice A xs.length c]] w fun e w' => e = .returned (.bool (fewB slots xs)) ∧ Below w.heap.size w w' := by
  obtain ⟨N, hN⟩ : ∃ N : Nat, N = xs.length := ⟨_, rfl⟩
  obtain ⟨R, hR⟩ : ∃ R, R = fewB slots xs := ⟨_, rfl⟩
  have hR2 : R = ((xs.take 301).all (fun x => decide (x.i.uses.length ≤ 40 ∧ x.i.map.length ≤ 40)) && decide (N ≤ 300 ∧ slots ≤ 60000)) := by rw [hR, hN]; rfl
  rw [← hR]
  rw [← hN] at hl ⊢
  have HR := Lib.hid hR2
  have HN := Lib.hid hN
  have Hv := Lib.hid hv
  have Hok := Lib.hid hok
  clear hN hR hR2 hv hok
  have hb1 : Below w.heap.size w (w.alloc (.cells #[.int .i64 fn, .int .i64 regs, .int .i64 slots, .int .i64 need, .int .i64 params, .bool rest, .slice A N c] 24)) := (Below.refl _ _).alloc (Nat.le_refl _) _
  have hcr := fun j => cell_row_new w #[.int .i64 fn, .int .i64 regs, .int .i64 slots, .int .i64 need, .int .i64 params, .bool rest, .slice A N c] 24 j
  go_enter Tryd.func8, Tryd.ntmps8
  go_upto_region 1 with fail
  generalize w.alloc (.cells #[.int .i64 fn, .int .i64 regs, .int .i64 slots, .int .i64 need, .int .i64 params, .bool rest, .slice A N c] 24) = w1 at *
  have p2 := hcr 2
  have p6 := hcr 6
  simp only [List.getElem?_toArray, List.getElem?_cons_zero, List.getElem?_cons_succ] at p2 p6
  have Hb1 := Lib.hid hb1
  clear hcr hb1
  go_wp2_with fail
  go_loopw [3] (fun v3 wl => w1 = wl ∧ ∃ k : Nat, k ≤ N ∧ k ≤ 301 ∧ v3 = .int .i64 k ∧ Hid (∀ x ∈ xs.take k, x.i.uses.length ≤ 40 ∧ x.i.map.length ≤ 40)) (fun v3 _ => 301 - (intOf v3).toNat)
  case atStart => exact ⟨rfl, 0, by omega, by omega, rfl, Lib.hid (by simp)⟩
  case round =>
    obtain ⟨rfl, k, hk, hk3, rfl, HK⟩ := hrel
    have hstop : k = N ∨ k = 301 → R = decide (N ≤ 300 ∧ slots ≤ 60000) := fun h => by
      rw [HR.out]
      have : (xs.take 301).all (fun x => decide (x.i.uses.length ≤ 40 ∧ x.i.map.length ≤ 40)) = true := by
        rw [List.all_eq_true]
        intro x hx
        refine decide_eq_true (HK.out x ?_)
        rcases h with h | h
        · rw [h, HN.out, List.take_length]; exact List.mem_of_mem_take hx
        · rw [h]; exact hx
      rw [this, Bool.true_and]
    have Hstop := Lib.hid hstop
    clear hstop
    by_cases hlt : k < N
    · by_cases h301 : k < 301
      · have hkx : k < xs.length := by rw [← HN.out]; exact hlt
        obtain ⟨b, off, x, hAe, hbB, hge, hVA⟩ := ((Hv.out.below Hb1.out)).at_ hkx
        rw [hAe] at p6
        have Hge := Lib.hid hge
        have Hil := Lib.hid ((mv_split xs k x hge).2)
        have hok := Hok.out x (List.mem_of_getElem? hge)
        obtain ⟨q0, q1, q2, q3, q4, q5, q6, q7⟩ := hVA
        obtain ⟨nu, hnu⟩ : ∃ nu : Nat, nu = x.i.uses.length := ⟨_, rfl⟩
        obtain ⟨nm, hnm⟩ : ∃ nm : Nat, nm = x.i.map.length := ⟨_, rfl⟩
        rw [← hnu] at q6 hok
        rw [← hnm] at q7 hok
        have Hnu := Lib.hid hnu
        have Hnm := Lib.hid hnm
        have h301' : (k : Int) < 301 := by omega
        have Hbad := Lib.hid (show (40 < nu ∨ 40 < nm) → R = false from fun h => by
          rw [HR.out, Bool.and_eq_false_iff]
          refine Or.inl ?_
          rw [List.all_eq_false]
          refine ⟨x, ?_, by rw [Hnu.out, Hnm.out] at h; simp; omega⟩
          rw [List.mem_iff_getElem?]
          exact ⟨k, by rw [List.getElem?_take, if_pos h301]; exact Hge.out⟩)
        clear hge hAe hnu hnm
        have ho : 40 < nu ∨ (nu ≤ 40 ∧ 40 < nm) ∨ (nu ≤ 40 ∧ nm ≤ 40) := by omega
        rcases ho with o | ⟨o, o'⟩ | ⟨o, o'⟩
        · have o1 : (40 : Int) < (nu : Int) := by omega
          have Ho := Lib.hid o
          go_wp2_with fail
          go_ret
          exact ⟨by rw [Hbad.out (Or.inl Ho.out)]; rfl, Hb1.out⟩
        · have o1 : ¬ (40 : Int) < (nu : Int) := by omega
          have o2 : (40 : Int) < (nm : Int) := by omega
          have Ho := Lib.hid o'
          go_wp2_with fail
          go_ret
          exact ⟨by rw [Hbad.out (Or.inr Ho.out)]; rfl, Hb1.out⟩
        · have o1 : ¬ (40 : Int) < (nu : Int) := by omega
          have o2 : ¬ (40 : Int) < (nm : Int) := by omega
          have Ho := Lib.hid (And.intro o o')
          go_wp2_with fail
          go_roundw
          case rel =>
            refine ⟨trivial, k + 1, by omega, by omega, by go_num, Lib.hid (fun y hy => ?_)⟩
            rw [Hil.out] at hy
            rcases List.mem_append.1 hy with hy | hy
            · exact HK.out y hy
            · have : y = x := by simpa using hy
              rw [this, ← Hnu.out, ← Hnm.out]; exact Ho.out
          case measure => simp [intOf]; omega
      · have hk4 : k = 301 := by omega
        subst hk4
        have Hs1 := Lib.hid (Hstop.out (Or.inr rfl))
        clear Hstop
        have n1 : ¬ (N : Int) ≤ 300 := by omega
        have hN3 : ¬ N ≤ 300 := by omega
        have HN3 := Lib.hid hN3
        go_wp2_with fail
        go_ret
        exact ⟨by rw [Hs1.out, decide_eq_false (fun h => HN3.out h.1)]; rfl, Hb1.out⟩
    · have hkN : N = k := by omega
      subst hkN
      have Hs1 := Lib.hid (Hstop.out (Or.inl rfl))
      clear Hstop
      have ho : 300 < N ∨ (N ≤ 300 ∧ 60000 < slots) ∨ (N ≤ 300 ∧ slots ≤ 60000) := by omega
      rcases ho with o | ⟨o, o'⟩ | ⟨o, o'⟩
      · have n1 : ¬ (N : Int) ≤ 300 := by omega
        have Ho := Lib.hid o
        go_wp2_with fail
        go_ret
        exact ⟨by rw [Hs1.out, decide_eq_false (fun h => by have := Ho.out; omega)]; rfl, Hb1.out⟩
      · have n1 : (N : Int) ≤ 300 := by omega
        have n2 : ¬ slots ≤ 60000 := by omega
        have Ho := Lib.hid o'
        go_wp2_with fail
        go_ret
        exact ⟨by rw [Hs1.out, decide_eq_false (fun h => by have := Ho.out; omega)]; rfl, Hb1.out⟩
      · have n1 : (N : Int) ≤ 300 := by omega
        have Ho := Lib.hid (And.intro o o')
        go_wp2_with fail
        go_ret
        exact ⟨by rw [Hs1.out, decide_eq_true Ho.out]; rfl, Hb1.out⟩


theorem own_item {w : World} {base : Nat} {A : Option Addr} {c : Nat} {xs : List S.Item} (h : w.ownsRow base 49 8 (.slice A xs.length c) xs.length (xs.flatMap itemCells)) {k : Nat} (hk : k < xs.length) :
    ∃ g x, A = some ⟨g, 0, none⟩ ∧ g < w.heap.size ∧ xs[k]? = some x ∧ ∀ j, j < 8 → w.cell? ⟨g, k * 8 + j, none⟩ = (itemCells x)[j]? := by
  obtain ⟨g, rfl, _, hg2, _, hg4, _⟩ := ownsRow_at h (by omega)
  refine ⟨g, xs[k], rfl, hg2, List.getElem?_eq_getElem hk, fun j hj => ?_⟩
  rw [hg4 _ (by omega), flat_item xs k xs[k] (List.getElem?_eq_getElem hk) j hj]

set_option maxRecDepth 100000 in
set_option maxHeartbeats 2000000 in
theorem l_same (nm : ByteArray) (xs : List S.Item) (b1 b2 : Nat) (A1 A2 : Option Addr) (c1 c2 : Nat) (w : World) (h1 : w.ownsRow b1 49 8 (.slice A1 xs.length c1) xs.length (xs.flatMap itemCells)) (h2 : w.ownsRow b2 49 8 (.slice A2 xs.length c2) xs.length (xs.flatMap itemCells)) (hl : xs.length ≤ 1000000000) :
    Calls Tryd.prog 12 #[.agg #[.string nm, .slice A1 xs.length c1], .agg #[.string nm, .slice A2 xs.length c2]] w fun e w' => e = .returned (.bool true) ∧ Below w.heap.size w w' := by
  have HA := Lib.hid (fun k (hk : k < xs.length) => own_item h1 hk)
  have HB := Lib.hid (fun k (hk : k < xs.length) => own_item h2 hk)
  obtain ⟨N, hN⟩ : ∃ N : Nat, N = xs.length := ⟨_, rfl⟩
  rw [← hN] at hl HA HB ⊢
  have HN := Lib.hid hN
  clear h1 h2 hN
  have hb2 : Below w.heap.size w ((w.alloc (.cells #[.string nm, .slice A1 N c1] 30)).alloc (.cells #[.string nm, .slice A2 N c2] 30)) := ((Below.refl _ _).alloc (Nat.le_refl _) _).alloc (by simp) _
  have hs2 : ((w.alloc (.cells #[.string nm, .slice A1 N c1] 30)).alloc (.cells #[.string nm, .slice A2 N c2] 30)).heap.size = w.heap.size + 2 := by simp
  have hc2 := two_cells w (.cells #[.string nm, .slice A1 N c1] 30) (.cells #[.string nm, .slice A2 N c2] 30)
  go_enter Tryd.func12, Tryd.ntmps12
  go_upto_region 1 with fail
  generalize ((w.alloc (.cells #[.string nm, .slice A1 N c1] 30)).alloc (.cells #[.string nm, .slice A2 N c2] 30)) = w1 at *
  have Hc := Lib.hid (fun (w9 : World) (hb : Below w1.heap.size w1 w9) => (show w9.cell? ⟨w.heap.size, 0, none⟩ = some (.string nm) ∧ w9.cell? ⟨w.heap.size, 1, none⟩ = some (.slice A1 N c1) ∧ w9.cell? ⟨w.heap.size + 1, 0, none⟩ = some (.string nm) ∧ w9.cell? ⟨w.heap.size + 1, 1, none⟩ = some (.slice A2 N c2) from by
    have e1 := (hb.block w.heap.size (by omega)).trans hc2.1
    have e2 := (hb.block (w.heap.size + 1) (by omega)).trans hc2.2
    refine ⟨?_, ?_, ?_, ?_⟩
    all_goals first
      | (rw [Lib.cell_of_heap e1]; rfl)
      | (rw [Lib.cell_of_heap e2]; rfl)))
  obtain ⟨p0, p1, p2, p3⟩ := Hc.out w1 (Below.refl _ _)
  have Hb2 := Lib.hid hb2
  have Hs2 := Lib.hid hs2
  clear hb2 hs2 hc2
  go_wp2_with fail
  clear p0 p1 p2 p3
  go_loopw [5] (fun v5 wl => ∃ k : Nat, k ≤ N ∧ v5 = .int .i64 k ∧ Hid (Below w1.heap.size w1 wl)) (fun v5 _ => N - (intOf v5).toNat)
  case atStart => exact ⟨0, by omega, rfl, Lib.hid (Below.refl _ _)⟩
  case round =>
    obtain ⟨k, hk, rfl, HW⟩ := hrel
    obtain ⟨p0, p1, p2, p3⟩ := Hc.out wr HW.out
    by_cases hlt : k < N
    · obtain ⟨g1, x, e1, hg1, hxk, hx1⟩ := HA.out k hlt
      obtain ⟨g2, x2, e2, hg2, hxk2, hx2⟩ := HB.out k hlt
      rw [hxk] at hxk2
      obtain rfl : x = x2 := Option.some.inj hxk2
      rw [e1] at p1
      rw [e2] at p3
      have hbw := Hb2.out.trans (HW.out.mono Hb2.out.size)
      have hz1 : w.heap.size < wr.heap.size := by have := HW.out.size; have := Hs2.out; omega
      have hy1 := fun j hj => (hbw.cell (p := ⟨g1, k * 8 + j, none⟩) hg1).trans (hx1 j hj)
      have hy2 := fun j hj => (hbw.cell (p := ⟨g2, k * 8 + j, none⟩) hg2).trans (hx2 j hj)
      obtain ⟨kd, ⟨op, d, a, b, imm⟩, lb, wd⟩ := x
      have a0 := hy1 0 (by omega)
      have a1 := hy1 1 (by omega)
      have a2 := hy1 2 (by omega)
      have a3 := hy1 3 (by omega)
      have a4 := hy1 4 (by omega)
      have a5 := hy1 5 (by omega)
      have a6 := hy1 6 (by omega)
      have a7 := hy1 7 (by omega)
      have b0 := hy2 0 (by omega)
      have b1 := hy2 1 (by omega)
      have b2 := hy2 2 (by omega)
      have b3 := hy2 3 (by omega)
      have b4 := hy2 4 (by omega)
      have b5 := hy2 5 (by omega)
      have b6 := hy2 6 (by omega)
      have b7 := hy2 7 (by omega)
      simp only [itemCells, List.getElem?_cons_zero, List.getElem?_cons_succ, Nat.add_zero] at a0 a1 a2 a3 a4 a5 a6 a7 b0 b1 b2 b3 b4 b5 b6 b7
      have hk0 : (0 : Int) ≤ (k : Int) := by omega
      have hkN : (k : Int) < (N : Int) := by omega
      clear hxk hxk2 hx1 hx2 hy1 hy2 hbw e1 e2
      go_upto_region 6 with fail
      go_quiet (fail)
      go_wp2_with fail
      exact ⟨⟨k + 1, by omega, by go_num, Lib.hid (below_drewN HW.out _)⟩, by simp [intOf]; omega⟩
    · have hkN : N = k := by omega
      subst hkN
      have Hbw := Lib.hid (Hb2.out.trans (HW.out.mono Hb2.out.size))
      go_wp2_with fail
      go_ret
      exact ⟨rfl, Hbw.out⟩


/-- The lists of an instruction as they are given: any length. -/
structure VIn (w : World) (B : Nat) (x : VL) : Prop where
  us : Ints w B x.U x.i.uses
  mp : Ints w B x.M x.i.map
  ul : x.i.uses.length ≤ 9223372036854775807
  ml : x.i.map.length ≤ 9223372036854775807
  un : x.U = none → x.i.uses.length = 0
  mn : x.M = none → x.i.map.length = 0
  op : I64 x.i.op
  d : I64 x.i.d
  imm : I64 x.i.imm
  label : I64 x.i.label
theorem VIn.ok {w : World} {B : Nat} {x : VL} (h : VIn w B x) (h1 : x.i.uses.length ≤ 40) (h2 : x.i.map.length ≤ 40) : VOk w B x := ⟨h.us, h.mp, h1, h2, h.un, h.mn, h.op, h.d, h.imm, h.label⟩

end Go.Proofs.YtkdalaiponchbaaDoor
