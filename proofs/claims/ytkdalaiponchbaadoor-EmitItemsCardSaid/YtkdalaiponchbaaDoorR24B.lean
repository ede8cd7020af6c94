/- pennantref24.Check. -/
import Derived.Test.YtkdalaiponchbaaDoorR24A
import Derived.Test.YtkdalaiponchbaaDoorEEmP
set_option linter.unusedVariables false
set_option linter.unusedSimpArgs false
set_option linter.unusedSectionVars false
namespace Go.Proofs.YtkdalaiponchbaaDoor
open Go.RowKit

theorem einst_eq2 (slots : Int) (i : S.VInst) : S.einst slots i = (decide (i.d ≤ 31 ∧ i.a ≤ 31 ∧ i.b ≤ 31) && i.uses.all (fun r => decide (r ≤ 31)) && (i.map.all (S.slotOk slots) && S.rising i.map) && (!S.moves i || S.slotOk slots i.imm)) := by
  unfold S.einst
  simp only [Bool.and_assoc]

/-- What the rounds of the document's check keep. -/
structure RkR (w : World) (F G : Array Value) (v : Value) (ys : List VL) (wl : World) : Prop where
  below : Below w.heap.size w wl
  fbox : wl.heap[w.heap.size]? = some (.cells F 24 (0, 0))
  pbox : wl.heap[w.heap.size + 1]? = some (.cells G 24 (0, 0))
  own : wl.ownsRow (w.heap.size + 2) 44 8 v ys.length (ys.flatMap VL.cells)
theorem RkR.lts {w : World} {F G : Array Value} {v : Value} {ys : List VL} {wl : World} (h : RkR w F G v ys wl) : w.heap.size + 1 < wl.heap.size := by
  have := h.pbox
  rcases Nat.lt_or_ge (w.heap.size + 1) wl.heap.size with h' | h'
  · exact h'
  · simp [Array.getElem?_eq_none h'] at this
theorem RkR.keep {w : World} {F G : Array Value} {v : Value} {ys : List VL} {wl w' : World} (h : RkR w F G v ys wl) (hb : Below wl.heap.size wl w') : RkR w F G v ys w' := by
  have hl := h.lts
  exact ⟨h.below.trans (hb.mono h.below.size), (hb.block _ (by omega)).trans h.fbox, (hb.block _ (by omega)).trans h.pbox, ownsRow_below h.own hb⟩

set_option maxRecDepth 100000 in
set_option maxHeartbeats 1000000 in
theorem r24_Check_bad (f : S.VFunc) (I : Value) (w : World) (h : ¬ headOk f) :
    Calls Tryd.prog 14 #[.agg (vfCells f I)] w fun e w' => e = .returned (.int .i64 (S.echk f)) ∧ Below w.heap.size w w' := by
  have He := Lib.hid (echk_bad h)
  obtain ⟨fn, regs, slots, need, params, rest, insts⟩ := f
  unfold headOk at h
  simp only at h
  unfold vfCells
  have hc : slots < 0 ∨ (0 ≤ slots ∧ 16777216 < slots) ∨ (0 ≤ slots ∧ slots ≤ 16777216 ∧ 16777216 < need) ∨ (0 ≤ slots ∧ slots ≤ 16777216 ∧ need ≤ 16777216 ∧ 16777216 < params) ∨
      (0 ≤ slots ∧ slots ≤ 16777216 ∧ need ≤ 16777216 ∧ params ≤ 16777216 ∧ rest = true ∧ params < 1) ∨ (0 ≤ slots ∧ slots ≤ 16777216 ∧ need ≤ 16777216 ∧ params ≤ 16777216 ∧ rest = false ∧ fn < 0) ∨ (0 ≤ slots ∧ slots ≤ 16777216 ∧ need ≤ 16777216 ∧ params ≤ 16777216 ∧ rest = true ∧ 1 ≤ params ∧ fn < 0) := by
    cases rest <;> simp_all <;> omega
  clear h
  rcases hc with h1 | ⟨h1, h2⟩ | ⟨h1, h2, h3⟩ | ⟨h1, h2, h3, h4⟩ | ⟨h1, h2, h3, h4, rfl, h5⟩ | ⟨h1, h2, h3, h4, rfl, h5⟩ | ⟨h1, h2, h3, h4, rfl, h5, h6⟩
  all_goals
    go_enter Tryd.func14, Tryd.ntmps14
    go_wp2_with fail
    go_ret
    exact ⟨by rw [He.out]; rfl, (Below.refl _ _).alloc (Nat.le_refl _) _⟩

set_option maxRecDepth 100000 in
set_option maxHeartbeats 4000000 in
theorem r24_Check1 (f : S.VFunc) (A : Option Addr) (c : Nat) (xs : List VL) (hfi : f.insts = xs.map VL.i) (w : World) (hv : VLs w w.heap.size A xs) (hok : ∀ x ∈ xs, VOk w w.heap.size x) (hlen : xs.length ≤ 300) (h : headOk f) :
    Calls Tryd.prog 14 #[.agg (vfCells f (.slice A xs.length c))] w fun e w' => e = .returned (.int .i64 (S.echk f)) ∧ Below w.heap.size w w' := by
  have Hall := Lib.hid (echk_all f h)
  have Hone := Lib.hid (echk_one f)
  have Hfi := Lib.hid hfi
  obtain ⟨fn, regs, slots, need, params, rest, insts⟩ := f
  unfold headOk at h
  simp only at h hfi
  obtain ⟨h1, h2, h3, h4, h5, h6⟩ := h
  unfold vfCells
  obtain ⟨N, hN⟩ : ∃ N : Nat, N = xs.length := ⟨_, rfl⟩
  rw [← hN] at hlen ⊢
  have HN := Lib.hid hN
  have Hv := Lib.hid hv
  have Hok := Lib.hid hok
  have hr : rest = false ∨ (rest = true ∧ 1 ≤ params) := by
    cases rest
    · exact Or.inl rfl
    · exact Or.inr ⟨rfl, by simp at h5; omega⟩
  clear h5 hN hv hok hfi
  go_enter Tryd.func14, Tryd.ntmps14
  go_upto_region 1 with fail
  go_cut [38] (fun v38 wc => v38 = .bool false ∧ w.alloc (.cells #[.int .i64 fn, .int .i64 regs, .int .i64 slots, .int .i64 need, .int .i64 params, .bool rest, .slice A N c] 24) = wc)
  case first =>
    rcases hr with rfl | ⟨rfl, hr⟩
    all_goals
      go_wp2_with fail
      go_meet
      case rel => exact ⟨by simp; omega, rfl⟩
  case rest =>
    obtain ⟨rfl, rfl⟩ := hcut
    have R0 : RkR w #[.int .i64 fn, .int .i64 regs, .int .i64 slots, .int .i64 need, .int .i64 params, .bool rest, .slice A N c] #[.int .i64 fn, .int .i64 regs, .int .i64 slots, .int .i64 need, .int .i64 params, .bool rest, .slice none 0 0] (.slice none 0 0) [] ((w.alloc (.cells #[.int .i64 fn, .int .i64 regs, .int .i64 slots, .int .i64 need, .int .i64 params, .bool rest, .slice A N c] 24)).alloc (.cells #[.int .i64 fn, .int .i64 regs, .int .i64 slots, .int .i64 need, .int .i64 params, .bool rest, .slice none 0 0] 24)) := by
      obtain ⟨t1, t2⟩ := two_cellsR w (.cells #[.int .i64 fn, .int .i64 regs, .int .i64 slots, .int .i64 need, .int .i64 params, .bool rest, .slice A N c] 24) (.cells #[.int .i64 fn, .int .i64 regs, .int .i64 slots, .int .i64 need, .int .i64 params, .bool rest, .slice none 0 0] 24)
      exact ⟨((Below.refl _ _).alloc (Nat.le_refl _) _).alloc (by simp) _, t1, t2, World.ownsRow_nil _ _ _ _⟩
    have HR0 := Lib.hid R0
    clear R0
    go_wp2_with fail
    go_loopw [4, 5, 6] (fun v4 _ _ wl => ∃ k : Nat, k ≤ N ∧ v4 = .int .i64 k ∧ (∃ v : Value, Hid (RkR w #[.int .i64 fn, .int .i64 regs, .int .i64 slots, .int .i64 need, .int .i64 params, .bool rest, .slice A N c] #[.int .i64 fn, .int .i64 regs, .int .i64 slots, .int .i64 need, .int .i64 params, .bool rest, v] v ((xs.take k).map mvV) wl)) ∧ Hid (∀ x ∈ xs.take k, S.einst slots x.i = true)) (fun v4 _ _ _ => N - (intOf v4).toNat)
    case atStart => exact ⟨0, by omega, rfl, ⟨_, HR0⟩, Lib.hid (by simp)⟩
    case round =>
      obtain ⟨k, hk, rfl, ⟨v, HR⟩, HE⟩ := hrel
      have hyl : ((xs.take k).map mvV).length = k := by rw [List.length_map, List.length_take, ← HN.out]; omega
      obtain ⟨Av, cv, hvv⟩ := ownsRow_form HR.out.own
      rw [hyl] at hvv
      subst hvv
      have Hyl := Lib.hid hyl
      clear hyl
      have hlts := HR.out.lts
      have hww := HR.out.below.size
      have cf := fun j => (show wr.cell? ⟨w.heap.size, j, none⟩ = #[.int .i64 fn, .int .i64 regs, .int .i64 slots, .int .i64 need, .int .i64 params, .bool rest, .slice A N c][j]? by rw [Lib.cell_of_heap HR.out.fbox])
      have f0 := cf 0
      have f1 := cf 1
      have f2 := cf 2
      have f3 := cf 3
      have f4 := cf 4
      have f5 := cf 5
      have f6 := cf 6
      simp only [List.getElem?_toArray, List.getElem?_cons_zero, List.getElem?_cons_succ] at f0 f1 f2 f3 f4 f5 f6
      clear cf
      by_cases hlt : k < N
      · have hkx : k < xs.length := by rw [← HN.out]; exact hlt
        obtain ⟨b, off, x, hAe, hbB, hge, hVA⟩ := ((Hv.out.below HR.out.below)).at_ hkx
        have Hox := Lib.hid ((Hok.out x (List.mem_of_getElem? hge)).below HR.out.below)
        have Hge := Lib.hid hge
        have HAe := Lib.hid hAe
        obtain ⟨q0, q1, q2, q3, q4, q5, q6, q7⟩ := hVA
        have hbox := heap_alloc_new wr (.cells #[.int .i64 x.i.op, .int .i64 x.i.d, .int .i64 x.i.a, .int .i64 x.i.b, .int .i64 x.i.imm, .int .i64 x.i.label, .slice x.U x.i.uses.length x.cu, .slice x.M x.i.map.length x.cm] 44)
        have hbA : Below wr.heap.size wr (wr.alloc (.cells #[.int .i64 x.i.op, .int .i64 x.i.d, .int .i64 x.i.a, .int .i64 x.i.b, .int .i64 x.i.imm, .int .i64 x.i.label, .slice x.U x.i.uses.length x.cu, .slice x.M x.i.map.length x.cm] 44)) := (Below.refl _ _).alloc (Nat.le_refl _) _
        have HRA := Lib.hid (HR.out.keep hbA)
        have hzA : (wr.alloc (.cells #[.int .i64 x.i.op, .int .i64 x.i.d, .int .i64 x.i.a, .int .i64 x.i.b, .int .i64 x.i.imm, .int .i64 x.i.label, .slice x.U x.i.uses.length x.cu, .slice x.M x.i.map.length x.cm] 44)).heap.size = wr.heap.size + 1 := by simp
        have Hei := Lib.hid (einst_eq2 slots x.i)
        obtain ⟨rs, hrs⟩ : ∃ rs, rs = (x.i.map.all (S.slotOk slots) && S.rising x.i.map) := ⟨_, rfl⟩
        have hsl := fun W (hb : Below wr.heap.size wr W) => r_slots fn regs slots need params rest (.slice A N c) x.M x.cm x.i.map W ((Hox.out.mp.below (hb.mono hww)).more (Nat.le_trans hww hb.size)) (by have := Hox.out.ml; omega)
        rw [← hrs] at hsl Hei
        have Hsl := Lib.hid hsl
        clear hge hsl hrs
        rw [hAe] at f6
        go_upto_region 9 with fail
        generalize wr.alloc (.cells #[.int .i64 x.i.op, .int .i64 x.i.d, .int .i64 x.i.a, .int .i64 x.i.b, .int .i64 x.i.imm, .int .i64 x.i.label, .slice x.U x.i.uses.length x.cu, .slice x.M x.i.map.length x.cm] 44) = wA at *
        have HbA := Lib.hid hbA
        have Hbox := Lib.hid hbox
        have cb := fun (W : World) (hb : Below wA.heap.size wA W) j => (show W.cell? ⟨wr.heap.size, j, none⟩ = #[.int .i64 x.i.op, .int .i64 x.i.d, .int .i64 x.i.a, .int .i64 x.i.b, .int .i64 x.i.imm, .int .i64 x.i.label, .slice x.U x.i.uses.length x.cu, .slice x.M x.i.map.length x.cm][j]? by rw [Lib.cell_of_heap ((hb.block _ (by omega)).trans hbox)])
        have Hcb := Lib.hid cb
        have cb := fun j => cb wA (Below.refl _ _) j
        have i0 := cb 0
        have i1 := cb 1
        have i2 := cb 2
        have i3 := cb 3
        have i7 := cb 7
        simp only [List.getElem?_toArray, List.getElem?_cons_zero, List.getElem?_cons_succ] at i0 i1 i2 i3 i7
        have cf := fun j => (show wA.cell? ⟨w.heap.size, j, none⟩ = #[.int .i64 fn, .int .i64 regs, .int .i64 slots, .int .i64 need, .int .i64 params, .bool rest, .slice A N c][j]? by rw [Lib.cell_of_heap HRA.out.fbox])
        have g0 := cf 0
        have g1 := cf 1
        have g2 := cf 2
        have g3 := cf 3
        have g4 := cf 4
        have g5 := cf 5
        have g6 := cf 6
        simp only [List.getElem?_toArray, List.getElem?_cons_zero, List.getElem?_cons_succ] at g0 g1 g2 g3 g4 g5 g6
        rw [hAe] at g6
        rw [HAe.out] at Hsl
        clear cb cf f0 f1 f2 f3 f4 f5 f6 q0 q1 q2 q3 q4 q5 q6 q7 hbA hbox
        have hd : 31 < x.i.d ∨ (x.i.d ≤ 31 ∧ 31 < x.i.a) ∨ (x.i.d ≤ 31 ∧ x.i.a ≤ 31 ∧ 31 < x.i.b) ∨ (x.i.d ≤ 31 ∧ x.i.a ≤ 31 ∧ x.i.b ≤ 31) := by omega
        rcases hd with e1 | ⟨e1, e2⟩ | ⟨e1, e2, e3⟩ | ⟨e1, e2, e3⟩
        · have He := Lib.hid (show S.einst slots x.i = false by rw [Hei.out, decide_eq_false (by omega)]; rfl)
          go_wp2_with fail
          go_ret
          exact ⟨by rw [Hone.out x.i (by rw [Hfi.out]; exact List.mem_map.2 ⟨x, List.mem_of_getElem? Hge.out, rfl⟩) He.out]; rfl, HRA.out.below⟩
        · have He := Lib.hid (show S.einst slots x.i = false by rw [Hei.out, decide_eq_false (by omega)]; rfl)
          go_wp2_with fail
          go_ret
          exact ⟨by rw [Hone.out x.i (by rw [Hfi.out]; exact List.mem_map.2 ⟨x, List.mem_of_getElem? Hge.out, rfl⟩) He.out]; rfl, HRA.out.below⟩
        · have He := Lib.hid (show S.einst slots x.i = false by rw [Hei.out, decide_eq_false (by omega)]; rfl)
          go_wp2_with fail
          go_ret
          exact ⟨by rw [Hone.out x.i (by rw [Hfi.out]; exact List.mem_map.2 ⟨x, List.mem_of_getElem? Hge.out, rfl⟩) He.out]; rfl, HRA.out.below⟩
        · rw [decide_eq_true (show x.i.d ≤ 31 ∧ x.i.a ≤ 31 ∧ x.i.b ≤ 31 from ⟨e1, e2, e3⟩)] at Hei
          go_wp2_with fail
          refine (Hsl.out _ HbA.out).mono ?_
          rintro e w5 ⟨rfl, hb5⟩
          have HR5 := Lib.hid (HRA.out.keep hb5)
          have Hb5 := Lib.hid hb5
          clear hb5 i0 i1 i2 i3 i7 g0 g1 g2 g3 g4 g5 g6
          cases hrs : rs with
          | false =>
            subst hrs
            have He := Lib.hid (show S.einst slots x.i = false by rw [Hei.out]; simp)
            go_wp2_with fail
            go_ret
            exact ⟨by rw [Hone.out x.i (by rw [Hfi.out]; exact List.mem_map.2 ⟨x, List.mem_of_getElem? Hge.out, rfl⟩) He.out]; rfl, HR5.out.below⟩
          | true =>
            subst hrs
            rw [Bool.and_true] at Hei
            have Hcb5 := Lib.hid (fun (W : World) (hb : Below w5.heap.size w5 W) j => Hcb.out W (Hb5.out.trans (hb.mono Hb5.out.size)) j)
            have cb := fun j => Hcb5.out w5 (Below.refl _ _) j
            have i0 := cb 0
            have i1 := cb 1
            have i2 := cb 2
            have i3 := cb 3
            have i4 := cb 4
            have i5 := cb 5
            have i6 := cb 6
            have i7 := cb 7
            simp only [List.getElem?_toArray, List.getElem?_cons_zero, List.getElem?_cons_succ] at i0 i1 i2 i3 i4 i5 i6 i7
            have cf := fun j => (show w5.cell? ⟨w.heap.size, j, none⟩ = #[.int .i64 fn, .int .i64 regs, .int .i64 slots, .int .i64 need, .int .i64 params, .bool rest, .slice A N c][j]? by rw [Lib.cell_of_heap HR5.out.fbox])
            have g2 := cf 2
            simp only [List.getElem?_toArray, List.getElem?_cons_zero, List.getElem?_cons_succ] at g2
            have hz5 : wr.heap.size < w5.heap.size := by have := Hb5.out.size; omega
            obtain ⟨nu, hnu⟩ : ∃ nu, nu = x.i.uses.length := ⟨_, rfl⟩
            have Hnu := Lib.hid hnu
            have hnl : nu ≤ 40 := by rw [hnu]; exact Hox.out.ul
            have hus := (Hox.out.us.below ((HbA.out.trans (Hb5.out.mono HbA.out.size)).mono hww)).more (B' := w5.heap.size) (by omega)
            have Hus := Lib.hid hus
            have Hil := Lib.hid ((mv_split xs k x Hge.out).2)
            rw [← hnu] at i6
            clear cb cf hnu hus
            go_wp2_with fail
            go_loopw [6] (fun v6 wl => w5 = wl ∧ ∃ j : Nat, j ≤ nu ∧ v6 = .int .i64 j ∧ Hid (∀ r ∈ x.i.uses.take j, r ≤ 31)) (fun v6 _ => nu - (intOf v6).toNat)
            case atStart => exact ⟨rfl, 0, by omega, rfl, Lib.hid (by simp)⟩
            case round =>
              obtain ⟨rfl, j, hj, rfl, HU⟩ := hrel
              by_cases hju : j < nu
              · have hjx : j < x.i.uses.length := by rw [← Hnu.out]; exact hju
                obtain ⟨b3, off3, e3, hb3, hc3⟩ := Hus.out.at_ hjx
                rw [e3] at i6
                obtain ⟨r, hr⟩ : ∃ r, r = x.i.uses.getD j 0 := ⟨_, rfl⟩
                rw [← hr] at hc3
                have hrg : x.i.uses[j]? = some r := by rw [hr]; simp [hjx]
                have Hrg := Lib.hid hrg
                clear hr hrg
                by_cases h31 : 31 < r
                · have H31 := Lib.hid h31
                  go_wp2_with fail
                  go_ret
                  have hno : x.i.uses.all (fun r => decide (r ≤ 31)) = false := by
                    rw [List.all_eq_false]
                    exact ⟨r, List.mem_of_getElem? Hrg.out, by have := H31.out; simp; omega⟩
                  exact ⟨by rw [Hone.out x.i (by rw [Hfi.out]; exact List.mem_map.2 ⟨x, List.mem_of_getElem? Hge.out, rfl⟩) (by rw [Hei.out, hno]; rfl)]; rfl, HR5.out.below⟩
                · have H31 := Lib.hid h31
                  go_wp2_with fail
                  go_roundw
                  case rel =>
                    refine ⟨trivial, j + 1, by omega, by go_num, Lib.hid (fun y hy => ?_)⟩
                    rw [(mv_split x.i.uses j r Hrg.out).2] at hy
                    rcases List.mem_append.1 hy with hy | hy
                    · exact HU.out y hy
                    · have : y = r := by simpa using hy
                      rw [this]; have := H31.out; omega
                  case measure => simp [intOf]; omega
              · have hjn : nu = j := by omega
                subst hjn
                have hall : x.i.uses.all (fun r => decide (r ≤ 31)) = true := by
                  rw [List.all_eq_true]
                  intro y hy
                  exact decide_eq_true (HU.out y (by rw [Hnu.out, List.take_length]; exact hy))
                rw [hall] at Hei
                simp only [Bool.true_and] at Hei
                have Hso := Lib.hid (show S.slotOk slots x.i.imm = decide (0 ≤ x.i.imm ∧ x.i.imm < slots) from rfl)
                have Hmo := Lib.hid (show S.moves x.i = decide (x.i.op = 73 ∨ x.i.op = 74) from rfl)
                clear hall
                have ho : (x.i.op = 73 ∨ x.i.op = 74) ∨ (x.i.op ≠ 73 ∧ x.i.op ≠ 74) := by omega
                rcases ho with ho | ⟨o1, o2⟩
                · have hm : S.moves x.i = true := by rw [Hmo.out]; exact decide_eq_true ho
                  rw [hm] at Hei
                  simp only [Bool.not_true, Bool.false_or] at Hei
                  have Hm := Lib.hid hm
                  clear hm
                  have hi : x.i.imm < 0 ∨ (0 ≤ x.i.imm ∧ slots ≤ x.i.imm) ∨ (0 ≤ x.i.imm ∧ x.i.imm < slots) := by omega
                  rcases hi with p1 | ⟨p1, p2⟩ | ⟨p1, p2⟩
                  · have P1 := Lib.hid p1
                    rcases ho with o | o
                    all_goals
                      rw [o] at i0
                      clear o
                      go_wp2_with fail
                      go_ret
                      exact ⟨by rw [Hone.out x.i (by rw [Hfi.out]; exact List.mem_map.2 ⟨x, List.mem_of_getElem? Hge.out, rfl⟩) (by rw [Hei.out, Hso.out, decide_eq_false (by have := P1.out; omega)])]; rfl, HR5.out.below⟩
                  · have P1 := Lib.hid p2
                    rcases ho with o | o
                    all_goals
                      rw [o] at i0
                      clear o
                      go_wp2_with fail
                      go_ret
                      exact ⟨by rw [Hone.out x.i (by rw [Hfi.out]; exact List.mem_map.2 ⟨x, List.mem_of_getElem? Hge.out, rfl⟩) (by rw [Hei.out, Hso.out, decide_eq_false (by have := P1.out; omega)])]; rfl, HR5.out.below⟩
                  · have Hes := Lib.hid (show S.einst slots x.i = true by rw [Hei.out, Hso.out, decide_eq_true ⟨p1, p2⟩])
                    have Hmvc := Lib.hid (show (mvV x).cells = [.int .i64 64, .int .i64 x.i.d, .int .i64 x.i.a, .int .i64 x.i.b, .int .i64 x.i.imm, .int .i64 x.i.label, .slice x.U x.i.uses.length x.cu, .slice x.M x.i.map.length x.cm] by simp [mvV, VL.cells, S.moved, Hm.out])
                    have hfb : w5.frozen? ⟨wr.heap.size, 0, none⟩ = false := Lib.frozen_of_heap (((Hb5.out.block _ (by omega)).trans Hbox.out)) 0
                    have hbx := (Hb5.out.block wr.heap.size (by omega)).trans Hbox.out
                    have hbY : Below wr.heap.size w5 (w5.setCell ⟨wr.heap.size, 0, none⟩ (.int .i64 64)) := (Below.refl _ _).setCell (p := ⟨wr.heap.size, 0, none⟩) (Nat.le_refl _) _
                    have HRY := Lib.hid (show RkR w #[.int .i64 fn, .int .i64 regs, .int .i64 slots, .int .i64 need, .int .i64 params, .bool rest, .slice A N c] #[.int .i64 fn, .int .i64 regs, .int .i64 slots, .int .i64 need, .int .i64 params, .bool rest, (.slice Av k cv)] (.slice Av k cv) ((xs.take k).map mvV) (w5.setCell ⟨wr.heap.size, 0, none⟩ (.int .i64 64)) from
                      ⟨HR5.out.below.trans (hbY.mono hww), (hbY.block _ (by omega)).trans HR5.out.fbox, (hbY.block _ (by omega)).trans HR5.out.pbox, ownsRow_setCell_other (a := ⟨wr.heap.size, 0, none⟩) HR5.out.own (fun e => by
                        have := (HR.out.own.lt wr.heap.size e).2
                        omega) _⟩)
                    rcases ho with o | o
                    all_goals
                      rw [o] at i0
                      clear o
                      go_upto_region 20 with fail
                      have hcY := fun j => (show (w5.setCell ⟨wr.heap.size, 0, none⟩ (.int .i64 64)).cell? ⟨wr.heap.size, j, none⟩ = #[.int .i64 64, .int .i64 x.i.d, .int .i64 x.i.a, .int .i64 x.i.b, .int .i64 x.i.imm, .int .i64 x.i.label, .slice x.U x.i.uses.length x.cu, .slice x.M x.i.map.length x.cm][j]? by
                        rw [setCell_eq_setRow _ _ _ _ _ _ _ hbx]
                        rw [Lib.cell_of_heap (setRow_heap _ _ _ _ _ _ hbx)]; rfl)
                      generalize w5.setCell ⟨wr.heap.size, 0, none⟩ (.int .i64 64) = wY at *
                      clear i0 i1 i2 i3 i4 i5 i6 i7
                      have y0 := hcY 0
                      have y1 := hcY 1
                      have y2 := hcY 2
                      have y3 := hcY 3
                      have y4 := hcY 4
                      have y5 := hcY 5
                      have y6 := hcY 6
                      have y7 := hcY 7
                      simp only [List.getElem?_toArray, List.getElem?_cons_zero, List.getElem?_cons_succ] at y0 y1 y2 y3 y4 y5 y6 y7
                      have p6 : wY.cell? ⟨w.heap.size + 1, 6, none⟩ = some (.slice Av k cv) := by rw [Lib.cell_of_heap HRY.out.pbox]; rfl
                      have hzY := HRY.out.lts
                      have hbaseY : w.heap.size + 2 ≤ wY.heap.size := by omega
                      have hoY := HRY.out.own
                      rw [Hyl.out] at hoY
                      have HoY := Lib.hid hoY
                      clear hoY hcY
                      go_wp2_with (at_builtin
                                   refine wpList_push rfl (.tmp 106) (.tmp 108) _ rfl (w.heap.size + 2) 44 vinst_info Tryd.underlying22 rfl (by decide) #[.int .i64 64, .int .i64 x.i.d, .int .i64 x.i.a, .int .i64 x.i.b, .int .i64 x.i.imm, .int .i64 x.i.label, .slice x.U x.i.uses.length x.cu, .slice x.M x.i.map.length x.cm] _ _ _ rfl HoY.out rfl rfl rfl (by simp [Value.oneCell']) (by simp only [maxLen]; omega) (by omega) hbaseY ?_
                                   intro v' w7 ho7 hg7 hb7 _
                                   obtain ⟨A7, c7, rfl⟩ := ownsRow_form ho7
                                   have pb7 := (hb7.block (w.heap.size + 1) (by omega)).trans HRY.out.pbox
                                   have Hfb7 := Lib.hid ((hb7.block w.heap.size (by omega)).trans HRY.out.fbox)
                                   have d6 : w7.cell? ⟨w.heap.size + 1, 6, none⟩ = some (.slice Av k cv) := by rw [Lib.cell_of_heap pb7]; rfl
                                   have z6 : w7.frozen? ⟨w.heap.size + 1, 6, none⟩ = false := Lib.frozen_of_heap pb7 6)
                      have Hpb7 := Lib.hid pb7
                      have Hb7 := Lib.hid (HRY.out.below.trans (hb7.mono (by omega)))
                      have Ho7 := Lib.hid ho7
                      clear pb7 hb7 ho7 hg7 y0 y1 y2 y3 y4 y5 y6 y7 p6
                      go_wp2_with fail
                      go_roundw
                      case rel =>
                        refine ⟨k + 1, by omega, by go_num, ⟨.slice A7 (k + 1) c7, Lib.hid (RkR.mk ?_ ?_ ?_ ?_)⟩, Lib.hid (fun y hy => ?_)⟩
                        · exact Hb7.out.setCell (p := ⟨w.heap.size + 1, 6, none⟩) (by show w.heap.size ≤ w.heap.size + 1; omega) _
                        · rw [Below.heap_setCell _ _ _ _ (by show w.heap.size ≠ w.heap.size + 1; omega)]; have h9 := Hfb7.out; rw [HAe.out] at h9; exact h9
                        · rw [setCell_eq_setRow _ _ _ _ _ _ _ Hpb7.out]
                          exact setRow_heap _ _ _ _ _ _ Hpb7.out
                        · rw [← List.map_take, Hil.out, List.map_append, List.length_append, List.map_singleton, List.length_singleton, List.flatMap_append, List.flatMap_singleton, Hyl.out, Hmvc.out]
                          exact ownsRow_setCell_below (a := ⟨w.heap.size + 1, 6, none⟩) Ho7.out (by show w.heap.size + 1 < w.heap.size + 2; omega) _
                        · rw [Hil.out] at hy
                          rcases List.mem_append.1 hy with hy | hy
                          · exact HE.out y hy
                          · have : y = x := by simpa using hy
                            rw [this]; exact Hes.out
                      case measure => simp [intOf]; omega
                · have hm : S.moves x.i = false := by rw [Hmo.out]; exact decide_eq_false (fun h => h.elim o1 o2)
                  rw [hm] at Hei
                  have Hes := Lib.hid (show S.einst slots x.i = true by rw [Hei.out]; rfl)
                  have Hmvc := Lib.hid (show (mvV x).cells = [.int .i64 x.i.op, .int .i64 x.i.d, .int .i64 x.i.a, .int .i64 x.i.b, .int .i64 x.i.imm, .int .i64 x.i.label, .slice x.U x.i.uses.length x.cu, .slice x.M x.i.map.length x.cm] by simp [mvV, VL.cells, S.moved, hm])
                  have HRY := HR5
                  have hcY := fun j => Hcb5.out w5 (Below.refl _ _) j
                  have n1 := int_bne o1
                  have n2 := int_bne o2
                  clear hm
                  go_upto_region 20 with fail
                  clear i0 i1 i2 i3 i4 i5 i6 i7
                  have y0 := hcY 0
                  have y1 := hcY 1
                  have y2 := hcY 2
                  have y3 := hcY 3
                  have y4 := hcY 4
                  have y5 := hcY 5
                  have y6 := hcY 6
                  have y7 := hcY 7
                  simp only [List.getElem?_toArray, List.getElem?_cons_zero, List.getElem?_cons_succ] at y0 y1 y2 y3 y4 y5 y6 y7
                  have p6 : w5.cell? ⟨w.heap.size + 1, 6, none⟩ = some (.slice Av k cv) := by rw [Lib.cell_of_heap HRY.out.pbox]; rfl
                  have hzY := HRY.out.lts
                  have hbaseY : w.heap.size + 2 ≤ w5.heap.size := by omega
                  have hoY := HRY.out.own
                  rw [Hyl.out] at hoY
                  have HoY := Lib.hid hoY
                  clear hoY hcY
                  go_wp2_with (at_builtin
                               refine wpList_push rfl (.tmp 106) (.tmp 108) _ rfl (w.heap.size + 2) 44 vinst_info Tryd.underlying22 rfl (by decide) #[.int .i64 x.i.op, .int .i64 x.i.d, .int .i64 x.i.a, .int .i64 x.i.b, .int .i64 x.i.imm, .int .i64 x.i.label, .slice x.U x.i.uses.length x.cu, .slice x.M x.i.map.length x.cm] _ _ _ rfl HoY.out rfl rfl rfl (by simp [Value.oneCell']) (by simp only [maxLen]; omega) (by omega) hbaseY ?_
                               intro v' w7 ho7 hg7 hb7 _
                               obtain ⟨A7, c7, rfl⟩ := ownsRow_form ho7
                               have pb7 := (hb7.block (w.heap.size + 1) (by omega)).trans HRY.out.pbox
                               have Hfb7 := Lib.hid ((hb7.block w.heap.size (by omega)).trans HRY.out.fbox)
                               have d6 : w7.cell? ⟨w.heap.size + 1, 6, none⟩ = some (.slice Av k cv) := by rw [Lib.cell_of_heap pb7]; rfl
                               have z6 : w7.frozen? ⟨w.heap.size + 1, 6, none⟩ = false := Lib.frozen_of_heap pb7 6)
                  have Hpb7 := Lib.hid pb7
                  have Hb7 := Lib.hid (HRY.out.below.trans (hb7.mono (by omega)))
                  have Ho7 := Lib.hid ho7
                  clear pb7 hb7 ho7 hg7 y0 y1 y2 y3 y4 y5 y6 y7 p6
                  go_wp2_with fail
                  go_roundw
                  case rel =>
                    refine ⟨k + 1, by omega, by go_num, ⟨.slice A7 (k + 1) c7, Lib.hid (RkR.mk ?_ ?_ ?_ ?_)⟩, Lib.hid (fun y hy => ?_)⟩
                    · exact Hb7.out.setCell (p := ⟨w.heap.size + 1, 6, none⟩) (by show w.heap.size ≤ w.heap.size + 1; omega) _
                    · rw [Below.heap_setCell _ _ _ _ (by show w.heap.size ≠ w.heap.size + 1; omega)]; have h9 := Hfb7.out; rw [HAe.out] at h9; exact h9
                    · rw [setCell_eq_setRow _ _ _ _ _ _ _ Hpb7.out]
                      exact setRow_heap _ _ _ _ _ _ Hpb7.out
                    · rw [← List.map_take, Hil.out, List.map_append, List.length_append, List.map_singleton, List.length_singleton, List.flatMap_append, List.flatMap_singleton, Hyl.out, Hmvc.out]
                      exact ownsRow_setCell_below (a := ⟨w.heap.size + 1, 6, none⟩) Ho7.out (by show w.heap.size + 1 < w.heap.size + 2; omega) _
                    · rw [Hil.out] at hy
                      rcases List.mem_append.1 hy with hy | hy
                      · exact HE.out y hy
                      · have : y = x := by simpa using hy
                        rw [this]; exact Hes.out
                  case measure => simp [intOf]; omega
      · have hkN : N = k := by omega
        subst hkN
        have HEa := Lib.hid (fun i (hi : i ∈ insts) => (show S.einst slots i = true by
          rw [Hfi.out] at hi
          obtain ⟨y, hy, rfl⟩ := List.mem_map.1 hi
          exact HE.out y (by rw [HN.out, List.take_length]; exact hy)))
        have ho9 := HR.out.own
        have ht : xs.take N = xs := by rw [HN.out, List.take_length]
        rw [ht] at ho9
        have hi := r_Check ⟨fn, regs, slots, need, params, rest, (xs.map mvV).map VL.i⟩ Av cv (xs.map mvV) rfl wr (VLs.of_own ho9) (fun y hy => by
          obtain ⟨z, hz, rfl⟩ := List.mem_map.1 hy
          exact (((Hok.out z hz).below HR.out.below).more HR.out.below.size).mv) (by rw [List.length_map, ← HN.out]; omega)
        rw [List.length_map, ← HN.out, mv_insts, ← Hfi.out] at hi
        simp only [vfCells] at hi
        rw [← Hall.out HEa.out] at hi
        have Hi := Lib.hid hi
        have HC := fun j => (show wr.cell? ⟨w.heap.size + 1, j, none⟩ = #[.int .i64 fn, .int .i64 regs, .int .i64 slots, .int .i64 need, .int .i64 params, .bool rest, (.slice Av N cv)][j]? by rw [Lib.cell_of_heap HR.out.pbox])
        have p0 := HC 0
        have p1 := HC 1
        have p2 := HC 2
        have p3 := HC 3
        have p4 := HC 4
        have p5 := HC 5
        have p6 := HC 6
        simp only [List.getElem?_toArray, List.getElem?_cons_zero, List.getElem?_cons_succ] at p0 p1 p2 p3 p4 p5 p6
        have Hwr := Lib.hid HR.out.below
        clear HC hi ho9 ht
        go_wp2_with fail
        refine Hi.out.mono ?_
        rintro e w9 ⟨rfl, hb9⟩
        go_wp2_with fail
        go_ret
        exact ⟨rfl, Hwr.out.trans (hb9.mono Hwr.out.size)⟩

theorem r24_Chk (f : S.VFunc) (A : Option Addr) (c : Nat) (xs : List VL) (hfi : f.insts = xs.map VL.i) (w : World) (hv : VLs w w.heap.size A xs) (hok : ∀ x ∈ xs, VOk w w.heap.size x) (hlen : xs.length ≤ 300) :
    Calls Tryd.prog 14 #[.agg (vfCells f (.slice A xs.length c))] w fun e w' => e = .returned (.int .i64 (S.echk f)) ∧ Below w.heap.size w w' := by
  by_cases h : headOk f
  · exact r24_Check1 f A c xs hfi w hv hok hlen h
  · exact r24_Check_bad f _ w h

end Go.Proofs.YtkdalaiponchbaaDoor
