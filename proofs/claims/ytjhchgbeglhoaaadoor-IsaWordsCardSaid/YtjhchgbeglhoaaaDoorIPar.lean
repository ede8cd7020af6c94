/- What a text is as an instruction: walk of isa.Parse. -/
import Derived.Test.YtjhchgbeglhoaaaDoorINmb
set_option linter.unusedVariables false
set_option linter.unusedSimpArgs false
set_option linter.unusedSectionVars false
namespace Go.Proofs.YtjhchgbeglhoaaaDoor
open Go.RowKit

theorem cand_of2 {fr fi : List UInt8 → Int} {op x0 x1 x2 x3 : Int} {ws : List (List UInt8)} {k1 k2 k3 k4 : Nat} {B0 B1 B2 : Bool} {K : Int}
    (h0 : B0 = S.hasD (S.form op)) (t0 : S.takeN B0 fr (ws.drop 1) = (x0, ws.drop k1)) (h1 : B1 = S.hasA (S.form op)) (t1 : S.takeN B1 fr (ws.drop k1) = (x1, ws.drop k2))
    (h2 : B2 = S.hasB (S.form op)) (t2 : S.takeN B2 fr (ws.drop k2) = (x2, ws.drop k3)) (h3 : K = S.bitsOf (S.form op)) (t3 : S.takeN (decide (0 < K)) fi (ws.drop k3) = (x3, ws.drop k4)) :
    S.cand fr fi op ws.tail = ⟨op, x0, x1, x2, x3⟩ := by
  unfold S.cand
  have h : ws.tail = ws.drop 1 := by simp
  simp only [h, ← h0, ← h1, ← h2, ← h3, t0, t1, t2, t3]
theorem InstAt.keepB {g B : Nat} {x : S.Inst} {w w' : World} (h : InstAt g x w) (hb : Below B w w') (hg : g < B) : InstAt g x w' := (hb.block g hg).trans h
theorem InstAt.all {g : Nat} {x : S.Inst} {w : World} (h : InstAt g x w) : w.cell? ⟨g, 0, none⟩ = some (.int .i64 x.op) ∧ w.cell? ⟨g, 1, none⟩ = some (.int .i64 x.d) ∧ w.cell? ⟨g, 2, none⟩ = some (.int .i64 x.a) ∧ w.cell? ⟨g, 3, none⟩ = some (.int .i64 x.b) ∧ w.cell? ⟨g, 4, none⟩ = some (.int .i64 x.imm) :=
  ⟨h.cell 0, h.cell 1, h.cell 2, h.cell 3, h.cell 4⟩
theorem rest_new (w : World) (g : Nat) (ws : List (List UInt8)) (A : Option Addr) (m : Nat) (h : m + 1 = ws.length) (hA : 0 < m → A = some ⟨g, 1, none⟩) :
    RestAt w.heap.size g 1 ws (w.alloc (.cells #[.slice A m m] 70)) := ⟨A, m, h, heap_alloc_new w _, hA⟩

theorem slice_tail (g k n : Nat) : ∃ A' : Option Addr, (∀ w, (Instr.slice 70 (.slice (some ⟨g, k, none⟩) (n + 1) (n + 1)) (some (.int .i64 1)) none none).run Tryd.prog w = .ok (.slice A' n n) w) ∧ (0 < n → A' = some ⟨g, k + 1, none⟩) := by
  have ht : Tryd.prog.underlying 70 = some (.slice (Tryd.prog.elem 70)) := by kernel_rfl
  have hsz : ∀ w, (sizeOf (Tryd.prog.elem 70)).run Tryd.prog w = .ok 1 w := fun w => by kernel_rfl
  refine ⟨if n + 1 = 1 then some ⟨g, k, none⟩ else some ⟨g, k + 1, none⟩, fun w => ?_, fun h => if_neg (by omega)⟩
  rw [run_slice_l _ _ _ _ _ ht .i64 1 (by decide) (by omega), hsz]
  simp [Result.andThen, sliced, Addr.add]

set_option maxRecDepth 100000 in
set_option maxHeartbeats 4000000 in
theorem isa_Parse (s : ByteArray) (hs : s.size ≤ 1000) (w : World) (hL : LV w) : Calls Tryd.prog 25 #[.string s] w fun e w' => e = .returned (.tuple #[instV (S.parse S.numR S.numI s.data.toList).1, .int .i64 (S.parse S.numR S.numI s.data.toList).2]) ∧ Below w.heap.size w w' := by
  have hmf : ∀ (fn : Fn) (first cap : Array Value) (w : World), (Instr.makeFunc fn first cap).run Tryd.prog w = .ok (.func fn first cap) w := fun _ _ _ _ => rfl
  have HL := Lib.hid hL
  have g8 := hL.size
  clear hL
  obtain ⟨l, hl⟩ : ∃ l, l = s.data.toList := ⟨_, rfl⟩
  have hll : l.length = s.size := by rw [hl]; simp
  have Hl := Lib.hid hl
  rw [← hl]
  obtain ⟨PP, hPP⟩ : ∃ PP, PP = S.parse S.numR S.numI l := ⟨_, rfl⟩
  rw [← hPP]
  have HPP := Lib.hid hPP
  clear hPP hl
  go_enter Tryd.func25, Tryd.ntmps25
  go_upto_region 1 with fail
  obtain ⟨x1, x2, x3⟩ := one_allocN w #[.int .i64 0, .int .i64 0, .int .i64 0, .int .i64 0, .int .i64 0] 27
  have i0 : InstAt w.heap.size ⟨0, 0, 0, 0, 0⟩ (w.alloc (.cells #[.int .i64 0, .int .i64 0, .int .i64 0, .int .i64 0, .int .i64 0] 27)) := x1
  generalize w.alloc (.cells #[.int .i64 0, .int .i64 0, .int .i64 0, .int .i64 0, .int .i64 0] 27) = wb at *
  clear x1
  go_wp2_with fail
  refine (isa_Split s hs wb (HL.out.keep x2 g8)).mono ?_
  rintro e w1 ⟨rfl, hW, hb1, hz0⟩
  rw [← Hl.out] at hW ⊢
  have hwne := words_ne l
  have hwl := words_count l
  have hwsh := words_short l
  obtain ⟨ws, hwd⟩ : ∃ ws, ws = S.words l := ⟨_, rfl⟩
  have Hp : Hid (PP = S.parseFrom S.numR S.numI l ws 36 1) := Lib.hid (by rw [HPP.out, hwd]; rfl)
  rw [← hwd] at hW hwne hwl hwsh ⊢
  clear hwd
  have hw0 : 0 < ws.length := List.length_pos_iff.2 hwne
  obtain ⟨n, hn⟩ : ∃ n, ws.length = n + 1 := ⟨ws.length - 1, by omega⟩
  rw [hn]
  obtain ⟨g, hgd⟩ : ∃ g, g = wb.heap.size := ⟨_, rfl⟩
  rw [← hgd] at hW ⊢
  have hgI := i0.keep hb1
  have Hb1 := Lib.hid (x2.trans (hb1.mono (by omega)))
  have hz1 : w.heap.size < w1.heap.size := Nat.lt_of_lt_of_le i0.lt hb1.size
  have hg2 : g < w1.heap.size := by rw [hgd]; exact hz0
  have HL1 := Lib.hid (HL.out.on Hb1.out)
  have g81 : 8 ≤ w1.heap.size := HL1.out.size
  have Hn := Lib.hid hn
  have Hsh := Lib.hid (fun j => Nat.le_trans (hwsh j) (show l.length ≤ 1000 by omega))
  clear i0 hb1 x2 x3 hwne hz0 hgd hwsh hn hw0
  go_wp2_with fail
  go_loopw [5, 6, 7, 8, 9, 10, 11, 12] (fun v5 _ _ _ _ _ _ _ wr => ∃ k : Nat, k ≤ 36 ∧ v5 = .int .i64 ((37 : Int) - k) ∧ PP = S.parseFrom S.numR S.numI l ws k (37 - k) ∧ Below w1.heap.size w1 wr) (fun v5 _ _ _ _ _ _ _ _ => (37 - intOf v5).toNat)
  case atStart => exact ⟨36, by omega, rfl, Hp.out, Below.refl _ _⟩
  case round =>
    obtain ⟨k, hk, rfl, hPP, hbr⟩ := hrel
    have HP := Lib.hid hPP
    clear hPP
    by_cases hk0 : k = 0
    · have Hf : Hid (PP = (⟨0, 0, 0, 0, 0⟩, 11)) := Lib.hid (by rw [HP.out, hk0]; rfl)
      have hI : InstAt w.heap.size ⟨0, 0, 0, 0, 0⟩ wr := (hbr.block w.heap.size hz1).trans hgI
      have hlt := hbr.size
      have f0 := InstAt.frozen hI 0
      have f1 := InstAt.frozen hI 1
      have f2 := InstAt.frozen hI 2
      have f3 := InstAt.frozen hI 3
      have f4 := InstAt.frozen hI 4
      have hc := fun i => InstAt.cell hI i
      have hle : decide ((37 : Int) - k ≤ 36) = false := by simp [hk0]
      go_wp2_with fail
      refine res_inst rfl rfl rfl rfl (instFive hI 0 0 0 0 0) ⟨by rw [Hf.out], below5 (Hb1.out.trans (hbr.mono (Nat.le_of_lt hz1))) (Nat.le_refl _) _ _ _ _ _⟩
    · obtain ⟨k, rfl⟩ : ∃ j, k = j + 1 := ⟨k - 1, by omega⟩
      have hop : ∃ op : Int, op = 36 - k := ⟨_, rfl⟩
      obtain ⟨op, hop⟩ := hop
      rw [show ((37 : Int) - ((k + 1 : Nat) : Int)) = op by rw [hop]; push_cast; omega] at HP ⊢
      have ho1 : 1 ≤ op := by omega
      have ho2 : op ≤ 36 := by omega
      have hWr := hW.keep hbr hg2
      have HOP := Lib.hid hop
      clear hop
      have c0 := hWr 0 (by have := Hn.out; omega)
      obtain ⟨u, hu⟩ : ∃ u, u = ws.getD 0 [] := ⟨_, rfl⟩
      rw [← hu] at c0
      have Hu : Hid (ws.headD [] = u) := Lib.hid (by rw [hu]; cases ws <;> rfl)
      clear hu
      have hgr : g < wr.heap.size := Nat.lt_of_lt_of_le hg2 hbr.size
      go_upto_region 5 with fail
      go_cut [24] (fun v wc => v = .bool (!(S.nameL op == u)) ∧ Below wr.heap.size wr wc)
      case first =>
        go_region_with (go_at_call 13; refine (isa_Name op _).mono ?_; rintro e w2 ⟨rfl, hb2⟩; have hc2 : w2.cell? ⟨g, 0, none⟩ = some (.string ⟨u.toArray⟩) := (hb2.cell (p := ⟨g, 0, none⟩) hgr).trans c0)
        all_goals
          simp only [List.getElem_toArray, List.getElem_cons_succ, List.getElem_cons_zero, Act.put, List.setIfInBounds_toArray, List.set_cons_succ, List.set_cons_zero]
          go_wp2_with fail
          go_meet
          first
            | exact ⟨rfl, hb2⟩
            | exact ⟨rfl, Below.trans (Below.drew (Below.refl _ _)) hb2⟩
            | exact ⟨rfl, Below.drew hb2⟩
      case rest =>
        obtain ⟨rfl, hbc⟩ := hcut
        have hbw := hbr.trans (hbc.mono hbr.size)
        clear hbc c0 hWr
        have hzw := hbw.size
        by_cases hnm : S.nameL op = u
        · have d0 : (!(S.nameL op == u)) = false := by simp [hnm]
          have Hnm := Lib.hid (hnm.trans Hu.out.symm)
          rw [d0]
          clear d0 hnm
          go_upto_region 7 with fail
          obtain ⟨y1, y2, y3⟩ := one_allocN wc #[.int .i64 op, .int .i64 0, .int .i64 0, .int .i64 0, .int .i64 0] 27
          have hI : InstAt wc.heap.size ⟨op, 0, 0, 0, 0⟩ (wc.alloc (.cells #[.int .i64 op, .int .i64 0, .int .i64 0, .int .i64 0, .int .i64 0] 27)) := y1
          have hbx := hbw.trans (y2.mono hzw)
          obtain ⟨gx, hgx⟩ : ∃ gx, gx = wc.heap.size := ⟨_, rfl⟩
          have hgx1 : w1.heap.size ≤ gx := by rw [hgx]; exact hzw
          rw [← hgx] at hI ⊢
          generalize wc.alloc (.cells #[.int .i64 op, .int .i64 0, .int .i64 0, .int .i64 0, .int .i64 0] 27) = wy at *
          have hgxy := hI.lt
          clear y1 y2 y3 hbw hgx hzw
          have HBX := Lib.hid hbx
          have HI := Lib.hid hI
          clear hbx hI
          go_wp2_with fail
          refine (isa_Form op wy).mono ?_
          rintro e wx ⟨rfl, rfl⟩
          go_wp2_with fail
          refine (isa_has (S.form op) wy).mono ?_
          rintro e wx ⟨rfl, rfl⟩
          obtain ⟨B0, hB0⟩ : ∃ B, B = S.hasD (S.form op) := ⟨_, rfl⟩
          obtain ⟨B1, hB1⟩ : ∃ B, B = S.hasA (S.form op) := ⟨_, rfl⟩
          obtain ⟨B2, hB2⟩ : ∃ B, B = S.hasB (S.form op) := ⟨_, rfl⟩
          obtain ⟨K, hK⟩ : ∃ B, B = S.bitsOf (S.form op) := ⟨_, rfl⟩
          rw [← hB0, ← hB1, ← hB2, ← hK]
          have HB0 := Lib.hid hB0
          have HB1 := Lib.hid hB1
          have HB2 := Lib.hid hB2
          have HK := Lib.hid hK
          clear hB0 hB1 hB2 hK
          obtain ⟨A', hsl, hA'⟩ := slice_tail g 0 n
          have HA' := Lib.hid hA'
          clear hA'
          go_upto_region 8 with fail
          go_cut [11] (fun v wq => ∃ br, v = .pointer (some ⟨br, 0, none⟩) ∧ wy.heap.size ≤ br ∧ RestAt br g 1 ws wq ∧ Below wy.heap.size wy wq)
          case first =>
            go_wp2_with fail
            go_meet
            exact ⟨_, rfl, Nat.le_refl _, rest_new wy g ws A' n (by have := Hn.out; omega) HA'.out, (Below.refl _ _).alloc (Nat.le_refl _) _⟩
          case rest =>
            obtain ⟨br, rfl, hbr8, hR, hb8⟩ := hcut
            have hzx := HBX.out.size
            have hz8 := hb8.size
            have hB0q := HBX.out.trans (hb8.mono hzx)
            have hI0 := HI.out.keepB hb8 hgxy
            have hgxb : gx < br := Nat.lt_of_lt_of_le hgxy hbr8
            have hgb : g < br := Nat.lt_of_lt_of_le hg2 (Nat.le_trans hzx hbr8)
            have h1b : w1.heap.size ≤ br := Nat.le_trans hzx hbr8
            have h8b : 8 ≤ br := by omega
            clear hb8 hbr8 hsl HA' hzx hz8 hgxy HBX HI
            have HI0 := Lib.hid hI0
            have HBq0 := Lib.hid hB0q
            have HR0 := Lib.hid hR
            clear hI0 hB0q hR
            go_wp2_with fail
            refine (isa_number B0 br g 1 ws [114] wc (HL1.out.on HBq0.out) h8b HR0.out (hW.keep HBq0.out hg2) hgb Hsh.out).mono ?_
            rintro e wn1 ⟨kk1, x0, rfl, ht0, hR1, hbn0⟩
            have Ht0 : Hid (S.takeN B0 S.numR (ws.drop 1) = (x0, ws.drop kk1)) := Lib.hid ht0
            have HR1 := Lib.hid hR1
            have HBq1 := Lib.hid (HBq0.out.trans (hbn0.mono h1b))
            have HI1 := Lib.hid (HI0.out.keepB hbn0 hgxb)
            clear ht0 hR1 hbn0 HR0 HBq0 HI0
            go_wp2_with fail
            refine (isa_number B1 br g kk1 ws [114] wn1 (HL1.out.on HBq1.out) h8b HR1.out (hW.keep HBq1.out hg2) hgb Hsh.out).mono ?_
            rintro e wn2 ⟨kk2, x1, rfl, ht1, hR2, hbn1⟩
            have Ht1 : Hid (S.takeN B1 S.numR (ws.drop kk1) = (x1, ws.drop kk2)) := Lib.hid ht1
            have HR2 := Lib.hid hR2
            have HBq2 := Lib.hid (HBq1.out.trans (hbn1.mono h1b))
            have HI2 := Lib.hid (HI1.out.keepB hbn1 hgxb)
            clear ht1 hR2 hbn1 HR1 HBq1 HI1
            go_wp2_with fail
            refine (isa_number B2 br g kk2 ws [114] wn2 (HL1.out.on HBq2.out) h8b HR2.out (hW.keep HBq2.out hg2) hgb Hsh.out).mono ?_
            rintro e wn3 ⟨kk3, x2, rfl, ht2, hR3, hbn2⟩
            have Ht2 : Hid (S.takeN B2 S.numR (ws.drop kk2) = (x2, ws.drop kk3)) := Lib.hid ht2
            have HR3 := Lib.hid hR3
            have HBq3 := Lib.hid (HBq2.out.trans (hbn2.mono h1b))
            have HI3 := Lib.hid (HI2.out.keepB hbn2 hgxb)
            clear ht2 hR3 hbn2 HR2 HBq2 HI2
            go_wp2_with fail
            refine (isa_number (decide (0 < K)) br g kk3 ws [] wn3 (HL1.out.on HBq3.out) h8b HR3.out (hW.keep HBq3.out hg2) hgb Hsh.out).mono ?_
            rintro e wn4 ⟨kk4, x3, rfl, ht3, hR4, hbn3⟩
            have Ht3 : Hid (S.takeN (decide (0 < K)) S.numI (ws.drop kk3) = (x3, ws.drop kk4)) := Lib.hid ht3
            have HR4 := Lib.hid hR4
            have HBq4 := Lib.hid (HBq3.out.trans (hbn3.mono h1b))
            have HI4 := Lib.hid (HI3.out.keepB hbn3 hgxb)
            clear ht3 hR4 hbn3 HR3 HBq3 HI3
            have f1 := HI4.out.frozen 1
            have f2 := HI4.out.frozen 2
            have f3 := HI4.out.frozen 3
            have f4 := HI4.out.frozen 4
            obtain ⟨q0, q1, q2, q3, q4⟩ := HI4.out.all
            go_upto_region 11 with fail
            have hI' := InstAt.put4 (v := x3) (InstAt.put3 (v := x2) (InstAt.put2 (v := x1) (InstAt.put1 (v := x0) HI4.out)))
            have hbz := (((HBq4.out.setCell (p := ⟨gx, 1, none⟩) hgx1 (.int .i64 x0)).setCell (p := ⟨gx, 2, none⟩) hgx1 (.int .i64 x1)).setCell (p := ⟨gx, 3, none⟩) hgx1 (.int .i64 x2)).setCell (p := ⟨gx, 4, none⟩) hgx1 (.int .i64 x3)
            generalize (((wn4.setCell ⟨gx, 1, none⟩ (.int .i64 x0)).setCell ⟨gx, 2, none⟩ (.int .i64 x1)).setCell ⟨gx, 3, none⟩ (.int .i64 x2)).setCell ⟨gx, 4, none⟩ (.int .i64 x3) = wz at *
            have HCd := Lib.hid (cand_of2 (fr := S.numR) (fi := S.numI) HB0.out Ht0.out HB1.out Ht1.out HB2.out Ht2.out HK.out Ht3.out)
            have hzz := hbz.size
            obtain ⟨hc0, hc1, hc2, hc3, hc4⟩ := hI'.all
            clear f1 f2 f3 f4 HI4 HBq4 HR4
            go_wp2_with fail
            refine (isa_Text op x0 x1 x2 x3 wz (HL1.out.on hbz)).mono ?_
            rintro e wt ⟨rfl, hbt⟩
            have hI2 := hI'.keep hbt
            obtain ⟨hd0, hd1, hd2, hd3, hd4⟩ := hI2.all
            have hbT := hbz.trans (hbt.mono hzz)
            clear hI2 hI' hbz hzz hc0 hc1 hc2 hc3 hc4 hbt
            rw [← HCd.out]
            obtain ⟨T, hT⟩ : ∃ T, T = S.text (S.cand S.numR S.numI op ws.tail) := ⟨_, rfl⟩
            rw [← hT]
            have HT := Lib.hid hT
            clear hT
            go_upto_if 58 with fail
            have Hls : Hid (s.toList = l) := Lib.hid (by rw [ByteArray.toList_eq, Hl.out])
            rw [Hls.out]
            have hzT := hbT.size
            by_cases hTl : T = l
            · have Hf : Hid (PP = (⟨op, x0, x1, x2, x3⟩, 0)) := Lib.hid (by rw [HP.out, parse_here Hnm.out (HT.out.symm.trans hTl), HCd.out])
              rw [show (T == l) = true by rw [hTl]; simp]
              clear hTl
              have hI : InstAt w.heap.size ⟨0, 0, 0, 0, 0⟩ wt := (hbT.block w.heap.size hz1).trans hgI
              have hlt0 : w.heap.size < wt.heap.size := by omega
              have f0 := hI.frozen 0
              have f1 := hI.frozen 1
              have f2 := hI.frozen 2
              have f3 := hI.frozen 3
              have f4 := hI.frozen 4
              obtain ⟨e0, e1, e2, e3, e4⟩ := hI.all
              go_wp2_with fail
              refine res_inst rfl rfl rfl rfl (instFive hI op x0 x1 x2 x3) ⟨by rw [Hf.out], below5 (Hb1.out.trans (hbT.mono (Nat.le_of_lt hz1))) (Nat.le_refl _) _ _ _ _ _⟩
            · have Hnx := Lib.hid (parse_next_text (fr := S.numR) (fi := S.numI) (s := l) (ws := ws) (k := k) (op := op) (fun e => hTl (HT.out.trans e)))
              rw [show (T == l) = false by simp [hTl]]
              clear hTl
              go_wp2_with fail
              go_roundw
              case rel => exact ⟨k, by omega, by congr 1; have := HOP.out; omega, by rw [HP.out, Hnx.out, HOP.out]; congr 1; omega, hbT⟩
              case measure =>
                simp only [intOf]
                omega
        · have d0 : (!(S.nameL op == u)) = true := by simp [hnm]
          have Hnx := Lib.hid (parse_next_name (fr := S.numR) (fi := S.numI) (s := l) (ws := ws) (k := k) (op := op) (fun e => hnm (e.trans Hu.out)))
          rw [d0]
          clear d0 hnm
          go_wp2_with fail
          go_roundw
          case rel => exact ⟨k, by omega, by congr 1; have := HOP.out; omega, by rw [HP.out, Hnx.out, HOP.out]; congr 1; omega, hbw⟩
          case measure =>
            simp only [intOf]
            omega

end Go.Proofs.YtjhchgbeglhoaaaDoor
