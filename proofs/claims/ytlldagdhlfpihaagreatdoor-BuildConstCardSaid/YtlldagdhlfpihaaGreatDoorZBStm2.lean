/- Walk of the coder's statements. -/
import Derived.Test.YtlldagdhlfpihaaGreatDoorZBLop
set_option linter.unusedVariables false
set_option linter.unusedSimpArgs false
set_option linter.unusedSectionVars false
namespace Go.Proofs.YtlldagdhlfpihaaGreatDoor
open Go.RowKit

theorem bRegs_snoc (n : Int) : ∀ (l : List Int) (i : Nat), S.bRegs (l ++ [n]) i = S.bRegs l i ++ [S.bMove n (11 + ((i + l.length : Nat) : Int))]
  | [], i => by simp [S.bRegs]
  | x :: r, i => by
    rw [List.cons_append, S.bRegs, S.bRegs, bRegs_snoc n r (i + 1), List.cons_append, List.length_cons]
    have : i + 1 + r.length = i + (r.length + 1) := by omega
    rw [this]
theorem bRegs_len : ∀ (l : List Int) (i : Nat), (S.bRegs l i).length = l.length
  | [], i => rfl
  | x :: r, i => by rw [S.bRegs, List.length_cons, bRegs_len r, List.length_cons]
theorem bBack_len (fr : Int) (bh : Bool) : (S.bBack fr bh).length ≤ 6 := by
  unfold S.bBack
  cases bh <;> simp

/-- What is behind a statement's expressions, but of loops and branches. -/
abbrev bTail (h : CH) (op n : Int) (nm : ByteArray) (regs : List Int) : List S.Item :=
  if op = 1 then [S.bStore h.fr 11 (1 + n)] else if op = 2 then [S.bI 25 0 11 12 n] else if op = 5 then S.bRegs regs 0 ++ S.bBack h.fr h.r.behind
  else if op = 7 then [S.bI 35 0 11 0 0] else if op = 8 then [S.bI 36 0 11 0 0] else if op = 9 then [S.bMove n 11]
  else if op = 10 then [S.bPop h.fr, S.bJ 0 nm] else if op = 11 then [S.bPop h.fr, S.bI 33 0 11 0 0] else []
theorem bS_loop {h : CH} {s : S.BS} {l : Int} {e0 : S.BE} (hop : s.op = 4) (he : s.exprs = [e0]) :
    bS h s l = ([S.bL (S.bLab (l + 1))] ++ S.bExpr h.fr h.r.locals e0 0 ++ [S.bU 11 (S.bLab (l + 2))] ++ (bSs h s.body (l + 2)).1 ++ [S.bJ 0 (S.bLab (l + 1)), S.bL (S.bLab (l + 2))], (bSs h s.body (l + 2)).2) := by
  obtain ⟨op, n, nm, exprs, regs, body, els⟩ := s
  change op = 4 at hop
  change exprs = [e0] at he
  subst hop he
  show S.bStmt _ _ _ _ _ = _
  rw [S.bStmt, if_pos rfl, S.bTest]
  rfl
theorem bS_if {h : CH} {s : S.BS} {l : Int} (hop : s.op = 3) :
    bS h s l = (S.bExprs h.fr h.r.locals s.exprs 0 ++ ([S.bU 11 (S.bLab (l + 1))] ++ (bSs h s.body (l + 2)).1 ++ [S.bJ 0 (S.bLab (l + 2)), S.bL (S.bLab (l + 1))] ++ (bSs h s.els (bSs h s.body (l + 2)).2).1 ++ [S.bL (S.bLab (l + 2))]), (bSs h s.els (bSs h s.body (l + 2)).2).2) := by
  obtain ⟨op, n, nm, exprs, regs, body, els⟩ := s
  change op = 3 at hop
  subst hop
  show S.bStmt _ _ _ _ _ = _
  rw [S.bStmt, if_neg (by decide), if_pos rfl]
  simp only [List.append_assoc]
  rfl
theorem bS_else {h : CH} {s : S.BS} {l : Int} (h3 : s.op ≠ 3) (h4 : s.op ≠ 4) : bS h s l = (S.bExprs h.fr h.r.locals s.exprs 0 ++ bTail h s.op s.n s.name s.regs, l) := by
  obtain ⟨op, n, nm, exprs, regs, body, els⟩ := s
  change op ≠ 3 at h3
  change op ≠ 4 at h4
  show S.bStmt _ _ _ _ _ = _
  rw [S.bStmt, if_neg h4, if_neg h3]
  rfl
/-- What the check says of a statement. -/
theorem chkS_parts {L : Int} {s : S.BS} {d : Nat} (h : S.chkS L s d = 0) : (1 ≤ s.op ∧ s.op ≤ 11) ∧ (s.op = 1 → 0 ≤ s.n ∧ s.n < L) ∧ s.exprs.length = S.exprsS s.op s.regs.length ∧ S.formedEs L s.exprs = true ∧ S.chkSs L s.body (d + 1) = 0 ∧ S.chkSs L s.els (d + 1) = 0 := by
  rw [chkS_eq] at h
  by_cases c1 : (!(S.shapedS L s.op s.n s.name s.exprs.length s.regs s.body.length s.els.length && S.formedEs L s.exprs)) = true
  · rw [if_pos c1] at h; cases h
  · rw [if_neg c1] at h
    by_cases c2 : 200 ≤ d ∨ 14 < S.needEs s.exprs 0
    · rw [if_pos c2] at h; cases h
    · rw [if_neg c2] at h
      by_cases c3 : S.chkSs L s.body (d + 1) ≠ 0
      · rw [if_pos c3] at h; exact absurd h c3
      · rw [if_neg c3] at h
        simp only [Bool.not_eq_true, Bool.not_eq_false', Bool.and_eq_true] at c1
        obtain ⟨hs, hf⟩ := c1
        unfold S.shapedS at hs
        simp only [Bool.and_eq_true, decide_eq_true_eq] at hs
        obtain ⟨⟨⟨⟨⟨⟨⟨⟨q1, _⟩, _⟩, _⟩, _⟩, q6⟩, q7⟩, _⟩, _⟩ := hs
        refine ⟨q1, fun e => ?_, q7, hf, by simpa using c3, h⟩
        rw [e] at q6
        unfold S.numS at q6
        rw [if_pos rfl] at q6
        exact of_decide_eq_true q6

set_option maxRecDepth 100000 in
set_option maxHeartbeats 8000000 in
theorem c_stmt {base p : Nat} {h : CH} (hO : HOk h) (h3 : 3 ≤ base) : ∀ n, n ≤ 1000000 → Stm base p h n := by
  intro n
  induction n with
  | zero => intro _ s A1 A2 A3 A4 c1 c2 c3 c4 d xs lab w hs; have := szS_pos s; omega
  | succ n ih =>
    intro hn s A1 A2 A3 A4 c1 c2 c3 c4 d xs lab w hs hck H hbw hp hL h0 h1 hl
    obtain ⟨⟨r1, r2⟩, hloc, hexl, hfe, hkb, hke⟩ := chkS_parts hck
    have hsp := szS_pos s
    have hih := ih (by omega)
    have hbX : Below w.heap.size w (w.alloc (.cells #[.int .i64 s.op, .int .i64 s.n, .string s.name, .slice A1 s.exprs.length c1, .slice A2 s.regs.length c2, .slice A3 s.body.length c3, .slice A4 s.els.length c4] 29)) := (Below.refl _ _).alloc (Nat.le_refl _) _
    have hrX := heap_alloc_new w (.cells #[.int .i64 s.op, .int .i64 s.n, .string s.name, .slice A1 s.exprs.length c1, .slice A2 s.regs.length c2, .slice A3 s.body.length c3, .slice A4 s.els.length c4] 29)
    have HbX := Lib.hid (CK.of hbX hbw)
    have H2 := Lib.hid (H.keep hbX)
    have HL := Lib.hid (hL.on hbX)
    have HRX := Lib.hid hrX
    have hpX := hp.below (hbX.mono hbw)
    have hs2 := Nat.le_trans hbw hbX.size
    clear H hL hbX hrX
    by_cases hop4 : s.op = 4
    · have hex1 : ∃ e0, s.exprs = [e0] := by
        rw [hop4] at hexl
        match hm : s.exprs, hexl with
        | [e0], _ => exact ⟨e0, rfl⟩
      obtain ⟨e0, he0⟩ := hex1
      have hbl := bS_loop (h := h) (l := lab) hop4 he0
      rw [he0] at hfe hsp
      rw [S.formedEs, Bool.and_eq_true] at hfe
      have hz1 : szSs s.body ≤ n := by rw [szEs, szEs] at hsp; omega
      have hz2 : szE e0 ≤ 1000000 := by rw [szEs, szEs] at hsp; omega
      have hbl1 := congrArg Prod.fst hbl
      have hbl2 := congrArg Prod.snd hbl
      simp only at hbl1 hbl2
      rw [hbl] at hl h1
      have Hc := Lib.hid (fun (W : World) (H2 : CAt base p h xs lab W) (hs2 : base ≤ W.heap.size) (hpX : SPart W base s A1 A2 A3 A4) (HL : LVE W) => c_loop hO hih h3 s e0 he0 hfe.1 hz2 A1 A2 A3 A4 c1 c2 c3 c4 (d + 1) xs lab W hz1 hkb (by omega) H2 hs2 hpX HL h0 _ hbl1 (by rw [hbl1]; exact hl) (by rw [hbl1]; exact h1))
      rw [← hbl2] at Hc
      have hbl3 : ((bS h s lab).1, (bS h s lab).2) = bS h s lab := rfl
      have hcc := Hc.out _ H2.out hs2 hpX HL.out
      have Hcc := Lib.hid hcc
      clear Hc hcc hbl hbl1 hbl2 hbl3 hl h1 hfe hz1 hz2 hsp hexl hs hck hloc hkb hke hih ih
      generalize bS h s lab = R at *
      generalize s.op = op at *
      subst hop4
      generalize s.n = en at *
      generalize s.name = nm at *
      generalize s.exprs.length = N1 at *
      generalize s.regs.length = N2 at *
      generalize s.body.length = N3 at *
      generalize s.els.length = N4 at *
      clear hpX he0 hp
      go_enter Tryz.func75, Tryz.ntmps75
      go_upto_region 1 with fail
      generalize w.alloc (.cells #[.int .i64 4, .int .i64 en, .string nm, .slice A1 N1 c1, .slice A2 N2 c2, .slice A3 N3 c3, .slice A4 N4 c4] 29) = w2 at *
      have k0 : w2.cell? ⟨w.heap.size, 0, none⟩ = some (.int .i64 4) := by rw [Lib.cell_of_heap HRX.out]; rfl
      have k1 : w2.cell? ⟨w.heap.size, 1, none⟩ = some (.int .i64 en) := by rw [Lib.cell_of_heap HRX.out]; rfl
      have k2 : w2.cell? ⟨w.heap.size, 2, none⟩ = some (.string nm) := by rw [Lib.cell_of_heap HRX.out]; rfl
      have k3 : w2.cell? ⟨w.heap.size, 3, none⟩ = some (.slice A1 N1 c1) := by rw [Lib.cell_of_heap HRX.out]; rfl
      have k4 : w2.cell? ⟨w.heap.size, 4, none⟩ = some (.slice A2 N2 c2) := by rw [Lib.cell_of_heap HRX.out]; rfl
      have k5 : w2.cell? ⟨w.heap.size, 5, none⟩ = some (.slice A3 N3 c3) := by rw [Lib.cell_of_heap HRX.out]; rfl
      have k6 : w2.cell? ⟨w.heap.size, 6, none⟩ = some (.slice A4 N4 c4) := by rw [Lib.cell_of_heap HRX.out]; rfl
      go_wp2_with fail
      refine Hcc.out.mono ?_
      rintro e w3 ⟨rfl, g1, g2⟩
      go_wp2_with fail
      go_end0
      exact ⟨rfl, g1, HbX.out.trans g2⟩
    · have hzE : szEs s.exprs ≤ n := by omega
      have hz3 : szSs s.body ≤ n := by omega
      have hz4 : szSs s.els ≤ n := by omega
      have hNE := len_szEs s.exprs
      -- what is behind the expressions
      obtain ⟨tail, hR1⟩ : ∃ tail, bS h s lab = (S.bExprs h.fr h.r.locals s.exprs 0 ++ tail, (bS h s lab).2) := by
        by_cases hop3 : s.op = 3
        · exact ⟨_, by rw [bS_if hop3]⟩
        · exact ⟨_, by rw [bS_else hop3 hop4]⟩
      have Htail3 := Lib.hid (fun hop3 : s.op = 3 => (show tail = [S.bU 11 (S.bLab (lab + 1))] ++ (bSs h s.body (lab + 2)).1 ++ [S.bJ 0 (S.bLab (lab + 2)), S.bL (S.bLab (lab + 1))] ++ (bSs h s.els (bSs h s.body (lab + 2)).2).1 ++ [S.bL (S.bLab (lab + 2))] ∧ (bS h s lab).2 = (bSs h s.els (bSs h s.body (lab + 2)).2).2 from by
        have e1 := bS_if (h := h) (l := lab) hop3
        rw [e1] at hR1
        refine ⟨(List.append_cancel_left (congrArg Prod.fst hR1)).symm, by rw [e1]⟩))
      have Htail := Lib.hid (fun hop3 : s.op ≠ 3 => (show tail = bTail h s.op s.n s.name s.regs ∧ (bS h s lab).2 = lab from by
        have e1 := bS_else (h := h) (l := lab) hop3 hop4
        rw [e1] at hR1
        refine ⟨(List.append_cancel_left (congrArg Prod.fst hR1)).symm, by rw [e1]⟩))
      rw [hR1] at hl h1 ⊢
      simp only [List.length_append] at hl h1
      generalize (bS h s lab).2 = lab2 at *
      have Hei := Lib.hid (fun (W : World) (hpW : SPart W base s A1 A2 A3 A4) (ys : List S.Item) (hys : ys = [S.bU 11 (S.bLab (lab + 1))] ++ (bSs h s.body (lab + 2)).1 ++ [S.bJ 0 (S.bLab (lab + 2)), S.bL (S.bLab (lab + 1))] ++ (bSs h s.els (bSs h s.body (lab + 2)).2).1 ++ [S.bL (S.bLab (lab + 2))]) (zs : List S.Item) (hc : CAt base p h zs lab W) (hb : base ≤ W.heap.size) (hLW : LVE W) (hl : zs.length + ys.length + 10 ≤ 100000000) (h1 : lab + ys.length + 10 ≤ 1000000000) =>
        c_either hih h3 s A1 A2 A3 A4 c1 c2 c3 c4 (d + 1) zs lab W hz3 hz4 hkb hke (by omega) hc hb hpW hLW h0 ys hys hl h1)
      have HP := Lib.hid hp
      have Hfe := Lib.hid hfe
      have HE := Lib.hid hp.exprs
      have HR := Lib.hid hp.regs
      have Hkn := Lib.hid (fun e' k (he : s.exprs[k]? = some e') => (show 0 + k + szE e' ≤ 1000000 from by have := szEs_at he; omega))
      clear hR1 hck hih ih hfe hkb hke hsp hz3 hz4 hpX hs hp
      obtain ⟨E, hEd⟩ : ∃ E, E = s.exprs := ⟨_, rfl⟩
      obtain ⟨N1, hN1⟩ : ∃ N, N = E.length := ⟨_, rfl⟩
      obtain ⟨G, hG⟩ : ∃ G, G = s.regs := ⟨_, rfl⟩
      obtain ⟨N2, hN2⟩ : ∃ N, N = G.length := ⟨_, rfl⟩
      rw [← hEd] at hzE hl h1 HE Hkn hexl hNE HRX HbX H2 HL hs2 Hfe Hei ⊢
      rw [← hG] at hexl HRX HbX H2 HL hs2 HR Htail Hei ⊢
      rw [← hN1] at hexl hNE HRX HbX H2 HL hs2 Hei ⊢
      rw [← hN2] at hexl HRX HbX H2 HL hs2 Hei ⊢
      have HN1 := Lib.hid hN1
      have HN2 := Lib.hid hN2
      generalize s.op = op at *
      generalize s.n = en at *
      generalize s.name = nm at *
      obtain ⟨N3, hN3⟩ : ∃ N, N = s.body.length := ⟨_, rfl⟩
      obtain ⟨N4, hN4⟩ : ∃ N, N = s.els.length := ⟨_, rfl⟩
      rw [← hN3, ← hN4] at HRX HbX H2 HL hs2 Hei
      rw [← hN3, ← hN4]
      have Hexl := Lib.hid hexl
      clear hEd hG hN1 hN2 hN3 hN4 hexl
      have HKL := Lib.hid (fun k => bExprs_take h.fr h.r.locals E 0 k)
      go_enter Tryz.func75, Tryz.ntmps75
      go_upto_region 1 with fail
      generalize w.alloc (.cells #[.int .i64 op, .int .i64 en, .string nm, .slice A1 N1 c1, .slice A2 N2 c2, .slice A3 N3 c3, .slice A4 N4 c4] 29) = w2 at *
      have k0 : w2.cell? ⟨w.heap.size, 0, none⟩ = some (.int .i64 op) := by rw [Lib.cell_of_heap HRX.out]; rfl
      have k3 : w2.cell? ⟨w.heap.size, 3, none⟩ = some (.slice A1 N1 c1) := by rw [Lib.cell_of_heap HRX.out]; rfl
      have hd4 : (op == 4) = false := by simp [hop4]
      go_wp2_with fail
      go_loopw [19] (fun v19 wr => ∃ k : Nat, k ≤ N1 ∧ v19 = .int .i64 k ∧ Hid (CAt base p h (xs ++ S.bExprs h.fr h.r.locals (E.take k) 0) lab wr) ∧ Hid (CK base w2 wr)) (fun v19 _ => N1 - (intOf v19).toNat)
      case atStart => exact ⟨0, by omega, rfl, Lib.hid (by simpa [S.bExprs] using H2.out), Lib.hid (CK.refl _ _)⟩
      case round =>
        obtain ⟨k, hk, rfl, HC, HK⟩ := hrel
        obtain ⟨wo, hwo⟩ : ∃ wo, wo = wr := ⟨_, rfl⟩
        subst hwo
        have hso : base ≤ wo.heap.size := by have := HK.out.size; omega
        by_cases hlt : k < N1
        · obtain ⟨e1, he1⟩ : ∃ e1, E[k]? = some e1 := ⟨_, List.getElem?_eq_getElem (by rw [← HN1.out]; exact hlt)⟩
          obtain ⟨b, off, A', c', rfl, hbB, q0, q1, q2, q3', q4, q5, q6⟩ := (HE.out.below (HbX.out.trans HK.out).below).at_ he1
          have hmem := List.mem_of_getElem? he1
          have hz2 := Hkn.out e1 k he1
          have hkl : (E.take k).length = k := by have := HN1.out; rw [List.length_take]; omega
          have hnx : S.bExprs h.fr h.r.locals (E.take (k + 1)) 0 = S.bExprs h.fr h.r.locals (E.take k) 0 ++ S.bExpr h.fr h.r.locals e1 k := by rw [take_one E he1, bExprs_snoc, hkl, Nat.zero_add]
          have hkl1 := HKL.out (k + 1)
          rw [hnx, List.length_append] at hkl1
          have hbr : b < wo.heap.size := by omega
          have hbY : Below wo.heap.size wo (wo.alloc (.cells #[.int .i64 e1.op, .int .i64 e1.n, .string e1.name, .slice A' e1.kids.length c'] 24)) := (Below.refl _ _).alloc (Nat.le_refl _) _
          have hrec := c_expr hO (szE e1) e1 A' c' k (xs ++ S.bExprs h.fr h.r.locals (E.take k) 0) lab (wo.alloc (.cells #[.int .i64 e1.op, .int .i64 e1.n, .string e1.name, .slice A' e1.kids.length c'] 24)) (Nat.le_refl _) (formedEs_mem _ Hfe.out e1 hmem) (by omega) (HC.out.keep hbY) (Nat.le_trans hso hbY.size) (q6.below (hbY.mono hso)) q4 (by rw [List.length_append]; omega)
          have Hnx := Lib.hid hnx
          have HbY := Lib.hid (CK.of hbY hso)
          clear hnx hkl1 hbY hkl
          generalize S.bExpr h.fr h.r.locals e1 k = zs at *
          generalize e1.op = op' at *
          generalize e1.n = en' at *
          generalize e1.name = nm' at *
          generalize e1.kids.length = N' at *
          have Hrec := Lib.hid hrec
          clear hrec q4 q5 q6 he1 hmem hz2
          go_wp2_with fail
          refine Hrec.out.mono ?_
          rintro e w4 ⟨rfl, g3, g4⟩
          go_wp2_with fail
          go_roundw
          case rel => exact ⟨k + 1, by omega, by go_num, Lib.hid (by rw [Hnx.out, ← List.append_assoc]; exact g3), Lib.hid (HK.out.trans (HbY.out.trans g4))⟩
          case measure => simp [intOf]; omega
        · have hkN : N1 = k := by omega
          subst hkN
          have Hrow := Lib.hid (HK.out.keep w.heap.size _ _ _ HRX.out (by decide) (by decide))
          have ht : E.take N1 = E := by rw [HN1.out, List.take_length]
          rw [ht] at HC
          have HLo := Lib.hid (HL.out.keep HK.out.below h3)
          have HPo := Lib.hid (HP.out.below (HbX.out.trans HK.out).below)
          have HRo := Lib.hid (HR.out.below (HbX.out.trans HK.out).below)
          clear ht k0 k3 HL HP HR HE Hkn HKL Hfe H2
          have c0 : wo.cell? ⟨w.heap.size, 0, none⟩ = some (.int .i64 op) := by rw [Lib.cell_of_heap Hrow.out]; rfl
          have c1' : wo.cell? ⟨w.heap.size, 1, none⟩ = some (.int .i64 en) := by rw [Lib.cell_of_heap Hrow.out]; rfl
          have c2' : wo.cell? ⟨w.heap.size, 2, none⟩ = some (.string nm) := by rw [Lib.cell_of_heap Hrow.out]; rfl
          have c3' : wo.cell? ⟨w.heap.size, 3, none⟩ = some (.slice A1 N1 c1) := by rw [Lib.cell_of_heap Hrow.out]; rfl
          have c4' : wo.cell? ⟨w.heap.size, 4, none⟩ = some (.slice A2 N2 c2) := by rw [Lib.cell_of_heap Hrow.out]; rfl
          have c5' : wo.cell? ⟨w.heap.size, 5, none⟩ = some (.slice A3 N3 c3) := by rw [Lib.cell_of_heap Hrow.out]; rfl
          have c6' : wo.cell? ⟨w.heap.size, 6, none⟩ = some (.slice A4 N4 c4) := by rw [Lib.cell_of_heap Hrow.out]; rfl
          have hcz : (xs ++ S.bExprs h.fr h.r.locals E 0).length = xs.length + (S.bExprs h.fr h.r.locals E 0).length := List.length_append
          generalize S.bExprs h.fr h.r.locals E 0 = ks at *
          have HKK := Lib.hid (HbX.out.trans HK.out)
          have hhO := Lib.hid hO
          rcases (show op = 1 ∨ op = 2 ∨ op = 3 ∨ op = 5 ∨ op = 6 ∨ op = 7 ∨ op = 8 ∨ op = 9 ∨ op = 10 ∨ op = 11 by omega) with rfl | rfl | rfl | rfl | rfl | rfl | rfl | rfl | rfl | rfl
          · obtain ⟨t1, t2⟩ := Htail.out (by decide)
            subst t2
            have Ht := Lib.hid (show tail = [S.bStore h.fr 11 (1 + en)] from t1)
            clear t1 Htail Htail3 Hei HPo Hexl hd4 hop4
            have Hlo := Lib.hid (c_local en (by have := hloc rfl; have := hO.l1; omega) wo)
            have Hc := Lib.hid (c_store HC.out hso (by rw [hcz]; omega) hO 11 (1 + en) (by have := hloc rfl; have := hO.l1; omega))
            clear hloc
            go_wp2_with fail
            refine Hlo.out.mono ?_
            rintro e w3 ⟨rfl, rfl⟩
            go_wp2_with fail
            refine Hc.out.mono ?_
            rintro e w4 ⟨rfl, h3, h4⟩
            go_wp2_with fail
            go_end0
            refine ⟨rfl, ?_, HKK.out.trans h4⟩
            show CAt base p h (xs ++ (ks ++ tail)) _ w4
            rw [Ht.out]
            simpa only [List.append_assoc, List.cons_append, List.nil_append] using h3
          · obtain ⟨t1, t2⟩ := Htail.out (by decide)
            subst t2
            have Ht := Lib.hid (show tail = [S.bI 25 0 11 12 en] from t1)
            clear t1 Htail Htail3 Hei HPo Hexl hd4 hop4
            have Hc := Lib.hid (c_inst HC.out hso (by rw [hcz]; omega) 25 0 11 12 en)
            clear hloc
            go_wp2_with fail
            refine Hc.out.mono ?_
            rintro e w4 ⟨rfl, h3, h4⟩
            go_wp2_with fail
            go_end0
            refine ⟨rfl, ?_, HKK.out.trans h4⟩
            show CAt base p h (xs ++ (ks ++ tail)) _ w4
            rw [Ht.out]
            simpa only [List.append_assoc, List.cons_append, List.nil_append] using h3
          · obtain ⟨t1, t2⟩ := Htail3.out rfl
            have Hc := Lib.hid (Hei.out wo HPo.out tail t1 (xs ++ ks) HC.out hso HLo.out (by rw [hcz]; omega) (by omega))
            rw [← t2] at Hc
            clear t1 t2 Htail Htail3 Hei HPo Hexl hd4 hop4 hloc
            go_wp2_with fail
            refine Hc.out.mono ?_
            rintro e w4 ⟨rfl, h3, h4⟩
            go_wp2_with fail
            go_end0
            refine ⟨rfl, ?_, HKK.out.trans h4⟩
            show CAt base p h (xs ++ (ks ++ tail)) _ w4
            rw [← List.append_assoc]
            exact h3
          · obtain ⟨t1, t2⟩ := Htail.out (by decide)
            subst t2
            have Ht := Lib.hid (show tail = S.bRegs G 0 ++ S.bBack h.fr h.r.behind from t1)
            have hN2b : N2 ≤ 1000000 := by
              have e1 : N1 = N2 := by rw [Hexl.out]; rfl
              omega
            have htl : tail.length = N2 + (S.bBack h.fr h.r.behind).length := by rw [Ht.out, List.length_append, bRegs_len, HN2.out]
            rw [htl] at hl
            clear htl
            clear t1 Htail Htail3 Hei HPo Hexl hd4 hop4
            have hGt : ∀ k, k ≤ N2 → (S.bRegs (G.take k) 0).length = k := fun k hk => by rw [bRegs_len, List.length_take]; have := HN2.out; omega
            have HGt := Lib.hid hGt
            clear hloc hGt
            go_wp2_with fail
            go_loopw [57] (fun v57 wr => ∃ k : Nat, k ≤ N2 ∧ v57 = .int .i64 k ∧ Hid (CAt base p h (xs ++ ks ++ S.bRegs (G.take k) 0) lab2 wr) ∧ Hid (CK base wo wr)) (fun v57 _ => N2 - (intOf v57).toNat)
            case atStart => exact ⟨0, by omega, rfl, Lib.hid (by simpa [S.bRegs] using HC.out), Lib.hid (CK.refl _ _)⟩
            case round =>
              obtain ⟨k, hk, rfl, HC2, HK2⟩ := hrel
              obtain ⟨wo2, hwo2⟩ : ∃ wo2, wo2 = wr := ⟨_, rfl⟩
              subst hwo2
              have hs2' : base ≤ wo2.heap.size := by have := HK2.out.size; omega
              have hl2 : (xs ++ ks ++ S.bRegs (G.take k) 0).length = xs.length + ks.length + k := by rw [List.length_append, hcz, HGt.out k hk]
              by_cases hlt : k < N2
              · obtain ⟨b, off, rfl, hbB, hcc⟩ := (HRo.out.below HK2.out.below).two (by rw [← HN2.out]; omega)
                obtain ⟨x, hx⟩ : ∃ x, G[k]? = some x := ⟨_, List.getElem?_eq_getElem (by rw [← HN2.out]; exact hlt)⟩
                have hx0 := hcc k x hx
                have hbr : b < wo2.heap.size := by omega
                have Hnx := Lib.hid (show S.bRegs (G.take (k + 1)) 0 = S.bRegs (G.take k) 0 ++ [S.bMove x (11 + (k : Int))] from by
                  rw [take_one G hx, bRegs_snoc, Nat.zero_add]
                  have : (G.take k).length = k := by rw [List.length_take]; have := HN2.out; omega
                  rw [this])
                have Hc := Lib.hid (c_move HC2.out hs2' (by rw [hl2]; omega) x (11 + (k : Int)))
                clear hx hcc hl2
                go_wp2_with fail
                refine Hc.out.mono ?_
                rintro e w4 ⟨rfl, h3, h4⟩
                go_wp2_with fail
                go_roundw
                case rel => exact ⟨k + 1, by omega, by go_num, Lib.hid (by rw [Hnx.out, ← List.append_assoc]; exact h3), Lib.hid (HK2.out.trans h4)⟩
                case measure => simp [intOf]; omega
              · have hkN : N2 = k := by omega
                subst hkN
                have ht : G.take N2 = G := by rw [HN2.out, List.take_length]
                rw [ht] at HC2 hl2
                have hbl := bBack_len h.fr h.r.behind
                have Hc := Lib.hid (c_back HC2.out hs2' (by rw [hl2]; omega) hO)
                clear ht hl2 hbl
                go_wp2_with fail
                refine Hc.out.mono ?_
                rintro e w4 ⟨rfl, h3, h4⟩
                go_wp2_with fail
                go_end0
                refine ⟨rfl, ?_, HKK.out.trans (HK2.out.trans h4)⟩
                show CAt base p h (xs ++ (ks ++ tail)) _ w4
                rw [Ht.out]
                simpa only [List.append_assoc, List.cons_append, List.nil_append] using h3
          · obtain ⟨t1, t2⟩ := Htail.out (by decide)
            subst t2
            have Ht := Lib.hid (show tail = [] from t1)
            clear t1 Htail Htail3 Hei HPo Hexl hd4 hop4
            clear hloc
            have h3 := HC.out
            go_wp2_with fail
            go_end0
            refine ⟨rfl, ?_, HKK.out⟩
            show CAt base p h (xs ++ (ks ++ tail)) _ wo
            rw [Ht.out, List.append_nil]
            exact h3
          · obtain ⟨t1, t2⟩ := Htail.out (by decide)
            subst t2
            have Ht := Lib.hid (show tail = [S.bI 35 0 11 0 0] from t1)
            clear t1 Htail Htail3 Hei HPo Hexl hd4 hop4
            have Hc := Lib.hid (c_inst HC.out hso (by rw [hcz]; omega) 35 0 11 0 0)
            clear hloc
            go_wp2_with fail
            refine Hc.out.mono ?_
            rintro e w4 ⟨rfl, h3, h4⟩
            go_wp2_with fail
            go_end0
            refine ⟨rfl, ?_, HKK.out.trans h4⟩
            show CAt base p h (xs ++ (ks ++ tail)) _ w4
            rw [Ht.out]
            simpa only [List.append_assoc, List.cons_append, List.nil_append] using h3
          · obtain ⟨t1, t2⟩ := Htail.out (by decide)
            subst t2
            have Ht := Lib.hid (show tail = [S.bI 36 0 11 0 0] from t1)
            clear t1 Htail Htail3 Hei HPo Hexl hd4 hop4
            have Hc := Lib.hid (c_inst HC.out hso (by rw [hcz]; omega) 36 0 11 0 0)
            clear hloc
            go_wp2_with fail
            refine Hc.out.mono ?_
            rintro e w4 ⟨rfl, h3, h4⟩
            go_wp2_with fail
            go_end0
            refine ⟨rfl, ?_, HKK.out.trans h4⟩
            show CAt base p h (xs ++ (ks ++ tail)) _ w4
            rw [Ht.out]
            simpa only [List.append_assoc, List.cons_append, List.nil_append] using h3
          · obtain ⟨t1, t2⟩ := Htail.out (by decide)
            subst t2
            have Ht := Lib.hid (show tail = [S.bMove en 11] from t1)
            clear t1 Htail Htail3 Hei HPo Hexl hd4 hop4
            have Hc := Lib.hid (c_move HC.out hso (by rw [hcz]; omega) en 11)
            clear hloc
            go_wp2_with fail
            refine Hc.out.mono ?_
            rintro e w4 ⟨rfl, h3, h4⟩
            go_wp2_with fail
            go_end0
            refine ⟨rfl, ?_, HKK.out.trans h4⟩
            show CAt base p h (xs ++ (ks ++ tail)) _ w4
            rw [Ht.out]
            simpa only [List.append_assoc, List.cons_append, List.nil_append] using h3
          · obtain ⟨t1, t2⟩ := Htail.out (by decide)
            subst t2
            have Ht := Lib.hid (show tail = [S.bPop h.fr, S.bJ 0 nm] from t1)
            clear t1 Htail Htail3 Hei HPo Hexl hd4 hop4
            have Hc := Lib.hid (c_pop HC.out hso (by rw [hcz]; omega) hO)
            clear hloc
            go_wp2_with fail
            refine Hc.out.mono ?_
            rintro e w4 ⟨rfl, g3, g4⟩
            have hs4 : base ≤ w4.heap.size := by have := g4.size; omega
            have hl4 : (xs ++ ks ++ [S.bPop h.fr]).length ≤ 100000000 := by rw [List.length_append, hcz]; show _ + 1 ≤ _; omega
            have Hr4 := Lib.hid (g4.keep _ _ _ _ Hrow.out (by decide) (by decide))
            have k2 : w4.cell? ⟨w.heap.size, 2, none⟩ = some (.string nm) := by rw [Lib.cell_of_heap Hr4.out]; rfl
            have Hc2 := Lib.hid (c_jump g3 hs4 hl4 0 nm)
            clear c0 c1' c2' c3' c4' c5' c6'
            go_wp2_with fail
            refine Hc2.out.mono ?_
            rintro e w5 ⟨rfl, h3, h4⟩
            go_wp2_with fail
            go_end0
            refine ⟨rfl, ?_, HKK.out.trans (g4.trans h4)⟩
            show CAt base p h (xs ++ (ks ++ tail)) _ w5
            rw [Ht.out]
            simpa only [List.append_assoc, List.cons_append, List.nil_append] using h3
          · obtain ⟨t1, t2⟩ := Htail.out (by decide)
            subst t2
            have Ht := Lib.hid (show tail = [S.bPop h.fr, S.bI 33 0 11 0 0] from t1)
            clear t1 Htail Htail3 Hei HPo Hexl hd4 hop4
            have Hc := Lib.hid (c_pop HC.out hso (by rw [hcz]; omega) hO)
            clear hloc
            go_wp2_with fail
            refine Hc.out.mono ?_
            rintro e w4 ⟨rfl, g3, g4⟩
            have hs4 : base ≤ w4.heap.size := by have := g4.size; omega
            have hl4 : (xs ++ ks ++ [S.bPop h.fr]).length ≤ 100000000 := by rw [List.length_append, hcz]; show _ + 1 ≤ _; omega
            have Hr4 := Lib.hid (g4.keep _ _ _ _ Hrow.out (by decide) (by decide))
            have k2 : w4.cell? ⟨w.heap.size, 2, none⟩ = some (.string nm) := by rw [Lib.cell_of_heap Hr4.out]; rfl
            have Hc2 := Lib.hid (c_inst g3 hs4 hl4 33 0 11 0 0)
            clear c0 c1' c2' c3' c4' c5' c6'
            go_wp2_with fail
            refine Hc2.out.mono ?_
            rintro e w5 ⟨rfl, h3, h4⟩
            go_wp2_with fail
            go_end0
            refine ⟨rfl, ?_, HKK.out.trans (g4.trans h4)⟩
            show CAt base p h (xs ++ (ks ++ tail)) _ w5
            rw [Ht.out]
            simpa only [List.append_assoc, List.cons_append, List.nil_append] using h3

end Go.Proofs.YtlldagdhlfpihaaGreatDoor
