/- Plain: whole statements and routines on a machine. No program in sight. -/
import Derived.Test.YtlldagdhlfpihaaGreatDoorZBStm
set_option linter.unusedVariables false
set_option linter.unusedSimpArgs false
set_option linter.unusedSectionVars false
namespace Go.Proofs.YtlldagdhlfpihaaGreatDoor
open Go.RowKit

section
variable {I : S.Img} {L dep lk base : Int} (cx : S.Cx I L dep lk base) {obj : ByteArray} {behind : Bool}
include cx
/-- What a statement's own step leaves. -/
theorem OutS_one {V V' st' : S.Vw} {env' : List Int} {a b : Int} {c k : Nat} {Q : List Int → S.Vw → Nat → Prop} {R : S.BO → Nat → Prop} (hg : S.Go I V a k V' b) (hq : Q env' st' (c + k)) (hl : (env'.length : Int) = L) (hF : S.Fm I V' st' base lk env' []) (hk : S.Kp I base V V') :
    S.OutS I V a b c L base lk behind Q R := .inl ⟨env', st', c + k, V', by omega, hq, hl, by rw [Nat.add_sub_cancel_left]; exact hg, hF, hk⟩
theorem OutS_end {V : S.Vw} {a b : Int} {c k : Nat} {o : S.BO} {Q : List Int → S.Vw → Nat → Prop} {R : S.BO → Nat → Prop} (hd : S.Done I V a k base lk behind o) (hr : R o (c + k)) : S.OutS I V a b c L base lk behind Q R :=
  .inr ⟨o, c + k, by omega, hr, by rw [Nat.add_sub_cancel_left]; exact hd⟩
mutual
theorem sound_S : ∀ (s : S.BS) (depth : Nat) (l : Int) (env : List Int) (V st : S.Vw) (i c : Nat) (Q : List Int → S.Vw → Nat → Prop) (R : S.BO → Nat → Prop), (env.length : Int) = L → S.chkS L s depth = 0 → S.wpS I dep lk behind s env st c Q R →
    S.Seg I obj i (S.bStmt (L + 15) L behind s l).1 → S.Fm I V st base lk env [] → S.OutS I V (I.adr i) (I.adr (i + (S.bStmt (L + 15) L behind s l).1.length)) c L base lk behind Q R
  | .mk op n name exprs regs body els, depth, l, env, V, st, i, c, Q, R, hL, hc, hw, hs, hV => by
    have hL0 := cx.L0
    rw [S.chkS] at hc
    by_cases hf : (!(S.shapedS L op n name exprs.length regs body.length els.length && S.formedEs L exprs)) = true
    · rw [if_pos hf] at hc; exact absurd hc (by decide)
    rw [if_neg hf] at hc
    by_cases hd : 200 ≤ depth ∨ 14 < S.needEs exprs 0
    · rw [if_pos hd] at hc; exact absurd hc (by decide)
    rw [if_neg hd] at hc
    have hb : S.chkSs L body (depth + 1) = 0 ∧ S.chkSs L els (depth + 1) = 0 := by
      by_cases h : S.chkSs L body (depth + 1) ≠ 0
      · rw [if_pos h] at hc; exact absurd hc h
      · rw [if_neg h] at hc; exact ⟨by simpa using h, hc⟩
    obtain ⟨hsh, hfe⟩ : S.shapedS L op n name exprs.length regs body.length els.length = true ∧ S.formedEs L exprs = true := by
      simpa using hf
    have hne : S.needEs exprs 0 ≤ 14 := by omega
    unfold S.shapedS at hsh
    simp only [Bool.and_eq_true, decide_eq_true_eq] at hsh
    obtain ⟨⟨⟨⟨⟨⟨⟨⟨hop, hregs⟩, hris⟩, hbd⟩, hel⟩, hnum⟩, hex⟩, hnm⟩, hlb⟩ := hsh
    unfold S.numS at hnum
    unfold S.exprsS at hex
    rw [S.wpS] at hw
    rw [S.bStmt] at hs ⊢
    by_cases c4 : op = 4
    · rw [if_pos c4] at hw hs ⊢
      have hx1 : exprs.length = 1 := by rw [if_neg (by omega), if_neg (by omega), if_neg (by omega)] at hex; exact hex
      obtain ⟨e, rfl⟩ : ∃ e, exprs = [e] := by
        match exprs, hx1 with
        | [e], _ => exact ⟨e, rfl⟩
      simp only [S.bTest] at hs ⊢
      obtain ⟨J, ⟨k0, hJ0⟩, hstep⟩ := hw
      have hbe : S.bExprs (L + 15) L [e] 0 = S.bExpr (L + 15) L e 0 := by rw [S.bExprs, S.bExprs, List.append_nil]
      obtain ⟨n1, hn1⟩ : ∃ n1, n1 = (S.bExpr (L + 15) L e 0).length := ⟨_, rfl⟩
      obtain ⟨n2, hn2⟩ : ∃ n2, n2 = (S.bStmts (L + 15) L behind body (l + 2)).1.length := ⟨_, rfl⟩
      have hsTop : S.Seg I obj i [S.bL (S.bLab (l + 1))] := hs.left.left.left.left
      have hsE : S.Seg I obj (i + 1) (S.bExprs (L + 15) L [e] 0) := by rw [hbe]; exact hs.left.left.left.right
      have hsU : S.Seg I obj (i + 1 + n1) [S.bU 11 (S.bLab (l + 2))] := by
        have h := hs.left.left.right
        rw [List.length_append, ← hn1] at h
        have e1 : i + (([S.bL (S.bLab (l + 1))] : List S.Item).length + n1) = i + 1 + n1 := by simp; omega
        rw [e1] at h; exact h
      have hsB : S.Seg I obj (i + 1 + n1 + 1) (S.bStmts (L + 15) L behind body (l + 2)).1 := by
        have h := hs.left.right
        rw [List.length_append, List.length_append, ← hn1] at h
        have e1 : i + (([S.bL (S.bLab (l + 1))] : List S.Item).length + n1 + ([S.bU 11 (S.bLab (l + 2))] : List S.Item).length) = i + 1 + n1 + 1 := by simp; omega
        rw [e1] at h; exact h
      have hsJ : S.Seg I obj (i + 1 + n1 + 1 + n2) [S.bJ 0 (S.bLab (l + 1)), S.bL (S.bLab (l + 2))] := by
        have h := hs.right
        rw [List.length_append, List.length_append, List.length_append, ← hn1, ← hn2] at h
        have e1 : i + (([S.bL (S.bLab (l + 1))] : List S.Item).length + n1 + ([S.bU 11 (S.bLab (l + 2))] : List S.Item).length + n2) = i + 1 + n1 + 1 + n2 := by simp; omega
        rw [e1] at h; exact h
      have elen : i + ([S.bL (S.bLab (l + 1))] ++ S.bExpr (L + 15) L e 0 ++ [S.bU 11 (S.bLab (l + 2))] ++ (S.bStmts (L + 15) L behind body (l + 2)).1 ++ [S.bJ 0 (S.bLab (l + 1)), S.bL (S.bLab (l + 2))]).length = i + 1 + n1 + 1 + n2 + 1 + 1 := by
        simp only [List.length_append, List.length_cons, List.length_nil, ← hn1, ← hn2]; omega
      rw [elen]
      have ltop := lab_at cx hsTop
      have lend := lab_at cx hsJ.tail
      have key : ∀ (k : Nat) (env : List Int) (V st : S.Vw) (c : Nat), (env.length : Int) = L → J env st c k → S.Fm I V st base lk env [] → S.OutS I V (I.adr i) (I.adr (i + 1 + n1 + 1 + n2 + 1 + 1)) c L base lk behind Q R := by
        intro k
        induction k using Nat.strongRecOn with
        | ind k ih =>
          intro env V st c hL hJ hV
          have hstp := hstep env st c k hJ
          have h1 := sound_Es cx (obj := obj) hL [e] 0 0 [] V st (i + 1) c _ _ hfe rfl (by omega) hstp hsE hV
          have g0 := go_label cx.ok hsTop.lo hsTop.lt (V := V) hsTop.head
          refine OutS_after (c1 := c) (Nat.le_refl _) (by rw [Nat.sub_self]; exact g0) (S.Kp.refl _ _ _) ?_
          refine OutS_of h1 fun vs st1 c1 V1 hc1 hq hF1 => ?_
          obtain ⟨hvl, hq⟩ := hq
          have h11 := hF1.val0 (by rw [hvl]; exact Nat.one_pos)
          have en : i + 1 + (S.bExprs (L + 15) L [e] ([] : List Int).length).length = i + 1 + n1 := by rw [show ([] : List Int).length = 0 from rfl, hbe, hn1]
          rw [en]
          have gu := go_unless cx.ok hsU.lo hsU.lt (V := V1) hsU.head (a := 11) (by decide)
          rw [h11] at gu
          by_cases cv : vs.getD 0 0 = 0
          · rw [if_pos cv] at hq gu
            have gl := go_label cx.ok hsJ.tail.lo hsJ.tail.lt (V := V1) hsJ.tail.head
            have gu' : S.Go I V1 (I.adr (i + 1 + n1)) 4 V1 (I.adr (i + 1 + n1 + 1 + n2 + 1)) := by rw [← lend]; exact gu
            exact OutS_one cx (gu'.trans gl) hq hL hF1.drop (S.Kp.refl _ _ _)
          · rw [if_neg cv] at hq gu
            have h2 := sound_Ss body (depth + 1) (l + 2) env V1 st1 (i + 1 + n1 + 1) (c1 + 4) _ R hL hb.1 hq hsB hF1.drop
            refine OutS_after (c1 := c1 + 4) (by omega) (by rw [Nat.add_sub_cancel_left]; exact gu) (S.Kp.refl _ _ _) ?_
            refine OutS_then h2 fun env2 st2 c2 V2 hc2 hq2 hL2 hF2 => ?_
            obtain ⟨k2, hk2, hJ2⟩ := hq2
            rw [← hn2]
            have gj : S.Go I V2 (I.adr (i + 1 + n1 + 1 + n2)) 3 V2 (I.adr i) := by rw [← ltop]; exact go_jump0 cx.ok hsJ.lo hsJ.lt (V := V2) hsJ.head
            refine OutS_after (c1 := c2 + 3) (by omega) (by rw [Nat.add_sub_cancel_left]; exact gj) (S.Kp.refl _ _ _) ?_
            exact ih k2 hk2 env2 V2 st2 (c2 + 3) hL2 hJ2 hF2
      exact key k0 env V st c hL hJ0 hV
    rw [if_neg c4] at hw hs ⊢
    by_cases c3 : op = 3
    · rw [if_pos c3] at hs ⊢
      have hx1 : exprs.length = 1 := by rw [if_neg (by omega), if_neg (by omega), if_neg (by omega)] at hex; exact hex
      obtain ⟨n1, hn1⟩ : ∃ n1, n1 = (S.bExprs (L + 15) L exprs 0).length := ⟨_, rfl⟩
      obtain ⟨n2, hn2⟩ : ∃ n2, n2 = (S.bStmts (L + 15) L behind body (l + 2)).1.length := ⟨_, rfl⟩
      obtain ⟨l2, hl2⟩ : ∃ l2, l2 = (S.bStmts (L + 15) L behind body (l + 2)).2 := ⟨_, rfl⟩
      rw [← hl2] at hs ⊢
      obtain ⟨n3, hn3⟩ : ∃ n3, n3 = (S.bStmts (L + 15) L behind els l2).1.length := ⟨_, rfl⟩
      simp only at hs ⊢
      have hsE : S.Seg I obj i (S.bExprs (L + 15) L exprs 0) := hs.left.left.left.left.left
      have hsU : S.Seg I obj (i + n1) [S.bU 11 (S.bLab (l + 1))] := by
        have h := hs.left.left.left.left.right
        rw [← hn1] at h; exact h
      have hsB : S.Seg I obj (i + n1 + 1) (S.bStmts (L + 15) L behind body (l + 2)).1 := by
        have h := hs.left.left.left.right
        rw [List.length_append, ← hn1] at h
        exact h
      have hsJ : S.Seg I obj (i + n1 + 1 + n2) [S.bJ 0 (S.bLab (l + 2)), S.bL (S.bLab (l + 1))] := by
        have h := hs.left.left.right
        rw [List.length_append, List.length_append, ← hn1, ← hn2] at h
        have e1 : i + (n1 + ([S.bU 11 (S.bLab (l + 1))] : List S.Item).length + n2) = i + n1 + 1 + n2 := by simp; omega
        rw [e1] at h; exact h
      have hsF : S.Seg I obj (i + n1 + 1 + n2 + 2) (S.bStmts (L + 15) L behind els l2).1 := by
        have h := hs.left.right
        rw [List.length_append, List.length_append, List.length_append, ← hn1, ← hn2] at h
        have e1 : i + (n1 + ([S.bU 11 (S.bLab (l + 1))] : List S.Item).length + n2 + ([S.bJ 0 (S.bLab (l + 2)), S.bL (S.bLab (l + 1))] : List S.Item).length) = i + n1 + 1 + n2 + 2 := by simp; omega
        rw [e1] at h; exact h
      have hsX : S.Seg I obj (i + n1 + 1 + n2 + 2 + n3) [S.bL (S.bLab (l + 2))] := by
        have h := hs.right
        rw [List.length_append, List.length_append, List.length_append, List.length_append, ← hn1, ← hn2, ← hn3] at h
        have e1 : i + (n1 + ([S.bU 11 (S.bLab (l + 1))] : List S.Item).length + n2 + ([S.bJ 0 (S.bLab (l + 2)), S.bL (S.bLab (l + 1))] : List S.Item).length + n3) = i + n1 + 1 + n2 + 2 + n3 := by simp; omega
        rw [e1] at h; exact h
      have elen : i + (S.bExprs (L + 15) L exprs 0 ++ [S.bU 11 (S.bLab (l + 1))] ++ (S.bStmts (L + 15) L behind body (l + 2)).1 ++ [S.bJ 0 (S.bLab (l + 2)), S.bL (S.bLab (l + 1))] ++ (S.bStmts (L + 15) L behind els l2).1 ++ [S.bL (S.bLab (l + 2))]).length = i + n1 + 1 + n2 + 2 + n3 + 1 := by
        simp only [List.length_append, List.length_cons, List.length_nil, ← hn1, ← hn2, ← hn3]; omega
      rw [elen]
      have lother := lab_at cx hsJ.tail
      have lend := lab_at cx hsX
      have h1 := sound_Es cx (obj := obj) hL exprs 0 0 [] V st i c _ _ hfe rfl (by omega) hw hsE hV
      refine OutS_of h1 fun vs st1 c1 V1 hc1 hq hF1 => ?_
      obtain ⟨hvl, hq⟩ := hq
      have h11 := hF1.val0 (by rw [hvl]; omega)
      rw [if_neg (by omega), if_neg (by omega), if_pos c3] at hq
      have gu := go_unless cx.ok hsU.lo hsU.lt (V := V1) hsU.head (a := 11) (by decide)
      rw [h11] at gu
      have gx : ∀ V2, S.Go I V2 (I.adr (i + n1 + 1 + n2 + 2 + n3)) 0 V2 (I.adr (i + n1 + 1 + n2 + 2 + n3 + 1)) := fun V2 => go_label cx.ok hsX.lo hsX.lt (V := V2) hsX.head
      have en : i + (S.bExprs (L + 15) L exprs ([] : List Int).length).length = i + n1 := by rw [show ([] : List Int).length = 0 from rfl, hn1]
      rw [en]
      by_cases cv : vs.getD 0 0 = 0
      · rw [if_pos cv] at hq gu
        have gl := go_label cx.ok hsJ.tail.lo hsJ.tail.lt (V := V1) hsJ.tail.head
        have gu' : S.Go I V1 (I.adr (i + n1)) 4 V1 (I.adr (i + n1 + 1 + n2 + 1)) := by rw [← lother]; exact gu
        have h2 := sound_Ss els (depth + 1) l2 env V1 st1 (i + n1 + 1 + n2 + 2) (c1 + 4) Q R hL hb.2 hq hsF hF1.drop
        refine OutS_after (c1 := c1 + 4) (by omega) (by rw [Nat.add_sub_cancel_left]; exact (gu'.trans gl)) (S.Kp.refl _ _ _) ?_
        refine OutS_then h2 fun env2 st2 c2 V2 hc2 hq2 hL2 hF2 => ?_
        rw [← hn3]
        exact OutS_one cx (gx V2) hq2 hL2 hF2 (S.Kp.refl _ _ _)
      · rw [if_neg cv] at hq gu
        have h2 := sound_Ss body (depth + 1) (l + 2) env V1 st1 (i + n1 + 1) (c1 + 4) _ R hL hb.1 hq hsB hF1.drop
        refine OutS_after (c1 := c1 + 4) (by omega) (by rw [Nat.add_sub_cancel_left]; exact gu) (S.Kp.refl _ _ _) ?_
        refine OutS_then h2 fun env2 st2 c2 V2 hc2 hq2 hL2 hF2 => ?_
        rw [← hn2]
        have gj : S.Go I V2 (I.adr (i + n1 + 1 + n2)) 3 V2 (I.adr (i + n1 + 1 + n2 + 2 + n3)) := by rw [← lend]; exact go_jump0 cx.ok hsJ.lo hsJ.lt (V := V2) hsJ.head
        exact OutS_one cx (gj.trans (gx V2)) hq2 hL2 hF2 (S.Kp.refl _ _ _)
    rw [if_neg c3] at hs ⊢
    obtain ⟨n1, hn1⟩ : ∃ n1, n1 = (S.bExprs (L + 15) L exprs 0).length := ⟨_, rfl⟩
    simp only at hs ⊢
    have h1 := sound_Es cx (obj := obj) hL exprs 0 0 [] V st i c _ _ hfe rfl (by omega) hw hs.left hV
    refine OutS_of h1 fun vs st1 c1 V1 hc1 hq hF1 => ?_
    obtain ⟨hvl, hq⟩ := hq
    have en : i + (S.bExprs (L + 15) L exprs ([] : List Int).length).length = i + n1 := by rw [show ([] : List Int).length = 0 from rfl, hn1]
    rw [en, List.length_append, ← hn1, ← Nat.add_assoc]
    have hs2 := hs.right
    rw [← hn1] at hs2
    clear hs h1 hw hV
    have hsp : V1.reg 28 = base + L + 15 := by rw [← hL]; exact hF1.sp
    by_cases k1 : op = 1
    · rw [if_pos k1] at hs2 hq hnum ⊢
      have hx1 : exprs.length = 1 := by rw [if_neg (by omega), if_neg (by omega), if_neg (by omega)] at hex; exact hex
      have hn' := of_decide_eq_true hnum
      have h11 := hF1.val0 (by rw [hvl]; omega)
      have g := go_bStore cx (V := V1) hs2 hsp (p := 1 + n) (by omega) (by omega) (by decide)
      rw [h11] at g
      have hlo := cx.lo
      have htp := cx.top
      have hdp := cx.dep0
      refine OutS_one cx g hq (by simpa using hL) ⟨hF1.mt.stack ⟨by omega, by omega⟩ _, by rw [List.length_set]; exact hF1.sp, by rw [vsto_other _ _ (by omega)]; exact hF1.fr.lk, fun k hk => ?_, fun k hk => by simp at hk⟩ (fun a a0 a1 => vsto_other _ _ (by omega))
      have hk' : k < env.length := by simpa using hk
      rw [list_set_getD _ _ _ _ hk']
      by_cases ck : k = n.toNat
      · rw [if_pos ck]
        have e : base + 1 + (k : Int) = base + (1 + n) := by omega
        rw [e, vsto_same]
      · rw [if_neg ck, vsto_other _ _ (by omega)]; exact hF1.fr.env k hk'
    rw [if_neg k1] at hs2 hq hnum ⊢
    by_cases k2 : op = 2
    · rw [if_pos k2] at hs2 hq hnum ⊢
      have hx1 : exprs.length = 2 := by rw [if_pos k2] at hex; exact hex
      have h11 := hF1.val0 (by rw [hvl]; omega)
      have h12 := hF1.val1 (by rw [hvl]; omega)
      obtain ⟨q1, q2, q3, q4⟩ := hq
      have g := go_sw cx.ok hs2.lo hs2.lt (V := V1) hs2.head (p := S.u32m (vs.getD 0 0 + n)) (by decide) (by decide) (by rw [h11]) q1 q3
      rw [h12] at g
      have hst : ∀ b, I.stk b → b ≠ S.u32m (vs.getD 0 0 + n) := fun b hb e => q2 (by rw [← e]; exact hb)
      have hlo := cx.lo
      have htp := cx.top
      have hdp := cx.dep0
      refine OutS_one cx g q4 hL ⟨⟨hF1.mt.vis, fun a a0 a1 ha => ?_, hF1.mt.inp, hF1.mt.out⟩, hF1.sp, ?_, fun k hk => ?_, fun k hk => by simp at hk⟩ (fun a a0 a1 => vsto_other _ _ (hst a ⟨a0, by omega⟩))
      · show (if a = _ then _ else V1.mem a) = if a = _ then _ else st1.mem a
        split
        · rfl
        · exact hF1.mt.mem a a0 a1 ha
      · rw [vsto_other _ _ (hst _ ⟨by omega, by omega⟩)]; exact hF1.fr.lk
      · rw [vsto_other _ _ (hst _ ⟨by omega, by omega⟩)]; exact hF1.fr.env k hk
    rw [if_neg k2] at hs2 hq hnum ⊢
    rw [if_neg c3] at hq
    by_cases k5 : op = 5
    · rw [if_pos k5] at hs2 hq ⊢
      have hx1 : exprs.length = regs.length := by rw [if_neg k2, if_pos k5] at hex; exact hex
      have hreg : vs.length = regs.length := by rw [hvl]; exact hx1
      have hr14 : regs.length ≤ 14 := by
        by_cases he : exprs = []
        · subst he; simp at hx1; omega
        · have := need_len exprs 0 he; omega
      obtain ⟨V2, g2, hF2, hm2⟩ := go_regs cx (obj := obj) regs vs 0 (i + n1) V1 st1 (S.bBack (L + 15) behind) (rising_vis hris) hreg (by omega) (fun k hk => by have := hF1.fr.ts k (by simpa using hk); simpa using this) hs2 hF1.drop
      have hs3 := hs2.right
      have elr : ∀ (regs : List Int) j, (S.bRegs regs j).length = regs.length := by
        intro regs
        induction regs with
        | nil => intro j; rfl
        | cons a r ih => intro j; rw [S.bRegs, List.length_cons, ih]; rfl
      rw [elr] at hs3
      have hd := go_back cx (obj := obj) (r := []) hL (by rw [List.append_nil]; exact hs3) hF2
      refine OutS_end cx (k := regs.length + (if behind = true then 5 else 3)) (Done_after g2 (fun a _ _ => by rw [hm2]) hd (Nat.le_refl _)) ?_
      rw [← Nat.add_assoc]
      exact hq
    rw [if_neg k5] at hs2 hq ⊢
    by_cases k6 : op = 6
    · rw [if_neg (by omega), if_neg (by omega), if_neg (by omega), if_neg (by omega), if_neg (by omega)]
      rw [if_pos k6] at hq
      exact OutS_one cx (k := 0) (go_refl _ _ _) hq hL hF1.drop (S.Kp.refl _ _ _)
    rw [if_neg k6] at hq
    have hx0 : op ≠ 10 → exprs.length = 1 := fun h => by rw [if_neg k2, if_neg k5, if_neg h] at hex; exact hex
    by_cases k7 : op = 7
    · rw [if_pos k7] at hs2 hq ⊢
      have h11 := hF1.val0 (by rw [hvl, hx0 (by omega)]; decide)
      have g := go_out cx.ok hs2.lo hs2.lt (V := V1) hs2.head (by decide)
      rw [h11] at g
      exact OutS_one cx g hq hL ⟨⟨hF1.mt.vis, hF1.mt.mem, hF1.mt.inp, by show V1.out ++ _ = st1.out ++ _; rw [hF1.mt.out]⟩, hF1.sp, hF1.fr.lk, hF1.fr.env, fun k hk => by simp at hk⟩ (S.Kp.refl _ _ _)
    rw [if_neg k7] at hs2 hq ⊢
    by_cases k8 : op = 8
    · rw [if_pos k8] at hs2 hq ⊢
      have h11 := hF1.val0 (by rw [hvl, hx0 (by omega)]; decide)
      have g := go_halt cx.ok hs2.lo hs2.lt (V := V1) hs2.head (by decide)
      rw [h11] at g
      exact OutS_end cx (k := 1) (o := .halt (vs.getD 0 0) st1) ⟨V1, g, hF1.mt⟩ hq
    rw [if_neg k8] at hs2 hq ⊢
    by_cases k9 : op = 9
    · rw [if_pos k9] at hs2 hq hnum ⊢
      have h11 := hF1.val0 (by rw [hvl, hx0 (by omega)]; decide)
      have hh := vis_hi hnum
      have g := go_bMove cx (V := V1) hs2 (by omega) (by omega) (by decide)
      rw [h11] at g
      refine OutS_one cx g hq hL ⟨⟨fun k hk => ?_, hF1.mt.mem, hF1.mt.inp, hF1.mt.out⟩, by rw [vset_other _ _ (by omega)]; exact hF1.sp, hF1.fr.lk, hF1.fr.env, fun k hk => by simp at hk⟩ (S.Kp.refl _ _ _)
      show (if k = n then _ else V1.reg k) = if k = n then _ else st1.reg k
      split
      · rfl
      · exact hF1.mt.vis k hk
    rw [if_neg k9] at hs2 hq ⊢
    have hlo := cx.lo
    have htp := cx.top
    have hdp := cx.dep0
    have hsz2 := cx.ok.size2
    have hhs := cx.ok.hisz
    have hl0 := cx.ok.lo0
    have hpop : S.u32m (V1.reg 28 + -(L + 15)) = base := by rw [hsp]; unfold S.u32m; omega
    by_cases k10 : op = 10
    · rw [if_pos k10] at hs2 hq ⊢
      have hlab : S.labB name = true := by
        have : S.namedS op = true := by unfold S.namedS; rw [decide_eq_true_eq]; exact k10
        rw [this] at hlb
        simpa using hlb
      have g1 := go_addi cx.ok hs2.lo hs2.lt (V := V1) (d := 28) (a := 28) (n := -(L + 15)) hs2.head (by decide) (by decide) (by decide)
      rw [hpop] at g1
      have hh : I.xs[i + n1 + 1]? = some ⟨4, ⟨0, 0, 0, 0, 0⟩, name, 0⟩ := by
        rw [hs2.tail.head]
        show some (⟨4, ⟨0, 0, 0, 0, 0⟩, S.owned obj name, 0⟩ : S.Item) = _
        rw [owned_no obj hlab]
      have g2 := go_jump0 cx.ok hs2.tail.lo hs2.tail.lt (V := V1.set 28 base) hh
      exact OutS_end cx (k := 4) (o := .left (I.lab name) st1) ⟨_, g1.trans g2, hF1.mt.hid (by decide) _, vset_same _ _ _, fun _ _ _ => rfl⟩ hq
    rw [if_neg k10] at hs2 hq ⊢
    by_cases k11 : op = 11
    · rw [if_pos k11] at hs2 hq ⊢
      have h11 := hF1.val0 (by rw [hvl, hx0 (by omega)]; decide)
      have g1 := go_addi cx.ok hs2.lo hs2.lt (V := V1) (d := 28) (a := 28) (n := -(L + 15)) hs2.head (by decide) (by decide) (by decide)
      rw [hpop] at g1
      have g2 : S.Go I (V1.set 28 base) (I.adr (i + n1 + 1)) 1 (V1.set 28 base) (vs.getD 0 0) := go_if fun m hm => by
        have g := go_jalr cx.ok hs2.tail.lo hs2.tail.lt (V := V1.set 28 base) (a := 11) (n := 0) hs2.tail.head (by decide)
        have hb := hm.rbd (j := 11) (by decide) (by decide) (by decide)
        rw [vset_other _ _ (by decide), h11] at hb
        have e : S.u32m ((V1.set 28 base).reg 11 + 0) = vs.getD 0 0 := by rw [vset_other _ _ (by decide), h11]; unfold S.u32m; omega
        rw [e] at g
        exact g
      exact OutS_end cx (k := 2) (o := .left (vs.getD 0 0) st1) ⟨_, g1.trans g2, hF1.mt.hid (by decide) _, vset_same _ _ _, fun _ _ _ => rfl⟩ hq
    rw [if_neg k11] at hq
    exact absurd hq id
theorem sound_Ss : ∀ (r : List S.BS) (depth : Nat) (l : Int) (env : List Int) (V st : S.Vw) (i c : Nat) (Q : List Int → S.Vw → Nat → Prop) (R : S.BO → Nat → Prop), (env.length : Int) = L → S.chkSs L r depth = 0 → S.wpSs I dep lk behind r env st c Q R →
    S.Seg I obj i (S.bStmts (L + 15) L behind r l).1 → S.Fm I V st base lk env [] → S.OutS I V (I.adr i) (I.adr (i + (S.bStmts (L + 15) L behind r l).1.length)) c L base lk behind Q R
  | [], depth, l, env, V, st, i, c, Q, R, hL, hc, hw, hs, hV => by
    rw [S.wpSs] at hw
    rw [S.bStmts]
    exact OutS_one cx (k := 0) (b := I.adr i) (go_refl _ _ _) hw hL hV (S.Kp.refl _ _ _)
  | s :: r, depth, l, env, V, st, i, c, Q, R, hL, hc, hw, hs, hV => by
    rw [S.chkSs] at hc
    have hb : S.chkS L s depth = 0 ∧ S.chkSs L r depth = 0 := by
      by_cases h : S.chkS L s depth ≠ 0
      · rw [if_pos h] at hc; exact absurd hc h
      · rw [if_neg h] at hc; exact ⟨by simpa using h, hc⟩
    rw [S.wpSs] at hw
    rw [S.bStmts] at hs ⊢
    simp only at hs ⊢
    have h1 := sound_S s depth l env V st i c _ R hL hb.1 hw hs.left hV
    refine OutS_then h1 fun env1 st1 c1 V1 hc1 hq1 hL1 hF1 => ?_
    have h2 := sound_Ss r depth (S.bStmt (L + 15) L behind s l).2 env1 V1 st1 (i + (S.bStmt (L + 15) L behind s l).1.length) c1 Q R hL1 hb.2 hq1 hs.right hF1
    rw [List.length_append, ← Nat.add_assoc]
    exact h2
end
end

end Go.Proofs.YtlldagdhlfpihaaGreatDoor
