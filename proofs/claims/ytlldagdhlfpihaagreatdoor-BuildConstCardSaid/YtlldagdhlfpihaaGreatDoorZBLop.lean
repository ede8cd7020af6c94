/- BStt, BLop: joined.  Walk of the coder's loops. -/
import Derived.Test.YtlldagdhlfpihaaGreatDoorZBXpr
section
set_option linter.unusedVariables false
set_option linter.unusedSimpArgs false
set_option linter.unusedSectionVars false
namespace Go.Proofs.YtlldagdhlfpihaaGreatDoor
open Go.RowKit

theorem bStmts_append (fr L : Int) (bh : Bool) (m : List S.BS) : ∀ (l : List S.BS) (i : Int), S.bStmts fr L bh (l ++ m) i = ((S.bStmts fr L bh l i).1 ++ (S.bStmts fr L bh m (S.bStmts fr L bh l i).2).1, (S.bStmts fr L bh m (S.bStmts fr L bh l i).2).2)
  | [], i => by simp [S.bStmts]
  | x :: r, i => by
    rw [List.cons_append, S.bStmts, bStmts_append fr L bh m r, S.bStmts]
    simp [List.append_assoc]
theorem bStmts_snoc (fr L : Int) (bh : Bool) (s : S.BS) (l : List S.BS) (i : Int) : S.bStmts fr L bh (l ++ [s]) i = ((S.bStmts fr L bh l i).1 ++ (S.bStmt fr L bh s (S.bStmts fr L bh l i).2).1, (S.bStmt fr L bh s (S.bStmts fr L bh l i).2).2) := by
  rw [bStmts_append]
  simp [S.bStmts]
theorem bStmts_take (fr L : Int) (bh : Bool) (l : List S.BS) (i : Int) (k : Nat) : (S.bStmts fr L bh (l.take k) i).1.length ≤ (S.bStmts fr L bh l i).1.length := by
  have := bStmts_append fr L bh (l.drop k) (l.take k) i
  rw [List.take_append_drop] at this
  rw [this]
  simp
mutual
theorem bStmt_lab (fr L : Int) (bh : Bool) : ∀ (s : S.BS) (l : Int), l ≤ (S.bStmt fr L bh s l).2 ∧ (S.bStmt fr L bh s l).2 ≤ l + (S.bStmt fr L bh s l).1.length
  | .mk op n nm exprs regs body els, l => by
    have h1 := bStmts_lab fr L bh body (l + 2)
    have h2 := bStmts_lab fr L bh els (S.bStmts fr L bh body (l + 2)).2
    rw [S.bStmt]
    split
    · simp only [List.length_append, List.length_cons, List.length_nil]
      omega
    · split
      · simp only [List.length_append, List.length_cons, List.length_nil]
        omega
      · simp only
        omega
theorem bStmts_lab (fr L : Int) (bh : Bool) : ∀ (m : List S.BS) (l : Int), l ≤ (S.bStmts fr L bh m l).2 ∧ (S.bStmts fr L bh m l).2 ≤ l + (S.bStmts fr L bh m l).1.length
  | [], l => by rw [S.bStmts]; simp
  | s :: r, l => by
    have h1 := bStmt_lab fr L bh s l
    have h2 := bStmts_lab fr L bh r (S.bStmt fr L bh s l).2
    rw [S.bStmts]
    simp only [List.length_append]
    omega
end
theorem chkSs_mem {L : Int} {d : Nat} : ∀ {l : List S.BS}, S.chkSs L l d = 0 → ∀ s ∈ l, S.chkS L s d = 0
  | x :: r, h, s, hs => by
    rw [S.chkSs] at h
    by_cases c : S.chkS L x d ≠ 0
    · rw [if_pos c] at h; exact absurd h c
    · rw [if_neg c] at h
      rcases List.mem_cons.1 hs with rfl | hs
      · simpa using c
      · exact chkSs_mem h s hs

abbrev bS (h : CH) (s : S.BS) (l : Int) : List S.Item × Int := S.bStmt h.fr h.r.locals h.r.behind s l
abbrev bSs (h : CH) (m : List S.BS) (l : Int) : List S.Item × Int := S.bStmts h.fr h.r.locals h.r.behind m l
/-- What a statement's coding leaves. -/
def SPost (base p : Nat) (h : CH) (xs : List S.Item) (r : List S.Item × Int) (w : World) (e : Ending) (w' : World) : Prop := e = .returned (.tuple #[]) ∧ CAt base p h (xs ++ r.1) r.2 w' ∧ CK base w w'
/-- The coder adds statements up to a size. -/
def Stm (base p : Nat) (h : CH) (n : Nat) : Prop := ∀ (s : S.BS) (A1 A2 A3 A4 : Option Addr) (c1 c2 c3 c4 : Nat) (d : Nat) (xs : List S.Item) (lab : Int) (w : World), szS s ≤ n → S.chkS h.r.locals s d = 0 → CAt base p h xs lab w → base ≤ w.heap.size → SPart w base s A1 A2 A3 A4 → LVE w → 0 ≤ lab → lab + (bS h s lab).1.length + 10 ≤ 1000000000 →
  xs.length + (bS h s lab).1.length + 10 ≤ 100000000 →
  Calls Tryz.prog 75 #[.pointer (some ⟨p, 0, none⟩), .agg #[.int .i64 s.op, .int .i64 s.n, .string s.name, .slice A1 s.exprs.length c1, .slice A2 s.regs.length c2, .slice A3 s.body.length c3, .slice A4 s.els.length c4]] w (SPost base p h xs (bS h s lab) w)

/-- One statement of a body. -/
theorem body_round {base p n : Nat} {h : CH} (ih : Stm base p h n) (h3 : 3 ≤ base) {l : List S.BS} (hl : szSs l ≤ n) {d : Nat} (hok : S.chkSs h.r.locals l d = 0) {A : Option Addr} {W : World} (hA : SList W base A l) {k : Nat} {s : S.BS} (hs : l[k]? = some s) {zs : List S.Item} {l0 : Int}
    (hc : CAt base p h (zs ++ (bSs h (l.take k) l0).1) (bSs h (l.take k) l0).2 W) (hbw : base ≤ W.heap.size) (hL : LVE W) (h0 : 0 ≤ l0) (h1 : l0 + (bSs h l l0).1.length + 10 ≤ 1000000000) (hlen : zs.length + (bSs h l l0).1.length + 10 ≤ 100000000) :
    ∃ b off A1 c1 A2 c2 A3 c3 A4 c4 N1 N2 N3 N4 op en nm, A = some ⟨b, off, none⟩ ∧ b < base ∧ W.cell? ⟨b, off + k * 7, none⟩ = some (.int .i64 op) ∧ W.cell? ⟨b, off + k * 7 + 1, none⟩ = some (.int .i64 en) ∧ W.cell? ⟨b, off + k * 7 + 2, none⟩ = some (.string nm) ∧
      W.cell? ⟨b, off + k * 7 + 3, none⟩ = some (.slice A1 N1 c1) ∧ W.cell? ⟨b, off + k * 7 + 4, none⟩ = some (.slice A2 N2 c2) ∧ W.cell? ⟨b, off + k * 7 + 5, none⟩ = some (.slice A3 N3 c3) ∧ W.cell? ⟨b, off + k * 7 + 6, none⟩ = some (.slice A4 N4 c4) ∧
      ∀ W', Below W.heap.size W W' → Calls Tryz.prog 75 #[.pointer (some ⟨p, 0, none⟩), .agg #[.int .i64 op, .int .i64 en, .string nm, .slice A1 N1 c1, .slice A2 N2 c2, .slice A3 N3 c3, .slice A4 N4 c4]] W' fun e w' =>
        e = .returned (.tuple #[]) ∧ CAt base p h (zs ++ (bSs h (l.take (k + 1)) l0).1) (bSs h (l.take (k + 1)) l0).2 w' ∧ CK base W' w' := by
  obtain ⟨b, off, A1, c1, A2, c2, A3, c3, A4, c4, e0, e1, q0, q1, q2, q3, q4, q5, q6, hp⟩ := hA.at_ hs
  refine ⟨b, off, A1, c1, A2, c2, A3, c3, A4, c4, _, _, _, _, _, _, _, e0, e1, q0, q1, q2, q3, q4, q5, q6, fun W' hb => ?_⟩
  have hm := List.mem_of_getElem? hs
  have hsz := szS_mem hm
  have hlb : l0 ≤ (bSs h (l.take k) l0).2 ∧ (bSs h (l.take k) l0).2 ≤ l0 + (bSs h (l.take k) l0).1.length := bStmts_lab h.fr h.r.locals h.r.behind (l.take k) l0
  have htk : (bSs h (l.take (k + 1)) l0).1.length ≤ (bSs h l l0).1.length := bStmts_take h.fr h.r.locals h.r.behind l l0 (k + 1)
  have hsn : bSs h (l.take (k + 1)) l0 = ((bSs h (l.take k) l0).1 ++ (bS h s (bSs h (l.take k) l0).2).1, (bS h s (bSs h (l.take k) l0).2).2) := by
    show S.bStmts _ _ _ _ _ = _
    rw [take_one l hs, bStmts_snoc]
  have hln : (bSs h (l.take (k + 1)) l0).1.length = (bSs h (l.take k) l0).1.length + (bS h s (bSs h (l.take k) l0).2).1.length := by rw [hsn, List.length_append]
  refine (ih s A1 A2 A3 A4 c1 c2 c3 c4 d _ _ W' (by omega) (chkSs_mem hok s hm) (hc.keep hb) (Nat.le_trans hbw hb.size) (hp.below (hb.mono hbw)) (hL.keep hb (by omega)) (by omega) (by omega) (by rw [List.length_append]; omega)).mono ?_
  rintro e w' ⟨rfl, g1, g2⟩
  refine ⟨rfl, ?_, g2⟩
  rw [hsn, ← List.append_assoc]
  exact g1

/-- The function value of a coder's stmt. -/
abbrev stmtVal (p : Nat) : Value := .func (.func 75) #[.pointer (some ⟨p, 0, none⟩)] #[]

set_option maxRecDepth 100000 in
set_option maxHeartbeats 4000000 in
theorem c_either {base p n : Nat} {h : CH} (ih : Stm base p h n) (h3 : 3 ≤ base) (s : S.BS) (A1 A2 A3 A4 : Option Addr) (c1 c2 c3 c4 d : Nat) (zs : List S.Item) (lab : Int) (w : World) (hz1 : szSs s.body ≤ n) (hz2 : szSs s.els ≤ n) (hk1 : S.chkSs h.r.locals s.body d = 0) (hk2 : S.chkSs h.r.locals s.els d = 0) (hn : n ≤ 1000000)
    (H : CAt base p h zs lab w) (hbw : base ≤ w.heap.size) (hp : SPart w base s A1 A2 A3 A4) (hL : LVE w) (h0 : 0 ≤ lab)
    (ys : List S.Item) (hys : ys = [S.bU 11 (S.bLab (lab + 1))] ++ (bSs h s.body (lab + 2)).1 ++ [S.bJ 0 (S.bLab (lab + 2)), S.bL (S.bLab (lab + 1))] ++ (bSs h s.els (bSs h s.body (lab + 2)).2).1 ++ [S.bL (S.bLab (lab + 2))]) (hl : zs.length + ys.length + 10 ≤ 100000000) (h1 : lab + ys.length + 10 ≤ 1000000000) :
    Calls Tryz.prog 116 #[.pointer (some ⟨p, 0, none⟩), .agg #[.int .i64 s.op, .int .i64 s.n, .string s.name, .slice A1 s.exprs.length c1, .slice A2 s.regs.length c2, .slice A3 s.body.length c3, .slice A4 s.els.length c4], stmtVal p] w (SPost base p h zs (ys, (bSs h s.els (bSs h s.body (lab + 2)).2).2) w) := by
  have hle3 := len_szSs s.body
  have hle4 := len_szSs s.els
  have HB := Lib.hid hp.body
  have HE := Lib.hid hp.els
  obtain ⟨op, en, nm, N1, N2, hop⟩ : ∃ op en nm N1 N2, op = s.op ∧ en = s.n ∧ nm = s.name ∧ N1 = s.exprs.length ∧ N2 = s.regs.length := ⟨_, _, _, _, _, rfl, rfl, rfl, rfl, rfl⟩
  obtain ⟨o1, o2, o3, o4, o5⟩ := hop
  rw [← o1, ← o2, ← o3, ← o4, ← o5]
  clear o1 o2 o3 o4 o5 hp
  generalize s.body = B at *
  generalize s.els = E at *
  obtain ⟨N3, hN3⟩ : ∃ N, N = B.length := ⟨_, rfl⟩
  obtain ⟨N4, hN4⟩ : ∃ N, N = E.length := ⟨_, rfl⟩
  rw [← hN3] at hle3 ⊢
  rw [← hN4] at hle4 ⊢
  have HN3 := Lib.hid hN3
  have HN4 := Lib.hid hN4
  have hyl : ys.length = 1 + (bSs h B (lab + 2)).1.length + 2 + (bSs h E (bSs h B (lab + 2)).2).1.length + 1 := by
    rw [hys]
    simp only [List.length_append, List.length_cons, List.length_nil]
  rw [hyl] at hl h1
  have Hys := Lib.hid hys
  have hbX : Below w.heap.size w (w.alloc (.cells #[.int .i64 op, .int .i64 en, .string nm, .slice A1 N1 c1, .slice A2 N2 c2, .slice A3 N3 c3, .slice A4 N4 c4] 29)) := (Below.refl _ _).alloc (Nat.le_refl _) _
  have hrX := heap_alloc_new w (.cells #[.int .i64 op, .int .i64 en, .string nm, .slice A1 N1 c1, .slice A2 N2 c2, .slice A3 N3 c3, .slice A4 N4 c4] 29)
  have HbX := Lib.hid (CK.of hbX hbw)
  have H2 := Lib.hid (H.keep hbX)
  have HL := Lib.hid (hL.on hbX)
  have HRX := Lib.hid hrX
  clear hN3 hN4 hyl hys hbX hrX H hL
  go_enter Tryz.func116, Tryz.ntmps116
  go_upto_region 1 with fail
  generalize w.alloc (.cells #[.int .i64 op, .int .i64 en, .string nm, .slice A1 N1 c1, .slice A2 N2 c2, .slice A3 N3 c3, .slice A4 N4 c4] 29) = w2 at *
  have hs2 : base ≤ w2.heap.size := by have := HbX.out.size; omega
  go_wp2_with fail
  refine (c_fresh H2.out hs2 h3 HL.out ⟨h0, by omega⟩).mono ?_
  rintro e w3 ⟨rfl, g1, g2⟩
  have hs3 : base ≤ w3.heap.size := by have := g2.size; omega
  go_wp2_with fail
  refine (c_fresh g1 hs3 h3 (HL.out.keep g2.below h3) ⟨by omega, by omega⟩).mono ?_
  rintro e w4 ⟨rfl, g3, g4⟩
  have hs4 : base ≤ w4.heap.size := by have := g4.size; omega
  rw [show lab + 1 + 1 = lab + 2 from by omega] at g3 ⊢
  have Hc := Lib.hid (c_unless g3 hs4 (by omega) 11 (S.bLab (lab + 1)))
  generalize S.bLab (lab + 1) = l1 at *
  generalize S.bLab (lab + 2) = l2 at *
  go_wp2_with fail
  refine Hc.out.mono ?_
  rintro e w5 ⟨rfl, g5, g6⟩
  have hs5 : base ≤ w5.heap.size := by have := g6.size; omega
  have HK5 := Lib.hid (((g2.trans g4).trans g6))
  have HL5 := Lib.hid (HL.out.keep HK5.out.below h3)
  have Hr5 := Lib.hid (HK5.out.keep _ _ _ _ HRX.out (by decide) (by decide))
  have q5 : w5.cell? ⟨w.heap.size, 5, none⟩ = some (.slice A3 N3 c3) := by rw [Lib.cell_of_heap Hr5.out]; rfl
  have HC5 := Lib.hid g5
  have HB5 := Lib.hid (HB.out.below (HbX.out.trans HK5.out).below)
  have HE5 := Lib.hid (HE.out.below (HbX.out.trans HK5.out).below)
  clear g1 g2 g3 g4 g5 g6 Hc hs2 hs3 hs4 HL HRX HB HE H2
  have Ha1 := Lib.hid (show (zs ++ [S.bU 11 l1]).length = zs.length + 1 from by rw [List.length_append]; rfl)
  go_wp2_with fail
  go_loopw [22] (fun v22 wr => ∃ k : Nat, k ≤ N3 ∧ v22 = .int .i64 k ∧ Hid (CAt base p h (zs ++ [S.bU 11 l1] ++ (bSs h (B.take k) (lab + 2)).1) (bSs h (B.take k) (lab + 2)).2 wr) ∧ Hid (CK base w5 wr)) (fun v22 _ => N3 - (intOf v22).toNat)
  case atStart => exact ⟨0, by omega, rfl, Lib.hid (by simpa [S.bStmts] using HC5.out), Lib.hid (CK.refl _ _)⟩
  case round =>
    obtain ⟨k, hk, rfl, HC, HK⟩ := hrel
    obtain ⟨wo, hwo⟩ : ∃ wo, wo = wr := ⟨_, rfl⟩
    subst hwo
    have hso : base ≤ wo.heap.size := by have := HK.out.size; omega
    by_cases hlt : k < N3
    · obtain ⟨s1, hs1⟩ : ∃ s1, B[k]? = some s1 := ⟨_, List.getElem?_eq_getElem (by rw [← HN3.out]; exact hlt)⟩
      obtain ⟨b, off, A1', c1', A2', c2', A3', c3', A4', c4', M1, M2, M3, M4, op', en', nm', rfl, hbB, e0, e1, e2, e3, e4, e5, e6, hrec⟩ := body_round ih h3 hz1 hk1 (HB5.out.below HK.out.below) hs1 HC.out hso (HL5.out.keep HK.out.below h3) (by omega) (by omega) (by rw [Ha1.out]; omega)
      have hbr : b < wo.heap.size := by omega
      have hbY : Below wo.heap.size wo (wo.alloc (.cells #[.int .i64 op', .int .i64 en', .string nm', .slice A1' M1 c1', .slice A2' M2 c2', .slice A3' M3 c3', .slice A4' M4 c4'] 29)) := (Below.refl _ _).alloc (Nat.le_refl _) _
      have Hrec := Lib.hid (hrec _ hbY)
      have HbY := Lib.hid (CK.of hbY hso)
      clear hrec hbY hs1
      go_wp2_with fail
      refine Hrec.out.mono ?_
      rintro e w6 ⟨rfl, g1, g2⟩
      go_wp2_with fail
      go_roundw
      case rel => exact ⟨k + 1, by omega, by go_num, Lib.hid g1, Lib.hid (HK.out.trans (HbY.out.trans g2))⟩
      case measure => simp [intOf]; omega
    · have hkN : N3 = k := by omega
      subst hkN
      have ht : B.take N3 = B := by rw [HN3.out, List.take_length]
      rw [ht] at HC
      clear ht q5
      have hlb : lab + 2 ≤ (bSs h B (lab + 2)).2 ∧ (bSs h B (lab + 2)).2 ≤ lab + 2 + (bSs h B (lab + 2)).1.length := bStmts_lab h.fr h.r.locals h.r.behind B (lab + 2)
      generalize bSs h B (lab + 2) = RB at *
      have Hj := Lib.hid (c_jump HC.out hso (by rw [List.length_append, Ha1.out]; omega) 0 l2)
      go_wp2_with fail
      refine Hj.out.mono ?_
      rintro e w6 ⟨rfl, g1, g2⟩
      have hs6 : base ≤ w6.heap.size := by have := g2.size; omega
      have Hj2 := Lib.hid (c_label g1 hs6 (by rw [List.length_append, List.length_append, Ha1.out]; show _ + 1 ≤ _; omega) l1)
      go_wp2_with fail
      refine Hj2.out.mono ?_
      rintro e w7 ⟨rfl, g3, g4⟩
      have hs7 : base ≤ w7.heap.size := by have := g4.size; omega
      have HK7 := Lib.hid (HK5.out.trans (HK.out.trans (g2.trans g4)))
      have HK57 := Lib.hid (HK.out.trans (g2.trans g4))
      have HL7 := Lib.hid (HL5.out.keep HK57.out.below h3)
      have Hr7 := Lib.hid (HK57.out.keep _ _ _ _ Hr5.out (by decide) (by decide))
      have q6 : w7.cell? ⟨w.heap.size, 6, none⟩ = some (.slice A4 N4 c4) := by rw [Lib.cell_of_heap Hr7.out]; rfl
      have HC7 := Lib.hid g3
      have HE7 := Lib.hid (HE5.out.below HK57.out.below)
      have Ha2 := Lib.hid (show (zs ++ [S.bU 11 l1] ++ RB.1 ++ [S.bJ 0 l2] ++ [S.bL l1]).length = zs.length + 1 + RB.1.length + 2 from by simp only [List.length_append, List.length_cons, List.length_nil])
      clear g1 g2 g3 g4 Hj Hj2 hs6 HC HK HL5 Hr5 HB5 HE5 HK57 Ha1
      obtain ⟨zs2, hzs2⟩ : ∃ z, z = zs ++ [S.bU 11 l1] ++ RB.1 ++ [S.bJ 0 l2] ++ [S.bL l1] := ⟨_, rfl⟩
      rw [← hzs2] at HC7 Ha2
      have Hzs2 := Lib.hid hzs2
      clear hzs2
      go_wp2_with fail
      go_loopw [39] (fun v39 wr => ∃ k : Nat, k ≤ N4 ∧ v39 = .int .i64 k ∧ Hid (CAt base p h (zs2 ++ (bSs h (E.take k) RB.2).1) (bSs h (E.take k) RB.2).2 wr) ∧ Hid (CK base w7 wr)) (fun v39 _ => N4 - (intOf v39).toNat)
      case atStart => exact ⟨0, by omega, rfl, Lib.hid (by simpa [S.bStmts] using HC7.out), Lib.hid (CK.refl _ _)⟩
      case round =>
        obtain ⟨k, hk, rfl, HC, HK⟩ := hrel
        obtain ⟨wo2, hwo2⟩ : ∃ wo, wo = wr := ⟨_, rfl⟩
        subst hwo2
        have hso2 : base ≤ wo2.heap.size := by have := HK.out.size; omega
        by_cases hlt : k < N4
        · obtain ⟨s1, hs1⟩ : ∃ s1, E[k]? = some s1 := ⟨_, List.getElem?_eq_getElem (by rw [← HN4.out]; exact hlt)⟩
          obtain ⟨b, off, A1', c1', A2', c2', A3', c3', A4', c4', M1, M2, M3, M4, op', en', nm', rfl, hbB, e0, e1, e2, e3, e4, e5, e6, hrec⟩ := body_round ih h3 hz2 hk2 (HE7.out.below HK.out.below) hs1 HC.out hso2 (HL7.out.keep HK.out.below h3) (by omega) (by omega) (by rw [Ha2.out]; omega)
          have hbr : b < wo2.heap.size := by omega
          have hbY : Below wo2.heap.size wo2 (wo2.alloc (.cells #[.int .i64 op', .int .i64 en', .string nm', .slice A1' M1 c1', .slice A2' M2 c2', .slice A3' M3 c3', .slice A4' M4 c4'] 29)) := (Below.refl _ _).alloc (Nat.le_refl _) _
          have Hrec := Lib.hid (hrec _ hbY)
          have HbY := Lib.hid (CK.of hbY hso2)
          clear hrec hbY hs1
          go_wp2_with fail
          refine Hrec.out.mono ?_
          rintro e w8 ⟨rfl, g1, g2⟩
          go_wp2_with fail
          go_roundw
          case rel => exact ⟨k + 1, by omega, by go_num, Lib.hid g1, Lib.hid (HK.out.trans (HbY.out.trans g2))⟩
          case measure => simp [intOf]; omega
        · have hkN : N4 = k := by omega
          subst hkN
          have ht : E.take N4 = E := by rw [HN4.out, List.take_length]
          rw [ht] at HC
          clear ht q6
          generalize bSs h E RB.2 = RE' at *
          have Hj := Lib.hid (c_label HC.out hso2 (by rw [List.length_append, Ha2.out]; omega) l2)
          go_wp2_with fail
          refine Hj.out.mono ?_
          rintro e w9 ⟨rfl, g1, g2⟩
          go_wp2_with fail
          go_end0
          refine ⟨rfl, ?_, HbX.out.trans (HK7.out.trans (HK.out.trans g2))⟩
          rw [Hzs2.out] at g1
          show CAt base p h (zs ++ ys) _ w9
          rw [Hys.out]
          simpa [List.append_assoc] using g1

end Go.Proofs.YtlldagdhlfpihaaGreatDoor
end

section
set_option linter.unusedVariables false
set_option linter.unusedSimpArgs false
set_option linter.unusedSectionVars false
namespace Go.Proofs.YtlldagdhlfpihaaGreatDoor
open Go.RowKit

set_option maxRecDepth 100000 in
set_option maxHeartbeats 4000000 in
theorem c_loop {base p n : Nat} {h : CH} (hO : HOk h) (ih : Stm base p h n) (h3 : 3 ≤ base) (s : S.BS) (e0 : S.BE) (he0 : s.exprs = [e0]) (hf0 : S.formedE h.r.locals e0 = true) (hz0 : szE e0 ≤ 1000000) (A1 A2 A3 A4 : Option Addr) (c1 c2 c3 c4 d : Nat) (zs : List S.Item) (lab : Int) (w : World) (hz1 : szSs s.body ≤ n) (hk1 : S.chkSs h.r.locals s.body d = 0) (hn : n ≤ 1000000)
    (H : CAt base p h zs lab w) (hbw : base ≤ w.heap.size) (hp : SPart w base s A1 A2 A3 A4) (hL : LVE w) (h0 : 0 ≤ lab)
    (ys : List S.Item) (hys : ys = [S.bL (S.bLab (lab + 1))] ++ S.bExpr h.fr h.r.locals e0 0 ++ [S.bU 11 (S.bLab (lab + 2))] ++ (bSs h s.body (lab + 2)).1 ++ [S.bJ 0 (S.bLab (lab + 1)), S.bL (S.bLab (lab + 2))]) (hl : zs.length + ys.length + 10 ≤ 100000000) (h1 : lab + ys.length + 10 ≤ 1000000000) :
    Calls Tryz.prog 113 #[.pointer (some ⟨p, 0, none⟩), .agg #[.int .i64 s.op, .int .i64 s.n, .string s.name, .slice A1 s.exprs.length c1, .slice A2 s.regs.length c2, .slice A3 s.body.length c3, .slice A4 s.els.length c4], stmtVal p] w (SPost base p h zs (ys, (bSs h s.body (lab + 2)).2) w) := by
  have hle3 := len_szSs s.body
  have HB := Lib.hid hp.body
  have hE0 := hp.exprs
  rw [he0] at hE0 ⊢
  have HE := Lib.hid hE0
  obtain ⟨op, en, nm, N2, N4, hop⟩ : ∃ op en nm N2 N4, op = s.op ∧ en = s.n ∧ nm = s.name ∧ N2 = s.regs.length ∧ N4 = s.els.length := ⟨_, _, _, _, _, rfl, rfl, rfl, rfl, rfl⟩
  obtain ⟨o1, o2, o3, o4, o5⟩ := hop
  rw [← o1, ← o2, ← o3, ← o4, ← o5, show [e0].length = 1 from rfl]
  clear o1 o2 o3 o4 o5 hp he0 hE0
  generalize s.body = B at *
  obtain ⟨N3, hN3⟩ : ∃ N, N = B.length := ⟨_, rfl⟩
  rw [← hN3] at hle3 ⊢
  have HN3 := Lib.hid hN3
  have hyl : ys.length = 1 + (S.bExpr h.fr h.r.locals e0 0).length + 1 + (bSs h B (lab + 2)).1.length + 2 := by
    rw [hys]
    simp only [List.length_append, List.length_cons, List.length_nil]
  rw [hyl] at hl h1
  have Hys := Lib.hid hys
  have hbX : Below w.heap.size w (w.alloc (.cells #[.int .i64 op, .int .i64 en, .string nm, .slice A1 1 c1, .slice A2 N2 c2, .slice A3 N3 c3, .slice A4 N4 c4] 29)) := (Below.refl _ _).alloc (Nat.le_refl _) _
  have hrX := heap_alloc_new w (.cells #[.int .i64 op, .int .i64 en, .string nm, .slice A1 1 c1, .slice A2 N2 c2, .slice A3 N3 c3, .slice A4 N4 c4] 29)
  have HbX := Lib.hid (CK.of hbX hbw)
  have H2 := Lib.hid (H.keep hbX)
  have HL := Lib.hid (hL.on hbX)
  have HRX := Lib.hid hrX
  clear hN3 hyl hys hbX hrX H hL
  go_enter Tryz.func113, Tryz.ntmps113
  go_upto_region 1 with fail
  generalize w.alloc (.cells #[.int .i64 op, .int .i64 en, .string nm, .slice A1 1 c1, .slice A2 N2 c2, .slice A3 N3 c3, .slice A4 N4 c4] 29) = w2 at *
  have hs2 : base ≤ w2.heap.size := by have := HbX.out.size; omega
  go_wp2_with fail
  refine (c_fresh H2.out hs2 h3 HL.out ⟨h0, by omega⟩).mono ?_
  rintro e w3 ⟨rfl, g1, g2⟩
  have hs3 : base ≤ w3.heap.size := by have := g2.size; omega
  go_wp2_with fail
  refine (c_fresh g1 hs3 h3 (HL.out.keep g2.below h3) ⟨by omega, by omega⟩).mono ?_
  rintro e w4 ⟨rfl, g3, g4⟩
  have hs4 : base ≤ w4.heap.size := by have := g4.size; omega
  rw [show lab + 1 + 1 = lab + 2 from by omega] at g3 ⊢
  have Hc := Lib.hid (c_label g3 hs4 (by omega) (S.bLab (lab + 1)))
  generalize S.bLab (lab + 1) = l1 at *
  generalize S.bLab (lab + 2) = l2 at *
  go_wp2_with fail
  refine Hc.out.mono ?_
  rintro e w5 ⟨rfl, g5, g6⟩
  have hs5 : base ≤ w5.heap.size := by have := g6.size; omega
  have HK5 := Lib.hid (((g2.trans g4).trans g6))
  have HL5 := Lib.hid (HL.out.keep HK5.out.below h3)
  have Hr5 := Lib.hid (HK5.out.keep _ _ _ _ HRX.out (by decide) (by decide))
  have q3 : w5.cell? ⟨w.heap.size, 3, none⟩ = some (.slice A1 1 c1) := by rw [Lib.cell_of_heap Hr5.out]; rfl
  obtain ⟨b, off, A', c', rfl, hbB, k0, k1, k2, k3, k4, k5, k6⟩ := (HE.out.below (HbX.out.trans HK5.out).below).at_ (k := 0) (e := e0) rfl
  rw [Nat.zero_mul, Nat.add_zero] at k0 k1 k2 k3
  have hbr : b < w5.heap.size := by omega
  have Hx := Lib.hid (c_expr hO (szE e0) e0 A' c' 0 _ _ w5 (Nat.le_refl _) hf0 (by omega) g5 hs5 k6 k4 (by rw [List.length_append]; show _ + 1 + _ + 10 ≤ _; omega))
  have HB5 := Lib.hid (HB.out.below (HbX.out.trans HK5.out).below)
  have hxl : (S.bExpr h.fr h.r.locals e0 0).length = (S.bExpr h.fr h.r.locals e0 0).length := rfl
  generalize S.bExpr h.fr h.r.locals e0 0 = xe at *
  generalize e0.op = op0 at *
  generalize e0.n = en0 at *
  generalize e0.name = nm0 at *
  generalize e0.kids.length = kl0 at *
  clear g1 g2 g3 g4 g5 g6 Hc hs2 hs3 hs4 HL HRX HB HE H2 k4 k5 k6 hxl
  go_wp2_with fail
  refine Hx.out.mono ?_
  rintro e w6 ⟨rfl, g1, g2⟩
  have hs6 : base ≤ w6.heap.size := by have := g2.size; omega
  have Hc := Lib.hid (c_unless g1 hs6 (by simp only [List.length_append, List.length_cons, List.length_nil]; omega) 11 l2)
  go_wp2_with fail
  refine Hc.out.mono ?_
  rintro e w7 ⟨rfl, g3, g4⟩
  have hs7 : base ≤ w7.heap.size := by have := g4.size; omega
  have HK57 := Lib.hid (g2.trans g4)
  have HL7 := Lib.hid (HL5.out.keep HK57.out.below h3)
  have Hr7 := Lib.hid (HK57.out.keep _ _ _ _ Hr5.out (by decide) (by decide))
  have q5 : w7.cell? ⟨w.heap.size, 5, none⟩ = some (.slice A3 N3 c3) := by rw [Lib.cell_of_heap Hr7.out]; rfl
  have HC7 := Lib.hid g3
  have HB7 := Lib.hid (HB5.out.below HK57.out.below)
  have HK7 := Lib.hid (HK5.out.trans HK57.out)
  have Ha1 := Lib.hid (show (zs ++ [S.bL l1] ++ xe ++ [S.bU 11 l2]).length = zs.length + 1 + xe.length + 1 from by simp only [List.length_append, List.length_cons, List.length_nil])
  obtain ⟨zs2, hzs2⟩ : ∃ z, z = zs ++ [S.bL l1] ++ xe ++ [S.bU 11 l2] := ⟨_, rfl⟩
  rw [← hzs2] at HC7 Ha1
  have Hzs2 := Lib.hid hzs2
  clear hzs2 g1 g2 g3 g4 Hc Hx hs6 HB5 HL5 Hr5 HK57 q3 k0 k1 k2 k3
  go_wp2_with fail
  go_loopw [29] (fun v29 wr => ∃ k : Nat, k ≤ N3 ∧ v29 = .int .i64 k ∧ Hid (CAt base p h (zs2 ++ (bSs h (B.take k) (lab + 2)).1) (bSs h (B.take k) (lab + 2)).2 wr) ∧ Hid (CK base w7 wr)) (fun v29 _ => N3 - (intOf v29).toNat)
  case atStart => exact ⟨0, by omega, rfl, Lib.hid (by simpa [S.bStmts] using HC7.out), Lib.hid (CK.refl _ _)⟩
  case round =>
    obtain ⟨k, hk, rfl, HC, HK⟩ := hrel
    obtain ⟨wo, hwo⟩ : ∃ wo, wo = wr := ⟨_, rfl⟩
    subst hwo
    have hso : base ≤ wo.heap.size := by have := HK.out.size; omega
    by_cases hlt : k < N3
    · obtain ⟨s1, hs1⟩ : ∃ s1, B[k]? = some s1 := ⟨_, List.getElem?_eq_getElem (by rw [← HN3.out]; exact hlt)⟩
      obtain ⟨b', off', A1', c1', A2', c2', A3', c3', A4', c4', M1, M2, M3, M4, op', en', nm', rfl, hbB', e0, e1, e2, e3, e4, e5, e6, hrec⟩ := body_round ih h3 hz1 hk1 (HB7.out.below HK.out.below) hs1 HC.out hso (HL7.out.keep HK.out.below h3) (by omega) (by omega) (by rw [Ha1.out]; omega)
      have hbr' : b' < wo.heap.size := by omega
      have hbY : Below wo.heap.size wo (wo.alloc (.cells #[.int .i64 op', .int .i64 en', .string nm', .slice A1' M1 c1', .slice A2' M2 c2', .slice A3' M3 c3', .slice A4' M4 c4'] 29)) := (Below.refl _ _).alloc (Nat.le_refl _) _
      have Hrec := Lib.hid (hrec _ hbY)
      have HbY := Lib.hid (CK.of hbY hso)
      clear hrec hbY hs1
      go_wp2_with fail
      refine Hrec.out.mono ?_
      rintro e w8 ⟨rfl, g1, g2⟩
      go_wp2_with fail
      go_roundw
      case rel => exact ⟨k + 1, by omega, by go_num, Lib.hid g1, Lib.hid (HK.out.trans (HbY.out.trans g2))⟩
      case measure => simp [intOf]; omega
    · have hkN : N3 = k := by omega
      subst hkN
      have ht : B.take N3 = B := by rw [HN3.out, List.take_length]
      rw [ht] at HC
      clear ht q5
      generalize bSs h B (lab + 2) = RB at *
      have Hj := Lib.hid (c_jump HC.out hso (by rw [List.length_append, Ha1.out]; omega) 0 l1)
      go_wp2_with fail
      refine Hj.out.mono ?_
      rintro e w8 ⟨rfl, g1, g2⟩
      have hs8 : base ≤ w8.heap.size := by have := g2.size; omega
      have Hj2 := Lib.hid (c_label g1 hs8 (by rw [List.length_append, List.length_append, Ha1.out]; show _ + 1 ≤ _; omega) l2)
      go_wp2_with fail
      refine Hj2.out.mono ?_
      rintro e w9 ⟨rfl, g3, g4⟩
      go_wp2_with fail
      go_end0
      refine ⟨rfl, ?_, HbX.out.trans (HK7.out.trans (HK.out.trans (g2.trans g4)))⟩
      rw [Hzs2.out] at g3
      show CAt base p h (zs ++ ys) _ w9
      rw [Hys.out]
      simpa [List.append_assoc] using g3

end Go.Proofs.YtlldagdhlfpihaaGreatDoor
end
