/- The machine of pennantref02: walks of put, fall, do. -/
import Derived.Test.YtbgdomnalimjnaaMrefM
import Derived.Test.YtbgdomnalimjnaaMachP
import Derived.Test.YtbgdomnalimjnaaMachD
set_option linter.unusedVariables false
set_option linter.unusedSimpArgs false
set_option linter.unusedSectionVars false
namespace Go.Proofs.Ytbgdomnalimjnaa
open Go.RowKit

section
variable {w w' : World} {B p : Nat} {vm vo : Value} {A : Option Addr} {c : Nat} {m : S.Mach}

theorem ref2_put (d v : Int) (h : RAt w B p vm vo A c m) (h0 : 0 ≤ d) (h1 : d < 32) (hv : 0 ≤ v ∧ v ≤ 4294967295) : Calls Try.prog 81 #[.pointer (some ⟨p, 0, none⟩), .int .i64 d, .int .u32 v] w
    fun e w' => e = .returned (.tuple #[]) ∧ RAt w' B p vm vo A c (m.put d v) ∧ Only (· = p) w w' := by
  have hlt := h.lt
  by_cases hd : 0 < d
  · have hp := h.put hd h1 hv
    obtain ⟨k, rfl⟩ : ∃ k : Nat, d = k := ⟨d.toNat, by omega⟩
    have hk : k < 32 := by omega
    have hf := h.fz k
    have hc := h.reg hk
    have Hp := Lib.hid hp
    clear hp
    go_enter Try.func81, Try.ntmps81
    go_wp2_with fail
    refine bodyPost_end (v := .tuple #[]) (by simp [results, Try.results81, go_sem]) rfl ⟨rfl, ?_, ?_⟩
    · exact Hp.out
    · exact Only.setCell (F := (· = p)) _ rfl _
  · have hd0 : d = 0 := by omega
    subst hd0
    go_enter Try.func81, Try.ntmps81
    go_wp2_with fail
    refine bodyPost_end (v := .tuple #[]) (by simp [results, Try.results81, go_sem]) rfl ⟨rfl, ?_, Only.refl _ _⟩
    rw [S.Mach.put, if_pos rfl]
    exact h

theorem ref2_fall (t : Int) (h : RAt w B p vm vo A c m) : Calls Try.prog 51 #[.pointer (some ⟨p, 0, none⟩), .int .i64 t] w
    fun e w' => e = .returned (.tuple #[]) ∧ RAt w' B p vm vo A c (m.fell t) ∧ Only (· = p) w w' := by
  have hp := h.fell t
  have hf := h.fz 36
  have hf' := h.fz 38
  obtain ⟨_, _, _, _, c36, _, c38, _⟩ := h.cells
  have Hp := Lib.hid hp
  have hlt := h.lt
  clear hp
  go_enter Try.func51, Try.ntmps51
  go_wp2_with fail
  refine bodyPost_end (v := .tuple #[]) (by simp [results, Try.results51, go_sem]) rfl ⟨rfl, Hp.out, ?_⟩
  exact (Only.setCell (F := (· = p)) _ rfl _).trans (Only.setCell (F := (· = p)) _ rfl _) (fun _ _ h => h)

/-- What the document's do makes of a machine. -/
def rdo (m : S.Mach) (i : S.Inst) : S.Mach := if (m.act i).2.2 ≠ 0 then m.fell (m.act i).2.2 else { (m.act i).1 with place := (m.act i).2.1 }
def RRun (w : World) (B p : Nat) (vm vo : Value) (A : Option Addr) (m' : S.Mach) (w' : World) : Prop :=
  ∃ vo' A' c', RAt w' B p vm vo' A' c' m' ∧ Only (MFoot p vm vo) w w' ∧ (vo'.ownBlock = vo.ownBlock ∨ ∃ k, w.heap.size ≤ k ∧ vo'.ownBlock = some k) ∧ (∀ b o s, A' = some ⟨b, o, s⟩ → ∃ o' s', A = some ⟨b, o', s'⟩)
def RDoPost (w : World) (B p : Nat) (vm vo : Value) (A : Option Addr) (m' : S.Mach) (e : Ending) (w' : World) : Prop := e = .returned (.tuple #[]) ∧ RRun w B p vm vo A m' w'
theorem rdo_trap {i : S.Inst} {t : Int} {m1 : S.Mach} {tt : Int} (h : m.act i = (m1, tt, t)) (ht : t ≠ 0) : rdo m i = m.fell t := by unfold rdo; rw [h]; simp only; rw [if_pos ht]
theorem rdo_goes {i : S.Inst} {m1 : S.Mach} {tt : Int} (h : m.act i = (m1, tt, 0)) : rdo m i = { m1 with place := tt } := by unfold rdo; rw [h]; simp
/-- The end of a way. -/
theorem rdo_end {m' : S.Mach} (h : RAt w' B p vm vo A c m') (ho : Only (MFoot p vm vo) w w') : RRun w B p vm vo A m' w' := ⟨vo, A, c, h, ho, .inl rfl, fun b o s e => ⟨o, s, e⟩⟩

set_option maxRecDepth 100000 in
set_option maxHeartbeats 8000000 in
theorem ref2_do (op d a b imm : Int) (h : RAt w B p vm vo A c m) (ho : 1 ≤ op ∧ op ≤ 36) (hd : 0 ≤ d ∧ d < 32) (ha : 0 ≤ a ∧ a < 32) (hb : 0 ≤ b ∧ b < 32) (hol : m.out.length ≤ 1000000) (him : -1000000000 ≤ imm ∧ imm ≤ 1000000000) :
    Calls Try.prog 53 #[.pointer (some ⟨p, 0, none⟩), .agg #[.int .i64 op, .int .i64 d, .int .i64 a, .int .i64 b, .int .i64 imm]] w (RDoPost w B p vm vo A (rdo m ⟨op, d, a, b, imm⟩)) := by
  obtain ⟨na, rfl⟩ : ∃ k : Nat, a = k := ⟨a.toNat, by omega⟩
  obtain ⟨nb, rfl⟩ : ∃ k : Nat, b = k := ⟨b.toNat, by omega⟩
  have hna : na < 32 := by omega
  have hnb : nb < 32 := by omega
  go_enter Try.func53, Try.ntmps53
  go_upto_region 1 with fail
  obtain ⟨x1, x2, x3⟩ := one_allocM w #[.int .i64 op, .int .i64 d, .int .i64 na, .int .i64 nb, .int .i64 imm] 39
  generalize w.alloc (.cells #[.int .i64 op, .int .i64 d, .int .i64 na, .int .i64 nb, .int .i64 imm] 39) = wb at *
  have q0 : wb.cell? ⟨w.heap.size, 0, none⟩ = some (.int .i64 op) := by rw [blk_cellM x1]; rfl
  have q1 : wb.cell? ⟨w.heap.size, 1, none⟩ = some (.int .i64 d) := by rw [blk_cellM x1]; rfl
  have q2 : wb.cell? ⟨w.heap.size, 2, none⟩ = some (.int .i64 na) := by rw [blk_cellM x1]; rfl
  have q3 : wb.cell? ⟨w.heap.size, 3, none⟩ = some (.int .i64 nb) := by rw [blk_cellM x1]; rfl
  have q4 : wb.cell? ⟨w.heap.size, 4, none⟩ = some (.int .i64 imm) := by rw [blk_cellM x1]; rfl
  have hM := h.below x2
  have gb : w.heap.size < wb.heap.size := by omega
  have hO : Only (MFoot p vm vo) w wb := Only.of_below x2
  have hnf : ¬ MFoot p vm vo w.heap.size := fun hf => by have := (h.foot_lt hf).2; omega
  have r1 := hM.reg hna
  have r2 := hM.reg hnb
  have hav := h.ok.word na
  have hbv := h.ok.word nb
  have hpl := h.ok.place0
  have hpl' := h.ok.place1
  have hpw := hM.lt
  obtain ⟨_, c33, _⟩ := hM.cells
  have Hrd : Hid (m.rd na = m.reg.getD na 0 ∧ m.rd nb = m.reg.getD nb 0) := Lib.hid ⟨by simp [S.Mach.rd], by simp [S.Mach.rd]⟩
  clear x1 x2 x3
  generalize m.reg.getD na 0 = av at *
  generalize m.reg.getD nb 0 = bv at *
  obtain ⟨xa, rfl⟩ : ∃ k : Nat, av = k := ⟨av.toNat, by omega⟩
  obtain ⟨xb, rfl⟩ : ∃ k : Nat, bv = k := ⟨bv.toNat, by omega⟩
  have hxa : xa < 4294967296 := by omega
  have hxb : xb < 4294967296 := by omega
  have hi63 : IntKind.i64.wrap (xa : Int) = xa := by rw [IntWalk.i64_in _ (by omega)]
  go_wp2_with fail
  go_quiet (fail)
  go_upto_region 2 with fail
  have q0a : (wb.drewN nq).cell? ⟨w.heap.size, 0, none⟩ = some (.int .i64 op) := q0
  have q1a : (wb.drewN nq).cell? ⟨w.heap.size, 1, none⟩ = some (.int .i64 d) := q1
  have q3a : (wb.drewN nq).cell? ⟨w.heap.size, 3, none⟩ = some (.int .i64 nb) := q3
  have q4a : (wb.drewN nq).cell? ⟨w.heap.size, 4, none⟩ = some (.int .i64 imm) := q4
  have r2a : (wb.drewN nq).cell? ⟨p, nb, none⟩ = some (.int .u32 xb) := r2
  have c33a : (wb.drewN nq).cell? ⟨p, 33, none⟩ = some (.int .u32 m.place) := c33
  have hpwa : p < (wb.drewN nq).heap.size := hpw
  have gba : w.heap.size < (wb.drewN nq).heap.size := gb
  have hMa := hM.drewN nq
  have hOa := hO.trans (Only.drewN (F := MFoot p vm vo) wb nq) (fun _ _ h => h)
  generalize wb.drewN nq = wc at *
  clear q0 q1 q3 q4 r2 c33 hpw gb hM hO
  go_quiet (fail)
  go_upto_region 3 with fail
  have q0b : (wc.drewN nq).cell? ⟨w.heap.size, 0, none⟩ = some (.int .i64 op) := q0a
  have q1b : (wc.drewN nq).cell? ⟨w.heap.size, 1, none⟩ = some (.int .i64 d) := q1a
  have q3b : (wc.drewN nq).cell? ⟨w.heap.size, 3, none⟩ = some (.int .i64 nb) := q3a
  have q4b : (wc.drewN nq).cell? ⟨w.heap.size, 4, none⟩ = some (.int .i64 imm) := q4a
  have r2b : (wc.drewN nq).cell? ⟨p, nb, none⟩ = some (.int .u32 xb) := r2a
  have c33b : (wc.drewN nq).cell? ⟨p, 33, none⟩ = some (.int .u32 m.place) := c33a
  have hpwb : p < (wc.drewN nq).heap.size := hpwa
  have gbb : w.heap.size < (wc.drewN nq).heap.size := gba
  have hMb := hMa.drewN nq
  have hOb := hOa.trans (Only.drewN (F := MFoot p vm vo) wc nq) (fun _ _ h => h)
  generalize wc.drewN nq = w1 at *
  clear q0a q1a q3a q4a r2a c33a hpwa gba hMa hOa
  obtain ⟨xi, hxi⟩ : ∃ k : Nat, S.u32 imm = k := ⟨(S.u32 imm).toNat, by have := u32_bd imm; omega⟩
  have hib : xi < 4294967296 := by have := u32_bd imm; omega
  have hnx := u32_bd (m.place + 1)
  have hat := u32_bd ((xa : Int) + xi)
  have Hxi := Lib.hid hxi
  go_wp2_with fail
  refine (ref2_word _ _ (by omega) (by omega)).mono ?_
  rintro e w2 ⟨rfl, rfl⟩
  rw [hxi]
  go_wp2_with fail
  refine (ref2_word _ _ (by omega) (by omega)).mono ?_
  rintro e w2 ⟨rfl, rfl⟩
  go_wp2_with fail
  refine (ref2_word _ _ (by omega) (by omega)).mono ?_
  rintro e w2 ⟨rfl, rfl⟩
  go_upto_region 7 with fail
  have hcase : (op ≤ 14 ∧ xb = 0 ∧ (op = 5 ∨ op = 6)) ∨ (op ≤ 14 ∧ ¬ (xb = 0 ∧ (op = 5 ∨ op = 6))) ∨ (15 ≤ op ∧ op ≤ 22) ∨ op = 23 ∨ op = 24 ∨ op = 25 ∨ (26 ≤ op ∧ op ≤ 31) ∨ op = 32 ∨ op = 33 ∨ op = 34 ∨ op = 35 ∨ op = 36 := by omega
  rcases hcase with ⟨k1, k2, k3⟩ | ⟨k1, k2⟩ | ⟨k1, k2⟩ | k1 | k1 | k1 | ⟨k1, k2⟩ | k1 | k1 | k1 | k1 | k1
  · subst k2
    have Hact := Lib.hid (show m.act ⟨op, d, na, nb, imm⟩ = (m, 0, 4) by
      simp only [S.Mach.act, Hrd.out.2, if_pos k1]; rw [if_pos ⟨rfl, k3⟩])
    have Hr := Lib.hid (rdo_trap Hact.out (by decide))
    rcases k3 with rfl | rfl
    all_goals
      go_wp2_with fail
      refine (ref2_fall 4 hMb).mono ?_
      rintro e w3 ⟨rfl, hM3, hO3⟩
      go_wp2_with fail
      refine bodyPost_ret (v := .tuple #[]) (by simp [results, Try.results53, go_sem]) rfl ⟨rfl, ?_⟩
      rw [Hr.out]
      exact rdo_end hM3 ((hOb).trans (foot_p hO3) (fun _ _ h => h))
  · have hk2 : ¬ ((xb : Int) = 0 ∧ (op = 5 ∨ op = 6)) := fun q => k2 ⟨by omega, q.2⟩
    have Hact := Lib.hid (show m.act ⟨op, d, na, nb, imm⟩ = (m.put d (S.alu op xa xb), (S.u32 (m.place + 1)), 0) by
      simp only [S.Mach.act, Hrd.out.1, Hrd.out.2, if_pos k1, if_neg hk2])
    have Hr := Lib.hid (rdo_goes Hact.out)
    have hab := alu_bd (op := op) (a := (xa : Int)) (b := (xb : Int)) (by omega) (by omega) (by omega) (by omega) hk2
    have K2 := Lib.hid k2
    have hw5 : (xb ≠ 0) ∨ (xb = 0 ∧ op ≠ 5 ∧ op ≠ 6) := by omega
    clear k2 hk2
    rcases hw5 with z0 | ⟨rfl, z5, z6⟩
    · have zz : ((xb : Int) == 0) = false := by rw [beq_eq_false_iff_ne]; omega
      go_upto_region 10 with fail
      have hE := ext_cells w1
      refine wp_region_ext_plan 8 1 [0, 1, 2, 3, 4, 5, 6, 7] (by kernel_rfl) (by kernel_rfl) (fun _ _ _ _ _ h => h) ?_
      repeat (first
        | (refine plan_cons rfl ?_; go_big_quiet_step ((go_at_call 82; exact ext_of_same (ref2_reckon _ _ _ _ hxa (by omega) ⟨ho.1, k1⟩ K2.out)))))
      refine wpQuiet_nil ?_
      rintro _ ⟨⟨w4, hb4⟩, rfl⟩
      simp only [List.drop_succ_cons, List.drop_zero]
      clear hE
      have hM4 := hMb.below hb4
      have hO4 := hOb.trans (Only.of_below (F := MFoot p vm vo) hb4) (fun _ _ h => h)
      go_wp2_with fail
      refine (ref2_put _ _ hM4 hd.1 hd.2 hab).mono ?_
      rintro e w3 ⟨rfl, hM3, hO3⟩
      have hW := hM3.went hnx
      have f33 := hM3.fz 33
      obtain ⟨_, e33, _⟩ := hM3.cells
      have hp3 := hM3.lt
      have HW := Lib.hid hW
      clear hW
      go_wp2_with fail
      refine bodyPost_end (v := .tuple #[]) (by simp [results, Try.results53, go_sem]) rfl ⟨rfl, ?_⟩
      rw [Hr.out]
      exact rdo_end HW.out ((hO4.trans (foot_p hO3) (fun _ _ h => h)).trans (Only.setCell (F := MFoot p vm vo) _ (.inl rfl) _) (fun _ _ h => h))
    · have z5' := int_bneM z5
      have z6' := int_bneM z6
      go_upto_region 10 with fail
      have hE := ext_cells w1
      refine wp_region_ext_plan 8 1 [0, 1, 2, 3, 4, 5, 6, 7] (by kernel_rfl) (by kernel_rfl) (fun _ _ _ _ _ h => h) ?_
      repeat (first
        | (refine plan_cons rfl ?_; go_big_quiet_step ((go_at_call 82; exact ext_of_same (ref2_reckon _ _ _ _ hxa (by omega) ⟨ho.1, k1⟩ K2.out)))))
      refine wpQuiet_nil ?_
      rintro _ ⟨⟨w4, hb4⟩, rfl⟩
      simp only [List.drop_succ_cons, List.drop_zero]
      clear hE
      have hM4 := hMb.below hb4
      have hO4 := hOb.trans (Only.of_below (F := MFoot p vm vo) hb4) (fun _ _ h => h)
      go_wp2_with fail
      refine (ref2_put _ _ hM4 hd.1 hd.2 hab).mono ?_
      rintro e w3 ⟨rfl, hM3, hO3⟩
      have hW := hM3.went hnx
      have f33 := hM3.fz 33
      obtain ⟨_, e33, _⟩ := hM3.cells
      have hp3 := hM3.lt
      have HW := Lib.hid hW
      clear hW
      go_wp2_with fail
      refine bodyPost_end (v := .tuple #[]) (by simp [results, Try.results53, go_sem]) rfl ⟨rfl, ?_⟩
      rw [Hr.out]
      exact rdo_end HW.out ((hO4.trans (foot_p hO3) (fun _ _ h => h)).trans (Only.setCell (F := MFoot p vm vo) _ (.inl rfl) _) (fun _ _ h => h))
  · have n14 : ¬ op ≤ 14 := by omega
    have Hact := Lib.hid (show m.act ⟨op, d, na, nb, imm⟩ = (m.put d (S.alu (S.like op) xa xi), (S.u32 (m.place + 1)), 0) by
      simp only [S.Mach.act, Hrd.out.1, Hxi.out, if_neg n14, if_pos k2])
    have Hr := Lib.hid (rdo_goes Hact.out)
    have hlk : 1 ≤ S.like op ∧ S.like op ≤ 14 ∧ S.like op ≠ 5 ∧ S.like op ≠ 6 := by unfold S.like; split <;> omega
    have hab := alu_bd (op := S.like op) (a := (xa : Int)) (b := (xi : Int)) (by omega) (by omega) (by omega) (by omega) (by omega)
    go_upto_region 12 with fail
    have hE := ext_cells w1
    refine wp_region_ext_plan 9 1 [0, 1, 2, 3, 4, 5, 6, 7, 8] (by kernel_rfl) (by kernel_rfl) (fun _ _ _ _ _ h => h) ?_
    repeat (first
      | (refine plan_cons rfl ?_; go_big_quiet_step ((first | (go_at_call 83; exact ext_of (ref2_like _ _ ⟨k1, k2⟩)) | (go_at_call 82; exact ext_of_same (ref2_reckon _ _ _ _ hxa hib ⟨hlk.1, hlk.2.1⟩ (by omega)))))))
    refine wpQuiet_nil ?_
    rintro _ ⟨⟨w4, hb4⟩, rfl⟩
    simp only [List.drop_succ_cons, List.drop_zero]
    clear hE
    have hM4 := hMb.below hb4
    have hO4 := hOb.trans (Only.of_below (F := MFoot p vm vo) hb4) (fun _ _ h => h)
    go_wp2_with fail
    refine (ref2_put _ _ hM4 hd.1 hd.2 hab).mono ?_
    rintro e w3 ⟨rfl, hM3, hO3⟩
    have hW := hM3.went hnx
    have f33 := hM3.fz 33
    obtain ⟨_, e33, _⟩ := hM3.cells
    have hp3 := hM3.lt
    have HW := Lib.hid hW
    clear hW
    go_wp2_with fail
    refine bodyPost_end (v := .tuple #[]) (by simp [results, Try.results53, go_sem]) rfl ⟨rfl, ?_⟩
    rw [Hr.out]
    exact rdo_end HW.out ((hO4.trans (foot_p hO3) (fun _ _ h => h)).trans (Only.setCell (F := MFoot p vm vo) _ (.inl rfl) _) (fun _ _ h => h))
  · subst k1
    have Hact := Lib.hid (show m.act ⟨23, d, na, nb, imm⟩ = (m.put d (S.u32 ((xi : Int) * 65536)), (S.u32 (m.place + 1)), 0) by
      simp [S.Mach.act, Hxi.out])
    have Hr := Lib.hid (rdo_goes Hact.out)
    go_upto_region 14 with fail
    have hE := ext_cells w1
    refine wp_region_ext_plan 7 1 [0, 1, 2, 3, 4, 5, 6] (by kernel_rfl) (by kernel_rfl) (fun _ _ _ _ _ h => h) ?_
    repeat (first
      | (refine plan_cons rfl ?_; go_big_quiet_step ((go_at_call 80; exact ext_of_same (ref2_word _ _ (by omega) (by omega))))))
    refine wpQuiet_nil ?_
    rintro _ ⟨⟨w4, hb4⟩, rfl⟩
    simp only [List.drop_succ_cons, List.drop_zero]
    clear hE
    have hM4 := hMb.below hb4
    have hO4 := hOb.trans (Only.of_below (F := MFoot p vm vo) hb4) (fun _ _ h => h)
    go_wp2_with fail
    refine (ref2_put _ _ hM4 hd.1 hd.2 (u32_bd _)).mono ?_
    rintro e w3 ⟨rfl, hM3, hO3⟩
    have hW := hM3.went hnx
    have f33 := hM3.fz 33
    obtain ⟨_, e33, _⟩ := hM3.cells
    have hp3 := hM3.lt
    have HW := Lib.hid hW
    clear hW
    go_wp2_with fail
    refine bodyPost_end (v := .tuple #[]) (by simp [results, Try.results53, go_sem]) rfl ⟨rfl, ?_⟩
    rw [Hr.out]
    exact rdo_end HW.out ((hO4.trans (foot_p hO3) (fun _ _ h => h)).trans (Only.setCell (F := MFoot p vm vo) _ (.inl rfl) _) (fun _ _ h => h))
  · subst k1
    obtain ⟨g, cap, hvm, hg, hmc, hfz⟩ := hMb.memv
    obtain ⟨c32, _⟩ := hMb.cells
    rw [hvm] at c32
    have Hvm := Lib.hid hvm
    have Hmc := Lib.hid hmc
    have hl0 := h.low0
    clear hvm hmc
    by_cases hin : (S.u32 ((xa : Int) + xi)) < m.mem.length
    · have Hact := Lib.hid (show m.act ⟨24, d, na, nb, imm⟩ = (m.put d (m.mem.getD (S.u32 ((xa : Int) + xi)).toNat 0), (S.u32 (m.place + 1)), 0) by
        simp [S.Mach.act, Hrd.out.1, Hrd.out.2, Hxi.out, hin])
      have Hr := Lib.hid (rdo_goes Hact.out)
      obtain ⟨t, ht⟩ : ∃ t : Nat, (S.u32 ((xa : Int) + xi)) = t := ⟨(S.u32 ((xa : Int) + xi)).toNat, by omega⟩
      have htl : t < m.mem.length := by omega
      rw [ht, Int.toNat_natCast] at Hr
      have hnl : ¬ (m.mem.length : Int) ≤ t := by omega
      have hmt := Hmc.out t htl
      have hmw := h.ok.memw t
      have hft := hfz t
      clear Hact hin
      rw [ht]
      generalize m.mem.getD t 0 = mv at *
      go_upto_region 19 with fail
      have hE := ext_cells w1
      refine wp_region_ext_plan 10 1 [0, 1, 2, 3, 4, 5, 6, 7, 8, 9] (by kernel_rfl) (by kernel_rfl) (fun _ _ _ _ _ h => h) ?_
      repeat (first
        | (refine plan_cons rfl ?_; go_big_quiet_step (fail)))
      refine wpQuiet_nil ?_
      rintro _ ⟨⟨w4, hb4⟩, rfl⟩
      simp only [List.drop_succ_cons, List.drop_zero]
      clear hE
      have hM4 := hMb.below hb4
      have hO4 := hOb.trans (Only.of_below (F := MFoot p vm vo) hb4) (fun _ _ h => h)
      go_wp2_with fail
      refine (ref2_put _ _ hM4 hd.1 hd.2 hmw).mono ?_
      rintro e w3 ⟨rfl, hM3, hO3⟩
      have hW := hM3.went hnx
      have f33 := hM3.fz 33
      obtain ⟨_, e33, _⟩ := hM3.cells
      have hp3 := hM3.lt
      have HW := Lib.hid hW
      clear hW
      go_wp2_with fail
      refine bodyPost_end (v := .tuple #[]) (by simp [results, Try.results53, go_sem]) rfl ⟨rfl, ?_⟩
      rw [Hr.out]
      exact rdo_end HW.out ((hO4.trans (foot_p hO3) (fun _ _ h => h)).trans (Only.setCell (F := MFoot p vm vo) _ (.inl rfl) _) (fun _ _ h => h))
    · have Hact := Lib.hid (show m.act ⟨24, d, na, nb, imm⟩ = (m, 0, 2) by
        simp [S.Mach.act, Hrd.out.1, Hxi.out, hin])
      have Hr := Lib.hid (rdo_trap Hact.out (by decide))
      have hnl : (m.mem.length : Int) ≤ (S.u32 ((xa : Int) + xi)) := by omega
      go_wp2_with fail
      refine (ref2_fall 2 hMb).mono ?_
      rintro e w3 ⟨rfl, hM3, hO3⟩
      go_wp2_with fail
      refine bodyPost_ret (v := .tuple #[]) (by simp [results, Try.results53, go_sem]) rfl ⟨rfl, ?_⟩
      rw [Hr.out]
      exact rdo_end hM3 ((hOb).trans (foot_p hO3) (fun _ _ h => h))
  · subst k1
    obtain ⟨g, cap, hvm, hg, hmc, hfz⟩ := hMb.memv
    obtain ⟨c32, _⟩ := hMb.cells
    rw [hvm] at c32
    have Hvm := Lib.hid hvm
    have Hmc := Lib.hid hmc
    have hl0 := h.low0
    clear hvm hmc
    by_cases hin : (S.u32 ((xa : Int) + xi)) < m.mem.length
    · have Hact := Lib.hid (show m.act ⟨25, d, na, nb, imm⟩ = ({ m with mem := m.mem.set (S.u32 ((xa : Int) + xi)).toNat xb }, (S.u32 (m.place + 1)), 0) by
        simp [S.Mach.act, Hrd.out.1, Hrd.out.2, Hxi.out, hin])
      have Hr := Lib.hid (rdo_goes Hact.out)
      obtain ⟨t, ht⟩ : ∃ t : Nat, (S.u32 ((xa : Int) + xi)) = t := ⟨(S.u32 ((xa : Int) + xi)).toNat, by omega⟩
      have htl : t < m.mem.length := by omega
      rw [ht, Int.toNat_natCast] at Hr
      have hnl : ¬ (m.mem.length : Int) ≤ t := by omega
      have hmt := Hmc.out t htl
      have hmw := h.ok.memw t
      have hft := hfz t
      clear Hact hin
      rw [ht]
      have hS := hMb.sw Hvm.out (b := (xb : Int)) (by omega) htl
      have HS := Lib.hid hS
      clear hS
      go_upto_region 41 with fail
      have hM3 := HS.out
      have hO3 : Only (MFoot p vm vo) w1 (w1.setCell ⟨g, t, none⟩ (.int .u32 xb)) := Only.setCell _ (show MFoot p vm vo g from .inr (.inl (by rw [Hvm.out]; rfl))) _
      generalize w1.setCell ⟨g, t, none⟩ (.int .u32 xb) = w3 at *
      have gb3 : w.heap.size < w3.heap.size := by have := hO3.size; omega
      clear hMb q0b q1b q4b c33b hpwb
      have hW := hM3.went hnx
      have f33 := hM3.fz 33
      obtain ⟨_, e33, _⟩ := hM3.cells
      have hp3 := hM3.lt
      have HW := Lib.hid hW
      clear hW
      go_wp2_with fail
      refine bodyPost_end (v := .tuple #[]) (by simp [results, Try.results53, go_sem]) rfl ⟨rfl, ?_⟩
      rw [Hr.out]
      exact rdo_end HW.out ((hOb.trans hO3 (fun _ _ h => h)).trans (Only.setCell (F := MFoot p vm vo) _ (.inl rfl) _) (fun _ _ h => h))
    · have Hact := Lib.hid (show m.act ⟨25, d, na, nb, imm⟩ = (m, 0, 2) by
        simp [S.Mach.act, Hrd.out.1, Hxi.out, hin])
      have Hr := Lib.hid (rdo_trap Hact.out (by decide))
      have hnl : (m.mem.length : Int) ≤ (S.u32 ((xa : Int) + xi)) := by omega
      go_wp2_with fail
      refine (ref2_fall 2 hMb).mono ?_
      rintro e w3 ⟨rfl, hM3, hO3⟩
      go_wp2_with fail
      refine bodyPost_ret (v := .tuple #[]) (by simp [results, Try.results53, go_sem]) rfl ⟨rfl, ?_⟩
      rw [Hr.out]
      exact rdo_end hM3 ((hOb).trans (foot_p hO3) (fun _ _ h => h))
  · have n14 : ¬ op ≤ 14 := by omega
    have n22 : ¬ op ≤ 22 := by omega
    have n25 : ¬ op ≤ 25 := by omega
    have e23 : ¬ op = 23 := by omega
    have e24 : ¬ op = 24 := by omega
    have e25 : ¬ op = 25 := by omega
    have d23 := int_bneM e23
    have d24 := int_bneM e24
    have d25 := int_bneM e25
    cases hg : S.goes op xa xb
    · have Hact := Lib.hid (show m.act ⟨op, d, na, nb, imm⟩ = (m, (S.u32 (m.place + 1)), 0) by
        simp [S.Mach.act, Hrd.out.1, Hrd.out.2, n14, n22, e23, e24, e25, k2, hg])
      have Hr := Lib.hid (rdo_goes Hact.out)
      have Hg := Lib.hid hg
      clear hg e23 e24 e25
      go_wp2_with fail
      refine (ref2_goes _ _ _ _ (by omega) (by omega) (by omega) (by omega)).mono ?_
      rintro e w2 ⟨rfl, rfl⟩
      rw [Hg.out]
      have hW := hMb.went hnx
      have f33 := hMb.fz 33
      obtain ⟨_, e33, _⟩ := hMb.cells
      have hp3 := hMb.lt
      have HW := Lib.hid hW
      clear hW
      go_wp2_with fail
      refine bodyPost_end (v := .tuple #[]) (by simp [results, Try.results53, go_sem]) rfl ⟨rfl, ?_⟩
      rw [Hr.out]
      exact rdo_end HW.out ((hOb).trans (Only.setCell (F := MFoot p vm vo) _ (.inl rfl) _) (fun _ _ h => h))
    · have Hact := Lib.hid (show m.act ⟨op, d, na, nb, imm⟩ = (m, S.u32 ((S.u32 (m.place + 1)) + xi), 0) by
        simp [S.Mach.act, Hrd.out.1, Hrd.out.2, Hxi.out, n14, n22, e23, e24, e25, k2, hg])
      have Hr := Lib.hid (rdo_goes Hact.out)
      have Hg := Lib.hid hg
      clear hg e23 e24 e25
      go_wp2_with fail
      refine (ref2_goes _ _ _ _ (by omega) (by omega) (by omega) (by omega)).mono ?_
      rintro e w2 ⟨rfl, rfl⟩
      rw [Hg.out]
      go_wp2_with fail
      refine (ref2_word _ _ (by omega) (by omega)).mono ?_
      rintro e w2 ⟨rfl, rfl⟩
      have hW := hMb.went (u32_bd (S.u32 (m.place + 1) + xi))
      have f33 := hMb.fz 33
      obtain ⟨_, e33, _⟩ := hMb.cells
      have hp3 := hMb.lt
      have HW := Lib.hid hW
      clear hW
      go_wp2_with fail
      refine bodyPost_end (v := .tuple #[]) (by simp [results, Try.results53, go_sem]) rfl ⟨rfl, ?_⟩
      rw [Hr.out]
      exact rdo_end HW.out ((hOb).trans (Only.setCell (F := MFoot p vm vo) _ (.inl rfl) _) (fun _ _ h => h))
  · subst k1
    have Hact := Lib.hid (show m.act ⟨32, d, na, nb, imm⟩ = (m.put d (S.u32 (m.place + 1)), S.u32 ((S.u32 (m.place + 1)) + xi), 0) by
      simp [S.Mach.act, Hrd.out.1, Hxi.out])
    have Hr := Lib.hid (rdo_goes Hact.out)
    go_wp2_with fail
    refine (ref2_put _ _ hMb hd.1 hd.2 hnx).mono ?_
    rintro e w3 ⟨rfl, hM3, hO3⟩
    have q0c := (hO3.cell gbb (fun e => hnf (.inl e)) 0).trans q0b
    have gb3 : w.heap.size < w3.heap.size := by have := hO3.size; omega
    go_wp2_with fail
    refine (ref2_word _ _ (by omega) (by omega)).mono ?_
    rintro e w2 ⟨rfl, rfl⟩
    have hW := hM3.went (u32_bd (S.u32 (m.place + 1) + xi))
    have f33 := hM3.fz 33
    obtain ⟨_, e33, _⟩ := hM3.cells
    have hp3 := hM3.lt
    have HW := Lib.hid hW
    clear hW
    go_wp2_with fail
    refine bodyPost_end (v := .tuple #[]) (by simp [results, Try.results53, go_sem]) rfl ⟨rfl, ?_⟩
    rw [Hr.out]
    exact rdo_end HW.out ((hOb.trans (foot_p hO3) (fun _ _ h => h)).trans (Only.setCell (F := MFoot p vm vo) _ (.inl rfl) _) (fun _ _ h => h))
  · subst k1
    have Hact := Lib.hid (show m.act ⟨33, d, na, nb, imm⟩ = (m.put d (S.u32 (m.place + 1)), (S.u32 ((xa : Int) + xi)), 0) by
      simp [S.Mach.act, Hrd.out.1, Hxi.out])
    have Hr := Lib.hid (rdo_goes Hact.out)
    go_wp2_with fail
    refine (ref2_put _ _ hMb hd.1 hd.2 hnx).mono ?_
    rintro e w3 ⟨rfl, hM3, hO3⟩
    have q0c := (hO3.cell gbb (fun e => hnf (.inl e)) 0).trans q0b
    have gb3 : w.heap.size < w3.heap.size := by have := hO3.size; omega
    have hW := hM3.went hat
    have f33 := hM3.fz 33
    obtain ⟨_, e33, _⟩ := hM3.cells
    have hp3 := hM3.lt
    have HW := Lib.hid hW
    clear hW
    go_wp2_with fail
    refine bodyPost_end (v := .tuple #[]) (by simp [results, Try.results53, go_sem]) rfl ⟨rfl, ?_⟩
    rw [Hr.out]
    exact rdo_end HW.out ((hOb.trans (foot_p hO3) (fun _ _ h => h)).trans (Only.setCell (F := MFoot p vm vo) _ (.inl rfl) _) (fun _ _ h => h))
  · subst k1
    obtain ⟨_, _, c34, _⟩ := hMb.cells
    cases hin : m.input with
    | nil =>
      have Hact := Lib.hid (show m.act ⟨34, d, na, nb, imm⟩ = (m.put d 4294967295, (S.u32 (m.place + 1)), 0) by
        simp [S.Mach.act, hin])
      have Hr := Lib.hid (rdo_goes Hact.out)
      rw [hin] at c34
      simp only [List.length_nil] at c34
      go_wp2_with fail
      refine (ref2_put _ _ hMb hd.1 hd.2 (by decide)).mono ?_
      rintro e w3 ⟨rfl, hM3, hO3⟩
      have hW := hM3.went hnx
      have f33 := hM3.fz 33
      obtain ⟨_, e33, _⟩ := hM3.cells
      have hp3 := hM3.lt
      have HW := Lib.hid hW
      clear hW
      go_wp2_with fail
      refine bodyPost_end (v := .tuple #[]) (by simp [results, Try.results53, go_sem]) rfl ⟨rfl, ?_⟩
      rw [Hr.out]
      exact rdo_end HW.out ((hOb.trans (foot_p hO3) (fun _ _ h => h)).trans (Only.setCell (F := MFoot p vm vo) _ (.inl rfl) _) (fun _ _ h => h))
    | cons x r =>
      have Hact := Lib.hid (show m.act ⟨34, d, na, nb, imm⟩ = (({ m with input := r } : S.Mach).put d x, (S.u32 (m.place + 1)), 0) by
        simp [S.Mach.act, hin])
      have Hr := Lib.hid (rdo_goes Hact.out)
      have hxr : 0 ≤ x ∧ x ≤ 255 := h.ok.inp x (by rw [hin]; exact List.mem_cons_self ..)
      have hxw : IntKind.u32.wrap x = x := by simp [IntKind.wrap, IntKind.signed, IntKind.bits]; omega
      have hrin := hMb.rin
      have hinc := hMb.inc
      rw [hin] at hrin c34 hinc
      simp only [List.length_cons] at c34 hinc
      obtain ⟨b0, o0, hA0, hb0, hcx⟩ := hrin (by simp)
      have hcx0 := hcx 0 (.int .u8 x) (by simp)
      rw [Nat.add_zero] at hcx0
      subst hA0
      have f34 := hMb.fz 34
      have hbp := (hMb.d1 b0 o0 none rfl).1
      have Hin := Lib.hid hin
      clear hin hcx hrin
      go_upto_region 35 with fail
      have hA' : ∃ b off, (some ⟨b0, o0, none⟩ : Option Addr) = some ⟨b, off, none⟩ ∧ ((if c = 1 then some ⟨b0, o0, none⟩ else some ⟨b0, o0 + 1, none⟩ : Option Addr) = some ⟨b, off + 1, none⟩ ∨ ((if c = 1 then some ⟨b0, o0, none⟩ else some ⟨b0, o0 + 1, none⟩ : Option Addr) = some ⟨b, off, none⟩ ∧ r = [])) := by
        refine ⟨b0, o0, rfl, ?_⟩
        by_cases h1 : c = 1
        · rw [if_pos h1]; exact .inr ⟨rfl, List.eq_nil_of_length_eq_zero (by omega)⟩
        · rw [if_neg h1]; exact .inl rfl
      have hAb : ∀ b o s, (if c = 1 then some ⟨b0, o0, none⟩ else some ⟨b0, o0 + 1, none⟩ : Option Addr) = some ⟨b, o, s⟩ → b = b0 := by
        intro b o s e
        by_cases h1 : c = 1
        · rw [if_pos h1] at e; cases e; rfl
        · rw [if_neg h1] at e; cases e; rfl
      have hN := hMb.readOn Hin.out hA'
      generalize (if c = 1 then some ⟨b0, o0, none⟩ else some ⟨b0, o0 + 1, none⟩ : Option Addr) = A' at *
      have hO3 : Only (MFoot p vm vo) w1 (w1.setCell ⟨p, 34, none⟩ (.slice A' r.length (c - 1))) := Only.setCell (F := MFoot p vm vo) _ (.inl rfl) _
      have q1c := (hO3.cell gbb hnf 1).trans q1b
      generalize w1.setCell ⟨p, 34, none⟩ (.slice A' r.length (c - 1)) = w3 at *
      have gb3 : w.heap.size < w3.heap.size := by have := hO3.size; omega
      clear hMb q0b q1b q4b c33b hpwb c34 f34 hcx0
      go_wp2_with fail
      refine (ref2_put _ _ hN hd.1 hd.2 (by omega)).mono ?_
      rintro e w4 ⟨rfl, hM4, hO4⟩
      have hW := hM4.went hnx
      have f33 := hM4.fz 33
      obtain ⟨_, e33, _⟩ := hM4.cells
      have hp3 := hM4.lt
      have HW := Lib.hid hW
      clear hW
      go_wp2_with fail
      refine bodyPost_end (v := .tuple #[]) (by simp [results, Try.results53, go_sem]) rfl ⟨rfl, ?_⟩
      rw [Hr.out]
      exact ⟨vo, A', c - 1, HW.out, ((hOb.trans hO3 (fun _ _ h => h)).trans (foot_p hO4) (fun _ _ h => h)).trans (Only.setCell (F := MFoot p vm vo) _ (.inl rfl) _) (fun _ _ h => h), .inl rfl, fun b o s e => ⟨o0, none, by rw [hAb b o s e]⟩⟩
  · subst k1
    have Hact := Lib.hid (show m.act ⟨35, d, na, nb, imm⟩ = ({ m with out := m.out ++ [(xa : Int) % 256] }, (S.u32 (m.place + 1)), 0) by
      simp [S.Mach.act, Hrd.out.1])
    have Hr := Lib.hid (rdo_goes Hact.out)
    have hm8 : (xa : Int).tmod 256 = (xa : Int) % 256 := Int.tmod_eq_emod_of_nonneg (by omega)
    have hw8 : IntKind.u8.wrap ((xa : Int) % 256) = (xa : Int) % 256 := by simp [IntKind.wrap, IntKind.signed, IntKind.bits]
    have hx8 : 0 ≤ (xa : Int) % 256 ∧ (xa : Int) % 256 ≤ 255 := by omega
    have hrow := hMb.out
    obtain ⟨_, _, _, c35, _⟩ := hMb.cells
    have f35 := hMb.fz 35
    have hlow := hMb.low
    have hdp := hMb.d2.2
    generalize (xa : Int) % 256 = xv at *
    go_upto_region 41 with (at_builtin; refine wpList_push rfl (.tmp 199) (.tmp 203) _ rfl B 5 u8_info Try.underlying23 rfl (by decide) #[.int .u8 xv] _ _ _ rfl hrow rfl rfl rfl (by simp [Value.oneCell']) (by simp only [maxLen]; omega) (by omega) (by omega) ?_; intro v' w5 ho5 hg5 hb5 hat5; obtain ⟨A5, c5, rfl⟩ := ownsRow_form ho5; have hc5 : w5.cell? ⟨p, 35, none⟩ = some vo := (World.cell?_of_block (w := w1) (a := ⟨p, 35, none⟩) (hg5.block p hpwb (fun e => hdp e.symm))).trans c35; have hf5 : w5.frozen? ⟨p, 35, none⟩ = false := (World.frozen?_of_block (w := w1) (a := ⟨p, 35, none⟩) (hg5.block p hpwb (fun e => hdp e.symm))).trans f35; have hp5 : p < w5.heap.size := by have := hg5.size; omega)
    have hb' : (Value.slice A5 (m.out.length + 1) c5).ownBlock = vo.ownBlock ∨ ∃ k, w1.heap.size ≤ k ∧ (Value.slice A5 (m.out.length + 1) c5).ownBlock = some k := by
      rcases hat5 with e | e
      · exact .inl e
      · exact .inr ⟨_, by omega, e⟩
    have hT := hMb.told hx8 ho5 hg5 hb'
    have hO3 : Only (MFoot p vm vo) w1 (w5.setCell ⟨p, 35, none⟩ (.slice A5 (m.out.length + 1) c5)) := (Only.of_grown (F := MFoot p vm vo) hg5 (fun k e => .inr (.inr e))).trans (Only.setCell (F := MFoot p vm vo) _ (.inl rfl) _) (fun _ _ h => h)
    generalize w5.setCell ⟨p, 35, none⟩ (.slice A5 (m.out.length + 1) c5) = w3 at *
    clear hMb c33b hpwb hc5 hf5 hp5
    have hW := hT.went hnx
    have f33 := hT.fz 33
    obtain ⟨_, e33, _⟩ := hT.cells
    have hp3 := hT.lt
    have HW := Lib.hid hW
    clear hW
    go_wp2_with fail
    refine bodyPost_end (v := .tuple #[]) (by simp [results, Try.results53, go_sem]) rfl ⟨rfl, ?_⟩
    rw [Hr.out]
    refine ⟨_, A, c, HW.out, (hOb.trans hO3 (fun _ _ h => h)).trans (Only.setCell (F := MFoot p vm vo) _ (.inl rfl) _) (fun _ _ h => h), ?_, fun b o s e => ⟨o, s, e⟩⟩
    rcases hb' with e | ⟨k, hk, e⟩
    · exact .inl e
    · exact .inr ⟨k, by omega, e⟩
  · subst k1
    have Hact := Lib.hid (show m.act ⟨36, d, na, nb, imm⟩ = ({ m with state := 1, code := xa }, m.place, 0) by
      simp [S.Mach.act, Hrd.out.1])
    have Hr := Lib.hid (rdo_goes Hact.out)
    have hH := hMb.halted (a := (xa : Int)) (by omega)
    obtain ⟨_, c33, _, _, c36, c37, _, _⟩ := hMb.cells
    have f36 := hMb.fz 36
    have f37 := hMb.fz 37
    go_upto_region 40 with fail
    have hO3 : Only (MFoot p vm vo) w1 ((w1.setCell ⟨p, 36, none⟩ (.int .i64 1)).setCell ⟨p, 37, none⟩ (.int .u32 xa)) := (Only.setCell (F := MFoot p vm vo) _ (.inl rfl) _).trans (Only.setCell (F := MFoot p vm vo) _ (.inl rfl) _) (fun _ _ h => h)
    generalize (w1.setCell ⟨p, 36, none⟩ (.int .i64 1)).setCell ⟨p, 37, none⟩ (.int .u32 xa) = w3 at *
    obtain ⟨_, h33, _⟩ := hH.cells
    have hpw3 := hH.lt
    clear hMb c33b c33 c36 c37 f36 f37 hpwb
    have hW := hH.went ⟨hpl, hpl'⟩
    have f33 := hH.fz 33
    obtain ⟨_, e33, _⟩ := hH.cells
    have hp3 := hH.lt
    have HW := Lib.hid hW
    clear hW
    go_wp2_with fail
    refine bodyPost_end (v := .tuple #[]) (by simp [results, Try.results53, go_sem]) rfl ⟨rfl, ?_⟩
    rw [Hr.out]
    exact rdo_end HW.out ((hOb.trans hO3 (fun _ _ h => h)).trans (Only.setCell (F := MFoot p vm vo) _ (.inl rfl) _) (fun _ _ h => h))
end

end Go.Proofs.Ytbgdomnalimjnaa
