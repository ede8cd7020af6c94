/- The law MachParts: its walk. -/
import Derived.Test.YtbgdomnalimjnaaSameA
import Derived.Test.YtbgdomnalimjnaaStepsA
import Derived.Test.YtbgdomnalimjnaaCopyA
set_option linter.unusedVariables false
set_option linter.unusedSimpArgs false
set_option linter.unusedSectionVars false
namespace Go.Proofs.Ytbgdomnalimjnaa
open Go.RowKit

theorem put_len (m : S.Mach) (d v : Int) : (m.put d v).mem.length = m.mem.length := by
  unfold S.Mach.put
  split <;> rfl
theorem act_len (m : S.Mach) (i : S.Inst) : (m.act i).1.mem.length = m.mem.length := by
  obtain ⟨op, d, a, b, imm⟩ := i
  unfold S.Mach.act
  simp only
  by_cases h1 : op ≤ 14
  · rw [if_pos h1]
    by_cases h2 : m.rd b = 0 ∧ (op = 5 ∨ op = 6)
    · rw [if_pos h2]
    · rw [if_neg h2]; exact put_len _ _ _
  rw [if_neg h1]
  by_cases h2 : op ≤ 22
  · rw [if_pos h2]; exact put_len _ _ _
  rw [if_neg h2]
  by_cases h3 : op = 23
  · rw [if_pos h3]; exact put_len _ _ _
  rw [if_neg h3]
  by_cases h4 : op = 24
  · rw [if_pos h4]
    by_cases h5 : S.u32 (m.rd a + S.u32 imm) < m.mem.length
    · rw [if_pos h5]; exact put_len _ _ _
    · rw [if_neg h5]
  rw [if_neg h4]
  by_cases h5 : op = 25
  · rw [if_pos h5]
    by_cases h6 : S.u32 (m.rd a + S.u32 imm) < m.mem.length
    · rw [if_pos h6]; exact List.length_set
    · rw [if_neg h6]
  rw [if_neg h5]
  by_cases h6 : op ≤ 31
  · rw [if_pos h6]
  rw [if_neg h6]
  by_cases h7 : op = 32
  · rw [if_pos h7]; exact put_len _ _ _
  rw [if_neg h7]
  by_cases h8 : op = 33
  · rw [if_pos h8]; exact put_len _ _ _
  rw [if_neg h8]
  by_cases h9 : op = 34
  · rw [if_pos h9]
    cases hi : m.input with
    | nil => exact put_len _ _ _
    | cons x r => exact put_len _ _ _
  rw [if_neg h9]
  by_cases h10 : op = 35
  · rw [if_pos h10]
  · rw [if_neg h10]
theorem step_len (m : S.Mach) : m.step.mem.length = m.mem.length := by
  unfold S.Mach.step S.Mach.fell
  split
  · rfl
  split
  · rfl
  split
  · rfl
  split
  · rfl
  · exact act_len _ _
theorem steps_len (m : S.Mach) : ∀ k, (m.steps_ k).mem.length = m.mem.length
  | 0 => rfl
  | k + 1 => (step_len _).trans (steps_len m k)
theorem steps_add (m : S.Mach) (n : Nat) : ∀ k, m.steps_ (n + k) = (m.steps_ n).steps_ k
  | 0 => rfl
  | k + 1 => by
    show (m.steps_ (n + k)).step = ((m.steps_ n).steps_ k).step
    rw [steps_add m n k]
theorem made_len {W I R : List Int} {size : Int} (h : sizeOk (W.take 200).length (setSize size)) : (madeM W I R size).mem.length ≤ 300 := by
  obtain ⟨h1, _⟩ := regd_keeps (newM (W.take 200) (setSize size).toNat (I.take 50)) R (min R.length 32)
  obtain ⟨g1, g2, g3⟩ := h
  have e : (madeM W I R size).mem = (newM (W.take 200) (setSize size).toNat (I.take 50)).mem := h1
  rw [e]
  show ((W.take 200) ++ List.replicate ((setSize size).toNat - (W.take 200).length) 0).length ≤ 300
  rw [List.length_append, List.length_replicate]
  have h3 : setSize size ≤ 300 := by
    unfold setSize at g2 ⊢
    split
    · decide
    · rename_i hn
      rw [if_neg hn] at g2
      by_cases hs : 300 < size
      · exact absurd ⟨hs, g2⟩ hn
      · omega
  omega

section
variable {w w' : World} {B : Nat} {x y z : Mc} {r : List Mc}
theorem Fam.second (h : Fam w B (x :: y :: r)) : Fam w B (y :: x :: r) := h.perm (List.Perm.swap y x r)
theorem Fam.third (h : Fam w B (x :: y :: z :: r)) : Fam w B (z :: x :: y :: r) := h.perm (((List.Perm.swap z y r).cons x).trans (List.Perm.swap z x (y :: r)))
theorem Fam.fourth {v : Mc} (h : Fam w B (x :: y :: z :: v :: r)) : Fam w B (v :: x :: y :: z :: r) := h.perm (((((List.Perm.swap v z r).cons y).trans (List.Perm.swap v y (z :: r))).cons x).trans (List.Perm.swap v x (y :: z :: r)))
theorem Fam.head (h : Fam w B (x :: r)) : MAt w B x.p x.vm x.vo x.A x.c x.inp x.rd x.m := h.at_ x (by simp)
theorem Fam.low (h : Fam w B (x :: r)) : B ≤ w.heap.size := Nat.le_trans h.head.low (Nat.le_of_lt h.head.lt)

theorem fam_copy {p : Nat} (h : Fam w B (x :: r)) (hp : x.p = p) (hl : x.m.mem.length ≤ 1000000) (hol : x.m.out.length ≤ 1000000) :
    Calls Try.prog 34 #[.pointer (some ⟨p, 0, none⟩)] w fun e w' => ∃ y : Mc, e = .returned (.pointer (some ⟨y.p, 0, none⟩)) ∧ y.m = x.m ∧ y.inp = x.inp ∧ Fam w' B (y :: x :: r) ∧ Below B w w' := by
  subst hp
  refine (mach_Copy h.head hl hol).mono ?_
  rintro e w2 ⟨p, vm, vo, rfl, h1, h2⟩
  exact ⟨⟨p, vm, vo, x.A, x.c, x.inp, x.rd, x.m⟩, rfl, rfl, rfl, h.copied (x := x) (by simp) h2 h.low h1 rfl, h2.mono h.low⟩
theorem fam_run {p : Nat} (fuel : Int) (h : Fam w B (x :: r)) (hp : x.p = p) (hol : x.m.out.length ≤ 500000) (hst : 0 ≤ x.m.steps ∧ x.m.steps ≤ 500000) (hf : fuel ≤ 100000) :
    Calls Try.prog 35 #[.pointer (some ⟨p, 0, none⟩), .int .i64 fuel] w fun e w' => ∃ y : Mc, e = .returned (.int .i64 y.m.state) ∧ y.m = x.m.steps_ fuel.toNat ∧ y.p = p ∧ Fam w' B (y :: r) ∧ Below B w w' := by
  subst hp
  refine (mach_Run fuel h.head hol hst hf).mono ?_
  rintro e w2 ⟨rfl, hr⟩
  obtain ⟨y, h1, h2, _, h3, h4⟩ := h.ran hr
  exact ⟨y, by rw [h1], h1, h2, h3, h4⟩
theorem fam_step {p : Nat} (h : Fam w B (x :: r)) (hp : x.p = p) (hol : x.m.out.length ≤ 1000000) (hst : 0 ≤ x.m.steps ∧ x.m.steps ≤ 1000000) :
    Calls Try.prog 15 #[.pointer (some ⟨p, 0, none⟩)] w fun e w' => ∃ y : Mc, e = .returned (.int .i64 y.m.state) ∧ y.m = x.m.step ∧ y.p = p ∧ Fam w' B (y :: r) ∧ Below B w w' := by
  subst hp
  refine (step_run h.head hol hst).mono ?_
  rintro e w2 ⟨rfl, hr⟩
  obtain ⟨y, h1, h2, _, h3, h4⟩ := h.ran hr
  exact ⟨y, by rw [h1], h1, h2, h3, h4⟩
theorem fam_go {p : Nat} (v : Int) (h : Fam w B (x :: r)) (hp : x.p = p) (hv : 0 ≤ v ∧ v ≤ 4294967295) :
    Calls Try.prog 38 #[.pointer (some ⟨p, 0, none⟩), .int .u32 v] w fun e w' => e = .returned (.int .i64 (if x.m.state ≠ 0 then 2 else 0)) ∧ ∃ y : Mc, y.m = x.m.goV v ∧ y.p = p ∧ Fam w' B (y :: r) ∧ Below B w w' := by
  subst hp
  refine (mach_Go v h.head hv).mono ?_
  rintro e w2 ⟨rfl, h1, h2⟩
  obtain ⟨y, g1, g2, _, g3, g4⟩ := h.ran (h1.ran (h2.weaken fun j _ e => .inl e))
  exact ⟨rfl, y, g1, g2, g3, g4⟩
theorem at_same {p q : Nat} (hx : x.at_ w B) (hy : y.at_ w B) (hp : x.p = p) (hq : y.p = q) (hm : x.m.Seen y.m) (hol : x.m.out.length ≤ 1000000) :
    Calls Try.prog 22 #[.pointer (some ⟨p, 0, none⟩), .pointer (some ⟨q, 0, none⟩), .int .i64 300] w fun e w' => e = .returned (.bool true) ∧ Below w.heap.size w w' := by
  subst hp hq
  exact law2_same hx hy hm hol
theorem at_State {p : Nat} {a : Int} (hx : x.at_ w B) (hp : x.p = p) (e : x.m.state = a) : Calls Try.prog 21 #[.pointer (some ⟨p, 0, none⟩)] w fun e w' => e = .returned (.int .i64 a) ∧ w = w' := by
  subst hp e
  exact mach_State hx
theorem at_Steps {p : Nat} {a : Int} (hx : x.at_ w B) (hp : x.p = p) (e : x.m.steps = a) : Calls Try.prog 36 #[.pointer (some ⟨p, 0, none⟩)] w fun e w' => e = .returned (.int .i64 a) ∧ w = w' := by
  subst hp e
  exact mach_Steps hx
theorem at_Reg {p : Nat} {a : Int} (i : Int) (hx : x.at_ w B) (hp : x.p = p) (e : x.m.regV i = a) : Calls Try.prog 39 #[.pointer (some ⟨p, 0, none⟩), .int .i64 i] w fun e w' => e = .returned (.int .u32 a) ∧ w = w' := by
  subst hp e
  exact mach_Reg i hx
theorem at_Out0 {p : Nat} (hx : x.at_ w B) (hp : x.p = p) (e : x.m.out.length = 0) : Calls Try.prog 37 #[.pointer (some ⟨p, 0, none⟩)] w fun e w' => (∃ A' c', e = .returned (.slice A' 0 c')) ∧ Below w.heap.size w w' := by
  subst hp
  refine (mach_Out hx (by omega)).mono ?_
  rintro e' w2 ⟨A', c', rfl, _, h⟩
  rw [e]
  exact ⟨⟨A', c', rfl⟩, h⟩
theorem Two.fam {p q : Nat} {inp : List Int} {m n : S.Mach} {s : Sides} (h : Two w B p q inp m n s) : Fam w B [⟨p, s.vm, s.vo, s.A, s.c, inp, s.rd, m⟩] :=
  ⟨fun x hx => by obtain rfl := List.mem_singleton.1 hx; exact h.a, List.pairwise_singleton _ _⟩
end

set_option maxRecDepth 100000 in
set_option maxHeartbeats 8000000 in
theorem law_MachParts (Aw Ai Ar : Option Addr) (cw ci cr : Nat) (W I R : List Int) (size n k : Int) (w : World) (hS : Sett w Aw Ai Ar cw ci cr W I R) (hnb : -9223372036854775808 ≤ n ∧ n ≤ 9223372036854775807) (hkb : -9223372036854775808 ≤ k ∧ k ≤ 9223372036854775807) :
    Calls Try.prog 10 #[.agg #[.slice Aw W.length cw, .int .i64 size, .slice Ai I.length ci, .slice Ar R.length cr], .int .i64 n, .int .i64 k] w fun e w' => e = .returned (.bool true) ∧ Below w.heap.size w w' := by
  obtain ⟨f1, f2, _⟩ := madeM_facts W I R size
  have HS := Lib.hid hS
  go_enter Try.func10, Try.ntmps10
  go_upto_region 1 with fail
  obtain ⟨x1, x2, x3⟩ := one_allocM w #[.slice Aw W.length cw, .int .i64 size, .slice Ai I.length ci, .slice Ar R.length cr] 25
  generalize w.alloc (.cells #[.slice Aw W.length cw, .int .i64 size, .slice Ai I.length ci, .slice Ar R.length cr] 25) = wb at *
  have q0 : wb.cell? ⟨w.heap.size, 0, none⟩ = some (.slice Aw W.length cw) := by rw [blk_cellM x1]; rfl
  have q1 : wb.cell? ⟨w.heap.size, 1, none⟩ = some (.int .i64 size) := by rw [blk_cellM x1]; rfl
  have q2 : wb.cell? ⟨w.heap.size, 2, none⟩ = some (.slice Ai I.length ci) := by rw [blk_cellM x1]; rfl
  have q3 : wb.cell? ⟨w.heap.size, 3, none⟩ = some (.slice Ar R.length cr) := by rw [blk_cellM x1]; rfl
  have gb : w.heap.size < wb.heap.size := by omega
  clear x1 x3
  go_wp2_with fail
  refine ((HS.out.below x2).made size).mono ?_
  rintro e w2 ⟨hb2, ⟨_, rfl⟩ | ⟨hok, p, q, rfl, hB⟩⟩
  · have hbz := x2.trans (hb2.mono x2.size)
    clear x2 hb2
    go_wp2_with fail
    refine (law2_works w2).mono ?_
    rintro e w3 ⟨rfl, hb3⟩
    go_wp2_with fail
    go_ret
    exact ⟨rfl, hbz.trans (hb3.mono hbz.size)⟩
  have hml := made_len (I := I) (R := R) hok
  have hB' := hB.base x2.size
  have hbz := x2.trans (hb2.mono x2.size)
  generalize madeM W I R size = M at *
  have hg := steps_grow M
  obtain ⟨sd, hT⟩ := hB'
  have hF := hT.fam
  have HF : Hid (∃ x : Mc, x.p = p ∧ x.m = M ∧ Fam w2 w.heap.size [x]) := Lib.hid ⟨_, rfl, rfl, hF⟩
  clear hB hT hF x2 hb2 q0 q1 q2 q3 gb hok
  go_upto_region 4 with fail
  go_cut [1, 2] (fun v1 v2 wc => ∃ a b : Int, v1 = .int .i64 a ∧ v2 = .int .i64 b ∧ wc = w2 ∧ (0 ≤ a ∧ a ≤ 500) ∧ 0 ≤ b ∧ b ≤ 500)
  case first =>
    go_wp2_with fail
    all_goals
      go_meet
      exact ⟨_, _, rfl, rfl, rfl, ⟨by omega, by omega⟩, by omega, by omega⟩
  case rest =>
  obtain ⟨a, b, rfl, rfl, rfl, ⟨ha0, ha1⟩, hb0, hb1⟩ := hcut
  obtain ⟨na, rfl⟩ : ∃ na : Nat, a = na := ⟨a.toNat, by omega⟩
  obtain ⟨nb, rfl⟩ : ∃ nb : Nat, b = nb := ⟨b.toNat, by omega⟩
  obtain ⟨xa, hxp, hxm, hF⟩ := HF.out
  have G1 := hg na
  have G2 := hg (na + nb)
  have L1 := steps_len M na
  have L2 := steps_len M (na + nb)
  have hadd := steps_add M na nb
  clear HF hg
  go_wp2_with fail
  refine (fam_copy hF hxp (by rw [hxm]; omega) (by rw [hxm]; omega)).mono ?_
  rintro e w3 ⟨xb, rfl, hbm, _, hF3, hb3⟩
  have hbz3 := hbz.trans hb3
  clear hF hb3 hbz
  go_wp2_with fail
  refine (fam_copy hF3.second hxp (by rw [hxm]; omega) (by rw [hxm]; omega)).mono ?_
  rintro e w4 ⟨xf, rfl, hfm, _, hF4, hb4⟩
  have hbz4 := hbz3.trans hb4
  clear hF3 hb4 hbz3
  go_wp2_with fail
  refine (fam_run na hF4.second hxp (by rw [hxm]; omega) (by rw [hxm]; omega) (by omega)).mono ?_
  rintro e w5 ⟨ya, rfl, hym, hyp, hF5, hb5⟩
  have hbz5 := hbz4.trans hb5
  rw [Int.toNat_natCast, hxm] at hym
  clear hF4 hb5 hbz4 hxp
  go_wp2_with fail
  refine (fam_copy hF5 hyp (by rw [hym]; omega) (by rw [hym]; omega)).mono ?_
  rintro e w6 ⟨xc, rfl, hcm, _, hF6, hb6⟩
  have hbz6 := hbz5.trans hb6
  clear hF5 hb6 hbz5
  go_wp2_with fail
  refine (fam_run nb hF6.second hyp (by rw [hym]; omega) (by rw [hym]; omega) (by omega)).mono ?_
  rintro e w7 ⟨za, rfl, hzm, hzp, hF7, hb7⟩
  have hbz7 := hbz6.trans hb7
  rw [Int.toNat_natCast, hym, ← hadd] at hzm
  clear hF6 hb7 hbz6 hyp
  go_wp2_with fail
  refine (fam_run _ hF7.fourth rfl (by rw [hbm, hxm]; omega) (by rw [hbm, hxm]; omega) (by omega)).mono ?_
  rintro e w8 ⟨yb, rfl, hyb, hybp, hF8, hb8⟩
  have hbz8 := hbz7.trans hb8
  rw [show ((na : Int) + (nb : Int)).toNat = na + nb by omega, hbm, hxm] at hyb
  have hyz : yb.m = za.m := by rw [hyb, hzm]
  have HY := Lib.hid hyb
  clear hF7 hb8 hbz7 hyb
  rw [hym] at hcm
  have gc := fun i => steps_grow (M.steps_ na) i
  have hca := fun i => steps_add M na i
  have HF8 := Lib.hid hF8.third
  have HZ := Lib.hid hzm
  have HC := Lib.hid hcm
  rw [hxm] at hfm
  have HFm := Lib.hid hfm
  clear hF8 hzm hcm hfm hbm hym hxm
  go_wp2_with fail
  go_loopw [14] (fun v wr => ∃ i : Nat, i ≤ nb ∧ v = .int .i64 i ∧ ∃ yc : Mc, yc.p = xc.p ∧ yc.m = (M.steps_ na).steps_ i ∧ Fam wr w.heap.size [yc, yb, za, xf] ∧ Below w.heap.size w wr) (fun v _ => nb - (intOf v).toNat)
  case atStart => exact ⟨0, by omega, rfl, xc, rfl, HC.out, HF8.out, hbz8⟩
  case round =>
    obtain ⟨i, hi, rfl, yc, hcp, hcm, hF, hbr⟩ := hrel
    have gi := gc i
    by_cases hlt : i < nb
    · go_wp2_with fail
      refine (fam_step hF hcp (by rw [hcm]; omega) (by rw [hcm]; omega)).mono ?_
      rintro e w9 ⟨yc2, rfl, hcm2, hcp2, hF9, hb9⟩
      have hbr9 := hbr.trans hb9
      rw [hcm] at hcm2
      have HCM := Lib.hid hcm2
      clear hF hb9 hbr hcm hcm2
      go_wp2_with fail
      go_roundw
      case rel => exact ⟨i + 1, by omega, by go_num, yc2, hcp2, HCM.out, hF9, hbr9⟩
      case measure =>
        simp only [intOf]
        omega
    · have hie : i = nb := by omega
      have hcz : yc.m = za.m := by rw [hcm, hie, HZ.out, hadd]
      have hzo : za.m.out.length ≤ 1000000 := by rw [HZ.out]; omega
      have hzo2 : za.m.out.length ≤ 500000 := by rw [HZ.out]; omega
      have hzs : za.m.steps ≤ na + nb := by rw [HZ.out]; omega
      have hzl : za.m.mem.length ≤ 1000000 := by rw [HZ.out]; omega
      have hzr : za.m.regV 0 = 0 := by
        have h0 := MAt.ok (hF.at_ za (by simp))
        unfold S.Mach.regV
        rw [if_pos (by omega)]
        exact h0.zero
      have hfs : xf.m.steps = 0 := by rw [HFm.out]; exact f2
      have hfo : xf.m.out.length = 0 := by rw [HFm.out]; exact f1
      have hst : ∀ j, za.m.state ≠ 0 → za.m.steps_ j = za.m := fun j h => by
        have h2 := steps_stop (m := za.m) (k := 0) h j
        rw [Nat.zero_add] at h2
        exact h2
      have HYZ := Lib.hid (show za.m.Seen yb.m by rw [hyz]; exact S.Mach.Seen.refl _)
      have HCZ := Lib.hid (show za.m.Seen yc.m by rw [hcz]; exact S.Mach.Seen.refl _)
      have Hzr := Lib.hid hzr
      have Hfs := Lib.hid hfs
      have Hfo := Lib.hid hfo
      have Hst := Lib.hid hst
      have Hzp := Lib.hid hzp
      have Hbp := Lib.hid hybp
      have Hcp := Lib.hid hcp
      have hzs0 : 0 ≤ za.m.steps := by rw [HZ.out]; omega
      clear gc hca gi G1 G2 L1 L2 hcm hyz hcz hzr hfs hfo hst hzp hybp hcp
      go_wp2_with fail
      refine (at_same (hF.at_ za (by simp)) (hF.at_ yb (by simp)) Hzp.out Hbp.out HYZ.out hzo).mono ?_
      rintro e w9 ⟨rfl, hb9⟩
      have hF9 := hF.below hb9
      have hbr9 := hbr.trans (hb9.mono hbr.size)
      clear hF hbr hb9
      go_wp2_with fail
      refine (at_same (hF9.at_ za (by simp)) (hF9.at_ yc (by simp)) Hzp.out Hcp.out HCZ.out hzo).mono ?_
      rintro e w10 ⟨rfl, hb10⟩
      have hF10 := hF9.below hb10
      have hbr10 := hbr9.trans (hb10.mono hbr9.size)
      clear hF9 hbr9 hb10
      go_wp2_with fail
      refine (at_Steps (hF10.at_ xf (by simp)) rfl Hfs.out).mono ?_
      rintro e w11 ⟨rfl, rfl⟩
      go_wp2_with fail
      refine (at_Out0 (hF10.at_ xf (by simp)) rfl Hfo.out).mono ?_
      rintro e w12 ⟨⟨A0, c0, rfl⟩, hb12⟩
      have hF12 := hF10.below hb12
      have hbr12 := hbr10.trans (hb12.mono hbr10.size)
      clear hF10 hbr10 hb12
      go_wp2_with fail
      refine (at_State (hF12.at_ za (by simp)) Hzp.out rfl).mono ?_
      rintro e w13 ⟨rfl, rfl⟩
      by_cases hs : za.m.state = 0
      · have d0 : (za.m.state != 0) = false := by simp [hs]
        clear hs
        go_wp2_with fail
        refine (at_Steps (hF12.at_ za (by simp)) Hzp.out rfl).mono ?_
        rintro e w13 ⟨rfl, rfl⟩
        go_wp2_with fail
        refine (at_Reg 0 (hF12.at_ za (by simp)) Hzp.out Hzr.out).mono ?_
        rintro e w13 ⟨rfl, rfl⟩
        go_wp2_with fail
        refine (law2_works _).mono ?_
        rintro e w14 ⟨rfl, hb14⟩
        go_wp2_with fail
        go_ret
        exact ⟨rfl, hbr12.trans (hb14.mono hbr12.size)⟩
      · have d0 : (za.m.state != 0) = true := by simpa using hs
        have Hs := Lib.hid hs
        clear hs
        go_wp2_with fail
        refine (fam_copy hF12.third Hzp.out hzl hzo).mono ?_
        rintro e w13 ⟨xd, rfl, hdm, _, hF13, hb13⟩
        have hbr13 := hbr12.trans hb13
        have Hdm := Lib.hid hdm
        clear hF12 hbr12 hb13 hdm
        go_wp2_with fail
        refine (fam_run 7 hF13 rfl (by rw [Hdm.out]; omega) (by rw [Hdm.out]; omega) (by omega)).mono ?_
        rintro e w14 ⟨yd, rfl, hdm, hdp, hF14, hb14⟩
        have hbr14 := hbr13.trans hb14
        rw [Hdm.out, Hst.out _ Hs.out] at hdm
        have Hd := Lib.hid hdm
        have Hdp := Lib.hid hdp
        have HDS := Lib.hid (show za.m.Seen yd.m by rw [hdm]; exact S.Mach.Seen.refl _)
        clear hF13 hbr13 hb14 hdm hdp
        go_wp2_with fail
        refine (at_same (hF14.at_ za (by simp)) (hF14.at_ yd (by simp)) Hzp.out Hdp.out HDS.out hzo).mono ?_
        rintro e w15 ⟨rfl, hb15⟩
        have hF15 := hF14.below hb15
        have hbr15 := hbr14.trans (hb15.mono hbr14.size)
        clear hF14 hbr14 hb15
        go_wp2_with fail
        refine (fam_go 0 hF15 Hdp.out (by omega)).mono ?_
        rintro e w16 ⟨rfl, yg, _, _, hF16, hb16⟩
        rw [if_pos (show yd.m.state ≠ 0 by rw [Hd.out]; exact Hs.out)]
        have hbr16 := hbr15.trans hb16
        clear hF15 hbr15 hb16
        go_wp2_with fail
        refine (at_Steps (hF16.at_ za (by simp)) Hzp.out rfl).mono ?_
        rintro e w17 ⟨rfl, rfl⟩
        go_wp2_with fail
        refine (at_Reg 0 (hF16.at_ za (by simp)) Hzp.out Hzr.out).mono ?_
        rintro e w17 ⟨rfl, rfl⟩
        go_wp2_with fail
        refine (law2_works _).mono ?_
        rintro e w18 ⟨rfl, hb18⟩
        go_wp2_with fail
        go_ret
        exact ⟨rfl, hbr16.trans (hb18.mono hbr16.size)⟩

end Go.Proofs.Ytbgdomnalimjnaa
