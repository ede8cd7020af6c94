/- The laws of layer 2: made. -/
import Derived.Test.YtbgdomnalimjnaaMachZ
import Derived.Deep.DeepCutAuto
set_option linter.unusedVariables false
set_option linter.unusedSimpArgs false
set_option linter.unusedSectionVars false
namespace Go.Proofs.Ytbgdomnalimjnaa
open Go.RowKit

def setSize (s : Int) : Int := if 300 < s ∧ s ≤ 335544320 then 300 else s
theorem setSize_yes {s : Int} (h : 300 < s ∧ s ≤ 335544320) : setSize s = 300 := by unfold setSize; rw [if_pos h]
theorem setSize_no {s : Int} (h : ¬ (300 < s ∧ s ≤ 335544320)) : setSize s = s := by unfold setSize; rw [if_neg h]
def S.Mach.regd (m : S.Mach) (R : List Int) : Nat → S.Mach
  | 0 => m
  | k + 1 => (m.regd R k).put k (R.getD k 0)
theorem regd_keeps (m : S.Mach) (R : List Int) : ∀ k, (m.regd R k).mem = m.mem ∧ (m.regd R k).out = m.out ∧ (m.regd R k).steps = m.steps ∧ (m.regd R k).state = m.state ∧ (m.regd R k).input = m.input ∧ (m.regd R k).place = m.place
  | 0 => ⟨rfl, rfl, rfl, rfl, rfl, rfl⟩
  | k + 1 => by
    have h := regd_keeps m R k
    have e : m.regd R (k + 1) = (m.regd R k).put k (R.getD k 0) := rfl
    rw [e]
    unfold S.Mach.put
    split
    · exact h
    · exact h

theorem MAt.base {w : World} {B B' p : Nat} {vm vo : Value} {A : Option Addr} {c : Nat} {inp : List Int} {rd : Nat} {m : S.Mach} (h : MAt w B p vm vo A c inp rd m) (hB : B' ≤ B) : MAt w B' p vm vo A c inp rd m :=
  ⟨h.ok, Nat.le_trans hB h.low, h.blk, ownsRow_base h.mem hB, ownsRow_base h.out hB, h.rin, h.left, h.rdle, h.inl, h.low0, h.la, h.d1, h.d2⟩
theorem RAt.base {w : World} {B B' p : Nat} {vm vo : Value} {A : Option Addr} {c : Nat} {m : S.Mach} (h : RAt w B p vm vo A c m) (hB : B' ≤ B) : RAt w B' p vm vo A c m :=
  ⟨h.ok, Nat.le_trans hB h.low, h.blk, ownsRow_base h.mem hB, ownsRow_base h.out hB, h.rin, h.inl, h.inc, h.low0, h.la, h.d1, h.d2⟩

theorem both_new {w2 w3 : World} {B p q : Nat} {vm vo vm2 vo2 : Value} {A A2 : Option Addr} {c c2 : Nat} {I : List Int} {m n : S.Mach} (h : MAt w2 B p vm vo A c I 0 m) (hq : RAt w3 w2.heap.size q vm2 vo2 A2 c2 n) (hb : Below w2.heap.size w2 w3)
    (hA2 : ∀ b o s, A2 = some ⟨b, o, s⟩ → w2.heap.size ≤ b) (hB : B ≤ w2.heap.size) (hA : ∀ b o s, A = some ⟨b, o, s⟩ → B ≤ b) : Both w3 B p q I m n := by
  refine ⟨⟨vm, vo, A, c, 0, vm2, vo2, A2, c2⟩, h.below hb, hq.base hB, fun k hf hg => ?_, fun k o t e hg => ?_, fun k o t e hf => ?_, hA⟩
  · have h1 := (h.foot_lt hf).2
    have h2 := (hq.foot_lt hg).1
    omega
  · have h1 := h.la k o t e
    have h2 := (hq.foot_lt hg).1
    omega
  · have h1 := (h.foot_lt hf).2
    have h2 := hA2 k o t e
    omega

theorem Both.base {w : World} {B B' p q : Nat} {inp : List Int} {m n : S.Mach} (h : Both w B p q inp m n) (hB : B' ≤ B) : Both w B' p q inp m n := by
  obtain ⟨s, hs⟩ := h
  exact ⟨s, hs.a.base hB, hs.b.base hB, hs.x, hs.xa, hs.xb, fun k o t e => Nat.le_trans hB (hs.lowA k o t e)⟩

def madeM (W I R : List Int) (size : Int) : S.Mach := (newM (W.take 200) (setSize size).toNat (I.take 50)).regd R (min R.length 32)
def MadePost (w : World) (W I R : List Int) (size : Int) (e : Ending) (w' : World) : Prop :=
  Below w.heap.size w w' ∧
  ((¬ sizeOk (W.take 200).length (setSize size) ∧ e = .returned (.tuple #[.pointer none, .pointer none, .bool false, .bool true])) ∨
  (sizeOk (W.take 200).length (setSize size) ∧ ∃ p q, e = .returned (.tuple #[.pointer (some ⟨p, 0, none⟩), .pointer (some ⟨q, 0, none⟩), .bool true, .bool true]) ∧ Both w' w.heap.size p q (I.take 50) (madeM W I R size) (madeM W I R size)))

theorem reads_take {w : World} {B : Nat} {A : Option Addr} {k : IntKind} {xs : List Int} (h : Reads w B A (xs.map (Value.int k))) (n : Nat) : Reads w B A ((xs.take n).map (Value.int k)) := fun hp => by
  have hx : 0 < (xs.map (Value.int k)).length := by
    rw [List.length_map, List.length_take] at hp
    rw [List.length_map]; omega
  obtain ⟨b, off, e, hb, hc⟩ := h hx
  refine ⟨b, off, e, hb, fun i x hi => hc i x ?_⟩
  rw [List.getElem?_map, List.getElem?_take] at hi
  rw [List.getElem?_map]
  split at hi
  · exact hi
  · cases hi

set_option maxRecDepth 100000 in
set_option maxHeartbeats 8000000 in
theorem law2_made (Aw Ai Ar : Option Addr) (cw ci cr : Nat) (W I R : List Int) (size : Int) (w : World) (hW : Reads w w.heap.size Aw (W.map (Value.int .u32))) (hI : Reads w w.heap.size Ai (I.map (Value.int .u8))) (hR : Reads w w.heap.size Ar (R.map (Value.int .u32)))
    (hwl : W.length ≤ cw ∧ cw ≤ maxLen) (hil : I.length ≤ ci ∧ ci ≤ maxLen) (hrl : R.length ≤ cr ∧ cr ≤ maxLen)
    (hWw : ∀ x ∈ W, 0 ≤ x ∧ x ≤ 4294967295) (hIw : ∀ x ∈ I, 0 ≤ x ∧ x ≤ 255) (hRw : ∀ x ∈ R, 0 ≤ x ∧ x ≤ 4294967295) :
    Calls Try.prog 13 #[.agg #[.slice Aw W.length cw, .int .i64 size, .slice Ai I.length ci, .slice Ar R.length cr]] w (MadePost w W I R size) := by
  have HW := Lib.hid (reads_take hW 200)
  have HI := Lib.hid (reads_take hI 50)
  have HR := Lib.hid hR
  obtain ⟨L, hLd⟩ : ∃ L, L = W.take 200 := ⟨_, rfl⟩
  obtain ⟨J, hJd⟩ : ∃ J, J = I.take 50 := ⟨_, rfl⟩
  have HWw := Lib.hid (fun x hx => hWw x (List.mem_of_mem_take (i := 200) hx))
  have HIw := Lib.hid (fun x hx => hIw x (List.mem_of_mem_take (i := 50) hx))
  have HRw := Lib.hid hRw
  have hLl : (W.take 200).length ≤ 200 := by rw [List.length_take]; omega
  have hIl : (I.take 50).length ≤ 50 := by rw [List.length_take]; omega
  have e1 : (if 200 < (W.length : Int) then 200 else (W.length : Int)).toNat = L.length := by
    rw [hLd, List.length_take]; split <;> omega
  have e2 : (if 50 < (I.length : Int) then 50 else (I.length : Int)).toNat = J.length := by
    rw [hJd, List.length_take]; split <;> omega
  rw [← hLd] at HW HWw hLl
  rw [← hJd] at HI HIw hIl
  have E1 := Lib.hid e1
  have E2 := Lib.hid e2
  have HLd := Lib.hid hLd
  have HJd := Lib.hid hJd
  clear hW hI hR hWw hIw hRw hLd hJd e1 e2
  go_enter Try.func13, Try.ntmps13
  go_upto_region 1 with fail
  obtain ⟨x1, x2, x3⟩ := one_allocM w #[.slice Aw W.length cw, .int .i64 size, .slice Ai I.length ci, .slice Ar R.length cr] 25
  generalize w.alloc (.cells #[.slice Aw W.length cw, .int .i64 size, .slice Ai I.length ci, .slice Ar R.length cr] 25) = wb at *
  have q0 : wb.cell? ⟨w.heap.size, 0, none⟩ = some (.slice Aw W.length cw) := by rw [blk_cellM x1]; rfl
  have q1 : wb.cell? ⟨w.heap.size, 1, none⟩ = some (.int .i64 size) := by rw [blk_cellM x1]; rfl
  have q2 : wb.cell? ⟨w.heap.size, 2, none⟩ = some (.slice Ai I.length ci) := by rw [blk_cellM x1]; rfl
  have q3 : wb.cell? ⟨w.heap.size, 3, none⟩ = some (.slice Ar R.length cr) := by rw [blk_cellM x1]; rfl
  have gb : w.heap.size < wb.heap.size := by omega
  simp only [maxLen] at hwl hil hrl
  clear x1 x3
  go_upto_region 3 with fail
  rw [E1.out]
  go_cut [28] (fun v28 wc => v28 = .bool (decide (300 < size ∧ size ≤ 335544320)) ∧ wc = wb)
  case first =>
    by_cases hs1 : 300 < size
    · by_cases hs2 : size ≤ 335544320
      · have e := Lib.hid (show decide (300 < size ∧ size ≤ 335544320) = true by simp [hs1, hs2])
        go_wp2_with fail
        all_goals
          go_meet
          exact ⟨by rw [e.out], rfl⟩
      · have e := Lib.hid (show decide (300 < size ∧ size ≤ 335544320) = false by simp [hs2])
        go_wp2_with fail
        all_goals
          go_meet
          exact ⟨by rw [e.out], rfl⟩
    · have e := Lib.hid (show decide (300 < size ∧ size ≤ 335544320) = false by simp [hs1])
      go_wp2_with fail
      all_goals
        go_meet
        exact ⟨by rw [e.out], rfl⟩
  case rest =>
  obtain ⟨rfl, rfl⟩ := hcut
  go_upto_if 28 with fail
  go_cut [7] (fun v7 wc2 => v7 = .int .i64 (setSize size) ∧ wc2 = wc)
  case first =>
    by_cases hs : 300 < size ∧ size ≤ 335544320
    · have e := Lib.hid (setSize_yes hs)
      have d : decide (300 < size ∧ size ≤ 335544320) = true := by simpa using hs
      rw [d]
      clear d hs
      go_wp2_with fail
      all_goals
        go_meet
        exact ⟨by rw [e.out], rfl⟩
    · have e := Lib.hid (setSize_no hs)
      have d : decide (300 < size ∧ size ≤ 335544320) = false := by simpa using hs
      rw [d]
      clear d hs
      go_wp2_with fail
      all_goals
        go_meet
        exact ⟨by rw [e.out], rfl⟩
  case rest =>
  obtain ⟨rfl, rfl⟩ := hcut
  go_upto_region 5 with fail
  go_cut [8] (fun v8 wc2 => v8 = .slice Ai J.length ci ∧ wc2 = wc)
  case first =>
    by_cases hs : 50 < (I.length : Int)
    · have e := E2.out
      rw [if_pos hs] at e
      have E := Lib.hid e
      clear e
      go_wp2_with fail
      all_goals
        go_meet
        exact ⟨by first | (rw [← E.out]; done) | (rw [← E.out]; rfl), rfl⟩
    · have e := E2.out
      rw [if_neg hs] at e
      have E := Lib.hid (show I.length = J.length by omega)
      clear e
      go_wp2_with fail
      all_goals
        go_meet
        exact ⟨by first | (rw [← E.out]; done) | (rw [← E.out]; rfl), rfl⟩
  case rest =>
  obtain ⟨rfl, rfl⟩ := hcut
  have HP := Lib.hid (show MadePost w W I R size = fun e w' => Below w.heap.size w w' ∧ ((¬ sizeOk L.length (setSize size) ∧ e = .returned (.tuple #[.pointer none, .pointer none, .bool false, .bool true])) ∨
    (sizeOk L.length (setSize size) ∧ ∃ p q, e = .returned (.tuple #[.pointer (some ⟨p, 0, none⟩), .pointer (some ⟨q, 0, none⟩), .bool true, .bool true]) ∧ Both w' w.heap.size p q J ((newM L (setSize size).toNat J).regd R (min R.length 32)) ((newM L (setSize size).toNat J).regd R (min R.length 32)))) by
      funext e w'
      rw [HLd.out, HJd.out]
      rfl)
  clear E1 E2 HLd HJd
  generalize setSize size = s at *
  have hai : Ai = none → J.length = 0 := fun h => by
    by_cases h0 : J.length = 0
    · exact h0
    · obtain ⟨b, o, e, _⟩ := HI.out (by rw [List.length_map]; omega)
      rw [h] at e; cases e
  have HAi := Lib.hid hai
  have HLc := Lib.hid ((HW.out.below x2).moreM x2.size)
  have HJc := Lib.hid ((HI.out.below x2).moreM x2.size)
  have HRc := Lib.hid ((HR.out.below x2).moreM x2.size)
  clear hai HW HI HR q0 q1 q2
  go_wp2_with fail
  refine (mach_New Aw Ai cw ci L J s wc HLc.out HJc.out hLl hIl HWw.out HIw.out).mono ?_
  rintro e w2 (⟨hno, rfl, rfl⟩ | ⟨hok, p, vm, A, c, rfl, hM, hb2, hA⟩)
  · have Hno := Lib.hid hno
    clear hno
    go_wp2_with fail
    refine (ref2_New Aw Ai cw ci L J s wc HLc.out HJc.out hLl hIl HWw.out HIw.out HAi.out).mono ?_
    rintro e w3 (⟨_, rfl, rfl⟩ | ⟨hok, _⟩)
    · go_wp2_with fail
      refine bodyPost_ret (results_tmp4 rfl _ _ _) rfl ?_
      rw [HP.out]
      exact ⟨x2, .inl ⟨Hno.out, rfl⟩⟩
    · exact absurd hok Hno.out
  have Hok := Lib.hid hok
  have HM := Lib.hid hM
  have Hb2 := Lib.hid hb2
  have hz2 := hb2.size
  have HA := Lib.hid hA
  clear hok hM hb2 hA
  go_wp2_with fail
  refine (ref2_New Aw Ai cw ci L J s w2 ((HLc.out.below Hb2.out).moreM hz2) ((HJc.out.below Hb2.out).moreM hz2) hLl hIl HWw.out HIw.out HAi.out).mono ?_
  rintro e w3 (⟨hno, _⟩ | ⟨_, q, vm2, vo2, A2, c2, rfl, hQ, hb3, hA2⟩)
  · exact absurd Hok.out hno
  have HB := Lib.hid (both_new HM.out hQ hb3 hA2 hz2 HA.out)
  have Hb3 := Lib.hid (Hb2.out.trans (hb3.mono hz2))
  have hlr : min R.length 32 ≤ 32 := Nat.min_le_right _ _
  have hlr2 : min R.length 32 ≤ R.length := Nat.min_le_left _ _
  have hmw := regd_keeps (newM L s.toNat J) R
  clear HM hQ hb3 hA2 Hb2 hz2
  generalize hN : newM L s.toNat J = N at *
  go_wp2_with fail
  go_loopw [13] (fun v wr => ∃ k : Nat, k ≤ min R.length 32 ∧ v = .int .i64 k ∧ Both wr wc.heap.size p q J (N.regd R k) (N.regd R k) ∧ Below wc.heap.size wc wr) (fun v _ => min R.length 32 - (intOf v).toNat)
  case atStart => exact ⟨0, by omega, rfl, HB.out, Hb3.out⟩
  case round =>
    obtain ⟨k, hk, rfl, hB, hbr⟩ := hrel
    have q3r := (hbr.cell (p := ⟨w.heap.size, 3, none⟩) gb).trans q3
    have hzr := hbr.size
    have gbr : w.heap.size < wr.heap.size := by omega
    by_cases hk1 : k < R.length
    · by_cases hk2 : k < 32
      · obtain ⟨bR, oR, e, hbR, hcR⟩ := HRc.out (by rw [List.length_map]; omega)
        have hx : (R.map (Value.int .u32))[k]? = some (.int .u32 (R.getD k 0)) := by simp [hk1]
        have hcx := (hbr.cell (p := ⟨bR, oR + k, none⟩) hbR).trans (hcR k _ hx)
        subst e
        have hvb : 0 ≤ R.getD k 0 ∧ R.getD k 0 ≤ 4294967295 := by
          have e3 : R.getD k 0 = R[k] := by simp [hk1]
          rw [e3]
          exact HRw.out _ (List.getElem_mem _)
        have Hnext := Lib.hid (show N.regd R (k + 1) = (N.regd R k).put k (R.getD k 0) from rfl)
        have hbR' : bR < wr.heap.size := by omega
        obtain ⟨sd, hT⟩ := hB
        have HT := Lib.hid hT
        have Hset := Lib.hid (show (N.regd R k).setV k (R.getD k 0) = (N.regd R k).put k (R.getD k 0) by unfold S.Mach.setV; rw [if_pos (by omega)])
        have Hpl := Lib.hid (hmw k)
        clear hx hcR hT
        obtain ⟨m1, hm1⟩ : ∃ m1, m1 = N.regd R (k + 1) := ⟨_, rfl⟩
        rw [← hm1] at Hnext
        have Hm1 := Lib.hid hm1
        clear hm1
        generalize N.regd R k = m0 at *
        generalize R.getD k 0 = v at *
        go_wp2_with fail
        refine (mach_Set k v HT.out.a hvb).mono ?_
        rintro e w5 ⟨rfl, hM5, hO5⟩
        rw [Hset.out] at hM5
        obtain ⟨hB5, hb5⟩ := HT.out.ran (hM5.ran (hO5.weaken fun j _ e => .inl e))
        have hbr5 := hbr.trans hb5
        have q35 := (hbr5.cell (p := ⟨w.heap.size, 3, none⟩) gb).trans q3
        have hcx5 := (hb5.cell (p := ⟨bR, oR + k, none⟩) (show bR < wc.heap.size from hbR)).trans hcx
        have hz5 := hb5.size
        have gb5 : w.heap.size < w5.heap.size := by omega
        have hbR5 : bR < w5.heap.size := by omega
        obtain ⟨sd5, hT5⟩ := hB5
        have HT5 := Lib.hid hT5
        clear hM5 hO5 hT5 HT q3r hcx hb5
        by_cases hk0 : k = 0
        · have H0 := Lib.hid (show m1 = m0 by rw [Hnext.out, hk0]; unfold S.Mach.put; rw [if_pos (by rfl)])
          have H00 := Lib.hid (show m0.put k v = m0 by rw [hk0]; unfold S.Mach.put; rw [if_pos (by rfl)])
          subst hk0
          go_wp2_with fail
          go_roundw
          case rel =>
            refine ⟨1, by omega, by first | rfl | go_num, ?_, hbr5⟩
            rw [show N.regd R 1 = m1 from Hm1.out.symm, H0.out]
            have h := HT5.out
            rw [H00.out] at h
            exact h.both
          case measure =>
            show min R.length 32 - 1 < min R.length 32 - 0
            omega
        · have hf := HT5.out.b.fz k
          have hcq := HT5.out.b.reg hk2
          have hq5 := HT5.out.b.lt
          go_upto_region 15 with fail
          generalize m0.reg.getD k 0 = ov at *
          have hput := HT5.out.b.put (d := k) (v := v) (by omega) (by omega) hvb
          have hO : Only (MFoot q sd5.vm2 sd5.vo2) w5 (w5.setCell ⟨q, k, none⟩ (.int .u32 v)) := Only.setCell _ (.inl rfl) _
          have hput' : RAt (w5.setCell ⟨q, k, none⟩ (.int .u32 v)) wc.heap.size q sd5.vm2 sd5.vo2 sd5.A2 sd5.c2 (m0.put k v) := hput
          obtain ⟨hB6, hb6⟩ := HT5.out.rran (hput'.rran hO)
          have HB6 := Lib.hid (show Both (w5.setCell ⟨q, k, none⟩ (.int .u32 v)).drew wc.heap.size p q J m1 m1 by rw [Hnext.out]; exact hB6.below (Below.refl _ _).drew)
          have Hb6 := Lib.hid (hbr5.trans hb6.drew)
          clear hput hO hput' hB6 hb6
          go_region
          generalize (w5.setCell ⟨q, k, none⟩ (.int .u32 v)).drew = w6 at *
          go_wp2_with fail
          go_roundw
          case rel =>
            refine ⟨k + 1, by omega, by go_num, ?_, Hb6.out⟩
            rw [← Hm1.out]
            exact HB6.out
          case measure =>
            simp only [intOf]
            omega
      · have hke : k = min R.length 32 := by omega
        have Hke := Lib.hid hke
        clear hke
        go_wp2_with fail
        refine bodyPost_ret (results_tmp4 rfl _ _ _) rfl ?_
        rw [Hke.out] at hB
        rw [HP.out]
        exact ⟨x2.trans (hbr.mono (Nat.le_of_lt gb)), .inr ⟨Hok.out, p, q, rfl, hB.base (Nat.le_of_lt gb)⟩⟩
    · have hke : k = min R.length 32 := by omega
      have Hke := Lib.hid hke
      clear hke
      go_wp2_with fail
      refine bodyPost_ret (results_tmp4 rfl _ _ _) rfl ?_
      rw [Hke.out] at hB
      rw [HP.out]
      exact ⟨x2.trans (hbr.mono (Nat.le_of_lt gb)), .inr ⟨Hok.out, p, q, rfl, hB.base (Nat.le_of_lt gb)⟩⟩

end Go.Proofs.Ytbgdomnalimjnaa
