/- The law MachRuns: its walk. -/
import Derived.Test.YtbgdomnalimjnaaStepsA
set_option linter.unusedVariables false
set_option linter.unusedSimpArgs false
set_option linter.unusedSectionVars false
namespace Go.Proofs.Ytbgdomnalimjnaa
open Go.RowKit

/-- A list of triples that came in. -/
def Puts (w : World) (B : Nat) (A : Option Addr) (l : List (Int × Int × Int)) : Prop :=
  0 < l.length → ∃ b off, A = some ⟨b, off, none⟩ ∧ b < B ∧ ∀ i x, l[i]? = some x → w.cell? ⟨b, off + i * 3, none⟩ = some (.int .i64 x.1) ∧ w.cell? ⟨b, off + i * 3 + 1, none⟩ = some (.int .i64 x.2.1) ∧ w.cell? ⟨b, off + i * 3 + 2, none⟩ = some (.int .i64 x.2.2)
theorem Puts.below {w w' : World} {B : Nat} {A : Option Addr} {l : List (Int × Int × Int)} (h : Puts w B A l) (hb : Below B w w') : Puts w' B A l := fun hp => by
  obtain ⟨b, off, e, hbB, hc⟩ := h hp
  exact ⟨b, off, e, hbB, fun i x hx => ⟨(hb.cell (p := ⟨b, off + i * 3, none⟩) hbB).trans (hc i x hx).1, (hb.cell (p := ⟨b, off + i * 3 + 1, none⟩) hbB).trans (hc i x hx).2.1, (hb.cell (p := ⟨b, off + i * 3 + 2, none⟩) hbB).trans (hc i x hx).2.2⟩⟩

/-- Both machines are one machine that told and went at most so far. -/
def Far (w0 w : World) (B p q : Nat) (J : List Int) (k : Nat) : Prop := ∃ m : S.Mach, Both w B p q J m m ∧ m.out.length ≤ k ∧ 0 ≤ m.steps ∧ m.steps ≤ k ∧ Below B w0 w

theorem Far.of {w0 w : World} {B p q : Nat} {J : List Int} {K : Nat} {m n : S.Mach} (hB : Both w B p q J m m) (ho : m.out = n.out ∧ m.steps = n.steps) (h1 : n.out.length ≤ K) (h2 : 0 ≤ n.steps) (h3 : n.steps ≤ K) (hb : Below B w0 w) : Far w0 w B p q J K :=
  ⟨m, hB, by rw [ho.1]; exact h1, by rw [ho.2]; exact h2, by rw [ho.2]; exact h3, hb⟩
theorem putV_keeps (m : S.Mach) (i v : Int) : (m.putV i v).out = m.out ∧ (m.putV i v).steps = m.steps := by
  unfold S.Mach.putV
  split <;> exact ⟨rfl, rfl⟩
theorem setV_keeps (m : S.Mach) (i v : Int) : (m.setV i v).out = m.out ∧ (m.setV i v).steps = m.steps := by
  unfold S.Mach.setV S.Mach.put
  split
  · split <;> exact ⟨rfl, rfl⟩
  · exact ⟨rfl, rfl⟩
theorem goV_keeps (m : S.Mach) (v : Int) : (m.goV v).out = m.out ∧ (m.goV v).steps = m.steps := by
  unfold S.Mach.goV
  split <;> exact ⟨rfl, rfl⟩

set_option maxRecDepth 100000 in
set_option maxHeartbeats 8000000 in
theorem law_MachRuns (Aw Ai Ar Af Ap : Option Addr) (cw ci cr cf cp : Nat) (W I R F : List Int) (P : List (Int × Int × Int)) (size : Int) (w : World) (hS : Sett w Aw Ai Ar cw ci cr W I R)
    (hF : Reads w w.heap.size Af (F.map (Value.int .i64))) (hP : Puts w w.heap.size Ap P) (hlf : F.length ≤ maxLen) (hlp : P.length ≤ maxLen) :
    Calls Try.prog 11 #[.agg #[.slice Aw W.length cw, .int .i64 size, .slice Ai I.length ci, .slice Ar R.length cr], .slice Af F.length cf, .slice Ap P.length cp] w fun e w' => e = .returned (.bool true) ∧ Below w.heap.size w w' := by
  obtain ⟨f1, f2, _⟩ := madeM_facts W I R size
  have HS := Lib.hid hS
  have HF := Lib.hid hF
  have HP := Lib.hid hP
  simp only [maxLen] at hlf hlp
  clear hS hF hP
  go_enter Try.func11, Try.ntmps11
  go_upto_region 1 with fail
  obtain ⟨x1, x2, x3⟩ := one_allocM w #[.slice Aw W.length cw, .int .i64 size, .slice Ai I.length ci, .slice Ar R.length cr] 25
  generalize w.alloc (.cells #[.slice Aw W.length cw, .int .i64 size, .slice Ai I.length ci, .slice Ar R.length cr] 25) = wb at *
  have q0 : wb.cell? ⟨w.heap.size, 0, none⟩ = some (.slice Aw W.length cw) := by rw [blk_cellM x1]; rfl
  have q1 : wb.cell? ⟨w.heap.size, 1, none⟩ = some (.int .i64 size) := by rw [blk_cellM x1]; rfl
  have q2 : wb.cell? ⟨w.heap.size, 2, none⟩ = some (.slice Ai I.length ci) := by rw [blk_cellM x1]; rfl
  have q3 : wb.cell? ⟨w.heap.size, 3, none⟩ = some (.slice Ar R.length cr) := by rw [blk_cellM x1]; rfl
  have gb : w.heap.size < wb.heap.size := by omega
  clear x1 x3
  go_wp2_with fail
  refine ((HS.out.below x2).made size).mono ?_
  rintro e w2 ⟨hb2, ⟨_, rfl⟩ | ⟨_, p, q, rfl, hB⟩⟩
  · have hbz := x2.trans (hb2.mono x2.size)
    clear x2 hb2
    go_wp2_with fail
    refine (law2_works w2).mono ?_
    rintro e w3 ⟨rfl, hb3⟩
    go_wp2_with fail
    go_ret
    exact ⟨rfl, hbz.trans (hb3.mono hbz.size)⟩
  have hB' := hB.base x2.size
  have hbz := x2.trans (hb2.mono x2.size)
  have HB : Hid (Far w w2 w.heap.size p q (I.take 50) 0) := Lib.hid ⟨_, hB', by omega, by omega, by omega, hbz⟩
  clear hB hB' x2 hb2 q0 q1 q2 q3 gb hbz f1 f2
  generalize I.take 50 = J at *
  go_wp2_with fail
  go_loopw [11] (fun v wr => ∃ k : Nat, k ≤ F.length ∧ k ≤ 8 ∧ v = .int .i64 k ∧ Far w wr w.heap.size p q J (500 * k)) (fun v _ => 8 - (intOf v).toNat)
  case atStart => exact ⟨0, by omega, by omega, rfl, HB.out⟩
  case round =>
    obtain ⟨k, hk, hk8, rfl, m, hB, hm1, hm2, hm3, hbr⟩ := hrel
    by_cases hlt : k < F.length
    · by_cases hlt8 : k < 8
      · obtain ⟨bF, oF, e, hbF, hcF⟩ := (HF.out.below hbr) (by simp; omega)
        have hx : (F.map (Value.int .i64))[k]? = some (.int .i64 (F.getD k 0)) := by simp [hlt]
        have hcx := hcF k _ hx
        have hz := hbr.size
        have hbF' : bF < wr.heap.size := by omega
        have HFe := Lib.hid e
        subst e
        generalize F.getD k 0 = fv at *
        clear hcF hx
        go_upto_region 7 with fail
        go_cut [12] (fun v12 wc => ∃ y : Int, y ≤ 500 ∧ v12 = .int .i64 y ∧ wc = wr)
        case first =>
          go_wp2_with fail
          all_goals
            go_meet
            refine ⟨_, ?_, rfl, rfl⟩
            omega
        case rest =>
        obtain ⟨y, hy, rfl, rfl⟩ := hcut
        obtain ⟨sd, hT⟩ := hB
        have hg := steps_grow m y.toNat
        go_wp2_with fail
        refine (mach_Run y hT.a (by omega) (by omega) (by omega)).mono ?_
        rintro e w3 ⟨rfl, hR3⟩
        obtain ⟨⟨sd3, hT3⟩, hb3⟩ := hT.ran hR3
        have hbr3 := hbr.trans hb3
        clear hR3 hb3 hT
        go_wp2_with fail
        refine (ref2_Run y hT3.b (by omega) (by omega) (by omega)).mono ?_
        rintro e w4 ⟨rfl, hR4⟩
        obtain ⟨⟨sd4, hT4⟩, hb4⟩ := hT3.rran hR4
        have hbr4 := hbr3.trans hb4
        have hml : (m.steps_ y.toNat).out.length ≤ 500 * (k + 1) ∧ 0 ≤ (m.steps_ y.toNat).steps ∧ (m.steps_ y.toNat).steps ≤ 500 * (k + 1) := by omega
        obtain ⟨hn1, hn2, hn3⟩ := hml
        clear hR4 hb4 hT3 hbr3 hg hm1 hm2 hm3 hbr hcx
        generalize m.steps_ y.toNat = n at *
        go_upto_if 58 with fail
        go_cut [13] (fun _ wc => Far w wc w.heap.size p q J (500 * (k + 1)))
        case first =>
          by_cases hp : k < P.length
          · obtain ⟨⟨t0, t1, t2⟩, hx⟩ : ∃ x, P[k]? = some x := ⟨P[k], by simp [hp]⟩
            obtain ⟨bP, oP, e, hbP, hcP⟩ := (HP.out.below hbr4) (by omega)
            obtain ⟨g0, g1, g2⟩ := hcP k _ hx
            simp only at g0 g1 g2
            subst e
            have hbP4 : bP < w4.heap.size := by have := hbr4.size; omega
            have HT := Lib.hid hT4
            clear hcP hx hT4
            go_upto_region 11 with fail
            go_cut [13, 14] (fun v13 v14 wc => ∃ u : Int, 0 ≤ u ∧ u ≤ 4294967295 ∧ v13 = .int .i64 t1 ∧ v14 = .int .u32 u ∧ wc = w4.drew)
            case first =>
              go_region
              go_wp2_with fail
              go_meet
              exact ⟨t2 % 4294967296, by omega, by omega, rfl, rfl, rfl⟩
            case rest =>
            obtain ⟨u, hu0, hu1, rfl, rfl, rfl⟩ := hcut
            have HT5 := Lib.hid (HT.out.below (Below.refl _ _).drew)
            have hbr5 := hbr4.drew
            have g0' : w4.drew.cell? ⟨bP, oP + k * 3, none⟩ = some (.int .i64 t0) := g0
            have hbP5 : bP < w4.drew.heap.size := hbP4
            clear g0 g1 g2 HT hbr4 hbP4 hbP
            generalize w4.drew = w5 at *
            by_cases ht0 : Int.tmod t0 3 = 0
            · obtain ⟨ko, ks⟩ := putV_keeps n t1 u
              by_cases hat : 0 ≤ t1 ∧ t1 < n.mem.length
              · have Hp := Lib.hid (show n.putV t1 u = { n with mem := n.mem.set t1.toNat u } by unfold S.Mach.putV; rw [if_pos hat])
                have Hif := Lib.hid hat
                obtain ⟨j, rfl⟩ : ∃ j : Nat, t1 = j := ⟨t1.toNat, by omega⟩
                have hjl : j < n.mem.length := by omega
                go_wp2_with fail
                refine (mach_Put j u HT5.out.a ⟨hu0, hu1⟩).mono ?_
                rintro e w6 ⟨rfl, hM6, hO6⟩
                rw [if_pos Hif.out]
                obtain ⟨⟨sd6, hT6⟩, hb6⟩ := HT5.out.ran (hM6.ran hO6)
                have hbr6 := hbr5.trans hb6
                have hl0 := hT6.b.low0
                obtain ⟨gq, capq, hvmq, hgq, hmcq, hfzq⟩ := hT6.b.memv
                obtain ⟨c32q, _⟩ := hT6.b.cells
                have hq6 := hT6.b.lt
                rw [hvmq] at c32q
                have hstq := hmcq j hjl
                have hfq := hfzq j
                have HS6 := Lib.hid (hT6.b.sw hvmq ⟨hu0, hu1⟩ hjl)
                have HT6 := Lib.hid hT6
                have Hvq := Lib.hid hvmq
                clear hM6 hO6 hb6 hmcq hfzq hT6 hvmq
                generalize n.mem.getD j 0 = ov at *
                go_wp2_with fail
                go_meet
                have hS6 := HS6.out
                rw [show n.mem.set j u = n.mem.set (j : Int).toNat u from rfl, ← Hp.out] at hS6
                obtain ⟨hB7, hb7⟩ := HT6.out.rran (hS6.rran (Only.setCell _ (.inr (.inl (by rw [Hvq.out]; rfl))) _))
                exact Far.of hB7 ⟨ko, ks⟩ hn1 hn2 hn3 (hbr6.trans hb7)
              · have Hp := Lib.hid (show n.putV t1 u = n by unfold S.Mach.putV; rw [if_neg hat])
                have Hif := Lib.hid hat
                by_cases hneg : 0 ≤ t1
                · have hge : ¬ t1 < n.mem.length := fun h => hat ⟨hneg, h⟩
                  clear hat
                  go_wp2_with fail
                  refine (mach_Put t1 u HT5.out.a ⟨hu0, hu1⟩).mono ?_
                  rintro e w6 ⟨rfl, hM6, hO6⟩
                  rw [if_neg Hif.out]
                  obtain ⟨⟨sd6, hT6⟩, hb6⟩ := HT5.out.ran (hM6.ran hO6)
                  have hbr6 := hbr5.trans hb6
                  obtain ⟨gq, capq, hvmq, hgq, _, _⟩ := hT6.b.memv
                  obtain ⟨c32q, _⟩ := hT6.b.cells
                  have hq6 := hT6.b.lt
                  rw [hvmq] at c32q
                  rw [Hp.out] at hT6
                  have HT6 := Lib.hid hT6
                  clear hM6 hO6 hb6 hT6 hvmq
                  go_wp2_with fail
                  go_meet
                  exact Far.of HT6.out.both ⟨rfl, rfl⟩ hn1 hn2 hn3 hbr6
                · clear hat
                  go_wp2_with fail
                  refine (mach_Put t1 u HT5.out.a ⟨hu0, hu1⟩).mono ?_
                  rintro e w6 ⟨rfl, hM6, hO6⟩
                  rw [if_neg Hif.out]
                  obtain ⟨⟨sd6, hT6⟩, hb6⟩ := HT5.out.ran (hM6.ran hO6)
                  have hbr6 := hbr5.trans hb6
                  rw [Hp.out] at hT6
                  have HT6 := Lib.hid hT6
                  clear hM6 hO6 hb6 hT6
                  go_wp2_with fail
                  go_meet
                  exact Far.of HT6.out.both ⟨rfl, rfl⟩ hn1 hn2 hn3 hbr6
            · by_cases ht1 : Int.tmod t0 3 = 1
              · obtain ⟨ko, ks⟩ := setV_keeps n t1 u
                by_cases hat : 0 ≤ t1 ∧ t1 < 32
                · have Hp := Lib.hid (show n.setV t1 u = n.put t1 u by unfold S.Mach.setV; rw [if_pos hat])
                  have Hif := Lib.hid hat
                  obtain ⟨j, rfl⟩ : ∃ j : Nat, t1 = j := ⟨t1.toNat, by omega⟩
                  have hjl : j < 32 := by omega
                  by_cases hj0 : j = 0
                  · have H0 := Lib.hid (show n.setV 0 u = n by unfold S.Mach.setV S.Mach.put; simp)
                    subst hj0
                    go_wp2_with fail
                    refine (mach_Set 0 u HT5.out.a ⟨hu0, hu1⟩).mono ?_
                    rintro e w6 ⟨rfl, hM6, hO6⟩
                    rw [show (if (0 : Int) ≤ 0 ∧ (0 : Int) < 32 then (0 : Int) else 2) = 0 from rfl]
                    obtain ⟨⟨sd6, hT6⟩, hb6⟩ := HT5.out.ran (hM6.ran (hO6.weaken fun j _ e => .inl e))
                    have hbr6 := hbr5.trans hb6
                    rw [H0.out] at hT6
                    have HT6 := Lib.hid hT6
                    clear hM6 hO6 hb6 hT6
                    go_wp2_with fail
                    go_meet
                    exact Far.of HT6.out.both ⟨rfl, rfl⟩ hn1 hn2 hn3 hbr6
                  · go_wp2_with fail
                    refine (mach_Set j u HT5.out.a ⟨hu0, hu1⟩).mono ?_
                    rintro e w6 ⟨rfl, hM6, hO6⟩
                    rw [if_pos Hif.out]
                    obtain ⟨⟨sd6, hT6⟩, hb6⟩ := HT5.out.ran (hM6.ran (hO6.weaken fun j _ e => .inl e))
                    have hbr6 := hbr5.trans hb6
                    have hq6 := hT6.b.lt
                    have hf := hT6.b.fz j
                    have hcq := hT6.b.reg hjl
                    have HS6 := Lib.hid (hT6.b.put (d := j) (v := u) (by omega) (by omega) ⟨hu0, hu1⟩)
                    have HT6 := Lib.hid hT6
                    clear hM6 hO6 hb6 hT6
                    generalize n.reg.getD j 0 = ov at *
                    go_wp2_with fail
                    go_meet
                    have hS6 : RAt (w6.setCell ⟨q, j, none⟩ (.int .u32 u)) w.heap.size q sd6.vm2 sd6.vo2 sd6.A2 sd6.c2 (n.put j u) := HS6.out
                    rw [← Hp.out] at hS6
                    obtain ⟨hB7, hb7⟩ := HT6.out.rran (hS6.rran (Only.setCell _ (.inl rfl) _))
                    exact Far.of hB7 ⟨ko, ks⟩ hn1 hn2 hn3 (hbr6.trans hb7)
                · have Hp := Lib.hid (show n.setV t1 u = n by unfold S.Mach.setV; rw [if_neg hat])
                  have Hif := Lib.hid hat
                  by_cases hneg : 0 ≤ t1
                  · have hge : ¬ t1 < 32 := fun h => hat ⟨hneg, h⟩
                    clear hat
                    go_wp2_with fail
                    refine (mach_Set t1 u HT5.out.a ⟨hu0, hu1⟩).mono ?_
                    rintro e w6 ⟨rfl, hM6, hO6⟩
                    rw [if_neg Hif.out]
                    obtain ⟨⟨sd6, hT6⟩, hb6⟩ := HT5.out.ran (hM6.ran (hO6.weaken fun j _ e => .inl e))
                    have hbr6 := hbr5.trans hb6
                    rw [Hp.out] at hT6
                    have HT6 := Lib.hid hT6
                    clear hM6 hO6 hb6 hT6
                    go_wp2_with fail
                    go_meet
                    exact Far.of HT6.out.both ⟨rfl, rfl⟩ hn1 hn2 hn3 hbr6
                  · clear hat
                    go_wp2_with fail
                    refine (mach_Set t1 u HT5.out.a ⟨hu0, hu1⟩).mono ?_
                    rintro e w6 ⟨rfl, hM6, hO6⟩
                    rw [if_neg Hif.out]
                    obtain ⟨⟨sd6, hT6⟩, hb6⟩ := HT5.out.ran (hM6.ran (hO6.weaken fun j _ e => .inl e))
                    have hbr6 := hbr5.trans hb6
                    rw [Hp.out] at hT6
                    have HT6 := Lib.hid hT6
                    clear hM6 hO6 hb6 hT6
                    go_wp2_with fail
                    go_meet
                    exact Far.of HT6.out.both ⟨rfl, rfl⟩ hn1 hn2 hn3 hbr6
              · obtain ⟨ko, ks⟩ := goV_keeps n u
                by_cases hs : n.state = 0
                · have d0 : (n.state == 0) = true := by simp [hs]
                  have d1 : (n.state != 0) = false := by simp [hs]
                  have Hp := Lib.hid (show n.goV u = { n with place := u } by unfold S.Mach.goV; rw [if_neg (by simpa using hs)])
                  have Hif := Lib.hid (show ¬ n.state ≠ 0 by simpa using hs)
                  clear hs
                  go_wp2_with fail
                  refine (mach_Go u HT5.out.a ⟨hu0, hu1⟩).mono ?_
                  rintro e w6 ⟨rfl, hM6, hO6⟩
                  rw [if_neg Hif.out]
                  obtain ⟨⟨sd6, hT6⟩, hb6⟩ := HT5.out.ran (hM6.ran (hO6.weaken fun j _ e => .inl e))
                  have hbr6 := hbr5.trans hb6
                  have hq6 := hT6.b.lt
                  have hf := hT6.b.fz 33
                  obtain ⟨_, c33q, _, _, c36q, _⟩ := hT6.b.cells
                  have HS6 := Lib.hid (hT6.b.went ⟨hu0, hu1⟩)
                  have HT6 := Lib.hid hT6
                  clear hM6 hO6 hb6 hT6
                  go_wp2_with fail
                  go_meet
                  have hS6 := HS6.out
                  rw [← Hp.out] at hS6
                  obtain ⟨hB7, hb7⟩ := HT6.out.rran (hS6.rran (Only.setCell _ (.inl rfl) _))
                  exact Far.of hB7 ⟨ko, ks⟩ hn1 hn2 hn3 (hbr6.trans hb7)
                · have d0 : (n.state == 0) = false := by simpa using hs
                  have d1 : (n.state != 0) = true := by simpa using hs
                  have Hp := Lib.hid (show n.goV u = n by unfold S.Mach.goV; rw [if_pos hs])
                  have Hif := Lib.hid (show n.state ≠ 0 from hs)
                  clear hs
                  go_wp2_with fail
                  refine (mach_Go u HT5.out.a ⟨hu0, hu1⟩).mono ?_
                  rintro e w6 ⟨rfl, hM6, hO6⟩
                  rw [if_pos Hif.out]
                  obtain ⟨⟨sd6, hT6⟩, hb6⟩ := HT5.out.ran (hM6.ran (hO6.weaken fun j _ e => .inl e))
                  have hbr6 := hbr5.trans hb6
                  have hq6 := hT6.b.lt
                  obtain ⟨_, _, _, _, c36q, _⟩ := hT6.b.cells
                  rw [Hp.out] at hT6
                  have HT6 := Lib.hid hT6
                  clear hM6 hO6 hb6 hT6
                  go_wp2_with fail
                  go_meet
                  exact Far.of HT6.out.both ⟨rfl, rfl⟩ hn1 hn2 hn3 hbr6
          · go_wp2_with fail
            go_meet
            exact Far.of hT4.both ⟨rfl, rfl⟩ hn1 hn2 hn3 hbr4
        case rest =>
        obtain ⟨m2, ⟨sd5, hT5⟩, g1, g2, g3, hbr5⟩ := hcut
        go_wp2_with fail
        refine (law2_alike hT5.a hT5.b (by omega)).mono ?_
        rintro e w6 ⟨rfl, hb6⟩
        have HB6 : Hid (Far w w6 w.heap.size p q J (500 * (k + 1))) := Lib.hid ⟨m2, (hT5.below hb6).both, g1, g2, g3, hbr5.trans (hb6.mono hbr5.size)⟩
        clear hb6 hT5 hbr5
        go_wp2_with fail
        go_roundw
        case rel => exact ⟨k + 1, by omega, by omega, by go_num, HB6.out⟩
        case measure =>
          simp only [intOf]
          omega
      · go_wp2_with fail
        refine (law2_works _).mono ?_
        rintro e w6 ⟨rfl, hb6⟩
        go_wp2_with fail
        go_ret
        exact ⟨rfl, hbr.trans (hb6.mono hbr.size)⟩
    · go_wp2_with fail
      refine (law2_works _).mono ?_
      rintro e w6 ⟨rfl, hb6⟩
      go_wp2_with fail
      go_ret
      exact ⟨rfl, hbr.trans (hb6.mono hbr.size)⟩

end Go.Proofs.Ytbgdomnalimjnaa
