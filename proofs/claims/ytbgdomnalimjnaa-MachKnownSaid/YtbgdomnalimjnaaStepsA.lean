/- The law MachSteps: its walk. -/
import Derived.Test.YtbgdomnalimjnaaWorksB
set_option linter.unusedVariables false
set_option linter.unusedSimpArgs false
set_option linter.unusedSectionVars false
namespace Go.Proofs.Ytbgdomnalimjnaa
open Go.RowKit

/-- A setting that came in. -/
structure Sett (w : World) (Aw Ai Ar : Option Addr) (cw ci cr : Nat) (W I R : List Int) : Prop where
  hW : Reads w w.heap.size Aw (W.map (Value.int .u32))
  hI : Reads w w.heap.size Ai (I.map (Value.int .u8))
  hR : Reads w w.heap.size Ar (R.map (Value.int .u32))
  lw : W.length ≤ cw ∧ cw ≤ maxLen
  li : I.length ≤ ci ∧ ci ≤ maxLen
  lr : R.length ≤ cr ∧ cr ≤ maxLen
  bw : ∀ x ∈ W, 0 ≤ x ∧ x ≤ 4294967295
  bi : ∀ x ∈ I, 0 ≤ x ∧ x ≤ 255
  br : ∀ x ∈ R, 0 ≤ x ∧ x ≤ 4294967295
theorem Sett.below {w w' : World} {Aw Ai Ar : Option Addr} {cw ci cr : Nat} {W I R : List Int} (h : Sett w Aw Ai Ar cw ci cr W I R) (hb : Below w.heap.size w w') : Sett w' Aw Ai Ar cw ci cr W I R :=
  ⟨(h.hW.below hb).moreM hb.size, (h.hI.below hb).moreM hb.size, (h.hR.below hb).moreM hb.size, h.lw, h.li, h.lr, h.bw, h.bi, h.br⟩
theorem Sett.made {w : World} {Aw Ai Ar : Option Addr} {cw ci cr : Nat} {W I R : List Int} (h : Sett w Aw Ai Ar cw ci cr W I R) (size : Int) :
    Calls Try.prog 13 #[.agg #[.slice Aw W.length cw, .int .i64 size, .slice Ai I.length ci, .slice Ar R.length cr]] w (MadePost w W I R size) :=
  law2_made Aw Ai Ar cw ci cr W I R size w h.hW h.hI h.hR h.lw h.li h.lr h.bw h.bi h.br
theorem madeM_facts (W I R : List Int) (size : Int) : (madeM W I R size).out.length = 0 ∧ (madeM W I R size).steps = 0 ∧ (madeM W I R size).state = 0 := by
  have h := regd_keeps (newM (W.take 200) (setSize size).toNat (I.take 50)) R (min R.length 32)
  obtain ⟨_, h2, h3, h4, _⟩ := h
  refine ⟨?_, h3, h4⟩
  show (S.Mach.out (S.Mach.regd _ _ _)).length = 0
  rw [h2]; rfl

set_option maxRecDepth 100000 in
set_option maxHeartbeats 8000000 in
theorem law_MachSteps (Aw Ai Ar : Option Addr) (cw ci cr : Nat) (W I R : List Int) (size n : Int) (w : World) (hS : Sett w Aw Ai Ar cw ci cr W I R) (hn : 0 ≤ n ∧ n ≤ 255) :
    Calls Try.prog 3 #[.agg #[.slice Aw W.length cw, .int .i64 size, .slice Ai I.length ci, .slice Ar R.length cr], .int .u8 n] w fun e w' => e = .returned (.bool true) ∧ Below w.heap.size w w' := by
  obtain ⟨f1, f2, _⟩ := madeM_facts W I R size
  have hg := steps_grow (madeM W I R size)
  have HS := Lib.hid hS
  go_enter Try.func3, Try.ntmps3
  go_upto_region 1 with fail
  obtain ⟨x1, x2, x3⟩ := one_allocM w #[.slice Aw W.length cw, .int .i64 size, .slice Ai I.length ci, .slice Ar R.length cr] 25
  generalize w.alloc (.cells #[.slice Aw W.length cw, .int .i64 size, .slice Ai I.length ci, .slice Ar R.length cr] 25) = wb at *
  have q0 : wb.cell? ⟨w.heap.size, 0, none⟩ = some (.slice Aw W.length cw) := by rw [blk_cellM x1]; rfl
  have q1 : wb.cell? ⟨w.heap.size, 1, none⟩ = some (.int .i64 size) := by rw [blk_cellM x1]; rfl
  have q2 : wb.cell? ⟨w.heap.size, 2, none⟩ = some (.slice Ai I.length ci) := by rw [blk_cellM x1]; rfl
  have q3 : wb.cell? ⟨w.heap.size, 3, none⟩ = some (.slice Ar R.length cr) := by rw [blk_cellM x1]; rfl
  have gb : w.heap.size < wb.heap.size := by omega
  clear x1 x3
  go_wp2_with fail
  refine ((HS.out.below x2).made size).mono ?_
  rintro e w2 ⟨hb2, ⟨_, rfl⟩ | ⟨_, p, q, rfl, hB⟩⟩
  · have hbz := x2.trans (hb2.mono x2.size)
    clear x2 hb2
    go_wp2_with fail
    refine (law2_works w2).mono ?_
    rintro e w3 ⟨rfl, hb3⟩
    go_wp2_with fail
    go_ret
    exact ⟨rfl, hbz.trans (hb3.mono hbz.size)⟩
  have hB' := hB.base x2.size
  have hbz := x2.trans (hb2.mono x2.size)
  have HB := Lib.hid hB'
  generalize madeM W I R size = M at *
  clear hB hB' x2 hb2 q0 q1 q2 q3 gb
  go_wp2_with fail
  go_loopw [9] (fun v wr => ∃ k : Nat, (k : Int) ≤ n % 61 ∧ v = .int .i64 k ∧ Both wr w.heap.size p q (I.take 50) (M.steps_ k) (M.steps_ k) ∧ Below w.heap.size w wr) (fun v _ => (n % 61).toNat - (intOf v).toNat)
  case atStart => exact ⟨0, by omega, rfl, HB.out, hbz⟩
  case round =>
    obtain ⟨k, hk, rfl, hB, hbr⟩ := hrel
    obtain ⟨sd, hT⟩ := hB
    have hgk := hg k
    by_cases hlt : (k : Int) < n % 61
    · have Hn := Lib.hid (show M.steps_ (k + 1) = (M.steps_ k).step from rfl)
      have hgk1 := hg (k + 1)
      rw [Hn.out] at hgk1
      go_wp2_with fail
      refine (step_run hT.a (by omega) (by omega)).mono ?_
      rintro e w3 ⟨rfl, hR3⟩
      obtain ⟨⟨sd3, hT3⟩, hb3⟩ := hT.ran hR3
      have hbr3 := hbr.trans hb3
      clear hR3 hb3 hT
      go_wp2_with fail
      refine (ref2_Step hT3.b (by omega) (by omega)).mono ?_
      rintro e w4 ⟨rfl, hR4⟩
      obtain ⟨⟨sd4, hT4⟩, hb4⟩ := hT3.rran hR4
      have hbr4 := hbr3.trans hb4
      clear hR4 hb4 hT3 hbr3
      go_wp2_with fail
      refine (law2_alike hT4.a hT4.b (by omega)).mono ?_
      rintro e w5 ⟨rfl, hb5⟩
      have HB5 := Lib.hid ((hT4.below hb5).both)
      have hbr5 := hbr4.trans (hb5.mono hbr4.size)
      clear hb5 hT4 hbr4
      go_wp2_with fail
      go_roundw
      case rel => exact ⟨k + 1, by omega, by go_num, HB5.out, hbr5⟩
      case measure =>
        simp only [intOf]
        omega
    · go_wp2_with fail
      refine (law2_alike hT.a hT.b (by omega)).mono ?_
      rintro e w5 ⟨rfl, hb5⟩
      have hbr5 := hbr.trans (hb5.mono hbr.size)
      clear hb5 hT hbr
      go_wp2_with fail
      refine (law2_works w5).mono ?_
      rintro e w6 ⟨rfl, hb6⟩
      go_wp2_with fail
      go_ret
      exact ⟨rfl, hbr5.trans (hb6.mono hbr5.size)⟩

end Go.Proofs.Ytbgdomnalimjnaa
