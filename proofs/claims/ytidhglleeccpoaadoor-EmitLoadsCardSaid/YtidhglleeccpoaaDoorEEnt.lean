/- The maker of items: a virtual instruction (any operation), a function's entry. -/
import Derived.Test.YtidhglleeccpoaaDoorEVir
set_option linter.unusedVariables false
set_option linter.unusedSimpArgs false
set_option linter.unusedSectionVars false
namespace Go.Proofs.YtidhglleeccpoaaDoor
open Go.RowKit

theorem mk_virtual (base mb : Nat) (xs : List S.Item) (w : World) (W : Option Addr) (cW : Nat) (words : List Int) (hL : LVE w) (h3b : 3 ≤ base) (h : MkAt base mb (.slice W words.length cW) xs w) (hbw : base ≤ w.heap.size) (hl : xs.length ≤ 890000000) (hW : U32s w base W words) (i : S.VInst) (hop : 64 ≤ i.op ∧ i.op ≤ 74) (hlab : I64 i.label) (himm : I64 i.imm) (U : Value) (MA : Option Addr) (cM : Nat) (hM : Ints w base MA i.map) (hr : S.rising i.map = true) (hs : ∀ s ∈ i.map, 0 ≤ s ∧ s < 16777216) (hll : i.map.length ≤ 1000000) (hslot : i.op = 73 ∨ i.op = 74 → 0 ≤ i.imm ∧ i.imm ≤ 16777216) (hdata : i.op = 71 → 0 ≤ i.imm ∧ i.imm < words.length) :
    Calls Tryd.prog 16 #[.pointer (some ⟨mb, 0, none⟩), .agg (viCells i U (.slice MA i.map.length cM))] w (MkPost base mb (.slice W words.length cW) xs (S.eitems words i) w) := by
  obtain ⟨op, d, a, b, imm, label, uses, map⟩ := i
  simp only at *
  have ho : op = 64 ∨ op = 65 ∨ op = 66 ∨ op = 67 ∨ op = 68 ∨ op = 69 ∨ op = 70 ∨ op = 71 ∨ op = 72 ∨ op = 73 ∨ op = 74 := by omega
  rcases ho with rfl | rfl | rfl | rfl | rfl | rfl | rfl | rfl | rfl | rfl | rfl
  · exact mv_64 base mb _ xs w hL h3b h hbw hl d a b imm label uses map U _ words
  · exact mv_65 base mb _ xs w hL h3b h hbw hl d a b imm label uses map U _ words hlab
  · exact mv_66 base mb _ xs w hL h3b h hbw hl d a b imm label uses map U _ words hlab
  · exact mv_67 base mb _ xs w hL h3b h hbw hl d a b imm label uses map U words himm MA cM hM hr hs hll
  · exact mv_68 base mb _ xs w hL h3b h hbw hl d a b imm label uses map U _ words himm
  · exact mv_69 base mb _ xs w hL h3b h hbw hl d a b imm label uses map U _ words himm
  · exact mv_70 base mb _ xs w hL h3b h hbw hl d a b imm label uses map U _ words himm
  · exact mv_71 base mb _ xs w hL h3b h hbw hl d a b imm label uses map U _ words (hdata rfl) W cW rfl hW
  · exact mv_72 base mb _ xs w hL h3b h hbw hl d a b imm label uses map U _ words himm
  · exact mv_73 base mb _ xs w hL h3b h hbw hl d a b imm label uses map U _ words (hslot (Or.inl rfl))
  · exact mv_74 base mb _ xs w hL h3b h hbw hl d a b imm label uses map U _ words (hslot (Or.inr rfl))

theorem hboxF (w : World) (cs : Array Value) : (w.alloc (.cells cs 28)).heap[w.heap.size]? = some (.cells cs 28 (0, 0)) := heap_alloc_new w _
theorem eload_len (d n : Int) : (S.eload d n).length ≤ 2 := by
  unfold S.eload
  split
  · simp
  · split
    · simp
    · split <;> simp
def vfCells (f : S.VFunc) (I : Value) : Array Value := #[.int .i64 f.fn, .int .i64 f.regs, .int .i64 f.slots, .int .i64 f.need, .int .i64 f.params, .bool f.rest, I]

set_option maxRecDepth 100000 in
set_option maxHeartbeats 1000000 in
theorem en_rest (base mb : Nat) (wv : Value) (w : World) (hL : LVE w) (h3b : 3 ≤ base) (h : MkAt base mb wv [] w) (hbw : base ≤ w.heap.size) (fn regs slots need params : Int) (insts : List S.VInst) (I : Value) (hfn : I64 fn) (hp : 1 ≤ params ∧ params ≤ 16777216) :
    Calls Tryd.prog 12 #[.pointer (some ⟨mb, 0, none⟩), .agg #[.int .i64 fn, .int .i64 regs, .int .i64 slots, .int .i64 need, .int .i64 params, .bool true, I]] w (MkPost base mb wv [] (S.eentry ⟨fn, regs, slots, need, params, true, insts⟩) w) := by
  have hb := (Below.refl w.heap.size w).alloc (Nat.le_refl _) (.cells #[.int .i64 fn, .int .i64 regs, .int .i64 slots, .int .i64 need, .int .i64 params, .bool true, I] 28)
  have HL0 := Lib.hid (hL.on hb)
  have H0 := Lib.hid (h.keep hb)
  have HB0 := Lib.hid (BK.of hb hbw)
  have Hx0 := Lib.hid (hboxF w #[.int .i64 fn, .int .i64 regs, .int .i64 slots, .int .i64 need, .int .i64 params, .bool true, I])
  clear hb
  have hu := Lib.hid (show S.u32 (params - 1) = params - 1 by unfold S.u32; omega)
  have hfx : 0 ≤ params - 1 ∧ params - 1 ≤ 4294967295 := by omega
  have hw1 : IntKind.i64.wrap (params - 1) = params - 1 := by rw [IntWalk.i64_in _ (by omega)]
  have hl1 := eload_len 3 (params - 1)
  go_enter Tryd.func12, Tryd.ntmps12
  go_wp2_with fail
  refine (e_outer fn hfn _ HL0.out).mono ?_
  rintro e w1 ⟨rfl, hb⟩
  have H1 := Lib.hid (H0.out.keep hb)
  have HB1 := Lib.hid (HB0.out.trans (BK.of hb (Nat.le_trans hbw HB0.out.size)))
  have HL1 := Lib.hid (HL0.out.on hb)
  have Hx1 := Lib.hid ((BK.of hb (Nat.le_refl _)).keep _ _ _ _ Hx0.out (by decide) (by decide))
  have c1_0 : w1.cell? ⟨w.heap.size, 0, none⟩ = some (.int .i64 fn) := by rw [Lib.cell_of_heap Hx1.out]; rfl
  have c1_3 : w1.cell? ⟨w.heap.size, 3, none⟩ = some (.int .i64 need) := by rw [Lib.cell_of_heap Hx1.out]; rfl
  have c1_4 : w1.cell? ⟨w.heap.size, 4, none⟩ = some (.int .i64 params) := by rw [Lib.cell_of_heap Hx1.out]; rfl
  have c1_5 : w1.cell? ⟨w.heap.size, 5, none⟩ = some (.bool true) := by rw [Lib.cell_of_heap Hx1.out]; rfl
  obtain ⟨s1, hs1⟩ : ∃ s, s = S.outer fn := ⟨_, rfl⟩
  rw [← hs1]
  have Hs1 := Lib.hid hs1
  clear hb hs1
  go_wp2_with fail
  refine (mk_label base mb wv _ _ H1.out (Nat.le_trans hbw HB1.out.size) (by simp <;> omega) s1).mono ?_
  rintro e w2 ⟨rfl, h2, hb⟩
  have H2 := Lib.hid h2
  have HB2 := Lib.hid (HB1.out.trans hb)
  have HL2 := Lib.hid (HL1.out.keep hb.below h3b)
  have Hx2 := Lib.hid (hb.keep _ _ _ _ Hx1.out (by decide) (by decide))
  have c2_0 : w2.cell? ⟨w.heap.size, 0, none⟩ = some (.int .i64 fn) := by rw [Lib.cell_of_heap Hx2.out]; rfl
  have c2_3 : w2.cell? ⟨w.heap.size, 3, none⟩ = some (.int .i64 need) := by rw [Lib.cell_of_heap Hx2.out]; rfl
  have c2_4 : w2.cell? ⟨w.heap.size, 4, none⟩ = some (.int .i64 params) := by rw [Lib.cell_of_heap Hx2.out]; rfl
  have c2_5 : w2.cell? ⟨w.heap.size, 5, none⟩ = some (.bool true) := by rw [Lib.cell_of_heap Hx2.out]; rfl
  clear hb h2 c1_0 c1_3 c1_4 c1_5
  go_wp2_with fail
  refine (mk_load base mb wv _ _ H2.out (Nat.le_trans hbw HB2.out.size) (by simp <;> omega) 3 (params - 1) hfx.1 hfx.2).mono ?_
  rintro e w3 ⟨rfl, h3, hb⟩
  have H3 := Lib.hid h3
  have HB3 := Lib.hid (HB2.out.trans hb)
  have HL3 := Lib.hid (HL2.out.keep hb.below h3b)
  have Hx3 := Lib.hid (hb.keep _ _ _ _ Hx2.out (by decide) (by decide))
  have c3_0 : w3.cell? ⟨w.heap.size, 0, none⟩ = some (.int .i64 fn) := by rw [Lib.cell_of_heap Hx3.out]; rfl
  have c3_3 : w3.cell? ⟨w.heap.size, 3, none⟩ = some (.int .i64 need) := by rw [Lib.cell_of_heap Hx3.out]; rfl
  have c3_4 : w3.cell? ⟨w.heap.size, 4, none⟩ = some (.int .i64 params) := by rw [Lib.cell_of_heap Hx3.out]; rfl
  have c3_5 : w3.cell? ⟨w.heap.size, 5, none⟩ = some (.bool true) := by rw [Lib.cell_of_heap Hx3.out]; rfl
  clear hb h3 c2_0 c2_3 c2_4 c2_5
  go_wp2_with fail
  refine (e_Label 103 ⟨by decide, by decide⟩ _ HL3.out).mono ?_
  rintro e w4 ⟨rfl, hb⟩
  have H4 := Lib.hid (H3.out.keep hb)
  have HB4 := Lib.hid (HB3.out.trans (BK.of hb (Nat.le_trans hbw HB3.out.size)))
  have HL4 := Lib.hid (HL3.out.on hb)
  have Hx4 := Lib.hid ((BK.of hb (Nat.le_refl _)).keep _ _ _ _ Hx3.out (by decide) (by decide))
  have c4_0 : w4.cell? ⟨w.heap.size, 0, none⟩ = some (.int .i64 fn) := by rw [Lib.cell_of_heap Hx4.out]; rfl
  have c4_3 : w4.cell? ⟨w.heap.size, 3, none⟩ = some (.int .i64 need) := by rw [Lib.cell_of_heap Hx4.out]; rfl
  have c4_4 : w4.cell? ⟨w.heap.size, 4, none⟩ = some (.int .i64 params) := by rw [Lib.cell_of_heap Hx4.out]; rfl
  have c4_5 : w4.cell? ⟨w.heap.size, 5, none⟩ = some (.bool true) := by rw [Lib.cell_of_heap Hx4.out]; rfl
  obtain ⟨s4, hs4⟩ : ∃ s, s = S.rt 103 := ⟨_, rfl⟩
  rw [← hs4]
  have Hs4 := Lib.hid hs4
  clear hb hs4 c3_0 c3_3 c3_4 c3_5
  go_wp2_with fail
  refine (mk_branch base mb wv _ _ H4.out (Nat.le_trans hbw HB4.out.size) (by simp <;> omega) 28 2 3 s4).mono ?_
  rintro e w5 ⟨rfl, h5, hb⟩
  have H5 := Lib.hid h5
  have HB5 := Lib.hid (HB4.out.trans hb)
  have HL5 := Lib.hid (HL4.out.keep hb.below h3b)
  have Hx5 := Lib.hid (hb.keep _ _ _ _ Hx4.out (by decide) (by decide))
  have c5_0 : w5.cell? ⟨w.heap.size, 0, none⟩ = some (.int .i64 fn) := by rw [Lib.cell_of_heap Hx5.out]; rfl
  have c5_3 : w5.cell? ⟨w.heap.size, 3, none⟩ = some (.int .i64 need) := by rw [Lib.cell_of_heap Hx5.out]; rfl
  have c5_4 : w5.cell? ⟨w.heap.size, 4, none⟩ = some (.int .i64 params) := by rw [Lib.cell_of_heap Hx5.out]; rfl
  have c5_5 : w5.cell? ⟨w.heap.size, 5, none⟩ = some (.bool true) := by rw [Lib.cell_of_heap Hx5.out]; rfl
  clear hb h5 c4_0 c4_3 c4_4 c4_5
  go_wp2_with fail
  refine (e_inner fn hfn _ HL5.out).mono ?_
  rintro e w6 ⟨rfl, hb⟩
  have H6 := Lib.hid (H5.out.keep hb)
  have HB6 := Lib.hid (HB5.out.trans (BK.of hb (Nat.le_trans hbw HB5.out.size)))
  have HL6 := Lib.hid (HL5.out.on hb)
  have Hx6 := Lib.hid ((BK.of hb (Nat.le_refl _)).keep _ _ _ _ Hx5.out (by decide) (by decide))
  have c6_0 : w6.cell? ⟨w.heap.size, 0, none⟩ = some (.int .i64 fn) := by rw [Lib.cell_of_heap Hx6.out]; rfl
  have c6_3 : w6.cell? ⟨w.heap.size, 3, none⟩ = some (.int .i64 need) := by rw [Lib.cell_of_heap Hx6.out]; rfl
  have c6_4 : w6.cell? ⟨w.heap.size, 4, none⟩ = some (.int .i64 params) := by rw [Lib.cell_of_heap Hx6.out]; rfl
  have c6_5 : w6.cell? ⟨w.heap.size, 5, none⟩ = some (.bool true) := by rw [Lib.cell_of_heap Hx6.out]; rfl
  obtain ⟨s6, hs6⟩ : ∃ s, s = S.inner fn := ⟨_, rfl⟩
  rw [← hs6]
  have Hs6 := Lib.hid hs6
  clear hb hs6 c5_0 c5_3 c5_4 c5_5
  go_wp2_with fail
  refine (mk_label base mb wv _ _ H6.out (Nat.le_trans hbw HB6.out.size) (by simp <;> omega) s6).mono ?_
  rintro e w7 ⟨rfl, h7, hb⟩
  have H7 := Lib.hid h7
  have HB7 := Lib.hid (HB6.out.trans hb)
  have HL7 := Lib.hid (HL6.out.keep hb.below h3b)
  have Hx7 := Lib.hid (hb.keep _ _ _ _ Hx6.out (by decide) (by decide))
  have c7_0 : w7.cell? ⟨w.heap.size, 0, none⟩ = some (.int .i64 fn) := by rw [Lib.cell_of_heap Hx7.out]; rfl
  have c7_3 : w7.cell? ⟨w.heap.size, 3, none⟩ = some (.int .i64 need) := by rw [Lib.cell_of_heap Hx7.out]; rfl
  have c7_4 : w7.cell? ⟨w.heap.size, 4, none⟩ = some (.int .i64 params) := by rw [Lib.cell_of_heap Hx7.out]; rfl
  have c7_5 : w7.cell? ⟨w.heap.size, 5, none⟩ = some (.bool true) := by rw [Lib.cell_of_heap Hx7.out]; rfl
  clear hb h7 c6_0 c6_3 c6_4 c6_5
  go_wp2_with fail
  refine (mk_load base mb wv _ _ H7.out (Nat.le_trans hbw HB7.out.size) (by simp <;> omega) 3 (params - 1) hfx.1 hfx.2).mono ?_
  rintro e w8 ⟨rfl, h8, hb⟩
  have H8 := Lib.hid h8
  have HB8 := Lib.hid (HB7.out.trans hb)
  have HL8 := Lib.hid (HL7.out.keep hb.below h3b)
  have Hx8 := Lib.hid (hb.keep _ _ _ _ Hx7.out (by decide) (by decide))
  have c8_0 : w8.cell? ⟨w.heap.size, 0, none⟩ = some (.int .i64 fn) := by rw [Lib.cell_of_heap Hx8.out]; rfl
  have c8_3 : w8.cell? ⟨w.heap.size, 3, none⟩ = some (.int .i64 need) := by rw [Lib.cell_of_heap Hx8.out]; rfl
  have c8_4 : w8.cell? ⟨w.heap.size, 4, none⟩ = some (.int .i64 params) := by rw [Lib.cell_of_heap Hx8.out]; rfl
  have c8_5 : w8.cell? ⟨w.heap.size, 5, none⟩ = some (.bool true) := by rw [Lib.cell_of_heap Hx8.out]; rfl
  clear hb h8 c7_0 c7_3 c7_4 c7_5
  go_wp2_with fail
  refine (e_Label 101 ⟨by decide, by decide⟩ _ HL8.out).mono ?_
  rintro e w9 ⟨rfl, hb⟩
  have H9 := Lib.hid (H8.out.keep hb)
  have HB9 := Lib.hid (HB8.out.trans (BK.of hb (Nat.le_trans hbw HB8.out.size)))
  have HL9 := Lib.hid (HL8.out.on hb)
  have Hx9 := Lib.hid ((BK.of hb (Nat.le_refl _)).keep _ _ _ _ Hx8.out (by decide) (by decide))
  have c9_0 : w9.cell? ⟨w.heap.size, 0, none⟩ = some (.int .i64 fn) := by rw [Lib.cell_of_heap Hx9.out]; rfl
  have c9_3 : w9.cell? ⟨w.heap.size, 3, none⟩ = some (.int .i64 need) := by rw [Lib.cell_of_heap Hx9.out]; rfl
  have c9_4 : w9.cell? ⟨w.heap.size, 4, none⟩ = some (.int .i64 params) := by rw [Lib.cell_of_heap Hx9.out]; rfl
  have c9_5 : w9.cell? ⟨w.heap.size, 5, none⟩ = some (.bool true) := by rw [Lib.cell_of_heap Hx9.out]; rfl
  obtain ⟨s9, hs9⟩ : ∃ s, s = S.rt 101 := ⟨_, rfl⟩
  rw [← hs9]
  have Hs9 := Lib.hid hs9
  clear hb hs9 c8_0 c8_3 c8_4 c8_5
  go_wp2_with fail
  refine (mk_jump base mb wv _ _ H9.out (Nat.le_trans hbw HB9.out.size) (by simp <;> omega) 31 s9).mono ?_
  rintro e w10 ⟨rfl, h10, hb⟩
  have H10 := Lib.hid h10
  have HB10 := Lib.hid (HB9.out.trans hb)
  have HL10 := Lib.hid (HL9.out.keep hb.below h3b)
  have Hx10 := Lib.hid (hb.keep _ _ _ _ Hx9.out (by decide) (by decide))
  have c10_0 : w10.cell? ⟨w.heap.size, 0, none⟩ = some (.int .i64 fn) := by rw [Lib.cell_of_heap Hx10.out]; rfl
  have c10_3 : w10.cell? ⟨w.heap.size, 3, none⟩ = some (.int .i64 need) := by rw [Lib.cell_of_heap Hx10.out]; rfl
  have c10_4 : w10.cell? ⟨w.heap.size, 4, none⟩ = some (.int .i64 params) := by rw [Lib.cell_of_heap Hx10.out]; rfl
  have c10_5 : w10.cell? ⟨w.heap.size, 5, none⟩ = some (.bool true) := by rw [Lib.cell_of_heap Hx10.out]; rfl
  clear hb h10 c9_0 c9_3 c9_4 c9_5
  go_wp2_with fail
  go_end0
  refine ⟨rfl, ?_, HB10.out⟩
  have hX := H10.out
  rw [Hs1.out, Hs4.out, Hs6.out, Hs9.out] at hX
  simpa [S.eentry, hu.out] using hX

set_option maxRecDepth 100000 in
set_option maxHeartbeats 1000000 in
theorem en_none (base mb : Nat) (wv : Value) (w : World) (hL : LVE w) (h3b : 3 ≤ base) (h : MkAt base mb wv [] w) (hbw : base ≤ w.heap.size) (fn regs slots need params : Int) (insts : List S.VInst) (I : Value) (hfn : I64 fn) (hn : ¬ 0 < need) :
    Calls Tryd.prog 12 #[.pointer (some ⟨mb, 0, none⟩), .agg #[.int .i64 fn, .int .i64 regs, .int .i64 slots, .int .i64 need, .int .i64 params, .bool false, I]] w (MkPost base mb wv [] (S.eentry ⟨fn, regs, slots, need, params, false, insts⟩) w) := by
  have hb := (Below.refl w.heap.size w).alloc (Nat.le_refl _) (.cells #[.int .i64 fn, .int .i64 regs, .int .i64 slots, .int .i64 need, .int .i64 params, .bool false, I] 28)
  have HL0 := Lib.hid (hL.on hb)
  have H0 := Lib.hid (h.keep hb)
  have HB0 := Lib.hid (BK.of hb hbw)
  have Hx0 := Lib.hid (hboxF w #[.int .i64 fn, .int .i64 regs, .int .i64 slots, .int .i64 need, .int .i64 params, .bool false, I])
  clear hb
  have Hn := Lib.hid hn
  have hfx : 0 ≤ S.u32 params ∧ S.u32 params ≤ 4294967295 := by unfold S.u32; omega
  have hl1 := eload_len 3 (S.u32 params)
  go_enter Tryd.func12, Tryd.ntmps12
  go_wp2_with fail
  refine (e_outer fn hfn _ HL0.out).mono ?_
  rintro e w1 ⟨rfl, hb⟩
  have H1 := Lib.hid (H0.out.keep hb)
  have HB1 := Lib.hid (HB0.out.trans (BK.of hb (Nat.le_trans hbw HB0.out.size)))
  have HL1 := Lib.hid (HL0.out.on hb)
  have Hx1 := Lib.hid ((BK.of hb (Nat.le_refl _)).keep _ _ _ _ Hx0.out (by decide) (by decide))
  have c1_0 : w1.cell? ⟨w.heap.size, 0, none⟩ = some (.int .i64 fn) := by rw [Lib.cell_of_heap Hx1.out]; rfl
  have c1_3 : w1.cell? ⟨w.heap.size, 3, none⟩ = some (.int .i64 need) := by rw [Lib.cell_of_heap Hx1.out]; rfl
  have c1_4 : w1.cell? ⟨w.heap.size, 4, none⟩ = some (.int .i64 params) := by rw [Lib.cell_of_heap Hx1.out]; rfl
  have c1_5 : w1.cell? ⟨w.heap.size, 5, none⟩ = some (.bool false) := by rw [Lib.cell_of_heap Hx1.out]; rfl
  obtain ⟨s1, hs1⟩ : ∃ s, s = S.outer fn := ⟨_, rfl⟩
  rw [← hs1]
  have Hs1 := Lib.hid hs1
  clear hb hs1
  go_wp2_with fail
  refine (mk_label base mb wv _ _ H1.out (Nat.le_trans hbw HB1.out.size) (by simp <;> omega) s1).mono ?_
  rintro e w2 ⟨rfl, h2, hb⟩
  have H2 := Lib.hid h2
  have HB2 := Lib.hid (HB1.out.trans hb)
  have HL2 := Lib.hid (HL1.out.keep hb.below h3b)
  have Hx2 := Lib.hid (hb.keep _ _ _ _ Hx1.out (by decide) (by decide))
  have c2_0 : w2.cell? ⟨w.heap.size, 0, none⟩ = some (.int .i64 fn) := by rw [Lib.cell_of_heap Hx2.out]; rfl
  have c2_3 : w2.cell? ⟨w.heap.size, 3, none⟩ = some (.int .i64 need) := by rw [Lib.cell_of_heap Hx2.out]; rfl
  have c2_4 : w2.cell? ⟨w.heap.size, 4, none⟩ = some (.int .i64 params) := by rw [Lib.cell_of_heap Hx2.out]; rfl
  have c2_5 : w2.cell? ⟨w.heap.size, 5, none⟩ = some (.bool false) := by rw [Lib.cell_of_heap Hx2.out]; rfl
  clear hb h2 c1_0 c1_3 c1_4 c1_5
  go_wp2_with fail
  refine (mk_load base mb wv _ _ H2.out (Nat.le_trans hbw HB2.out.size) (by simp <;> omega) 3 (S.u32 params) hfx.1 hfx.2).mono ?_
  rintro e w3 ⟨rfl, h3, hb⟩
  have H3 := Lib.hid h3
  have HB3 := Lib.hid (HB2.out.trans hb)
  have HL3 := Lib.hid (HL2.out.keep hb.below h3b)
  have Hx3 := Lib.hid (hb.keep _ _ _ _ Hx2.out (by decide) (by decide))
  have c3_0 : w3.cell? ⟨w.heap.size, 0, none⟩ = some (.int .i64 fn) := by rw [Lib.cell_of_heap Hx3.out]; rfl
  have c3_3 : w3.cell? ⟨w.heap.size, 3, none⟩ = some (.int .i64 need) := by rw [Lib.cell_of_heap Hx3.out]; rfl
  have c3_4 : w3.cell? ⟨w.heap.size, 4, none⟩ = some (.int .i64 params) := by rw [Lib.cell_of_heap Hx3.out]; rfl
  have c3_5 : w3.cell? ⟨w.heap.size, 5, none⟩ = some (.bool false) := by rw [Lib.cell_of_heap Hx3.out]; rfl
  clear hb h3 c2_0 c2_3 c2_4 c2_5
  go_wp2_with fail
  refine (e_Label 103 ⟨by decide, by decide⟩ _ HL3.out).mono ?_
  rintro e w4 ⟨rfl, hb⟩
  have H4 := Lib.hid (H3.out.keep hb)
  have HB4 := Lib.hid (HB3.out.trans (BK.of hb (Nat.le_trans hbw HB3.out.size)))
  have HL4 := Lib.hid (HL3.out.on hb)
  have Hx4 := Lib.hid ((BK.of hb (Nat.le_refl _)).keep _ _ _ _ Hx3.out (by decide) (by decide))
  have c4_0 : w4.cell? ⟨w.heap.size, 0, none⟩ = some (.int .i64 fn) := by rw [Lib.cell_of_heap Hx4.out]; rfl
  have c4_3 : w4.cell? ⟨w.heap.size, 3, none⟩ = some (.int .i64 need) := by rw [Lib.cell_of_heap Hx4.out]; rfl
  have c4_4 : w4.cell? ⟨w.heap.size, 4, none⟩ = some (.int .i64 params) := by rw [Lib.cell_of_heap Hx4.out]; rfl
  have c4_5 : w4.cell? ⟨w.heap.size, 5, none⟩ = some (.bool false) := by rw [Lib.cell_of_heap Hx4.out]; rfl
  obtain ⟨s4, hs4⟩ : ∃ s, s = S.rt 103 := ⟨_, rfl⟩
  rw [← hs4]
  have Hs4 := Lib.hid hs4
  clear hb hs4 c3_0 c3_3 c3_4 c3_5
  go_wp2_with fail
  refine (mk_branch base mb wv _ _ H4.out (Nat.le_trans hbw HB4.out.size) (by simp <;> omega) 27 2 3 s4).mono ?_
  rintro e w5 ⟨rfl, h5, hb⟩
  have H5 := Lib.hid h5
  have HB5 := Lib.hid (HB4.out.trans hb)
  have HL5 := Lib.hid (HL4.out.keep hb.below h3b)
  have Hx5 := Lib.hid (hb.keep _ _ _ _ Hx4.out (by decide) (by decide))
  have c5_0 : w5.cell? ⟨w.heap.size, 0, none⟩ = some (.int .i64 fn) := by rw [Lib.cell_of_heap Hx5.out]; rfl
  have c5_3 : w5.cell? ⟨w.heap.size, 3, none⟩ = some (.int .i64 need) := by rw [Lib.cell_of_heap Hx5.out]; rfl
  have c5_4 : w5.cell? ⟨w.heap.size, 4, none⟩ = some (.int .i64 params) := by rw [Lib.cell_of_heap Hx5.out]; rfl
  have c5_5 : w5.cell? ⟨w.heap.size, 5, none⟩ = some (.bool false) := by rw [Lib.cell_of_heap Hx5.out]; rfl
  clear hb h5 c4_0 c4_3 c4_4 c4_5
  go_wp2_with fail
  refine (e_inner fn hfn _ HL5.out).mono ?_
  rintro e w6 ⟨rfl, hb⟩
  have H6 := Lib.hid (H5.out.keep hb)
  have HB6 := Lib.hid (HB5.out.trans (BK.of hb (Nat.le_trans hbw HB5.out.size)))
  have HL6 := Lib.hid (HL5.out.on hb)
  have Hx6 := Lib.hid ((BK.of hb (Nat.le_refl _)).keep _ _ _ _ Hx5.out (by decide) (by decide))
  have c6_0 : w6.cell? ⟨w.heap.size, 0, none⟩ = some (.int .i64 fn) := by rw [Lib.cell_of_heap Hx6.out]; rfl
  have c6_3 : w6.cell? ⟨w.heap.size, 3, none⟩ = some (.int .i64 need) := by rw [Lib.cell_of_heap Hx6.out]; rfl
  have c6_4 : w6.cell? ⟨w.heap.size, 4, none⟩ = some (.int .i64 params) := by rw [Lib.cell_of_heap Hx6.out]; rfl
  have c6_5 : w6.cell? ⟨w.heap.size, 5, none⟩ = some (.bool false) := by rw [Lib.cell_of_heap Hx6.out]; rfl
  obtain ⟨s6, hs6⟩ : ∃ s, s = S.inner fn := ⟨_, rfl⟩
  rw [← hs6]
  have Hs6 := Lib.hid hs6
  clear hb hs6 c5_0 c5_3 c5_4 c5_5
  go_wp2_with fail
  refine (mk_label base mb wv _ _ H6.out (Nat.le_trans hbw HB6.out.size) (by simp <;> omega) s6).mono ?_
  rintro e w7 ⟨rfl, h7, hb⟩
  have H7 := Lib.hid h7
  have HB7 := Lib.hid (HB6.out.trans hb)
  have HL7 := Lib.hid (HL6.out.keep hb.below h3b)
  have Hx7 := Lib.hid (hb.keep _ _ _ _ Hx6.out (by decide) (by decide))
  have c7_0 : w7.cell? ⟨w.heap.size, 0, none⟩ = some (.int .i64 fn) := by rw [Lib.cell_of_heap Hx7.out]; rfl
  have c7_3 : w7.cell? ⟨w.heap.size, 3, none⟩ = some (.int .i64 need) := by rw [Lib.cell_of_heap Hx7.out]; rfl
  have c7_4 : w7.cell? ⟨w.heap.size, 4, none⟩ = some (.int .i64 params) := by rw [Lib.cell_of_heap Hx7.out]; rfl
  have c7_5 : w7.cell? ⟨w.heap.size, 5, none⟩ = some (.bool false) := by rw [Lib.cell_of_heap Hx7.out]; rfl
  clear hb h7 c6_0 c6_3 c6_4 c6_5
  go_wp2_with fail
  go_end0
  refine ⟨rfl, ?_, HB7.out⟩
  have hX := H7.out
  rw [Hs1.out, Hs4.out, Hs6.out] at hX
  unfold S.eentry
  dsimp only
  rw [if_neg (Int.not_lt.2 Hn.out)]
  simpa using hX

set_option maxRecDepth 100000 in
set_option maxHeartbeats 1000000 in
theorem en_need (base mb : Nat) (wv : Value) (w : World) (hL : LVE w) (h3b : 3 ≤ base) (h : MkAt base mb wv [] w) (hbw : base ≤ w.heap.size) (fn regs slots need params : Int) (insts : List S.VInst) (I : Value) (hfn : I64 fn) (hn : 0 < need) :
    Calls Tryd.prog 12 #[.pointer (some ⟨mb, 0, none⟩), .agg #[.int .i64 fn, .int .i64 regs, .int .i64 slots, .int .i64 need, .int .i64 params, .bool false, I]] w (MkPost base mb wv [] (S.eentry ⟨fn, regs, slots, need, params, false, insts⟩) w) := by
  have hb := (Below.refl w.heap.size w).alloc (Nat.le_refl _) (.cells #[.int .i64 fn, .int .i64 regs, .int .i64 slots, .int .i64 need, .int .i64 params, .bool false, I] 28)
  have HL0 := Lib.hid (hL.on hb)
  have H0 := Lib.hid (h.keep hb)
  have HB0 := Lib.hid (BK.of hb hbw)
  have Hx0 := Lib.hid (hboxF w #[.int .i64 fn, .int .i64 regs, .int .i64 slots, .int .i64 need, .int .i64 params, .bool false, I])
  clear hb
  have Hn := Lib.hid hn
  have hfx : 0 ≤ S.u32 params ∧ S.u32 params ≤ 4294967295 := by unfold S.u32; omega
  have hl1 := eload_len 3 (S.u32 params)
  have hnx : 0 ≤ S.u32 need ∧ S.u32 need ≤ 4294967295 := by unfold S.u32; omega
  have hl2 := eload_len 3 (S.u32 need)
  go_enter Tryd.func12, Tryd.ntmps12
  go_wp2_with fail
  refine (e_outer fn hfn _ HL0.out).mono ?_
  rintro e w1 ⟨rfl, hb⟩
  have H1 := Lib.hid (H0.out.keep hb)
  have HB1 := Lib.hid (HB0.out.trans (BK.of hb (Nat.le_trans hbw HB0.out.size)))
  have HL1 := Lib.hid (HL0.out.on hb)
  have Hx1 := Lib.hid ((BK.of hb (Nat.le_refl _)).keep _ _ _ _ Hx0.out (by decide) (by decide))
  have c1_0 : w1.cell? ⟨w.heap.size, 0, none⟩ = some (.int .i64 fn) := by rw [Lib.cell_of_heap Hx1.out]; rfl
  have c1_3 : w1.cell? ⟨w.heap.size, 3, none⟩ = some (.int .i64 need) := by rw [Lib.cell_of_heap Hx1.out]; rfl
  have c1_4 : w1.cell? ⟨w.heap.size, 4, none⟩ = some (.int .i64 params) := by rw [Lib.cell_of_heap Hx1.out]; rfl
  have c1_5 : w1.cell? ⟨w.heap.size, 5, none⟩ = some (.bool false) := by rw [Lib.cell_of_heap Hx1.out]; rfl
  obtain ⟨s1, hs1⟩ : ∃ s, s = S.outer fn := ⟨_, rfl⟩
  rw [← hs1]
  have Hs1 := Lib.hid hs1
  clear hb hs1
  go_wp2_with fail
  refine (mk_label base mb wv _ _ H1.out (Nat.le_trans hbw HB1.out.size) (by simp <;> omega) s1).mono ?_
  rintro e w2 ⟨rfl, h2, hb⟩
  have H2 := Lib.hid h2
  have HB2 := Lib.hid (HB1.out.trans hb)
  have HL2 := Lib.hid (HL1.out.keep hb.below h3b)
  have Hx2 := Lib.hid (hb.keep _ _ _ _ Hx1.out (by decide) (by decide))
  have c2_0 : w2.cell? ⟨w.heap.size, 0, none⟩ = some (.int .i64 fn) := by rw [Lib.cell_of_heap Hx2.out]; rfl
  have c2_3 : w2.cell? ⟨w.heap.size, 3, none⟩ = some (.int .i64 need) := by rw [Lib.cell_of_heap Hx2.out]; rfl
  have c2_4 : w2.cell? ⟨w.heap.size, 4, none⟩ = some (.int .i64 params) := by rw [Lib.cell_of_heap Hx2.out]; rfl
  have c2_5 : w2.cell? ⟨w.heap.size, 5, none⟩ = some (.bool false) := by rw [Lib.cell_of_heap Hx2.out]; rfl
  clear hb h2 c1_0 c1_3 c1_4 c1_5
  go_wp2_with fail
  refine (mk_load base mb wv _ _ H2.out (Nat.le_trans hbw HB2.out.size) (by simp <;> omega) 3 (S.u32 params) hfx.1 hfx.2).mono ?_
  rintro e w3 ⟨rfl, h3, hb⟩
  have H3 := Lib.hid h3
  have HB3 := Lib.hid (HB2.out.trans hb)
  have HL3 := Lib.hid (HL2.out.keep hb.below h3b)
  have Hx3 := Lib.hid (hb.keep _ _ _ _ Hx2.out (by decide) (by decide))
  have c3_0 : w3.cell? ⟨w.heap.size, 0, none⟩ = some (.int .i64 fn) := by rw [Lib.cell_of_heap Hx3.out]; rfl
  have c3_3 : w3.cell? ⟨w.heap.size, 3, none⟩ = some (.int .i64 need) := by rw [Lib.cell_of_heap Hx3.out]; rfl
  have c3_4 : w3.cell? ⟨w.heap.size, 4, none⟩ = some (.int .i64 params) := by rw [Lib.cell_of_heap Hx3.out]; rfl
  have c3_5 : w3.cell? ⟨w.heap.size, 5, none⟩ = some (.bool false) := by rw [Lib.cell_of_heap Hx3.out]; rfl
  clear hb h3 c2_0 c2_3 c2_4 c2_5
  go_wp2_with fail
  refine (e_Label 103 ⟨by decide, by decide⟩ _ HL3.out).mono ?_
  rintro e w4 ⟨rfl, hb⟩
  have H4 := Lib.hid (H3.out.keep hb)
  have HB4 := Lib.hid (HB3.out.trans (BK.of hb (Nat.le_trans hbw HB3.out.size)))
  have HL4 := Lib.hid (HL3.out.on hb)
  have Hx4 := Lib.hid ((BK.of hb (Nat.le_refl _)).keep _ _ _ _ Hx3.out (by decide) (by decide))
  have c4_0 : w4.cell? ⟨w.heap.size, 0, none⟩ = some (.int .i64 fn) := by rw [Lib.cell_of_heap Hx4.out]; rfl
  have c4_3 : w4.cell? ⟨w.heap.size, 3, none⟩ = some (.int .i64 need) := by rw [Lib.cell_of_heap Hx4.out]; rfl
  have c4_4 : w4.cell? ⟨w.heap.size, 4, none⟩ = some (.int .i64 params) := by rw [Lib.cell_of_heap Hx4.out]; rfl
  have c4_5 : w4.cell? ⟨w.heap.size, 5, none⟩ = some (.bool false) := by rw [Lib.cell_of_heap Hx4.out]; rfl
  obtain ⟨s4, hs4⟩ : ∃ s, s = S.rt 103 := ⟨_, rfl⟩
  rw [← hs4]
  have Hs4 := Lib.hid hs4
  clear hb hs4 c3_0 c3_3 c3_4 c3_5
  go_wp2_with fail
  refine (mk_branch base mb wv _ _ H4.out (Nat.le_trans hbw HB4.out.size) (by simp <;> omega) 27 2 3 s4).mono ?_
  rintro e w5 ⟨rfl, h5, hb⟩
  have H5 := Lib.hid h5
  have HB5 := Lib.hid (HB4.out.trans hb)
  have HL5 := Lib.hid (HL4.out.keep hb.below h3b)
  have Hx5 := Lib.hid (hb.keep _ _ _ _ Hx4.out (by decide) (by decide))
  have c5_0 : w5.cell? ⟨w.heap.size, 0, none⟩ = some (.int .i64 fn) := by rw [Lib.cell_of_heap Hx5.out]; rfl
  have c5_3 : w5.cell? ⟨w.heap.size, 3, none⟩ = some (.int .i64 need) := by rw [Lib.cell_of_heap Hx5.out]; rfl
  have c5_4 : w5.cell? ⟨w.heap.size, 4, none⟩ = some (.int .i64 params) := by rw [Lib.cell_of_heap Hx5.out]; rfl
  have c5_5 : w5.cell? ⟨w.heap.size, 5, none⟩ = some (.bool false) := by rw [Lib.cell_of_heap Hx5.out]; rfl
  clear hb h5 c4_0 c4_3 c4_4 c4_5
  go_wp2_with fail
  refine (e_inner fn hfn _ HL5.out).mono ?_
  rintro e w6 ⟨rfl, hb⟩
  have H6 := Lib.hid (H5.out.keep hb)
  have HB6 := Lib.hid (HB5.out.trans (BK.of hb (Nat.le_trans hbw HB5.out.size)))
  have HL6 := Lib.hid (HL5.out.on hb)
  have Hx6 := Lib.hid ((BK.of hb (Nat.le_refl _)).keep _ _ _ _ Hx5.out (by decide) (by decide))
  have c6_0 : w6.cell? ⟨w.heap.size, 0, none⟩ = some (.int .i64 fn) := by rw [Lib.cell_of_heap Hx6.out]; rfl
  have c6_3 : w6.cell? ⟨w.heap.size, 3, none⟩ = some (.int .i64 need) := by rw [Lib.cell_of_heap Hx6.out]; rfl
  have c6_4 : w6.cell? ⟨w.heap.size, 4, none⟩ = some (.int .i64 params) := by rw [Lib.cell_of_heap Hx6.out]; rfl
  have c6_5 : w6.cell? ⟨w.heap.size, 5, none⟩ = some (.bool false) := by rw [Lib.cell_of_heap Hx6.out]; rfl
  obtain ⟨s6, hs6⟩ : ∃ s, s = S.inner fn := ⟨_, rfl⟩
  rw [← hs6]
  have Hs6 := Lib.hid hs6
  clear hb hs6 c5_0 c5_3 c5_4 c5_5
  go_wp2_with fail
  refine (mk_label base mb wv _ _ H6.out (Nat.le_trans hbw HB6.out.size) (by simp <;> omega) s6).mono ?_
  rintro e w7 ⟨rfl, h7, hb⟩
  have H7 := Lib.hid h7
  have HB7 := Lib.hid (HB6.out.trans hb)
  have HL7 := Lib.hid (HL6.out.keep hb.below h3b)
  have Hx7 := Lib.hid (hb.keep _ _ _ _ Hx6.out (by decide) (by decide))
  have c7_0 : w7.cell? ⟨w.heap.size, 0, none⟩ = some (.int .i64 fn) := by rw [Lib.cell_of_heap Hx7.out]; rfl
  have c7_3 : w7.cell? ⟨w.heap.size, 3, none⟩ = some (.int .i64 need) := by rw [Lib.cell_of_heap Hx7.out]; rfl
  have c7_4 : w7.cell? ⟨w.heap.size, 4, none⟩ = some (.int .i64 params) := by rw [Lib.cell_of_heap Hx7.out]; rfl
  have c7_5 : w7.cell? ⟨w.heap.size, 5, none⟩ = some (.bool false) := by rw [Lib.cell_of_heap Hx7.out]; rfl
  clear hb h7 c6_0 c6_3 c6_4 c6_5
  go_wp2_with fail
  refine (mk_load base mb wv _ _ H7.out (Nat.le_trans hbw HB7.out.size) (by simp <;> omega) 3 (S.u32 need) hnx.1 hnx.2).mono ?_
  rintro e w8 ⟨rfl, h8, hb⟩
  have H8 := Lib.hid h8
  have HB8 := Lib.hid (HB7.out.trans hb)
  have HL8 := Lib.hid (HL7.out.keep hb.below h3b)
  have Hx8 := Lib.hid (hb.keep _ _ _ _ Hx7.out (by decide) (by decide))
  have c8_0 : w8.cell? ⟨w.heap.size, 0, none⟩ = some (.int .i64 fn) := by rw [Lib.cell_of_heap Hx8.out]; rfl
  have c8_3 : w8.cell? ⟨w.heap.size, 3, none⟩ = some (.int .i64 need) := by rw [Lib.cell_of_heap Hx8.out]; rfl
  have c8_4 : w8.cell? ⟨w.heap.size, 4, none⟩ = some (.int .i64 params) := by rw [Lib.cell_of_heap Hx8.out]; rfl
  have c8_5 : w8.cell? ⟨w.heap.size, 5, none⟩ = some (.bool false) := by rw [Lib.cell_of_heap Hx8.out]; rfl
  clear hb h8 c7_0 c7_3 c7_4 c7_5
  go_wp2_with fail
  refine (mk_inst base mb wv _ _ H8.out (Nat.le_trans hbw HB8.out.size) (by simp <;> omega) 1 3 26 3 0).mono ?_
  rintro e w9 ⟨rfl, h9, hb⟩
  have H9 := Lib.hid h9
  have HB9 := Lib.hid (HB8.out.trans hb)
  have HL9 := Lib.hid (HL8.out.keep hb.below h3b)
  have Hx9 := Lib.hid (hb.keep _ _ _ _ Hx8.out (by decide) (by decide))
  have c9_0 : w9.cell? ⟨w.heap.size, 0, none⟩ = some (.int .i64 fn) := by rw [Lib.cell_of_heap Hx9.out]; rfl
  have c9_3 : w9.cell? ⟨w.heap.size, 3, none⟩ = some (.int .i64 need) := by rw [Lib.cell_of_heap Hx9.out]; rfl
  have c9_4 : w9.cell? ⟨w.heap.size, 4, none⟩ = some (.int .i64 params) := by rw [Lib.cell_of_heap Hx9.out]; rfl
  have c9_5 : w9.cell? ⟨w.heap.size, 5, none⟩ = some (.bool false) := by rw [Lib.cell_of_heap Hx9.out]; rfl
  clear hb h9 c8_0 c8_3 c8_4 c8_5
  go_wp2_with fail
  refine (mk_branch base mb wv _ _ H9.out (Nat.le_trans hbw HB9.out.size) (by simp <;> omega) 31 27 3 S.goLab).mono ?_
  rintro e w10 ⟨rfl, h10, hb⟩
  have H10 := Lib.hid h10
  have HB10 := Lib.hid (HB9.out.trans hb)
  have HL10 := Lib.hid (HL9.out.keep hb.below h3b)
  have Hx10 := Lib.hid (hb.keep _ _ _ _ Hx9.out (by decide) (by decide))
  have c10_0 : w10.cell? ⟨w.heap.size, 0, none⟩ = some (.int .i64 fn) := by rw [Lib.cell_of_heap Hx10.out]; rfl
  have c10_3 : w10.cell? ⟨w.heap.size, 3, none⟩ = some (.int .i64 need) := by rw [Lib.cell_of_heap Hx10.out]; rfl
  have c10_4 : w10.cell? ⟨w.heap.size, 4, none⟩ = some (.int .i64 params) := by rw [Lib.cell_of_heap Hx10.out]; rfl
  have c10_5 : w10.cell? ⟨w.heap.size, 5, none⟩ = some (.bool false) := by rw [Lib.cell_of_heap Hx10.out]; rfl
  clear hb h10 c9_0 c9_3 c9_4 c9_5
  go_wp2_with fail
  refine (mk_load base mb wv _ _ H10.out (Nat.le_trans hbw HB10.out.size) (by simp <;> omega) 3 (S.u32 need) hnx.1 hnx.2).mono ?_
  rintro e w11 ⟨rfl, h11, hb⟩
  have H11 := Lib.hid h11
  have HB11 := Lib.hid (HB10.out.trans hb)
  have HL11 := Lib.hid (HL10.out.keep hb.below h3b)
  have Hx11 := Lib.hid (hb.keep _ _ _ _ Hx10.out (by decide) (by decide))
  have c11_0 : w11.cell? ⟨w.heap.size, 0, none⟩ = some (.int .i64 fn) := by rw [Lib.cell_of_heap Hx11.out]; rfl
  have c11_3 : w11.cell? ⟨w.heap.size, 3, none⟩ = some (.int .i64 need) := by rw [Lib.cell_of_heap Hx11.out]; rfl
  have c11_4 : w11.cell? ⟨w.heap.size, 4, none⟩ = some (.int .i64 params) := by rw [Lib.cell_of_heap Hx11.out]; rfl
  have c11_5 : w11.cell? ⟨w.heap.size, 5, none⟩ = some (.bool false) := by rw [Lib.cell_of_heap Hx11.out]; rfl
  clear hb h11 c10_0 c10_3 c10_4 c10_5
  go_wp2_with fail
  refine (e_Label 100 ⟨by decide, by decide⟩ _ HL11.out).mono ?_
  rintro e w12 ⟨rfl, hb⟩
  have H12 := Lib.hid (H11.out.keep hb)
  have HB12 := Lib.hid (HB11.out.trans (BK.of hb (Nat.le_trans hbw HB11.out.size)))
  have HL12 := Lib.hid (HL11.out.on hb)
  have Hx12 := Lib.hid ((BK.of hb (Nat.le_refl _)).keep _ _ _ _ Hx11.out (by decide) (by decide))
  have c12_0 : w12.cell? ⟨w.heap.size, 0, none⟩ = some (.int .i64 fn) := by rw [Lib.cell_of_heap Hx12.out]; rfl
  have c12_3 : w12.cell? ⟨w.heap.size, 3, none⟩ = some (.int .i64 need) := by rw [Lib.cell_of_heap Hx12.out]; rfl
  have c12_4 : w12.cell? ⟨w.heap.size, 4, none⟩ = some (.int .i64 params) := by rw [Lib.cell_of_heap Hx12.out]; rfl
  have c12_5 : w12.cell? ⟨w.heap.size, 5, none⟩ = some (.bool false) := by rw [Lib.cell_of_heap Hx12.out]; rfl
  obtain ⟨s12, hs12⟩ : ∃ s, s = S.rt 100 := ⟨_, rfl⟩
  rw [← hs12]
  have Hs12 := Lib.hid hs12
  clear hb hs12 c11_0 c11_3 c11_4 c11_5
  go_wp2_with fail
  refine (mk_jump base mb wv _ _ H12.out (Nat.le_trans hbw HB12.out.size) (by simp <;> omega) 31 s12).mono ?_
  rintro e w13 ⟨rfl, h13, hb⟩
  have H13 := Lib.hid h13
  have HB13 := Lib.hid (HB12.out.trans hb)
  have HL13 := Lib.hid (HL12.out.keep hb.below h3b)
  have Hx13 := Lib.hid (hb.keep _ _ _ _ Hx12.out (by decide) (by decide))
  have c13_0 : w13.cell? ⟨w.heap.size, 0, none⟩ = some (.int .i64 fn) := by rw [Lib.cell_of_heap Hx13.out]; rfl
  have c13_3 : w13.cell? ⟨w.heap.size, 3, none⟩ = some (.int .i64 need) := by rw [Lib.cell_of_heap Hx13.out]; rfl
  have c13_4 : w13.cell? ⟨w.heap.size, 4, none⟩ = some (.int .i64 params) := by rw [Lib.cell_of_heap Hx13.out]; rfl
  have c13_5 : w13.cell? ⟨w.heap.size, 5, none⟩ = some (.bool false) := by rw [Lib.cell_of_heap Hx13.out]; rfl
  clear hb h13 c12_0 c12_3 c12_4 c12_5
  go_wp2_with fail
  refine (mk_label base mb wv _ _ H13.out (Nat.le_trans hbw HB13.out.size) (by simp <;> omega) S.goLab).mono ?_
  rintro e w14 ⟨rfl, h14, hb⟩
  have H14 := Lib.hid h14
  have HB14 := Lib.hid (HB13.out.trans hb)
  have HL14 := Lib.hid (HL13.out.keep hb.below h3b)
  have Hx14 := Lib.hid (hb.keep _ _ _ _ Hx13.out (by decide) (by decide))
  have c14_0 : w14.cell? ⟨w.heap.size, 0, none⟩ = some (.int .i64 fn) := by rw [Lib.cell_of_heap Hx14.out]; rfl
  have c14_3 : w14.cell? ⟨w.heap.size, 3, none⟩ = some (.int .i64 need) := by rw [Lib.cell_of_heap Hx14.out]; rfl
  have c14_4 : w14.cell? ⟨w.heap.size, 4, none⟩ = some (.int .i64 params) := by rw [Lib.cell_of_heap Hx14.out]; rfl
  have c14_5 : w14.cell? ⟨w.heap.size, 5, none⟩ = some (.bool false) := by rw [Lib.cell_of_heap Hx14.out]; rfl
  clear hb h14 c13_0 c13_3 c13_4 c13_5
  go_wp2_with fail
  go_end0
  refine ⟨rfl, ?_, HB14.out⟩
  have hX := H14.out
  rw [Hs1.out, Hs4.out, Hs6.out, Hs12.out] at hX
  simpa [S.eentry, Hn.out] using hX

end Go.Proofs.YtidhglleeccpoaaDoor
