/- pennantref24.Items. -/
import Derived.Test.YtkdalaiponchbaaDoorR24D
import Derived.Test.YtkdalaiponchbaaDoorEEmP
set_option linter.unusedVariables false
set_option linter.unusedSimpArgs false
set_option linter.unusedSectionVars false
namespace Go.Proofs.YtkdalaiponchbaaDoor
open Go.RowKit

theorem LstP.up {w wb : World} {xs : List S.Item} (hb : Below w.heap.size w wb) {e : Ending} {w' : World} (h : LstP xs wb e w') : LstP xs w e w' := by
  obtain ⟨A, c, rfl, ho, hb'⟩ := h
  exact ⟨A, c, rfl, ownsRow_base ho hb.size, hb.trans (hb'.mono hb.size)⟩

set_option maxRecDepth 100000 in
set_option maxHeartbeats 2000000 in
theorem ri_plain (op d a b imm label : Int) (uses map : List Int) (U M : Value) (W : Option Addr) (cW : Nat) (words : List Int) (w : World) (hop : 1 ≤ op ∧ op < 26) :
    Calls Tryd.prog 33 #[.agg #[.int .i64 op, .int .i64 d, .int .i64 a, .int .i64 b, .int .i64 imm, .int .i64 label, U, M], .slice W words.length cW] w (LstP (S.eitems words ⟨op, d, a, b, imm, label, uses, map⟩) w) := by
  have HI := Lib.hid (show S.eitems words ⟨op, d, a, b, imm, label, uses, map⟩ = [S.iInst op d a b imm] from eitems_plain words _ hop.2)
  rw [HI.out]
  clear HI
  have hbx : Below w.heap.size w (w.alloc (.cells #[.int .i64 op, .int .i64 d, .int .i64 a, .int .i64 b, .int .i64 imm, .int .i64 label, U, M] 44)) := (Below.refl _ _).alloc (Nat.le_refl _) _
  have hr := heap_alloc_new w (.cells #[.int .i64 op, .int .i64 d, .int .i64 a, .int .i64 b, .int .i64 imm, .int .i64 label, U, M] 44)
  have hz : w.heap.size < (w.alloc (.cells #[.int .i64 op, .int .i64 d, .int .i64 a, .int .i64 b, .int .i64 imm, .int .i64 label, U, M] 44)).heap.size := by simp
  go_enter Tryd.func33, Tryd.ntmps33
  go_upto_region 1 with fail
  generalize w.alloc (.cells #[.int .i64 op, .int .i64 d, .int .i64 a, .int .i64 b, .int .i64 imm, .int .i64 label, U, M] 44) = wb at *
  have HC := fun (w9 : World) (hb : Below wb.heap.size wb w9) j => (show w9.cell? ⟨w.heap.size, j, none⟩ = #[.int .i64 op, .int .i64 d, .int .i64 a, .int .i64 b, .int .i64 imm, .int .i64 label, U, M][j]? by rw [Lib.cell_of_heap ((hb.block _ hz).trans hr)])
  have c0 := HC wb (Below.refl _ _) 0
  have c1 := HC wb (Below.refl _ _) 1
  have c2 := HC wb (Below.refl _ _) 2
  have c3 := HC wb (Below.refl _ _) 3
  have c4 := HC wb (Below.refl _ _) 4
  have c5 := HC wb (Below.refl _ _) 5
  simp only [List.getElem?_toArray, List.getElem?_cons_zero, List.getElem?_cons_succ] at c0 c1 c2 c3 c4 c5
  have HCC := Lib.hid HC
  clear HC hr
  have n26 : ¬ 26 ≤ op := by omega
  have m64 := int_bne (show op ≠ 64 by omega)
  have m65 := int_bne (show op ≠ 65 by omega)
  have m66 := int_bne (show op ≠ 66 by omega)
  have m67 := int_bne (show op ≠ 67 by omega)
  have m68 := int_bne (show op ≠ 68 by omega)
  have m69 := int_bne (show op ≠ 69 by omega)
  have m70 := int_bne (show op ≠ 70 by omega)
  have m71 := int_bne (show op ≠ 71 by omega)
  have m72 := int_bne (show op ≠ 72 by omega)
  have m73 := int_bne (show op ≠ 73 by omega)
  have m74 := int_bne (show op ≠ 74 by omega)
  clear hop
  go_wp2_with fail
  refine (r_iInst op d a b imm wb).mono ?_
  rintro e w3 ⟨rfl, hb⟩
  have Hb3 := Lib.hid (hbx.trans (hb.mono hbx.size))
  clear hb
  unfold itemV S.iInst S.noLab
  go_wp2_with fail
  go_ret
  exact lst_lit Hb3.out [S.iInst op d a b imm] _ rfl (by simp) 1 rfl

set_option maxRecDepth 100000 in
set_option maxHeartbeats 2000000 in
theorem ri_branch (op d a b imm label : Int) (uses map : List Int) (U M : Value) (W : Option Addr) (cW : Nat) (words : List Int) (w : World) (hop : 26 ≤ op ∧ op ≤ 31) (hlab : I64 label) :
    Calls Tryd.prog 33 #[.agg #[.int .i64 op, .int .i64 d, .int .i64 a, .int .i64 b, .int .i64 imm, .int .i64 label, U, M], .slice W words.length cW] w (LstP (S.eitems words ⟨op, d, a, b, imm, label, uses, map⟩) w) := by
  have HI := Lib.hid (show S.eitems words ⟨op, d, a, b, imm, label, uses, map⟩ = [S.iBranch op a b (S.own label)] from eitems_branch words _ hop)
  rw [HI.out]
  clear HI
  have hbx : Below w.heap.size w (w.alloc (.cells #[.int .i64 op, .int .i64 d, .int .i64 a, .int .i64 b, .int .i64 imm, .int .i64 label, U, M] 44)) := (Below.refl _ _).alloc (Nat.le_refl _) _
  have hr := heap_alloc_new w (.cells #[.int .i64 op, .int .i64 d, .int .i64 a, .int .i64 b, .int .i64 imm, .int .i64 label, U, M] 44)
  have hz : w.heap.size < (w.alloc (.cells #[.int .i64 op, .int .i64 d, .int .i64 a, .int .i64 b, .int .i64 imm, .int .i64 label, U, M] 44)).heap.size := by simp
  go_enter Tryd.func33, Tryd.ntmps33
  go_upto_region 1 with fail
  generalize w.alloc (.cells #[.int .i64 op, .int .i64 d, .int .i64 a, .int .i64 b, .int .i64 imm, .int .i64 label, U, M] 44) = wb at *
  have HC := fun (w9 : World) (hb : Below wb.heap.size wb w9) j => (show w9.cell? ⟨w.heap.size, j, none⟩ = #[.int .i64 op, .int .i64 d, .int .i64 a, .int .i64 b, .int .i64 imm, .int .i64 label, U, M][j]? by rw [Lib.cell_of_heap ((hb.block _ hz).trans hr)])
  have c0 := HC wb (Below.refl _ _) 0
  have c1 := HC wb (Below.refl _ _) 1
  have c2 := HC wb (Below.refl _ _) 2
  have c3 := HC wb (Below.refl _ _) 3
  have c4 := HC wb (Below.refl _ _) 4
  have c5 := HC wb (Below.refl _ _) 5
  simp only [List.getElem?_toArray, List.getElem?_cons_zero, List.getElem?_cons_succ] at c0 c1 c2 c3 c4 c5
  have HCC := Lib.hid HC
  clear HC hr
  obtain ⟨o1, o2⟩ := hop
  have HO := Lib.hid (show S.own label = (⟨#[46, 108]⟩ : ByteArray) ++ ⟨(S.itoa label).toArray⟩ from (str_app [46, 108] (S.itoa label)).symm)
  have hl := itoa_len label
  have Hn := Lib.hid (fun y : Ext wb => r24_number label hlab y.val)
  generalize S.itoa label = li at *
  go_upto_region 2 with fail
  refine wp_region_ext_tail 12 (by kernel_rfl) (by kernel_rfl) ?_
  have hE := ext_cells wb
  simp only [List.take_succ_cons, List.take_zero, List.drop_succ_cons, List.drop_zero]
  repeat (first
    | go_big_quiet_step ((go_at_call 46; exact ext_of (Hn.out _))))
  refine wpQuiet_nil ?_
  rintro w8 ⟨⟨_, hb8⟩, rfl⟩
  have Hb8 := Lib.hid (hbx.trans (hb8.mono hbx.size))
  clear hE hb8
  go_wp2_with fail
  go_ret
  exact lst_lit Hb8.out [S.iBranch op a b (S.own label)] _ (by simp only [List.flatMap_cons, List.flatMap_nil, itemCells, S.iBranch, HO.out]; rfl) (by simp) 1 rfl

set_option maxRecDepth 100000 in
set_option maxHeartbeats 2000000 in
theorem ri_64n (d a b imm label : Int) (uses map : List Int) (U M : Value) (W : Option Addr) (cW : Nat) (words : List Int) (w : World) (hda : d ≠ a) :
    Calls Tryd.prog 33 #[.agg #[.int .i64 64, .int .i64 d, .int .i64 a, .int .i64 b, .int .i64 imm, .int .i64 label, U, M], .slice W words.length cW] w (LstP (S.eitems words ⟨64, d, a, b, imm, label, uses, map⟩) w) := by
  have HI := Lib.hid (show S.eitems words ⟨64, d, a, b, imm, label, uses, map⟩ = [S.iInst 15 d a 0 0] from by simp [S.eitems, hda])
  rw [HI.out]
  clear HI
  have hbx : Below w.heap.size w (w.alloc (.cells #[.int .i64 64, .int .i64 d, .int .i64 a, .int .i64 b, .int .i64 imm, .int .i64 label, U, M] 44)) := (Below.refl _ _).alloc (Nat.le_refl _) _
  have hr := heap_alloc_new w (.cells #[.int .i64 64, .int .i64 d, .int .i64 a, .int .i64 b, .int .i64 imm, .int .i64 label, U, M] 44)
  have hz : w.heap.size < (w.alloc (.cells #[.int .i64 64, .int .i64 d, .int .i64 a, .int .i64 b, .int .i64 imm, .int .i64 label, U, M] 44)).heap.size := by simp
  go_enter Tryd.func33, Tryd.ntmps33
  go_upto_region 1 with fail
  generalize w.alloc (.cells #[.int .i64 64, .int .i64 d, .int .i64 a, .int .i64 b, .int .i64 imm, .int .i64 label, U, M] 44) = wb at *
  have HC := fun (w9 : World) (hb : Below wb.heap.size wb w9) j => (show w9.cell? ⟨w.heap.size, j, none⟩ = #[.int .i64 64, .int .i64 d, .int .i64 a, .int .i64 b, .int .i64 imm, .int .i64 label, U, M][j]? by rw [Lib.cell_of_heap ((hb.block _ hz).trans hr)])
  have c0 := HC wb (Below.refl _ _) 0
  have c1 := HC wb (Below.refl _ _) 1
  have c2 := HC wb (Below.refl _ _) 2
  have c3 := HC wb (Below.refl _ _) 3
  have c4 := HC wb (Below.refl _ _) 4
  have c5 := HC wb (Below.refl _ _) 5
  simp only [List.getElem?_toArray, List.getElem?_cons_zero, List.getElem?_cons_succ] at c0 c1 c2 c3 c4 c5
  have HCC := Lib.hid HC
  clear HC hr
  have hne := int_bne hda
  go_wp2_with fail
  refine (r_iInst 15 d a 0 0 wb).mono ?_
  rintro e w3 ⟨rfl, hb⟩
  have Hb3 := Lib.hid (hbx.trans (hb.mono hbx.size))
  clear hb
  unfold itemV S.iInst S.noLab
  go_wp2_with fail
  go_ret
  exact lst_lit Hb3.out [S.iInst 15 d a 0 0] _ rfl (by simp) 1 rfl

set_option maxRecDepth 100000 in
set_option maxHeartbeats 2000000 in
theorem ri_64e (d a b imm label : Int) (uses map : List Int) (U M : Value) (W : Option Addr) (cW : Nat) (words : List Int) (w : World) (hda : d = a) :
    Calls Tryd.prog 33 #[.agg #[.int .i64 64, .int .i64 d, .int .i64 a, .int .i64 b, .int .i64 imm, .int .i64 label, U, M], .slice W words.length cW] w (LstP (S.eitems words ⟨64, d, a, b, imm, label, uses, map⟩) w) := by
  have HI := Lib.hid (show S.eitems words ⟨64, d, a, b, imm, label, uses, map⟩ = [] from by simp [S.eitems, hda])
  rw [HI.out]
  clear HI
  subst hda
  have hbx : Below w.heap.size w (w.alloc (.cells #[.int .i64 64, .int .i64 d, .int .i64 d, .int .i64 b, .int .i64 imm, .int .i64 label, U, M] 44)) := (Below.refl _ _).alloc (Nat.le_refl _) _
  have hr := heap_alloc_new w (.cells #[.int .i64 64, .int .i64 d, .int .i64 d, .int .i64 b, .int .i64 imm, .int .i64 label, U, M] 44)
  have hz : w.heap.size < (w.alloc (.cells #[.int .i64 64, .int .i64 d, .int .i64 d, .int .i64 b, .int .i64 imm, .int .i64 label, U, M] 44)).heap.size := by simp
  go_enter Tryd.func33, Tryd.ntmps33
  go_upto_region 1 with fail
  generalize w.alloc (.cells #[.int .i64 64, .int .i64 d, .int .i64 d, .int .i64 b, .int .i64 imm, .int .i64 label, U, M] 44) = wb at *
  have HC := fun (w9 : World) (hb : Below wb.heap.size wb w9) j => (show w9.cell? ⟨w.heap.size, j, none⟩ = #[.int .i64 64, .int .i64 d, .int .i64 d, .int .i64 b, .int .i64 imm, .int .i64 label, U, M][j]? by rw [Lib.cell_of_heap ((hb.block _ hz).trans hr)])
  have c0 := HC wb (Below.refl _ _) 0
  have c1 := HC wb (Below.refl _ _) 1
  have c2 := HC wb (Below.refl _ _) 2
  have c3 := HC wb (Below.refl _ _) 3
  have c4 := HC wb (Below.refl _ _) 4
  have c5 := HC wb (Below.refl _ _) 5
  simp only [List.getElem?_toArray, List.getElem?_cons_zero, List.getElem?_cons_succ] at c0 c1 c2 c3 c4 c5
  have HCC := Lib.hid HC
  clear HC hr
  go_wp2_with fail
  go_ret
  exact ⟨none, 0, rfl, World.ownsRow_nil _ _ _ _, hbx⟩

set_option maxRecDepth 100000 in
set_option maxHeartbeats 2000000 in
theorem ri_65 (d a b imm label : Int) (uses map : List Int) (U M : Value) (W : Option Addr) (cW : Nat) (words : List Int) (w : World) (hlab : I64 label) :
    Calls Tryd.prog 33 #[.agg #[.int .i64 65, .int .i64 d, .int .i64 a, .int .i64 b, .int .i64 imm, .int .i64 label, U, M], .slice W words.length cW] w (LstP (S.eitems words ⟨65, d, a, b, imm, label, uses, map⟩) w) := by
  have HI := Lib.hid (show S.eitems words ⟨65, d, a, b, imm, label, uses, map⟩ = [S.iLabel (S.own label)] from by simp [S.eitems])
  rw [HI.out]
  clear HI
  have hbx : Below w.heap.size w (w.alloc (.cells #[.int .i64 65, .int .i64 d, .int .i64 a, .int .i64 b, .int .i64 imm, .int .i64 label, U, M] 44)) := (Below.refl _ _).alloc (Nat.le_refl _) _
  have hr := heap_alloc_new w (.cells #[.int .i64 65, .int .i64 d, .int .i64 a, .int .i64 b, .int .i64 imm, .int .i64 label, U, M] 44)
  have hz : w.heap.size < (w.alloc (.cells #[.int .i64 65, .int .i64 d, .int .i64 a, .int .i64 b, .int .i64 imm, .int .i64 label, U, M] 44)).heap.size := by simp
  go_enter Tryd.func33, Tryd.ntmps33
  go_upto_region 1 with fail
  generalize w.alloc (.cells #[.int .i64 65, .int .i64 d, .int .i64 a, .int .i64 b, .int .i64 imm, .int .i64 label, U, M] 44) = wb at *
  have HC := fun (w9 : World) (hb : Below wb.heap.size wb w9) j => (show w9.cell? ⟨w.heap.size, j, none⟩ = #[.int .i64 65, .int .i64 d, .int .i64 a, .int .i64 b, .int .i64 imm, .int .i64 label, U, M][j]? by rw [Lib.cell_of_heap ((hb.block _ hz).trans hr)])
  have c0 := HC wb (Below.refl _ _) 0
  have c1 := HC wb (Below.refl _ _) 1
  have c2 := HC wb (Below.refl _ _) 2
  have c3 := HC wb (Below.refl _ _) 3
  have c4 := HC wb (Below.refl _ _) 4
  have c5 := HC wb (Below.refl _ _) 5
  simp only [List.getElem?_toArray, List.getElem?_cons_zero, List.getElem?_cons_succ] at c0 c1 c2 c3 c4 c5
  have HCC := Lib.hid HC
  clear HC hr
  have HO := Lib.hid (show S.own label = (⟨#[46, 108]⟩ : ByteArray) ++ ⟨(S.itoa label).toArray⟩ from (str_app [46, 108] (S.itoa label)).symm)
  have hl := itoa_len label
  have Hn := Lib.hid (r24_number label hlab wb)
  generalize S.itoa label = li at *
  go_wp2_with fail
  refine Hn.out.mono ?_
  rintro e w3 ⟨rfl, hb⟩
  have Hb3 := Lib.hid (hbx.trans (hb.mono hbx.size))
  clear hb
  go_wp2_with fail
  go_ret
  exact lst_lit Hb3.out [S.iLabel (S.own label)] _ (by simp only [List.flatMap_cons, List.flatMap_nil, itemCells, S.iLabel, HO.out]; rfl) (by simp) 1 rfl

set_option maxRecDepth 100000 in
set_option maxHeartbeats 2000000 in
theorem ri_66 (d a b imm label : Int) (uses map : List Int) (U M : Value) (W : Option Addr) (cW : Nat) (words : List Int) (w : World) (hlab : I64 label) :
    Calls Tryd.prog 33 #[.agg #[.int .i64 66, .int .i64 d, .int .i64 a, .int .i64 b, .int .i64 imm, .int .i64 label, U, M], .slice W words.length cW] w (LstP (S.eitems words ⟨66, d, a, b, imm, label, uses, map⟩) w) := by
  have HI := Lib.hid (show S.eitems words ⟨66, d, a, b, imm, label, uses, map⟩ = [S.iJump 0 (S.own label)] from by simp [S.eitems])
  rw [HI.out]
  clear HI
  have hbx : Below w.heap.size w (w.alloc (.cells #[.int .i64 66, .int .i64 d, .int .i64 a, .int .i64 b, .int .i64 imm, .int .i64 label, U, M] 44)) := (Below.refl _ _).alloc (Nat.le_refl _) _
  have hr := heap_alloc_new w (.cells #[.int .i64 66, .int .i64 d, .int .i64 a, .int .i64 b, .int .i64 imm, .int .i64 label, U, M] 44)
  have hz : w.heap.size < (w.alloc (.cells #[.int .i64 66, .int .i64 d, .int .i64 a, .int .i64 b, .int .i64 imm, .int .i64 label, U, M] 44)).heap.size := by simp
  go_enter Tryd.func33, Tryd.ntmps33
  go_upto_region 1 with fail
  generalize w.alloc (.cells #[.int .i64 66, .int .i64 d, .int .i64 a, .int .i64 b, .int .i64 imm, .int .i64 label, U, M] 44) = wb at *
  have HC := fun (w9 : World) (hb : Below wb.heap.size wb w9) j => (show w9.cell? ⟨w.heap.size, j, none⟩ = #[.int .i64 66, .int .i64 d, .int .i64 a, .int .i64 b, .int .i64 imm, .int .i64 label, U, M][j]? by rw [Lib.cell_of_heap ((hb.block _ hz).trans hr)])
  have c0 := HC wb (Below.refl _ _) 0
  have c1 := HC wb (Below.refl _ _) 1
  have c2 := HC wb (Below.refl _ _) 2
  have c3 := HC wb (Below.refl _ _) 3
  have c4 := HC wb (Below.refl _ _) 4
  have c5 := HC wb (Below.refl _ _) 5
  simp only [List.getElem?_toArray, List.getElem?_cons_zero, List.getElem?_cons_succ] at c0 c1 c2 c3 c4 c5
  have HCC := Lib.hid HC
  clear HC hr
  have HO := Lib.hid (show S.own label = (⟨#[46, 108]⟩ : ByteArray) ++ ⟨(S.itoa label).toArray⟩ from (str_app [46, 108] (S.itoa label)).symm)
  have hl := itoa_len label
  have Hn := Lib.hid (r24_number label hlab wb)
  generalize S.itoa label = li at *
  go_wp2_with fail
  refine Hn.out.mono ?_
  rintro e w3 ⟨rfl, hb⟩
  have Hb3 := Lib.hid (hbx.trans (hb.mono hbx.size))
  clear hb
  go_wp2_with fail
  refine (r_iJump 0 _ _).mono ?_
  rintro e w4 ⟨rfl, hb⟩
  have Hb4 := Lib.hid (Hb3.out.trans (hb.mono Hb3.out.size))
  clear hb
  unfold itemV S.iJump
  go_wp2_with fail
  go_ret
  exact lst_lit Hb4.out [S.iJump 0 (S.own label)] _ (by simp only [List.flatMap_cons, List.flatMap_nil, itemCells, S.iJump, HO.out]; rfl) (by simp) 1 rfl

set_option maxRecDepth 100000 in
set_option maxHeartbeats 2000000 in
theorem ri_72 (d a b imm label : Int) (uses map : List Int) (U M : Value) (W : Option Addr) (cW : Nat) (words : List Int) (w : World) (himm : I64 imm) :
    Calls Tryd.prog 33 #[.agg #[.int .i64 72, .int .i64 d, .int .i64 a, .int .i64 b, .int .i64 imm, .int .i64 label, U, M], .slice W words.length cW] w (LstP (S.eitems words ⟨72, d, a, b, imm, label, uses, map⟩) w) := by
  have HI := Lib.hid (show S.eitems words ⟨72, d, a, b, imm, label, uses, map⟩ = [S.iJump 0 (S.rt imm)] from by simp [S.eitems])
  rw [HI.out]
  clear HI
  have hbx : Below w.heap.size w (w.alloc (.cells #[.int .i64 72, .int .i64 d, .int .i64 a, .int .i64 b, .int .i64 imm, .int .i64 label, U, M] 44)) := (Below.refl _ _).alloc (Nat.le_refl _) _
  have hr := heap_alloc_new w (.cells #[.int .i64 72, .int .i64 d, .int .i64 a, .int .i64 b, .int .i64 imm, .int .i64 label, U, M] 44)
  have hz : w.heap.size < (w.alloc (.cells #[.int .i64 72, .int .i64 d, .int .i64 a, .int .i64 b, .int .i64 imm, .int .i64 label, U, M] 44)).heap.size := by simp
  go_enter Tryd.func33, Tryd.ntmps33
  go_upto_region 1 with fail
  generalize w.alloc (.cells #[.int .i64 72, .int .i64 d, .int .i64 a, .int .i64 b, .int .i64 imm, .int .i64 label, U, M] 44) = wb at *
  have HC := fun (w9 : World) (hb : Below wb.heap.size wb w9) j => (show w9.cell? ⟨w.heap.size, j, none⟩ = #[.int .i64 72, .int .i64 d, .int .i64 a, .int .i64 b, .int .i64 imm, .int .i64 label, U, M][j]? by rw [Lib.cell_of_heap ((hb.block _ hz).trans hr)])
  have c0 := HC wb (Below.refl _ _) 0
  have c1 := HC wb (Below.refl _ _) 1
  have c2 := HC wb (Below.refl _ _) 2
  have c3 := HC wb (Below.refl _ _) 3
  have c4 := HC wb (Below.refl _ _) 4
  have c5 := HC wb (Below.refl _ _) 5
  simp only [List.getElem?_toArray, List.getElem?_cons_zero, List.getElem?_cons_succ] at c0 c1 c2 c3 c4 c5
  have HCC := Lib.hid HC
  clear HC hr
  go_wp2_with fail
  refine (r24_Label imm himm _).mono ?_
  rintro e w3 ⟨rfl, hb⟩
  have Hb3 := Lib.hid (hbx.trans (hb.mono hbx.size))
  clear hb
  go_wp2_with fail
  refine (r_iJump 0 (S.rt imm) _).mono ?_
  rintro e w4 ⟨rfl, hb⟩
  have Hb4 := Lib.hid (Hb3.out.trans (hb.mono Hb3.out.size))
  clear hb
  unfold itemV S.iJump
  go_wp2_with fail
  go_ret
  exact lst_lit Hb4.out [S.iJump 0 (S.rt imm)] _ rfl (by simp) 1 rfl

set_option maxRecDepth 100000 in
set_option maxHeartbeats 2000000 in
theorem ri_68p (d a b imm label : Int) (uses map : List Int) (U M : Value) (W : Option Addr) (cW : Nat) (words : List Int) (w : World) (himm : I64 imm) (h0 : 0 ≤ imm) :
    Calls Tryd.prog 33 #[.agg #[.int .i64 68, .int .i64 d, .int .i64 a, .int .i64 b, .int .i64 imm, .int .i64 label, U, M], .slice W words.length cW] w (LstP (S.eitems words ⟨68, d, a, b, imm, label, uses, map⟩) w) := by
  have HI := Lib.hid (show S.eitems words ⟨68, d, a, b, imm, label, uses, map⟩ = [S.iJump 0 (S.inner imm)] from by simp [S.eitems, S.etail, h0])
  rw [HI.out]
  clear HI
  have hbx : Below w.heap.size w (w.alloc (.cells #[.int .i64 68, .int .i64 d, .int .i64 a, .int .i64 b, .int .i64 imm, .int .i64 label, U, M] 44)) := (Below.refl _ _).alloc (Nat.le_refl _) _
  have hr := heap_alloc_new w (.cells #[.int .i64 68, .int .i64 d, .int .i64 a, .int .i64 b, .int .i64 imm, .int .i64 label, U, M] 44)
  have hz : w.heap.size < (w.alloc (.cells #[.int .i64 68, .int .i64 d, .int .i64 a, .int .i64 b, .int .i64 imm, .int .i64 label, U, M] 44)).heap.size := by simp
  go_enter Tryd.func33, Tryd.ntmps33
  go_upto_region 1 with fail
  generalize w.alloc (.cells #[.int .i64 68, .int .i64 d, .int .i64 a, .int .i64 b, .int .i64 imm, .int .i64 label, U, M] 44) = wb at *
  have HC := fun (w9 : World) (hb : Below wb.heap.size wb w9) j => (show w9.cell? ⟨w.heap.size, j, none⟩ = #[.int .i64 68, .int .i64 d, .int .i64 a, .int .i64 b, .int .i64 imm, .int .i64 label, U, M][j]? by rw [Lib.cell_of_heap ((hb.block _ hz).trans hr)])
  have c0 := HC wb (Below.refl _ _) 0
  have c1 := HC wb (Below.refl _ _) 1
  have c2 := HC wb (Below.refl _ _) 2
  have c3 := HC wb (Below.refl _ _) 3
  have c4 := HC wb (Below.refl _ _) 4
  have c5 := HC wb (Below.refl _ _) 5
  simp only [List.getElem?_toArray, List.getElem?_cons_zero, List.getElem?_cons_succ] at c0 c1 c2 c3 c4 c5
  have HCC := Lib.hid HC
  clear HC hr
  have HO := Lib.hid (show S.inner imm = (⟨#[107]⟩ : ByteArray) ++ ⟨(S.itoa imm).toArray⟩ from (str_app [107] (S.itoa imm)).symm)
  have hl := itoa_len imm
  have Hn := Lib.hid (r24_Digits imm h0 himm.2 wb)
  generalize S.itoa imm = li at *
  go_wp2_with fail
  refine Hn.out.mono ?_
  rintro e w3 ⟨rfl, hb⟩
  have Hb3 := Lib.hid (hbx.trans (hb.mono hbx.size))
  clear hb
  go_wp2_with fail
  refine (r_iJump 0 _ _).mono ?_
  rintro e w4 ⟨rfl, hb⟩
  have Hb4 := Lib.hid (Hb3.out.trans (hb.mono Hb3.out.size))
  clear hb
  unfold itemV S.iJump
  go_wp2_with fail
  go_ret
  exact lst_lit Hb4.out [S.iJump 0 (S.inner imm)] _ (by simp only [List.flatMap_cons, List.flatMap_nil, itemCells, S.iJump, HO.out]; rfl) (by simp) 1 rfl

set_option maxRecDepth 100000 in
set_option maxHeartbeats 2000000 in
theorem ri_68n (d a b imm label : Int) (uses map : List Int) (U M : Value) (W : Option Addr) (cW : Nat) (words : List Int) (w : World) (h0 : imm < 0) :
    Calls Tryd.prog 33 #[.agg #[.int .i64 68, .int .i64 d, .int .i64 a, .int .i64 b, .int .i64 imm, .int .i64 label, U, M], .slice W words.length cW] w (LstP (S.eitems words ⟨68, d, a, b, imm, label, uses, map⟩) w) := by
  have HI := Lib.hid (show S.eitems words ⟨68, d, a, b, imm, label, uses, map⟩ = [S.iInst 20 25 1 0 2, S.iInst 24 25 25 0 1, S.iInst 20 25 25 0 2, S.iInst 33 0 25 0 0] from by rw [show S.eitems words ⟨68, d, a, b, imm, label, uses, map⟩ = S.etail imm by simp [S.eitems]]; unfold S.etail; rw [if_neg (by omega)])
  rw [HI.out]
  clear HI
  have hbx : Below w.heap.size w (w.alloc (.cells #[.int .i64 68, .int .i64 d, .int .i64 a, .int .i64 b, .int .i64 imm, .int .i64 label, U, M] 44)) := (Below.refl _ _).alloc (Nat.le_refl _) _
  have hr := heap_alloc_new w (.cells #[.int .i64 68, .int .i64 d, .int .i64 a, .int .i64 b, .int .i64 imm, .int .i64 label, U, M] 44)
  have hz : w.heap.size < (w.alloc (.cells #[.int .i64 68, .int .i64 d, .int .i64 a, .int .i64 b, .int .i64 imm, .int .i64 label, U, M] 44)).heap.size := by simp
  go_enter Tryd.func33, Tryd.ntmps33
  go_upto_region 1 with fail
  generalize w.alloc (.cells #[.int .i64 68, .int .i64 d, .int .i64 a, .int .i64 b, .int .i64 imm, .int .i64 label, U, M] 44) = wb at *
  have HC := fun (w9 : World) (hb : Below wb.heap.size wb w9) j => (show w9.cell? ⟨w.heap.size, j, none⟩ = #[.int .i64 68, .int .i64 d, .int .i64 a, .int .i64 b, .int .i64 imm, .int .i64 label, U, M][j]? by rw [Lib.cell_of_heap ((hb.block _ hz).trans hr)])
  have c0 := HC wb (Below.refl _ _) 0
  have c1 := HC wb (Below.refl _ _) 1
  have c2 := HC wb (Below.refl _ _) 2
  have c3 := HC wb (Below.refl _ _) 3
  have c4 := HC wb (Below.refl _ _) 4
  have c5 := HC wb (Below.refl _ _) 5
  simp only [List.getElem?_toArray, List.getElem?_cons_zero, List.getElem?_cons_succ] at c0 c1 c2 c3 c4 c5
  have HCC := Lib.hid HC
  clear HC hr
  have n0 : ¬ 0 ≤ imm := by omega
  go_wp2_with fail
  refine (r_iInst 20 25 1 0 2 _).mono ?_
  rintro e w3 ⟨rfl, hb⟩
  have Hb3 := Lib.hid (hbx.trans (hb.mono hbx.size))
  clear hb
  unfold itemV S.iInst S.noLab
  go_wp2_with fail
  refine (r_iInst 24 25 25 0 1 _).mono ?_
  rintro e w4 ⟨rfl, hb⟩
  have Hb4 := Lib.hid (Hb3.out.trans (hb.mono Hb3.out.size))
  clear hb
  unfold itemV S.iInst S.noLab
  go_wp2_with fail
  refine (r_iInst 20 25 25 0 2 _).mono ?_
  rintro e w5 ⟨rfl, hb⟩
  have Hb5 := Lib.hid (Hb4.out.trans (hb.mono Hb4.out.size))
  clear hb
  unfold itemV S.iInst S.noLab
  go_wp2_with fail
  refine (r_iInst 33 0 25 0 0 _).mono ?_
  rintro e w6 ⟨rfl, hb⟩
  have Hb6 := Lib.hid (Hb5.out.trans (hb.mono Hb5.out.size))
  clear hb
  unfold itemV S.iInst S.noLab
  go_wp2_with fail
  go_ret
  exact lst_lit Hb6.out [S.iInst 20 25 1 0 2, S.iInst 24 25 25 0 1, S.iInst 20 25 25 0 2, S.iInst 33 0 25 0 0] _ rfl (by simp) 4 rfl

set_option maxRecDepth 100000 in
set_option maxHeartbeats 2000000 in
theorem ri_69 (d a b imm label : Int) (uses map : List Int) (U M : Value) (W : Option Addr) (cW : Nat) (words : List Int) (w : World) :
    Calls Tryd.prog 33 #[.agg #[.int .i64 69, .int .i64 d, .int .i64 a, .int .i64 b, .int .i64 imm, .int .i64 label, U, M], .slice W words.length cW] w (LstP (S.eitems words ⟨69, d, a, b, imm, label, uses, map⟩) w) := by
  have HI := Lib.hid (show S.eitems words ⟨69, d, a, b, imm, label, uses, map⟩ = S.eload d (S.u32 imm) from by simp [S.eitems])
  rw [HI.out]
  clear HI
  have hbx : Below w.heap.size w (w.alloc (.cells #[.int .i64 69, .int .i64 d, .int .i64 a, .int .i64 b, .int .i64 imm, .int .i64 label, U, M] 44)) := (Below.refl _ _).alloc (Nat.le_refl _) _
  have hr := heap_alloc_new w (.cells #[.int .i64 69, .int .i64 d, .int .i64 a, .int .i64 b, .int .i64 imm, .int .i64 label, U, M] 44)
  have hz : w.heap.size < (w.alloc (.cells #[.int .i64 69, .int .i64 d, .int .i64 a, .int .i64 b, .int .i64 imm, .int .i64 label, U, M] 44)).heap.size := by simp
  go_enter Tryd.func33, Tryd.ntmps33
  go_upto_region 1 with fail
  generalize w.alloc (.cells #[.int .i64 69, .int .i64 d, .int .i64 a, .int .i64 b, .int .i64 imm, .int .i64 label, U, M] 44) = wb at *
  have HC := fun (w9 : World) (hb : Below wb.heap.size wb w9) j => (show w9.cell? ⟨w.heap.size, j, none⟩ = #[.int .i64 69, .int .i64 d, .int .i64 a, .int .i64 b, .int .i64 imm, .int .i64 label, U, M][j]? by rw [Lib.cell_of_heap ((hb.block _ hz).trans hr)])
  have c0 := HC wb (Below.refl _ _) 0
  have c1 := HC wb (Below.refl _ _) 1
  have c2 := HC wb (Below.refl _ _) 2
  have c3 := HC wb (Below.refl _ _) 3
  have c4 := HC wb (Below.refl _ _) 4
  have c5 := HC wb (Below.refl _ _) 5
  simp only [List.getElem?_toArray, List.getElem?_cons_zero, List.getElem?_cons_succ] at c0 c1 c2 c3 c4 c5
  have HCC := Lib.hid HC
  clear HC hr
  have hcv : IntKind.u32.wrap imm = S.u32 imm := by rw [IntKind.wrap_u32]; rfl
  have hu : 0 ≤ S.u32 imm ∧ S.u32 imm ≤ 4294967295 := by unfold S.u32; omega
  have Hl := Lib.hid (r_Load d (S.u32 imm) hu.1 hu.2 wb)
  clear hu
  go_wp2_with fail
  refine Hl.out.mono ?_
  rintro e w3 ⟨A3, c3, rfl, ho3, hb3⟩
  go_wp2_with fail
  go_ret
  exact LstP.up hbx ⟨A3, c3, rfl, ho3, hb3⟩

set_option maxRecDepth 100000 in
set_option maxHeartbeats 2000000 in
theorem ri_70 (d a b imm label : Int) (uses map : List Int) (U M : Value) (W : Option Addr) (cW : Nat) (words : List Int) (w : World) (himm : I64 imm) :
    Calls Tryd.prog 33 #[.agg #[.int .i64 70, .int .i64 d, .int .i64 a, .int .i64 b, .int .i64 imm, .int .i64 label, U, M], .slice W words.length cW] w (LstP (S.eitems words ⟨70, d, a, b, imm, label, uses, map⟩) w) := by
  have HI := Lib.hid (show S.eitems words ⟨70, d, a, b, imm, label, uses, map⟩ = [S.iAddr d (S.outer imm) 0, S.iInst 19 d d 0 2] from by simp [S.eitems])
  rw [HI.out]
  clear HI
  have hbx : Below w.heap.size w (w.alloc (.cells #[.int .i64 70, .int .i64 d, .int .i64 a, .int .i64 b, .int .i64 imm, .int .i64 label, U, M] 44)) := (Below.refl _ _).alloc (Nat.le_refl _) _
  have hr := heap_alloc_new w (.cells #[.int .i64 70, .int .i64 d, .int .i64 a, .int .i64 b, .int .i64 imm, .int .i64 label, U, M] 44)
  have hz : w.heap.size < (w.alloc (.cells #[.int .i64 70, .int .i64 d, .int .i64 a, .int .i64 b, .int .i64 imm, .int .i64 label, U, M] 44)).heap.size := by simp
  go_enter Tryd.func33, Tryd.ntmps33
  go_upto_region 1 with fail
  generalize w.alloc (.cells #[.int .i64 70, .int .i64 d, .int .i64 a, .int .i64 b, .int .i64 imm, .int .i64 label, U, M] 44) = wb at *
  have HC := fun (w9 : World) (hb : Below wb.heap.size wb w9) j => (show w9.cell? ⟨w.heap.size, j, none⟩ = #[.int .i64 70, .int .i64 d, .int .i64 a, .int .i64 b, .int .i64 imm, .int .i64 label, U, M][j]? by rw [Lib.cell_of_heap ((hb.block _ hz).trans hr)])
  have c0 := HC wb (Below.refl _ _) 0
  have c1 := HC wb (Below.refl _ _) 1
  have c2 := HC wb (Below.refl _ _) 2
  have c3 := HC wb (Below.refl _ _) 3
  have c4 := HC wb (Below.refl _ _) 4
  have c5 := HC wb (Below.refl _ _) 5
  simp only [List.getElem?_toArray, List.getElem?_cons_zero, List.getElem?_cons_succ] at c0 c1 c2 c3 c4 c5
  have HCC := Lib.hid HC
  clear HC hr
  have HO := Lib.hid (show S.outer imm = (⟨#[102]⟩ : ByteArray) ++ ⟨(S.itoa imm).toArray⟩ from (str_app [102] (S.itoa imm)).symm)
  have hl := itoa_len imm
  have Hn := Lib.hid (fun y : Ext wb => r24_number imm himm y.val)
  have hi := fun y : Ext wb => r_iInst 19 d d 0 2 y.val
  unfold itemV S.iInst S.noLab at hi
  have Hi := Lib.hid hi
  generalize S.itoa imm = li at *
  clear hi
  go_upto_region 22 with fail
  refine wp_region_ext_tail 13 (by kernel_rfl) (by kernel_rfl) ?_
  have hE := ext_cells wb
  simp only [List.take_succ_cons, List.take_zero, List.drop_succ_cons, List.drop_zero]
  repeat (first
    | go_big_quiet_step ((first
      | (go_at_call 46; exact ext_of (Hn.out _))
      | (go_at_call 32; exact ext_of (Hi.out _)))))
  refine wpQuiet_nil ?_
  rintro w8 ⟨⟨_, hb8⟩, rfl⟩
  have Hb8 := Lib.hid (hbx.trans (hb8.mono hbx.size))
  clear hE hb8
  go_wp2_with fail
  go_ret
  exact lst_lit Hb8.out [S.iAddr d (S.outer imm) 0, S.iInst 19 d d 0 2] _ (by simp only [List.flatMap_cons, List.flatMap_nil, itemCells, S.iAddr, S.iInst, HO.out]; rfl) (by simp) 2 rfl

set_option maxRecDepth 100000 in
set_option maxHeartbeats 2000000 in
theorem ri_71 (d a b imm label : Int) (uses map : List Int) (U M : Value) (W : Option Addr) (cW : Nat) (words : List Int) (w : World) (hW : U32s w w.heap.size W words) (h0 : 0 ≤ imm) (h1 : imm < words.length) (hWl : words.length ≤ 9223372036854775807) :
    Calls Tryd.prog 33 #[.agg #[.int .i64 71, .int .i64 d, .int .i64 a, .int .i64 b, .int .i64 imm, .int .i64 label, U, M], .slice W words.length cW] w (LstP (S.eitems words ⟨71, d, a, b, imm, label, uses, map⟩) w) := by
  have HI := Lib.hid (show S.eitems words ⟨71, d, a, b, imm, label, uses, map⟩ = S.eload d (words.getD imm.toNat 0) from by simp [S.eitems])
  rw [HI.out]
  clear HI
  obtain ⟨k, hk⟩ := Int.eq_ofNat_of_zero_le h0
  subst hk
  have hkl : k < words.length := by omega
  obtain ⟨b3, off, x, e3, hb3, hx, hcx0, hx0, hx1⟩ := hW.at_ hkl
  subst e3
  have hgd : words.getD (k : Int).toNat 0 = x := by simp [hx]
  rw [hgd]
  obtain ⟨nW, hnW⟩ : ∃ nW, nW = words.length := ⟨_, rfl⟩
  rw [← hnW] at h1 hWl ⊢
  clear hW hx hgd hnW hkl
  have hbx : Below w.heap.size w (w.alloc (.cells #[.int .i64 71, .int .i64 d, .int .i64 a, .int .i64 b, .int .i64 (k : Int), .int .i64 label, U, M] 44)) := (Below.refl _ _).alloc (Nat.le_refl _) _
  have hr := heap_alloc_new w (.cells #[.int .i64 71, .int .i64 d, .int .i64 a, .int .i64 b, .int .i64 (k : Int), .int .i64 label, U, M] 44)
  have hz : w.heap.size < (w.alloc (.cells #[.int .i64 71, .int .i64 d, .int .i64 a, .int .i64 b, .int .i64 (k : Int), .int .i64 label, U, M] 44)).heap.size := by simp
  go_enter Tryd.func33, Tryd.ntmps33
  go_upto_region 1 with fail
  generalize w.alloc (.cells #[.int .i64 71, .int .i64 d, .int .i64 a, .int .i64 b, .int .i64 (k : Int), .int .i64 label, U, M] 44) = wb at *
  have HC := fun (w9 : World) (hb : Below wb.heap.size wb w9) j => (show w9.cell? ⟨w.heap.size, j, none⟩ = #[.int .i64 71, .int .i64 d, .int .i64 a, .int .i64 b, .int .i64 (k : Int), .int .i64 label, U, M][j]? by rw [Lib.cell_of_heap ((hb.block _ hz).trans hr)])
  have c0 := HC wb (Below.refl _ _) 0
  have c1 := HC wb (Below.refl _ _) 1
  have c2 := HC wb (Below.refl _ _) 2
  have c3 := HC wb (Below.refl _ _) 3
  have c4 := HC wb (Below.refl _ _) 4
  have c5 := HC wb (Below.refl _ _) 5
  simp only [List.getElem?_toArray, List.getElem?_cons_zero, List.getElem?_cons_succ] at c0 c1 c2 c3 c4 c5
  have HCC := Lib.hid HC
  clear HC hr
  have hcx := (hbx.cell (p := ⟨b3, off + k, none⟩) hb3).trans hcx0
  have hb4 : b3 < wb.heap.size := by omega
  go_upto_region 24 with fail
  refine wp_region_ext_tail 7 (by kernel_rfl) (by kernel_rfl) ?_
  have hE := ext_cells wb
  simp only [List.take_succ_cons, List.take_zero, List.drop_succ_cons, List.drop_zero]
  repeat (first
    | go_big_quiet_step (fail))
  refine wpQuiet_nil ?_
  rintro w8 ⟨⟨_, hb8⟩, rfl⟩
  have Hb8 := Lib.hid (hbx.trans (hb8.mono hbx.size))
  have Hl := Lib.hid (r_Load d x hx0 hx1 w8)
  clear hE hb8
  go_wp2_with fail
  refine Hl.out.mono ?_
  rintro e w3 ⟨A3, c3, rfl, ho3, hb3'⟩
  go_wp2_with fail
  go_ret
  exact LstP.up Hb8.out ⟨A3, c3, rfl, ho3, hb3'⟩

set_option maxRecDepth 100000 in
set_option maxHeartbeats 2000000 in
theorem ri_73 (d a b imm label : Int) (uses map : List Int) (U M : Value) (W : Option Addr) (cW : Nat) (words : List Int) (w : World) (h0 : 0 ≤ imm) (h1 : imm ≤ 16777216) :
    Calls Tryd.prog 33 #[.agg #[.int .i64 73, .int .i64 d, .int .i64 a, .int .i64 b, .int .i64 imm, .int .i64 label, U, M], .slice W words.length cW] w (LstP (S.eitems words ⟨73, d, a, b, imm, label, uses, map⟩) w) := by
  have HI := Lib.hid (show S.eitems words ⟨73, d, a, b, imm, label, uses, map⟩ = (S.eslot imm).1 ++ [S.iInst 24 d (S.eslot imm).2.1 0 (S.eslot imm).2.2] from by simp [S.eitems])
  rw [HI.out]
  clear HI
  have hbx : Below w.heap.size w (w.alloc (.cells #[.int .i64 73, .int .i64 d, .int .i64 a, .int .i64 b, .int .i64 imm, .int .i64 label, U, M] 44)) := (Below.refl _ _).alloc (Nat.le_refl _) _
  have hr := heap_alloc_new w (.cells #[.int .i64 73, .int .i64 d, .int .i64 a, .int .i64 b, .int .i64 imm, .int .i64 label, U, M] 44)
  have hz : w.heap.size < (w.alloc (.cells #[.int .i64 73, .int .i64 d, .int .i64 a, .int .i64 b, .int .i64 imm, .int .i64 label, U, M] 44)).heap.size := by simp
  go_enter Tryd.func33, Tryd.ntmps33
  go_upto_region 1 with fail
  generalize w.alloc (.cells #[.int .i64 73, .int .i64 d, .int .i64 a, .int .i64 b, .int .i64 imm, .int .i64 label, U, M] 44) = wb at *
  have HC := fun (w9 : World) (hb : Below wb.heap.size wb w9) j => (show w9.cell? ⟨w.heap.size, j, none⟩ = #[.int .i64 73, .int .i64 d, .int .i64 a, .int .i64 b, .int .i64 imm, .int .i64 label, U, M][j]? by rw [Lib.cell_of_heap ((hb.block _ hz).trans hr)])
  have c0 := HC wb (Below.refl _ _) 0
  have c1 := HC wb (Below.refl _ _) 1
  have c2 := HC wb (Below.refl _ _) 2
  have c3 := HC wb (Below.refl _ _) 3
  have c4 := HC wb (Below.refl _ _) 4
  have c5 := HC wb (Below.refl _ _) 5
  have c6 := HC wb (Below.refl _ _) 6
  have c7 := HC wb (Below.refl _ _) 7
  simp only [List.getElem?_toArray, List.getElem?_cons_zero, List.getElem?_cons_succ] at c0 c1 c2 c3 c4 c5 c6 c7
  have HCC := Lib.hid HC
  clear HC hr
  have hm := r_moved 73 d a b imm label U M (by decide) h0 h1 wb
  simp only [if_true] at hm
  have Hm := Lib.hid hm
  clear hm
  go_wp2_with fail
  refine Hm.out.mono ?_
  rintro e w3 ⟨A3, c3, rfl, ho3, hb3⟩
  obtain ⟨nx, hnx⟩ : ∃ nx, nx = ((S.eslot imm).1 ++ [S.iInst 24 d (S.eslot imm).2.1 0 (S.eslot imm).2.2]).length := ⟨_, rfl⟩
  rw [← hnx] at ho3 ⊢
  have Hnx := Lib.hid hnx
  clear hnx
  go_wp2_with fail
  go_ret
  refine ⟨A3, c3, ?_, ?_, hbx.trans (hb3.mono hbx.size)⟩
  · show Ending.returned (.slice A3 nx c3) = _
    rw [Hnx.out]
  · rw [← Hnx.out]; exact ownsRow_base ho3 hbx.size

set_option maxRecDepth 100000 in
set_option maxHeartbeats 2000000 in
theorem ri_74 (d a b imm label : Int) (uses map : List Int) (U M : Value) (W : Option Addr) (cW : Nat) (words : List Int) (w : World) (h0 : 0 ≤ imm) (h1 : imm ≤ 16777216) :
    Calls Tryd.prog 33 #[.agg #[.int .i64 74, .int .i64 d, .int .i64 a, .int .i64 b, .int .i64 imm, .int .i64 label, U, M], .slice W words.length cW] w (LstP (S.eitems words ⟨74, d, a, b, imm, label, uses, map⟩) w) := by
  have HI := Lib.hid (show S.eitems words ⟨74, d, a, b, imm, label, uses, map⟩ = (S.eslot imm).1 ++ [S.iInst 25 0 (S.eslot imm).2.1 a (S.eslot imm).2.2] from by simp [S.eitems])
  rw [HI.out]
  clear HI
  have hbx : Below w.heap.size w (w.alloc (.cells #[.int .i64 74, .int .i64 d, .int .i64 a, .int .i64 b, .int .i64 imm, .int .i64 label, U, M] 44)) := (Below.refl _ _).alloc (Nat.le_refl _) _
  have hr := heap_alloc_new w (.cells #[.int .i64 74, .int .i64 d, .int .i64 a, .int .i64 b, .int .i64 imm, .int .i64 label, U, M] 44)
  have hz : w.heap.size < (w.alloc (.cells #[.int .i64 74, .int .i64 d, .int .i64 a, .int .i64 b, .int .i64 imm, .int .i64 label, U, M] 44)).heap.size := by simp
  go_enter Tryd.func33, Tryd.ntmps33
  go_upto_region 1 with fail
  generalize w.alloc (.cells #[.int .i64 74, .int .i64 d, .int .i64 a, .int .i64 b, .int .i64 imm, .int .i64 label, U, M] 44) = wb at *
  have HC := fun (w9 : World) (hb : Below wb.heap.size wb w9) j => (show w9.cell? ⟨w.heap.size, j, none⟩ = #[.int .i64 74, .int .i64 d, .int .i64 a, .int .i64 b, .int .i64 imm, .int .i64 label, U, M][j]? by rw [Lib.cell_of_heap ((hb.block _ hz).trans hr)])
  have c0 := HC wb (Below.refl _ _) 0
  have c1 := HC wb (Below.refl _ _) 1
  have c2 := HC wb (Below.refl _ _) 2
  have c3 := HC wb (Below.refl _ _) 3
  have c4 := HC wb (Below.refl _ _) 4
  have c5 := HC wb (Below.refl _ _) 5
  have c6 := HC wb (Below.refl _ _) 6
  have c7 := HC wb (Below.refl _ _) 7
  simp only [List.getElem?_toArray, List.getElem?_cons_zero, List.getElem?_cons_succ] at c0 c1 c2 c3 c4 c5 c6 c7
  have HCC := Lib.hid HC
  clear HC hr
  have hm := r_moved 74 d a b imm label U M (by decide) h0 h1 wb
  simp only [if_neg (show ¬ (74 : Int) = 73 by decide)] at hm
  have Hm := Lib.hid hm
  clear hm
  go_wp2_with fail
  refine Hm.out.mono ?_
  rintro e w3 ⟨A3, c3, rfl, ho3, hb3⟩
  obtain ⟨nx, hnx⟩ : ∃ nx, nx = ((S.eslot imm).1 ++ [S.iInst 25 0 (S.eslot imm).2.1 a (S.eslot imm).2.2]).length := ⟨_, rfl⟩
  rw [← hnx] at ho3 ⊢
  have Hnx := Lib.hid hnx
  clear hnx
  go_wp2_with fail
  go_ret
  refine ⟨A3, c3, ?_, ?_, hbx.trans (hb3.mono hbx.size)⟩
  · show Ending.returned (.slice A3 nx c3) = _
    rw [Hnx.out]
  · rw [← Hnx.out]; exact ownsRow_base ho3 hbx.size

end Go.Proofs.YtkdalaiponchbaaDoor
