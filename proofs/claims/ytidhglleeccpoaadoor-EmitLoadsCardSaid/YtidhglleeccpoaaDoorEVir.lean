/- The maker of items: a virtual instruction, a function's entry. -/
import Derived.Test.YtidhglleeccpoaaDoorEMkC
import Derived.Deep.RegionHeld3
import Derived.StillTailTactics
set_option linter.unusedVariables false
set_option linter.unusedSimpArgs false
set_option linter.unusedSectionVars false
namespace Go.Proofs.YtidhglleeccpoaaDoor
open Go.RowKit

def viCells (i : S.VInst) (U M : Value) : Array Value := #[.int .i64 i.op, .int .i64 i.d, .int .i64 i.a, .int .i64 i.b, .int .i64 i.imm, .int .i64 i.label, U, M]
/-- Words read. -/
def U32s (w : World) (B : Nat) (A : Option Addr) (l : List Int) : Prop :=
  (∀ x ∈ l, 0 ≤ x ∧ x ≤ 4294967295) ∧ (0 < l.length → ∃ b off, A = some ⟨b, off, none⟩ ∧ b < B ∧ ∀ (k : Nat) (x : Int), l[k]? = some x → w.cell? ⟨b, off + k, none⟩ = some (.int .u32 x))
theorem U32s.at_ {w : World} {B : Nat} {A : Option Addr} {l : List Int} (h : U32s w B A l) {k : Nat} (hk : k < l.length) : ∃ b off x, A = some ⟨b, off, none⟩ ∧ b < B ∧ l[k]? = some x ∧ w.cell? ⟨b, off + k, none⟩ = some (.int .u32 x) ∧ 0 ≤ x ∧ x ≤ 4294967295 := by
  obtain ⟨b, off, e, hB, hc⟩ := h.2 (by omega)
  have hx : l[k]? = some l[k] := List.getElem?_eq_getElem hk
  exact ⟨b, off, _, e, hB, hx, hc k _ hx, (h.1 _ (List.mem_of_getElem? hx)).1, (h.1 _ (List.mem_of_getElem? hx)).2⟩
theorem U32s.below {w w' : World} {B : Nat} {A : Option Addr} {l : List Int} (h : U32s w B A l) (hb : Below B w w') : U32s w' B A l :=
  ⟨h.1, fun hp => by
    obtain ⟨b, off, e, hB, hc⟩ := h.2 hp
    exact ⟨b, off, e, hB, fun k x hx => (hb.cell (p := ⟨b, off + k, none⟩) hB).trans (hc k x hx)⟩⟩

theorem hbox (w : World) (cs : Array Value) : (w.alloc (.cells cs 25)).heap[w.heap.size]? = some (.cells cs 25 (0, 0)) := heap_alloc_new w _
theorem eslot_len (n : Int) : (S.eslot n).1.length ≤ 1 := by
  unfold S.eslot
  split <;> simp
section
variable (base mb : Nat) (wv : Value) (xs : List S.Item) (w : World) (hL : LVE w) (h3b : 3 ≤ base) (h : MkAt base mb wv xs w) (hbw : base ≤ w.heap.size) (hl : xs.length ≤ 890000000) (d a b imm label : Int) (uses map : List Int) (U M : Value) (words : List Int)
include hL h3b h hbw hl

set_option maxRecDepth 100000 in
set_option maxHeartbeats 1000000 in
theorem mv_64 : Calls Tryd.prog 16 #[.pointer (some ⟨mb, 0, none⟩), .agg (viCells ⟨64, d, a, b, imm, label, uses, map⟩ U M)] w (MkPost base mb wv xs (S.eitems words ⟨64, d, a, b, imm, label, uses, map⟩) w) := by
  unfold viCells
  have hbb := (Below.refl w.heap.size w).alloc (Nat.le_refl _) (.cells (viCells ⟨64, d, a, b, imm, label, uses, map⟩ U M) 25)
  have H1 := Lib.hid (h.keep hbb)
  have HB := Lib.hid (BK.of hbb hbw)
  unfold viCells at H1 HB
  clear hbb
  by_cases c : d = a
  · have He := Lib.hid (show S.eitems words ⟨64, d, a, b, imm, label, uses, map⟩ = [] by simp [S.eitems, c])
    subst c
    go_enter Tryd.func16, Tryd.ntmps16
    go_wp2_with fail
    go_end0
    exact ⟨rfl, by rw [He.out]; simpa using H1.out, HB.out⟩
  · have He := Lib.hid (show S.eitems words ⟨64, d, a, b, imm, label, uses, map⟩ = [S.iInst 15 d a 0 0] by simp [S.eitems, c])
    go_enter Tryd.func16, Tryd.ntmps16
    go_wp2_with fail
    refine (mk_inst base mb wv xs _ H1.out (Nat.le_trans hbw HB.out.size) (by omega) 15 d a 0 0).mono ?_
    rintro e w2 ⟨rfl, h2, h3⟩
    go_wp2_with fail
    go_end0
    exact ⟨rfl, by rw [He.out]; exact h2, HB.out.trans h3⟩

set_option maxRecDepth 100000 in
set_option maxHeartbeats 1000000 in
theorem mv_65 (hlab : I64 label) : Calls Tryd.prog 16 #[.pointer (some ⟨mb, 0, none⟩), .agg (viCells ⟨65, d, a, b, imm, label, uses, map⟩ U M)] w (MkPost base mb wv xs (S.eitems words ⟨65, d, a, b, imm, label, uses, map⟩) w) := by
  have hbb := (Below.refl w.heap.size w).alloc (Nat.le_refl _) (.cells (viCells ⟨65, d, a, b, imm, label, uses, map⟩ U M) 25)
  have HL := Lib.hid (hL.on hbb)
  have H1 := Lib.hid (h.keep hbb)
  have HB := Lib.hid (BK.of hbb hbw)
  have Hbox := Lib.hid (hbox w (viCells ⟨65, d, a, b, imm, label, uses, map⟩ U M))
  unfold viCells at *
  clear hbb
  have He := Lib.hid (show S.eitems words ⟨65, d, a, b, imm, label, uses, map⟩ = [S.iLabel (S.own label)] by simp [S.eitems])
  go_enter Tryd.func16, Tryd.ntmps16
  go_wp2_with fail
  refine (e_own label hlab _ HL.out).mono ?_
  rintro e w2 ⟨rfl, hb2⟩
  have H2 := Lib.hid (H1.out.keep hb2)
  have HB2 := Lib.hid (HB.out.trans (BK.of hb2 (Nat.le_trans hbw HB.out.size)))
  generalize S.own label = s at *
  clear hb2
  go_wp2_with fail
  refine (mk_label base mb wv xs w2 H2.out (Nat.le_trans hbw HB2.out.size) (by omega) s).mono ?_
  rintro e w3 ⟨rfl, h3, hb3⟩
  go_wp2_with fail
  go_end0
  exact ⟨rfl, by rw [He.out]; exact h3, HB2.out.trans hb3⟩

set_option maxRecDepth 100000 in
set_option maxHeartbeats 1000000 in
theorem mv_66 (hlab : I64 label) : Calls Tryd.prog 16 #[.pointer (some ⟨mb, 0, none⟩), .agg (viCells ⟨66, d, a, b, imm, label, uses, map⟩ U M)] w (MkPost base mb wv xs (S.eitems words ⟨66, d, a, b, imm, label, uses, map⟩) w) := by
  have hbb := (Below.refl w.heap.size w).alloc (Nat.le_refl _) (.cells (viCells ⟨66, d, a, b, imm, label, uses, map⟩ U M) 25)
  have HL := Lib.hid (hL.on hbb)
  have H1 := Lib.hid (h.keep hbb)
  have HB := Lib.hid (BK.of hbb hbw)
  have Hbox := Lib.hid (hbox w (viCells ⟨66, d, a, b, imm, label, uses, map⟩ U M))
  unfold viCells at *
  clear hbb
  have He := Lib.hid (show S.eitems words ⟨66, d, a, b, imm, label, uses, map⟩ = [S.iJump 0 (S.own label)] by simp [S.eitems])
  go_enter Tryd.func16, Tryd.ntmps16
  go_wp2_with fail
  refine (e_own label hlab _ HL.out).mono ?_
  rintro e w2 ⟨rfl, hb2⟩
  have H2 := Lib.hid (H1.out.keep hb2)
  have HB2 := Lib.hid (HB.out.trans (BK.of hb2 (Nat.le_trans hbw HB.out.size)))
  generalize S.own label = s at *
  clear hb2
  go_wp2_with fail
  refine (mk_jump base mb wv xs w2 H2.out (Nat.le_trans hbw HB2.out.size) (by omega) 0 s).mono ?_
  rintro e w3 ⟨rfl, h3, hb3⟩
  go_wp2_with fail
  go_end0
  exact ⟨rfl, by rw [He.out]; exact h3, HB2.out.trans hb3⟩

set_option maxRecDepth 100000 in
set_option maxHeartbeats 1000000 in
theorem mv_72 (himm : I64 imm) : Calls Tryd.prog 16 #[.pointer (some ⟨mb, 0, none⟩), .agg (viCells ⟨72, d, a, b, imm, label, uses, map⟩ U M)] w (MkPost base mb wv xs (S.eitems words ⟨72, d, a, b, imm, label, uses, map⟩) w) := by
  have hbb := (Below.refl w.heap.size w).alloc (Nat.le_refl _) (.cells (viCells ⟨72, d, a, b, imm, label, uses, map⟩ U M) 25)
  have HL := Lib.hid (hL.on hbb)
  have H1 := Lib.hid (h.keep hbb)
  have HB := Lib.hid (BK.of hbb hbw)
  have Hbox := Lib.hid (hbox w (viCells ⟨72, d, a, b, imm, label, uses, map⟩ U M))
  unfold viCells at *
  clear hbb
  have He := Lib.hid (show S.eitems words ⟨72, d, a, b, imm, label, uses, map⟩ = [S.iJump 0 (S.rt imm)] by simp [S.eitems])
  go_enter Tryd.func16, Tryd.ntmps16
  go_wp2_with fail
  refine (e_Label imm himm _ HL.out).mono ?_
  rintro e w2 ⟨rfl, hb2⟩
  have H2 := Lib.hid (H1.out.keep hb2)
  have HB2 := Lib.hid (HB.out.trans (BK.of hb2 (Nat.le_trans hbw HB.out.size)))
  generalize S.rt imm = s at *
  clear hb2
  go_wp2_with fail
  refine (mk_jump base mb wv xs w2 H2.out (Nat.le_trans hbw HB2.out.size) (by omega) 0 s).mono ?_
  rintro e w3 ⟨rfl, h3, hb3⟩
  go_wp2_with fail
  go_end0
  exact ⟨rfl, by rw [He.out]; exact h3, HB2.out.trans hb3⟩

set_option maxRecDepth 100000 in
set_option maxHeartbeats 1000000 in
theorem mv_67 (himm : I64 imm) (MA : Option Addr) (cM : Nat) (hM : Ints w base MA map) (hr : S.rising map = true) (hs : ∀ s ∈ map, 0 ≤ s ∧ s < 16777216) (hll : map.length ≤ 1000000) : Calls Tryd.prog 16 #[.pointer (some ⟨mb, 0, none⟩), .agg (viCells ⟨67, d, a, b, imm, label, uses, map⟩ U (.slice MA map.length cM))] w (MkPost base mb wv xs (S.eitems words ⟨67, d, a, b, imm, label, uses, map⟩) w) := by
  have hbb := (Below.refl w.heap.size w).alloc (Nat.le_refl _) (.cells (viCells ⟨67, d, a, b, imm, label, uses, map⟩ U (.slice MA map.length cM)) 25)
  have HL := Lib.hid (hL.on hbb)
  have H1 := Lib.hid (h.keep hbb)
  have HB := Lib.hid (BK.of hbb hbw)
  have Hbox := Lib.hid (hbox w (viCells ⟨67, d, a, b, imm, label, uses, map⟩ U (.slice MA map.length cM)))
  unfold viCells at *
  clear hbb
  have He := Lib.hid (show S.eitems words ⟨67, d, a, b, imm, label, uses, map⟩ = S.iJump 31 (S.rt imm) :: S.eframe map by simp [S.eitems])
  go_enter Tryd.func16, Tryd.ntmps16
  go_wp2_with fail
  refine (e_Label imm himm _ HL.out).mono ?_
  rintro e w2 ⟨rfl, hb2⟩
  have H2 := Lib.hid (H1.out.keep hb2)
  have HB2 := Lib.hid (HB.out.trans (BK.of hb2 (Nat.le_trans hbw HB.out.size)))
  generalize S.rt imm = s at *
  have Hbox2 := Lib.hid ((BK.of hb2 (Nat.le_refl _)).keep _ _ _ _ Hbox.out (by decide) (by decide))
  clear hb2
  go_wp2_with fail
  refine (mk_jump base mb wv xs w2 H2.out (Nat.le_trans hbw HB2.out.size) (by omega) 31 s).mono ?_
  rintro e w3 ⟨rfl, h3, hb3⟩
  have hbx := hb3.keep _ _ _ _ Hbox2.out (by decide) (by decide)
  have hc7 : w3.cell? ⟨w.heap.size, 7, none⟩ = some (.slice MA map.length cM) := by rw [Lib.cell_of_heap hbx]; rfl
  have H3 := Lib.hid h3
  have HB3 := Lib.hid (HB2.out.trans hb3)
  have HM := Lib.hid ((hM.below HB3.out.below).more (Nat.le_trans hbw HB3.out.size))
  clear hbx hb3 hM
  go_wp2_with fail
  refine (mk_frame base mb wv _ w3 H3.out (Nat.le_trans hbw HB3.out.size) (by simp; omega) MA map cM HM.out hr hs hll).mono ?_
  rintro e w4 ⟨rfl, h4, hb4⟩
  go_wp2_with fail
  go_end0
  exact ⟨rfl, by rw [He.out]; simpa using h4, HB3.out.trans hb4⟩

set_option maxRecDepth 100000 in
set_option maxHeartbeats 1000000 in
theorem mv_68 (himm : I64 imm) : Calls Tryd.prog 16 #[.pointer (some ⟨mb, 0, none⟩), .agg (viCells ⟨68, d, a, b, imm, label, uses, map⟩ U M)] w (MkPost base mb wv xs (S.eitems words ⟨68, d, a, b, imm, label, uses, map⟩) w) := by
  have hbb := (Below.refl w.heap.size w).alloc (Nat.le_refl _) (.cells (viCells ⟨68, d, a, b, imm, label, uses, map⟩ U M) 25)
  have HL := Lib.hid (hL.on hbb)
  have H1 := Lib.hid (h.keep hbb)
  have HB := Lib.hid (BK.of hbb hbw)
  have Hbox := Lib.hid (hbox w (viCells ⟨68, d, a, b, imm, label, uses, map⟩ U M))
  unfold viCells at *
  clear hbb
  have He := Lib.hid (show S.eitems words ⟨68, d, a, b, imm, label, uses, map⟩ = S.etail imm by simp [S.eitems])
  go_enter Tryd.func16, Tryd.ntmps16
  go_wp2_with fail
  refine (mk_tail base mb wv xs _ HL.out h3b H1.out (Nat.le_trans hbw HB.out.size) (by omega) imm himm).mono ?_
  rintro e w3 ⟨rfl, h3, hb3⟩
  go_wp2_with fail
  go_end0
  exact ⟨rfl, by rw [He.out]; exact h3, HB.out.trans hb3⟩

set_option maxRecDepth 100000 in
set_option maxHeartbeats 1000000 in
theorem mv_69 (himm : I64 imm) : Calls Tryd.prog 16 #[.pointer (some ⟨mb, 0, none⟩), .agg (viCells ⟨69, d, a, b, imm, label, uses, map⟩ U M)] w (MkPost base mb wv xs (S.eitems words ⟨69, d, a, b, imm, label, uses, map⟩) w) := by
  have hbb := (Below.refl w.heap.size w).alloc (Nat.le_refl _) (.cells (viCells ⟨69, d, a, b, imm, label, uses, map⟩ U M) 25)
  have HL := Lib.hid (hL.on hbb)
  have H1 := Lib.hid (h.keep hbb)
  have HB := Lib.hid (BK.of hbb hbw)
  have Hbox := Lib.hid (hbox w (viCells ⟨69, d, a, b, imm, label, uses, map⟩ U M))
  unfold viCells at *
  clear hbb
  have He := Lib.hid (show S.eitems words ⟨69, d, a, b, imm, label, uses, map⟩ = S.eload d (S.u32 imm) by simp [S.eitems])
  go_enter Tryd.func16, Tryd.ntmps16
  go_wp2_with fail
  have hu : 0 ≤ S.u32 imm ∧ S.u32 imm ≤ 4294967295 := by unfold S.u32; omega
  refine (mk_load base mb wv xs _ H1.out (Nat.le_trans hbw HB.out.size) (by omega) d (S.u32 imm) hu.1 hu.2).mono ?_
  rintro e w3 ⟨rfl, h3, hb3⟩
  go_wp2_with fail
  go_end0
  exact ⟨rfl, by rw [He.out]; exact h3, HB.out.trans hb3⟩

set_option maxRecDepth 100000 in
set_option maxHeartbeats 1000000 in
theorem mv_73 (himm : 0 ≤ imm ∧ imm ≤ 16777216) : Calls Tryd.prog 16 #[.pointer (some ⟨mb, 0, none⟩), .agg (viCells ⟨73, d, a, b, imm, label, uses, map⟩ U M)] w (MkPost base mb wv xs (S.eitems words ⟨73, d, a, b, imm, label, uses, map⟩) w) := by
  have hbb := (Below.refl w.heap.size w).alloc (Nat.le_refl _) (.cells (viCells ⟨73, d, a, b, imm, label, uses, map⟩ U M) 25)
  have HL := Lib.hid (hL.on hbb)
  have H1 := Lib.hid (h.keep hbb)
  have HB := Lib.hid (BK.of hbb hbw)
  have Hbox := Lib.hid (hbox w (viCells ⟨73, d, a, b, imm, label, uses, map⟩ U M))
  unfold viCells at *
  clear hbb
  have He := Lib.hid (show S.eitems words ⟨73, d, a, b, imm, label, uses, map⟩ = (S.eslot imm).1 ++ [S.iInst 24 d (S.eslot imm).2.1 0 (S.eslot imm).2.2] by simp [S.eitems])
  go_enter Tryd.func16, Tryd.ntmps16
  go_wp2_with fail
  refine (mk_slot base mb wv xs _ H1.out (Nat.le_trans hbw HB.out.size) (by omega) imm himm.1 himm.2).mono ?_
  rintro e w2 ⟨rfl, h2, hb2⟩
  have hbx := hb2.keep _ _ _ _ Hbox.out (by decide) (by decide)
  have hc1 : w2.cell? ⟨w.heap.size, 1, none⟩ = some (.int .i64 d) := by rw [Lib.cell_of_heap hbx]; rfl
  have H2 := Lib.hid h2
  have HB2 := Lib.hid (HB.out.trans hb2)
  have hsl := eslot_len imm
  clear hbx hb2 h2
  generalize S.eslot imm = r at *
  obtain ⟨l1, base', k⟩ := r
  go_wp2_with fail
  refine (mk_inst base mb wv _ w2 H2.out (Nat.le_trans hbw HB2.out.size) (by simp at *; omega) 24 d base' 0 k).mono ?_
  rintro e w3 ⟨rfl, h3, hb3⟩
  go_wp2_with fail
  go_end0
  exact ⟨rfl, by rw [He.out]; simpa using h3, HB2.out.trans hb3⟩

set_option maxRecDepth 100000 in
set_option maxHeartbeats 1000000 in
theorem mv_74 (himm : 0 ≤ imm ∧ imm ≤ 16777216) : Calls Tryd.prog 16 #[.pointer (some ⟨mb, 0, none⟩), .agg (viCells ⟨74, d, a, b, imm, label, uses, map⟩ U M)] w (MkPost base mb wv xs (S.eitems words ⟨74, d, a, b, imm, label, uses, map⟩) w) := by
  have hbb := (Below.refl w.heap.size w).alloc (Nat.le_refl _) (.cells (viCells ⟨74, d, a, b, imm, label, uses, map⟩ U M) 25)
  have HL := Lib.hid (hL.on hbb)
  have H1 := Lib.hid (h.keep hbb)
  have HB := Lib.hid (BK.of hbb hbw)
  have Hbox := Lib.hid (hbox w (viCells ⟨74, d, a, b, imm, label, uses, map⟩ U M))
  unfold viCells at *
  clear hbb
  have He := Lib.hid (show S.eitems words ⟨74, d, a, b, imm, label, uses, map⟩ = (S.eslot imm).1 ++ [S.iInst 25 0 (S.eslot imm).2.1 a (S.eslot imm).2.2] by simp [S.eitems])
  go_enter Tryd.func16, Tryd.ntmps16
  go_wp2_with fail
  refine (mk_slot base mb wv xs _ H1.out (Nat.le_trans hbw HB.out.size) (by omega) imm himm.1 himm.2).mono ?_
  rintro e w2 ⟨rfl, h2, hb2⟩
  have hbx := hb2.keep _ _ _ _ Hbox.out (by decide) (by decide)
  have hc1 : w2.cell? ⟨w.heap.size, 2, none⟩ = some (.int .i64 a) := by rw [Lib.cell_of_heap hbx]; rfl
  have H2 := Lib.hid h2
  have HB2 := Lib.hid (HB.out.trans hb2)
  have hsl := eslot_len imm
  clear hbx hb2 h2
  generalize S.eslot imm = r at *
  obtain ⟨l1, base', k⟩ := r
  go_wp2_with fail
  refine (mk_inst base mb wv _ w2 H2.out (Nat.le_trans hbw HB2.out.size) (by simp at *; omega) 25 0 base' a k).mono ?_
  rintro e w3 ⟨rfl, h3, hb3⟩
  go_wp2_with fail
  go_end0
  exact ⟨rfl, by rw [He.out]; simpa using h3, HB2.out.trans hb3⟩
end
section
variable (base mb : Nat) (wv : Value) (xs : List S.Item) (w : World) (hL : LVE w) (h3b : 3 ≤ base) (h : MkAt base mb wv xs w) (hbw : base ≤ w.heap.size) (hl : xs.length ≤ 890000000) (d a b imm label : Int) (uses map : List Int) (U M : Value) (words : List Int)
include hL h3b h hbw hl

set_option maxRecDepth 100000 in
set_option maxHeartbeats 1000000 in
theorem mv_70 (himm : I64 imm) : Calls Tryd.prog 16 #[.pointer (some ⟨mb, 0, none⟩), .agg (viCells ⟨70, d, a, b, imm, label, uses, map⟩ U M)] w (MkPost base mb wv xs (S.eitems words ⟨70, d, a, b, imm, label, uses, map⟩) w) := by
  have hbb := (Below.refl w.heap.size w).alloc (Nat.le_refl _) (.cells (viCells ⟨70, d, a, b, imm, label, uses, map⟩ U M) 25)
  have HL := Lib.hid (hL.on hbb)
  have H1 := Lib.hid (h.keep hbb)
  have HB := Lib.hid (BK.of hbb hbw)
  have Hbox := Lib.hid (hbox w (viCells ⟨70, d, a, b, imm, label, uses, map⟩ U M))
  unfold viCells at *
  clear hbb
  have He := Lib.hid (show S.eitems words ⟨70, d, a, b, imm, label, uses, map⟩ = [S.iAddr d (S.outer imm) 0, S.iInst 19 d d 0 2] by simp [S.eitems])
  go_enter Tryd.func16, Tryd.ntmps16
  go_wp2_with fail
  have hbd : Below (w.alloc (.cells #[.int .i64 70, .int .i64 d, .int .i64 a, .int .i64 b, .int .i64 imm, .int .i64 label, U, M] 25)).heap.size (w.alloc (.cells #[.int .i64 70, .int .i64 d, .int .i64 a, .int .i64 b, .int .i64 imm, .int .i64 label, U, M] 25)) (w.alloc (.cells #[.int .i64 70, .int .i64 d, .int .i64 a, .int .i64 b, .int .i64 imm, .int .i64 label, U, M] 25)).drew := Below.drew (Below.refl _ _)
  have HLd := Lib.hid (HL.out.on hbd)
  have H1d := Lib.hid (H1.out.keep hbd)
  have HBd := Lib.hid (HB.out.trans (BK.of hbd (Nat.le_trans hbw HB.out.size)))
  have Hboxd := Lib.hid ((BK.of hbd (Nat.le_refl _)).keep _ _ _ _ Hbox.out (by decide) (by decide))
  clear hbd
  have hc1 : (w.alloc (.cells #[.int .i64 70, .int .i64 d, .int .i64 a, .int .i64 b, .int .i64 imm, .int .i64 label, U, M] 25)).drew.cell? ⟨w.heap.size, 1, none⟩ = some (.int .i64 d) := by rw [Lib.cell_of_heap Hboxd.out]; rfl
  have hc4 : (w.alloc (.cells #[.int .i64 70, .int .i64 d, .int .i64 a, .int .i64 b, .int .i64 imm, .int .i64 label, U, M] 25)).drew.cell? ⟨w.heap.size, 4, none⟩ = some (.int .i64 imm) := by rw [Lib.cell_of_heap Hboxd.out]; rfl
  go_region_held3 (fun w' => w'.cell? ⟨w.heap.size, 1, none⟩ = some (.int .i64 d) ∧ w'.cell? ⟨w.heap.size, 4, none⟩ = some (.int .i64 imm))
    (first
      | exact ⟨hc1, hc4⟩
      | exact ⟨hd1, hd4⟩
      | exact ⟨hf1, hf4⟩
      | go_keep)
    (first
      | (go_at_call 35
         (with_reducible refine (e_outer imm himm _ HLd.out).mono ?_)
         rintro e w2 ⟨rfl, hb2⟩
         have Hbox2 := Lib.hid ((BK.of hb2 (Nat.le_refl _)).keep _ _ _ _ Hboxd.out (by decide) (by decide))
         have hd1 : w2.cell? ⟨w.heap.size, 1, none⟩ = some (.int .i64 d) := by rw [Lib.cell_of_heap Hbox2.out]; rfl
         have hd4 : w2.cell? ⟨w.heap.size, 4, none⟩ = some (.int .i64 imm) := by rw [Lib.cell_of_heap Hbox2.out]; rfl
         have H2 := Lib.hid (H1d.out.keep hb2)
         have HB2 := Lib.hid (HBd.out.trans (BK.of hb2 (Nat.le_trans hbw HBd.out.size)))
         clear hb2)
      | (go_at_call 39
         (refine (mk_one base mb wv xs (S.iAddr d (S.outer imm) 0) w2 H2.out (Nat.le_trans hbw HB2.out.size) (by omega) (by simp [S.iAddr]) (by simp [S.iAddr])).mono ?_)
         rintro e w3 ⟨rfl, h3, hb3⟩
         have Hbox3 := Lib.hid (hb3.keep _ _ _ _ Hbox2.out (by decide) (by decide))
         have hf1 : w3.cell? ⟨w.heap.size, 1, none⟩ = some (.int .i64 d) := by rw [Lib.cell_of_heap Hbox3.out]; rfl
         have hf4 : w3.cell? ⟨w.heap.size, 4, none⟩ = some (.int .i64 imm) := by rw [Lib.cell_of_heap Hbox3.out]; rfl
         have H3 := Lib.hid h3
         have HB3 := Lib.hid (HB2.out.trans hb3)
         clear hb3 h3))
  all_goals
    go_wp2_with fail
    refine (mk_inst base mb wv _ w3 H3.out (Nat.le_trans hbw HB3.out.size) (by simp; omega) 19 d d 0 2).mono ?_
    rintro e w4 ⟨rfl, h4, hb4⟩
    go_wp2_with fail
    go_end0
    exact ⟨rfl, by rw [He.out]; simpa using h4, HB3.out.trans hb4⟩

set_option maxRecDepth 100000 in
set_option maxHeartbeats 1000000 in
theorem mv_71 (himm : 0 ≤ imm ∧ imm < words.length) (W : Option Addr) (cW : Nat) (hwv : wv = .slice W words.length cW) (hW : U32s w base W words) : Calls Tryd.prog 16 #[.pointer (some ⟨mb, 0, none⟩), .agg (viCells ⟨71, d, a, b, imm, label, uses, map⟩ U M)] w (MkPost base mb wv xs (S.eitems words ⟨71, d, a, b, imm, label, uses, map⟩) w) := by
  have hbb := (Below.refl w.heap.size w).alloc (Nat.le_refl _) (.cells (viCells ⟨71, d, a, b, imm, label, uses, map⟩ U M) 25)
  have HL := Lib.hid (hL.on hbb)
  have H1 := Lib.hid (h.keep hbb)
  have HB := Lib.hid (BK.of hbb hbw)
  have Hbox := Lib.hid (hbox w (viCells ⟨71, d, a, b, imm, label, uses, map⟩ U M))
  unfold viCells at *
  clear hbb
  have He := Lib.hid (show S.eitems words ⟨71, d, a, b, imm, label, uses, map⟩ = S.eload d (words.getD imm.toNat 0) by simp [S.eitems])
  go_enter Tryd.func16, Tryd.ntmps16
  go_wp2_with fail
  obtain ⟨k, rfl⟩ : ∃ k : Nat, imm = k := ⟨imm.toNat, by omega⟩
  have hk : k < words.length := by omega
  have hbd : Below (w.alloc (.cells #[.int .i64 71, .int .i64 d, .int .i64 a, .int .i64 b, .int .i64 (k : Int), .int .i64 label, U, M] 25)).heap.size (w.alloc (.cells #[.int .i64 71, .int .i64 d, .int .i64 a, .int .i64 b, .int .i64 (k : Int), .int .i64 label, U, M] 25)) (w.alloc (.cells #[.int .i64 71, .int .i64 d, .int .i64 a, .int .i64 b, .int .i64 (k : Int), .int .i64 label, U, M] 25)).drew := Below.drew (Below.refl _ _)
  have HLd := Lib.hid (HL.out.on hbd)
  have H1d := Lib.hid (H1.out.keep hbd)
  have HBd := Lib.hid (HB.out.trans (BK.of hbd (Nat.le_trans hbw HB.out.size)))
  have hboxd := ((BK.of hbd (Nat.le_refl _)).keep _ _ _ _ Hbox.out (by decide) (by decide))
  have Hboxd := Lib.hid hboxd
  obtain ⟨hmb, v, hv1, hv2⟩ := H1d.out
  obtain ⟨b', off, x, hWe, hbB, hx, hcx, hx0, hx1⟩ := (hW.below HBd.out.below).at_ hk
  have hm1 : (w.alloc (.cells #[.int .i64 71, .int .i64 d, .int .i64 a, .int .i64 b, .int .i64 (k : Int), .int .i64 label, U, M] 25)).drew.cell? ⟨mb, 1, none⟩ = some (.slice W words.length cW) := (Lib.cell_of_heap hv1 (j := 1)).trans (by rw [← hwv]; rfl)
  have hc1 : (w.alloc (.cells #[.int .i64 71, .int .i64 d, .int .i64 a, .int .i64 b, .int .i64 (k : Int), .int .i64 label, U, M] 25)).drew.cell? ⟨w.heap.size, 1, none⟩ = some (.int .i64 d) := by rw [Lib.cell_of_heap hboxd]; rfl
  have hc4 : (w.alloc (.cells #[.int .i64 71, .int .i64 d, .int .i64 a, .int .i64 b, .int .i64 (k : Int), .int .i64 label, U, M] 25)).drew.cell? ⟨w.heap.size, 4, none⟩ = some (.int .i64 (k : Int)) := by rw [Lib.cell_of_heap hboxd]; rfl
  subst hWe
  have Hx := Lib.hid hx
  have Hgd := Lib.hid (show words.getD ((k : Int)).toNat 0 = x by simp [hx])
  clear hv1 hv2 hx hW hboxd hbd
  go_region_held3 (fun w' => w'.cell? ⟨w.heap.size, 1, none⟩ = some (.int .i64 d) ∧ w'.cell? ⟨w.heap.size, 4, none⟩ = some (.int .i64 (k : Int)) ∧ w'.cell? ⟨mb, 1, none⟩ = some (.slice (some ⟨b', off, none⟩) words.length cW) ∧ w'.cell? ⟨b', off + k, none⟩ = some (.int .u32 x))
    (first
      | exact ⟨hc1, hc4, hm1, hcx⟩
      | exact hS3
      | go_keep)
    (first
      | (go_at_call 36
         (refine (mk_load base mb wv xs _ H1d.out (Nat.le_trans hbw HBd.out.size) (by omega) d x hx0 hx1).mono ?_)
         rintro e w3 ⟨rfl, h3, hb3⟩
         have Hb3 := Lib.hid hb3
         have hboxe := hb3.keep _ _ _ _ Hboxd.out (by decide) (by decide)
         obtain ⟨hmb3, v3, hv3, _⟩ := id h3
         have hS3 : w3.cell? ⟨w.heap.size, 1, none⟩ = some (.int .i64 d) ∧ w3.cell? ⟨w.heap.size, 4, none⟩ = some (.int .i64 (k : Int)) ∧ w3.cell? ⟨mb, 1, none⟩ = some (.slice (some ⟨b', off, none⟩) words.length cW) ∧ w3.cell? ⟨b', off + k, none⟩ = some (.int .u32 x) :=
           ⟨by rw [Lib.cell_of_heap hboxe]; rfl, by rw [Lib.cell_of_heap hboxe]; rfl, (Lib.cell_of_heap hv3 (j := 1)).trans (by rw [hwv]; rfl), (hb3.below.cell (p := ⟨b', off + k, none⟩) hbB).trans hcx⟩
         have H3 := Lib.hid h3))
  all_goals
    go_wp2_with fail
    go_end0
    exact ⟨rfl, by have h5 := H3.out; rw [hwv] at h5; rw [He.out, Hgd.out]; exact h5, HBd.out.trans Hb3.out⟩
end

end Go.Proofs.YtidhglleeccpoaaDoor
