/- Walk of pennantlaw24.works. -/
import Derived.Test.YtkdalaiponchbaaDoorEEmt
set_option linter.unusedVariables false
set_option linter.unusedSimpArgs false
set_option linter.unusedSectionVars false
namespace Go.Proofs.YtkdalaiponchbaaDoor
open Go.RowKit

def wkX : VL := ⟨⟨72, 0, 0, 0, 106, 0, [], []⟩, none, 0, none, 0⟩
def wkF : S.VFunc := ⟨0, 32, 0, 0, 0, false, [wkX.i]⟩
theorem wk_E : S.emitE wkF [] = 0 := by kernel_rfl
theorem wk_N : S.emitName wkF [] = ⟨#[102, 117, 110, 48]⟩ := by kernel_rfl
theorem wk_I : S.emitItems wkF [] = [S.iLabel ⟨#[102, 48]⟩, S.iInst 15 3 0 0 0, S.iBranch 27 2 3 ⟨#[114, 116, 49, 48, 51]⟩, S.iLabel ⟨#[107, 48]⟩, S.iJump 0 ⟨#[114, 116, 49, 48, 54]⟩] := by kernel_rfl
theorem wk_8 : S.rt 8 = ⟨#[114, 116, 56]⟩ := by kernel_rfl

set_option maxRecDepth 100000 in
set_option maxHeartbeats 2000000 in
theorem l_works (w : World) (hL : LVE w) : Calls Tryd.prog 9 #[] w fun e w' => e = .returned (.bool true) ∧ Below w.heap.size w w' := by
  have hb1 : Below w.heap.size w (w.alloc (.cells #[.int .i64 72, .int .i64 0, .int .i64 0, .int .i64 0, .int .i64 106, .int .i64 0, .slice none 0 0, .slice none 0 0] 44)) := (Below.refl _ _).alloc (Nat.le_refl _) _
  have hrow := heap_alloc_new w (.cells #[.int .i64 72, .int .i64 0, .int .i64 0, .int .i64 0, .int .i64 106, .int .i64 0, .slice none 0 0, .slice none 0 0] 44)
  have hsz : w.heap.size < (w.alloc (.cells #[.int .i64 72, .int .i64 0, .int .i64 0, .int .i64 0, .int .i64 106, .int .i64 0, .slice none 0 0, .slice none 0 0] 44)).heap.size := by simp
  have hE := e_Emit wkF (some ⟨w.heap.size, 0, none⟩) 1 [wkX] rfl _ (hL.on hb1) (VLs.of_row (xs := [wkX]) hrow rfl hsz) (fun x hx => by
    have : x = wkX := by simpa using hx
    subst this
    exact ⟨fun h => absurd h (by decide), fun h => absurd h (by decide), by decide, by decide, fun _ => rfl, fun _ => rfl, by unfold I64; decide, by unfold I64; decide, by unfold I64; decide, by unfold I64; decide⟩) (by decide) (by decide) (by unfold I64; decide) none 0 [] ⟨by simp, fun h => absurd h (by decide)⟩ (by decide)
  unfold vfCells EmitPost at hE
  rw [wk_E, wk_N, wk_I] at hE
  have HE := Lib.hid hE
  have Hb1 := Lib.hid hb1
  have HL := Lib.hid hL
  clear hE hb1 hrow hsz hL
  go_enter Tryd.func9, Tryd.ntmps9
  go_wp2_with fail
  refine HE.out.mono ?_
  rintro e w2 ⟨v, rfl, ho, hb2⟩
  obtain ⟨A', c', rfl⟩ := ownsRow_form ho
  obtain ⟨g, rfl, hg1, hg2, hg3, hg4, hg5⟩ := ownsRow_at ho (by decide)
  have h02 := Hb1.out.trans (hb2.mono Hb1.out.size)
  have r0 := hg4 6 (by decide)
  have r3 := hg4 30 (by decide)
  have r4 := hg4 38 (by decide)
  have Hl := Lib.hid (fun (W : World) (hb : Below w2.heap.size w2 W) => e_Label 8 (by unfold I64; decide) W ((HL.out.on h02).on hb))
  simp only [List.flatMap_cons, List.flatMap_nil, itemCells, S.iLabel, S.iInst, S.iBranch, S.iJump, List.cons_append, List.nil_append, List.getElem?_cons_succ, List.getElem?_cons_zero] at r0 r3 r4
  have hbX : Below w2.heap.size w2 (w2.alloc (.cells #[.string ⟨#[102, 117, 110, 48]⟩, .slice (some ⟨g, 0, none⟩) 5 c'] 30)) := (Below.refl _ _).alloc (Nat.le_refl _) _
  have hcX := fun j => cell_row_new w2 #[.string ⟨#[102, 117, 110, 48]⟩, .slice (some ⟨g, 0, none⟩) 5 c'] 30 j
  have h0X := Lib.hid (h02.trans (hbX.mono h02.size))
  have Hlx := Lib.hid (Hl.out _ hbX)
  rw [wk_8] at Hlx
  clear ho hg4 hg5 hb2 h02 Hl
  go_upto_region 2 with fail
  generalize w2.alloc (.cells #[.string ⟨#[102, 117, 110, 48]⟩, .slice (some ⟨g, 0, none⟩) 5 c'] 30) = w3 at *
  have x0 := hcX 0
  have x1 := hcX 1
  simp only [List.getElem?_toArray, List.getElem?_cons_zero, List.getElem?_cons_succ] at x0 x1
  have r0' := (hbX.cell (p := ⟨g, 6, none⟩) hg2).trans r0
  have r3' := (hbX.cell (p := ⟨g, 30, none⟩) hg2).trans r3
  have r4' := (hbX.cell (p := ⟨g, 38, none⟩) hg2).trans r4
  clear hcX hbX r0 r3 r4
  go_wp2_with fail
  refine Hlx.out.mono ?_
  rintro e w4 ⟨rfl, hb4⟩
  go_wp2_with fail
  go_ret
  exact ⟨rfl, h0X.out.trans (hb4.mono h0X.out.size)⟩

end Go.Proofs.YtkdalaiponchbaaDoor
