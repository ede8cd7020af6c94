/- EWrk, RowEnd, ERow: joined.  What the listed variables give, and a world that meets the list: for the rows of layer 24. -/
import Derived.Test.YtidhglleeccpoaaDoorEEmt
import Derived.Test.YtidhglleeccpoaaDoorRows
import Derived.Test.YtidhglleeccpoaaDoorELab
import Derived.ProofKit
import Derived.Carry
import Derived.OpenShut
import Derived.LaidMore
import Derived.LaidHandle
import Derived.MakeChecks
import Derived.Lib.LaidTab
import Derived.Stop.LaidErr
import Derived.Deep.DeepHandedRow
import Derived.Deep.DeepWitnessRowRef
section
set_option linter.unusedVariables false
set_option linter.unusedSimpArgs false
set_option linter.unusedSectionVars false
namespace Go.Proofs.YtidhglleeccpoaaDoor
open Go.RowKit

def wkX : VL := ⟨⟨72, 0, 0, 0, 106, 0, [], []⟩, none, 0, none, 0⟩
def wkF : S.VFunc := ⟨0, 32, 0, 0, 0, false, [wkX.i]⟩
theorem wk_E : S.emitE wkF [] = 0 := by kernel_rfl
theorem wk_N : S.emitName wkF [] = ⟨#[102, 117, 110, 48]⟩ := by kernel_rfl
theorem wk_I : S.emitItems wkF [] = [S.iLabel ⟨#[102, 48]⟩, S.iInst 15 3 0 0 0, S.iBranch 27 2 3 ⟨#[114, 116, 49, 48, 51]⟩, S.iLabel ⟨#[107, 48]⟩, S.iJump 0 ⟨#[114, 116, 49, 48, 54]⟩] := by kernel_rfl
theorem wk_8 : S.rt 8 = ⟨#[114, 116, 56]⟩ := by kernel_rfl

set_option maxRecDepth 100000 in
set_option maxHeartbeats 2000000 in
theorem l_works (w : World) (hL : LVE w) : Calls Tryd.prog 10 #[] w fun e w' => e = .returned (.bool true) ∧ Below w.heap.size w w' := by
  have hb1 : Below w.heap.size w (w.alloc (.cells #[.int .i64 72, .int .i64 0, .int .i64 0, .int .i64 0, .int .i64 106, .int .i64 0, .slice none 0 0, .slice none 0 0] 25)) := (Below.refl _ _).alloc (Nat.le_refl _) _
  have hrow := heap_alloc_new w (.cells #[.int .i64 72, .int .i64 0, .int .i64 0, .int .i64 0, .int .i64 106, .int .i64 0, .slice none 0 0, .slice none 0 0] 25)
  have hsz : w.heap.size < (w.alloc (.cells #[.int .i64 72, .int .i64 0, .int .i64 0, .int .i64 0, .int .i64 106, .int .i64 0, .slice none 0 0, .slice none 0 0] 25)).heap.size := by simp
  have hE := e_Emit wkF (some ⟨w.heap.size, 0, none⟩) 1 [wkX] rfl _ (hL.on hb1) (VLs.of_row (xs := [wkX]) hrow rfl hsz) (fun x hx => by
    have : x = wkX := by simpa using hx
    subst this
    exact ⟨fun h => absurd h (by decide), fun h => absurd h (by decide), by decide, by decide, fun _ => rfl, fun _ => rfl, by unfold I64; decide, by unfold I64; decide, by unfold I64; decide, by unfold I64; decide⟩) (by decide) (by decide) (by unfold I64; decide) none 0 [] ⟨by simp, fun h => absurd h (by decide)⟩ (by decide)
  unfold vfCells EmitPost at hE
  rw [wk_E, wk_N, wk_I] at hE
  have HE := Lib.hid hE
  have Hb1 := Lib.hid hb1
  have HL := Lib.hid hL
  clear hE hb1 hrow hsz hL
  go_enter Tryd.func10, Tryd.ntmps10
  go_wp2_with fail
  refine HE.out.mono ?_
  rintro e w2 ⟨v, rfl, ho, hb2⟩
  obtain ⟨A', c', rfl⟩ := ownsRow_form ho
  obtain ⟨g, rfl, hg1, hg2, hg3, hg4, hg5⟩ := ownsRow_at ho (by decide)
  have h02 := Hb1.out.trans (hb2.mono Hb1.out.size)
  have r0 := hg4 6 (by decide)
  have r3 := hg4 30 (by decide)
  have r4 := hg4 38 (by decide)
  have Hl := Lib.hid (fun (W : World) (hb : Below w2.heap.size w2 W) => e_Label 8 (by unfold I64; decide) W ((HL.out.on h02).on hb))
  simp only [List.flatMap_cons, List.flatMap_nil, itemCells, S.iLabel, S.iInst, S.iBranch, S.iJump, List.cons_append, List.nil_append, List.getElem?_cons_succ, List.getElem?_cons_zero] at r0 r3 r4
  have hbX : Below w2.heap.size w2 (w2.alloc (.cells #[.string ⟨#[102, 117, 110, 48]⟩, .slice (some ⟨g, 0, none⟩) 5 c'] 31)) := (Below.refl _ _).alloc (Nat.le_refl _) _
  have hcX := fun j => cell_row_new w2 #[.string ⟨#[102, 117, 110, 48]⟩, .slice (some ⟨g, 0, none⟩) 5 c'] 31 j
  have h0X := Lib.hid (h02.trans (hbX.mono h02.size))
  have Hlx := Lib.hid (Hl.out _ hbX)
  rw [wk_8] at Hlx
  clear ho hg4 hg5 hb2 h02 Hl
  go_upto_region 2 with fail
  generalize w2.alloc (.cells #[.string ⟨#[102, 117, 110, 48]⟩, .slice (some ⟨g, 0, none⟩) 5 c'] 31) = w3 at *
  have x0 := hcX 0
  have x1 := hcX 1
  simp only [List.getElem?_toArray, List.getElem?_cons_zero, List.getElem?_cons_succ] at x0 x1
  have r0' := (hbX.cell (p := ⟨g, 6, none⟩) hg2).trans r0
  have r3' := (hbX.cell (p := ⟨g, 30, none⟩) hg2).trans r3
  have r4' := (hbX.cell (p := ⟨g, 38, none⟩) hg2).trans r4
  clear hcX hbX r0 r3 r4
  go_wp2_with fail
  refine Hlx.out.mono ?_
  rintro e w4 ⟨rfl, hb4⟩
  go_wp2_with fail
  go_ret
  exact ⟨rfl, h0X.out.trans (hb4.mono h0X.out.size)⟩

end Go.Proofs.YtidhglleeccpoaaDoor
end

section
set_option linter.unusedVariables false
set_option linter.unusedSimpArgs false
set_option linter.unusedSectionVars false
namespace Go.Proofs.YtidhglleeccpoaaDoor
open Go.ChangeShapes Go.WideShapes Go.ChangeAt Go.RowKit

theorem Tryd.own : ownKnob Tryd.prog.godebug = none := by kernel_rfl
theorem Tryd.laidOut : laidOutB Tryd.prog = true := by kernel_rfl

section
variable {H : Type} {enc : TypeId × Value → H} {P : Program}
/-- An argument reads behind the call as it did before it. -/
theorem trod_below {t : TypeId} (hl : laidOutB P = true) (hr : P.readableRec t = true) (hrow : t < P.types.size) {W W' : World} {v : Value} {d : DataW H} {ps : List MemPlace}
    (h : DataW.Trod enc P W 0 (fun _ => true) true t v d ps) (hb : Below W.heap.size W W') (hlt : ∀ x ∈ ps, x.block < W.heap.size) (sp : Nat → Bool) (hs : ∀ x ∈ ps, sp x.block = true) :
    DataW.Trod enc P W' 0 sp true t v d ps :=
  WideElems.Trod_stays hl hr hrow h (fun x hx => hb.same (hlt x hx)) hs

/-- The row's last step where the call leaves what was there as it was. -/
theorem post_of_below {f : Func} {s : ChangeSpec} {apart fresh handsOn again : Bool} {W W' : World} {args : Array Value} {v : Value} {ds gs : List (DataW H)} {before pa pv : List MemPlace}
    (hW : DataW.Whole enc P f.params.toList s.vars apart W args.toList ds gs before)
    (hres : ∀ (b : Nat) (sp : Nat → Bool) (hd : Bool), DataW.TrodAll enc P W' b sp hd f.resultTypes.toList (v.resultList f.resultTypes.size) (s.fn H (ds ++ gs)).results [])
    (hargs : ∀ sp : Nat → Bool, (∀ p ∈ before, sp p.block = true) → DataW.TrodAll enc P W' 0 sp true f.params.toList args.toList (s.fn H (ds ++ gs)).args pa)
    (hvars : ∀ sp : Nat → Bool, (∀ p ∈ before, sp p.block = true) → DataW.TrodVars enc P W' sp s.vars (s.fn H (ds ++ gs)).vars pv)
    (hps : before = pa ++ pv) (hb : Below W.heap.size W W')
    (hok : ∀ (j : Nat) (t : TypeId) (r : Value), f.resultTypes[j]? = some t → (v.resultList f.resultTypes.size)[j]? = some r → Value.okWide P W' .any 0 t r) :
    s.post enc P f apart fresh handsOn again W args v W' := by
  have hlt : ∀ p ∈ before, p.block < W.heap.size := fun p hp => hW.lt p hp
  have hold : ∀ p ∈ before, (fun b => decide (b < W.heap.size)) p.block = true := fun p hp => by simpa using hlt p hp
  refine ⟨ds, gs, before, [], pa, pv, hW, hres _ _ _, hargs _ hold, hvars _ hold, World.keptBut_mono (fun p hp => ⟨hp, ?_⟩) (hb.frame (· ∈ before)), fun _ => ?_⟩
  · rw [hps, List.mem_append] at hp
    exact Or.inr hp
  · obtain ⟨_, _, _, _, _, hz, hn⟩ := hW
    refine ⟨hok, _, _, ([] ++ pa) ++ pv, ⟨[] ++ pa, pv, trodAll_append (hargs _ (fun _ _ => rfl)) (hres _ _ _), hvars _ (fun _ _ => rfl), rfl, ?_, ?_⟩, ?_⟩
    · intro b off hp
      have hin : MemPlace.cell b off ∈ before := by rw [hps]; simpa using hp
      rw [hb.frozen (hlt _ hin)]
      exact hz b off hin
    · intro ha
      have := hn ha
      rw [hps] at this
      simpa using this
    · intro p hp _
      rw [hps]
      simpa using hp
end

end Go.Proofs.YtidhglleeccpoaaDoor
end

section
set_option maxRecDepth 100000
set_option linter.unusedVariables false
set_option linter.unusedSimpArgs false
set_option linter.unusedSectionVars false
namespace Go.Proofs.YtidhglleeccpoaaDoor
open Go.ChangeShapes Go.WideShapes Go.ChangeAt Go.RowKit

theorem gPow : Tryd.prog.globalNamed "internal/strconv.uint64pow10" = some 0 := by kernel_rfl
theorem tPow : (Tryd.prog.globals[0]?).map (·.type) = some 133 := by kernel_rfl
theorem cPow : Tryd.prog.cellsOf 133 = 20 := by kernel_rfl
theorem cU64 : Tryd.prog.cellsOf 96 = 1 := by kernel_rfl
/-- What the rows list. -/
def laidL : List (String × DataW Unit) := Rows.emitLoadsRow.laid
noncomputable def laidWorld (os : Os) : World := World.doorLaid Tryd.prog 100 os
theorem laid_met (os : Os) (args : Array Value) : laidMetH Tryd.prog laidL ((laidWorld os).forCall (fun _ _ => 0) ⟨#[], args, []⟩).memory :=
  laidMetH_of_parts3 (fuel := 8) (laidMet_of_run' 8 (by kernel_rfl) (by kernel_rfl)) (by kernel_rfl) (by kernel_rfl)

theorem lv_of {W : World} (h : laidMetH Tryd.prog laidL W) (hs : W.ShapedOpen Tryd.prog) : LVE W := by
  rw [MakeChecks.laidMetH_plain _ _ _ (by kernel_rfl)] at h
  have h3 := laidMet.tail (laidMet.tail h)
  have hsz : 3 ≤ W.heap.size := by
    obtain ⟨cs, ho, _⟩ := hs.1 2 (Array.replicate 64 (.int .u8 0)) 138 (of_decide_eq_true (by kernel_rfl)) (by kernel_rfl)
    rcases Nat.lt_or_ge 2 W.heap.size with h8 | h8
    · exact h8
    · simp [Array.getElem?_eq_none h8] at ho
  exact ⟨Lib.tabIs_of_head gPow tPow Tryd.underlying133 Tryd.underlying96 cU64 cPow h3, hsz⟩

theorem wf_i64 {y : Int} (h : (Lit.int .i64 y).wf = true) : I64 y := by
  simp [Lit.wf, IntKind.min, IntKind.max, IntKind.signed, IntKind.bits] at h
  unfold I64
  omega

end Go.Proofs.YtidhglleeccpoaaDoor
end
