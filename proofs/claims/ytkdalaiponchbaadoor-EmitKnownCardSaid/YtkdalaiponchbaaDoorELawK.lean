/- Walk of the law EmitKnown. -/
import Derived.Test.YtkdalaiponchbaaDoorEWrk
set_option linter.unusedVariables false
set_option linter.unusedSimpArgs false
set_option linter.unusedSectionVars false
namespace Go.Proofs.YtkdalaiponchbaaDoor
open Go.RowKit

theorem vok_nil (w : World) (B : Nat) (op d a b imm lab : Int) (h1 : I64 op) (h2 : I64 d) (h3 : I64 imm) (h4 : I64 lab) : VOk w B ⟨⟨op, d, a, b, imm, lab, [], []⟩, none, 0, none, 0⟩ :=
  ⟨fun h => absurd h (by simp), fun h => absurd h (by simp), by simp, by simp, fun _ => rfl, fun _ => rfl, h1, h2, h3, h4⟩
theorem vok_two (w : World) (B g : Nat) (op d a b imm lab m1 m2 : Int) (hM : Ints w B (some ⟨g, 0, none⟩) [m1, m2]) (h1 : I64 op) (h2 : I64 d) (h3 : I64 imm) (h4 : I64 lab) : VOk w B ⟨⟨op, d, a, b, imm, lab, [], [m1, m2]⟩, none, 0, some ⟨g, 0, none⟩, 2⟩ :=
  ⟨fun h => absurd h (by simp), hM, by simp, by simp, fun _ => rfl, fun h => (by cases h), h1, h2, h3, h4⟩
def kF1 : S.VFunc := ⟨0, 32, 40, 0, 0, false, [⟨69, 4, 0, 0, 6, 0, [], []⟩, ⟨69, 4, 0, 0, 65536, 0, [], []⟩, ⟨69, 4, 0, 0, -1, 0, [], []⟩, ⟨67, 4, 0, 0, 8, 0, [], [0, 33]⟩, ⟨67, -1, 0, 0, 8, 0, [], []⟩, ⟨72, 0, 0, 0, 106, 0, [], []⟩]⟩
theorem kE1 : S.emitE kF1 [] = 0 := by kernel_rfl
def kF2 : S.VFunc := ⟨0, 33, 0, 0, 0, false, [⟨64, 32, 0, 0, 0, 0, [], []⟩, ⟨72, 0, 0, 0, 106, 0, [], []⟩]⟩
theorem kE2 : S.emitE kF2 [] = 2 := by kernel_rfl
def kF3 : S.VFunc := ⟨0, 32, 0, 0, 0, false, [⟨71, 4, 0, 0, 0, 0, [], []⟩, ⟨72, 0, 0, 0, 106, 0, [], []⟩]⟩
theorem kE3 : S.emitE kF3 [] = 2 := by kernel_rfl
def kF4 : S.VFunc := ⟨0, 32, 0, 0, 0, false, [⟨73, 4, 0, 0, 0, 0, [], []⟩, ⟨72, 0, 0, 0, 106, 0, [], []⟩]⟩
theorem kE4 : S.emitE kF4 [] = 2 := by kernel_rfl
def kF5 : S.VFunc := ⟨0, 32, 2, 0, 0, false, [⟨67, 4, 0, 0, 0, 0, [], [1, 1]⟩, ⟨72, 0, 0, 0, 106, 0, [], []⟩]⟩
theorem kE5 : S.emitE kF5 [] = 2 := by kernel_rfl
def kF6 : S.VFunc := ⟨0, 32, 0, 0, 0, true, [⟨72, 0, 0, 0, 106, 0, [], []⟩]⟩
theorem kE6 : S.emitE kF6 [] = 2 := by kernel_rfl
def kF7 : S.VFunc := ⟨0, 32, 16777217, 0, 0, false, [⟨72, 0, 0, 0, 106, 0, [], []⟩]⟩
theorem kE7 : S.emitE kF7 [] = 2 := by kernel_rfl
def kF8 : S.VFunc := ⟨12, 32, 0, 5, 3, false, [⟨68, 0, 0, 0, 7, 0, [], []⟩]⟩
theorem kE8 : S.emitE kF8 [] = 0 := by kernel_rfl
def kI1 : List S.Item := [S.iLabel ⟨#[102, 48]⟩, S.iInst 15 3 0 0 0, S.iBranch 27 2 3 ⟨#[114, 116, 49, 48, 51]⟩, S.iLabel ⟨#[107, 48]⟩, S.iInst 15 4 0 0 6, S.iInst 23 4 0 0 1, S.iInst 15 4 0 0 (-1), S.iJump 31 ⟨#[114, 116, 56]⟩, S.iWord 2, S.iWord 1, S.iWord 2, S.iJump 31 ⟨#[114, 116, 56]⟩, S.iWord 0, S.iJump 0 ⟨#[114, 116, 49, 48, 54]⟩]
theorem kI1_eq : S.emitItems kF1 [] = kI1 := by kernel_rfl
theorem kN1 : S.emitName kF1 [] = ⟨#[102, 117, 110, 48]⟩ := by kernel_rfl
theorem kN8 : S.emitName kF8 [] = ⟨#[102, 117, 110, 49, 50]⟩ := by kernel_rfl
theorem kL8 : (S.emitItems kF8 []).length = 11 := by kernel_rfl
theorem kI8 : ((S.emitItems kF8 []).flatMap itemCells)[86]? = some (.string ⟨#[107, 55]⟩) := by kernel_rfl
theorem kOk7 : ¬ headOk kF7 := by unfold headOk kF7; simp only; omega

set_option maxRecDepth 100000 in
set_option maxHeartbeats 2000000 in
theorem e_Emit_bad (f : S.VFunc) (A : Option Addr) (c n : Nat) (w : World) (h : ¬ headOk f) (W : Option Addr) (cW nW : Nat) (words : List Int) :
    Calls Tryd.prog 10 #[.agg (vfCells f (.slice A n c)), .slice W nW cW] w (EmitPost f words w) := by
  have HE := Lib.hid (emitE_chk (f := f) (words := words) (by rw [echk_bad h]; decide))
  have HB := Lib.hid (emit_bad HE.out)
  have hck := fun W => e_Check_bad f (.slice A n c) W h
  rw [echk_bad h] at hck
  obtain ⟨fn, regs, slots, need, params, rest, insts⟩ := f
  unfold vfCells at *
  simp only at hck
  have Hck := Lib.hid hck
  clear hck h
  have Hb2 := Lib.hid (show Below w.heap.size w ((w.alloc (.cells #[.int .i64 fn, .int .i64 regs, .int .i64 slots, .int .i64 need, .int .i64 params, .bool rest, .slice A n c] 24)).alloc (.cells #[.string ⟨#[]⟩, .slice none 0 0] 30)) from ((Below.refl _ _).alloc (Nat.le_refl _) _).alloc (by simp) _)
  have Hb22 := Lib.hid (show ((w.alloc (.cells #[.int .i64 fn, .int .i64 regs, .int .i64 slots, .int .i64 need, .int .i64 params, .bool rest, .slice A n c] 24)).alloc (.cells #[.string ⟨#[]⟩, .slice none 0 0] 30)).heap.size = w.heap.size + 2 by simp)
  have Hc2 := Lib.hid (two_cells w (.cells #[.int .i64 fn, .int .i64 regs, .int .i64 slots, .int .i64 need, .int .i64 params, .bool rest, .slice A n c] 24) (.cells #[.string ⟨#[]⟩, .slice none 0 0] 30))
  go_enter Tryd.func10, Tryd.ntmps10
  go_wp2_with fail
  refine (Hck.out _).mono ?_
  rintro e w3 ⟨rfl, hb3⟩
  have hob := (hb3.block (w.heap.size + 1) (by rw [Hb22.out]; omega)).trans Hc2.out.2
  have h03 := Lib.hid (Hb2.out.trans (hb3.mono Hb2.out.size))
  have o0 : w3.cell? ⟨w.heap.size + 1, 0, none⟩ = some (.string ⟨#[]⟩) := by rw [Lib.cell_of_heap hob]; rfl
  have o1 : w3.cell? ⟨w.heap.size + 1, 1, none⟩ = some (.slice none 0 0) := by rw [Lib.cell_of_heap hob]; rfl
  have g0 : w3.frozen? ⟨w.heap.size + 1, 0, none⟩ = false := Lib.frozen_of_heap hob 0
  have g1 : w3.frozen? ⟨w.heap.size + 1, 1, none⟩ = false := Lib.frozen_of_heap hob 1
  clear hob hb3
  go_wp2_with fail
  (try simp only [Exit.inBlock, Exit.then])
  refine bodyPost_ret (v := .tuple #[.agg #[.string ⟨#[]⟩, .slice none 0 0], .int .i64 2]) (by rw [results_cell_tmp rfl]; go_simp) rfl ⟨.slice none 0 0, ?_, ?_, ?_⟩
  · rw [HB.out.1, HE.out]; rfl
  · rw [HB.out.2]; exact World.ownsRow_nil _ _ _ _
  · exact (h03.out.setCell (p := ⟨w.heap.size + 1, 0, none⟩) (by show w.heap.size ≤ w.heap.size + 1; omega) _).setCell (p := ⟨w.heap.size + 1, 1, none⟩) (by show w.heap.size ≤ w.heap.size + 1; omega) _

/-- One run of emit.Emit that answers an error, in a world that holds all that z holds. -/
def KErr (z : World) (e : Ending) (w' : World) : Prop := ∃ A c, e = .returned (.tuple #[.agg #[.string ⟨#[]⟩, .slice A 0 c], .int .i64 2]) ∧ Below z.heap.size z w'
theorem kerr_of {f : S.VFunc} {z z1 : World} {e : Ending} {w' : World} (hb : Below z.heap.size z z1) (hE : S.emitE f [] = 2) (h : EmitPost f [] z1 e w') : KErr z e w' := by
  obtain ⟨v, rfl, ho, hb'⟩ := h
  obtain ⟨h1, h2⟩ := emit_bad hE
  rw [h2] at ho
  obtain ⟨A, c, rfl⟩ := ownsRow_form ho
  refine ⟨A, c, ?_, hb.trans (hb'.mono hb.size)⟩
  rw [h1, hE]; rfl

theorem k_run2 (z : World) (hL : LVE z) : Calls Tryd.prog 10 #[.agg #[.int .i64 0, .int .i64 33, .int .i64 0, .int .i64 0, .int .i64 0, .bool false, .slice (some ⟨z.heap.size, 0, none⟩) 2 2], .slice none 0 0] (z.alloc (.cells #[.int .i64 64, .int .i64 32, .int .i64 0, .int .i64 0, .int .i64 0, .int .i64 0, .slice none 0 0, .slice none 0 0, .int .i64 72, .int .i64 0, .int .i64 0, .int .i64 0, .int .i64 106, .int .i64 0, .slice none 0 0, .slice none 0 0] 44)) (KErr z) := by
  have hb : Below z.heap.size z (z.alloc (.cells #[.int .i64 64, .int .i64 32, .int .i64 0, .int .i64 0, .int .i64 0, .int .i64 0, .slice none 0 0, .slice none 0 0, .int .i64 72, .int .i64 0, .int .i64 0, .int .i64 0, .int .i64 106, .int .i64 0, .slice none 0 0, .slice none 0 0] 44)) := (Below.refl _ _).alloc (Nat.le_refl _) _
  refine (e_Emit kF2 (some ⟨z.heap.size, 0, none⟩) 2 [⟨⟨64, 32, 0, 0, 0, 0, [], []⟩, none, 0, none, 0⟩, ⟨⟨72, 0, 0, 0, 106, 0, [], []⟩, none, 0, none, 0⟩] rfl _ (hL.on hb) (VLs.of_row (xs := [⟨⟨64, 32, 0, 0, 0, 0, [], []⟩, none, 0, none, 0⟩, ⟨⟨72, 0, 0, 0, 106, 0, [], []⟩, none, 0, none, 0⟩]) (heap_alloc_new z _) rfl (by simp)) (fun x hx => ?_) (by simp) (by decide) (by unfold I64; decide) none 0 [] ⟨by simp, fun h => absurd h (by decide)⟩ (by decide)).mono fun e w' h => kerr_of hb kE2 h
  simp only [List.mem_cons, List.not_mem_nil, or_false] at hx
  rcases hx with rfl | rfl <;> exact vok_nil _ _ _ _ _ _ _ _ (by unfold I64; decide) (by unfold I64; decide) (by unfold I64; decide) (by unfold I64; decide)

theorem k_run3 (z : World) (hL : LVE z) : Calls Tryd.prog 10 #[.agg #[.int .i64 0, .int .i64 32, .int .i64 0, .int .i64 0, .int .i64 0, .bool false, .slice (some ⟨z.heap.size, 0, none⟩) 2 2], .slice none 0 0] (z.alloc (.cells #[.int .i64 71, .int .i64 4, .int .i64 0, .int .i64 0, .int .i64 0, .int .i64 0, .slice none 0 0, .slice none 0 0, .int .i64 72, .int .i64 0, .int .i64 0, .int .i64 0, .int .i64 106, .int .i64 0, .slice none 0 0, .slice none 0 0] 44)) (KErr z) := by
  have hb : Below z.heap.size z (z.alloc (.cells #[.int .i64 71, .int .i64 4, .int .i64 0, .int .i64 0, .int .i64 0, .int .i64 0, .slice none 0 0, .slice none 0 0, .int .i64 72, .int .i64 0, .int .i64 0, .int .i64 0, .int .i64 106, .int .i64 0, .slice none 0 0, .slice none 0 0] 44)) := (Below.refl _ _).alloc (Nat.le_refl _) _
  refine (e_Emit kF3 (some ⟨z.heap.size, 0, none⟩) 2 [⟨⟨71, 4, 0, 0, 0, 0, [], []⟩, none, 0, none, 0⟩, ⟨⟨72, 0, 0, 0, 106, 0, [], []⟩, none, 0, none, 0⟩] rfl _ (hL.on hb) (VLs.of_row (xs := [⟨⟨71, 4, 0, 0, 0, 0, [], []⟩, none, 0, none, 0⟩, ⟨⟨72, 0, 0, 0, 106, 0, [], []⟩, none, 0, none, 0⟩]) (heap_alloc_new z _) rfl (by simp)) (fun x hx => ?_) (by simp) (by decide) (by unfold I64; decide) none 0 [] ⟨by simp, fun h => absurd h (by decide)⟩ (by decide)).mono fun e w' h => kerr_of hb kE3 h
  simp only [List.mem_cons, List.not_mem_nil, or_false] at hx
  rcases hx with rfl | rfl <;> exact vok_nil _ _ _ _ _ _ _ _ (by unfold I64; decide) (by unfold I64; decide) (by unfold I64; decide) (by unfold I64; decide)

theorem k_run4 (z : World) (hL : LVE z) : Calls Tryd.prog 10 #[.agg #[.int .i64 0, .int .i64 32, .int .i64 0, .int .i64 0, .int .i64 0, .bool false, .slice (some ⟨z.heap.size, 0, none⟩) 2 2], .slice none 0 0] (z.alloc (.cells #[.int .i64 73, .int .i64 4, .int .i64 0, .int .i64 0, .int .i64 0, .int .i64 0, .slice none 0 0, .slice none 0 0, .int .i64 72, .int .i64 0, .int .i64 0, .int .i64 0, .int .i64 106, .int .i64 0, .slice none 0 0, .slice none 0 0] 44)) (KErr z) := by
  have hb : Below z.heap.size z (z.alloc (.cells #[.int .i64 73, .int .i64 4, .int .i64 0, .int .i64 0, .int .i64 0, .int .i64 0, .slice none 0 0, .slice none 0 0, .int .i64 72, .int .i64 0, .int .i64 0, .int .i64 0, .int .i64 106, .int .i64 0, .slice none 0 0, .slice none 0 0] 44)) := (Below.refl _ _).alloc (Nat.le_refl _) _
  refine (e_Emit kF4 (some ⟨z.heap.size, 0, none⟩) 2 [⟨⟨73, 4, 0, 0, 0, 0, [], []⟩, none, 0, none, 0⟩, ⟨⟨72, 0, 0, 0, 106, 0, [], []⟩, none, 0, none, 0⟩] rfl _ (hL.on hb) (VLs.of_row (xs := [⟨⟨73, 4, 0, 0, 0, 0, [], []⟩, none, 0, none, 0⟩, ⟨⟨72, 0, 0, 0, 106, 0, [], []⟩, none, 0, none, 0⟩]) (heap_alloc_new z _) rfl (by simp)) (fun x hx => ?_) (by simp) (by decide) (by unfold I64; decide) none 0 [] ⟨by simp, fun h => absurd h (by decide)⟩ (by decide)).mono fun e w' h => kerr_of hb kE4 h
  simp only [List.mem_cons, List.not_mem_nil, or_false] at hx
  rcases hx with rfl | rfl <;> exact vok_nil _ _ _ _ _ _ _ _ (by unfold I64; decide) (by unfold I64; decide) (by unfold I64; decide) (by unfold I64; decide)

theorem k_run6 (z : World) (hL : LVE z) : Calls Tryd.prog 10 #[.agg #[.int .i64 0, .int .i64 32, .int .i64 0, .int .i64 0, .int .i64 0, .bool true, .slice (some ⟨z.heap.size, 0, none⟩) 1 1], .slice none 0 0] (z.alloc (.cells #[.int .i64 72, .int .i64 0, .int .i64 0, .int .i64 0, .int .i64 106, .int .i64 0, .slice none 0 0, .slice none 0 0] 44)) (KErr z) := by
  have hb : Below z.heap.size z (z.alloc (.cells #[.int .i64 72, .int .i64 0, .int .i64 0, .int .i64 0, .int .i64 106, .int .i64 0, .slice none 0 0, .slice none 0 0] 44)) := (Below.refl _ _).alloc (Nat.le_refl _) _
  refine (e_Emit kF6 (some ⟨z.heap.size, 0, none⟩) 1 [⟨⟨72, 0, 0, 0, 106, 0, [], []⟩, none, 0, none, 0⟩] rfl _ (hL.on hb) (VLs.of_row (xs := [⟨⟨72, 0, 0, 0, 106, 0, [], []⟩, none, 0, none, 0⟩]) (heap_alloc_new z _) rfl (by simp)) (fun x hx => ?_) (by simp) (by decide) (by unfold I64; decide) none 0 [] ⟨by simp, fun h => absurd h (by decide)⟩ (by decide)).mono fun e w' h => kerr_of hb kE6 h
  simp only [List.mem_cons, List.not_mem_nil, or_false] at hx
  rcases hx with rfl <;> exact vok_nil _ _ _ _ _ _ _ _ (by unfold I64; decide) (by unfold I64; decide) (by unfold I64; decide) (by unfold I64; decide)

theorem k_run7 (z : World) (hL : LVE z) : Calls Tryd.prog 10 #[.agg #[.int .i64 0, .int .i64 32, .int .i64 16777217, .int .i64 0, .int .i64 0, .bool false, .slice (some ⟨z.heap.size, 0, none⟩) 1 1], .slice none 0 0] (z.alloc (.cells #[.int .i64 72, .int .i64 0, .int .i64 0, .int .i64 0, .int .i64 106, .int .i64 0, .slice none 0 0, .slice none 0 0] 44)) (KErr z) := by
  have hb : Below z.heap.size z (z.alloc (.cells #[.int .i64 72, .int .i64 0, .int .i64 0, .int .i64 0, .int .i64 106, .int .i64 0, .slice none 0 0, .slice none 0 0] 44)) := (Below.refl _ _).alloc (Nat.le_refl _) _
  exact (e_Emit_bad kF7 (some ⟨z.heap.size, 0, none⟩) 1 1 _ kOk7 none 0 0 []).mono fun e w' h => kerr_of hb kE7 h

theorem k_run5 (z : World) (hL : LVE z) : Calls Tryd.prog 10 #[.agg #[.int .i64 0, .int .i64 32, .int .i64 2, .int .i64 0, .int .i64 0, .bool false, .slice (some ⟨z.heap.size + 1, 0, none⟩) 2 2], .slice none 0 0] ((z.alloc (.cells #[.int .i64 1, .int .i64 1] 3)).alloc (.cells #[.int .i64 67, .int .i64 4, .int .i64 0, .int .i64 0, .int .i64 0, .int .i64 0, .slice none 0 0, .slice (some ⟨z.heap.size, 0, none⟩) 2 2, .int .i64 72, .int .i64 0, .int .i64 0, .int .i64 0, .int .i64 106, .int .i64 0, .slice none 0 0, .slice none 0 0] 44)) (KErr z) := by
  have hb : Below z.heap.size z ((z.alloc (.cells #[.int .i64 1, .int .i64 1] 3)).alloc (.cells #[.int .i64 67, .int .i64 4, .int .i64 0, .int .i64 0, .int .i64 0, .int .i64 0, .slice none 0 0, .slice (some ⟨z.heap.size, 0, none⟩) 2 2, .int .i64 72, .int .i64 0, .int .i64 0, .int .i64 0, .int .i64 106, .int .i64 0, .slice none 0 0, .slice none 0 0] 44)) := ((Below.refl _ _).alloc (Nat.le_refl _) _).alloc (by simp) _
  obtain ⟨t1, t2⟩ := two_cells z (.cells #[.int .i64 1, .int .i64 1] 3) (.cells #[.int .i64 67, .int .i64 4, .int .i64 0, .int .i64 0, .int .i64 0, .int .i64 0, .slice none 0 0, .slice (some ⟨z.heap.size, 0, none⟩) 2 2, .int .i64 72, .int .i64 0, .int .i64 0, .int .i64 0, .int .i64 106, .int .i64 0, .slice none 0 0, .slice none 0 0] 44)
  refine (e_Emit kF5 (some ⟨z.heap.size + 1, 0, none⟩) 2 [⟨⟨67, 4, 0, 0, 0, 0, [], [1, 1]⟩, none, 0, some ⟨z.heap.size, 0, none⟩, 2⟩, ⟨⟨72, 0, 0, 0, 106, 0, [], []⟩, none, 0, none, 0⟩] rfl _ (hL.on hb) (VLs.of_row (xs := [⟨⟨67, 4, 0, 0, 0, 0, [], [1, 1]⟩, none, 0, some ⟨z.heap.size, 0, none⟩, 2⟩, ⟨⟨72, 0, 0, 0, 106, 0, [], []⟩, none, 0, none, 0⟩]) t2 rfl (by simp)) (fun x hx => ?_) (by simp) (by decide) (by unfold I64; decide) none 0 [] ⟨by simp, fun h => absurd h (by decide)⟩ (by decide)).mono fun e w' h => kerr_of hb kE5 h
  simp only [List.mem_cons, List.not_mem_nil, or_false] at hx
  rcases hx with rfl | rfl
  · exact vok_two _ _ _ _ _ _ _ _ _ _ _ (ints2 t1 (by simp <;> omega)) (by unfold I64; decide) (by unfold I64; decide) (by unfold I64; decide) (by unfold I64; decide)
  · exact vok_nil _ _ _ _ _ _ _ _ (by unfold I64; decide) (by unfold I64; decide) (by unfold I64; decide) (by unfold I64; decide)

theorem k_run1 (z : World) (hL : LVE z) : Calls Tryd.prog 10 #[.agg #[.int .i64 0, .int .i64 32, .int .i64 40, .int .i64 0, .int .i64 0, .bool false, .slice (some ⟨z.heap.size + 1, 0, none⟩) 6 6], .slice none 0 0] ((z.alloc (.cells #[.int .i64 0, .int .i64 33] 3)).alloc (.cells #[.int .i64 69, .int .i64 4, .int .i64 0, .int .i64 0, .int .i64 6, .int .i64 0, .slice none 0 0, .slice none 0 0, .int .i64 69, .int .i64 4, .int .i64 0, .int .i64 0, .int .i64 65536, .int .i64 0, .slice none 0 0, .slice none 0 0, .int .i64 69, .int .i64 4, .int .i64 0, .int .i64 0, .int .i64 (-1), .int .i64 0, .slice none 0 0, .slice none 0 0, .int .i64 67, .int .i64 4, .int .i64 0, .int .i64 0, .int .i64 8, .int .i64 0, .slice none 0 0, .slice (some ⟨z.heap.size, 0, none⟩) 2 2, .int .i64 67, .int .i64 (-1), .int .i64 0, .int .i64 0, .int .i64 8, .int .i64 0, .slice none 0 0, .slice none 0 0, .int .i64 72, .int .i64 0, .int .i64 0, .int .i64 0, .int .i64 106, .int .i64 0, .slice none 0 0, .slice none 0 0] 44))
    fun e w' => ∃ v, e = .returned (.tuple #[.agg #[.string ⟨#[102, 117, 110, 48]⟩, v], .int .i64 0]) ∧ w'.ownsRow z.heap.size 49 8 v 14 (kI1.flatMap itemCells) ∧ Below z.heap.size z w' := by
  have hb : Below z.heap.size z ((z.alloc (.cells #[.int .i64 0, .int .i64 33] 3)).alloc (.cells #[.int .i64 69, .int .i64 4, .int .i64 0, .int .i64 0, .int .i64 6, .int .i64 0, .slice none 0 0, .slice none 0 0, .int .i64 69, .int .i64 4, .int .i64 0, .int .i64 0, .int .i64 65536, .int .i64 0, .slice none 0 0, .slice none 0 0, .int .i64 69, .int .i64 4, .int .i64 0, .int .i64 0, .int .i64 (-1), .int .i64 0, .slice none 0 0, .slice none 0 0, .int .i64 67, .int .i64 4, .int .i64 0, .int .i64 0, .int .i64 8, .int .i64 0, .slice none 0 0, .slice (some ⟨z.heap.size, 0, none⟩) 2 2, .int .i64 67, .int .i64 (-1), .int .i64 0, .int .i64 0, .int .i64 8, .int .i64 0, .slice none 0 0, .slice none 0 0, .int .i64 72, .int .i64 0, .int .i64 0, .int .i64 0, .int .i64 106, .int .i64 0, .slice none 0 0, .slice none 0 0] 44)) := ((Below.refl _ _).alloc (Nat.le_refl _) _).alloc (by simp) _
  obtain ⟨t1, t2⟩ := two_cells z (.cells #[.int .i64 0, .int .i64 33] 3) (.cells #[.int .i64 69, .int .i64 4, .int .i64 0, .int .i64 0, .int .i64 6, .int .i64 0, .slice none 0 0, .slice none 0 0, .int .i64 69, .int .i64 4, .int .i64 0, .int .i64 0, .int .i64 65536, .int .i64 0, .slice none 0 0, .slice none 0 0, .int .i64 69, .int .i64 4, .int .i64 0, .int .i64 0, .int .i64 (-1), .int .i64 0, .slice none 0 0, .slice none 0 0, .int .i64 67, .int .i64 4, .int .i64 0, .int .i64 0, .int .i64 8, .int .i64 0, .slice none 0 0, .slice (some ⟨z.heap.size, 0, none⟩) 2 2, .int .i64 67, .int .i64 (-1), .int .i64 0, .int .i64 0, .int .i64 8, .int .i64 0, .slice none 0 0, .slice none 0 0, .int .i64 72, .int .i64 0, .int .i64 0, .int .i64 0, .int .i64 106, .int .i64 0, .slice none 0 0, .slice none 0 0] 44)
  refine (e_Emit kF1 (some ⟨z.heap.size + 1, 0, none⟩) 6 [⟨⟨69, 4, 0, 0, 6, 0, [], []⟩, none, 0, none, 0⟩, ⟨⟨69, 4, 0, 0, 65536, 0, [], []⟩, none, 0, none, 0⟩, ⟨⟨69, 4, 0, 0, -1, 0, [], []⟩, none, 0, none, 0⟩, ⟨⟨67, 4, 0, 0, 8, 0, [], [0, 33]⟩, none, 0, some ⟨z.heap.size, 0, none⟩, 2⟩, ⟨⟨67, -1, 0, 0, 8, 0, [], []⟩, none, 0, none, 0⟩, ⟨⟨72, 0, 0, 0, 106, 0, [], []⟩, none, 0, none, 0⟩] rfl _ (hL.on hb) (VLs.of_row (xs := [⟨⟨69, 4, 0, 0, 6, 0, [], []⟩, none, 0, none, 0⟩, ⟨⟨69, 4, 0, 0, 65536, 0, [], []⟩, none, 0, none, 0⟩, ⟨⟨69, 4, 0, 0, -1, 0, [], []⟩, none, 0, none, 0⟩, ⟨⟨67, 4, 0, 0, 8, 0, [], [0, 33]⟩, none, 0, some ⟨z.heap.size, 0, none⟩, 2⟩, ⟨⟨67, -1, 0, 0, 8, 0, [], []⟩, none, 0, none, 0⟩, ⟨⟨72, 0, 0, 0, 106, 0, [], []⟩, none, 0, none, 0⟩]) t2 rfl (by simp)) (fun x hx => ?_) (by simp) (by decide) (by unfold I64; decide) none 0 [] ⟨by simp, fun h => absurd h (by decide)⟩ (by decide)).mono ?_
  · simp only [List.mem_cons, List.not_mem_nil, or_false] at hx
    rcases hx with rfl | rfl | rfl | rfl | rfl | rfl
    · exact vok_nil _ _ _ _ _ _ _ _ (by unfold I64; decide) (by unfold I64; decide) (by unfold I64; decide) (by unfold I64; decide)
    · exact vok_nil _ _ _ _ _ _ _ _ (by unfold I64; decide) (by unfold I64; decide) (by unfold I64; decide) (by unfold I64; decide)
    · exact vok_nil _ _ _ _ _ _ _ _ (by unfold I64; decide) (by unfold I64; decide) (by unfold I64; decide) (by unfold I64; decide)
    · exact vok_two _ _ _ _ _ _ _ _ _ _ _ (ints2 t1 (by simp <;> omega)) (by unfold I64; decide) (by unfold I64; decide) (by unfold I64; decide) (by unfold I64; decide)
    · exact vok_nil _ _ _ _ _ _ _ _ (by unfold I64; decide) (by unfold I64; decide) (by unfold I64; decide) (by unfold I64; decide)
    · exact vok_nil _ _ _ _ _ _ _ _ (by unfold I64; decide) (by unfold I64; decide) (by unfold I64; decide) (by unfold I64; decide)
  · rintro e w' ⟨v, rfl, ho, hb'⟩
    rw [kI1_eq] at ho
    exact ⟨v, by rw [kN1, kE1], ownsRow_base ho (Nat.le_trans (Nat.le_succ _) (by simp)), hb.trans (hb'.mono hb.size)⟩

theorem k_run8 (z : World) (hL : LVE z) : Calls Tryd.prog 10 #[.agg #[.int .i64 12, .int .i64 32, .int .i64 0, .int .i64 5, .int .i64 3, .bool false, .slice (some ⟨z.heap.size, 0, none⟩) 1 1], .slice none 0 0] (z.alloc (.cells #[.int .i64 68, .int .i64 0, .int .i64 0, .int .i64 0, .int .i64 7, .int .i64 0, .slice none 0 0, .slice none 0 0] 44))
    fun e w' => ∃ v, e = .returned (.tuple #[.agg #[.string ⟨#[102, 117, 110, 49, 50]⟩, v], .int .i64 0]) ∧ w'.ownsRow z.heap.size 49 8 v 11 ((S.emitItems kF8 []).flatMap itemCells) ∧ Below z.heap.size z w' := by
  have hb : Below z.heap.size z (z.alloc (.cells #[.int .i64 68, .int .i64 0, .int .i64 0, .int .i64 0, .int .i64 7, .int .i64 0, .slice none 0 0, .slice none 0 0] 44)) := (Below.refl _ _).alloc (Nat.le_refl _) _
  refine (e_Emit kF8 (some ⟨z.heap.size, 0, none⟩) 1 [⟨⟨68, 0, 0, 0, 7, 0, [], []⟩, none, 0, none, 0⟩] rfl _ (hL.on hb) (VLs.of_row (xs := [⟨⟨68, 0, 0, 0, 7, 0, [], []⟩, none, 0, none, 0⟩]) (heap_alloc_new z _) rfl (by simp)) (fun x hx => ?_) (by simp) (by decide) (by unfold I64; decide) none 0 [] ⟨by simp, fun h => absurd h (by decide)⟩ (by decide)).mono ?_
  · simp only [List.mem_cons, List.not_mem_nil, or_false] at hx
    subst hx
    exact vok_nil _ _ _ _ _ _ _ _ (by unfold I64; decide) (by unfold I64; decide) (by unfold I64; decide) (by unfold I64; decide)
  · rintro e w' ⟨v, rfl, ho, hb'⟩
    rw [kL8] at ho
    exact ⟨v, by rw [kN8, kE8], ownsRow_base ho (by simp), hb.trans (hb'.mono hb.size)⟩

theorem slice4 (g c : Nat) (hc : 14 ≤ c) (w : World) : (Instr.slice 28 (.slice (some ⟨g, 0, none⟩) 14 c) (some (.int .i64 4)) none none).run Tryd.prog w = .ok (.slice (some ⟨g, 32, none⟩) 10 (c - 4)) w := by
  have ht : Tryd.prog.underlying 28 = some (.slice (Tryd.prog.elem 28)) := by kernel_rfl
  have hsz : ∀ w, (sizeOf (Tryd.prog.elem 28)).run Tryd.prog w = .ok 8 w := fun w => by kernel_rfl
  rw [run_slice_l _ _ _ _ _ ht .i64 4 (by decide) (by omega), hsz]
  have hne : ¬ c = 4 := by omega
  have hne2 : ¬ c - 4 = 0 := by omega
  simp [Result.andThen, sliced, Addr.add, hne, hne2]

set_option maxRecDepth 100000 in
set_option maxHeartbeats 4000000 in
theorem law_EmitKnown (w : World) (hL : LVE w) : Calls Tryd.prog 6 #[] w fun e w' => e = .returned (.bool true) ∧ Below w.heap.size w w' := by
  have hb1 : Below w.heap.size w (w.alloc (.cells #[.int .i64 72, .int .i64 0, .int .i64 0, .int .i64 0, .int .i64 106, .int .i64 0, .slice none 0 0, .slice none 0 0] 44)) := (Below.refl _ _).alloc (Nat.le_refl _) _
  have hr1 := heap_alloc_new w (.cells #[.int .i64 72, .int .i64 0, .int .i64 0, .int .i64 0, .int .i64 106, .int .i64 0, .slice none 0 0, .slice none 0 0] 44)
  have hz1 : w.heap.size < (w.alloc (.cells #[.int .i64 72, .int .i64 0, .int .i64 0, .int .i64 0, .int .i64 106, .int .i64 0, .slice none 0 0, .slice none 0 0] 44)).heap.size := by simp
  have HLV := Lib.hid hL
  have HbW := Lib.hid hb1
  go_enter Tryd.func6, Tryd.ntmps6
  go_upto_region 2 with fail
  generalize w.alloc (.cells #[.int .i64 72, .int .i64 0, .int .i64 0, .int .i64 0, .int .i64 106, .int .i64 0, .slice none 0 0, .slice none 0 0] 44) = z1 at *
  have Hc := Lib.hid (fun (z : World) (hb : Below z1.heap.size z1 z) => (show z.cell? ⟨w.heap.size, 0, none⟩ = some (.int .i64 72) ∧ z.cell? ⟨w.heap.size, 1, none⟩ = some (.int .i64 0) ∧ z.cell? ⟨w.heap.size, 2, none⟩ = some (.int .i64 0) ∧ z.cell? ⟨w.heap.size, 3, none⟩ = some (.int .i64 0) ∧ z.cell? ⟨w.heap.size, 4, none⟩ = some (.int .i64 106) ∧ z.cell? ⟨w.heap.size, 5, none⟩ = some (.int .i64 0) ∧ z.cell? ⟨w.heap.size, 6, none⟩ = some (.slice none 0 0) ∧ z.cell? ⟨w.heap.size, 7, none⟩ = some (.slice none 0 0) from by
    have e1 := (hb.block w.heap.size hz1).trans hr1
    refine ⟨?_, ?_, ?_, ?_, ?_, ?_, ?_, ?_⟩
    all_goals (rw [Lib.cell_of_heap e1]; rfl)))
  have Hlv := Lib.hid (fun (z : World) (hb : Below z1.heap.size z1 z) => HLV.out.on (HbW.out.trans (hb.mono HbW.out.size)))
  obtain ⟨i0, i1, i2, i3, i4, i5, i6, i7⟩ := Hc.out z1 (Below.refl _ _)
  have Hk := Lib.hid (k_run1 z1 (Hlv.out z1 (Below.refl _ _)))
  clear hb1 hr1 hL
  have hz1' := hz1
  go_wp2_with fail
  refine Hk.out.mono ?_
  rintro e w2 ⟨v, rfl, ho, hb2⟩
  obtain ⟨A2, c2, rfl⟩ := ownsRow_form ho
  obtain ⟨g, e2, hg1, hg2, hg3, hg4, hg5⟩ := ownsRow_at ho (by decide)
  subst e2
  have Y1 := Lib.hid hb2
  clear i0 i1 i2 i3 i4 i5 i6 i7 Hk hb2 ho
  have hbX : Below w2.heap.size w2 (w2.alloc (.cells #[.string ⟨#[102, 117, 110, 48]⟩, .slice (some ⟨g, 0, none⟩) 14 c2] 30)) := (Below.refl _ _).alloc (Nat.le_refl _) _
  have hcX := fun j => cell_row_new w2 #[.string ⟨#[102, 117, 110, 48]⟩, .slice (some ⟨g, 0, none⟩) 14 c2] 30 j
  have Z2 := Lib.hid (Y1.out.trans (hbX.mono Y1.out.size))
  go_upto_region 3 with fail
  generalize w2.alloc (.cells #[.string ⟨#[102, 117, 110, 48]⟩, .slice (some ⟨g, 0, none⟩) 14 c2] 30) = z2 at *
  have x0 := hcX 0
  have x1 := hcX 1
  simp only [List.getElem?_toArray, List.getElem?_cons_zero, List.getElem?_cons_succ] at x0 x1
  have hr := fun (j : Nat) (hj : j < 14 * 8) => (hbX.cell (p := ⟨g, j, none⟩) hg2).trans (hg4 j hj)
  have hsl := slice4 g c2 hg3
  have r33 := hr 33 (by decide)
  have r34 := hr 34 (by decide)
  have r35 := hr 35 (by decide)
  have r36 := hr 36 (by decide)
  have r37 := hr 37 (by decide)
  have r41 := hr 41 (by decide)
  have r42 := hr 42 (by decide)
  have r43 := hr 43 (by decide)
  have r44 := hr 44 (by decide)
  have r45 := hr 45 (by decide)
  have r49 := hr 49 (by decide)
  have r50 := hr 50 (by decide)
  have r51 := hr 51 (by decide)
  have r52 := hr 52 (by decide)
  have r53 := hr 53 (by decide)
  have r62 := hr 62 (by decide)
  have r71 := hr 71 (by decide)
  have r79 := hr 79 (by decide)
  have r87 := hr 87 (by decide)
  have r94 := hr 94 (by decide)
  have r103 := hr 103 (by decide)
  simp only [kI1, List.flatMap_cons, List.flatMap_nil, itemCells, S.iLabel, S.iInst, S.iBranch, S.iJump, S.iWord, S.noLab, List.cons_append, List.nil_append, List.getElem?_cons_succ, List.getElem?_cons_zero] at r33 r34 r35 r36 r37 r41 r42 r43 r44 r45 r49 r50 r51 r52 r53 r62 r71 r79 r87 r94 r103
  clear hr hg4 hg5 hcX hbX
  go_upto_region 8 with fail
  clear r33 r34 r35 r36 r37 r41 r42 r43 r44 r45 r49 r50 r51 r52 r53 r62 r71 r79 r87 r94 r103 x0 x1 hsl
  obtain ⟨i0, i1, i2, i3, i4, i5, i6, i7⟩ := Hc.out z2 Z2.out
  have Hk := Lib.hid (k_run2 z2 (Hlv.out z2 Z2.out))
  have hzk : w.heap.size < z2.heap.size := Nat.lt_of_lt_of_le hz1 Z2.out.size
  go_wp2_with fail
  refine Hk.out.mono ?_
  rintro e w3 ⟨A3, c3, rfl, hbk⟩
  have Y2 := Lib.hid (Z2.out.trans (hbk.mono Z2.out.size))
  clear hbk Hk hzk i0 i1 i2 i3 i4 i5 i6 i7
  have hbX : Below w3.heap.size w3 (w3.alloc (.cells #[.string ⟨#[]⟩, .slice A3 0 c3] 30)) := (Below.refl _ _).alloc (Nat.le_refl _) _
  have Z3 := Lib.hid (Y2.out.trans (hbX.mono Y2.out.size))
  go_upto_region 9 with fail
  generalize w3.alloc (.cells #[.string ⟨#[]⟩, .slice A3 0 c3] 30) = z3 at *
  clear hbX
  obtain ⟨i0, i1, i2, i3, i4, i5, i6, i7⟩ := Hc.out z3 Z3.out
  have Hk := Lib.hid (k_run3 z3 (Hlv.out z3 Z3.out))
  have hzk : w.heap.size < z3.heap.size := Nat.lt_of_lt_of_le hz1 Z3.out.size
  go_wp2_with fail
  refine Hk.out.mono ?_
  rintro e w4 ⟨A4, c4, rfl, hbk⟩
  have Y3 := Lib.hid (Z3.out.trans (hbk.mono Z3.out.size))
  clear hbk Hk hzk i0 i1 i2 i3 i4 i5 i6 i7
  have hbX : Below w4.heap.size w4 (w4.alloc (.cells #[.string ⟨#[]⟩, .slice A4 0 c4] 30)) := (Below.refl _ _).alloc (Nat.le_refl _) _
  have Z4 := Lib.hid (Y3.out.trans (hbX.mono Y3.out.size))
  go_upto_region 10 with fail
  generalize w4.alloc (.cells #[.string ⟨#[]⟩, .slice A4 0 c4] 30) = z4 at *
  clear hbX
  obtain ⟨i0, i1, i2, i3, i4, i5, i6, i7⟩ := Hc.out z4 Z4.out
  have Hk := Lib.hid (k_run4 z4 (Hlv.out z4 Z4.out))
  have hzk : w.heap.size < z4.heap.size := Nat.lt_of_lt_of_le hz1 Z4.out.size
  go_wp2_with fail
  refine Hk.out.mono ?_
  rintro e w5 ⟨A5, c5, rfl, hbk⟩
  have Y4 := Lib.hid (Z4.out.trans (hbk.mono Z4.out.size))
  clear hbk Hk hzk i0 i1 i2 i3 i4 i5 i6 i7
  have hbX : Below w5.heap.size w5 (w5.alloc (.cells #[.string ⟨#[]⟩, .slice A5 0 c5] 30)) := (Below.refl _ _).alloc (Nat.le_refl _) _
  have Z5 := Lib.hid (Y4.out.trans (hbX.mono Y4.out.size))
  go_upto_region 11 with fail
  generalize w5.alloc (.cells #[.string ⟨#[]⟩, .slice A5 0 c5] 30) = z5 at *
  clear hbX
  obtain ⟨i0, i1, i2, i3, i4, i5, i6, i7⟩ := Hc.out z5 Z5.out
  have Hk := Lib.hid (k_run5 z5 (Hlv.out z5 Z5.out))
  have hzk : w.heap.size < z5.heap.size := Nat.lt_of_lt_of_le hz1 Z5.out.size
  go_wp2_with fail
  refine Hk.out.mono ?_
  rintro e w6 ⟨A6, c6, rfl, hbk⟩
  have Y5 := Lib.hid (Z5.out.trans (hbk.mono Z5.out.size))
  clear hbk Hk hzk i0 i1 i2 i3 i4 i5 i6 i7
  have hbX : Below w6.heap.size w6 (w6.alloc (.cells #[.string ⟨#[]⟩, .slice A6 0 c6] 30)) := (Below.refl _ _).alloc (Nat.le_refl _) _
  have Z6 := Lib.hid (Y5.out.trans (hbX.mono Y5.out.size))
  go_upto_region 12 with fail
  generalize w6.alloc (.cells #[.string ⟨#[]⟩, .slice A6 0 c6] 30) = z6 at *
  clear hbX
  obtain ⟨i0, i1, i2, i3, i4, i5, i6, i7⟩ := Hc.out z6 Z6.out
  have Hk := Lib.hid (k_run6 z6 (Hlv.out z6 Z6.out))
  have hzk : w.heap.size < z6.heap.size := Nat.lt_of_lt_of_le hz1 Z6.out.size
  go_wp2_with fail
  refine Hk.out.mono ?_
  rintro e w7 ⟨A7, c7, rfl, hbk⟩
  have Y6 := Lib.hid (Z6.out.trans (hbk.mono Z6.out.size))
  clear hbk Hk hzk i0 i1 i2 i3 i4 i5 i6 i7
  have hbX : Below w7.heap.size w7 (w7.alloc (.cells #[.string ⟨#[]⟩, .slice A7 0 c7] 30)) := (Below.refl _ _).alloc (Nat.le_refl _) _
  have Z7 := Lib.hid (Y6.out.trans (hbX.mono Y6.out.size))
  go_upto_region 13 with fail
  generalize w7.alloc (.cells #[.string ⟨#[]⟩, .slice A7 0 c7] 30) = z7 at *
  clear hbX
  obtain ⟨i0, i1, i2, i3, i4, i5, i6, i7⟩ := Hc.out z7 Z7.out
  have Hk := Lib.hid (k_run7 z7 (Hlv.out z7 Z7.out))
  have hzk : w.heap.size < z7.heap.size := Nat.lt_of_lt_of_le hz1 Z7.out.size
  go_wp2_with fail
  refine Hk.out.mono ?_
  rintro e w8 ⟨A8, c8, rfl, hbk⟩
  have Y7 := Lib.hid (Z7.out.trans (hbk.mono Z7.out.size))
  clear hbk Hk hzk i0 i1 i2 i3 i4 i5 i6 i7
  have hbX : Below w8.heap.size w8 (w8.alloc (.cells #[.string ⟨#[]⟩, .slice A8 0 c8] 30)) := (Below.refl _ _).alloc (Nat.le_refl _) _
  have Z8 := Lib.hid (Y7.out.trans (hbX.mono Y7.out.size))
  go_upto_region 14 with fail
  generalize w8.alloc (.cells #[.string ⟨#[]⟩, .slice A8 0 c8] 30) = z8 at *
  clear hbX
  obtain ⟨i0, i1, i2, i3, i4, i5, i6, i7⟩ := Hc.out z8 Z8.out
  have Hk := Lib.hid (k_run8 z8 (Hlv.out z8 Z8.out))
  have hzk : w.heap.size < z8.heap.size := Nat.lt_of_lt_of_le hz1 Z8.out.size
  go_wp2_with fail
  refine Hk.out.mono ?_
  rintro e w9 ⟨v, rfl, ho, hbk⟩
  have Y8 := Lib.hid (Z8.out.trans (hbk.mono Z8.out.size))
  clear hbk Hk hzk i0 i1 i2 i3 i4 i5 i6 i7
  obtain ⟨A9, c9, rfl⟩ := ownsRow_form ho
  obtain ⟨g9, e9, kg1, kg2, kg3, kg4, kg5⟩ := ownsRow_at ho (by decide)
  subst e9
  have r86 := kg4 86 (by decide)
  rw [kI8] at r86
  have hbX : Below w9.heap.size w9 (w9.alloc (.cells #[.string ⟨#[102, 117, 110, 49, 50]⟩, .slice (some ⟨g9, 0, none⟩) 11 c9] 30)) := (Below.refl _ _).alloc (Nat.le_refl _) _
  have hcX := fun j => cell_row_new w9 #[.string ⟨#[102, 117, 110, 49, 50]⟩, .slice (some ⟨g9, 0, none⟩) 11 c9] 30 j
  have Z9 := Lib.hid (Y8.out.trans (hbX.mono Y8.out.size))
  clear ho kg4 kg5
  go_upto_region 15 with fail
  generalize w9.alloc (.cells #[.string ⟨#[102, 117, 110, 49, 50]⟩, .slice (some ⟨g9, 0, none⟩) 11 c9] 30) = z9 at *
  have x0 := hcX 0
  have x1 := hcX 1
  simp only [List.getElem?_toArray, List.getElem?_cons_zero, List.getElem?_cons_succ] at x0 x1
  have r86' := (hbX.cell (p := ⟨g9, 86, none⟩) kg2).trans r86
  have Hwk := Lib.hid (l_works z9 (Hlv.out z9 Z9.out))
  clear hcX r86 hbX
  go_wp2_with fail
  refine Hwk.out.mono ?_
  rintro e w10 ⟨rfl, hb10⟩
  go_wp2_with fail
  go_ret
  exact ⟨rfl, HbW.out.trans ((Z9.out.trans (hb10.mono Z9.out.size)).mono HbW.out.size)⟩

end Go.Proofs.YtkdalaiponchbaaDoor
