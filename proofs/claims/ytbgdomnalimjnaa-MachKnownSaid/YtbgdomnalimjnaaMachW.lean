/- The laws of layer 2: word, ref02.New. -/
import Derived.Test.YtbgdomnalimjnaaMachV
import Derived.Test.YtbgdomnalimjnaaIsaD
import Derived.Test.YtbgdomnalimjnaaMrefT
set_option linter.unusedVariables false
set_option linter.unusedSimpArgs false
set_option linter.unusedSectionVars false
namespace Go.Proofs.Ytbgdomnalimjnaa
open Go.RowKit

theorem law2_word (op d a b imm : Int) (w : World) : Calls Try.prog 44 #[.agg #[.int .i64 op, .int .i64 d, .int .i64 a, .int .i64 b, .int .i64 imm]] w
    fun e w' => e = .returned (.int .u32 (S.wordOf ⟨op, d, a, b, imm⟩)) ∧ Below w.heap.size w w' := by
  go_enter Try.func44, Try.ntmps44
  go_upto_region 1 with fail
  obtain ⟨x1, x2, x3⟩ := one_allocM w #[.int .i64 op, .int .i64 d, .int .i64 a, .int .i64 b, .int .i64 imm] 39
  generalize w.alloc (.cells #[.int .i64 op, .int .i64 d, .int .i64 a, .int .i64 b, .int .i64 imm] 39) = wb at *
  have q0 : wb.cell? ⟨w.heap.size, 0, none⟩ = some (.int .i64 op) := by rw [blk_cellM x1]; rfl
  have q1 : wb.cell? ⟨w.heap.size, 1, none⟩ = some (.int .i64 d) := by rw [blk_cellM x1]; rfl
  have q2 : wb.cell? ⟨w.heap.size, 2, none⟩ = some (.int .i64 a) := by rw [blk_cellM x1]; rfl
  have q3 : wb.cell? ⟨w.heap.size, 3, none⟩ = some (.int .i64 b) := by rw [blk_cellM x1]; rfl
  have q4 : wb.cell? ⟨w.heap.size, 4, none⟩ = some (.int .i64 imm) := by rw [blk_cellM x1]; rfl
  have gb : w.heap.size < wb.heap.size := by omega
  clear x1 x3
  go_wp2_with fail
  refine (isa_Encode_any _ _ _ _ _ _).mono ?_
  rintro e w2 ⟨rfl, hb2⟩
  go_wp2_with fail
  go_ret
  exact ⟨rfl, x2.trans (hb2.mono (by omega))⟩

/-- A machine as it is made. -/
def newM (words : List Int) (size : Nat) (input : List Int) : S.Mach := ⟨List.replicate 32 0, words ++ List.replicate (size - words.length) 0, 0, input, [], 0, 0, 0, 0⟩
theorem getD_rep (n i : Nat) : (List.replicate n (0 : Int)).getD i 0 = 0 := by
  by_cases h : i < n <;> simp [h]
theorem newM_ok {words : List Int} {size : Nat} {input : List Int} (hs : 1 ≤ size) (hl : words.length ≤ size) (hw : ∀ x ∈ words, 0 ≤ x ∧ x ≤ 4294967295) (hi : ∀ x ∈ input, 0 ≤ x ∧ x ≤ 255) : (newM words size input).Ok := by
  refine ⟨by simp [newM], fun i => ?_, ?_, ?_, fun i => ?_, Int.le_refl _, show (0 : Int) ≤ 4294967295 by decide, hi, fun x hx => by simp [newM] at hx, Int.le_refl _, show (0 : Int) ≤ 4294967295 by decide⟩
  · show 0 ≤ (List.replicate 32 (0 : Int)).getD i 0 ∧ (List.replicate 32 (0 : Int)).getD i 0 ≤ 4294967295
    rw [getD_rep]; decide
  · show (List.replicate 32 (0 : Int)).getD 0 0 = 0
    rw [getD_rep]
  · simp [newM]; omega
  · show 0 ≤ (words ++ List.replicate (size - words.length) 0).getD i 0 ∧ (words ++ List.replicate (size - words.length) 0).getD i 0 ≤ 4294967295
    by_cases h : i < words.length
    · have e : (words ++ List.replicate (size - words.length) 0).getD i 0 = words[i] := by simp [List.getElem?_append_left h, List.getElem?_eq_getElem h]
      rw [e]
      exact hw _ (List.getElem_mem _)
    · have e : (words ++ List.replicate (size - words.length) (0 : Int)).getD i 0 = (List.replicate (size - words.length) (0 : Int)).getD (i - words.length) 0 := by
        simp only [List.getD_eq_getElem?_getD]
        rw [List.getElem?_append_right (by omega)]
      rw [e, getD_rep]
      decide

end Go.Proofs.Ytbgdomnalimjnaa
