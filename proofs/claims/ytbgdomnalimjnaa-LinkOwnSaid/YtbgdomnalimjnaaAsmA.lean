/- Walks of the small functions of asm and pennantref03. -/
import Derived.Test.YtbgdomnalimjnaaIsaD
import Derived.Test.YtbgdomnalimjnaaExt
import Derived.Deep.RegionWith
set_option linter.unusedVariables false
set_option linter.unusedSimpArgs false
set_option linter.unusedSectionVars false
namespace Go.Proofs.Ytbgdomnalimjnaa
open Go.RowKit

set_option maxRecDepth 100000 in
set_option maxHeartbeats 400000 in
theorem asm_size (k op d a b imm : Int) (lab : ByteArray) (wd form : Int) (w : World) (h3 : k = 3 → 1 ≤ form ∧ form ≤ 3) (h4 : k = 4 → 1 ≤ form ∧ form ≤ 2) (hw0 : 0 ≤ wd) (hw1 : wd ≤ 4294967295) :
    Calls Try.prog 120 #[.agg #[.int .i64 k, .int .i64 op, .int .i64 d, .int .i64 a, .int .i64 b, .int .i64 imm, .string lab, .int .u32 wd], .int .i64 form] w
      fun e w' => e = .returned (.int .i64 (S.size ⟨k, ⟨op, d, a, b, imm⟩, lab, wd⟩ form)) ∧ Below w.heap.size w w' := by
  by_cases c3 : k = 3
  · obtain ⟨f1, f2⟩ := h3 c3
    clear h3 h4
    subst c3
    have hf : form = 1 ∨ form = 2 ∨ form = 3 := by omega
    clear f1 f2
    have ix : ∀ w : World, (Instr.index 159 (.agg #[.int .i64 0, .int .i64 1, .int .i64 2, .int .i64 4]) (.int .i64 1)).run Try.prog w = .ok (.int .i64 1) w := fun _ => by kernel_rfl
    have iy : ∀ w : World, (Instr.index 159 (.agg #[.int .i64 0, .int .i64 1, .int .i64 2, .int .i64 4]) (.int .i64 2)).run Try.prog w = .ok (.int .i64 2) w := fun _ => by kernel_rfl
    have iz : ∀ w : World, (Instr.index 159 (.agg #[.int .i64 0, .int .i64 1, .int .i64 2, .int .i64 4]) (.int .i64 3)).run Try.prog w = .ok (.int .i64 4) w := fun _ => by kernel_rfl
    rcases hf with rfl | rfl | rfl
    all_goals
      go_enter Try.func120, Try.ntmps120
      go_wp2
      go_ret
      exact ⟨ret_int (by simp [S.size]), (Below.refl _ _).alloc (Nat.le_refl _) _⟩
  · by_cases c4 : k = 4
    · obtain ⟨f1, f2⟩ := h4 c4
      clear h3 h4 c3
      subst c4
      have hf : form = 1 ∨ form = 2 := by omega
      clear f1 f2
      have ix : ∀ w : World, (Instr.index 160 (.agg #[.int .i64 0, .int .i64 1, .int .i64 3]) (.int .i64 1)).run Try.prog w = .ok (.int .i64 1) w := fun _ => by kernel_rfl
      have iy : ∀ w : World, (Instr.index 160 (.agg #[.int .i64 0, .int .i64 1, .int .i64 3]) (.int .i64 2)).run Try.prog w = .ok (.int .i64 3) w := fun _ => by kernel_rfl
      rcases hf with rfl | rfl
      all_goals
        go_enter Try.func120, Try.ntmps120
        go_wp2
        go_ret
        exact ⟨ret_int (by simp [S.size]), (Below.refl _ _).alloc (Nat.le_refl _) _⟩
    · clear h3 h4
      have d3 : (k == 3) = false := by simp [c3]
      have d4 : (k == 4) = false := by simp [c4]
      go_enter Try.func120, Try.ntmps120
      go_wp2
      all_goals
        go_ret
        exact ⟨ret_int (by simp_all [S.size]), (Below.refl _ _).alloc (Nat.le_refl _) _⟩

set_option maxHeartbeats 400000 in
theorem ref_Size (k op d a b imm : Int) (lab : ByteArray) (wd form : Int) (w : World) (f0 : 0 ≤ form) (f1 : form ≤ 3) (hw0 : 0 ≤ wd) (hw1 : wd ≤ 4294967295) :
    Calls Try.prog 117 #[.agg #[.int .i64 k, .int .i64 op, .int .i64 d, .int .i64 a, .int .i64 b, .int .i64 imm, .string lab, .int .u32 wd], .int .i64 form] w
      fun e w' => e = .returned (.int .i64 (S.size ⟨k, ⟨op, d, a, b, imm⟩, lab, wd⟩ form)) ∧ Below w.heap.size w w' := by
  go_enter Try.func117, Try.ntmps117
  go_wp2
  all_goals
    go_ret
    exact ⟨ret_int (by simp only [S.size]; grind), (Below.refl _ _).alloc (Nat.le_refl _) _⟩

set_option maxHeartbeats 400000 in
theorem asm_named (k op d a b imm : Int) (lab : ByteArray) (wd : Int) (w : World) :
    Calls Try.prog 96 #[.agg #[.int .i64 k, .int .i64 op, .int .i64 d, .int .i64 a, .int .i64 b, .int .i64 imm, .string lab, .int .u32 wd]] w
      fun e w' => e = .returned (.bool (S.named ⟨k, ⟨op, d, a, b, imm⟩, lab, wd⟩)) ∧ Below w.heap.size w w' := by
  go_enter Try.func96, Try.ntmps96
  go_wp2
  all_goals
    go_ret
    exact ⟨ret_bool (by simp only [S.named]; grind), (Below.refl _ _).alloc (Nat.le_refl _) _⟩

set_option maxHeartbeats 400000 in
theorem ref_Named (k op d a b imm : Int) (lab : ByteArray) (wd : Int) (w : World) :
    Calls Try.prog 92 #[.agg #[.int .i64 k, .int .i64 op, .int .i64 d, .int .i64 a, .int .i64 b, .int .i64 imm, .string lab, .int .u32 wd]] w
      fun e w' => e = .returned (.bool (S.named ⟨k, ⟨op, d, a, b, imm⟩, lab, wd⟩)) ∧ Below w.heap.size w w' := by
  go_enter Try.func92, Try.ntmps92
  go_wp2
  all_goals
    go_ret
    exact ⟨ret_bool (by simp only [S.named]; grind), (Below.refl _ _).alloc (Nat.le_refl _) _⟩

theorem ref3_register (n : Int) (w : World) :
    Calls Try.prog 123 #[.int .i64 n] w fun e w' => e = .returned (.bool (S.regOk n)) ∧ w = w' := by
  go_enter Try.func123, Try.ntmps123
  go_wp2
  all_goals
    go_ret
    exact ⟨ret_bool (by simp only [S.regOk]; grind), rfl⟩

set_option maxHeartbeats 1000000 in
theorem asm_check (k op d a b imm : Int) (lab : ByteArray) (wd : Int) (w : World) :
    Calls Try.prog 95 #[.agg #[.int .i64 k, .int .i64 op, .int .i64 d, .int .i64 a, .int .i64 b, .int .i64 imm, .string lab, .int .u32 wd]] w
      fun e w' => e = .returned (.int .i64 (S.chkItem ⟨k, ⟨op, d, a, b, imm⟩, lab, wd⟩)) ∧ Below w.heap.size w w' := by
  by_cases c3 : k = 3
  · subst c3
    go_enter Try.func95, Try.ntmps95
    go_wp2
    refine wp_region_ext (by kernel_rfl) (by kernel_rfl) ?_
    have hE := ext_cells (w.alloc (.cells #[.int .i64 3, .int .i64 op, .int .i64 d, .int .i64 a, .int .i64 b, .int .i64 imm, .string lab, .int .u32 wd] 57))
    repeat (first
      | go_big_quiet_step ((first
        | (go_at_call 101; exact ext_of_same (asm_Turned _ _))
        | (go_at_call 86; exact ext_of (isa_Check _ _ _ _ _ _)))))
    refine wpQuiet_nil ?_
    rintro _ ⟨⟨w1, hb1⟩, rfl⟩
    go_wp2
    go_ret
    refine ⟨ret_int ?_, ((Below.refl _ _).alloc (Nat.le_refl _) _).trans (hb1.mono (by simp))⟩
    simp only [chk_turned]
    simp [S.chkItem]
  · have d3 : (k == 3) = false := by simp [c3]
    go_enter Try.func95, Try.ntmps95
    go_wp2_with (go_at_call 86; refine (isa_Check _ _ _ _ _ _).mono ?_; rintro e w' ⟨rfl, hb⟩)
    all_goals
      go_ret
      first
        | exact ⟨ret_int (by first | (simp only [chk_jump]; grind [S.chkItem, S.chk]) | grind [S.chkItem, S.chk]), ((Below.refl _ _).alloc (Nat.le_refl _) _).trans (Below.mono ‹_› (by simp))⟩
        | exact ⟨ret_int (by grind [S.chkItem, S.chk]), (Below.refl _ _).alloc (Nat.le_refl _) _⟩

end Go.Proofs.Ytbgdomnalimjnaa
