/- isa.Encode and pennantref01.Encode at any instruction; the two functions word. -/
import Derived.Test.YtkdalaiponchbaaDoorIsaC
import Derived.Test.YtkdalaiponchbaaDoorRefEnc
import Derived.Test.YtkdalaiponchbaaDoorAsmSpec
set_option linter.unusedVariables false
set_option linter.unusedSimpArgs false
set_option linter.unusedSectionVars false
namespace Go.Proofs.YtkdalaiponchbaaDoor
open Go.RowKit

theorem chk_bad {x : S.Inst} (h : S.good x = false) : S.chk x = 11 := by simp [S.chk, h]
theorem wordOf_bad {x : S.Inst} (h : S.good x = false) : S.wordOf x = 0 := by simp [S.wordOf, h]
theorem chk_good {x : S.Inst} (h : S.good x = true) : S.chk x = 0 := by simp [S.chk, h]
theorem wordOf_good {x : S.Inst} (h : S.good x = true) : S.wordOf x = S.enc x := by simp [S.wordOf, h]

set_option maxHeartbeats 400000 in
theorem isa_Encode_any (op d a b imm : Int) (w : World) :
    Calls Tryd.prog 92 #[.agg #[.int .i64 op, .int .i64 d, .int .i64 a, .int .i64 b, .int .i64 imm]] w
      fun e w' => e = .returned (.tuple #[.int .u32 (S.wordOf ⟨op, d, a, b, imm⟩), .int .i64 (S.chk ⟨op, d, a, b, imm⟩)]) ∧ Below w.heap.size w w' := by
  cases hg : S.good ⟨op, d, a, b, imm⟩
  · have hc := chk_bad hg
    have hw := wordOf_bad hg
    rw [hw]
    clear hg hw
    go_enter Tryd.func92, Tryd.ntmps92
    go_wp2_with (go_at_call 90; refine (isa_Check _ _ _ _ _ _).mono ?_; rintro e w' ⟨rfl, hb⟩)
    go_ret2
    exact ⟨by simp [hc], ((Below.refl _ _).alloc (Nat.le_refl _) _).trans (hb.mono (by simp))⟩
  · rw [chk_good hg, wordOf_good hg]
    exact isa_Encode op d a b imm w hg

set_option maxHeartbeats 400000 in
theorem ref_Encode_any (op d a b imm : Int) (w : World) :
    Calls Tryd.prog 86 #[.agg #[.int .i64 op, .int .i64 d, .int .i64 a, .int .i64 b, .int .i64 imm]] w
      fun e w' => e = .returned (.tuple #[.int .u32 (S.wordOf ⟨op, d, a, b, imm⟩), .int .i64 (S.chk ⟨op, d, a, b, imm⟩)]) ∧ Below w.heap.size w w' := by
  cases hg : S.good ⟨op, d, a, b, imm⟩
  · have hc := chk_bad hg
    have hw := wordOf_bad hg
    rw [hw]
    clear hg hw
    go_enter Tryd.func86, Tryd.ntmps86
    go_wp2_with (go_at_call 107; refine (ref_Check _ _ _ _ _ _).mono ?_; rintro e w' ⟨rfl, hb⟩)
    go_ret2
    exact ⟨by simp [hc], ((Below.refl _ _).alloc (Nat.le_refl _) _).trans (hb.mono (by simp))⟩
  · rw [chk_good hg, wordOf_good hg]
    exact ref_Encode op d a b imm w hg

theorem asm_word (op d a b imm : Int) (w : World) :
    Calls Tryd.prog 75 #[.agg #[.int .i64 op, .int .i64 d, .int .i64 a, .int .i64 b, .int .i64 imm]] w
      fun e w' => e = .returned (.int .u32 (S.wordOf ⟨op, d, a, b, imm⟩)) ∧ Below w.heap.size w w' := by
  go_enter Tryd.func75, Tryd.ntmps75
  go_wp2_with (go_at_call 92; refine (isa_Encode_any _ _ _ _ _ _).mono ?_; rintro e w' ⟨rfl, hb⟩)
  go_ret
  exact ⟨rfl, ((Below.refl _ _).alloc (Nat.le_refl _) _).trans (hb.mono (by simp))⟩


end Go.Proofs.YtkdalaiponchbaaDoor
