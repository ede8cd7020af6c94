/- Walk of isa.Encode. -/
import Derived.Test.YtkdalaiponchbaaDoorIsaB
import Derived.Test.YtkdalaiponchbaaDoorBits
set_option linter.unusedVariables false
set_option linter.unusedSimpArgs false
set_option linter.unusedSectionVars false
namespace Go.Proofs.YtkdalaiponchbaaDoor
open Go.RowKit

set_option maxHeartbeats 16000000 in
theorem isa_Encode (op d a b imm : Int) (w : World) (hg : S.good ⟨op, d, a, b, imm⟩ = true) :
    Calls Tryd.prog 92 #[.agg #[.int .i64 op, .int .i64 d, .int .i64 a, .int .i64 b, .int .i64 imm]] w
      fun e w' => e = .returned (.tuple #[.int .u32 (S.enc ⟨op, d, a, b, imm⟩), .int .i64 0]) ∧ Below w.heap.size w w' := by
  have hc : S.chk ⟨op, d, a, b, imm⟩ = 0 := by simp [S.chk, hg]
  obtain ⟨o1, o2, d1, d2, a1, a2, b1, b2, hw⟩ := good_ways hg
  clear hg
  rcases hw with ⟨h, hD, hA, hB, hI, i1, i2⟩ | ⟨h, hD, hA, hB, hI, i1, i2⟩ | ⟨h, hD, hA, hB, hI, i1, i2⟩ | ⟨h, hD, hA, hB, hI, i1, i2⟩ | ⟨h, hD, hA, hB, hI, i1, i2⟩ | ⟨h, hD, hA, hB, hI, i1, i2⟩ | ⟨h, hD, hA, hB, hI, i1, i2⟩
  all_goals
    have H := Lib.hid h
    clear h
    go_enter Tryd.func92, Tryd.ntmps92
    go_wp2_with (first
      | (go_at_call 90; refine (isa_Check _ _ _ _ _ _).mono ?_; rintro e w' ⟨rfl, hb⟩; obtain ⟨hc1, hc2⟩ := bcell hb; have hz := hb.size; simp at hz)
      | (go_at_call 94; refine (isa_Form _ _).mono ?_; rintro e w' ⟨rfl, rfl⟩)
      | (go_at_call 93; refine (isa_has _ _).mono ?_; rintro e w' ⟨rfl, rfl⟩))
    refine wp_loop_rounds 4 ?_
    rw [rounds_succ]
    go_wp2
    rw [rounds_succ]
    go_wp2
    rw [rounds_succ]
    go_wp2
    rw [rounds_succ]
    go_wp2
    refine wp_forget (fun w4 => w4.cell? ⟨w.heap.size, 4, none⟩ = some (.int .i64 imm) ∧ Below w.heap.size w w4) ⟨?_, ?_⟩ ?_
    · have h4 : w'.cell? ⟨w.heap.size, 4, none⟩ = some (.int .i64 imm) := by rw [hc1 _ _ (by simp)]; go_simp
      refine (Below.cell (B := w'.heap.size) (w := w') ?_ ?_).trans h4
      · exact ((((Below.refl _ _).alloc (by simp) _).alloc (by simp) _).alloc (by simp; omega) _).alloc (by simp; omega) _
      · simp; omega
    · have h0 : Below w.heap.size w w' := ((Below.refl _ _).alloc (Nat.le_refl _) _).trans (hb.mono (by simp))
      exact (((h0.alloc (by omega) _).alloc (by simp; omega) _).alloc (by simp; omega) _).alloc (by simp; omega) _
    rintro w4 ⟨h4, hb4⟩
    go_quiet (fail)
    go_wp2
    go_ret2
    refine ⟨ret_pair ?_ rfl, below_drewN hb4 _⟩
    first
      | (with_reducible exact enc_1 o1 o2 d1 d2 a1 a2 b1 b2 i1 i2 H.out)
      | (with_reducible exact enc_2 o1 o2 d1 d2 a1 a2 i1 i2 H.out)
      | (with_reducible exact enc_3 o1 o2 d1 d2 i1 i2 H.out)
      | (with_reducible exact enc_4 o1 o2 a1 a2 b1 b2 i1 i2 H.out)
      | (with_reducible exact enc_5 o1 o2 d1 d2 i1 i2 H.out)
      | (with_reducible exact enc_6 o1 o2 d1 d2 i1 i2 H.out)
      | (with_reducible exact enc_7 o1 o2 a1 a2 i1 i2 H.out)

end Go.Proofs.YtkdalaiponchbaaDoor
