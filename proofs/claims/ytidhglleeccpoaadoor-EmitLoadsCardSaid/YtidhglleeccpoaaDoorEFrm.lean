/- isel: plain, formed, the closure of Check. -/
import Derived.Test.YtidhglleeccpoaaDoorExtB
import Derived.Test.YtidhglleeccpoaaDoorMapI
import Derived.Test.YtidhglleeccpoaaDoorIsaD
set_option linter.unusedVariables false
set_option linter.unusedSimpArgs false
set_option linter.unusedSectionVars false
namespace Go.Proofs.YtidhglleeccpoaaDoor
open Go.RowKit

theorem chk_is0 (x : S.Inst) : decide (S.chk x = 0) = S.good x := by
  unfold S.chk
  cases S.good x <;> simp

set_option maxRecDepth 100000 in
set_option maxHeartbeats 1000000 in
theorem i_plain (i : S.VInst) (U M : Value) (w : World) : Calls Tryd.prog 76 #[.agg (viCells i U M)] w fun e w' => e = .returned (.bool (S.vplain i)) ∧ Below w.heap.size w w' := by
  obtain ⟨op, d, a, b, imm, label, uses, map⟩ := i
  have Hr := Lib.hid (show S.vplain ⟨op, d, a, b, imm, label, uses, map⟩ = (decide (1 ≤ op ∧ op ≤ 25) && S.good ⟨op, 0, 0, 0, imm⟩) from rfl)
  unfold viCells
  simp only
  by_cases h1 : op < 1
  · have H1 := Lib.hid h1
    go_enter Tryd.func76, Tryd.ntmps76
    go_wp2_with fail
    go_ret
    exact ⟨by rw [Hr.out, decide_eq_false (fun h => Int.not_le.2 H1.out h.1)]; rfl, (Below.refl _ _).alloc (Nat.le_refl _) _⟩
  · by_cases h2 : 25 < op
    · have H2 := Lib.hid h2
      go_enter Tryd.func76, Tryd.ntmps76
      go_wp2_with fail
      go_ret
      exact ⟨by rw [Hr.out, decide_eq_false (fun h => Int.not_le.2 H2.out h.2)]; rfl, (Below.refl _ _).alloc (Nat.le_refl _) _⟩
    · have H3 := Lib.hid (show 1 ≤ op ∧ op ≤ 25 by omega)
      have Hg := Lib.hid (chk_is0 ⟨op, 0, 0, 0, imm⟩)
      obtain ⟨q, hq⟩ : ∃ q, q = S.chk ⟨op, 0, 0, 0, imm⟩ := ⟨_, rfl⟩
      have He := Lib.hid (fun w => isa_Encode_any op 0 0 0 imm w)
      rw [← hq] at Hg He
      clear hq
      go_enter Tryd.func76, Tryd.ntmps76
      go_wp2_with fail
      refine (He.out _).mono ?_
      rintro e w2 ⟨rfl, hb⟩
      go_wp2_with fail
      go_ret
      refine ⟨?_, ((Below.refl _ _).alloc (Nat.le_refl _) _).trans (hb.mono (by simp))⟩
      rw [Hr.out, decide_eq_true H3.out, Bool.true_and, ← Hg.out]
      show Ending.returned (.bool (q == 0)) = Ending.returned (.bool (decide (q = 0)))
      rw [show (q == 0) = decide (q = 0) from by rw [Bool.eq_iff_iff]; simp]

set_option maxRecDepth 100000 in
set_option maxHeartbeats 1000000 in
theorem i_formed (i : S.VInst) (U M : Value) (w : World) : Calls Tryd.prog 59 #[.agg (viCells i U M)] w fun e w' => e = .returned (.bool (S.vform i)) ∧ Below w.heap.size w w' := by
  have Hr := Lib.hid (show S.vform i = (S.vplain i || decide ((26 ≤ i.op ∧ i.op ≤ 31) ∨ (64 ≤ i.op ∧ i.op ≤ 72))) from rfl)
  have Hp := Lib.hid (fun w => i_plain i U M w)
  obtain ⟨p, hp⟩ : ∃ p, p = S.vplain i := ⟨_, rfl⟩
  rw [← hp] at Hr Hp
  have hz := heap_alloc_new w (.cells (viCells i U M) 25)
  obtain ⟨op, d, a, b, imm, label, uses, map⟩ := i
  unfold viCells at *
  simp only at *
  clear hp
  have hc := fun (w1 : World) (hb : Below (w.alloc (.cells #[.int .i64 op, .int .i64 d, .int .i64 a, .int .i64 b, .int .i64 imm, .int .i64 label, U, M] 25)).heap.size (w.alloc (.cells #[.int .i64 op, .int .i64 d, .int .i64 a, .int .i64 b, .int .i64 imm, .int .i64 label, U, M] 25)) w1) => (show w1.cell? ⟨w.heap.size, 0, none⟩ = some (.int .i64 op) from (hb.cell (p := ⟨w.heap.size, 0, none⟩) (by simp)).trans (by rw [Lib.cell_of_heap hz]; rfl))
  have Hc := Lib.hid hc
  clear hz hc
  have o1 : op < 26 ∨ (26 ≤ op ∧ op ≤ 31) ∨ (31 < op ∧ op < 64) ∨ (64 ≤ op ∧ op ≤ 72) ∨ 72 < op := by omega
  cases hpc : p with
  | true =>
    subst hpc
    go_enter Tryd.func59, Tryd.ntmps59
    go_wp2_with fail
    refine (Hp.out _).mono ?_
    rintro e w2 ⟨rfl, hb⟩
    go_wp2_with fail
    go_ret
    exact ⟨by rw [Hr.out]; simp, ((Below.refl _ _).alloc (Nat.le_refl _) _).trans (hb.mono (by simp))⟩
  | false =>
    subst hpc
    rcases o1 with h | ⟨h, h'⟩ | ⟨h, h'⟩ | ⟨h, h'⟩ | h
    all_goals
      go_enter Tryd.func59, Tryd.ntmps59
      go_wp2_with fail
      refine (Hp.out _).mono ?_
      rintro e w2 ⟨rfl, hb⟩
      have c0 := Hc.out w2 hb
      go_wp2_with fail
      go_ret
      exact ⟨ret_bool (by rw [Hr.out, Bool.eq_iff_iff]; simp <;> omega), ((Below.refl _ _).alloc (Nat.le_refl _) _).trans (hb.mono (by simp))⟩

theorem enters_ichk1 : ∀ args w, (callFunc 60 args).run Tryd.prog w = .ok (.enter 60 args) w := enters_of Tryd.func60 (by kernel_rfl) rfl
set_option maxRecDepth 100000 in
set_option maxHeartbeats 1000000 in
theorem p_ichk1 (B fb : Nat) (regs : Int) (w : World) (hc : w.cell? ⟨fb, 1, none⟩ = some (.int .i64 regs)) (hB : fb < B) : Pred B 60 #[.pointer (some ⟨fb, 0, none⟩)] (fun r => !S.regOf regs r) w := fun W x hb => by
  have hc' := (hb.cell (p := ⟨fb, 1, none⟩) hB).trans hc
  have Hr := Lib.hid (show (!S.regOf regs x) = !decide (0 ≤ x ∧ x < regs) from rfl)
  show Calls Tryd.prog 60 #[.int .i64 x, .pointer (some ⟨fb, 0, none⟩)] W _
  by_cases h0 : x < 0
  · have H0 := Lib.hid h0
    go_enter Tryd.func60, Tryd.ntmps60
    go_wp2_with fail
    go_ret
    exact ⟨by show _ = Ending.returned (.bool (!S.regOf regs x)); rw [Hr.out, decide_eq_false (fun h => Int.not_le.2 H0.out h.1)]; rfl, Below.refl _ _⟩
  · by_cases h1 : x < regs
    all_goals
      have H0 := Lib.hid h0
      have H1 := Lib.hid h1
      go_enter Tryd.func60, Tryd.ntmps60
      go_wp2_with fail
      go_ret
      exact ⟨by show _ = Ending.returned (.bool (!S.regOf regs x)); rw [Hr.out]; simp [H0.out, H1.out] <;> omega, Below.refl _ _⟩

end Go.Proofs.YtidhglleeccpoaaDoor
