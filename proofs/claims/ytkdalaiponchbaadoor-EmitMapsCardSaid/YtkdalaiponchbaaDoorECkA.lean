/- emit.Check: its closures; the test of one instruction. -/
import Derived.Test.YtkdalaiponchbaaDoorEVls
set_option linter.unusedVariables false
set_option linter.unusedSimpArgs false
set_option linter.unusedSectionVars false
namespace Go.Proofs.YtkdalaiponchbaaDoor
open Go.RowKit

theorem enters_chk1 : ∀ args w, (callFunc 34 args).run Tryd.prog w = .ok (.enter 34 args) w := enters_of Tryd.func34 (by kernel_rfl) rfl
theorem enters_chk3 : ∀ args w, (callFunc 39 args).run Tryd.prog w = .ok (.enter 39 args) w := enters_of Tryd.func39 (by kernel_rfl) rfl
set_option maxRecDepth 100000 in
set_option maxHeartbeats 1000000 in
theorem q_chk1 (fb : Nat) (slots x : Int) (W : World) (hc' : W.cell? ⟨fb, 2, none⟩ = some (.int .i64 slots)) : Calls Tryd.prog 34 #[.int .i64 x, .pointer (some ⟨fb, 0, none⟩)] W fun e w' => e = .returned (.bool (S.slotOk slots x)) ∧ w' = W := by
  have Hr := Lib.hid (show S.slotOk slots x = decide (0 ≤ x ∧ x < slots) from rfl)
  by_cases h0 : 0 ≤ x
  · by_cases h1 : x < slots
    all_goals
      have H0 := Lib.hid h0
      have H1 := Lib.hid h1
      go_enter Tryd.func34, Tryd.ntmps34
      go_wp2_with fail
      go_ret
      exact ⟨by rw [Hr.out]; simp [H0.out, H1.out], rfl⟩
  · have H0 := Lib.hid h0
    go_enter Tryd.func34, Tryd.ntmps34
    go_wp2_with fail
    go_ret
    exact ⟨by rw [Hr.out, decide_eq_false (fun h => Int.not_lt.2 h.1 H0.out)]; rfl, rfl⟩

theorem p_chk1 (B fb : Nat) (slots : Int) (w : World) (hc : w.cell? ⟨fb, 2, none⟩ = some (.int .i64 slots)) (hB : fb < B) : Pred B 34 #[.pointer (some ⟨fb, 0, none⟩)] (S.slotOk slots) w := fun W x hb =>
  (q_chk1 fb slots x W ((hb.cell (p := ⟨fb, 2, none⟩) hB).trans hc)).mono fun _ _ ⟨h1, h2⟩ => ⟨h1, by rw [h2]; exact Below.refl _ _⟩
theorem quiet_more {P : Program} {f : FuncId} {args : Array Value} {w : World} {n : Nat} {v : Value}
    (h : Calls P f args (w.drewN n) fun e w' => e = .returned v ∧ ∃ m, w' = (w.drewN n).drewN m) : Calls P f args (w.drewN n) fun e w'' => e = .returned v ∧ ∃ m, w'' = w.drewN m :=
  h.mono fun _ _ ⟨he, m, hm⟩ => ⟨he, n + m, hm.trans (World.drewN_drewN _ _ _)⟩

set_option maxRecDepth 100000 in
set_option maxHeartbeats 1000000 in
theorem p_chk3 (B fb cb : Nat) (slots : Int) (w : World) (hc : w.cell? ⟨fb, 2, none⟩ = some (.int .i64 slots)) (hB : fb < B) (hf : w.cell? ⟨cb, 0, none⟩ = some (.func (.func 34) #[] #[.pointer (some ⟨fb, 0, none⟩)])) (hB2 : cb < B) :
    Pred B 39 #[.pointer (some ⟨cb, 0, none⟩)] (fun s => !S.slotOk slots s) w := fun W x hb => by
  have hc' := (hb.cell (p := ⟨fb, 2, none⟩) hB).trans hc
  have hf' := (hb.cell (p := ⟨cb, 0, none⟩) hB2).trans hf
  have hp := p_chk1 B fb slots W hc' hB W x (Below.refl _ _)
  have eg := enters_chk1
  obtain ⟨r, hr⟩ : ∃ r, r = S.slotOk slots x := ⟨_, rfl⟩
  rw [← hr] at hp
  have Hr := Lib.hid hr
  clear hr
  have Hp := Lib.hid hp
  clear hp hc hf hc'
  show Calls Tryd.prog 39 #[.int .i64 x, .pointer (some ⟨cb, 0, none⟩)] W _
  go_enter Tryd.func39, Tryd.ntmps39
  go_wp2_with (go_at_fn 34; refine Hp.out.mono ?_; rintro e w2 ⟨rfl, hb2⟩)
  go_ret
  exact ⟨by show _ = Ending.returned (.bool (!S.slotOk slots x)); rw [← Hr.out]; rfl, hb2⟩

end Go.Proofs.YtkdalaiponchbaaDoor
