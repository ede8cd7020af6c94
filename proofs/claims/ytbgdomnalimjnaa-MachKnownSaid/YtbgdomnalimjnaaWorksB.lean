/- The laws of layer 2: works. -/
import Derived.Test.YtbgdomnalimjnaaMadeA
import Derived.Test.YtbgdomnalimjnaaMachY
set_option linter.unusedVariables false
set_option linter.unusedSimpArgs false
set_option linter.unusedSectionVars false
namespace Go.Proofs.Ytbgdomnalimjnaa
open Go.RowKit

/-- A literal row of words. -/
theorem words_lit (w : World) (L : List Int) (n : Nat) (hn : L.length = n) : Reads (w.alloc (.cells (L.map (Value.int .u32)).toArray 34)) (w.alloc (.cells (L.map (Value.int .u32)).toArray 34)).heap.size (some ⟨w.heap.size, 0, none⟩) (L.map (Value.int .u32)) := fun _ => by
  obtain ⟨x1, x2, x3⟩ := one_allocM w (L.map (Value.int .u32)).toArray 34
  refine ⟨w.heap.size, 0, rfl, by omega, fun i x hx => ?_⟩
  rw [blk_cellM x1]
  simpa using hx
theorem reads_none (w : World) (B : Nat) : Reads w B none (([] : List Int).map (Value.int .u8)) := fun hp => by simp at hp

def worksM : S.Mach := newM [S.wordOf ⟨15, 4, 0, 0, 65⟩, S.wordOf ⟨35, 0, 4, 0, 0⟩, S.wordOf ⟨36, 0, 4, 0, 0⟩] 10 []
theorem works_facts : (worksM.steps_ 10).state = 1 ∧ (worksM.steps_ 10).code = 65 ∧ (worksM.steps_ 10).out = [65] ∧ (worksM.steps_ 10).steps = 3 ∧ (worksM.steps_ 10).place = 2 := by
  refine ⟨?_, ?_, ?_, ?_, ?_⟩ <;> decide +kernel
theorem works_words : ∀ x ∈ [S.wordOf ⟨15, 4, 0, 0, 65⟩, S.wordOf ⟨35, 0, 4, 0, 0⟩, S.wordOf ⟨36, 0, 4, 0, 0⟩], 0 ≤ x ∧ x ≤ 4294967295 := by decide +kernel

set_option maxRecDepth 100000 in
set_option maxHeartbeats 8000000 in
theorem law2_works (w : World) : Calls Try.prog 14 #[] w fun e w' => e = .returned (.bool true) ∧ Below w.heap.size w w' := by
  have Hw := Lib.hid works_words
  have Hf := Lib.hid works_facts
  have Hd : Hid (worksM = newM [S.wordOf ⟨15, 4, 0, 0, 65⟩, S.wordOf ⟨35, 0, 4, 0, 0⟩, S.wordOf ⟨36, 0, 4, 0, 0⟩] (10 : Int).toNat []) := Lib.hid rfl
  have hr0 := fun w => law2_word 15 4 0 0 65 w
  have hr1 := fun w => law2_word 35 0 4 0 0 w
  have hr2 := fun w => law2_word 36 0 4 0 0 w
  generalize S.wordOf ⟨15, 4, 0, 0, 65⟩ = a0 at *
  generalize S.wordOf ⟨35, 0, 4, 0, 0⟩ = a1 at *
  generalize S.wordOf ⟨36, 0, 4, 0, 0⟩ = a2 at *
  have R0 := Lib.hid hr0
  have R1 := Lib.hid hr1
  have R2 := Lib.hid hr2
  clear hr0 hr1 hr2
  generalize worksM = M at *
  go_enter Try.func14, Try.ntmps14
  go_wp2_with fail
  refine (R0.out w).mono ?_
  rintro e w1 ⟨rfl, hb1⟩
  go_wp2_with fail
  refine (R1.out w1).mono ?_
  rintro e w2 ⟨rfl, hb2⟩
  go_wp2_with fail
  refine (R2.out w2).mono ?_
  rintro e w3 ⟨rfl, hb3⟩
  have hb : Below w.heap.size w w3 := (hb1.trans (hb2.mono hb1.size)).trans (hb3.mono (Nat.le_trans hb1.size hb2.size))
  clear hb1 hb2 hb3
  go_wp2_with fail
  refine (mach_New (some ⟨w3.heap.size, 0, none⟩) none 3 0 [a0, a1, a2] [] 10 _ (words_lit w3 [a0, a1, a2] 3 rfl) (reads_none _ _) (by simp) (by simp) Hw.out (by simp)).mono ?_
  rintro e w4 (⟨hno, rfl, rfl⟩ | ⟨hok, p, vm, A, c, rfl, hM, hb4, hA⟩)
  · exact absurd (show sizeOk 3 10 from ⟨by decide, by decide, by decide⟩) hno
  have hbz : Below w.heap.size w w4 := (hb.alloc hb.size _).trans (hb4.mono (by have := hb.size; simp; omega))
  rw [← Hd.out] at hM
  have hM := hM.base (show w.heap.size ≤ _ by have := hb.size; simp; omega)
  have hout : M.out.length = 0 := by rw [Hd.out]; rfl
  have hstp : M.steps = 0 := by rw [Hd.out]; rfl
  clear hok hb4 hA hb
  go_wp2_with fail
  refine (mach_Run 10 hM (by omega) (by omega) (by omega)).mono ?_
  rintro e w5 ⟨rfl, vo, rd, hM5, hO, _⟩
  rw [show (10 : Int).toNat = 10 from rfl] at hM5 ⊢
  obtain ⟨f1, f2, f3, f4, f5⟩ := Hf.out
  have hb5 : Below w.heap.size w w5 := hbz.trans (hO.below hbz.size (fun k hk => (hM.foot_lt hk).1))
  have hol : (M.steps_ 10).out.length ≤ 1000000 := by rw [f3]; decide
  rw [f1]
  have F2 := Lib.hid f2
  have F3 := Lib.hid f3
  have F4 := Lib.hid f4
  have F5 := Lib.hid f5
  have HM := Lib.hid hM5
  clear f1 f2 f3 f4 f5 Hf Hd hM hM5 hO
  generalize M.steps_ 10 = N at *
  go_wp2_with fail
  refine (mach_Code HM.out).mono ?_
  rintro e w6 ⟨rfl, rfl⟩
  rw [F2.out]
  go_wp2_with fail
  refine (mach_Out HM.out hol).mono ?_
  rintro e w7 ⟨A7, c7, rfl, ho7, hb7⟩
  have HM7 := Lib.hid (HM.out.below hb7)
  have hbz := hb5.trans (hb7.mono hb5.size)
  have hs := conv_row ho7
  rw [F3.out] at hs
  have hs1 : (convert 23 9 (.slice A7 1 c7)).run Try.prog w7 = .ok (.string ⟨#[65]⟩) w7 := hs
  clear hs
  rw [F3.out]
  clear ho7 hb7
  go_wp2_with fail
  refine (mach_Steps HM7.out).mono ?_
  rintro e w8 ⟨rfl, rfl⟩
  rw [F4.out]
  go_wp2_with fail
  refine (mach_Place HM7.out).mono ?_
  rintro e w8 ⟨rfl, rfl⟩
  rw [F5.out]
  go_wp2_with fail
  go_ret
  exact ⟨rfl, hbz⟩

end Go.Proofs.Ytbgdomnalimjnaa
