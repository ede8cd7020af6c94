/- Walk of the law AsmKnown: the chapter's examples. -/
import Derived.Test.YtfdmbjkofchhiaaLawE
set_option linter.unusedVariables false
set_option linter.unusedSimpArgs false
set_option linter.unusedSectionVars false
namespace Go.Proofs.Ytfdmbjkofchhiaa
open Go.RowKit

theorem bstep {w a b : World} (h : Below w.heap.size w a) (s : Below a.heap.size a b) : Below w.heap.size w b := h.trans (s.mono h.size)
theorem one_alloc (w : World) (cs : Array Value) (t : TypeId) : (w.alloc (.cells cs t)).heap[w.heap.size]? = some (.cells cs t (0, 0)) ∧ Below w.heap.size w (w.alloc (.cells cs t)) ∧ (w.alloc (.cells cs t)).heap.size = w.heap.size + 1 :=
  ⟨heap_alloc_new _ _, (Below.refl _ _).alloc (Nat.le_refl _) _, by simp⟩

set_option maxRecDepth 100000 in
set_option maxHeartbeats 8000000 in
theorem law_AsmKnown (w : World) : Calls Try.prog 4 #[] w fun e w' => e = .returned (.bool true) ∧ Below w.heap.size w w' := by
  go_enter Try.func4, Try.ntmps4
  go_wp2_with fail
  refine (law_branch _ _ _ _).mono ?_
  rintro e w1 ⟨rfl, hxw1⟩
  have hsw1 := hxw1
  have hbw_w1 := hsw1
  go_wp2_with fail
  refine (law_space _ _).mono ?_
  rintro e w2 ⟨rfl, hxw2⟩
  have hsw2 := hxw2
  have hbw_w2 := bstep hbw_w1 hsw2
  go_wp2_with fail
  refine (law_label _ _).mono ?_
  rintro e w3 ⟨rfl, hxw3⟩
  have hsw3 := hxw3
  have hbw_w3 := bstep hbw_w2 hsw3
  go_wp2_with fail
  obtain ⟨hcw4, hxw4, hzw4⟩ := one_alloc w3 #[.int .i64 3, .int .i64 26, .int .i64 0, .int .i64 1, .int .i64 2, .int .i64 0, .string ⟨#[98]⟩, .int .u32 0, .int .i64 8, .int .i64 0, .int .i64 0, .int .i64 0, .int .i64 0, .int .i64 0, .string ⟨#[]⟩, .int .u32 40000, .int .i64 2, .int .i64 0, .int .i64 0, .int .i64 0, .int .i64 0, .int .i64 0, .string ⟨#[98]⟩, .int .u32 0] 44
  generalize w3.alloc (.cells #[.int .i64 3, .int .i64 26, .int .i64 0, .int .i64 1, .int .i64 2, .int .i64 0, .string ⟨#[98]⟩, .int .u32 0, .int .i64 8, .int .i64 0, .int .i64 0, .int .i64 0, .int .i64 0, .int .i64 0, .string ⟨#[]⟩, .int .u32 40000, .int .i64 2, .int .i64 0, .int .i64 0, .int .i64 0, .int .i64 0, .int .i64 0, .string ⟨#[98]⟩, .int .u32 0] 44) = w4 at *
  have Hcw4 := Lib.hid hcw4
  have hlw4 : w3.heap.size < w4.heap.size := by omega
  clear hcw4 hzw4
  have hsw4 := hxw4
  have hbw_w4 := bstep hbw_w3 hsw4
  have hiF := Lib.hid (Items.lit (B := w4.heap.size) Hcw4.out (rfl : _ = S.far.flatMap itemCells) (by omega) (words_of far_words))
  refine (law_label _ _).mono ?_
  rintro e w5 ⟨rfl, hxw5⟩
  have hsw5 := hxw5
  have hbw_w5 := bstep hbw_w4 hsw5
  have hbF_w5 := hsw5
  go_wp2_with fail
  obtain ⟨hcw6, hxw6, hzw6⟩ := one_alloc w5 #[.int .i64 5, .int .i64 0, .int .i64 3, .int .i64 0, .int .i64 0, .int .i64 0, .string ⟨#[98]⟩, .int .u32 0, .int .i64 7, .int .i64 0, .int .i64 0, .int .i64 0, .int .i64 0, .int .i64 0, .string ⟨#[98]⟩, .int .u32 1, .int .i64 2, .int .i64 0, .int .i64 0, .int .i64 0, .int .i64 0, .int .i64 0, .string ⟨#[98]⟩, .int .u32 0] 44
  generalize w5.alloc (.cells #[.int .i64 5, .int .i64 0, .int .i64 3, .int .i64 0, .int .i64 0, .int .i64 0, .string ⟨#[98]⟩, .int .u32 0, .int .i64 7, .int .i64 0, .int .i64 0, .int .i64 0, .int .i64 0, .int .i64 0, .string ⟨#[98]⟩, .int .u32 1, .int .i64 2, .int .i64 0, .int .i64 0, .int .i64 0, .int .i64 0, .int .i64 0, .string ⟨#[98]⟩, .int .u32 0] 44) = w6 at *
  have Hcw6 := Lib.hid hcw6
  have hlw6 : w5.heap.size < w6.heap.size := by omega
  clear hcw6 hzw6
  have hsw6 := hxw6
  have hbw_w6 := bstep hbw_w5 hsw6
  have hbF_w6 := bstep hbF_w5 hsw6
  have hiA := Lib.hid (Items.lit (B := w6.heap.size) Hcw6.out (rfl : _ = S.adr.flatMap itemCells) (by omega) (words_of adr_words))
  refine (law_awake _).mono ?_
  rintro e w7 ⟨rfl, hxw7⟩
  have hsw7 := hxw7
  have hbw_w7 := bstep hbw_w6 hsw7
  have hbF_w7 := bstep hbF_w6 hsw7
  have hbA_w7 := hsw7
  go_wp2_with fail
  obtain ⟨hcw8, hxw8, hzw8⟩ := one_alloc w7 #[.int .u32 1814167553, .int .u32 2147523648, .int .u32 0] 42
  generalize w7.alloc (.cells #[.int .u32 1814167553, .int .u32 2147523648, .int .u32 0] 42) = w8 at *
  have Hcw8 := Lib.hid hcw8
  have hlw8 : w7.heap.size < w8.heap.size := by omega
  clear hcw8 hzw8
  have hsw8 := hxw8
  have hbw_w8 := bstep hbw_w7 hsw8
  have hbF_w8 := bstep hbF_w7 hsw8
  have hbA_w8 := bstep hbA_w7 hsw8
  have hcall : Calls Try.prog 20 #[.slice (some ⟨w3.heap.size, 0, none⟩) 3 3, .int .i64 0, .int .i64 40002, .int .i64 40002, .slice (some ⟨w7.heap.size, 0, none⟩) 3 3] w8 fun e w' => e = .returned (.bool true) ∧ Below w8.heap.size w8 w' :=
    law_begins _ _ 3 3 S.far 0 40002 40002 [1814167553, 2147523648, 0] w8 ((hiF.out.below hbF_w8).more hbF_w8.size) (by decide) (labs_of far_labs) (Reads.lit Hcw8.out rfl (by omega)) [2, 0, 0] far_res
      far_len ⟨#[98]⟩ (by rw [far_places]; rfl) far_pre far_le
  have Hcall := Lib.hid hcall
  clear hcall
  refine (Hcall.out).mono ?_
  rintro e w9 ⟨rfl, hxw9⟩
  have hsw9 := hxw9
  have hbw_w9 := bstep hbw_w8 hsw9
  have hbF_w9 := bstep hbF_w8 hsw9
  have hbA_w9 := bstep hbA_w8 hsw9
  clear Hcall
  go_wp2_with fail
  obtain ⟨hcw10, hxw10, hzw10⟩ := one_alloc w9 #[.int .u32 1549795329, .int .u32 1147338755, .int .u32 262157] 42
  generalize w9.alloc (.cells #[.int .u32 1549795329, .int .u32 1147338755, .int .u32 262157] 42) = w10 at *
  have Hcw10 := Lib.hid hcw10
  have hlw10 : w9.heap.size < w10.heap.size := by omega
  clear hcw10 hzw10
  have hsw10 := hxw10
  have hbw_w10 := bstep hbw_w9 hsw10
  have hbF_w10 := bstep hbF_w9 hsw10
  have hbA_w10 := bstep hbA_w9 hsw10
  have hcall : Calls Try.prog 20 #[.slice (some ⟨w5.heap.size, 0, none⟩) 3 3, .int .i64 65536, .int .i64 3, .int .i64 65539, .slice (some ⟨w9.heap.size, 0, none⟩) 3 3] w10 fun e w' => e = .returned (.bool true) ∧ Below w10.heap.size w10 w' :=
    law_begins _ _ 3 3 S.adr 65536 3 65539 [1549795329, 1147338755, 262157] w10 ((hiA.out.below hbA_w10).more hbA_w10.size) (by decide) (labs_of adr_labs) (Reads.lit Hcw10.out rfl (by omega)) [0, 0, 0] adr_res
      (by rw [adr_out]; rfl) ⟨#[98]⟩ (by rw [adr_places]; rfl) (by rw [adr_out]; exact fun _ _ h => h) (by rw [adr_out]; decide)
  have Hcall := Lib.hid hcall
  clear hcall
  refine (Hcall.out).mono ?_
  rintro e w11 ⟨rfl, hxw11⟩
  have hsw11 := hxw11
  have hbw_w11 := bstep hbw_w10 hsw11
  have hbF_w11 := bstep hbF_w10 hsw11
  have hbA_w11 := bstep hbA_w10 hsw11
  clear Hcall
  go_wp2_with fail
  refine (law_jump _ _ _).mono ?_
  rintro e w12 ⟨rfl, hxw12⟩
  have hsw12 := hxw12
  have hbw_w12 := bstep hbw_w11 hsw12
  go_wp2_with fail
  obtain ⟨hcw13, hxw13, hzw13⟩ := one_alloc w12 #[.int .i64 4, .int .i64 0, .int .i64 0, .int .i64 0, .int .i64 0, .int .i64 0, .string ⟨#[99]⟩, .int .u32 0] 44
  generalize w12.alloc (.cells #[.int .i64 4, .int .i64 0, .int .i64 0, .int .i64 0, .int .i64 0, .int .i64 0, .string ⟨#[99]⟩, .int .u32 0] 44) = w13 at *
  have Hcw13 := Lib.hid hcw13
  have hlw13 : w12.heap.size < w13.heap.size := by omega
  clear hcw13 hzw13
  have hsw13 := hxw13
  have hbw_w13 := bstep hbw_w12 hsw13
  have hcall : Calls Try.prog 21 #[.int .i64 12, .int .i64 0, .slice (some ⟨w12.heap.size, 0, none⟩) 1 1] w13 fun e w' => e = .returned (.bool true) ∧ Below w13.heap.size w13 w' :=
    law_no _ 1 S.n1 0 12 w13 (Items.lit Hcw13.out (rfl : _ = S.n1.flatMap itemCells) (by omega) (words_of n1_words)) (by decide) (labs_of n1_labs) n1_res (by decide)
  have Hcall := Lib.hid hcall
  clear hcall
  refine (Hcall.out).mono ?_
  rintro e w14 ⟨rfl, hxw14⟩
  have hsw14 := hxw14
  have hbw_w14 := bstep hbw_w13 hsw14
  clear Hcall
  go_wp2_with fail
  refine (law_label _ _).mono ?_
  rintro e w15 ⟨rfl, hxw15⟩
  have hsw15 := hxw15
  have hbw_w15 := bstep hbw_w14 hsw15
  go_wp2_with fail
  refine (law_label _ _).mono ?_
  rintro e w16 ⟨rfl, hxw16⟩
  have hsw16 := hxw16
  have hbw_w16 := bstep hbw_w15 hsw16
  go_wp2_with fail
  obtain ⟨hcw17, hxw17, hzw17⟩ := one_alloc w16 #[.int .i64 2, .int .i64 0, .int .i64 0, .int .i64 0, .int .i64 0, .int .i64 0, .string ⟨#[97]⟩, .int .u32 0, .int .i64 2, .int .i64 0, .int .i64 0, .int .i64 0, .int .i64 0, .int .i64 0, .string ⟨#[97]⟩, .int .u32 0] 44
  generalize w16.alloc (.cells #[.int .i64 2, .int .i64 0, .int .i64 0, .int .i64 0, .int .i64 0, .int .i64 0, .string ⟨#[97]⟩, .int .u32 0, .int .i64 2, .int .i64 0, .int .i64 0, .int .i64 0, .int .i64 0, .int .i64 0, .string ⟨#[97]⟩, .int .u32 0] 44) = w17 at *
  have Hcw17 := Lib.hid hcw17
  have hlw17 : w16.heap.size < w17.heap.size := by omega
  clear hcw17 hzw17
  have hsw17 := hxw17
  have hbw_w17 := bstep hbw_w16 hsw17
  have hcall : Calls Try.prog 21 #[.int .i64 14, .int .i64 0, .slice (some ⟨w16.heap.size, 0, none⟩) 2 2] w17 fun e w' => e = .returned (.bool true) ∧ Below w17.heap.size w17 w' :=
    law_no _ 2 S.n2 0 14 w17 (Items.lit Hcw17.out (rfl : _ = S.n2.flatMap itemCells) (by omega) (words_of n2_words)) (by decide) (labs_of n2_labs) n2_res (by decide)
  have Hcall := Lib.hid hcall
  clear hcall
  refine (Hcall.out).mono ?_
  rintro e w18 ⟨rfl, hxw18⟩
  have hsw18 := hxw18
  have hbw_w18 := bstep hbw_w17 hsw18
  clear Hcall
  go_wp2_with fail
  obtain ⟨hcw19, hxw19, hzw19⟩ := one_alloc w18 #[.int .i64 9, .int .i64 0, .int .i64 0, .int .i64 0, .int .i64 0, .int .i64 0, .string ⟨#[]⟩, .int .u32 0] 44
  generalize w18.alloc (.cells #[.int .i64 9, .int .i64 0, .int .i64 0, .int .i64 0, .int .i64 0, .int .i64 0, .string ⟨#[]⟩, .int .u32 0] 44) = w19 at *
  have Hcw19 := Lib.hid hcw19
  have hlw19 : w18.heap.size < w19.heap.size := by omega
  clear hcw19 hzw19
  have hsw19 := hxw19
  have hbw_w19 := bstep hbw_w18 hsw19
  have hcall : Calls Try.prog 21 #[.int .i64 4, .int .i64 0, .slice (some ⟨w18.heap.size, 0, none⟩) 1 1] w19 fun e w' => e = .returned (.bool true) ∧ Below w19.heap.size w19 w' :=
    law_no _ 1 S.n3 0 4 w19 (Items.lit Hcw19.out (rfl : _ = S.n3.flatMap itemCells) (by omega) (words_of n3_words)) (by decide) (labs_of n3_labs) n3_res (by decide)
  have Hcall := Lib.hid hcall
  clear hcall
  refine (Hcall.out).mono ?_
  rintro e w20 ⟨rfl, hxw20⟩
  have hsw20 := hxw20
  have hbw_w20 := bstep hbw_w19 hsw20
  clear Hcall
  go_wp2_with fail
  refine (law_label _ _).mono ?_
  rintro e w21 ⟨rfl, hxw21⟩
  have hsw21 := hxw21
  have hbw_w21 := bstep hbw_w20 hsw21
  go_wp2_with fail
  obtain ⟨hcw22, hxw22, hzw22⟩ := one_alloc w21 #[.int .i64 3, .int .i64 1, .int .i64 0, .int .i64 0, .int .i64 0, .int .i64 0, .string ⟨#[97]⟩, .int .u32 0, .int .i64 2, .int .i64 0, .int .i64 0, .int .i64 0, .int .i64 0, .int .i64 0, .string ⟨#[97]⟩, .int .u32 0] 44
  generalize w21.alloc (.cells #[.int .i64 3, .int .i64 1, .int .i64 0, .int .i64 0, .int .i64 0, .int .i64 0, .string ⟨#[97]⟩, .int .u32 0, .int .i64 2, .int .i64 0, .int .i64 0, .int .i64 0, .int .i64 0, .int .i64 0, .string ⟨#[97]⟩, .int .u32 0] 44) = w22 at *
  have Hcw22 := Lib.hid hcw22
  have hlw22 : w21.heap.size < w22.heap.size := by omega
  clear hcw22 hzw22
  have hsw22 := hxw22
  have hbw_w22 := bstep hbw_w21 hsw22
  have hcall : Calls Try.prog 21 #[.int .i64 11, .int .i64 0, .slice (some ⟨w21.heap.size, 0, none⟩) 2 2] w22 fun e w' => e = .returned (.bool true) ∧ Below w22.heap.size w22 w' :=
    law_no _ 2 S.n4 0 11 w22 (Items.lit Hcw22.out (rfl : _ = S.n4.flatMap itemCells) (by omega) (words_of n4_words)) (by decide) (labs_of n4_labs) n4_res (by decide)
  have Hcall := Lib.hid hcall
  clear hcall
  refine (Hcall.out).mono ?_
  rintro e w23 ⟨rfl, hxw23⟩
  have hsw23 := hxw23
  have hbw_w23 := bstep hbw_w22 hsw23
  clear Hcall
  go_wp2_with fail
  have hcall : Calls Try.prog 21 #[.int .i64 2, .int .i64 (-1), .slice none 0 0] w23 fun e w' => e = .returned (.bool true) ∧ Below w23.heap.size w23 w' :=
    law_no _ 0 S.n5 (-1) 2 w23 (fun h => absurd h (by decide)) (by decide) (labs_of n5_labs) n5_res (by decide)
  have Hcall := Lib.hid hcall
  clear hcall
  refine (Hcall.out).mono ?_
  rintro e w24 ⟨rfl, hxw24⟩
  have hsw24 := hxw24
  have hbw_w24 := bstep hbw_w23 hsw24
  clear Hcall
  go_wp2_with fail
  refine (law_space _ _).mono ?_
  rintro e w25 ⟨rfl, hxw25⟩
  have hsw25 := hxw25
  have hbw_w25 := bstep hbw_w24 hsw25
  go_wp2_with fail
  obtain ⟨hcw26, hxw26, hzw26⟩ := one_alloc w25 #[.int .i64 8, .int .i64 0, .int .i64 0, .int .i64 0, .int .i64 0, .int .i64 0, .string ⟨#[]⟩, .int .u32 1] 44
  generalize w25.alloc (.cells #[.int .i64 8, .int .i64 0, .int .i64 0, .int .i64 0, .int .i64 0, .int .i64 0, .string ⟨#[]⟩, .int .u32 1] 44) = w26 at *
  have Hcw26 := Lib.hid hcw26
  have hlw26 : w25.heap.size < w26.heap.size := by omega
  clear hcw26 hzw26
  have hsw26 := hxw26
  have hbw_w26 := bstep hbw_w25 hsw26
  have hcall : Calls Try.prog 21 #[.int .i64 3, .int .i64 67108864, .slice (some ⟨w25.heap.size, 0, none⟩) 1 1] w26 fun e w' => e = .returned (.bool true) ∧ Below w26.heap.size w26 w' :=
    law_no _ 1 S.n6 67108864 3 w26 (Items.lit Hcw26.out (rfl : _ = S.n6.flatMap itemCells) (by omega) (words_of n6_words)) (by decide) (labs_of n6_labs) n6_res (by decide)
  have Hcall := Lib.hid hcall
  clear hcall
  refine (Hcall.out).mono ?_
  rintro e w27 ⟨rfl, hxw27⟩
  have hsw27 := hxw27
  have hbw_w27 := bstep hbw_w26 hsw27
  clear Hcall
  go_wp2_with fail
  refine (law_jump _ _ _).mono ?_
  rintro e w28 ⟨rfl, hxw28⟩
  have hsw28 := hxw28
  have hbw_w28 := bstep hbw_w27 hsw28
  go_wp2_with fail
  refine (law_label _ _).mono ?_
  rintro e w29 ⟨rfl, hxw29⟩
  have hsw29 := hxw29
  have hbw_w29 := bstep hbw_w28 hsw29
  go_wp2_with fail
  obtain ⟨hcw30, hxw30, hzw30⟩ := one_alloc w29 #[.int .i64 4, .int .i64 0, .int .i64 32, .int .i64 0, .int .i64 0, .int .i64 0, .string ⟨#[97]⟩, .int .u32 0, .int .i64 2, .int .i64 0, .int .i64 0, .int .i64 0, .int .i64 0, .int .i64 0, .string ⟨#[97]⟩, .int .u32 0] 44
  generalize w29.alloc (.cells #[.int .i64 4, .int .i64 0, .int .i64 32, .int .i64 0, .int .i64 0, .int .i64 0, .string ⟨#[97]⟩, .int .u32 0, .int .i64 2, .int .i64 0, .int .i64 0, .int .i64 0, .int .i64 0, .int .i64 0, .string ⟨#[97]⟩, .int .u32 0] 44) = w30 at *
  have Hcw30 := Lib.hid hcw30
  have hlw30 : w29.heap.size < w30.heap.size := by omega
  clear hcw30 hzw30
  have hsw30 := hxw30
  have hbw_w30 := bstep hbw_w29 hsw30
  have hcall : Calls Try.prog 21 #[.int .i64 11, .int .i64 0, .slice (some ⟨w29.heap.size, 0, none⟩) 2 2] w30 fun e w' => e = .returned (.bool true) ∧ Below w30.heap.size w30 w' :=
    law_no _ 2 S.n7 0 11 w30 (Items.lit Hcw30.out (rfl : _ = S.n7.flatMap itemCells) (by omega) (words_of n7_words)) (by decide) (labs_of n7_labs) n7_res (by decide)
  have Hcall := Lib.hid hcall
  clear hcall
  refine (Hcall.out).mono ?_
  rintro e w31 ⟨rfl, hxw31⟩
  have hsw31 := hxw31
  have hbw_w31 := bstep hbw_w30 hsw31
  clear Hcall
  go_wp2_with (go_at_call 15; refine (asm_Turned _ _).mono ?_; rintro e w' ⟨rfl, rfl⟩)
  go_ret
  exact ⟨by simp [S.turned], hbw_w31⟩

end Go.Proofs.Ytfdmbjkofchhiaa
