/- The law's own functions at instructions that are good, at words and instructions that are none: walks of pennantlaw01.is, no, never, awake. -/
import Derived.Test.YtjhchgbeglhoaaaDoorIPar
import Derived.Test.YtjhchgbeglhoaaaDoorIsaE
import Derived.Test.YtjhchgbeglhoaaaDoorRefDec
set_option linter.unusedVariables false
set_option linter.unusedSimpArgs false
set_option linter.unusedSectionVars false
namespace Go.Proofs.YtjhchgbeglhoaaaDoor
open Go.RowKit

theorem chk_of_good {x : S.Inst} (h : S.good x = true) : S.chk x = 0 := by unfold S.chk; rw [if_pos h]
theorem word_of_good {x : S.Inst} (h : S.good x = true) : S.wordOf x = S.enc x := wordOf_good h

set_option maxRecDepth 100000 in
set_option maxHeartbeats 2000000 in
theorem isa_is (op d a b imm : Int) (hg : S.good ⟨op, d, a, b, imm⟩ = true) (w : World) (hL : LV w) :
    Calls Tryd.prog 27 #[.agg #[.int .i64 op, .int .i64 d, .int .i64 a, .int .i64 b, .int .i64 imm], .int .u32 (S.enc ⟨op, d, a, b, imm⟩), .string ⟨(S.text ⟨op, d, a, b, imm⟩).toArray⟩] w fun e w' => e = .returned (.bool true) ∧ Below w.heap.size w w' := by
  have HL := Lib.hid hL
  have g8 := hL.size
  clear hL
  have HC := Lib.hid (chk_of_good hg)
  have HW := Lib.hid (word_of_good hg)
  have HD := Lib.hid (dec_enc hg)
  have HP := Lib.hid (parse_text nums_isa hg)
  have hn := enc_bd hg
  have hts := text_short hg
  clear hg
  obtain ⟨n, hnn⟩ : ∃ n, n = S.enc ⟨op, d, a, b, imm⟩ := ⟨_, rfl⟩
  rw [← hnn] at hn HW HD ⊢
  obtain ⟨T, hT⟩ : ∃ T, T = S.text ⟨op, d, a, b, imm⟩ := ⟨_, rfl⟩
  rw [← hT] at hts HP ⊢
  have HT := Lib.hid hT
  clear hnn hT
  go_enter Tryd.func27, Tryd.ntmps27
  go_upto_region 1 with fail
  obtain ⟨x1, x2, x3⟩ := one_allocN w #[.int .i64 op, .int .i64 d, .int .i64 a, .int .i64 b, .int .i64 imm] 27
  have i0 : InstAt w.heap.size ⟨op, d, a, b, imm⟩ (w.alloc (.cells #[.int .i64 op, .int .i64 d, .int .i64 a, .int .i64 b, .int .i64 imm] 27)) := x1
  generalize w.alloc (.cells #[.int .i64 op, .int .i64 d, .int .i64 a, .int .i64 b, .int .i64 imm] 27) = w1 at *
  clear x1 x3
  obtain ⟨c0, c1, c2, c3, c4⟩ := i0.all
  go_wp2_with fail
  refine (isa_Encode_any op d a b imm w1).mono ?_
  rintro e w2 ⟨rfl, hb2⟩
  rw [HC.out, HW.out]
  have i2 := i0.keep hb2
  have H2 := Lib.hid (x2.trans (hb2.mono (Nat.le_of_lt i0.lt)))
  clear c0 c1 c2 c3 c4 i0 x2 hb2
  go_wp2_with fail
  refine (isa_Decode n w2 hn.1 hn.2).mono ?_
  rintro e w3 ⟨rfl, hb3⟩
  rw [HD.out.1, HD.out.2]
  have i3 := i2.keep hb3
  have H3 := Lib.hid (H2.out.trans (hb3.mono (Nat.le_of_lt i2.lt)))
  clear i2 hb3 H2
  go_upto_region 3 with fail
  obtain ⟨y1, y2, y3⟩ := one_allocN w3 #[.int .i64 op, .int .i64 d, .int .i64 a, .int .i64 b, .int .i64 imm] 27
  have j0 : InstAt w3.heap.size ⟨op, d, a, b, imm⟩ (w3.alloc (.cells #[.int .i64 op, .int .i64 d, .int .i64 a, .int .i64 b, .int .i64 imm] 27)) := y1
  have i4 := i3.keep y2
  have H4 := Lib.hid (H3.out.trans (y2.mono (Nat.le_of_lt i3.lt)))
  have G3 := Lib.hid i3.lt
  obtain ⟨g3, hg3⟩ : ∃ g, g = w3.heap.size := ⟨_, rfl⟩
  have hgg : w.heap.size < g3 := by rw [hg3]; exact G3.out
  rw [← hg3] at j0 ⊢
  generalize w3.alloc (.cells #[.int .i64 op, .int .i64 d, .int .i64 a, .int .i64 b, .int .i64 imm] 27) = w4 at *
  clear i3 y1 y2 y3 H3 hg3 G3
  have hL4 := HL.out.on H4.out
  go_wp2_with fail
  refine (isa_Parse ⟨T.toArray⟩ (by show T.length ≤ _; omega) w4 hL4).mono ?_
  rintro e w5 ⟨rfl, hb5⟩
  rw [show ByteArray.data ⟨T.toArray⟩ = T.toArray from rfl, List.toList_toArray, HP.out]
  have i5 := i4.keep hb5
  have j5 := j0.keep hb5
  have H5 := Lib.hid (H4.out.trans (hb5.mono (Nat.le_of_lt i4.lt)))
  clear i4 j0 hb5 H4 hL4
  simp only [instV]
  go_upto_region 4 with fail
  obtain ⟨y1, y2, y3⟩ := one_allocN w5 #[.int .i64 op, .int .i64 d, .int .i64 a, .int .i64 b, .int .i64 imm] 27
  have k6 : InstAt w5.heap.size ⟨op, d, a, b, imm⟩ (w5.alloc (.cells #[.int .i64 op, .int .i64 d, .int .i64 a, .int .i64 b, .int .i64 imm] 27)) := y1
  have i6 := i5.keep y2
  have j6 := j5.keep y2
  have H6 := Lib.hid (H5.out.trans (y2.mono (Nat.le_of_lt i5.lt)))
  obtain ⟨g5, hg5⟩ : ∃ g, g = w5.heap.size := ⟨_, rfl⟩
  rw [← hg5] at k6 ⊢
  generalize w5.alloc (.cells #[.int .i64 op, .int .i64 d, .int .i64 a, .int .i64 b, .int .i64 imm] 27) = w6 at *
  clear i5 j5 y1 y2 y3 H5 hg5
  have hL6 := HL.out.on H6.out
  obtain ⟨c0, c1, c2, c3, c4⟩ := i6.all
  obtain ⟨d0, d1', d2, d3, d4⟩ := j6.all
  obtain ⟨e0, e1, e2, e3, e4⟩ := k6.all
  have G6 := Lib.hid i6.lt
  clear i6 j6 k6
  go_wp2_with fail
  refine (isa_Text op d a b imm w6 hL6).mono ?_
  rintro e w7 ⟨rfl, hb7⟩
  rw [← HT.out]
  have H7 := Lib.hid (H6.out.trans (hb7.mono (Nat.le_of_lt G6.out)))
  clear c0 c1 c2 c3 c4 d0 d1' d2 d3 d4 e0 e1 e2 e3 e4 hb7
  go_wp2_with fail
  go_ret
  exact ⟨rfl, H7.out⟩

theorem is_at (op d a b imm n : Int) (s : List UInt8) (hg : S.good ⟨op, d, a, b, imm⟩ = true) (hn : S.enc ⟨op, d, a, b, imm⟩ = n) (hs : S.text ⟨op, d, a, b, imm⟩ = s) (w : World) (hL : LV w) :
    Calls Tryd.prog 27 #[.agg #[.int .i64 op, .int .i64 d, .int .i64 a, .int .i64 b, .int .i64 imm], .int .u32 n, .string ⟨s.toArray⟩] w fun e w' => e = .returned (.bool true) ∧ Below w.heap.size w w' := by
  subst hn hs
  exact isa_is op d a b imm hg w hL

set_option maxRecDepth 100000 in
theorem isa_awake (w : World) (hL : LV w) : Calls Tryd.prog 17 #[] w fun e w' => e = .returned (.bool true) ∧ Below w.heap.size w w' := by
  have HL := Lib.hid hL
  go_enter Tryd.func17, Tryd.ntmps17
  go_wp2_with fail
  refine (is_at 1 1 2 3 0 69343232 [97, 100, 100, 32, 114, 49, 32, 114, 50, 32, 114, 51] (by kernel_rfl) (by kernel_rfl) (by kernel_rfl) w HL.out).mono ?_
  rintro e w2 ⟨rfl, hb2⟩
  have HB := Lib.hid hb2
  clear hb2
  go_wp2_with fail
  refine (is_at 32 31 0 0 (-1) 2214592511 [106, 97, 108, 32, 114, 51, 49, 32, 45, 49] (by kernel_rfl) (by kernel_rfl) (by kernel_rfl) w2 (HL.out.on HB.out)).mono ?_
  rintro e w3 ⟨rfl, hb3⟩
  have HB3 := Lib.hid (HB.out.trans (hb3.mono HB.out.size))
  clear hb3
  go_wp2_with fail
  go_ret
  exact ⟨rfl, HB3.out⟩

set_option maxRecDepth 100000 in
theorem isa_no (n : Int) (h0 : 0 ≤ n) (h1 : n ≤ 4294967295) (hd : S.dec n = ⟨0, 0, 0, 0, 0⟩) (he : S.decE n = 11) (w : World) : Calls Tryd.prog 28 #[.int .u32 n] w fun e w' => e = .returned (.bool true) ∧ Below w.heap.size w w' := by
  go_enter Tryd.func28, Tryd.ntmps28
  go_wp2_with fail
  refine (isa_Decode n w h0 h1).mono ?_
  rintro e w2 ⟨rfl, hb2⟩
  rw [hd, he]
  have HB := Lib.hid hb2
  clear hb2 hd he
  go_upto_region 2 with fail
  obtain ⟨y1, y2, y3⟩ := one_allocN w2 #[.int .i64 0, .int .i64 0, .int .i64 0, .int .i64 0, .int .i64 0] 27
  have i0 : InstAt w2.heap.size ⟨0, 0, 0, 0, 0⟩ (w2.alloc (.cells #[.int .i64 0, .int .i64 0, .int .i64 0, .int .i64 0, .int .i64 0] 27)) := y1
  have HB3 := Lib.hid (HB.out.trans (y2.mono HB.out.size))
  generalize w2.alloc (.cells #[.int .i64 0, .int .i64 0, .int .i64 0, .int .i64 0, .int .i64 0] 27) = w3 at *
  obtain ⟨c0, c1, c2, c3, c4⟩ := i0.all
  clear i0 y1 y2 y3
  go_wp2_with fail
  go_ret
  exact ⟨rfl, HB3.out⟩

set_option maxRecDepth 100000 in
theorem isa_never (op d a b imm : Int) (hg : S.good ⟨op, d, a, b, imm⟩ = false) (w : World) (hL : LV w) :
    Calls Tryd.prog 29 #[.agg #[.int .i64 op, .int .i64 d, .int .i64 a, .int .i64 b, .int .i64 imm]] w fun e w' => e = .returned (.bool true) ∧ Below w.heap.size w w' := by
  have HL := Lib.hid hL
  have HC := Lib.hid (chk_bad hg)
  have HW := Lib.hid (wordOf_bad hg)
  have HT := Lib.hid (show S.text ⟨op, d, a, b, imm⟩ = [63] by unfold S.text; rw [if_neg (by rw [hg]; simp)])
  clear hg hL
  go_enter Tryd.func29, Tryd.ntmps29
  go_upto_region 1 with fail
  obtain ⟨x1, x2, x3⟩ := one_allocN w #[.int .i64 op, .int .i64 d, .int .i64 a, .int .i64 b, .int .i64 imm] 27
  have i0 : InstAt w.heap.size ⟨op, d, a, b, imm⟩ (w.alloc (.cells #[.int .i64 op, .int .i64 d, .int .i64 a, .int .i64 b, .int .i64 imm] 27)) := x1
  generalize w.alloc (.cells #[.int .i64 op, .int .i64 d, .int .i64 a, .int .i64 b, .int .i64 imm] 27) = w1 at *
  clear x1 x3
  obtain ⟨c0, c1, c2, c3, c4⟩ := i0.all
  go_wp2_with fail
  refine (isa_Encode_any op d a b imm w1).mono ?_
  rintro e w2 ⟨rfl, hb2⟩
  rw [HC.out, HW.out]
  have i2 := i0.keep hb2
  have H2 := Lib.hid (x2.trans (hb2.mono (Nat.le_of_lt i0.lt)))
  clear c0 c1 c2 c3 c4 i0 x2 hb2
  obtain ⟨c0, c1, c2, c3, c4⟩ := i2.all
  go_wp2_with fail
  refine (isa_Check op d a b imm w2).mono ?_
  rintro e w3 ⟨rfl, hb3⟩
  rw [HC.out]
  have i3 := i2.keep hb3
  have H3 := Lib.hid (H2.out.trans (hb3.mono (Nat.le_of_lt i2.lt)))
  clear c0 c1 c2 c3 c4 i2 hb3
  obtain ⟨c0, c1, c2, c3, c4⟩ := i3.all
  have G3 := Lib.hid i3.lt
  go_wp2_with fail
  refine (isa_Text op d a b imm w3 (HL.out.on H3.out)).mono ?_
  rintro e w4 ⟨rfl, hb4⟩
  rw [HT.out]
  have H4 := Lib.hid (H3.out.trans (hb4.mono (Nat.le_of_lt G3.out)))
  clear c0 c1 c2 c3 c4 i3 hb4
  go_wp2_with fail
  go_ret
  exact ⟨rfl, H4.out⟩

end Go.Proofs.YtjhchgbeglhoaaaDoor
