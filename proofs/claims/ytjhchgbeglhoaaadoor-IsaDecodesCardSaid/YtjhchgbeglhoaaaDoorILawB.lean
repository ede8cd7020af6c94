/- The laws IsaOps, IsaDecodes, IsaTexts: walks. -/
import Derived.Test.YtjhchgbeglhoaaaDoorILawA
set_option linter.unusedVariables false
set_option linter.unusedSimpArgs false
set_option linter.unusedSectionVars false
namespace Go.Proofs.YtjhchgbeglhoaaaDoor
open Go.RowKit

set_option maxRecDepth 100000 in
set_option maxHeartbeats 1000000 in
theorem law_IsaOps (op : Int) (w : World) (hL : LV w) : Calls Tryd.prog 3 #[.int .i64 op] w fun e w' => e = .returned (.bool true) ∧ Below w.heap.size w w' := by
  have HL := Lib.hid hL
  clear hL
  go_enter Tryd.func3, Tryd.ntmps3
  go_wp2_with fail
  refine (isa_Form op w).mono ?_
  rintro e wx ⟨rfl, rfl⟩
  go_wp2_with fail
  refine (ref_Form op w).mono ?_
  rintro e wx ⟨rfl, rfl⟩
  go_wp2_with fail
  refine (isa_Name op w).mono ?_
  rintro e w2 ⟨rfl, hb2⟩
  have HB := Lib.hid hb2
  clear hb2
  go_wp2_with fail
  refine (ref_Name op w2).mono ?_
  rintro e wx ⟨rfl, rfl⟩
  go_wp2_with fail
  refine (isa_Signed op w2).mono ?_
  rintro e wx ⟨rfl, rfl⟩
  go_wp2_with fail
  refine (ref_Least op w2).mono ?_
  rintro e wx ⟨rfl, rfl⟩
  go_wp2_with fail
  refine (isa_awake w2 (HL.out.on HB.out)).mono ?_
  rintro e w3 ⟨rfl, hb3⟩
  have HB3 := Lib.hid (HB.out.trans (hb3.mono HB.out.size))
  clear hb3
  go_wp2_with fail
  go_ret
  exact ⟨rfl, HB3.out⟩

theorem inst_box (w : World) (x : S.Inst) : InstAt w.heap.size x (w.alloc (.cells #[.int .i64 x.op, .int .i64 x.d, .int .i64 x.a, .int .i64 x.b, .int .i64 x.imm] 27)) ∧ Below w.heap.size w (w.alloc (.cells #[.int .i64 x.op, .int .i64 x.d, .int .i64 x.a, .int .i64 x.b, .int .i64 x.imm] 27)) :=
  ⟨(one_allocN w _ _).1, (one_allocN w _ _).2.1⟩

set_option maxRecDepth 100000 in
set_option maxHeartbeats 1000000 in
theorem law_IsaDecodes (n : Int) (h0 : 0 ≤ n) (h1 : n ≤ 4294967295) (w : World) (hL : LV w) : Calls Tryd.prog 5 #[.int .u32 n] w fun e w' => e = .returned (.bool true) ∧ Below w.heap.size w w' := by
  have HL := Lib.hid hL
  clear hL
  go_enter Tryd.func5, Tryd.ntmps5
  go_wp2_with fail
  refine (isa_Decode n w h0 h1).mono ?_
  rintro e w2 ⟨rfl, hb2⟩
  have HB2 := Lib.hid hb2
  clear hb2
  obtain ⟨op, hop⟩ : ∃ v, v = (S.dec n).op := ⟨_, rfl⟩
  obtain ⟨d, hd⟩ : ∃ v, v = (S.dec n).d := ⟨_, rfl⟩
  obtain ⟨a, ha⟩ : ∃ v, v = (S.dec n).a := ⟨_, rfl⟩
  obtain ⟨b, hb⟩ : ∃ v, v = (S.dec n).b := ⟨_, rfl⟩
  obtain ⟨imm, hi⟩ : ∃ v, v = (S.dec n).imm := ⟨_, rfl⟩
  obtain ⟨k, hk⟩ : ∃ v, v = S.decE n := ⟨_, rfl⟩
  rw [← hop, ← hd, ← ha, ← hb, ← hi, ← hk]
  have HE := Lib.hid (And.intro hop (And.intro hd (And.intro ha (And.intro hb (And.intro hi hk)))))
  clear hop hd ha hb hi hk
  go_upto_region 2 with fail
  obtain ⟨i3, y2⟩ := inst_box w2 ⟨op, d, a, b, imm⟩
  have H3 := Lib.hid (HB2.out.trans (y2.mono HB2.out.size))
  generalize w2.alloc (.cells #[.int .i64 op, .int .i64 d, .int .i64 a, .int .i64 b, .int .i64 imm] 27) = w3 at *
  obtain ⟨g3, hg3⟩ : ∃ g, g = w2.heap.size := ⟨_, rfl⟩
  rw [← hg3] at i3 ⊢
  clear y2 hg3
  go_wp2_with fail
  refine (ref_Decode n w3 h0 h1).mono ?_
  rintro e w4 ⟨rfl, hb4⟩
  obtain ⟨hop, hd, ha, hb, hi, hk⟩ := HE.out
  rw [← hop, ← hd, ← ha, ← hb, ← hi, ← hk]
  clear hop hd ha hb hi hk
  have i4 := i3.keep hb4
  have H4 := Lib.hid (H3.out.trans (hb4.mono H3.out.size))
  clear i3 hb4
  go_upto_region 3 with fail
  obtain ⟨j5, y2⟩ := inst_box w4 ⟨op, d, a, b, imm⟩
  have i5 := i4.keep y2
  have H5 := Lib.hid (H4.out.trans (y2.mono H4.out.size))
  generalize w4.alloc (.cells #[.int .i64 op, .int .i64 d, .int .i64 a, .int .i64 b, .int .i64 imm] 27) = w5 at *
  obtain ⟨g5, hg5⟩ : ∃ g, g = w4.heap.size := ⟨_, rfl⟩
  rw [← hg5] at j5 ⊢
  clear y2 hg5 i4
  obtain ⟨c0, c1, c2, c3, c4⟩ := i5.all
  obtain ⟨d0, d1, d2, d3, d4⟩ := j5.all
  clear i5 j5
  go_wp2_with fail
  refine (isa_awake w5 (HL.out.on H5.out)).mono ?_
  rintro e w6 ⟨rfl, hb6⟩
  have H6 := Lib.hid (H5.out.trans (hb6.mono H5.out.size))
  clear hb6 c0 c1 c2 c3 c4 d0 d1 d2 d3 d4
  go_wp2_with fail
  go_ret
  exact ⟨rfl, H6.out⟩

set_option maxRecDepth 100000 in
set_option maxHeartbeats 1000000 in
theorem law_IsaTexts (s : ByteArray) (w : World) (hL : LV w) : Calls Tryd.prog 6 #[.string s] w fun e w' => e = .returned (.bool true) ∧ Below w.heap.size w w' := by
  have HL := Lib.hid hL
  by_cases hs : (1000 : Int) < s.size
  · go_enter Tryd.func6, Tryd.ntmps6
    go_wp2_with fail
    refine (isa_awake w HL.out).mono ?_
    rintro e w2 ⟨rfl, hb2⟩
    go_wp2_with fail
    go_ret
    exact ⟨rfl, hb2⟩
  · have hs' : s.size ≤ 1000 := by omega
    clear hL
    go_enter Tryd.func6, Tryd.ntmps6
    go_wp2_with fail
    refine (isa_Parse s hs' w HL.out).mono ?_
    rintro e w2 ⟨rfl, hb2⟩
    have HB2 := Lib.hid hb2
    clear hb2
    obtain ⟨P, hP⟩ : ∃ v, v = S.parse S.numR S.numI s.data.toList := ⟨_, rfl⟩
    rw [← hP]
    have HP := Lib.hid (hP.trans (parse_alike s.data.toList))
    clear hP
    obtain ⟨⟨op, d, a, b, imm⟩, k⟩ := P
    simp only [instV]
    go_upto_region 4 with fail
    obtain ⟨i3, y2⟩ := inst_box w2 ⟨op, d, a, b, imm⟩
    have H3 := Lib.hid (HB2.out.trans (y2.mono HB2.out.size))
    generalize w2.alloc (.cells #[.int .i64 op, .int .i64 d, .int .i64 a, .int .i64 b, .int .i64 imm] 27) = w3 at *
    obtain ⟨g3, hg3⟩ : ∃ g, g = w2.heap.size := ⟨_, rfl⟩
    rw [← hg3] at i3 ⊢
    clear y2 hg3
    go_wp2_with fail
    refine (ref_Parse s hs' w3).mono ?_
    rintro e w4 ⟨rfl, hb4⟩
    rw [← HP.out]
    simp only [instV]
    have i4 := i3.keep hb4
    have H4 := Lib.hid (H3.out.trans (hb4.mono H3.out.size))
    clear i3 hb4
    go_upto_region 5 with fail
    obtain ⟨j5, y2⟩ := inst_box w4 ⟨op, d, a, b, imm⟩
    have i5 := i4.keep y2
    have H5 := Lib.hid (H4.out.trans (y2.mono H4.out.size))
    generalize w4.alloc (.cells #[.int .i64 op, .int .i64 d, .int .i64 a, .int .i64 b, .int .i64 imm] 27) = w5 at *
    obtain ⟨g5, hg5⟩ : ∃ g, g = w4.heap.size := ⟨_, rfl⟩
    rw [← hg5] at j5 ⊢
    clear y2 hg5 i4
    obtain ⟨c0, c1, c2, c3, c4⟩ := i5.all
    obtain ⟨d0, d1, d2, d3, d4⟩ := j5.all
    clear i5 j5
    go_wp2_with fail
    refine (isa_awake w5 (HL.out.on H5.out)).mono ?_
    rintro e w6 ⟨rfl, hb6⟩
    have H6 := Lib.hid (H5.out.trans (hb6.mono H5.out.size))
    clear hb6 c0 c1 c2 c3 c4 d0 d1 d2 d3 d4
    go_wp2_with fail
    go_ret
    exact ⟨rfl, H6.out⟩

end Go.Proofs.YtjhchgbeglhoaaaDoor
