/- The laws IsaKnown, IsaBack: walks. -/
import Derived.Test.YtjhchgbeglhoaaaDoorILawB
set_option linter.unusedVariables false
set_option linter.unusedSimpArgs false
set_option linter.unusedSectionVars false
namespace Go.Proofs.YtjhchgbeglhoaaaDoor
open Go.RowKit

theorem parse_at_no (s : List UInt8) (w : World) (hL : LV w) (hs : s.length ≤ 1000) (hp : S.parse S.numR S.numI s = (⟨0, 0, 0, 0, 0⟩, 11)) : Calls Tryd.prog 25 #[.string ⟨s.toArray⟩] w fun e w' =>
    e = .returned (.tuple #[.agg #[.int .i64 0, .int .i64 0, .int .i64 0, .int .i64 0, .int .i64 0], .int .i64 11]) ∧ Below w.heap.size w w' := by
  refine (isa_Parse ⟨s.toArray⟩ hs w hL).mono ?_
  rintro e w' ⟨rfl, hb⟩
  refine ⟨?_, hb⟩
  rw [show ByteArray.data ⟨s.toArray⟩ = s.toArray from rfl, List.toList_toArray, hp]
  rfl
theorem no_at (n : Int) (h0 : 0 ≤ n) (h1 : n ≤ 4294967295) (hd : S.decB n = false) (w : World) : Calls Tryd.prog 28 #[.int .u32 n] w fun e w' => e = .returned (.bool true) ∧ Below w.heap.size w w' :=
  isa_no n h0 h1 (dec_bad hd).1 (dec_bad hd).2 w

set_option maxRecDepth 100000 in
set_option maxHeartbeats 2000000 in
theorem law_IsaKnown (w : World) (hL : LV w) : Calls Tryd.prog 7 #[] w fun e w' => e = .returned (.bool true) ∧ Below w.heap.size w w' := by
  have HL := Lib.hid hL
  go_enter Tryd.func7, Tryd.ntmps7
  go_wp2_with fail
  refine (parse_at_no [97, 100, 100, 32, 114, 49, 32, 114, 50] w HL.out (by decide) (by kernel_rfl)).mono ?_
  rintro e w1 ⟨rfl, hb1⟩
  have H1 := Lib.hid hb1
  clear hb1
  go_upto_region 2 with fail
  obtain ⟨_, y2⟩ := inst_box w1 ⟨0, 0, 0, 0, 0⟩
  have H2 := Lib.hid (H1.out.trans (y2.mono H1.out.size))
  generalize w1.alloc (.cells #[.int .i64 0, .int .i64 0, .int .i64 0, .int .i64 0, .int .i64 0] 27) = w2 at *
  clear y2
  go_wp2_with fail
  refine (parse_at_no [97, 100, 100, 105, 32, 114, 49, 32, 114, 50, 32, 48, 53] w2 (HL.out.on H2.out) (by decide) (by kernel_rfl)).mono ?_
  rintro e w3 ⟨rfl, hb3⟩
  have H3 := Lib.hid (H2.out.trans (hb3.mono H2.out.size))
  clear hb3
  go_upto_region 3 with fail
  obtain ⟨_, y2⟩ := inst_box w3 ⟨0, 0, 0, 0, 0⟩
  have H4 := Lib.hid (H3.out.trans (y2.mono H3.out.size))
  generalize w3.alloc (.cells #[.int .i64 0, .int .i64 0, .int .i64 0, .int .i64 0, .int .i64 0] 27) = w4 at *
  clear y2
  go_wp2_with fail
  refine (parse_at_no [] w4 (HL.out.on H4.out) (by decide) (by kernel_rfl)).mono ?_
  rintro e w5 ⟨rfl, hb5⟩
  have H5 := Lib.hid (H4.out.trans (hb5.mono H4.out.size))
  clear hb5
  go_upto_region 4 with fail
  obtain ⟨_, y2⟩ := inst_box w5 ⟨0, 0, 0, 0, 0⟩
  have K0 := Lib.hid (H5.out.trans (y2.mono H5.out.size))
  generalize w5.alloc (.cells #[.int .i64 0, .int .i64 0, .int .i64 0, .int .i64 0, .int .i64 0] 27) = v0 at *
  clear y2
  try simp only [List.append_eq, List.cons_append, List.nil_append]
  go_wp2_with fail
  refine (isa_awake v0 (HL.out.on K0.out)).mono ?_
  rintro e v1 ⟨rfl, hb⟩
  have K1 := Lib.hid (K0.out.trans (hb.mono K0.out.size))
  clear hb
  go_wp2_with fail
  refine (is_at 15 1 2 0 (-5) 1008926715 [97, 100, 100, 105, 32, 114, 49, 32, 114, 50, 32, 45, 53] (by kernel_rfl) (by kernel_rfl) (by kernel_rfl) v1 (HL.out.on K1.out)).mono ?_
  rintro e v2 ⟨rfl, hb⟩
  have K2 := Lib.hid (K1.out.trans (hb.mono K1.out.size))
  clear hb
  go_wp2_with fail
  refine (is_at 25 0 2 3 4 1682112516 [115, 119, 32, 114, 50, 32, 114, 51, 32, 52] (by kernel_rfl) (by kernel_rfl) (by kernel_rfl) v2 (HL.out.on K2.out)).mono ?_
  rintro e v3 ⟨rfl, hb⟩
  have K3 := Lib.hid (K2.out.trans (hb.mono K2.out.size))
  clear hb
  go_wp2_with fail
  refine (is_at 36 0 4 0 0 2424307712 [104, 97, 108, 116, 32, 114, 52] (by kernel_rfl) (by kernel_rfl) (by kernel_rfl) v3 (HL.out.on K3.out)).mono ?_
  rintro e v4 ⟨rfl, hb⟩
  have K4 := Lib.hid (K3.out.trans (hb.mono K3.out.size))
  clear hb
  go_wp2_with fail
  refine (no_at 0 (by decide) (by decide) (by kernel_rfl) v4).mono ?_
  rintro e v5 ⟨rfl, hb⟩
  have K5 := Lib.hid (K4.out.trans (hb.mono K4.out.size))
  clear hb
  go_wp2_with fail
  refine (no_at 2483027968 (by decide) (by decide) (by kernel_rfl) v5).mono ?_
  rintro e v6 ⟨rfl, hb⟩
  have K6 := Lib.hid (K5.out.trans (hb.mono K5.out.size))
  clear hb
  go_wp2_with fail
  refine (no_at 69343233 (by decide) (by decide) (by kernel_rfl) v6).mono ?_
  rintro e v7 ⟨rfl, hb⟩
  have K7 := Lib.hid (K6.out.trans (hb.mono K6.out.size))
  clear hb
  go_wp2_with fail
  refine (isa_never 1 0 0 0 1 (by kernel_rfl) v7 (HL.out.on K7.out)).mono ?_
  rintro e v8 ⟨rfl, hb⟩
  have K8 := Lib.hid (K7.out.trans (hb.mono K7.out.size))
  clear hb
  go_wp2_with fail
  refine (isa_never 19 0 0 0 32 (by kernel_rfl) v8 (HL.out.on K8.out)).mono ?_
  rintro e v9 ⟨rfl, hb⟩
  have K9 := Lib.hid (K8.out.trans (hb.mono K8.out.size))
  clear hb
  go_wp2_with fail
  refine (isa_never 0 0 0 0 0 (by kernel_rfl) v9 (HL.out.on K9.out)).mono ?_
  rintro e v10 ⟨rfl, hb⟩
  have K10 := Lib.hid (K9.out.trans (hb.mono K9.out.size))
  clear hb
  go_wp2_with fail
  refine (isa_never 37 0 0 0 0 (by kernel_rfl) v10 (HL.out.on K10.out)).mono ?_
  rintro e v11 ⟨rfl, hb⟩
  have K11 := Lib.hid (K10.out.trans (hb.mono K10.out.size))
  clear hb
  go_wp2_with fail
  go_ret
  exact ⟨rfl, K11.out⟩

set_option maxRecDepth 100000 in
set_option maxHeartbeats 2000000 in
/-- What follows the word's half of IsaBack. -/
theorem law_IsaBack (n : Int) (h0 : 0 ≤ n) (h1 : n ≤ 4294967295) (s : ByteArray) (w : World) (hL : LV w) : Calls Tryd.prog 9 #[.int .u32 n, .string s] w fun e w' => e = .returned (.bool true) ∧ Below w.heap.size w w' := by
  have HL := Lib.hid hL
  clear hL
  go_enter Tryd.func9, Tryd.ntmps9
  go_wp2_with fail
  refine (isa_Decode n w h0 h1).mono ?_
  rintro e w2 ⟨rfl, hb2⟩
  have H2 := Lib.hid hb2
  clear hb2
  obtain ⟨X, hX⟩ : ∃ X, X = S.dec n := ⟨_, rfl⟩
  obtain ⟨k, hk⟩ : ∃ k, k = S.decE n := ⟨_, rfl⟩
  have hw : (S.good X = true ∧ S.enc X = n ∧ k = 0) ∨ (X = ⟨0, 0, 0, 0, 0⟩ ∧ k = 11) := by
    cases hB : S.decB n
    · exact .inr ⟨hX.trans (dec_bad hB).1, hk.trans (dec_bad hB).2⟩
    · exact .inl ⟨by rw [hX]; exact (dec_good hB).1, by rw [hX]; exact (dec_good hB).2.1, hk.trans (dec_good hB).2.2⟩
  rw [← hX, ← hk]
  clear hX hk
  obtain ⟨op, d, a, b, imm⟩ := X
  simp only
  go_upto_region 2 with fail
  obtain ⟨i3, y2⟩ := inst_box w2 ⟨op, d, a, b, imm⟩
  have H3 := Lib.hid (H2.out.trans (y2.mono H2.out.size))
  generalize w2.alloc (.cells #[.int .i64 op, .int .i64 d, .int .i64 a, .int .i64 b, .int .i64 imm] 27) = w3 at *
  obtain ⟨g3, hg3⟩ : ∃ g, g = w2.heap.size := ⟨_, rfl⟩
  rw [← hg3] at i3 ⊢
  clear y2 hg3
  have HW := Lib.hid hw
  clear hw
  go_upto_if 17 with fail
  go_cut [4] (fun v wc => v = .bool false ∧ Below w.heap.size w wc)
  case first =>
    obtain ⟨c0, c1, c2, c3, c4⟩ := i3.all
    rcases HW.out with ⟨hg, hn, rfl⟩ | ⟨hz, rfl⟩
    · have HG := Lib.hid hg
      have HN := Lib.hid hn
      clear hg hn
      go_wp2_with fail
      refine (isa_Encode_any op d a b imm w3).mono ?_
      rintro e w4 ⟨rfl, hb4⟩
      rw [chk_good HG.out, wordOf_good HG.out, HN.out]
      have H4 := Lib.hid (H3.out.trans (hb4.mono H3.out.size))
      clear hb4 c0 c1 c2 c3 c4
      go_wp2_with fail
      go_meet
      case rel => exact ⟨rfl, H4.out⟩
    · obtain ⟨rfl, rfl, rfl, rfl, rfl⟩ := S.Inst.mk.inj hz
      clear hz
      go_wp2_with fail
      go_meet
      case rel => exact ⟨rfl, H3.out⟩
  case rest =>
    obtain ⟨rfl, hbc⟩ := hcut
    have HC := Lib.hid hbc
    clear hbc i3 HW
    by_cases hs : (1000 : Int) < s.size
    · go_wp2_with fail
      refine (isa_awake wc (HL.out.on HC.out)).mono ?_
      rintro e w5 ⟨rfl, hb5⟩
      go_wp2_with fail
      go_ret
      exact ⟨rfl, HC.out.trans (hb5.mono HC.out.size)⟩
    · have hs' : s.size ≤ 1000 := by omega
      go_wp2_with fail
      refine (isa_Parse s hs' wc (HL.out.on HC.out)).mono ?_
      rintro e w5 ⟨rfl, hb5⟩
      have H5 := Lib.hid (HC.out.trans (hb5.mono HC.out.size))
      clear hb5
      obtain ⟨P, hP⟩ : ∃ v, v = S.parse S.numR S.numI s.data.toList := ⟨_, rfl⟩
      have hc := parse_cases S.numR S.numI nums_isa s.data.toList
      rw [← hP] at hc ⊢
      clear hP
      have hc2 : (P = (⟨0, 0, 0, 0, 0⟩, 11)) ∨ (∃ x, S.good x = true ∧ S.text x = s.data.toList ∧ P = (x, 0)) := by
        rcases hc with hc | hc
        · exact .inl hc.1
        · exact .inr hc
      clear hc
      rcases hc2 with rfl | ⟨⟨op, d, a, b, imm⟩, hg, ht, rfl⟩
      · simp only [instV]
        go_upto_region 11 with fail
        obtain ⟨i6, y2⟩ := inst_box w5 ⟨0, 0, 0, 0, 0⟩
        have H6 := Lib.hid (H5.out.trans (y2.mono H5.out.size))
        generalize w5.alloc (.cells #[.int .i64 0, .int .i64 0, .int .i64 0, .int .i64 0, .int .i64 0] 27) = w6 at *
        obtain ⟨c0, c1, c2, c3, c4⟩ := i6.all
        clear y2 i6
        go_wp2_with fail
        refine (isa_awake w6 (HL.out.on H6.out)).mono ?_
        rintro e w7 ⟨rfl, hb7⟩
        have H7 := Lib.hid (H6.out.trans (hb7.mono H6.out.size))
        clear hb7 c0 c1 c2 c3 c4
        go_wp2_with fail
        go_ret
        exact ⟨rfl, H7.out⟩
      · have HG := Lib.hid hg
        have HT := Lib.hid (show s.toList = S.text ⟨op, d, a, b, imm⟩ by rw [ByteArray.toList_eq, ht])
        clear hg ht
        simp only [instV]
        go_upto_region 11 with fail
        obtain ⟨i6, y2⟩ := inst_box w5 ⟨op, d, a, b, imm⟩
        have H6 := Lib.hid (H5.out.trans (y2.mono H5.out.size))
        generalize w5.alloc (.cells #[.int .i64 op, .int .i64 d, .int .i64 a, .int .i64 b, .int .i64 imm] 27) = w6 at *
        obtain ⟨g6, hg6⟩ : ∃ g, g = w5.heap.size := ⟨_, rfl⟩
        rw [← hg6] at i6 ⊢
        obtain ⟨c0, c1, c2, c3, c4⟩ := i6.all
        clear y2 hg6
        go_wp2_with fail
        refine (isa_Text op d a b imm w6 (HL.out.on H6.out)).mono ?_
        rintro e w7 ⟨rfl, hb7⟩
        have i7 := i6.keep hb7
        have H7 := Lib.hid (H6.out.trans (hb7.mono H6.out.size))
        clear hb7 c0 c1 c2 c3 c4 i6
        obtain ⟨c0, c1, c2, c3, c4⟩ := i7.all
        have hTT := HT.out
        generalize S.text ⟨op, d, a, b, imm⟩ = T at *
        go_wp2_with fail
        refine (isa_Check op d a b imm w7).mono ?_
        rintro e w8 ⟨rfl, hb8⟩
        rw [chk_good HG.out]
        have H8 := Lib.hid (H7.out.trans (hb8.mono H7.out.size))
        clear hb8 c0 c1 c2 c3 c4 i7
        go_wp2_with fail
        refine (isa_awake w8 (HL.out.on H8.out)).mono ?_
        rintro e w9 ⟨rfl, hb9⟩
        have H9 := Lib.hid (H8.out.trans (hb9.mono H8.out.size))
        clear hb9
        go_wp2_with fail
        go_ret
        exact ⟨rfl, H9.out⟩

end Go.Proofs.YtjhchgbeglhoaaaDoor
