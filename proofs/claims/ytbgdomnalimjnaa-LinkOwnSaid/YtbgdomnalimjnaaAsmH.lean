/- Walk of pennantref03.Words. -/
import Derived.Test.YtbgdomnalimjnaaAsmC
import Derived.Test.YtbgdomnalimjnaaOwnB
set_option linter.unusedVariables false
set_option linter.unusedSimpArgs false
set_option linter.unusedSectionVars false
namespace Go.Proofs.Ytbgdomnalimjnaa
open Go.RowKit

theorem u32_info : (Try.prog.info? 34).map (fun i => (i.zero, i.size, i.bytes)) = some (some (.int .u32 0), 1, 4) := by kernel_rfl

/-- What a function that tells words leaves: a list of words of its own. -/
def Told (w : World) (L : List Int) (e : Ending) (w' : World) : Prop :=
  ∃ v, e = .returned v ∧ w'.ownsRow w.heap.size 34 1 v L.length (L.map (Value.int .u32)) ∧ Below w.heap.size w w'
theorem told_lit {w w1 : World} {L : List Int} {cs : Array Value} {n : Nat} (hn : n = L.length) (hb : Below w.heap.size w w1) (hcs : cs = (L.map (Value.int .u32)).toArray) (h : L.length ≤ 1000) :
    Told w L (.returned (.slice (some ⟨w1.heap.size, 0, none⟩) n n)) (w1.alloc (.cells cs 34)) := by
  subst hcs hn
  refine ⟨_, rfl, ?_, hb.alloc hb.size _⟩
  have h1 := World.ownsRow_lit (base := w.heap.size) (size := 1) (e := 34) w1 (L.map (Value.int .u32)).toArray L.length hb.size (by simp only [maxLen]; omega) (by simp)
  simpa using h1

set_option maxRecDepth 100000 in
set_option maxHeartbeats 8000000 in
theorem ref_Words (k op d a b imm : Int) (lab : ByteArray) (wd form at_ tg : Int) (w : World)
    (h3 : k = 3 → 1 ≤ form ∧ form ≤ 3) (h4 : k = 4 → 1 ≤ form ∧ form ≤ 2) (h8 : k = 8 → wd ≤ 67108864) (hw0 : 0 ≤ wd) (hw1 : wd ≤ 4294967295) (ht0 : 0 ≤ tg) (ht1 : tg ≤ 67108864) (ha0 : 0 ≤ at_) (ha1 : at_ ≤ 67108864) :
    Calls Try.prog 94 #[.agg #[.int .i64 k, .int .i64 op, .int .i64 d, .int .i64 a, .int .i64 b, .int .i64 imm, .string lab, .int .u32 wd], .int .i64 form, .int .i64 at_, .int .i64 tg] w
      (Told w (S.wordsOf ⟨k, ⟨op, d, a, b, imm⟩, lab, wd⟩ form at_ tg)) := by
  have hL : S.wordOf ⟨23, 25, 0, 0, tg / 65536⟩ = S.lui tg := rfl
  have hO : S.wordOf ⟨17, 25, 25, 0, tg % 65536⟩ = S.ori tg := rfl
  have HL := Lib.hid hL
  have HO := Lib.hid hO
  clear hL hO
  go_enter Try.func94, Try.ntmps94
  go_wp2_with fail
  refine (ref_word _ _ _ _ _ _).mono ?_
  rintro e w1 ⟨rfl, hb1⟩
  obtain ⟨hc1, hf1⟩ := bcell hb1
  have hz1 := hb1.size
  rw [HL.out]
  go_wp2_with fail
  refine (ref_word _ _ _ _ _ _).mono ?_
  rintro e w2 ⟨rfl, hb2⟩
  obtain ⟨hc2, hf2⟩ := bcell hb2
  have hz2 := hb2.size
  rw [HO.out]
  have hX0 : w2.cell? ⟨w.heap.size, 0, none⟩ = some (.int .i64 k) := by rw [hc2 _ _ (by simp at hz1; omega), hc1 _ _ (by simp)]; exact cell_row_new _ _ _ _
  have hX1 : w2.cell? ⟨w.heap.size, 1, none⟩ = some (.int .i64 op) := by rw [hc2 _ _ (by simp at hz1; omega), hc1 _ _ (by simp)]; exact cell_row_new _ _ _ _
  have hX2 : w2.cell? ⟨w.heap.size, 2, none⟩ = some (.int .i64 d) := by rw [hc2 _ _ (by simp at hz1; omega), hc1 _ _ (by simp)]; exact cell_row_new _ _ _ _
  have hX3 : w2.cell? ⟨w.heap.size, 3, none⟩ = some (.int .i64 a) := by rw [hc2 _ _ (by simp at hz1; omega), hc1 _ _ (by simp)]; exact cell_row_new _ _ _ _
  have hX4 : w2.cell? ⟨w.heap.size, 4, none⟩ = some (.int .i64 b) := by rw [hc2 _ _ (by simp at hz1; omega), hc1 _ _ (by simp)]; exact cell_row_new _ _ _ _
  have hX5 : w2.cell? ⟨w.heap.size, 5, none⟩ = some (.int .i64 imm) := by rw [hc2 _ _ (by simp at hz1; omega), hc1 _ _ (by simp)]; exact cell_row_new _ _ _ _
  have hX7 : w2.cell? ⟨w.heap.size, 7, none⟩ = some (.int .u32 wd) := by rw [hc2 _ _ (by simp at hz1; omega), hc1 _ _ (by simp)]; exact cell_row_new _ _ _ _
  have hbw : Below w.heap.size w w2 := (((Below.refl _ _).alloc (Nat.le_refl _) _).trans (hb1.mono (by simp))).trans (hb2.mono (by simp at hz1; omega))
  have hzz := hbw.size
  have hlt : w.heap.size < w2.heap.size := by simp at hz1; omega
  clear hc1 hc2 hf1 hf2 hb1 hb2 hz1 hz2
  by_cases c1 : k = 1
  · subst c1
    go_wp2_with fail
    refine (ref_word _ _ _ _ _ _).mono ?_
    rintro e w3 ⟨rfl, hb3⟩
    go_wp2_with fail
    go_ret
    exact told_lit (by simp [S.wordsOf]) (hbw.trans (hb3.mono hzz)) (by simp [S.wordsOf]) (by simp [S.wordsOf])
  have d1 := int_bne c1
  by_cases c3 : k = 3
  · obtain ⟨f1, f2⟩ := h3 c3
    clear h3 h4 h8 c1
    subst c3
    have hf : form = 1 ∨ form = 2 ∨ form = 3 := by omega
    clear f1 f2
    rcases hf with rfl | rfl | rfl
    · go_wp2_with fail
      refine (ref_word _ _ _ _ _ _).mono ?_
      rintro e w3 ⟨rfl, hb3⟩
      go_wp2_with fail
      go_ret
      exact told_lit (by simp [S.wordsOf]) (hbw.trans (hb3.mono hzz)) (by simp [S.wordsOf]) (by simp [S.wordsOf])
    · go_wp2_with fail
      refine wp_region_ext_tail 18 (by kernel_rfl) (by kernel_rfl) ?_
      have hE := ext_cells w2
      simp only [List.take_succ_cons, List.take_zero, List.drop_succ_cons, List.drop_zero]
      repeat (first
        | go_big_quiet_step ((first
          | (go_at_call 119; exact ext_of_same (ref_Turned _ _))
          | (go_at_call 118; exact ext_of (ref_word _ _ _ _ _ _)))))
      refine wpQuiet_nil ?_
      rintro _ ⟨⟨w3, hb3⟩, rfl⟩
      clear hE
      go_wp2_with fail
      go_ret
      exact told_lit (by simp [S.wordsOf]) (hbw.trans (hb3.mono hzz)) (by simp [S.wordsOf]) (by simp [S.wordsOf])
    · go_wp2_with fail
      refine wp_region_ext_tail 16 (by kernel_rfl) (by kernel_rfl) ?_
      have hE := ext_cells w2
      simp only [List.take_succ_cons, List.take_zero, List.drop_succ_cons, List.drop_zero]
      repeat (first
        | go_big_quiet_step ((first
          | (go_at_call 119; exact ext_of_same (ref_Turned _ _))
          | (go_at_call 118; exact ext_of (ref_word _ _ _ _ _ _)))))
      refine wpQuiet_nil ?_
      rintro _ ⟨⟨w3, hb3⟩, rfl⟩
      clear hE
      go_wp2_with fail
      go_ret
      exact told_lit (by simp [S.wordsOf]) (hbw.trans (hb3.mono hzz)) (by simp [S.wordsOf]) (by simp [S.wordsOf])
  have d3 := int_bne c3
  by_cases c4 : k = 4
  · obtain ⟨f1, f2⟩ := h4 c4
    clear h3 h4 h8 c1 c3
    subst c4
    have hf : form = 1 ∨ form = 2 := by omega
    clear f1 f2
    rcases hf with rfl | rfl
    · go_wp2_with fail
      refine (ref_word _ _ _ _ _ _).mono ?_
      rintro e w3 ⟨rfl, hb3⟩
      go_wp2_with fail
      go_ret
      exact told_lit (by simp [S.wordsOf]) (hbw.trans (hb3.mono hzz)) (by simp [S.wordsOf]) (by simp [S.wordsOf])
    · go_wp2_with fail
      refine (ref_word _ _ _ _ _ _).mono ?_
      rintro e w3 ⟨rfl, hb3⟩
      go_wp2_with fail
      go_ret
      exact told_lit (by simp [S.wordsOf]) (hbw.trans (hb3.mono hzz)) (by simp [S.wordsOf]) (by simp [S.wordsOf])
  have d4 := int_bne c4
  clear h3 h4
  by_cases c5 : k = 5
  · clear h8 c1 c3 c4
    subst c5
    · go_wp2_with fail
      refine wp_region_ext_tail 17 (by kernel_rfl) (by kernel_rfl) ?_
      have hE := ext_cells w2
      simp only [List.take_succ_cons, List.take_zero, List.drop_succ_cons, List.drop_zero]
      repeat (first
        | go_big_quiet_step ((first
          | (go_at_call 119; exact ext_of_same (ref_Turned _ _))
          | (go_at_call 118; exact ext_of (ref_word _ _ _ _ _ _)))))
      refine wpQuiet_nil ?_
      rintro _ ⟨⟨w3, hb3⟩, rfl⟩
      clear hE
      go_wp2_with fail
      go_ret
      exact told_lit (by simp [S.wordsOf]) (hbw.trans (hb3.mono hzz)) (by simp [S.wordsOf]) (by simp [S.wordsOf])
  have d5 := int_bne c5
  by_cases c6 : k = 6
  · clear h8 c1 c3 c4 c5
    subst c6
    go_wp2_with fail
    go_ret
    exact told_lit (by simp [S.wordsOf]) hbw (by simp [S.wordsOf]) (by simp [S.wordsOf])
  have d6 := int_bne c6
  by_cases c7 : k = 7
  · clear h8 c1 c3 c4 c5 c6
    subst c7
    go_wp2_with fail
    go_ret
    exact told_lit (by simp [S.wordsOf]) hbw (by simp [S.wordsOf]) (by simp [S.wordsOf])
  have d7 := int_bne c7
  by_cases c8 : k = 8
  · have hwd := h8 c8
    clear h8 c1 c3 c4 c5 c6 c7
    subst c8
    obtain ⟨n, rfl⟩ := Int.eq_ofNat_of_zero_le hw0
    go_wp2_with (refine wpList_makeN rfl (.tmp 172) (.tmp 172) _ rfl w.heap.size 34 u32_info Try.underlying22 rfl .i64 .i64 _ _ n rfl rfl rfl rfl (by omega) (by simp only [maxLen]; omega) hzz ?_
                 intro w3 ho3 hb3)
    go_ret
    refine ⟨_, rfl, ?_, hbw.trans (hb3.mono hzz)⟩
    simpa [S.wordsOf] using ho3
  · have d8 := int_bne c8
    clear h8
    go_wp2_with fail
    go_ret
    refine ⟨_, rfl, ?_, hbw⟩
    simpa [S.wordsOf, c1, c3, c4, c5, c6, c7, c8] using World.ownsRow_nil _ _ _ _

end Go.Proofs.Ytbgdomnalimjnaa
