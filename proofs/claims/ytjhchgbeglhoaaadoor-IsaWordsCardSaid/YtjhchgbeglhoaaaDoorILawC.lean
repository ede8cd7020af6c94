/- The laws IsaWords, IsaOnce, IsaApart: walks. -/
import Derived.Test.YtjhchgbeglhoaaaDoorILawB
import Derived.Test.YtjhchgbeglhoaaaDoorExt
import Derived.Deep.RegionWith
set_option linter.unusedVariables false
set_option linter.unusedSimpArgs false
set_option linter.unusedSectionVars false
namespace Go.Proofs.YtjhchgbeglhoaaaDoor
open Go.RowKit

set_option maxRecDepth 100000 in
set_option maxHeartbeats 2000000 in
theorem law_IsaWords (op d a b imm : Int) (w : World) (hL : LV w) : Calls Tryd.prog 4 #[.agg #[.int .i64 op, .int .i64 d, .int .i64 a, .int .i64 b, .int .i64 imm]] w fun e w' => e = .returned (.bool true) ∧ Below w.heap.size w w' := by
  have HL := Lib.hid hL
  clear hL
  go_enter Tryd.func4, Tryd.ntmps4
  go_upto_region 1 with fail
  obtain ⟨i0, x2⟩ := inst_box w ⟨op, d, a, b, imm⟩
  have H1 := Lib.hid x2
  generalize w.alloc (.cells #[.int .i64 op, .int .i64 d, .int .i64 a, .int .i64 b, .int .i64 imm] 27) = w1 at *
  clear x2
  obtain ⟨c0, c1, c2, c3, c4⟩ := i0.all
  go_wp2_with fail
  refine (isa_Encode_any op d a b imm w1).mono ?_
  rintro e w2 ⟨rfl, hb2⟩
  have i2 := i0.keep hb2
  have H2 := Lib.hid (H1.out.trans (hb2.mono H1.out.size))
  clear c0 c1 c2 c3 c4 hb2
  obtain ⟨c0, c1, c2, c3, c4⟩ := i2.all
  go_wp2_with fail
  refine (ref_Encode_any op d a b imm w2).mono ?_
  rintro e w3 ⟨rfl, hb3⟩
  have i3 := i2.keep hb3
  have H3 := Lib.hid (H2.out.trans (hb3.mono H2.out.size))
  clear c0 c1 c2 c3 c4 hb3
  obtain ⟨c0, c1, c2, c3, c4⟩ := i3.all
  have hlt := i3.lt
  clear i0 i2 i3
  obtain ⟨k, hk⟩ : ∃ k, k = S.chk ⟨op, d, a, b, imm⟩ := ⟨_, rfl⟩
  have HC : ∀ w, Calls Tryd.prog 20 #[.agg #[.int .i64 op, .int .i64 d, .int .i64 a, .int .i64 b, .int .i64 imm]] w fun e w' => e = .returned (.int .i64 k) ∧ Below w.heap.size w w' := fun w => by rw [hk]; exact isa_Check op d a b imm w
  rw [← hk]
  clear hk
  generalize S.wordOf ⟨op, d, a, b, imm⟩ = n
  have HC := Lib.hid HC
  obtain ⟨T, hT⟩ : ∃ T, T = S.text ⟨op, d, a, b, imm⟩ := ⟨_, rfl⟩
  have hLx : ∀ x : Ext w3, LV x.val := fun x => HL.out.on (H3.out.trans (x.property.mono H3.out.size))
  have HT := Lib.hid (show ∀ x : Ext w3, Calls Tryd.prog 21 #[.agg #[.int .i64 op, .int .i64 d, .int .i64 a, .int .i64 b, .int .i64 imm]] x.val fun e w' => e = .returned (.string ⟨T.toArray⟩) ∧ Below x.val.heap.size x.val w' from fun x => by rw [hT]; exact isa_Text op d a b imm x.val (hLx x))
  have HT2 := Lib.hid (show ∀ x : Ext w3, Calls Tryd.prog 22 #[.agg #[.int .i64 op, .int .i64 d, .int .i64 a, .int .i64 b, .int .i64 imm]] x.val fun e w' => e = .returned (.string ⟨T.toArray⟩) ∧ Below x.val.heap.size x.val w' from fun x => by rw [hT]; exact ref_Text op d a b imm x.val)
  have HA := Lib.hid (fun x : Ext w3 => isa_awake x.val (hLx x))
  clear hT hLx
  go_upto_region 3 with fail
  refine wp_region_ext (by kernel_rfl) (by kernel_rfl) ?_
  have hE := ext_cells w3
  repeat (first
    | go_big_quiet_step ((first
      | (go_at_call 20; exact ext_of (HC.out _))
      | (go_at_call 21; exact ext_of (HT.out _))
      | (go_at_call 22; exact ext_of (HT2.out _))
      | (go_at_call 17; exact ext_of (HA.out _)))))
  refine wpQuiet_nil ?_
  rintro _ ⟨⟨w4, hb4⟩, rfl⟩
  go_wp2
  go_ret
  exact ⟨rfl, H3.out.trans (hb4.mono H3.out.size)⟩

set_option maxRecDepth 100000 in
set_option maxHeartbeats 2000000 in
theorem law_IsaOnce (op d a b imm : Int) (w : World) (hL : LV w) : Calls Tryd.prog 8 #[.agg #[.int .i64 op, .int .i64 d, .int .i64 a, .int .i64 b, .int .i64 imm]] w fun e w' => e = .returned (.bool true) ∧ Below w.heap.size w w' := by
  have HL := Lib.hid hL
  clear hL
  go_enter Tryd.func8, Tryd.ntmps8
  go_upto_region 1 with fail
  obtain ⟨i0, x2⟩ := inst_box w ⟨op, d, a, b, imm⟩
  have H1 := Lib.hid x2
  generalize w.alloc (.cells #[.int .i64 op, .int .i64 d, .int .i64 a, .int .i64 b, .int .i64 imm] 27) = w1 at *
  clear x2
  obtain ⟨c0, c1, c2, c3, c4⟩ := i0.all
  go_wp2_with fail
  refine (isa_Encode_any op d a b imm w1).mono ?_
  rintro e w2 ⟨rfl, hb2⟩
  have i2 := i0.keep hb2
  have H2 := Lib.hid (H1.out.trans (hb2.mono H1.out.size))
  clear c0 c1 c2 c3 c4 hb2
  obtain ⟨c0, c1, c2, c3, c4⟩ := i2.all
  have hlt := i2.lt
  clear i0 i2
  cases hg : S.good ⟨op, d, a, b, imm⟩ with
  | false =>
    rw [chk_bad hg, wordOf_bad hg]
    have HG := Lib.hid hg
    clear hg
    go_wp2_with fail
    refine (isa_never op d a b imm HG.out w2 (HL.out.on H2.out)).mono ?_
    rintro e w3 ⟨rfl, hb3⟩
    have H3 := Lib.hid (H2.out.trans (hb3.mono H2.out.size))
    clear hb3 c0 c1 c2 c3 c4
    go_wp2_with fail
    refine (isa_awake w3 (HL.out.on H3.out)).mono ?_
    rintro e w4 ⟨rfl, hb4⟩
    have H4 := Lib.hid (H3.out.trans (hb4.mono H3.out.size))
    clear hb4
    go_wp2_with fail
    go_ret
    exact ⟨rfl, H4.out⟩
  | true =>
    rw [chk_good hg, wordOf_good hg]
    have hLx : ∀ x : Ext w2, LV x.val := fun x => HL.out.on (H2.out.trans (x.property.mono H2.out.size))
    obtain ⟨T, hT⟩ : ∃ T, T = S.text ⟨op, d, a, b, imm⟩ := ⟨_, rfl⟩
    obtain ⟨n, hn⟩ : ∃ n, n = S.enc ⟨op, d, a, b, imm⟩ := ⟨_, rfl⟩
    rw [← hn]
    have HT := Lib.hid (show ∀ x : Ext w2, Calls Tryd.prog 21 #[.agg #[.int .i64 op, .int .i64 d, .int .i64 a, .int .i64 b, .int .i64 imm]] x.val fun e w' => e = .returned (.string ⟨T.toArray⟩) ∧ Below x.val.heap.size x.val w' from fun x => by rw [hT]; exact isa_Text op d a b imm x.val (hLx x))
    have HI := Lib.hid (fun x : Ext w2 => is_at op d a b imm n T hg hn.symm hT.symm x.val (hLx x))
    have HA := Lib.hid (fun x : Ext w2 => isa_awake x.val (hLx x))
    clear hT hLx hn hg
    go_upto_region 4 with fail
    refine wp_region_ext (by kernel_rfl) (by kernel_rfl) ?_
    have hE := ext_cells w2
    repeat (first
      | go_big_quiet_step ((first
        | (go_at_call 21; exact ext_of (HT.out _))
        | (go_at_call 27; exact ext_of (HI.out _))
        | (go_at_call 17; exact ext_of (HA.out _)))))
    refine wpQuiet_nil ?_
    rintro _ ⟨⟨w4, hb4⟩, rfl⟩
    go_wp2
    go_ret
    exact ⟨rfl, H2.out.trans (hb4.mono H2.out.size)⟩

theorem inst_cmp (op d a b i op' d' a' b' i' : Int) (w : World) : (binOp .eql 27 (.agg #[.int .i64 op, .int .i64 d, .int .i64 a, .int .i64 b, .int .i64 i]) (.agg #[.int .i64 op', .int .i64 d', .int .i64 a', .int .i64 b', .int .i64 i'])).run Tryd.prog w = .ok (.bool (op == op' && (d == d' && (a == a' && (b == b' && i == i'))))) w := by
  have hu : Tryd.prog.underlying 27 = some (.struct (Tryd.prog.fieldsOf 27)) := by kernel_rfl
  have hs : Tryd.prog.stoodInHeld 27 = false := by kernel_rfl
  rw [run_eql_struct, run_equalIn_agg _ _ _ _ _ hu hs]
  cases h0 : op == op'
  · simp [go_sem, Tryd.underlying27, Tryd.underlying3, h0]
  · cases h1 : d == d'
    · simp [go_sem, Tryd.underlying27, Tryd.underlying3, h0, h1]
    · cases h2 : a == a'
      · simp [go_sem, Tryd.underlying27, Tryd.underlying3, h0, h1, h2]
      · cases h3 : b == b'
        · simp [go_sem, Tryd.underlying27, Tryd.underlying3, h0, h1, h2, h3]
        · cases h4 : i == i'
          · simp [go_sem, Tryd.underlying27, Tryd.underlying3, h0, h1, h2, h3, h4]
          · simp [go_sem, Tryd.underlying27, Tryd.underlying3, h0, h1, h2, h3, h4]
theorem inst_differ {op d a b i op' d' a' b' i' : Int} (h : ¬(⟨op, d, a, b, i⟩ : S.Inst) = ⟨op', d', a', b', i'⟩) (w : World) : (binOp .eql 27 (.agg #[.int .i64 op, .int .i64 d, .int .i64 a, .int .i64 b, .int .i64 i]) (.agg #[.int .i64 op', .int .i64 d', .int .i64 a', .int .i64 b', .int .i64 i'])).run Tryd.prog w = .ok (.bool false) w := by
  rw [inst_cmp]
  cases hc : (op == op' && (d == d' && (a == a' && (b == b' && i == i'))))
  · rfl
  · simp at hc
    obtain ⟨rfl, rfl, rfl, rfl, rfl⟩ := hc
    exact absurd rfl h

theorem enc_inj {x y : S.Inst} (hx : S.good x = true) (hy : S.good y = true) (h : S.enc x = S.enc y) : x = y := by
  have h1 := (dec_enc hx).1
  rw [h, (dec_enc hy).1] at h1
  exact h1.symm

set_option maxRecDepth 100000 in
set_option maxHeartbeats 4000000 in
theorem law_IsaApart (op d a b imm op' d' a' b' imm' : Int) (w : World) (hL : LV w) : Calls Tryd.prog 10 #[.agg #[.int .i64 op, .int .i64 d, .int .i64 a, .int .i64 b, .int .i64 imm], .agg #[.int .i64 op', .int .i64 d', .int .i64 a', .int .i64 b', .int .i64 imm']] w
    fun e w' => e = .returned (.bool true) ∧ Below w.heap.size w w' := by
  have HL := Lib.hid hL
  clear hL
  go_enter Tryd.func10, Tryd.ntmps10
  go_upto_region 1 with fail
  obtain ⟨i0, x2⟩ := inst_box w ⟨op, d, a, b, imm⟩
  obtain ⟨j1, y2⟩ := inst_box (w.alloc (.cells #[.int .i64 op, .int .i64 d, .int .i64 a, .int .i64 b, .int .i64 imm] 27)) ⟨op', d', a', b', imm'⟩
  have i1 := i0.keep y2
  have H1 := Lib.hid (x2.trans (y2.mono x2.size))
  have hs : (w.alloc (.cells #[.int .i64 op, .int .i64 d, .int .i64 a, .int .i64 b, .int .i64 imm] 27)).heap.size = w.heap.size + 1 := by simp
  rw [hs] at j1
  generalize (w.alloc (.cells #[.int .i64 op, .int .i64 d, .int .i64 a, .int .i64 b, .int .i64 imm] 27)).alloc (.cells #[.int .i64 op', .int .i64 d', .int .i64 a', .int .i64 b', .int .i64 imm'] 27) = w1 at *
  clear x2 y2 i0 hs
  obtain ⟨c0, c1, c2, c3, c4⟩ := i1.all
  go_wp2_with fail
  refine (isa_Encode_any op d a b imm w1).mono ?_
  rintro e w2 ⟨rfl, hb2⟩
  have i2 := i1.keep hb2
  have j2 := j1.keep hb2
  have H2 := Lib.hid (H1.out.trans (hb2.mono H1.out.size))
  clear c0 c1 c2 c3 c4 hb2 i1 j1
  obtain ⟨c0, c1, c2, c3, c4⟩ := j2.all
  go_wp2_with fail
  refine (isa_Encode_any op' d' a' b' imm' w2).mono ?_
  rintro e w3 ⟨rfl, hb3⟩
  have i3 := i2.keep hb3
  have j3 := j2.keep hb3
  have H3 := Lib.hid (H2.out.trans (hb3.mono H2.out.size))
  clear c0 c1 c2 c3 c4 hb3 i2 j2
  cases hg : S.good ⟨op, d, a, b, imm⟩ with
  | false =>
    rw [chk_bad hg]
    clear hg
    generalize S.chk ⟨op', d', a', b', imm'⟩ = k'
    generalize S.wordOf ⟨op', d', a', b', imm'⟩ = n'
    generalize S.wordOf ⟨op, d, a, b, imm⟩ = n
    go_wp2_with fail
    refine (isa_awake w3 (HL.out.on H3.out)).mono ?_
    rintro e w4 ⟨rfl, hb4⟩
    go_wp2_with fail
    go_ret
    exact ⟨rfl, H3.out.trans (hb4.mono H3.out.size)⟩
  | true =>
    cases hg' : S.good ⟨op', d', a', b', imm'⟩ with
    | false =>
      rw [chk_good hg, chk_bad hg']
      clear hg hg'
      generalize S.wordOf ⟨op', d', a', b', imm'⟩ = n'
      generalize S.wordOf ⟨op, d, a, b, imm⟩ = n
      go_wp2_with fail
      refine (isa_awake w3 (HL.out.on H3.out)).mono ?_
      rintro e w4 ⟨rfl, hb4⟩
      go_wp2_with fail
      go_ret
      exact ⟨rfl, H3.out.trans (hb4.mono H3.out.size)⟩
    | true =>
      rw [chk_good hg, chk_good hg', wordOf_good hg, wordOf_good hg']
      have hEi := fun h => enc_inj hg hg' h
      have hTi := fun h => text_inj hg hg' h
      clear hg hg'
      have hLx : ∀ x : Ext w3, LV x.val := fun x => HL.out.on (H3.out.trans (x.property.mono H3.out.size))
      obtain ⟨c0, c1, c2, c3, c4⟩ := i3.all
      obtain ⟨e0, e1, e2, e3, e4⟩ := j3.all
      have hlt := i3.lt
      have hlt' := j3.lt
      obtain ⟨T, hT⟩ : ∃ T, T = S.text ⟨op, d, a, b, imm⟩ := ⟨_, rfl⟩
      obtain ⟨T', hT'⟩ : ∃ T, T = S.text ⟨op', d', a', b', imm'⟩ := ⟨_, rfl⟩
      obtain ⟨n, hn⟩ : ∃ n, n = S.enc ⟨op, d, a, b, imm⟩ := ⟨_, rfl⟩
      obtain ⟨n', hn'⟩ : ∃ n, n = S.enc ⟨op', d', a', b', imm'⟩ := ⟨_, rfl⟩
      rw [← hn, ← hn'] at hEi ⊢
      rw [← hT, ← hT'] at hTi
      have HT := Lib.hid (show ∀ x : Ext w3, Calls Tryd.prog 21 #[.agg #[.int .i64 op, .int .i64 d, .int .i64 a, .int .i64 b, .int .i64 imm]] x.val fun e w' => e = .returned (.string ⟨T.toArray⟩) ∧ Below x.val.heap.size x.val w' from fun x => by rw [hT]; exact isa_Text op d a b imm x.val (hLx x))
      have HT' := Lib.hid (show ∀ x : Ext w3, Calls Tryd.prog 21 #[.agg #[.int .i64 op', .int .i64 d', .int .i64 a', .int .i64 b', .int .i64 imm']] x.val fun e w' => e = .returned (.string ⟨T'.toArray⟩) ∧ Below x.val.heap.size x.val w' from fun x => by rw [hT']; exact isa_Text op' d' a' b' imm' x.val (hLx x))
      have HA := Lib.hid (fun x : Ext w3 => isa_awake x.val (hLx x))
      have HTT := Lib.hid (fun (x : Ext w3) (o d a b i : Int) => isa_Text o d a b i x.val (hLx x))
      clear hLx i3 j3
      by_cases hxy : (⟨op, d, a, b, imm⟩ : S.Inst) = ⟨op', d', a', b', imm'⟩
      · have hne : n = n' := by rw [hn, hn', hxy]
        have hte : T = T' := by rw [hT, hT', hxy]
        obtain ⟨rfl, rfl, rfl, rfl, rfl⟩ := S.Inst.mk.inj hxy
        subst hne hte
        clear hn hn' hT hT' hEi hTi hxy
        go_upto_region 5 with fail
        refine wp_region_ext (by kernel_rfl) (by kernel_rfl) ?_
        have hE := ext_cells w3
        repeat (first
          | go_big_quiet_step ((first
            | (go_at_call 21; exact ext_of (HT.out _))
            | (go_at_call 17; exact ext_of (HA.out _)))))
        refine wpQuiet_nil ?_
        rintro _ ⟨⟨w4, hb4⟩, rfl⟩
        go_wp2
        go_ret
        exact ⟨rfl, H3.out.trans (hb4.mono H3.out.size)⟩
      · have hne : (n == n') = false := by simp; exact fun h => hxy (hEi h)
        have hte : (S.text ⟨op, d, a, b, imm⟩ == S.text ⟨op', d', a', b', imm'⟩) = false := by rw [← hT, ← hT']; simp; exact fun h => hxy (hTi h)
        clear HT HT'
        have hcmp := fun w => inst_differ hxy w
        clear hn hn' hT hT' hEi hTi hxy
        go_upto_region 5 with fail
        refine wp_region_ext (by kernel_rfl) (by kernel_rfl) ?_
        have hE := ext_cells w3
        repeat (first
          | go_big_quiet_step ((first
            | (go_at_call 21; exact ext_of (HTT.out _ _ _ _ _ _))
            | (go_at_call 17; exact ext_of (HA.out _)))))
        refine wpQuiet_nil ?_
        rintro _ ⟨⟨w4, hb4⟩, rfl⟩
        go_wp2
        go_ret
        exact ⟨rfl, H3.out.trans (hb4.mono H3.out.size)⟩

end Go.Proofs.YtjhchgbeglhoaaaDoor
