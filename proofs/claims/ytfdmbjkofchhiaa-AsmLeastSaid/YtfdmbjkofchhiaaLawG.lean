/- Walk of the law AsmLeast. -/
import Derived.Test.YtfdmbjkofchhiaaLawC
import Derived.Test.YtfdmbjkofchhiaaAsmMin
import Derived.Deep.CutRange
import Derived.Deep.CutBlock
import Derived.Deep.DeepCutAuto
set_option linter.unusedVariables false
set_option linter.unusedSimpArgs false
set_option linter.unusedSectionVars false
namespace Go.Proofs.Ytfdmbjkofchhiaa
open Go.RowKit

theorem named_34 {x : S.Item} (h : x.kind = 3 ∨ x.kind = 4) : S.named x = true := by
  unfold S.named
  rw [decide_eq_true_eq]
  omega
def shortB (W : Int) : Bool := decide (-32768 ≤ W ∧ W ≤ 32767)
def midB (W : Int) : Bool := decide (-1048576 ≤ W ∧ W ≤ 1048575)
theorem not_dup {xs : List S.Item} {base : Int} (h : S.CheckRes xs base 0) : ¬ S.Dup xs := by
  rcases h with ⟨_, h⟩ | ⟨_, _, h, h'⟩ | ⟨_, _, _, _, h⟩ | ⟨_, _, _, h, _⟩ | ⟨_, _, _, h, _⟩
  · omega
  · omega
  · omega
  all_goals exact h
theorem one_alloc (w : World) (cs : Array Value) (t : TypeId) : (w.alloc (.cells cs t)).heap[w.heap.size]? = some (.cells cs t (0, 0)) ∧ Below w.heap.size w (w.alloc (.cells cs t)) ∧ (w.alloc (.cells cs t)).heap.size = w.heap.size + 1 :=
  ⟨heap_alloc_new _ _, (Below.refl _ _).alloc (Nat.le_refl _) _, by simp⟩

set_option maxRecDepth 100000 in
set_option maxHeartbeats 100000000 in
theorem law_AsmLeast (A : Option Addr) (c : Nat) (xs : List S.Item) (base : Int) (w : World) (hi : Items w w.heap.size A xs) (hlab : ∀ (k : Nat) (x : S.Item), xs[k]? = some x → x.label.size ≤ maxLen) :
    Calls Try.prog 5 #[.slice A xs.length c, .int .i64 base] w fun e w' => e = .returned (.bool true) ∧ Below w.heap.size w w' := by
  have Hlab := Lib.hid hlab
  have Hw := Lib.hid hi.words
  clear hlab
  go_enter Try.func5, Try.ntmps5
  go_wp2_with fail
  refine (law_large _ _ _ _ _ hi).mono ?_
  rintro e _ ⟨b, rfl, hb60, rfl⟩
  cases b
  rotate_left
  · clear hb60
    go_wp2_with fail
    refine (law_awake _).mono ?_
    rintro e w1 ⟨rfl, hb⟩
    go_wp2_with fail
    go_ret
    exact ⟨rfl, hb⟩
  · have h60 := hb60 rfl
    clear hb60
    go_wp2_with fail
    refine (asm_Assemble _ _ _ _ _ hi (by omega) Hlab.out).mono ?_
    rintro e w1 ⟨vo, vp, r, F, rfl, hres, ho1, hp1, hb1⟩
    have Hres := Lib.hid hres
    clear hres
    have hz1 := hb1.size
    go_wp2_with fail
    refine (asm_Forms _ _ _ _ _ ((hi.below hb1).more hz1) (by omega) Hlab.out).mono ?_
    rintro e w2 ⟨v, r1, F1, rfl, hres1, hF1, hb2⟩
    obtain ⟨e1, eF1⟩ := formsRes_fun Hres.out hres1
    subst e1 eF1
    clear hres1
    obtain ⟨Ao, co, rfl⟩ := ownsRow_form ho1
    obtain ⟨Ap, cp, rfl⟩ := ownsRow_form hp1
    obtain ⟨Af, cf, rfl⟩ := ownsRow_form hF1
    have hb02 := hb1.trans (hb2.mono hz1)
    have hz2 := hb02.size
    by_cases hr : r = 0
    rotate_left
    · have d1 : (r != 0) = true := by simpa using hr
      have d2 : (r == r) = true := by simp
      have Hr := Lib.hid hr
      clear ho1 hp1 hF1 hr
      go_wp2_with fail
      refine (law_awake _).mono ?_
      rintro e w3 ⟨rfl, hb3⟩
      go_wp2_with fail
      go_ret
      exact ⟨rfl, hb02.trans (hb3.mono hz2)⟩
    · subst hr
      have hfr : S.CheckRes xs base 0 ∧ S.Inv xs base F ∧ S.Stable xs base F ∧ S.addr xs F base xs.length ≤ 67108864 := by
        rcases Hres.out with ⟨h, _⟩ | ⟨_, h, _⟩ | ⟨h1, _, h3, h4, h5⟩
        · exact absurd rfl h
        · omega
        · exact ⟨h1, h3, h4, h5⟩
      obtain ⟨hchk, hinv, hsta, htot⟩ := hfr
      have Hchk := Lib.hid hchk
      have Hinv := Lib.hid hinv
      have Hsta := Lib.hid hsta
      have hk := Lib.hid (kinds_ok (firstErr_of hchk))
      obtain ⟨hb0, hb26⟩ := base_ok hchk
      have Hok := Lib.hid hinv.1
      have HFl := Lib.hid hinv.1.1
      have hP := ReadsP.of_own (ownsRow_below hp1 hb2)
      have hI := Ints.of_own hF1
      have hpl := placesTo_length xs F base xs.length
      have hlo := Lib.hid (outTo_length (base := base) Hok.out hk.out Hw.out xs.length)
      have hlen : F.length = xs.length := HFl.out
      rw [hlen] at *
      simp only [if_true] at *
      have hPs := Lib.hid (places_spec (F := F) (base := base) (not_dup hchk) xs.length)
      clear hchk hinv hsta ho1 hp1 hF1 hlen
      go_wp2_with fail
      go_loopw [10, 11] (fun a i wr => ∃ k : Nat, k ≤ xs.length ∧ i = .int .i64 k ∧ a = .int .i64 (S.addr xs F base k) ∧ Below w2.heap.size w2 wr) (fun _ i _ => xs.length - (intOf i).toNat)
      case atStart => exact ⟨0, by omega, rfl, rfl, Below.refl _ _⟩
      case round =>
        obtain ⟨k, hkl, rfl, rfl, hbk⟩ := hrel
        have hzk := hbk.size
        have hle1 := addr_le (base := base) Hok.out Hw.out (i := k) (n := xs.length) hkl
        have hge := (addr_bd (base := base) Hok.out Hw.out k).1
        by_cases hlt : k < xs.length
        · obtain ⟨b, off, x, rfl, hb, hx, hc0, hc1, hc2, hc3, hc4, hc5, hc6, hc7, hw0, hw1⟩ := (hi.below (hb02.trans (hbk.mono hz2))).at_ (k := k) (by omega)
          obtain ⟨bf, of, rfl, hbf, hcf⟩ := (hI.below hbk).at_ (k := k) (by rw [HFl.out]; exact hlt)
          have hbr : b < wr.heap.size ∧ bf < wr.heap.size := by omega
          obtain ⟨g0, g1⟩ := hbr
          have hle2 := addr_le (base := base) Hok.out Hw.out (i := k + 1) (n := xs.length) hlt
          have hsa : S.addr xs F base (k + 1) = S.addr xs F base k + S.size x (F.getD k 0) := by rw [S.addr]; simp [S.sizeAt, hx]
          obtain ⟨h3, h4, h5⟩ := Hok.out.2 k x hx
          have hsz0 : 0 ≤ S.size x (F.getD k 0) ∧ S.size x (F.getD k 0) ≤ 67108864 := by
            have := sizeAt_bd Hok.out Hw.out k
            have e : S.sizeAt xs F k = S.size x (F.getD k 0) := by simp [S.sizeAt, hx]
            omega
          have hkx := hk.out x (List.mem_of_getElem? hx)
          have Hx := Lib.hid hx
          have Hsa := Lib.hid hsa
          have hls := Hlab.out k x hx
          have hsz : S.size x (F.getD k 0) = (if x.kind = 2 then 0 else if x.kind = 3 ∧ F.getD k 0 = 3 then 4 else if x.kind = 3 then F.getD k 0 else if x.kind = 4 then 2 * F.getD k 0 - 1 else if x.kind = 5 then 2 else if x.kind = 8 then x.word else 1) := rfl
          have Hsz := Lib.hid hsz
          have Htb := Lib.hid (toOf_bd (base := base) Hok.out Hw.out hb0 htot x)
          clear hx hsa hsz hle2
          obtain ⟨kind, ⟨op, d, a, b', imm⟩, lab, wd⟩ := x
          simp only at hc0 hc1 hc2 hc3 hc4 hc5 hc6 hc7 hw0 hw1 hkx hls h3 h4 h5
          generalize hsv : S.size ⟨kind, ⟨op, d, a, b', imm⟩, lab, wd⟩ (F.getD k 0) = sz at *
          have Hsv := Lib.hid hsv
          generalize hak : S.addr xs F base k = ak at *
          have Hak := Lib.hid hak
          generalize hfk : F.getD k 0 = fk at *
          have Hfk := Lib.hid hfk
          clear hsv hak hfk
          obtain ⟨s0, s1⟩ := hsz0
          obtain ⟨x1, x2, x3⟩ := one_alloc wr #[.int .i64 kind, .int .i64 op, .int .i64 d, .int .i64 a, .int .i64 b', .int .i64 imm, .string lab, .int .u32 wd] 44
          go_upto_block 2 with fail
          generalize wr.alloc (.cells #[.int .i64 kind, .int .i64 op, .int .i64 d, .int .i64 a, .int .i64 b', .int .i64 imm, .string lab, .int .u32 wd] 44) = wX at *
          have hX0 : wX.cell? ⟨wr.heap.size, 0, none⟩ = some (.int .i64 kind) := blk_cell x1 0
          have hX6 : wX.cell? ⟨wr.heap.size, 6, none⟩ = some (.string lab) := blk_cell x1 6
          have hX7 : wX.cell? ⟨wr.heap.size, 7, none⟩ = some (.int .u32 wd) := blk_cell x1 7
          have hcf' : wX.cell? ⟨bf, of + k, none⟩ = some (.int .i64 fk) := (x2.cell (p := ⟨bf, of + k, none⟩) g1).trans hcf
          have hzX : wr.heap.size < wX.heap.size := by omega
          have g1' : bf < wX.heap.size := by omega
          clear x1 x3 hc0 hc1 hc2 hc3 hc4 hc5 hc6 hc7 hcf
          go_cut [13] (fun n wc => n = .int .i64 sz ∧ wX = wc)
          case first =>
            have hways : kind = 2 ∨ (kind = 3 ∧ (fk = 1 ∨ fk = 2 ∨ fk = 3)) ∨ (kind = 4 ∧ (fk = 1 ∨ fk = 2)) ∨ kind = 5 ∨ kind = 8 ∨ (kind = 1 ∨ kind = 6 ∨ kind = 7) := by
              by_cases k3 : kind = 3
              · have := h3 k3; omega
              · by_cases k4 : kind = 4
                · have := h4 k4; omega
                · omega
            have Hways := Lib.hid hways
            clear h3 h4 h5 hkx hways
            rcases Hways.out with rfl | ⟨rfl, rfl | rfl | rfl⟩ | ⟨rfl, rfl | rfl⟩ | rfl | rfl | (rfl | rfl | rfl)
            all_goals
              as_aux_lemma =>
                have hz := Hsz.out
                simp at hz
                subst hz
                go_wp2_with fail
                go_meet
                exact ⟨by simp, rfl⟩
          case rest =>
            obtain ⟨rfl, rfl⟩ := hcut
            obtain ⟨wo, hwo⟩ : ∃ wo : World, wo = wr := ⟨_, rfl⟩
            subst hwo
            have hPX := hP.below (hbk.trans (x2.mono hzk))
            have Hrb := Lib.hid (hbk.trans (x2.mono hzk))
            clear hX7
            go_wp2_with fail
            go_loopw [14, 15] (fun tv i wr => ∃ (q n : Nat) (t : Int), q ≤ (S.placesTo xs F base xs.length).length ∧ i = .int .i64 q ∧ tv = .int .i64 t ∧ 0 ≤ t ∧ t ≤ 67108864 ∧
                ((t = ak ∧ ∀ (j : Nat) (v : Int), j < q → (S.placesTo xs F base xs.length)[j]? ≠ some (lab, v)) ∨ ∃ j : Nat, (S.placesTo xs F base xs.length)[j]? = some (lab, t)) ∧ wr = wX.drewN n) (fun _ i _ => (S.placesTo xs F base xs.length).length - (intOf i).toNat)
            case atStart => exact ⟨0, 0, ak, by omega, rfl, rfl, by omega, by omega, .inl ⟨rfl, fun j v hj => by omega⟩, rfl⟩
            case round =>
              obtain ⟨q, n, t, hq, rfl, rfl, t0, t1, hr, rfl⟩ := hrel
              have Hr := Lib.hid hr
              clear hr
              by_cases hltq : q < (S.placesTo xs F base xs.length).length
              · obtain ⟨bp, op', s, v, rfl, hbp, hpx, hpc0, hpc1⟩ := hPX.at_ hltq
                have hbpX : bp < wX.heap.size := by omega
                have hv : 0 ≤ v ∧ v ≤ 67108864 := by
                  obtain ⟨j, e1, e2, e3⟩ := hPs.out q s v hpx
                  have h6 := (addr_bd (base := base) Hok.out Hw.out j).1
                  have h7 := addr_le (base := base) Hok.out Hw.out (i := j) (n := xs.length) (by omega)
                  omega
                obtain ⟨v0, v1⟩ := hv
                have Hpx := Lib.hid hpx
                clear hpx
                by_cases hs : s = lab
                · have ds := lab_eq hs
                  have Hs := Lib.hid hs
                  clear hs
                  go_wp2_with fail
                  go_quiet (fail)
                  go_wp2_with fail
                  go_roundw
                  case rel => exact ⟨q + 1, _, v, by omega, by go_num, rfl, v0, v1, .inr ⟨q, by rw [Hpx.out, Hs.out]⟩, rfl⟩
                  case measure => simp [intOf]; omega
                · have ds := lab_ne hs
                  have Hs := Lib.hid hs
                  clear hs
                  go_wp2_with fail
                  go_quiet (fail)
                  go_wp2_with fail
                  go_roundw
                  case rel =>
                    refine ⟨q + 1, _, t, by omega, by go_num, rfl, t0, t1, ?_, rfl⟩
                    rcases Hr.out with ⟨e, hn⟩ | h
                    · refine .inl ⟨e, fun j u hj => ?_⟩
                      by_cases hjq : j = q
                      · subst hjq
                        rw [Hpx.out]
                        intro he
                        simp only [Option.some.injEq, Prod.mk.injEq] at he
                        exact Hs.out he.1
                      · exact hn j u (by omega)
                    · exact .inr h
                  case measure => simp [intOf]; omega
              · have hqe : q = (S.placesTo xs F base xs.length).length := by omega
                subst hqe
                have hways : (kind = 3 ∧ fk = 1) ∨ (kind = 3 ∧ fk = 2 ∧ ((t ≤ ak ∧ t - ak - 1 < -32768) ∨ (ak < t ∧ 32767 < t - ak - 2))) ∨ (kind = 3 ∧ fk = 3 ∧ (t ≤ ak ∨ (ak < t ∧ 1048575 < t - ak - 4))) ∨
                    (kind = 4 ∧ fk = 1) ∨ (kind = 4 ∧ fk = 2 ∧ ((t ≤ ak ∧ t - ak - 1 < -1048576) ∨ (ak < t ∧ 1048575 < t - ak - 3))) ∨ (kind ≠ 3 ∧ kind ≠ 4) := by
                  by_cases kk : kind = 3 ∨ kind = 4
                  · have hnm : S.named ⟨kind, ⟨op, d, a, b', imm⟩, lab, wd⟩ = true := named_34 kk
                    have h0 := named_stands Hchk.out Hx.out hnm
                    obtain ⟨j, hj, hjl⟩ : ∃ j : Nat, S.stands xs lab = j ∧ j < xs.length := by
                      rcases stands_spec xs lab with ⟨e, _⟩ | ⟨j, y, e, hj, _⟩
                      · simp only at h0; omega
                      · exact ⟨j, e, (List.getElem?_eq_some_iff.1 hj).1⟩
                    have htj : S.addr xs F base j = t := by
                      obtain ⟨q', hq'⟩ := places_has (F := F) (base := base) hj xs.length hjl
                      rcases Hr.out with ⟨_, hn⟩ | ⟨i', hi'⟩
                      · exact absurd hq' (hn q' _ (List.getElem?_eq_some_iff.1 hq').1)
                      · obtain ⟨j', e1, e2, _⟩ := hPs.out i' lab t hi'
                        have : j' = j := by omega
                        rw [e2, this]
                    exact least_ways Hinv.out Hsta.out Hw.out Hx.out hj ak t fk Hak.out htj Hfk.out
                  · exact .inr (.inr (.inr (.inr (.inr (by omega)))))
                have Hways := Lib.hid hways
                clear h3 h4 h5 hkx hways
                have hbfin : Below w2.heap.size w2 (wX.drewN n) := below_drewN Hrb.out n
                have Hbfin := Lib.hid hbfin
                clear hbfin
                have hY0 : (wX.drewN n).cell? ⟨wo.heap.size, 0, none⟩ = some (.int .i64 kind) := hX0
                have hYf : (wX.drewN n).cell? ⟨bf, of + k, none⟩ = some (.int .i64 fk) := hcf'
                clear hX0 hX6 hcf' hPX Hrb x2 hzX g1'
                generalize wX.drewN n = wY at *
                obtain ⟨W, hW⟩ : ∃ W : Int, W = if t ≤ ak then t - ak - 1 else t - ak - sz := ⟨_, rfl⟩
                have HW := Lib.hid hW
                have hWb : -67108865 ≤ W ∧ W ≤ 67108864 := by
                  rw [hW]
                  split <;> omega
                obtain ⟨hWb0, hWb1⟩ := hWb
                clear hW
                go_upto_if 124 with (fail)
                go_cut [16] (fun v wc => v = .int .i64 W ∧ wY = wc)
                case first =>
                  by_cases y1 : t ≤ ak
                  · have hw := HW.out
                    rw [if_pos y1] at hw
                    subst hw
                    go_wp2_with fail
                    go_meet
                    exact ⟨rfl, rfl⟩
                  · have hw := HW.out
                    rw [if_neg y1] at hw
                    subst hw
                    go_wp2_with fail
                    go_meet
                    exact ⟨rfl, rfl⟩
                case rest =>
                  obtain ⟨rfl, rfl⟩ := hcut
                  go_upto_region 33 with fail
                  go_cut [17] (fun v wc => v = .bool (shortB W) ∧ wY = wc)
                  case first =>
                    by_cases y1 : -32768 ≤ W
                    · go_wp2_with fail
                      go_meet
                      exact ⟨by simp [shortB]; try omega, rfl⟩
                    · go_wp2_with fail
                      go_meet
                      exact ⟨by simp [shortB]; try omega, rfl⟩
                  case rest =>
                    obtain ⟨rfl, rfl⟩ := hcut
                    go_upto_region 34 with fail
                    go_cut [18] (fun v wc => v = .bool (midB W) ∧ wY = wc)
                    case first =>
                      by_cases y1 : -1048576 ≤ W
                      · go_wp2_with fail
                        go_meet
                        exact ⟨by simp [midB]; try omega, rfl⟩
                      · go_wp2_with fail
                        go_meet
                        exact ⟨by simp [midB]; try omega, rfl⟩
                    case rest =>
                      obtain ⟨rfl, rfl⟩ := hcut
                      go_upto_region 35 with fail
                      try simp only [List.append_eq, List.cons_append, List.nil_append]
                      go_cut [206] (fun v wc => v = .bool false ∧ wY = wc)
                      case first =>
                        have hw8 : (kind = 3 ∧ fk = 1) ∨ (kind = 3 ∧ fk = 2 ∧ t ≤ ak ∧ shortB W = false) ∨ (kind = 3 ∧ fk = 2 ∧ ak < t ∧ shortB W = false ∧ 32767 < W) ∨ (kind = 3 ∧ fk = 3 ∧ t ≤ ak) ∨ (kind = 3 ∧ fk = 3 ∧ ak < t ∧ 1048575 < W) ∨
                            (kind = 4 ∧ fk = 1) ∨ (kind = 4 ∧ fk = 2 ∧ midB W = false) ∨ (kind ≠ 3 ∧ kind ≠ 4) := by
                          have hw := HW.out
                          have hz := Hsz.out
                          try simp only at hz
                          rcases Hways.out with ⟨e1, e2⟩ | ⟨e1, e2, ⟨y1, y2⟩ | ⟨y1, y2⟩⟩ | ⟨e1, e2, y1 | ⟨y1, y2⟩⟩ | ⟨e1, e2⟩ | ⟨e1, e2, ⟨y1, y2⟩ | ⟨y1, y2⟩⟩ | ⟨n3, n4⟩
                          · exact .inl ⟨e1, e2⟩
                          · rw [if_pos y1] at hw
                            exact .inr (.inl ⟨e1, e2, y1, by simp [shortB]; omega⟩)
                          · rw [if_neg (by omega)] at hw
                            subst e1 e2
                            try simp at hz
                            exact .inr (.inr (.inl ⟨rfl, rfl, y1, by simp [shortB]; omega, by omega⟩))
                          · exact .inr (.inr (.inr (.inl ⟨e1, e2, y1⟩)))
                          · rw [if_neg (by omega)] at hw
                            subst e1 e2
                            try simp at hz
                            exact .inr (.inr (.inr (.inr (.inl ⟨rfl, rfl, y1, by omega⟩))))
                          · exact .inr (.inr (.inr (.inr (.inr (.inl ⟨e1, e2⟩)))))
                          · rw [if_pos y1] at hw
                            exact .inr (.inr (.inr (.inr (.inr (.inr (.inl ⟨e1, e2, by simp [midB]; omega⟩))))))
                          · rw [if_neg (by omega)] at hw
                            subst e1 e2
                            try simp at hz
                            exact .inr (.inr (.inr (.inr (.inr (.inr (.inl ⟨rfl, rfl, by simp [midB]; omega⟩))))))
                          · exact .inr (.inr (.inr (.inr (.inr (.inr (.inr ⟨n3, n4⟩))))))
                        have Hw8 := Lib.hid hw8
                        clear hw8
                        clear Hways HW Hsz Hsv
                        generalize shortB W = bs at *
                        generalize midB W = bm at *
                        rcases Hw8.out with ⟨rfl, rfl⟩ | ⟨rfl, rfl, y1, rfl⟩ | ⟨rfl, rfl, y1, rfl, y2⟩ | ⟨rfl, rfl, y1⟩ | ⟨rfl, rfl, y1, y2⟩ | ⟨rfl, rfl⟩ | ⟨rfl, rfl, rfl⟩ | ⟨n3, n4⟩
                        rotate_right
                        · as_aux_lemma =>
                            have d3 := int_bne n3
                            have d4 := int_bne n4
                            clear n3 n4
                            go_wp2_with fail
                            go_meet
                            exact ⟨rfl, rfl⟩
                        all_goals
                          as_aux_lemma =>
                            go_wp2_with fail
                            go_meet
                            exact ⟨by first | rfl | (simp; omega), rfl⟩
                      case rest =>
                        obtain ⟨rfl, rfl⟩ := hcut
                        go_wp2_with fail
                        go_roundw
                        all_goals first
                          | exact ⟨⟨k + 1, by omega, by go_num, by rw [Hsa.out], Hbfin.out⟩, by simp [intOf]; omega⟩
                          | exact ⟨k + 1, by omega, by go_num, by rw [Hsa.out], Hbfin.out⟩
                          | (simp [intOf]; omega)
        · have hkn : k = xs.length := by omega
          subst hkn
          have hend : (S.addr xs F base xs.length - base == ((S.outTo xs F base xs.length).length : Int)) = true := by rw [hlo.out]; simp
          go_wp2_with fail
          refine (law_awake _).mono ?_
          rintro e w3 ⟨rfl, hb3⟩
          go_wp2_with fail
          go_ret
          exact ⟨rfl, (hb02.trans (hbk.mono hz2)).trans (hb3.mono (by omega))⟩

end Go.Proofs.Ytfdmbjkofchhiaa
