/- Walk of the law AsmLeads. -/
import Derived.Test.YtfdmbjkofchhiaaLawC
import Derived.Test.YtfdmbjkofchhiaaLeadsA
import Derived.Test.YtfdmbjkofchhiaaLeadsB
import Derived.Deep.CutRange
import Derived.Deep.CutBlock
import Derived.Deep.DeepCutAuto
set_option linter.unusedVariables false
set_option linter.unusedSimpArgs false
set_option linter.unusedSectionVars false
namespace Go.Proofs.Ytfdmbjkofchhiaa
open Go.RowKit

theorem ownsRow_cap {w : World} {base : Nat} {e : TypeId} {size : Nat} {A : Option Addr} {c m : Nat} {n : Nat} {xs : List Value} (h : w.ownsRow base e size (.slice A m c) n xs) : n ≤ c ∧ c ≤ maxLen := by
  rcases h.2 with ⟨h1, h2⟩ | ⟨g, cap, cur, h1, h2, h3, h4, h5, h6, h7⟩
  · simp only [Value.slice.injEq] at h1
    obtain ⟨_, _, rfl⟩ := h1
    exact ⟨by omega, by simp [maxLen]⟩
  · simp only [Value.slice.injEq] at h1
    obtain ⟨rfl, rfl, rfl⟩ := h1
    exact ⟨by assumption, by assumption⟩
/-- The words of the item at a place, in memory. -/
theorem own_cells {w2 w : World} {B : Nat} {Ao : Option Addr} {xs : List S.Item} {F : List Int} {base : Int} {n k : Nat} (hO : Reads w2 B Ao ((S.outTo xs F base n).map (Value.int .u32))) (hk : k < n) (hb : Below B w2 w) (hne : 0 < (S.wordsAt xs F base k).length) :
    ∃ bo oo, Ao = some ⟨bo, oo, none⟩ ∧ bo < B ∧ ∀ (q : Nat) (v : Int), (S.wordsAt xs F base k)[q]? = some v → w.cell? ⟨bo, oo + (S.outTo xs F base k).length + q, none⟩ = some (.int .u32 v) := by
  have h0 := outTo_at (F := F) (base := base) (q := 0) hne n hk
  rw [List.getElem?_eq_getElem hne] at h0
  have hl := (List.getElem?_eq_some_iff.1 h0).1
  obtain ⟨bo, oo, e, hB, hc⟩ := hO (by rw [List.length_map]; omega)
  refine ⟨bo, oo, e, hB, fun q v hq => ?_⟩
  have hlt := (List.getElem?_eq_some_iff.1 hq).1
  have h1 := outTo_at (F := F) (base := base) hlt n hk
  have h2 := hc ((S.outTo xs F base k).length + q) (.int .u32 v) (by rw [List.getElem?_map, h1, hq]; rfl)
  rw [Nat.add_assoc]
  exact (hb.cell (p := ⟨bo, oo + ((S.outTo xs F base k).length + q), none⟩) hB).trans h2
/-- What is cut out of the words, where it is looked at. -/
def CutV (kind sz lo : Int) (Ao : Option Addr) (co : Nat) (wX : World) (V : Value) (wc : World) : Prop :=
  ∃ A' n' c', V = .slice A' n' c' ∧ (kind = 3 ∨ kind = 4 → A' = Option.map (fun x => x.add lo.toNat) Ao ∧ n' = sz.toNat ∧ c' = co - lo.toNat) ∧ wX = wc
theorem named_34H {x : S.Item} (h : x.kind = 3 ∨ x.kind = 4) : S.named x = true := by
  unfold S.named
  rw [decide_eq_true_eq]
  omega
theorem not_dup2 {xs : List S.Item} {base : Int} (h : S.CheckRes xs base 0) : ¬ S.Dup xs := by
  rcases h with ⟨_, h⟩ | ⟨_, _, h, h'⟩ | ⟨_, _, _, _, h⟩ | ⟨_, _, _, h, _⟩ | ⟨_, _, _, h, _⟩
  · omega
  · omega
  · omega
  all_goals exact h
theorem one_alloc2 (w : World) (cs : Array Value) (t : TypeId) : (w.alloc (.cells cs t)).heap[w.heap.size]? = some (.cells cs t (0, 0)) ∧ Below w.heap.size w (w.alloc (.cells cs t)) ∧ (w.alloc (.cells cs t)).heap.size = w.heap.size + 1 :=
  ⟨heap_alloc_new _ _, (Below.refl _ _).alloc (Nat.le_refl _) _, by simp⟩

set_option maxRecDepth 100000 in
set_option maxHeartbeats 8000000 in
theorem law_AsmLeads (A : Option Addr) (c : Nat) (xs : List S.Item) (base : Int) (w : World) (hi : Items w w.heap.size A xs) (hlab : ∀ (k : Nat) (x : S.Item), xs[k]? = some x → x.label.size ≤ maxLen) :
    Calls Try.prog 6 #[.slice A xs.length c, .int .i64 base] w fun e w' => e = .returned (.bool true) ∧ Below w.heap.size w w' := by
  have Hlab := Lib.hid hlab
  have Hw := Lib.hid hi.words
  clear hlab
  go_enter Try.func6, Try.ntmps6
  go_wp2_with fail
  refine (law_large _ _ _ _ _ hi).mono ?_
  rintro e _ ⟨b, rfl, hb60, rfl⟩
  cases b
  rotate_left
  · clear hb60
    go_wp2_with fail
    refine (law_awake _).mono ?_
    rintro e w1 ⟨rfl, hb⟩
    go_wp2_with fail
    go_ret
    exact ⟨rfl, hb⟩
  · have h60 := hb60 rfl
    clear hb60
    go_wp2_with fail
    refine (asm_Assemble _ _ _ _ _ hi (by omega) Hlab.out).mono ?_
    rintro e w1 ⟨vo, vp, r, F, rfl, hres, ho1, hp1, hb1⟩
    have Hres := Lib.hid hres
    clear hres
    have hz1 := hb1.size
    go_wp2_with fail
    refine (asm_Forms _ _ _ _ _ ((hi.below hb1).more hz1) (by omega) Hlab.out).mono ?_
    rintro e w2 ⟨v, r1, F1, rfl, hres1, hF1, hb2⟩
    obtain ⟨e1, eF1⟩ := formsRes_fun Hres.out hres1
    subst e1 eF1
    clear hres1
    obtain ⟨Ao, co, rfl⟩ := ownsRow_form ho1
    obtain ⟨Ap, cp, rfl⟩ := ownsRow_form hp1
    obtain ⟨Af, cf, rfl⟩ := ownsRow_form hF1
    have hb02 := hb1.trans (hb2.mono hz1)
    have hz2 := hb02.size
    by_cases hr : r = 0
    rotate_left
    · have d1 : (r != 0) = true := by simpa using hr
      have d2 : (r == r) = true := by simp
      have Hr := Lib.hid hr
      clear ho1 hp1 hF1 hr
      go_wp2_with fail
      refine (law_awake _).mono ?_
      rintro e w3 ⟨rfl, hb3⟩
      go_wp2_with fail
      go_ret
      exact ⟨rfl, hb02.trans (hb3.mono hz2)⟩
    · subst hr
      have hfr : S.CheckRes xs base 0 ∧ S.Inv xs base F ∧ S.Stable xs base F ∧ S.addr xs F base xs.length ≤ 67108864 := by
        rcases Hres.out with ⟨h, _⟩ | ⟨_, h, _⟩ | ⟨h1, _, h3, h4, h5⟩
        · exact absurd rfl h
        · omega
        · exact ⟨h1, h3, h4, h5⟩
      obtain ⟨hchk, hinv, hsta, htot⟩ := hfr
      have Hchk := Lib.hid hchk
      have Hinv := Lib.hid hinv
      have Hsta := Lib.hid hsta
      have hk := Lib.hid (kinds_ok (firstErr_of hchk))
      obtain ⟨hb0, hb26⟩ := base_ok hchk
      have Hok := Lib.hid hinv.1
      have HFl := Lib.hid hinv.1.1
      have hP := ReadsP.of_own (ownsRow_below hp1 hb2)
      have hI := Ints.of_own hF1
      have hO := Reads.of_own (ownsRow_below ho1 hb2)
      obtain ⟨hlc, hcm⟩ := ownsRow_cap ho1
      unfold maxLen at hcm
      have hpl := placesTo_length xs F base xs.length
      have hlo := Lib.hid (outTo_length (base := base) Hok.out hk.out Hw.out xs.length)
      have hlen : F.length = xs.length := HFl.out
      rw [hlen] at *
      simp only [if_true] at *
      have hPs := Lib.hid (places_spec (F := F) (base := base) (not_dup2 hchk) xs.length)
      clear hchk hinv hsta ho1 hp1 hF1 hlen
      have hff : ((F.length : Int) == xs.length) = true := by rw [HFl.out]; simp
      have hchk0 := Lib.hid (firstErr_of Hchk.out)
      go_wp2_with fail
      go_loopw [10, 11, 12] (fun a kk i wr => ∃ k : Nat, k ≤ xs.length ∧ i = .int .i64 k ∧ a = .int .i64 (S.addr xs F base k) ∧ kk = .int .i64 ((S.placesTo xs F base k).length : Nat) ∧ Below w2.heap.size w2 wr) (fun _ _ i _ => xs.length - (intOf i).toNat)
      case atStart => exact ⟨0, by omega, rfl, rfl, rfl, Below.refl _ _⟩
      case round =>
        obtain ⟨k, hkl, rfl, rfl, rfl, hbk⟩ := hrel
        have hzk := hbk.size
        have hle1 := addr_le (base := base) Hok.out Hw.out (i := k) (n := xs.length) hkl
        have hge := (addr_bd (base := base) Hok.out Hw.out k).1
        by_cases hlt : k < xs.length
        · obtain ⟨b, off, x, rfl, hb, hx, hc0, hc1, hc2, hc3, hc4, hc5, hc6, hc7, hw0, hw1⟩ := (hi.below (hb02.trans (hbk.mono hz2))).at_ (k := k) (by omega)
          obtain ⟨bf, of, rfl, hbf, hcf⟩ := (hI.below hbk).at_ (k := k) (by rw [HFl.out]; exact hlt)
          have hbr : b < wr.heap.size ∧ bf < wr.heap.size := by omega
          obtain ⟨g0, g1⟩ := hbr
          have hle2 := addr_le (base := base) Hok.out Hw.out (i := k + 1) (n := xs.length) hlt
          have hsa : S.addr xs F base (k + 1) = S.addr xs F base k + S.size x (F.getD k 0) := by rw [S.addr]; simp [S.sizeAt, hx]
          obtain ⟨h3, h4, h5⟩ := Hok.out.2 k x hx
          have hsz0 : 0 ≤ S.size x (F.getD k 0) ∧ S.size x (F.getD k 0) ≤ 67108864 := by
            have := sizeAt_bd Hok.out Hw.out k
            have e : S.sizeAt xs F k = S.size x (F.getD k 0) := by simp [S.sizeAt, hx]
            omega
          have hkx := hk.out x (List.mem_of_getElem? hx)
          have hpk := placesTo_succ (F := F) (base := base) hx
          have hpl2 := placesTo_length xs F base k
          have Hx := Lib.hid hx
          have Hsa := Lib.hid hsa
          have Hpk := Lib.hid hpk
          have hls := Hlab.out k x hx
          have hsz : S.size x (F.getD k 0) = (if x.kind = 2 then 0 else if x.kind = 3 ∧ F.getD k 0 = 3 then 4 else if x.kind = 3 then F.getD k 0 else if x.kind = 4 then 2 * F.getD k 0 - 1 else if x.kind = 5 then 2 else if x.kind = 8 then x.word else 1) := rfl
          have Hsz := Lib.hid hsz
          clear hx hsa hsz hpk
          obtain ⟨kind, ⟨op, d, a, b', imm⟩, lab, wd⟩ := x
          simp only at hc0 hc1 hc2 hc3 hc4 hc5 hc6 hc7 hw0 hw1 hkx hls h3 h4 h5
          by_cases c2 : kind = 2
          · as_aux_lemma =>
              subst c2
              obtain ⟨bp, op', s, v, rfl, hbp, hpx, hpc0, hpc1⟩ := (hP.below hbk).at_ (k := (S.placesTo xs F base k).length) (by
                have h := placesTo_at (F := F) (base := base) Hx.out rfl xs.length hlt
                exact (List.getElem?_eq_some_iff.1 h).1)
              have hsv : s = lab ∧ v = S.addr xs F base k := by
                have h := placesTo_at (F := F) (base := base) Hx.out rfl xs.length hlt
                rw [hpx] at h
                simpa using h
              obtain ⟨rfl, rfl⟩ := hsv
              have hlp : (S.placesTo xs F base k).length < (S.placesTo xs F base xs.length).length := (List.getElem?_eq_some_iff.1 hpx).1
              clear hpx hsz0 hle2
              generalize hak : S.addr xs F base k = ak at *
              have Hak := Lib.hid hak
              generalize hkk : (S.placesTo xs F base k).length = kk at *
              have Hkk := Lib.hid hkk
              clear hak hkk
              have hge1 : decide ((S.placesTo xs F base xs.length).length ≤ kk) = false := by simpa using hlp
              have g2 : bp < wr.heap.size := by omega
              go_upto_region 16 with fail
              go_quiet (fail)
              go_wp2_with fail
              go_roundw
              case rel => exact ⟨k + 1, by omega, by go_num, by rw [Hsa.out, Hsz.out]; simp, by rw [Hpk.out]; simp, below_drewN ((hbk.alloc (by omega) _)) _⟩
              case measure => simp [intOf]; omega
          · have hpk0 : (S.placesTo xs F base (k + 1)).length = (S.placesTo xs F base k).length := by rw [Hpk.out]; simp [c2]
            have Hpk0 := Lib.hid hpk0
            have d2 : (kind == 2) = false := int_bne c2
            clear hpk0 Hpk c2
            have hlk : ((S.outTo xs F base k).length : Int) = S.addr xs F base k - base := outTo_length (base := base) Hok.out hk.out Hw.out k
            have hln : S.addr xs F base k - base + S.size ⟨kind, ⟨op, d, a, b', imm⟩, lab, wd⟩ (F.getD k 0) ≤ ((S.outTo xs F base xs.length).length : Int) := by
              have e := Hsa.out
              rw [hlo.out]
              omega
            obtain ⟨s0, s1⟩ := hsz0
            generalize hsv : S.size ⟨kind, ⟨op, d, a, b', imm⟩, lab, wd⟩ (F.getD k 0) = sz at *
            have Hsv := Lib.hid hsv
            generalize hak : S.addr xs F base k = ak at *
            have Hak := Lib.hid hak
            generalize hfk : F.getD k 0 = fk at *
            have Hfk := Lib.hid hfk
            generalize hkk : (S.placesTo xs F base k).length = kk at *
            have Hkk := Lib.hid hkk
            have Hlk := Lib.hid hlk
            generalize (S.outTo xs F base xs.length).length = ln at *
            clear hsv hak hfk hkk hle2 hlk
            obtain ⟨x1, x2, x3⟩ := one_alloc2 wr #[.int .i64 kind, .int .i64 op, .int .i64 d, .int .i64 a, .int .i64 b', .int .i64 imm, .string lab, .int .u32 wd] 44
            go_upto_block 2 with fail
            generalize wr.alloc (.cells #[.int .i64 kind, .int .i64 op, .int .i64 d, .int .i64 a, .int .i64 b', .int .i64 imm, .string lab, .int .u32 wd] 44) = wX at *
            have hX0 : wX.cell? ⟨wr.heap.size, 0, none⟩ = some (.int .i64 kind) := blk_cell x1 0
            have hX1 : wX.cell? ⟨wr.heap.size, 1, none⟩ = some (.int .i64 op) := blk_cell x1 1
            have hX2 : wX.cell? ⟨wr.heap.size, 2, none⟩ = some (.int .i64 d) := blk_cell x1 2
            have hX3 : wX.cell? ⟨wr.heap.size, 3, none⟩ = some (.int .i64 a) := blk_cell x1 3
            have hX4 : wX.cell? ⟨wr.heap.size, 4, none⟩ = some (.int .i64 b') := blk_cell x1 4
            have hX5 : wX.cell? ⟨wr.heap.size, 5, none⟩ = some (.int .i64 imm) := blk_cell x1 5
            have hX6 : wX.cell? ⟨wr.heap.size, 6, none⟩ = some (.string lab) := blk_cell x1 6
            have hX7 : wX.cell? ⟨wr.heap.size, 7, none⟩ = some (.int .u32 wd) := blk_cell x1 7
            have hcf' : wX.cell? ⟨bf, of + k, none⟩ = some (.int .i64 fk) := (x2.cell (p := ⟨bf, of + k, none⟩) g1).trans hcf
            have hzX : wr.heap.size < wX.heap.size := by omega
            have g1' : bf < wX.heap.size := by omega
            clear x1 x3 hc0 hc1 hc2 hc3 hc4 hc5 hc6 hc7 hcf
            go_cut [11, 14] (fun kv n wc => kv = .int .i64 kk ∧ n = .int .i64 sz ∧ wX = wc)
            case first =>
              have hways : (kind = 3 ∧ (fk = 1 ∨ fk = 2 ∨ fk = 3)) ∨ (kind = 4 ∧ (fk = 1 ∨ fk = 2)) ∨ kind = 5 ∨ kind = 8 ∨ (kind = 1 ∨ kind = 6 ∨ kind = 7) := by
                have c2 : kind ≠ 2 := by simpa using d2
                by_cases k3 : kind = 3
                · have := h3 k3; omega
                · by_cases k4 : kind = 4
                  · have := h4 k4; omega
                  · omega
              have Hways := Lib.hid hways
              clear h3 h4 h5 hkx hways d2
              rcases Hways.out with ⟨rfl, rfl | rfl | rfl⟩ | ⟨rfl, rfl | rfl⟩ | rfl | rfl | (rfl | rfl | rfl)
              all_goals
                as_aux_lemma =>
                  have hz := Hsz.out
                  simp at hz
                  subst hz
                  go_wp2_with fail
                  go_meet
                  exact ⟨by simp, by simp, rfl⟩
            case rest =>
              obtain ⟨rfl, rfl, rfl⟩ := hcut
              obtain ⟨wo, hwo⟩ : ∃ wo : World, wo = wr := ⟨_, rfl⟩
              subst hwo
              have hPX := hP.below (hbk.trans (x2.mono hzk))
              have Hrb := Lib.hid (hbk.trans (x2.mono hzk))
              have hlz : (0 : Int) ≤ ak - base := by omega
              have hlz2 : ak - base + sz ≤ co := by omega
              go_upto_region 29 with fail
              have hs34 : kind = 3 ∨ kind = 4 → 1 ≤ sz := by
                have hz := Hsz.out
                simp only at hz
                intro h34
                by_cases k3 : kind = 3
                · have := h3 k3
                  rw [if_neg (by omega)] at hz
                  by_cases f3 : fk = 3
                  · rw [if_pos ⟨k3, f3⟩] at hz; omega
                  · rw [if_neg (by omega), if_pos k3] at hz; omega
                · have k4 : kind = 4 := by omega
                  have := h4 k4
                  rw [if_neg (by omega), if_neg (by omega), if_neg (by omega), if_pos k4] at hz
                  omega
              have Hs34 := Lib.hid hs34
              clear hs34
              go_cut [15] (CutV kind sz (ak - base) Ao co wX)
              case first =>
                by_cases hcl : (ak - base).toNat = co
                · go_wp2_with fail
                  all_goals
                    go_meet
                    refine ⟨_, _, _, rfl, fun h => ?_, rfl⟩
                    have := Hs34.out h
                    omega
                · have hcl2 : ¬ co = (ak - base).toNat := fun h => hcl h.symm
                  go_wp2_with fail
                  all_goals
                    go_meet
                    exact ⟨_, _, _, rfl, fun h => ⟨rfl, by omega, rfl⟩, rfl⟩
              case rest =>
                obtain ⟨A', n', c', rfl, hV, rfl⟩ := hcut
                have HV := Lib.hid hV
                clear hV hlz hlz2
                go_wp2_with fail
                go_loopw [16, 17] (fun tv i wr => ∃ (q n : Nat) (t : Int), q ≤ (S.placesTo xs F base xs.length).length ∧ i = .int .i64 q ∧ tv = .int .i64 t ∧ -1 ≤ t ∧ t ≤ 67108864 ∧
                    ((t = -1 ∧ ∀ (j : Nat) (v : Int), j < q → (S.placesTo xs F base xs.length)[j]? ≠ some (lab, v)) ∨ ∃ j : Nat, (S.placesTo xs F base xs.length)[j]? = some (lab, t)) ∧ wr = wX.drewN n) (fun _ i _ => (S.placesTo xs F base xs.length).length - (intOf i).toNat)
                case atStart => exact ⟨0, 0, -1, by omega, rfl, rfl, by omega, by omega, .inl ⟨rfl, fun j v hj => by omega⟩, rfl⟩
                case round =>
                  obtain ⟨q, n, t, hq, rfl, rfl, t0, t1, hr, rfl⟩ := hrel
                  have Hr := Lib.hid hr
                  clear hr
                  by_cases hltq : q < (S.placesTo xs F base xs.length).length
                  · obtain ⟨bp, op', s, v, rfl, hbp, hpx, hpc0, hpc1⟩ := hPX.at_ hltq
                    have hbpX : bp < wX.heap.size := by omega
                    have hv : 0 ≤ v ∧ v ≤ 67108864 := by
                      obtain ⟨j, e1, e2, e3⟩ := hPs.out q s v hpx
                      have h6 := (addr_bd (base := base) Hok.out Hw.out j).1
                      have h7 := addr_le (base := base) Hok.out Hw.out (i := j) (n := xs.length) (by omega)
                      omega
                    obtain ⟨v0, v1⟩ := hv
                    have Hpx := Lib.hid hpx
                    clear hpx
                    by_cases hs : s = lab
                    · have ds := lab_eq hs
                      have Hs := Lib.hid hs
                      clear hs
                      go_wp2_with fail
                      go_quiet (fail)
                      go_wp2_with fail
                      go_roundw
                      case rel => exact ⟨q + 1, _, v, by omega, by go_num, rfl, (by omega), v1, .inr ⟨q, by rw [Hpx.out, Hs.out]⟩, rfl⟩
                      case measure => simp [intOf]; omega
                    · have ds := lab_ne hs
                      have Hs := Lib.hid hs
                      clear hs
                      go_wp2_with fail
                      go_quiet (fail)
                      go_wp2_with fail
                      go_roundw
                      case rel =>
                        refine ⟨q + 1, _, t, by omega, by go_num, rfl, t0, t1, ?_, rfl⟩
                        rcases Hr.out with ⟨e, hn⟩ | h
                        · refine .inl ⟨e, fun j u hj => ?_⟩
                          by_cases hjq : j = q
                          · subst hjq
                            rw [Hpx.out]
                            intro he
                            simp only [Option.some.injEq, Prod.mk.injEq] at he
                            exact Hs.out he.1
                          · exact hn j u (by omega)
                        · exact .inr h
                      case measure => simp [intOf]; omega
                  · have hqe : q = (S.placesTo xs F base xs.length).length := by omega
                    subst hqe
                    have hnm : (kind = 3 ∨ kind = 4) → ∃ j : Nat, S.stands xs lab = j ∧ S.addr xs F base j = t ∧ 0 ≤ t := by
                      intro kk'
                      have hnm : S.named ⟨kind, ⟨op, d, a, b', imm⟩, lab, wd⟩ = true := named_34H kk'
                      have h0 := named_stands Hchk.out Hx.out hnm
                      obtain ⟨j, hj, hjl⟩ : ∃ j : Nat, S.stands xs lab = j ∧ j < xs.length := by
                        rcases stands_spec xs lab with ⟨e, _⟩ | ⟨j, y, e, hj, _⟩
                        · simp only at h0; omega
                        · exact ⟨j, e, (List.getElem?_eq_some_iff.1 hj).1⟩
                      have htj : S.addr xs F base j = t := by
                        obtain ⟨q', hq'⟩ := places_has (F := F) (base := base) hj xs.length hjl
                        rcases Hr.out with ⟨_, hn⟩ | ⟨i', hi'⟩
                        · exact absurd hq' (hn q' _ (List.getElem?_eq_some_iff.1 hq').1)
                        · obtain ⟨j', e1, e2, _⟩ := hPs.out i' lab t hi'
                          have : j' = j := by omega
                          rw [e2, this]
                      have := (addr_bd (base := base) Hok.out Hw.out j).1
                      exact ⟨j, hj, htj, by omega⟩
                    have Hnm := Lib.hid hnm
                    have hbfin : Below w2.heap.size w2 (wX.drewN n) := below_drewN Hrb.out n
                    have hzf := hbfin.size
                    have Hbfin := Lib.hid hbfin
                    clear hbfin hnm h3 h4 h5 hkx
                    have hak0 : 0 ≤ ak := by omega
                    have hak1 : ak ≤ 67108864 := by omega
                    by_cases k3 : kind = 3
                    · subst k3
                      obtain ⟨j, hj, htj, ht0⟩ := Hnm.out (.inl rfl)
                      obtain ⟨hA', hn', hc'⟩ := HV.out (.inl rfl)
                      have hbw := branch_ways (base := base) hchk0.out Hsta.out Hx.out rfl hj (by rw [htj]; omega) (by rw [htj]; omega) ak t fk Hak.out htj Hfk.out
                      have hz := Hsz.out
                      have hwl : 0 < (S.wordsAt xs F base k).length := by
                        rcases hbw with ⟨_, _, h⟩ | ⟨_, _, _, h⟩ | ⟨_, _, _, _, _, h⟩ <;> rw [h] <;> simp
                      obtain ⟨bo, oo, rfl, hbo, hcell⟩ := own_cells (w := wX.drewN n) hO hlt Hbfin.out hwl
                      have hlo' : (ak - base).toNat = (S.outTo xs F base k).length := by have := Hlk.out; omega
                      have hcap : (S.outTo xs F base k).length + sz.toNat ≤ co := by omega
                      rw [hlo', Option.map_some, Addr.add_mk] at hA'
                      rw [hlo'] at hc'
                      generalize (S.outTo xs F base k).length = lo at *
                      subst hA' hc' hn'
                      have Hbw := Lib.hid hbw
                      have Hcell := Lib.hid hcell
                      have hboX : bo < (wX.drewN n).heap.size := by have := Hbfin.out.size; omega
                      clear hj htj hbw hcell hlo' HV hwl
                      simp only at hz
                      rcases Hbw.out with ⟨rfl, hg, hW⟩ | ⟨rfl, hg, hg2, hW⟩ | ⟨rfl, hg, hg1, hg2, hg3, hW⟩
                      · as_aux_lemma =>
                          simp at hz
                          subst hz
                          have hc0 := Hcell.out 0 _ (by rw [hW]; rfl)
                          have ht := law_takes_1 3 op d a b' imm lab wd (t - ak - 1) hg bo (oo + lo) (co - lo) ak (wX.drewN n) hboX hc0 hak0 hak1
                          rw [show ak + 1 + (t - ak - 1) = t from by omega] at ht
                          have Ht := Lib.hid ht
                          clear ht hg hW hc0
                          go_wp2_with fail
                          refine Ht.out.mono ?_
                          rintro e w5 ⟨rfl, hb5⟩
                          go_wp2_with fail
                          go_roundw
                          case rel => exact ⟨k + 1, by omega, by go_num, by rw [Hsa.out], by rw [Hpk0.out], (Hbfin.out.trans (hb5.mono (by omega)))⟩
                          case measure => simp [intOf]; omega
                      · as_aux_lemma =>
                          simp at hz
                          subst hz
                          have hc0 := Hcell.out 0 _ (by rw [hW]; rfl)
                          have hc1 := Hcell.out 1 _ (by rw [hW]; rfl)
                          have ht := law_takes_2 3 op d a b' imm lab wd ⟨32, 0, 0, 0, t - ak - 2⟩ hg hg2 bo (oo + lo) (co - lo) ak (wX.drewN n) hboX hc0 hc1 (by omega) (by unfold maxLen; omega) hak0 hak1
                          simp only at ht
                          rw [show ak + 1 + 1 + (t - ak - 2) = t from by omega] at ht
                          have Ht := Lib.hid ht
                          clear ht hg hg2 hW hc0 hc1
                          go_wp2_with fail
                          refine Ht.out.mono ?_
                          rintro e w5 ⟨rfl, hb5⟩
                          go_wp2_with fail
                          go_roundw
                          case rel => exact ⟨k + 1, by omega, by go_num, by rw [Hsa.out], by rw [Hpk0.out], (Hbfin.out.trans (hb5.mono (by omega)))⟩
                          case measure => simp [intOf]; omega
                      · as_aux_lemma =>
                          simp at hz
                          subst hz
                          have hc0 := Hcell.out 0 _ (by rw [hW]; rfl)
                          have hc1 := Hcell.out 1 _ (by rw [hW]; rfl)
                          have hc2 := Hcell.out 2 _ (by rw [hW]; rfl)
                          have hc3 := Hcell.out 3 _ (by rw [hW]; rfl)
                          have ht := law_takes_4 3 op d a b' imm lab wd t ht0 t1 hg1 hg2 hg3 hg bo (oo + lo) (co - lo) ak (wX.drewN n) hboX hc0 hc1 hc2 hc3 (by omega) (by unfold maxLen; omega) hak0 hak1
                          have Ht := Lib.hid ht
                          clear ht hg hg1 hg2 hg3 hW hc0 hc1 hc2 hc3
                          go_wp2_with fail
                          refine Ht.out.mono ?_
                          rintro e w5 ⟨rfl, hb5⟩
                          go_wp2_with fail
                          go_roundw
                          case rel => exact ⟨k + 1, by omega, by go_num, by rw [Hsa.out], by rw [Hpk0.out], (Hbfin.out.trans (hb5.mono (by omega)))⟩
                          case measure => simp [intOf]; omega
                    · by_cases k4 : kind = 4
                      · subst k4
                        obtain ⟨j, hj, htj, ht0⟩ := Hnm.out (.inr rfl)
                        obtain ⟨hA', hn', hc'⟩ := HV.out (.inr rfl)
                        have hbw := jump_ways (base := base) hchk0.out Hsta.out Hx.out rfl hj (by rw [htj]; omega) (by rw [htj]; omega) ak t fk Hak.out htj Hfk.out
                        have hz := Hsz.out
                        have hwl : 0 < (S.wordsAt xs F base k).length := by
                          rcases hbw with ⟨_, _, h⟩ | ⟨_, _, _, _, h⟩ <;> rw [h] <;> simp
                        obtain ⟨bo, oo, rfl, hbo, hcell⟩ := own_cells (w := wX.drewN n) hO hlt Hbfin.out hwl
                        have hlo' : (ak - base).toNat = (S.outTo xs F base k).length := by have := Hlk.out; omega
                        have hcap : (S.outTo xs F base k).length + sz.toNat ≤ co := by omega
                        rw [hlo', Option.map_some, Addr.add_mk] at hA'
                        rw [hlo'] at hc'
                        generalize (S.outTo xs F base k).length = lo at *
                        subst hA' hc' hn'
                        have Hbw := Lib.hid hbw
                        have Hcell := Lib.hid hcell
                        have hboX : bo < (wX.drewN n).heap.size := by have := Hbfin.out.size; omega
                        clear hj htj hbw hcell hlo' HV hwl k3
                        simp only at hz
                        have htt : (t != t) = false := by simp
                        rcases Hbw.out with ⟨rfl, hg, hW⟩ | ⟨rfl, hg1, hg2, hg3, hW⟩
                        · as_aux_lemma =>
                            simp at hz
                            subst hz
                            have hc0 := Hcell.out 0 _ (by rw [hW]; rfl)
                            have ht := law_lands_1 ⟨32, d, 0, 0, t - ak - 1⟩ hg bo (oo + lo) (co - lo) ak (wX.drewN n) hboX hc0 hak0 (by omega)
                            simp only at ht
                            rw [show ak + 1 + (t - ak - 1) = t from by omega] at ht
                            have Ht := Lib.hid ht
                            clear ht hg hW hc0
                            go_wp2_with fail
                            refine Ht.out.mono ?_
                            rintro e w5 ⟨rfl, hb5⟩
                            have hz5 := hb5.size
                            obtain ⟨hc5, hd5⟩ := bcell hb5
                            have g5 : wo.heap.size < (wX.drewN n).heap.size := hzX
                            have g6 : wo.heap.size < w5.heap.size := Nat.lt_of_lt_of_le g5 hz5
                            have hY0 : w5.cell? ⟨wo.heap.size, 0, none⟩ = some (.int .i64 4) := (hc5 _ _ g5).trans hX0
                            clear hc5 hd5
                            go_wp2_with fail
                            go_roundw
                            case rel => exact ⟨k + 1, by omega, by go_num, by rw [Hsa.out], by rw [Hpk0.out], (Hbfin.out.trans (hb5.mono (by omega)))⟩
                            case measure => simp [intOf]; omega
                        · as_aux_lemma =>
                            simp at hz
                            subst hz
                            have hc0 := Hcell.out 0 _ (by rw [hW]; rfl)
                            have hc1 := Hcell.out 1 _ (by rw [hW]; rfl)
                            have hc2 := Hcell.out 2 _ (by rw [hW]; rfl)
                            have ht := law_lands_3 t d ht0 t1 hg1 hg2 hg3 bo (oo + lo) (co - lo) ak (wX.drewN n) hboX hc0 hc1 hc2
                            have Ht := Lib.hid ht
                            clear ht hg1 hg2 hg3 hW hc0 hc1 hc2
                            go_wp2_with fail
                            refine Ht.out.mono ?_
                            rintro e w5 ⟨rfl, hb5⟩
                            have hz5 := hb5.size
                            obtain ⟨hc5, hd5⟩ := bcell hb5
                            have g5 : wo.heap.size < (wX.drewN n).heap.size := hzX
                            have g6 : wo.heap.size < w5.heap.size := Nat.lt_of_lt_of_le g5 hz5
                            have hY0 : w5.cell? ⟨wo.heap.size, 0, none⟩ = some (.int .i64 4) := (hc5 _ _ g5).trans hX0
                            clear hc5 hd5
                            go_wp2_with fail
                            go_roundw
                            case rel => exact ⟨k + 1, by omega, by go_num, by rw [Hsa.out], by rw [Hpk0.out], (Hbfin.out.trans (hb5.mono (by omega)))⟩
                            case measure => simp [intOf]; omega
                      · as_aux_lemma =>
                          have d3 := int_bne k3
                          have d4 := int_bne k4
                          clear k3 k4 HV
                          go_wp2_with fail
                          go_roundw
                          case rel => exact ⟨k + 1, by omega, by go_num, by rw [Hsa.out], by rw [Hpk0.out], Hbfin.out⟩
                          case measure => simp [intOf]; omega
        · have hkn : k = xs.length := by omega
          subst hkn
          have hend : (S.addr xs F base xs.length - base == ((S.outTo xs F base xs.length).length : Int)) = true := by rw [hlo.out]; simp
          go_wp2_with fail
          refine (law_awake _).mono ?_
          rintro e w3 ⟨rfl, hb3⟩
          go_wp2_with fail
          go_ret
          exact ⟨rfl, (hb02.trans (hbk.mono hz2)).trans (hb3.mono (by omega))⟩

end Go.Proofs.Ytfdmbjkofchhiaa
