/- Walk of pennantref03.Assemble. -/
import Derived.Test.YtbgdomnalimjnaaAsmG
import Derived.Test.YtbgdomnalimjnaaAsmH
import Derived.Test.YtbgdomnalimjnaaAsmOut
set_option linter.unusedVariables false
set_option linter.unusedSimpArgs false
set_option linter.unusedSectionVars false
namespace Go.Proofs.Ytbgdomnalimjnaa
open Go.RowKit

theorem place_info : (Try.prog.info? 64).map (fun i => (i.zero, i.size, i.bytes)) = some (some (.agg #[.string ByteArray.empty, .int .i64 0]), 2, 24) := by kernel_rfl

def placeCells (p : ByteArray × Int) : List Value := [.string p.1, .int .i64 p.2]

/-- What an assembler's results are: words, places, an error. -/
def Assembled (w : World) (xs : List S.Item) (base : Int) (e : Ending) (w' : World) : Prop :=
  ∃ vo vp r F, e = .returned (.tuple #[vo, vp, .int .i64 r]) ∧ S.FormsRes xs base r F ∧
    w'.ownsRow w.heap.size 34 1 vo (if r = 0 then S.outTo xs F base xs.length else []).length ((if r = 0 then S.outTo xs F base xs.length else []).map (Value.int .u32)) ∧
    w'.ownsRow w.heap.size 64 2 vp (if r = 0 then S.placesTo xs F base xs.length else []).length ((if r = 0 then S.placesTo xs F base xs.length else []).flatMap placeCells) ∧
    Below w.heap.size w w'

set_option maxRecDepth 100000 in
set_option maxHeartbeats 8000000 in
theorem ref_Assemble (A : Option Addr) (c : Nat) (xs : List S.Item) (base : Int) (w : World) (hi : Items w w.heap.size A xs) (hl : xs.length ≤ 1048576) :
    Calls Try.prog 62 #[.slice A xs.length c, .int .i64 base] w (Assembled w xs base) := by
  have hw := Lib.hid hi.words
  go_enter Try.func62, Try.ntmps62
  go_wp2_with fail
  refine (ref_Forms _ _ _ _ _ hi hl).mono ?_
  rintro e w1 ⟨vF, r, F, rfl, hres, hoF, hb1⟩
  have hz1 := hb1.size
  by_cases hr : r = 0
  · subst hr
    have hfr : S.CheckRes xs base 0 ∧ S.Inv xs base F ∧ S.Stable xs base F ∧ S.addr xs F base xs.length ≤ 67108864 := by
      rcases hres with ⟨h, _⟩ | ⟨_, h, _⟩ | ⟨h1, _, h3, h4, h5⟩
      · exact absurd rfl h
      · omega
      · exact ⟨h1, h3, h4, h5⟩
    have Hres := Lib.hid hres
    obtain ⟨hchk, hinv, hsta, htot⟩ := hfr
    have Hchk := Lib.hid hchk
    have hk := Lib.hid (kinds_ok (firstErr_of hchk))
    obtain ⟨hb0, hb26⟩ := base_ok hchk
    have Hok := Lib.hid hinv.1
    have HFl := Lib.hid hinv.1.1
    clear hres hchk hinv hsta
    rw [HFl.out] at hoF
    obtain ⟨Af, cf, rfl⟩ := ownsRow_form hoF
    have hi1 : Items w1 w1.heap.size A xs := (hi.below hb1).more hz1
    have hIF : Ints w1 w1.heap.size Af F := Ints.of_own hoF
    have hAt := ref_At A Af c cf xs F base w1 hi1 hIF Hok.out hl hb0 hb26 hw.out
    rw [HFl.out] at hAt
    have HAt := Lib.hid hAt
    clear hAt
    go_wp2_with fail
    refine HAt.out.mono ?_
    rintro e w2 ⟨va, rfl, hoa, hb2⟩
    obtain ⟨Aa, ca, rfl⟩ := ownsRow_form hoa
    have hb12 := hb1.trans (hb2.mono hz1)
    have hz2 := hb12.size
    have hoF2 := ownsRow_below hoF hb2
    have hoa' := ownsRow_base hoa hz1
    go_wp2_with fail
    go_loopw [10, 11, 12] (fun vo vp i wr => ∃ k : Nat, k ≤ xs.length ∧ i = .int .i64 k ∧ wr.ownsRow w.heap.size 34 1 vo (S.outTo xs F base k).length ((S.outTo xs F base k).map (Value.int .u32)) ∧
        wr.ownsRow w.heap.size 64 2 vp (S.placesTo xs F base k).length ((S.placesTo xs F base k).flatMap placeCells) ∧
        wr.ownsRow w.heap.size 3 1 (.slice Af xs.length cf) xs.length (F.map (Value.int .i64)) ∧ wr.ownsRow w.heap.size 3 1 (.slice Aa (xs.length + 1) ca) (xs.length + 1) ((addrs xs F base (xs.length + 1)).map (Value.int .i64)) ∧
        Below w.heap.size w wr) (fun _ _ i _ => xs.length - (intOf i).toNat)
    case atStart => exact ⟨0, by omega, rfl, World.ownsRow_nil _ _ _ _, World.ownsRow_nil _ _ _ _, hoF2, hoa', hb12⟩
    case round =>
      obtain ⟨k, hkl, rfl, hoo, hop, hoF3, hoa3, hbk⟩ := hrel
      clear hoF hoF2 hoa hoa'
      have hzk := hbk.size
      by_cases hlt : k < xs.length
      · obtain ⟨b, off, x, rfl, hb, hx, hc0, hc1, hc2, hc3, hc4, hc5, hc6, hc7, hw0, hw1⟩ := (hi.below hbk).at_ hlt
        have hbr : b < wr.heap.size := Nat.lt_of_lt_of_le hb hzk
        have hiw := hi.below hbk
        obtain ⟨gF, oF, rfl, hgF, hcF⟩ := (Ints.of_own hoF3).at_ (k := k) (by rw [HFl.out]; exact hlt)
        obtain ⟨gA, oA, rfl, hgA, hcA⟩ := (Ints.of_own hoa3).two (by rw [addrs_length]; omega)
        have hcAk := hcA k _ (addrs_some xs F base _ k (by omega))
        obtain ⟨h3, h4, h5⟩ := Hok.out.2 k x hx
        have hkx := hk.out x (List.mem_of_getElem? hx)
        have hsz := words_length (a := S.addr xs F base k) (t := S.toOf xs F base x) hkx h3 h4 hw0
        have hle1 := addr_le (base := base) Hok.out hw.out (i := k) (n := xs.length) hkl
        have hle2 := addr_le (base := base) Hok.out hw.out (i := k + 1) (n := xs.length) hlt
        have hge := (addr_bd (base := base) Hok.out hw.out k).1
        have hsa : S.addr xs F base (k + 1) = S.addr xs F base k + S.size x (F.getD k 0) := by rw [S.addr]; simp [S.sizeAt, hx]
        have h8 : x.kind = 8 → x.word ≤ 67108864 := by
          intro h
          have : S.size x (F.getD k 0) = x.word := by simp [S.size, h]
          omega
        have hout := Lib.hid (outTo_length (base := base) Hok.out hk.out hw.out k)
        have hwat : S.wordsAt xs F base k = S.wordsOf x (F.getD k 0) (S.addr xs F base k) (S.toOf xs F base x) := by simp [S.wordsAt, hx]
        have hpat : S.placeAt xs F base k = if x.kind = 2 then [(x.label, S.addr xs F base k)] else [] := by simp [S.placeAt, hx]
        have hol : ((S.outTo xs F base k).length : Int) ≤ 67108864 := by rw [hout.out]; omega
        have hwl : (S.wordsAt xs F base k).length ≤ 67108864 := by
          have := wordsAt_length (base := base) Hok.out hk.out hw.out k
          have h9 : S.sizeAt xs F k = S.size x (F.getD k 0) := by simp [S.sizeAt, hx]
          omega
        have Hwat := Lib.hid hwat
        have Hpat := Lib.hid hpat
        have Hx := Lib.hid hx
        have hpl := placesTo_length xs F base k
        clear hsz hsa hwat hpat hx
        have hnam : S.named x = false ∧ S.toOf xs F base x = 0 ∨ S.named x = true ∧ ∃ j : Nat, S.stands xs x.label = j ∧ j < xs.length ∧ S.toOf xs F base x = S.addr xs F base j := by
          cases hn : S.named x
          · left; simp [S.toOf, hn]
          · right
            have h0 := named_stands Hchk.out Hx.out hn
            rcases stands_spec xs x.label with ⟨e, _⟩ | ⟨j, y, e, hj, _⟩
            · omega
            · exact ⟨rfl, j, e, (List.getElem?_eq_some_iff.1 hj).1, by simp [S.toOf, hn, e]⟩
        have htob := toOf_bd (base := base) Hok.out hw.out hb0 htot x
        generalize htv : S.toOf xs F base x = tv at *
        have Htv := Lib.hid htv
        clear htv
        obtain ⟨kind, ⟨op, d, a, b', imm⟩, lab, wd⟩ := x
        simp only at hc0 hc1 hc2 hc3 hc4 hc5 hc6 hc7 hw0 hw1 h3 h4 h5 h8 hnam
        generalize hak : S.addr xs F base k = ak at *
        have Hak := Lib.hid hak
        clear hak
        generalize hfk : F.getD k 0 = fk at *
        have Hfk := Lib.hid hfk
        clear hfk
        obtain ⟨ht0, ht1⟩ := htob
        have hFl : F.length ≤ 1048576 ∧ k < F.length := by rw [HFl.out]; omega
        have hl3 : b < wr.heap.size ∧ gF < wr.heap.size ∧ gA < wr.heap.size := ⟨hbr, hgF, hgA⟩
        have hn2 : S.named ⟨kind, ⟨op, d, a, b', imm⟩, lab, wd⟩ = true → kind ≠ 2 := by
          intro h h2; subst h2; simp [S.named] at h
        have Hn2 := Lib.hid hn2
        clear hn2
        obtain ⟨hFl1, hFl2⟩ := hFl
        rcases hnam with ⟨hn, htz⟩ | ⟨hn, j, hj, hjl, htj⟩
        · subst htz
          clear hcA
          go_wp2_with fail
          refine (ref_Named _ _ _ _ _ _ _ _ _).mono ?_
          rintro e w3 ⟨rfl, hbn⟩
          obtain ⟨hq1, hq2⟩ := bcell hbn
          have hzn := hbn.size
          have hm1 : b < w3.heap.size ∧ gF < w3.heap.size ∧ gA < w3.heap.size := by omega
          have Hn := Lib.hid hn
          go_wp2_with fail
          obtain ⟨hm1, hm2, hm3⟩ := hm1
          have hE := ext_cells w3
          refine wp_region_ext_plan 14 1 [0, 1, 2, 3, 4, 5, 6, 7, 8, 9, 10, 11, 12, 13] (by kernel_rfl) (by kernel_rfl) (fun _ _ _ _ _ h => h) ?_
          repeat (first
            | (refine plan_cons rfl ?_; go_big_quiet_step (fail)))
          refine wpQuiet_nil ?_
          rintro _ ⟨⟨w4, hb4⟩, rfl⟩
          simp only [List.drop_succ_cons, List.drop_zero]
          clear hE
          go_wp2_with fail
          refine (ref_Words _ _ _ _ _ _ _ _ _ _ _ _ h3 h4 h8 hw0 hw1 ht0 ht1 (by omega) (by omega)).mono ?_
          rintro e w5 ⟨vw, rfl, how, hb5⟩
          have hrw : S.wordsOf ⟨kind, ⟨op, d, a, b', imm⟩, lab, wd⟩ fk ak 0 = S.wordsAt xs F base k := Hwat.out.symm
          rw [hrw] at how
          clear hrw
          obtain ⟨Aw, cw, rfl⟩ := ownsRow_form how
          have hz4 := hb4.size
          have hz5 := hb5.size
          have hb35 : Below wr.heap.size wr w5 := (hbn.trans (hb4.mono hzn)).trans (hb5.mono (by omega))
          have hoo5 := ownsRow_below hoo hb35
          have hop5 := ownsRow_below hop hb35
          have hoF5 := ownsRow_below hoF3 hb35
          have hoa5 := ownsRow_below hoa3 hb35
          have hrd := Reads.of_own how
          have hAw : Aw = none → (S.wordsAt xs F base k).length = 0 := ownsRow_none how
          have hz35 := hb35.size
          by_cases c2 : kind = 2
          · have d2 := int_beq c2
            have C2 := Lib.hid c2
            clear c2
            go_wp2_with (at_builtin
                         refine wpList_appends rfl (.tmp 48) (.tmp 62) _ rfl w.heap.size 34 u32_info Try.underlying22 rfl _ _ _ rfl hoo5 _ Aw _ cw ((S.wordsAt xs F base k).map (Value.int .u32)) rfl (by simp) hAw hrd (by simp [Value.oneCell']) (by simp only [maxLen]; omega) (by omega) (by omega) ?_
                         intro vo' w6 hoo6 hg6 hb6 hat6
                         have hop6 := ownsRow_other hop5 hoo5 (by decide) hg6
                         have hoF6 := ownsRow_other hoF5 hoo5 (by decide) hg6
                         have hoa6 := ownsRow_other hoa5 hoo5 (by decide) hg6
                         have hbw6 : Below w.heap.size w w6 := (hbk.trans (hb35.mono hzk)).trans hb6
                         have hd0 : w6.cell? ⟨b, off + k * 8, none⟩ = some (.int .i64 kind) := ((hb35.mono hzk).trans hb6).cell (p := ⟨b, off + k * 8, none⟩) hb |>.trans hc0
                         have hd6 : w6.cell? ⟨b, off + k * 8 + 6, none⟩ = some (.string lab) := ((hb35.mono hzk).trans hb6).cell (p := ⟨b, off + k * 8 + 6, none⟩) hb |>.trans hc6
                         have hz6 := hbw6.size)
            obtain ⟨b6, o6, he6, hg6', hcA6⟩ := (Ints.of_own hoa6).some_ (addrs_some xs F base _ k (by omega))
            cases he6
            rw [Hak.out] at hcA6
            have hb6r : b < w6.heap.size := by omega
            have hE := ext_cells w6
            refine wp_region_ext_plan 11 1 [0, 1, 2, 3, 4, 5, 6, 7, 8, 9, 10] (by kernel_rfl) (by kernel_rfl) (fun _ _ _ _ _ h => h) ?_
            repeat (first
              | (refine plan_cons rfl ?_; go_big_quiet_step (fail)))
            refine wpQuiet_nil ?_
            rintro _ ⟨⟨w7, hb7⟩, rfl⟩
            simp only [List.drop_succ_cons, List.drop_zero]
            clear hE
            have hoo7 := ownsRow_below hoo6 hb7
            have hop7 := ownsRow_below hop6 hb7
            have hoF7 := ownsRow_below hoF6 hb7
            have hoa7 := ownsRow_below hoa6 hb7
            have hbw7 := hbw6.trans (hb7.mono hz6)
            have hz7 := hbw7.size
            go_wp2_with (at_builtin
                         refine wpList_push rfl (.tmp 70) (.tmp 81) _ rfl w.heap.size 64 place_info Try.underlying49 rfl (by decide) #[.string lab, .int .i64 ak] _ _ _ rfl hop7 rfl rfl rfl (by simp [Value.oneCell']) (by simp only [maxLen]; omega) (by omega) hz7 ?_
                         intro vp' w8 hop8 hg8 hb8 hat8)
            go_roundw
            case rel =>
              refine ⟨k + 1, by omega, by go_num, ?_, ?_, ownsRow_other hoF7 hop7 (by decide) hg8, ownsRow_other hoa7 hop7 (by decide) hg8, hbw7.trans hb8⟩
              · rw [S.outTo, List.length_append, List.map_append]
                exact ownsRow_other hoo7 hop7 (by decide) hg8
              · have e : S.placeAt xs F base k = [(lab, ak)] := by rw [Hpat.out]; simp [C2.out]
                rw [S.placesTo, e, List.length_append, List.flatMap_append]
                simpa [placeCells] using hop8
            case measure => simp [intOf]; omega
          · have d2 := int_bne c2
            have C2 := Lib.hid c2
            clear c2
            go_wp2_with (at_builtin
                         refine wpList_appends rfl (.tmp 48) (.tmp 62) _ rfl w.heap.size 34 u32_info Try.underlying22 rfl _ _ _ rfl hoo5 _ Aw _ cw ((S.wordsAt xs F base k).map (Value.int .u32)) rfl (by simp) hAw hrd (by simp [Value.oneCell']) (by simp only [maxLen]; omega) (by omega) (by omega) ?_
                         intro vo' w6 hoo6 hg6 hb6 hat6
                         have hop6 := ownsRow_other hop5 hoo5 (by decide) hg6
                         have hoF6 := ownsRow_other hoF5 hoo5 (by decide) hg6
                         have hoa6 := ownsRow_other hoa5 hoo5 (by decide) hg6
                         have hbw6 : Below w.heap.size w w6 := (hbk.trans (hb35.mono hzk)).trans hb6
                         have hd0 : w6.cell? ⟨b, off + k * 8, none⟩ = some (.int .i64 kind) := ((hb35.mono hzk).trans hb6).cell (p := ⟨b, off + k * 8, none⟩) hb |>.trans hc0
                         have hd6 : w6.cell? ⟨b, off + k * 8 + 6, none⟩ = some (.string lab) := ((hb35.mono hzk).trans hb6).cell (p := ⟨b, off + k * 8 + 6, none⟩) hb |>.trans hc6
                         have hz6 := hbw6.size)
            go_roundw
            case rel =>
              refine ⟨k + 1, by omega, by go_num, ?_, ?_, hoF6, hoa6, hbw6⟩
              · rw [S.outTo, List.length_append, List.map_append]
                exact hoo6
              · have e : S.placeAt xs F base k = [] := by rw [Hpat.out]; simp [C2.out]
                rw [S.placesTo, e, List.append_nil]
                exact hop6
            case measure => simp [intOf]; omega
        · have hcAj := hcA j _ (addrs_some xs F base _ j (by omega))
          rw [← htj] at hcAj
          clear hcA htj
          go_wp2_with fail
          refine (ref_Named _ _ _ _ _ _ _ _ _).mono ?_
          rintro e w3 ⟨rfl, hbn⟩
          obtain ⟨hq1, hq2⟩ := bcell hbn
          have hzn := hbn.size
          have hm1 : b < w3.heap.size ∧ gF < w3.heap.size ∧ gA < w3.heap.size := by omega
          have Hn := Lib.hid hn
          go_wp2_with (go_at_call 93; refine (ref_stands _ _ _ _ _ _ ((hiw.more hzk).below hbn) hl).mono ?_; rintro e w' ⟨rfl, rfl⟩)
          obtain ⟨hm1, hm2, hm3⟩ := hm1
          have hE := ext_cells w3
          refine wp_region_ext_plan 14 1 [0, 1, 2, 3, 4, 5, 6, 7, 8, 9, 10, 11, 12, 13] (by kernel_rfl) (by kernel_rfl) (fun _ _ _ _ _ h => h) ?_
          repeat (first
            | (refine plan_cons rfl ?_; go_big_quiet_step (fail)))
          refine wpQuiet_nil ?_
          rintro _ ⟨⟨w4, hb4⟩, rfl⟩
          simp only [List.drop_succ_cons, List.drop_zero]
          clear hE
          go_wp2_with fail
          refine (ref_Words _ _ _ _ _ _ _ _ _ _ _ _ h3 h4 h8 hw0 hw1 ht0 ht1 (by omega) (by omega)).mono ?_
          rintro e w5 ⟨vw, rfl, how, hb5⟩
          have hrw : S.wordsOf ⟨kind, ⟨op, d, a, b', imm⟩, lab, wd⟩ fk ak tv = S.wordsAt xs F base k := Hwat.out.symm
          rw [hrw] at how
          clear hrw
          obtain ⟨Aw, cw, rfl⟩ := ownsRow_form how
          have hz4 := hb4.size
          have hz5 := hb5.size
          have hb35 : Below wr.heap.size wr w5 := (hbn.trans (hb4.mono hzn)).trans (hb5.mono (by omega))
          have hoo5 := ownsRow_below hoo hb35
          have hop5 := ownsRow_below hop hb35
          have hoF5 := ownsRow_below hoF3 hb35
          have hoa5 := ownsRow_below hoa3 hb35
          have hrd := Reads.of_own how
          have hAw : Aw = none → (S.wordsAt xs F base k).length = 0 := ownsRow_none how
          have hz35 := hb35.size
          by_cases c2 : kind = 2
          · have d2 := int_beq c2
            have C2 := Lib.hid c2
            clear c2
            go_wp2_with (at_builtin
                         refine wpList_appends rfl (.tmp 48) (.tmp 62) _ rfl w.heap.size 34 u32_info Try.underlying22 rfl _ _ _ rfl hoo5 _ Aw _ cw ((S.wordsAt xs F base k).map (Value.int .u32)) rfl (by simp) hAw hrd (by simp [Value.oneCell']) (by simp only [maxLen]; omega) (by omega) (by omega) ?_
                         intro vo' w6 hoo6 hg6 hb6 hat6
                         have hop6 := ownsRow_other hop5 hoo5 (by decide) hg6
                         have hoF6 := ownsRow_other hoF5 hoo5 (by decide) hg6
                         have hoa6 := ownsRow_other hoa5 hoo5 (by decide) hg6
                         have hbw6 : Below w.heap.size w w6 := (hbk.trans (hb35.mono hzk)).trans hb6
                         have hd0 : w6.cell? ⟨b, off + k * 8, none⟩ = some (.int .i64 kind) := ((hb35.mono hzk).trans hb6).cell (p := ⟨b, off + k * 8, none⟩) hb |>.trans hc0
                         have hd6 : w6.cell? ⟨b, off + k * 8 + 6, none⟩ = some (.string lab) := ((hb35.mono hzk).trans hb6).cell (p := ⟨b, off + k * 8 + 6, none⟩) hb |>.trans hc6
                         have hz6 := hbw6.size)
            obtain ⟨b6, o6, he6, hg6', hcA6⟩ := (Ints.of_own hoa6).some_ (addrs_some xs F base _ k (by omega))
            cases he6
            rw [Hak.out] at hcA6
            have hb6r : b < w6.heap.size := by omega
            have hE := ext_cells w6
            refine wp_region_ext_plan 11 1 [0, 1, 2, 3, 4, 5, 6, 7, 8, 9, 10] (by kernel_rfl) (by kernel_rfl) (fun _ _ _ _ _ h => h) ?_
            repeat (first
              | (refine plan_cons rfl ?_; go_big_quiet_step (fail)))
            refine wpQuiet_nil ?_
            rintro _ ⟨⟨w7, hb7⟩, rfl⟩
            simp only [List.drop_succ_cons, List.drop_zero]
            clear hE
            have hoo7 := ownsRow_below hoo6 hb7
            have hop7 := ownsRow_below hop6 hb7
            have hoF7 := ownsRow_below hoF6 hb7
            have hoa7 := ownsRow_below hoa6 hb7
            have hbw7 := hbw6.trans (hb7.mono hz6)
            have hz7 := hbw7.size
            go_wp2_with (at_builtin
                         refine wpList_push rfl (.tmp 70) (.tmp 81) _ rfl w.heap.size 64 place_info Try.underlying49 rfl (by decide) #[.string lab, .int .i64 ak] _ _ _ rfl hop7 rfl rfl rfl (by simp [Value.oneCell']) (by simp only [maxLen]; omega) (by omega) hz7 ?_
                         intro vp' w8 hop8 hg8 hb8 hat8)
            go_roundw
            case rel =>
              refine ⟨k + 1, by omega, by go_num, ?_, ?_, ownsRow_other hoF7 hop7 (by decide) hg8, ownsRow_other hoa7 hop7 (by decide) hg8, hbw7.trans hb8⟩
              · rw [S.outTo, List.length_append, List.map_append]
                exact ownsRow_other hoo7 hop7 (by decide) hg8
              · have e : S.placeAt xs F base k = [(lab, ak)] := by rw [Hpat.out]; simp [C2.out]
                rw [S.placesTo, e, List.length_append, List.flatMap_append]
                simpa [placeCells] using hop8
            case measure => simp [intOf]; omega
          · have d2 := int_bne c2
            have C2 := Lib.hid c2
            clear c2
            go_wp2_with (at_builtin
                         refine wpList_appends rfl (.tmp 48) (.tmp 62) _ rfl w.heap.size 34 u32_info Try.underlying22 rfl _ _ _ rfl hoo5 _ Aw _ cw ((S.wordsAt xs F base k).map (Value.int .u32)) rfl (by simp) hAw hrd (by simp [Value.oneCell']) (by simp only [maxLen]; omega) (by omega) (by omega) ?_
                         intro vo' w6 hoo6 hg6 hb6 hat6
                         have hop6 := ownsRow_other hop5 hoo5 (by decide) hg6
                         have hoF6 := ownsRow_other hoF5 hoo5 (by decide) hg6
                         have hoa6 := ownsRow_other hoa5 hoo5 (by decide) hg6
                         have hbw6 : Below w.heap.size w w6 := (hbk.trans (hb35.mono hzk)).trans hb6
                         have hd0 : w6.cell? ⟨b, off + k * 8, none⟩ = some (.int .i64 kind) := ((hb35.mono hzk).trans hb6).cell (p := ⟨b, off + k * 8, none⟩) hb |>.trans hc0
                         have hd6 : w6.cell? ⟨b, off + k * 8 + 6, none⟩ = some (.string lab) := ((hb35.mono hzk).trans hb6).cell (p := ⟨b, off + k * 8 + 6, none⟩) hb |>.trans hc6
                         have hz6 := hbw6.size)
            go_roundw
            case rel =>
              refine ⟨k + 1, by omega, by go_num, ?_, ?_, hoF6, hoa6, hbw6⟩
              · rw [S.outTo, List.length_append, List.map_append]
                exact hoo6
              · have e : S.placeAt xs F base k = [] := by rw [Hpat.out]; simp [C2.out]
                rw [S.placesTo, e, List.append_nil]
                exact hop6
            case measure => simp [intOf]; omega
      · have hkn : k = xs.length := by omega
        subst hkn
        go_wp2_with fail
        go_ret3
        exact ⟨_, _, 0, F, rfl, Hres.out, hoo, hop, hbk⟩
  · have hd := int_bne hr
    have Hr := Lib.hid hr
    clear hr
    go_wp2_with fail
    go_ret3
    refine ⟨_, _, r, F, rfl, hres, ?_, ?_, hb1⟩
    · rw [if_neg Hr.out]; exact World.ownsRow_nil _ _ _ _
    · rw [if_neg Hr.out]; exact World.ownsRow_nil _ _ _ _

end Go.Proofs.Ytbgdomnalimjnaa
