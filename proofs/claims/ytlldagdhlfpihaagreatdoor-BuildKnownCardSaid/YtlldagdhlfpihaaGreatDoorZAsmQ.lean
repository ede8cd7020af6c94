/- AsmI, AsmQ: joined.  Walks of the assembler's Assemble and Forms. -/
import Derived.Test.YtlldagdhlfpihaaGreatDoorZAsmJ
import Derived.Test.YtlldagdhlfpihaaGreatDoorZBMach
import Derived.Test.YtlldagdhlfpihaaGreatDoorZAsmP
import Derived.Test.YtlldagdhlfpihaaGreatDoorZAsmN
section
set_option linter.unusedVariables false
set_option linter.unusedSimpArgs false
set_option linter.unusedSectionVars false
namespace Go.Proofs.YtlldagdhlfpihaaGreatDoor
open Go.RowKit

theorem place_info : (Tryz.prog.info? 176).map (fun i => (i.zero, i.size, i.bytes)) = some (some (.agg #[.string ByteArray.empty, .int .i64 0]), 2, 24) := by kernel_rfl

def placeCells (p : ByteArray × Int) : List Value := [.string p.1, .int .i64 p.2]

/-- What an assembler's results are: words, places, an error. -/
def Assembled (w : World) (xs : List S.Item) (base : Int) (e : Ending) (w' : World) : Prop :=
  ∃ vo vp r F, e = .returned (.tuple #[vo, vp, .int .i64 r]) ∧ S.FormsRes xs base r F ∧
    w'.ownsRow w.heap.size 30 1 vo (if r = 0 then S.outTo xs F base xs.length else []).length ((if r = 0 then S.outTo xs F base xs.length else []).map (Value.int .u32)) ∧
    w'.ownsRow w.heap.size 176 2 vp (if r = 0 then S.placesTo xs F base xs.length else []).length ((if r = 0 then S.placesTo xs F base xs.length else []).flatMap placeCells) ∧
    Below w.heap.size w w'

end Go.Proofs.YtlldagdhlfpihaaGreatDoor
end

section
set_option linter.unusedVariables false
set_option linter.unusedSimpArgs false
set_option linter.unusedSectionVars false
namespace Go.Proofs.YtlldagdhlfpihaaGreatDoor
open Go.RowKit

/-- A block of one type is kept by an append to a row of another. -/
theorem blk_other {w w' : World} {k : Nat} {cs : Array Value} {t : TypeId} {z : Nat × Nat} (h : w.heap[k]? = some (.cells cs t z)) {base' : Nat} {e' : TypeId} {size' n' : Nat} {v' : Value} {xs' : List Value} (h' : w.ownsRow base' e' size' v' n' xs') (hne : t ≠ e')
    (hg : w.grownBy w' v'.ownBlock) : w'.heap[k]? = some (.cells cs t z) := by
  rw [hg.block k (blk_lt h) ?_, h]
  intro he
  rcases h'.2 with ⟨rfl, _⟩ | ⟨g', cap, cur, rfl, _, hk, _⟩
  · simp [Value.ownBlock] at he
  · have : k = g' := by simpa [Value.ownBlock] using he
    subst this
    rw [h] at hk
    injection hk with hk
    injection hk with _ ht
    exact hne ht

/-- The work is kept by an append to a row of other things. -/
theorem Work.other {w w' : World} {B g gF gA m n : Nat} {A : Option Addr} {c : Nat} {xs : List S.Item} {base : Int} {F T : List Int} {f : ByteArray → Option Int} (h : Work w B g gF gA m n A c xs base F T f)
    {base' : Nat} {e' : TypeId} {size' n' : Nat} {v' : Value} {xs' : List Value} (h' : w.ownsRow base' e' size' v' n' xs') (hne : 3 ≠ e') (hne2 : 187 ≠ e') (hg : w.grownBy w' v'.ownBlock) :
    Work w' B g gF gA m n A c xs base F T f := by
  have hgne : some g ≠ v'.ownBlock := by
    intro he
    rcases h'.2 with ⟨rfl, _⟩ | ⟨g', cap, cur, rfl, _, hk, _⟩
    · simp [Value.ownBlock] at he
    · have : g = g' := by simpa [Value.ownBlock] using he
      subst this
      rw [h.blk] at hk
      injection hk with hk
      injection hk with _ ht
      exact hne2 ht
  have hmne : some m ≠ v'.ownBlock := by
    intro he
    obtain ⟨D, ⟨es, clock, hm, _⟩, _⟩ := h.labels
    rcases h'.2 with ⟨rfl, _⟩ | ⟨g', cap, cur, rfl, _, hk, _⟩
    · simp [Value.ownBlock] at he
    · have : m = g' := by simpa [Value.ownBlock] using he
      subst this
      rw [hm] at hk
      cases hk
  exact ⟨(hg.block g (blk_lt h.blk) hgne).trans h.blk, ownsRow_other h.forms h' hne hg, ownsRow_other h.ats h' hne hg, h.labels.kept hg hmne, h.hg, h.hF, h.hA, h.hm, h.ne1⟩

set_option maxRecDepth 100000 in
set_option maxHeartbeats 1000000 in
theorem asm_settled_out (w : World) {A : Option Addr} {c : Nat} {xs : List S.Item} {base : Int} (h : base < 0 ∨ 67108864 < base) :
    Calls Tryz.prog 120 #[.slice A xs.length c, .int .i64 base] w (SettledPost w A c xs base) := by
  have hres : S.FormsRes xs base 2 [] := .inl ⟨by simp, .inl ⟨h, rfl⟩, rfl⟩
  have Hres := Lib.hid hres
  clear hres
  by_cases h0 : base < 0
  · clear h
    go_enter Tryz.func120, Tryz.ntmps120
    go_wp2_with fail
    go_step3
    go_wp2_with fail
    rw [Exit.noGoto_ret]
    go_ret2
    exact ⟨Below.refl _ _, .inl ⟨_, by simp, rfl, Hres.out⟩⟩
  · have h1 : 67108864 < base := by omega
    have h2 : decide (base < 0) = false := by simpa using h0
    clear h
    go_enter Tryz.func120, Tryz.ntmps120
    go_wp2_with fail
    go_step3
    go_wp2_with fail
    rw [Exit.noGoto_ret]
    go_ret2
    exact ⟨Below.refl _ _, .inl ⟨_, by simp, rfl, Hres.out⟩⟩

theorem asm_settled (w : World) {A : Option Addr} {c : Nat} {xs : List S.Item} {base : Int} (hi : Items w w.heap.size A xs) (hl : xs.length ≤ 1048576)
    (hlab : ∀ (k : Nat) (x : S.Item), xs[k]? = some x → x.label.size ≤ maxLen) :
    Calls Tryz.prog 120 #[.slice A xs.length c, .int .i64 base] w (SettledPost w A c xs base) := by
  by_cases h : base < 0 ∨ 67108864 < base
  · exact asm_settled_out w h
  · exact asm_settled_in w hi (by omega) (by omega) hl hlab hi.words

set_option maxRecDepth 100000 in
set_option maxHeartbeats 8000000 in
theorem asm_Assemble (A : Option Addr) (c : Nat) (xs : List S.Item) (base : Int) (w : World) (hi : Items w w.heap.size A xs) (hl : xs.length ≤ 1048576) (hlab : ∀ (k : Nat) (x : S.Item), xs[k]? = some x → x.label.size ≤ maxLen) :
    Calls Tryz.prog 78 #[.slice A xs.length c, .int .i64 base] w (Assembled w xs base) := by
  have hw := Lib.hid hi.words
  have Hlab := Lib.hid hlab
  clear hlab
  go_enter Tryz.func78, Tryz.ntmps78
  go_wp2_with fail
  refine (asm_settled w hi hl Hlab.out).mono ?_
  rintro e w1 ⟨hb1, ⟨r, hr, rfl, hres⟩ | ⟨g, gF, gA, m, n, F, hn, rfl, hres, hWk⟩⟩
  · have hd := int_bne hr
    have Hr := Lib.hid hr
    clear hr
    go_wp2_with fail
    go_ret3
    refine ⟨_, _, r, [], rfl, hres, ?_, ?_, hb1⟩
    · rw [if_neg Hr.out]; exact World.ownsRow_nil _ _ _ _
    · rw [if_neg Hr.out]; exact World.ownsRow_nil _ _ _ _
  · have hz1 := hb1.size
    have hfr : S.CheckRes xs base 0 ∧ S.Inv xs base F ∧ S.Stable xs base F ∧ S.addr xs F base xs.length ≤ 67108864 := by
      rcases hres with ⟨h, _⟩ | ⟨_, h, _⟩ | ⟨h1, _, h3, h4, h5⟩
      · exact absurd rfl h
      · omega
      · exact ⟨h1, h3, h4, h5⟩
    have Hres := Lib.hid hres
    obtain ⟨hchk, hinv, hsta, htot⟩ := hfr
    have Hchk := Lib.hid hchk
    have hk := Lib.hid (kinds_ok (firstErr_of hchk))
    obtain ⟨hb0, hb26⟩ := base_ok hchk
    have Hok := Lib.hid hinv.1
    clear hres hchk hinv hsta
    go_wp2_with fail
    go_loopw [4, 5, 21] (fun vo vp i wr => ∃ k : Nat, k ≤ xs.length ∧ i = .int .i64 k ∧ wr.ownsRow w.heap.size 30 1 vo (S.outTo xs F base k).length ((S.outTo xs F base k).map (Value.int .u32)) ∧
        wr.ownsRow w.heap.size 176 2 vp (S.placesTo xs F base k).length ((S.placesTo xs F base k).flatMap placeCells) ∧
        Work wr w.heap.size g gF gA m n A c xs base F (addrs xs F base (xs.length + 1)) (labF xs) ∧ Below w.heap.size w wr) (fun _ _ i _ => xs.length - (intOf i).toNat)
    case atStart => exact ⟨0, by omega, rfl, World.ownsRow_nil _ _ _ _, World.ownsRow_nil _ _ _ _, hWk, hb1⟩
    case round =>
      obtain ⟨k, hkl, rfl, hoo, hop, hWr, hbk⟩ := hrel
      clear hWk
      have hzk := hbk.size
      by_cases hlt : k < xs.length
      · obtain ⟨b, off, x, rfl, hb, hx, hc0, hc1, hc2, hc3, hc4, hc5, hc6, hc7, hw0, hw1⟩ := (hi.below hbk).at_ hlt
        have hbr : b < wr.heap.size := Nat.lt_of_lt_of_le hb hzk
        have hkx := hk.out x (List.mem_of_getElem? hx)
        have hle1 := addr_le (base := base) Hok.out hw.out (i := k) (n := xs.length) hkl
        have hle2 := addr_le (base := base) Hok.out hw.out (i := k + 1) (n := xs.length) hlt
        have hge := (addr_bd (base := base) Hok.out hw.out k).1
        have hout := Lib.hid (outTo_length (base := base) Hok.out hk.out hw.out k)
        have hpat : S.placeAt xs F base k = if x.kind = 2 then [(x.label, S.addr xs F base k)] else [] := by simp [S.placeAt, hx]
        have hol : ((S.outTo xs F base k).length : Int) ≤ 67108864 := by rw [hout.out]; omega
        have hwl : (S.wordsAt xs F base k).length ≤ 67108864 := by
          have h9 := wordsAt_length (base := base) Hok.out hk.out hw.out k
          have hsa : S.addr xs F base (k + 1) = S.addr xs F base k + S.sizeAt xs F k := rfl
          omega
        have Hpat := Lib.hid hpat
        have hpl := placesTo_length xs F base k
        have hnx := Lib.hid (named_stands (x := x) Hchk.out hx)
        have Hx := Lib.hid hx
        have hls := Hlab.out k x hx
        clear hpat hx
        obtain ⟨kind, ⟨op, d, a, b', imm⟩, lab, wd⟩ := x
        simp only at hc0 hc1 hc2 hc3 hc4 hc5 hc6 hc7 hw0 hw1 hkx hls
        generalize hak : S.addr xs F base k = ak at *
        have Hak := Lib.hid hak
        clear hak
        have hbX : Below wr.heap.size wr (wr.alloc (.cells #[.int .i64 kind, .int .i64 op, .int .i64 d, .int .i64 a, .int .i64 b', .int .i64 imm, .string lab, .int .u32 wd] 152)) := (Below.refl _ _).alloc (Nat.le_refl _) _
        have hWX := hWr.below hbX
        have hoX := ownsRow_below hoo hbX
        have hpX := ownsRow_below hop hbX
        have hbwX := hbk.trans (hbX.mono hzk)
        have hXb : (wr.alloc (.cells #[.int .i64 kind, .int .i64 op, .int .i64 d, .int .i64 a, .int .i64 b', .int .i64 imm, .string lab, .int .u32 wd] 152)).heap[wr.heap.size]? = some (.cells #[.int .i64 kind, .int .i64 op, .int .i64 d, .int .i64 a, .int .i64 b', .int .i64 imm, .string lab, .int .u32 wd] 152 (0, 0)) := heap_alloc_new _ _
        have HXb := Lib.hid hXb
        clear hXb
        have hX : ∀ (j : Nat) (v : Value), (#[Value.int .i64 kind, .int .i64 op, .int .i64 d, .int .i64 a, .int .i64 b', .int .i64 imm, .string lab, .int .u32 wd])[j]? = some v → (wr.alloc (.cells #[.int .i64 kind, .int .i64 op, .int .i64 d, .int .i64 a, .int .i64 b', .int .i64 imm, .string lab, .int .u32 wd] 152)).cell? ⟨wr.heap.size, j, none⟩ = some v := by
          intro j v hv
          rw [← hv]
          exact cell_row_new _ _ _ _
        have hX0 := hX 0 (.int .i64 kind) rfl
        have hX6 := hX 6 (.string lab) rfl
        have hzX : wr.heap.size < (wr.alloc (.cells #[.int .i64 kind, .int .i64 op, .int .i64 d, .int .i64 a, .int .i64 b', .int .i64 imm, .string lab, .int .u32 wd] 152)).heap.size := by simp
        clear hX hWr hoo hop hbX
        go_wp2_with fail
        generalize wr.alloc (.cells #[.int .i64 kind, .int .i64 op, .int .i64 d, .int .i64 a, .int .i64 b', .int .i64 imm, .string lab, .int .u32 wd] 152) = wX at *
        have hzX2 := hbwX.size
        refine (asm_words wX hWX (hi.below hbwX) hzX2 k _ Hx.out Hok.out hnx.out hls hl hb0 htot hkx hw.out).mono ?_
        rintro e w2 ⟨vw, rfl, how, hb2⟩
        obtain ⟨Aw, cw, rfl⟩ := ownsRow_form how
        have hz2 := hb2.size
        have hbw2 := hbwX.trans (hb2.mono hzX2)
        have ho2 := ownsRow_below hoX hb2
        have hp2 := ownsRow_below hpX hb2
        have hW2 := hWX.below hb2
        have hrd := Reads.of_own how
        have hAw : Aw = none → (S.wordsAt xs F base k).length = 0 := ownsRow_none how
        have hY : ∀ j : Nat, w2.cell? ⟨wr.heap.size, j, none⟩ = wX.cell? ⟨wr.heap.size, j, none⟩ := fun j => hb2.cell (p := ⟨_, j, none⟩) hzX
        rw [← hY] at hX0 hX6
        have hzr2 : wr.heap.size < w2.heap.size := by omega
        have HXc := Lib.hid ((hb2.block _ hzX).trans HXb.out)
        clear hY hWX hoX hpX hnx HXb
        by_cases c2 : kind = 2
        · have d2 := int_beq c2
          have C2 := Lib.hid c2
          clear c2
          go_wp2_with (at_builtin
                       refine wpList_appends rfl (.tmp 26) (.tmp 29) _ rfl w.heap.size 30 u32_infoA Tryz.underlying50 rfl _ _ _ rfl ho2 _ Aw _ cw ((S.wordsAt xs F base k).map (Value.int .u32)) rfl (by simp) hAw hrd (by simp [Value.oneCell']) (by simp only [maxLen]; omega) (by omega) (by omega) ?_
                       intro vo' w3 ho3 hg3 hb3 hat3
                       have hp3 := ownsRow_other hp2 ho2 (by decide) hg3
                       have hW3 := hW2.other ho2 (by decide) (by decide) hg3
                       have hbw3 := hbw2.trans hb3
                       have hz3 := hg3.size
                       have hXd := blk_other HXc.out ho2 (by decide) hg3
                       have hX0' : w3.cell? ⟨wr.heap.size, 0, none⟩ = some (.int .i64 kind) := blk_cell hXd 0
                       have hX6' : w3.cell? ⟨wr.heap.size, 6, none⟩ = some (.string lab) := blk_cell hXd 6
                       clear hXd
                       obtain ⟨p0, p1, p2, p3, p4⟩ := hW3.cells
                       obtain ⟨q1, q2⟩ := hW3.at_ (k := k) (by omega)
                       rw [addrs_getD xs F base _ k (by omega), Hak.out] at q1
                       obtain ⟨r1, r2, r3, r4⟩ := hW3.lts
                       have hzr3 : wr.heap.size < w3.heap.size := by omega)
          have hE := ext_cells w3
          refine wp_region_ext_plan 11 1 [0, 1, 2, 3, 4, 5, 6, 7, 8, 9, 10] (by kernel_rfl) (by kernel_rfl) (fun _ _ _ _ _ h => h) ?_
          repeat (first
            | (refine plan_cons rfl ?_; go_big_quiet_step (fail)))
          refine wpQuiet_nil ?_
          rintro _ ⟨⟨w4, hb4⟩, rfl⟩
          simp only [List.drop_succ_cons, List.drop_zero]
          clear hE p0 p1 p2 p3 p4 q1 q2
          have ho4 := ownsRow_below ho3 hb4
          have hp4 := ownsRow_below hp3 hb4
          have hW4 := hW3.below hb4
          have hbw4 := hbw3.trans (hb4.mono (by omega))
          have hz4 := hbw4.size
          go_wp2_with (at_builtin
                       refine wpList_push rfl (.tmp 34) (.tmp 45) _ rfl w.heap.size 176 place_info Tryz.underlying67 rfl (by decide) #[.string lab, .int .i64 ak] _ _ _ rfl hp4 rfl rfl rfl (by simp [Value.oneCell']) (by simp only [maxLen]; omega) (by omega) hz4 ?_
                       intro vp' w5 hp5 hg5 hb5 hat5)
          go_roundw
          case rel =>
            refine ⟨k + 1, by omega, by go_num, ?_, ?_, hW4.other hp4 (by decide) (by decide) hg5, hbw4.trans hb5⟩
            · rw [S.outTo, List.length_append, List.map_append]
              exact ownsRow_other ho4 hp4 (by decide) hg5
            · have e : S.placeAt xs F base k = [(lab, ak)] := by rw [Hpat.out]; simp [C2.out]
              rw [S.placesTo, e, List.length_append, List.flatMap_append]
              simpa [placeCells] using hp5
          case measure => simp [intOf]; omega
        · have d2 := int_bne c2
          have C2 := Lib.hid c2
          clear c2
          go_wp2_with (at_builtin
                       refine wpList_appends rfl (.tmp 26) (.tmp 29) _ rfl w.heap.size 30 u32_infoA Tryz.underlying50 rfl _ _ _ rfl ho2 _ Aw _ cw ((S.wordsAt xs F base k).map (Value.int .u32)) rfl (by simp) hAw hrd (by simp [Value.oneCell']) (by simp only [maxLen]; omega) (by omega) (by omega) ?_
                       intro vo' w3 ho3 hg3 hb3 hat3
                       have hp3 := ownsRow_other hp2 ho2 (by decide) hg3
                       have hW3 := hW2.other ho2 (by decide) (by decide) hg3
                       have hbw3 := hbw2.trans hb3
                       have hz3 := hg3.size
                       have hXd := blk_other HXc.out ho2 (by decide) hg3
                       have hX0' : w3.cell? ⟨wr.heap.size, 0, none⟩ = some (.int .i64 kind) := blk_cell hXd 0
                       clear hXd)
          go_roundw
          case rel =>
            refine ⟨k + 1, by omega, by go_num, ?_, ?_, hW3, hbw3⟩
            · rw [S.outTo, List.length_append, List.map_append]
              exact ho3
            · have e : S.placeAt xs F base k = [] := by rw [Hpat.out]; simp [C2.out]
              rw [S.placesTo, e, List.append_nil]
              exact hp3
          case measure => simp [intOf]; omega
      · have hkn : k = xs.length := by omega
        subst hkn
        go_wp2_with fail
        go_ret3
        exact ⟨_, _, 0, F, rfl, Hres.out, hoo, hop, hbk⟩

end Go.Proofs.YtlldagdhlfpihaaGreatDoor
end
