/- Walk of the assembler's method place. -/
import Derived.Test.YtidhglleeccpoaaDoorAsmK
set_option linter.unusedVariables false
set_option linter.unusedSimpArgs false
set_option linter.unusedSectionVars false
namespace Go.Proofs.YtidhglleeccpoaaDoor
open Go.RowKit

/-- The row's block is not the work's. -/
theorem row_ne_blk {w : World} {B b g n : Nat} {vs : List Value} {cs : Array Value} {L C : Nat} (h : w.ownsRow B 3 1 (.slice (some ⟨b, 0, none⟩) L C) n vs) (hg : w.heap[g]? = some (.cells cs 66 (0, 0))) : g ≠ b := by
  rintro rfl
  rcases h.2 with ⟨he, _⟩ | ⟨g', cap, cur, he, _, hk, _⟩
  · cases he
  · cases he
    rw [hg] at hk
    injection hk with hk
    injection hk with _ ht
    exact absurd ht (by decide)
theorem row_ne_map {w : World} {B b m k n : Nat} {vs : List Value} {f : ByteArray → Option Int} {L C : Nat} (h : w.ownsRow B 3 1 (.slice (some ⟨b, 0, none⟩) L C) n vs) (hm : MapS w m k f) : m ≠ b := by
  rintro rfl
  obtain ⟨D, ⟨es, clock, hm, _⟩, _⟩ := hm
  rcases h.2 with ⟨he, _⟩ | ⟨g', cap, cur, he, _, hg, _⟩
  · cases he
  · cases he
    rw [hm] at hg
    cases hg

/-- The address of an item is stored. -/
theorem Work.placed {w w' : World} {B g gF gA m n : Nat} {A : Option Addr} {c : Nat} {xs : List S.Item} {base : Int} {F T : List Int} {f : ByteArray → Option Int} (h : Work w B g gF gA m n A c xs base F T f) (k : Nat) (v : Int)
    (hw : w' = w.setCell ⟨gA, k, none⟩ (.int .i64 v)) : Work w' B g gF gA m n A c xs base F (T.set k v) f ∧ Below B w w' := by
  subst hw
  have hb : Below B w (w.setCell ⟨gA, k, none⟩ (.int .i64 v)) := (Below.refl _ _).setCell h.hA _
  have hs := h.ats.stored k (.int .i64 v)
  have hgA := row_ne_blk h.ats h.blk
  have hmA : some m ≠ some gA := by
    intro he
    exact row_ne_map h.ats h.labels (Option.some.inj he)
  refine ⟨⟨?_, h.forms.kept hs.2 (.inr ?_), ?_, h.labels.kept hs.2 hmA, h.hg, h.hF, h.hA, h.hm, h.ne1⟩, hb⟩
  · rw [hs.2.block g (blk_lt h.blk) (by simpa using hgA)]; exact h.blk
  · simp [Value.ownBlock]; exact h.ne1
  · rw [List.map_set]; exact hs.1

/-- Something is stored into the labels. -/
theorem Work.told {w w' : World} {B g gF gA m n n' : Nat} {A : Option Addr} {c : Nat} {xs : List S.Item} {base : Int} {F T : List Int} {f f' : ByteArray → Option Int} (h : Work w B g gF gA m n A c xs base F T f)
    (hm : MapS w' m n' f') (hg : w.grownBy w' (some m)) : Work w' B g gF gA m n' A c xs base F T f' ∧ Below B w w' := by
  have hgm : g ≠ m := by
    rintro rfl
    obtain ⟨D, ⟨es, clock, hm, _⟩, _⟩ := h.labels
    rw [h.blk] at hm
    cases hm
  have hFm := row_ne_map h.forms h.labels
  have hAm := row_ne_map h.ats h.labels
  refine ⟨⟨?_, h.forms.kept hg (.inr ?_), h.ats.kept hg (.inr ?_), hm, h.hg, h.hF, h.hA, h.hm, h.ne1⟩, (Below.refl _ _).grown hg ?_ ?_⟩
  · rw [hg.block g (blk_lt h.blk) (by simpa using hgm)]; exact h.blk
  · simp [Value.ownBlock]; exact fun e => hFm e.symm
  · simp [Value.ownBlock]; exact fun e => hAm e.symm
  · exact Nat.le_of_lt (Nat.lt_of_le_of_lt h.hg (blk_lt h.blk))
  · intro k hk
    cases hk
    exact h.hm

/-- What place leaves. -/
def PlacePost (w : World) (B g gF gA m n : Nat) (A : Option Addr) (c : Nat) (xs : List S.Item) (base : Int) (F : List Int) (e : Ending) (w' : World) : Prop :=
  Below B w w' ∧ ((e = .returned (.bool true) ∧ S.addr xs F base xs.length ≤ S.most26 ∧ Work w' B g gF gA m n A c xs base F (addrs xs F base (xs.length + 1)) (labF xs)) ∨
    (e = .returned (.bool false) ∧ S.most26 < S.addr xs F base xs.length))

theorem cell_grown {w w' : World} {m b : Nat} (hg : w.grownBy w' (some m)) (hlt : b < w.heap.size) (hne : b ≠ m) (j : Nat) : w'.cell? ⟨b, j, none⟩ = w.cell? ⟨b, j, none⟩ := by
  simp only [World.cell?, hg.block b hlt (by simpa using hne)]

theorem wf64 {n : Int} (h : -9223372036854775808 ≤ n ∧ n ≤ 9223372036854775807) : (Lit.int .i64 n).wf = true := by
  simp [Lit.wf, IntKind.min, IntKind.max, IntKind.signed, IntKind.bits]
  omega
theorem wpList_storeS' {ops : Array Oper} {rest : List Oper} {o : Oper} {a : Act} {Q : Exit → Act → World → Prop} {w : World} (hg : o.guard = none) (hd : o.dst = none) (mo x v : Operand) (hop : o.op = Op.mapUpdate 64 mo x v)
    (m n : Nat) (f : ByteArray → Option Int) (hm : a.eval mo = .map (some m)) (h : MapS w m n f) (hn : n < 1152921504606846976) (s : ByteArray) (q : Int) (hx : a.eval x = .string s) (hv : a.eval v = .int .i64 q) (hs : s.size ≤ maxLen) (hq : (Lit.int .i64 q).wf = true)
    (hK : ∀ w', MapS w' m (if (f s).isSome then n else n + 1) (fun t => if t = s then some q else f t) → w.grownBy w' (some m) → wpList Tryd.prog ops Q rest a w') : wpList Tryd.prog ops Q (o :: rest) a w := by
  refine wpList_storeS hg mo x v hop m n f hm h hn s q hx hv hs hq ?_
  intro w' h1 h2
  rw [hd]
  exact hK w' h1 h2

theorem labF_same {xs : List S.Item} {x : S.Item} {k : Nat} (hd : S.stands xs x.label = k) : (labF xs x.label).isSome = true ∧ (fun t => if t = x.label then some (k : Int) else labF xs t) = labF xs := by
  have e : labF xs x.label = some (k : Int) := by unfold labF; rw [hd, if_neg (by omega)]
  refine ⟨by rw [e]; rfl, ?_⟩
  funext t
  by_cases ht : t = x.label
  · rw [if_pos ht, ht, e]
  · rw [if_neg ht]

set_option maxRecDepth 100000 in
set_option maxHeartbeats 4000000 in
theorem asm_place (w : World) {B g gF gA m n : Nat} {A : Option Addr} {c : Nat} {xs : List S.Item} {base : Int} {F T : List Int} (h : Work w B g gF gA m n A c xs base F T (labF xs)) (hi : Items w B A xs) (hB : B ≤ w.heap.size)
    (hok : S.FormOk xs F) (hl : xs.length ≤ 1048576) (hb0 : 0 ≤ base) (hb26 : base ≤ 67108864) (hw : ∀ x ∈ xs, 0 ≤ x.word ∧ x.word ≤ 4294967295)
    (hlab : ∀ (k : Nat) (x : S.Item), xs[k]? = some x → x.label.size ≤ maxLen) (hdup : ∀ (k : Nat) (x : S.Item), xs[k]? = some x → x.kind = 2 → S.stands xs x.label = k) (hn : n ≤ 1048576) :
    Calls Tryd.prog 46 #[.pointer (some ⟨g, 0, none⟩)] w (PlacePost w B g gF gA m n A c xs base F) := by
  obtain ⟨k0, k1, k2, k3, k4⟩ := h.cells
  obtain ⟨l1, l2, l3, l4⟩ := h.lts
  have Hok := Lib.hid hok
  have Hw := Lib.hid hw
  have Hlab := Lib.hid hlab
  have Hdup := Lib.hid hdup
  clear hok hw hlab hdup
  go_enter Tryd.func46, Tryd.ntmps46
  go_wp2_with fail
  go_loopw [3, 15] (fun p i wr => ∃ (k : Nat) (T' : List Int), k ≤ xs.length ∧ i = .int .i64 k ∧ p = .int .i64 (S.addr xs F base k) ∧ S.addr xs F base k ≤ 67108864 ∧ Work wr B g gF gA m n A c xs base F T' (labF xs) ∧ (∀ j, j < k → T'.getD j 0 = S.addr xs F base j) ∧ Below B w wr) (fun _ i _ => xs.length - (intOf i).toNat)
  case atStart =>
    exact ⟨0, T, by omega, rfl, rfl, by rw [S.addr]; exact hb26, h, fun j hj => by omega, Below.refl _ _⟩
  case round =>
    obtain ⟨k, T', hk, rfl, rfl, hpos, hW, hT, hbk⟩ := hrel
    clear k0 k1 k2 k3 k4 l1 l2 l3 l4
    obtain ⟨k0, k1, k2, k3, k4⟩ := hW.cells
    obtain ⟨l1, l2, l3, l4⟩ := hW.lts
    have HT := Lib.hid hT
    clear hT
    have hzr := hbk.size
    obtain ⟨hbd0, hbd1⟩ := addr_bd (base := base) Hok.out Hw.out k
    have hTl : T'.length = xs.length + 1 := by have := hW.ats.1; simpa using this
    have HTl := Lib.hid hTl
    clear hTl
    by_cases hlt : k < xs.length
    · obtain ⟨b, off, x, rfl, hb, hx, hc0, hc1, hc2, hc3, hc4, hc5, hc6, hc7, hw0, hw1⟩ := (hi.below hbk).at_ hlt
      obtain ⟨hsd0, hsd1⟩ := sizeAt_bd Hok.out Hw.out k
      obtain ⟨h3, h4, h5⟩ := Hok.out.2 k x hx
      have hsz : S.size x (F.getD k 0) = S.sizeAt xs F k := by simp [S.sizeAt, hx]
      have hls := Hlab.out k x hx
      have hd : x.kind = 2 → S.stands xs x.label = k := Hdup.out k x hx
      have Hd := Lib.hid hd
      obtain ⟨hcF, hfF⟩ := hW.form hlt
      obtain ⟨hcA, hfA⟩ := hW.at_ (k := k) (by omega)
      have hbr : b < wr.heap.size := by omega
      have hnext : S.addr xs F base (k + 1) = S.addr xs F base k + S.sizeAt xs F k := rfl
      have Hnext := Lib.hid hnext
      have H3 := Lib.hid h3
      have H4 := Lib.hid h4
      clear hx h3 h4 h5 hd hnext
      have hend : S.addr xs F base (k + 1) ≤ S.addr xs F base xs.length := by
        obtain ⟨d, hd⟩ : ∃ d, xs.length = k + 1 + d := ⟨xs.length - (k + 1), by omega⟩
        have := addr_up (base := base) Hok.out Hw.out (k + 1) d
        rw [← hd] at this; exact this
      have Hend := Lib.hid hend
      clear hend
      obtain ⟨kind, ⟨op, d, a, b', imm⟩, lab, wd⟩ := x
      simp only at hc0 hc1 hc2 hc3 hc4 hc5 hc6 hc7 hw0 hw1 hls Hd H3 H4
      generalize hfk : F.getD k 0 = fk at *
      have Hfk := Lib.hid hfk
      clear hfk
      generalize hak : S.addr xs F base k = ak at *
      have Hak := Lib.hid hak
      clear hak
      generalize hse : S.sizeAt xs F k = se at *
      clear hse
      have hs0 : (wr.setCell ⟨gA, k, none⟩ (.int .i64 ak)).heap.size = wr.heap.size := by simp [World.setCell]
      obtain ⟨hWa, hba⟩ := hW.placed k ak rfl
      have hbA : Below wr.heap.size (wr.setCell ⟨gA, k, none⟩ (.int .i64 ak)) ((wr.setCell ⟨gA, k, none⟩ (.int .i64 ak)).alloc (.cells #[.int .i64 kind, .int .i64 op, .int .i64 d, .int .i64 a, .int .i64 b', .int .i64 imm, .string lab, .int .u32 wd] 39)) := (Below.refl _ _).alloc (by rw [hs0]; exact Nat.le_refl _) _
      have hW2 := hWa.below (hs0 ▸ hbA)
      have hb02 : Below B wr ((wr.setCell ⟨gA, k, none⟩ (.int .i64 ak)).alloc (.cells #[.int .i64 kind, .int .i64 op, .int .i64 d, .int .i64 a, .int .i64 b', .int .i64 imm, .string lab, .int .u32 wd] 39)) := hba.trans (hbA.mono (by omega))
      have hX : ∀ (j : Nat) (v : Value), (#[Value.int .i64 kind, .int .i64 op, .int .i64 d, .int .i64 a, .int .i64 b', .int .i64 imm, .string lab, .int .u32 wd])[j]? = some v →
          ((wr.setCell ⟨gA, k, none⟩ (.int .i64 ak)).alloc (.cells #[.int .i64 kind, .int .i64 op, .int .i64 d, .int .i64 a, .int .i64 b', .int .i64 imm, .string lab, .int .u32 wd] 39)).cell? ⟨wr.heap.size, j, none⟩ = some v := by
        intro j v hv
        rw [← hs0, ← hv]
        exact cell_row_new _ _ _ _
      have hX0 := hX 0 (.int .i64 kind) rfl
      have hX1 := hX 1 (.int .i64 op) rfl
      have hX2 := hX 2 (.int .i64 d) rfl
      have hX3 := hX 3 (.int .i64 a) rfl
      have hX4 := hX 4 (.int .i64 b') rfl
      have hX5 := hX 5 (.int .i64 imm) rfl
      have hX6 := hX 6 (.string lab) rfl
      have hX7 := hX 7 (.int .u32 wd) rfl
      obtain ⟨p0, p1, p2, p3, p4⟩ := hW2.cells
      obtain ⟨q1, q2⟩ := hW2.form hlt
      rw [Hfk.out] at q1
      obtain ⟨r1, r2, r3, r4⟩ := hW2.lts
      have r5 : wr.heap.size < ((wr.setCell ⟨gA, k, none⟩ (.int .i64 ak)).alloc (.cells #[.int .i64 kind, .int .i64 op, .int .i64 d, .int .i64 a, .int .i64 b', .int .i64 imm, .string lab, .int .u32 wd] 39)).heap.size := by simp [World.setCell]
      clear hbA hba hWa hX hs0
      have hfin : ∀ w', Work w' B g gF gA m n (some ⟨b, off, none⟩) c xs base F (T'.set k ak) (labF xs) → ak + se ≤ 67108864 → Below B wr w' →
          ∃ (k' : Nat) (T' : List Int), k' ≤ xs.length ∧ Value.int .i64 ((k : Int) + 1) = .int .i64 k' ∧ Value.int .i64 (ak + se) = .int .i64 (S.addr xs F base k') ∧ S.addr xs F base k' ≤ 67108864 ∧
            Work w' B g gF gA m n (some ⟨b, off, none⟩) c xs base F T' (labF xs) ∧ (∀ j, j < k' → T'.getD j 0 = S.addr xs F base j) ∧ Below B w w' := by
        intro w' h1 h2 h3
        have e := Hnext.out
        refine ⟨k + 1, _, by omega, by simp, by rw [e], by rw [e]; exact h2, h1, fun j hj => ?_, hbk.trans h3⟩
        by_cases hjk : j = k
        · subst hjk
          rw [getD_set_self (by rw [HTl.out]; omega), Hak.out]
        · rw [getD_set_other (fun e => hjk e.symm)]
          exact HT.out j (by omega)
      have Hfin := Lib.hid hfin
      clear hfin
      have hcall : ∀ (w2 w3 : World), Work w2 B g gF gA m n (some ⟨b, off, none⟩) c xs base F (T'.set k ak) (labF xs) → Ext w2 → True := fun _ _ _ _ => trivial
      clear hcall
      have hcall : ∀ u : World, Calls Tryd.prog 63 #[.agg #[.int .i64 kind, .int .i64 op, .int .i64 d, .int .i64 a, .int .i64 b', .int .i64 imm, .string lab, .int .u32 wd], .int .i64 fk] u fun e w' => e = .returned (.int .i64 se) ∧ Below u.heap.size u w' := by
        intro u
        rw [← hsz]
        exact asm_size _ _ _ _ _ _ _ _ _ _ H3.out H4.out hw0 hw1
      clear hsz
      by_cases c2 : kind = 2
      · subst c2
        have hd := Hd.out rfl
        obtain ⟨hlF, hlE⟩ := labF_same (xs := xs) (x := ⟨2, ⟨op, d, a, b', imm⟩, lab, wd⟩) hd
        simp only at hlF hlE
        go_wp2_with fail
        generalize (wr.setCell ⟨gA, k, none⟩ (.int .i64 ak)).alloc (.cells #[.int .i64 2, .int .i64 op, .int .i64 d, .int .i64 a, .int .i64 b', .int .i64 imm, .string lab, .int .u32 wd] 39) = w2 at *
        refine wp_region_ext_tail 7 (by kernel_rfl) (by kernel_rfl) ?_
        have hE := ext_cells w2
        simp only [List.take_succ_cons, List.take_zero, List.drop_succ_cons, List.drop_zero]
        repeat (first | go_big_quiet_step (fail))
        refine wpQuiet_nil ?_
        intro w1 hx1
        have hb1 := ext_out hx1
        clear hE hx1
        have hW1 := hW2.below hb1
        have hz1 := hb1.size
        have hX : ∀ (j : Nat), w1.cell? ⟨wr.heap.size, j, none⟩ = w2.cell? ⟨wr.heap.size, j, none⟩ := fun j => hb1.cell (p := ⟨_, j, none⟩) (by show wr.heap.size < w2.heap.size; omega)
        refine wpList_storeS' rfl rfl (.tmp 33) (.tmp 35) (.tmp 36) rfl m n _ rfl hW1.labels (by omega) lab k rfl rfl hls (wf64 (by omega)) ?_
        intro w3 hm3 hg3
        go_wp2_with fail
        rw [if_pos hlF, hlE] at hm3
        obtain ⟨hW3, hb3⟩ := hW1.told hm3 hg3
        have hb03 : Below B wr w3 := (hb02.trans (hb1.mono (by omega))).trans hb3
        have hz3 := hg3.size
        have hY : ∀ (j : Nat), w3.cell? ⟨wr.heap.size, j, none⟩ = w2.cell? ⟨wr.heap.size, j, none⟩ := fun j => (cell_grown hg3 (by omega) (by omega) j).trans (hX j)
        rw [← hY] at hX0 hX1 hX2 hX3 hX4 hX5 hX6 hX7
        clear p0 p1 p2 p3 p4 q1 q2 hX hY
        obtain ⟨p0, p1, p2, p3, p4⟩ := hW3.cells
        obtain ⟨q1, q2⟩ := hW3.form hlt
        rw [Hfk.out] at q1
        obtain ⟨t1, t2, t3, t4⟩ := hW3.lts
        have t5 : wr.heap.size < w3.heap.size := by omega
        refine wp_region_ext (by kernel_rfl) (by kernel_rfl) ?_
        have hE := ext_cells w3
        repeat (first
          | go_big_quiet_step ((go_at_call 63; exact ext_of (hcall _))))
        refine wpQuiet_nil ?_
        intro w4 hx4
        have hb4 := ext_out hx4
        clear hE hx4
        have hWe := hW3.below hb4
        have hbe : Below B wr w4 := hb03.trans (hb4.mono (by omega))
        by_cases hbig : ak + se ≤ 67108864
        · go_wp2_with fail
          go_roundw
          case rel => exact Hfin.out _ hWe hbig hbe
          case measure => simp [intOf]; omega
        · go_wp2_with fail
          go_ret
          exact ⟨hbk.trans hbe, .inr ⟨rfl, by have e1 := Hend.out; have e2 := Hnext.out; simp only [S.most26]; omega⟩⟩
      · have c2' := int_bne c2
        go_wp2_with fail
        generalize (wr.setCell ⟨gA, k, none⟩ (.int .i64 ak)).alloc (.cells #[.int .i64 kind, .int .i64 op, .int .i64 d, .int .i64 a, .int .i64 b', .int .i64 imm, .string lab, .int .u32 wd] 39) = w2 at *
        refine wp_region_ext (by kernel_rfl) (by kernel_rfl) ?_
        have hE := ext_cells w2
        repeat (first
          | go_big_quiet_step ((go_at_call 63; exact ext_of (hcall _))))
        refine wpQuiet_nil ?_
        intro w4 hx4
        have hb4 := ext_out hx4
        clear hE hx4
        have hWe := hW2.below hb4
        have hbe : Below B wr w4 := hb02.trans (hb4.mono (by omega))
        by_cases hbig : ak + se ≤ 67108864
        · go_wp2_with fail
          go_roundw
          case rel => exact Hfin.out _ hWe hbig hbe
          case measure => simp [intOf]; omega
        · go_wp2_with fail
          go_ret
          exact ⟨hbk.trans hbe, .inr ⟨rfl, by have e1 := Hend.out; have e2 := Hnext.out; simp only [S.most26]; omega⟩⟩
    · have hkl : k = xs.length := by omega
      subst hkl
      have hlast : ∀ w', Work w' B g gF gA m n A c xs base F (T'.set xs.length (S.addr xs F base xs.length)) (labF xs) → Work w' B g gF gA m n A c xs base F (addrs xs F base (xs.length + 1)) (labF xs) := by
        intro w' h'
        have e : T'.set xs.length (S.addr xs F base xs.length) = addrs xs F base (xs.length + 1) := by
          refine list_ext_getD (by rw [List.length_set, HTl.out, addrs_length]) fun j => ?_
          by_cases hj : j < xs.length + 1
          · rw [addrs_getD _ _ _ _ _ hj]
            by_cases hjk : j = xs.length
            · subst hjk
              rw [getD_set_self (by rw [HTl.out]; omega)]
            · rw [getD_set_other (fun e => hjk e.symm)]
              exact HT.out j (by omega)
          · rw [List.getD_eq_getElem?_getD, List.getD_eq_getElem?_getD, List.getElem?_eq_none_iff.2 (by rw [List.length_set, HTl.out]; omega), List.getElem?_eq_none_iff.2 (by rw [addrs_length]; omega)]
        rw [e] at h'
        exact h'
      have Hlast := Lib.hid hlast
      have hpos' : S.addr xs F base xs.length ≤ S.most26 := hpos
      clear hlast
      generalize hak : S.addr xs F base xs.length = ak at *
      have Hak := Lib.hid hak
      clear hak
      go_wp2_with fail
      refine wp_region_ext_tail 11 (by kernel_rfl) (by kernel_rfl) ?_
      have hE := ext_cells wr
      simp only [List.take_succ_cons, List.take_zero, List.drop_succ_cons, List.drop_zero]
      repeat (first | go_big_quiet_step (fail))
      refine wpQuiet_nil ?_
      intro w1 hx1
      have hb1 := ext_out hx1
      clear hE hx1
      have hW1 := hW.below hb1
      obtain ⟨s1, s2⟩ := hW1.at_ (k := xs.length) (by omega)
      obtain ⟨hW3, hb3⟩ := hW1.placed xs.length ak rfl
      go_wp2_with fail
      go_ret
      exact ⟨(hbk.trans (hb1.mono (by omega))).trans hb3, .inl ⟨rfl, by rw [Hak.out]; exact hpos', Hlast.out _ hW3⟩⟩

end Go.Proofs.YtidhglleeccpoaaDoor
