/- Walk of the assembler's method grows. -/
import Derived.Test.YtlldagdhlfpihaaGreatDoorZAsmJ
set_option linter.unusedVariables false
set_option linter.unusedSimpArgs false
set_option linter.unusedSectionVars false
namespace Go.Proofs.YtlldagdhlfpihaaGreatDoor
open Go.RowKit

theorem chk_beq (n : Int) : S.chk ⟨26, 0, 0, 0, n⟩ = if -32768 ≤ n ∧ n ≤ 32767 then 0 else 11 := by
  have hf : S.form 26 = 4 := by decide
  have hl : S.least 26 = -32768 ∧ S.most 26 = 32767 := by decide
  simp only [S.chk, S.good, hf, S.hasD, S.hasA, S.hasB, S.reg, hl.1, hl.2]
  simp
theorem chk_jal (n : Int) : S.chk ⟨32, 0, 0, 0, n⟩ = if -1048576 ≤ n ∧ n ≤ 1048575 then 0 else 11 := by
  have hf : S.form 32 = 5 := by decide
  have hl : S.least 32 = -1048576 ∧ S.most 32 = 1048575 := by decide
  simp only [S.chk, S.good, hf, S.hasD, S.hasA, S.hasB, S.reg, hl.1, hl.2]
  simp

/-- The form of an item is made greater. -/
theorem Work.grown {w w' : World} {B g gF gA m n : Nat} {A : Option Addr} {c : Nat} {xs : List S.Item} {base : Int} {F T : List Int} {f : ByteArray → Option Int} (h : Work w B g gF gA m n A c xs base F T f) (k : Nat) (v : Int)
    (hw : w' = w.setCell ⟨gF, k, none⟩ (.int .i64 v)) : Work w' B g gF gA m n A c xs base (F.set k v) T f ∧ Below B w w' := by
  subst hw
  have hb : Below B w (w.setCell ⟨gF, k, none⟩ (.int .i64 v)) := (Below.refl _ _).setCell h.hF _
  have hs := h.forms.stored k (.int .i64 v)
  have hgF : g ≠ gF := by
    rintro rfl
    rcases h.forms.2 with ⟨he, _⟩ | ⟨g', cap, cur, he, _, hg, _⟩
    · cases he
    · cases he
      rw [h.blk] at hg
      injection hg with hg
      injection hg with _ ht
      exact absurd ht (by decide)
  have hmF : some m ≠ some gF := by
    rintro he
    cases he
    obtain ⟨D, ⟨es, clock, hm, _⟩, _⟩ := h.labels
    rcases h.forms.2 with ⟨he, _⟩ | ⟨g', cap, cur, he, _, hg, _⟩
    · cases he
    · cases he
      rw [hm] at hg
      cases hg
  refine ⟨⟨?_, ?_, h.ats.kept hs.2 (.inr ?_), h.labels.kept hs.2 hmF, h.hg, h.hF, h.hA, h.hm, h.ne1⟩, hb⟩
  · rw [hs.2.block g (blk_lt h.blk) (by simpa using hgF)]; exact h.blk
  · rw [List.map_set]; exact hs.1
  · simp [Value.ownBlock]; exact fun e => h.ne1 e.symm

/-- What grows leaves. -/
def GrowsPost (w : World) (B g gF gA m n : Nat) (A : Option Addr) (c : Nat) (xs : List S.Item) (base : Int) (F F0 : List Int) (i : Nat) (x : S.Item) (e : Ending) (w' : World) : Prop :=
  ∃ F', e = .returned (.bool (!(S.fit xs F0 base i x))) ∧ (F' = if S.fit xs F0 base i x = true then F else F.set i (F.getD i 0 + 1)) ∧
      Work w' B g gF gA m n A c xs base F' (addrs xs F0 base (xs.length + 1)) (labF xs) ∧ Below B w w'

set_option maxRecDepth 100000 in
set_option maxHeartbeats 4000000 in
theorem asm_grows (w : World) {B g gF gA m n : Nat} {A : Option Addr} {c : Nat} {xs : List S.Item} {base : Int} {F F0 : List Int} (h : Work w B g gF gA m n A c xs base F (addrs xs F0 base (xs.length + 1)) (labF xs)) (hi : Items w B A xs) (hB : B ≤ w.heap.size)
    (i : Nat) (x : S.Item) (hx : xs[i]? = some x) (hok : S.FormOk xs F0) (hsame : F.getD i 0 = F0.getD i 0) (hst : S.named x = true → 0 ≤ S.stands xs x.label) (hls : x.label.size ≤ maxLen)
    (hl : xs.length ≤ 1048576) (hb0 : 0 ≤ base) (hb26 : base ≤ 67108864) (hw : ∀ x ∈ xs, 0 ≤ x.word ∧ x.word ≤ 4294967295) :
    Calls Tryz.prog 175 #[.pointer (some ⟨g, 0, none⟩), .int .i64 i] w (GrowsPost w B g gF gA m n A c xs base F F0 i x) := by
  have hlt : i < xs.length := (List.getElem?_eq_some_iff.1 hx).1
  obtain ⟨k0, k1, k2, k3, k4⟩ := h.cells
  obtain ⟨l1, l2, l3, l4⟩ := h.lts
  obtain ⟨hcF, hfF⟩ := h.form hlt
  have hcA := (h.at_ (k := i) (by omega)).1
  obtain ⟨b, off, x', rfl, hb, hx', hc0, hc1, hc2, hc3, hc4, hc5, hc6, hc7, hw0, hw1⟩ := hi.at_ hlt
  rw [hx] at hx'
  cases hx'
  have hbr : b < w.heap.size := by omega
  obtain ⟨h3, h4, h5⟩ := hok.2 i x hx
  rw [addrs_getD xs F0 base _ i (by omega)] at hcA
  have hfit : S.fit xs F0 base i x = (if (x.kind ≠ 3 ∧ x.kind ≠ 4) ∨ (x.kind = 3 ∧ F0.getD i 0 = 3) ∨ (x.kind = 4 ∧ F0.getD i 0 = 2) then true
      else if x.kind = 3 ∧ F0.getD i 0 = 1 then
        decide (-32768 ≤ S.addr xs F0 base (S.stands xs x.label).toNat - S.addr xs F0 base (i + 1) ∧ S.addr xs F0 base (S.stands xs x.label).toNat - S.addr xs F0 base (i + 1) ≤ 32767)
      else decide (-1048576 ≤ S.addr xs F0 base (S.stands xs x.label).toNat - S.addr xs F0 base (i + 1) ∧ S.addr xs F0 base (S.stands xs x.label).toNat - S.addr xs F0 base (i + 1) ≤ 1048575)) := rfl
  have hsucc : S.addr xs F0 base (i + 1) = S.addr xs F0 base i + S.size x (F.getD i 0) := by rw [S.addr, hsame]; simp [S.sizeAt, hx]
  obtain ⟨ha0, ha1⟩ := addr_bd (base := base) hok hw i
  have hw' := Lib.hid hw
  have hok' := Lib.hid hok
  rw [hsucc, ← hsame] at hfit
  rw [← hsame] at h3 h4 h5
  clear hok hw hsucc hsame
  generalize S.addr xs F0 base i = ti at *
  generalize hfk : F.getD i 0 = fk at *
  have Hfk := Lib.hid hfk
  clear hfk
  by_cases k34 : x.kind = 3 ∨ x.kind = 4
  · have hnm : S.named x = true := by unfold S.named; grind
    have h0 := hst hnm
    obtain ⟨j, hj, hjl⟩ : ∃ j : Nat, S.stands xs x.label = j ∧ j < xs.length := by
      rcases stands_spec xs x.label with ⟨e, _⟩ | ⟨j, y, e, hj, _⟩
      · omega
      · exact ⟨j, e, (List.getElem?_eq_some_iff.1 hj).1⟩
    have hlab : labF xs x.label = some (j : Int) := by unfold labF; rw [if_neg (by omega), hj]
    obtain ⟨hj0, hj1⟩ := addr_bd (base := base) hok'.out hw'.out j
    rw [hj, Int.toNat_natCast] at hfit
    have htj := addrs_getD xs F0 base (xs.length + 1) j (by omega)
    have Hfit := Lib.hid hfit
    have Htj := Lib.hid htj
    have Hlab := Lib.hid hlab
    have hcases : (x.kind = 3 ∧ fk = 1) ∨ (x.kind = 3 ∧ fk = 2) ∨ (x.kind = 3 ∧ fk = 3) ∨ (x.kind = 4 ∧ fk = 1) ∨ (x.kind = 4 ∧ fk = 2) := by
      rcases k34 with k | k
      · have := h3 k; omega
      · have := h4 k; omega
    clear h3 h4 h5 k34 hfit htj hlab hj hst h0 hnm hx
    generalize S.addr xs F0 base j = tj at *
    obtain ⟨kind, ⟨op, d, a, b', imm⟩, lab, wd⟩ := x
    simp only at hc0 hc1 hc2 hc3 hc4 hc5 hc6 hc7 hw0 hw1 hcases hls
    have hbA : Below w.heap.size w (w.alloc (.cells #[.int .i64 kind, .int .i64 op, .int .i64 d, .int .i64 a, .int .i64 b', .int .i64 imm, .string lab, .int .u32 wd] 152)) := (Below.refl _ _).alloc (Nat.le_refl _) _
    have hWA := h.below hbA
    have hfin : ∀ w', Below w.heap.size w w' → S.fit xs F0 base i ⟨kind, ⟨op, d, a, b', imm⟩, lab, wd⟩ = true →
        GrowsPost w B g gF gA m n (some ⟨b, off, none⟩) c xs base F F0 i ⟨kind, ⟨op, d, a, b', imm⟩, lab, wd⟩ (.returned (.bool false)) w' :=
      fun w' hb he => ⟨F, by rw [he]; rfl, by rw [if_pos he], h.below hb, hb.mono hB⟩
    have Hfin := Lib.hid hfin
    clear hfin
    rcases hcases with ⟨rfl, rfl⟩ | ⟨rfl, rfl⟩ | ⟨rfl, rfl⟩ | ⟨rfl, rfl⟩ | ⟨rfl, rfl⟩
    rotate_left 2
    · go_enter Tryz.func175, Tryz.ntmps175
      go_wp2_with fail
      go_ret
      exact Hfin.out _ hbA (by rw [Hfit.out]; simp)
    rotate_left 1
    · go_enter Tryz.func175, Tryz.ntmps175
      go_wp2_with fail
      go_ret
      exact Hfin.out _ hbA (by rw [Hfit.out]; simp)
    · have hsz : S.size ⟨3, ⟨op, d, a, b', imm⟩, lab, wd⟩ 1 = 1 := by simp [S.size]
      have hchk : ((-32768 ≤ tj - ti - 1 ∧ tj - ti - 1 ≤ 32767) ∧ S.chk ⟨26, 0, 0, 0, tj - ti - 1⟩ = 0 ∧ S.fit xs F0 base i ⟨3, ⟨op, d, a, b', imm⟩, lab, wd⟩ = true) ∨
          (¬ (-32768 ≤ tj - ti - 1 ∧ tj - ti - 1 ≤ 32767) ∧ S.chk ⟨26, 0, 0, 0, tj - ti - 1⟩ = 11 ∧ S.fit xs F0 base i ⟨3, ⟨op, d, a, b', imm⟩, lab, wd⟩ = false) := by
        have e : tj - (ti + 1) = tj - ti - 1 := by omega
        rw [Hfit.out, hsz, chk_beq, e]
        by_cases hr : -32768 ≤ tj - ti - 1 ∧ tj - ti - 1 ≤ 32767
        · left; simp [hr]
        · right; simp [hr]
      rcases hchk with ⟨hr, hc, hft⟩ | ⟨hr, hc, hft⟩
      all_goals
        have Hft := Lib.hid hft
        clear hft hr
        go_enter Tryz.func175, Tryz.ntmps175
        go_wp2_with fail
        refine wp_region_ext (by kernel_rfl) (by kernel_rfl) ?_
        have hE := ext_cells (w.alloc (.cells #[.int .i64 3, .int .i64 op, .int .i64 d, .int .i64 a, .int .i64 b', .int .i64 imm, .string lab, .int .u32 wd] 152))
        repeat (first
          | go_big_quiet_step ((first
            | (go_at_call 176; exact ext_of (asm_address _ (hWA.below (Subtype.property _)) lab hls j Hlab.out (by omega) hl tj Htj.out))
            | (go_at_call 186; exact ext_of (asm_size _ _ _ _ _ _ _ _ _ _ (by omega) (by omega) hw0 hw1)))))
        refine wpQuiet_nil ?_
        intro w1 hx1
        have hb1 := ext_out hx1
        clear hE hx1
        have hb01 : Below w.heap.size w w1 := hbA.trans (hb1.mono (by simp))
        obtain ⟨hq1, hq2⟩ := bcell hb1
        have hz1 : w.heap.size + 1 ≤ w1.heap.size := by simpa using hb1.size
        have hlt1 : w.heap.size < w1.heap.size := by omega
        have hX0 : w1.cell? ⟨w.heap.size, 0, none⟩ = some (.int .i64 3) := by rw [hq1 _ _ (by simp)]; exact cell_row_new _ _ _ _
        have hW1 := h.below hb01
        obtain ⟨p0, p1, p2, p3, p4⟩ := hW1.cells
        obtain ⟨q1, q2⟩ := hW1.form hlt
        rw [Hfk.out] at q1
        obtain ⟨r1, r2, r3, r4⟩ := hW1.lts
        clear hq1 hq2
        go_wp2_with fail
        refine (isa_Check _ _ _ _ _ _).mono ?_
        rintro e w3 ⟨rfl, hb3⟩
        have hb03 : Below w.heap.size w w3 := by
          refine Below.trans ?_ (hb3.mono ?_)
          · exact hb01.alloc (by omega) _
          · simp; omega
        have hW3 := h.below hb03
        obtain ⟨n0, n1, n2, n3, n4⟩ := hW3.cells
        obtain ⟨hd1, hd2⟩ := hW3.form hlt
        rw [Hfk.out] at hd1
        obtain ⟨m1, m2, m3, m4⟩ := hW3.lts
        clear n1 n3 n4
      · go_wp2_with fail
        go_ret
        exact Hfin.out _ hb03 Hft.out
      · go_wp2_with fail
        go_ret
        obtain ⟨hg1, hg2⟩ := hW3.grown i _ rfl
        exact ⟨_, by rw [Hft.out]; rfl, by rw [Hft.out, Hfk.out]; rfl, hg1, (hb03.mono hB).trans hg2⟩
    · have hsz : S.size ⟨3, ⟨op, d, a, b', imm⟩, lab, wd⟩ 2 = 2 := by simp [S.size]
      have hchk : ((-1048576 ≤ tj - ti - 2 ∧ tj - ti - 2 ≤ 1048575) ∧ S.chk ⟨32, 0, 0, 0, tj - ti - 2⟩ = 0 ∧ S.fit xs F0 base i ⟨3, ⟨op, d, a, b', imm⟩, lab, wd⟩ = true) ∨
          (¬ (-1048576 ≤ tj - ti - 2 ∧ tj - ti - 2 ≤ 1048575) ∧ S.chk ⟨32, 0, 0, 0, tj - ti - 2⟩ = 11 ∧ S.fit xs F0 base i ⟨3, ⟨op, d, a, b', imm⟩, lab, wd⟩ = false) := by
        have e : tj - (ti + 2) = tj - ti - 2 := by omega
        rw [Hfit.out, hsz, chk_jal, e]
        by_cases hr : -1048576 ≤ tj - ti - 2 ∧ tj - ti - 2 ≤ 1048575
        · left; simp [hr]
        · right; simp [hr]
      rcases hchk with ⟨hr, hc, hft⟩ | ⟨hr, hc, hft⟩
      all_goals
        have Hft := Lib.hid hft
        clear hft hr
        go_enter Tryz.func175, Tryz.ntmps175
        go_wp2_with fail
        refine wp_region_ext (by kernel_rfl) (by kernel_rfl) ?_
        have hE := ext_cells (w.alloc (.cells #[.int .i64 3, .int .i64 op, .int .i64 d, .int .i64 a, .int .i64 b', .int .i64 imm, .string lab, .int .u32 wd] 152))
        repeat (first
          | go_big_quiet_step ((first
            | (go_at_call 176; exact ext_of (asm_address _ (hWA.below (Subtype.property _)) lab hls j Hlab.out (by omega) hl tj Htj.out))
            | (go_at_call 186; exact ext_of (asm_size _ _ _ _ _ _ _ _ _ _ (by omega) (by omega) hw0 hw1)))))
        refine wpQuiet_nil ?_
        intro w1 hx1
        have hb1 := ext_out hx1
        clear hE hx1
        have hb01 : Below w.heap.size w w1 := hbA.trans (hb1.mono (by simp))
        obtain ⟨hq1, hq2⟩ := bcell hb1
        have hz1 : w.heap.size + 1 ≤ w1.heap.size := by simpa using hb1.size
        have hlt1 : w.heap.size < w1.heap.size := by omega
        have hX0 : w1.cell? ⟨w.heap.size, 0, none⟩ = some (.int .i64 3) := by rw [hq1 _ _ (by simp)]; exact cell_row_new _ _ _ _
        have hW1 := h.below hb01
        obtain ⟨p0, p1, p2, p3, p4⟩ := hW1.cells
        obtain ⟨q1, q2⟩ := hW1.form hlt
        rw [Hfk.out] at q1
        obtain ⟨r1, r2, r3, r4⟩ := hW1.lts
        clear hq1 hq2
        go_wp2_with fail
        refine (isa_Check _ _ _ _ _ _).mono ?_
        rintro e w3 ⟨rfl, hb3⟩
        have hb03 : Below w.heap.size w w3 := by
          refine Below.trans ?_ (hb3.mono ?_)
          · exact hb01.alloc (by omega) _
          · simp; omega
        have hW3 := h.below hb03
        obtain ⟨n0, n1, n2, n3, n4⟩ := hW3.cells
        obtain ⟨hd1, hd2⟩ := hW3.form hlt
        rw [Hfk.out] at hd1
        obtain ⟨m1, m2, m3, m4⟩ := hW3.lts
        clear n1 n3 n4
      · go_wp2_with fail
        go_ret
        exact Hfin.out _ hb03 Hft.out
      · go_wp2_with fail
        go_ret
        obtain ⟨hg1, hg2⟩ := hW3.grown i _ rfl
        exact ⟨_, by rw [Hft.out]; rfl, by rw [Hft.out, Hfk.out]; rfl, hg1, (hb03.mono hB).trans hg2⟩
    · have hsz : S.size ⟨4, ⟨op, d, a, b', imm⟩, lab, wd⟩ 1 = 1 := by simp [S.size]
      have hchk : ((-1048576 ≤ tj - ti - 1 ∧ tj - ti - 1 ≤ 1048575) ∧ S.chk ⟨32, 0, 0, 0, tj - ti - 1⟩ = 0 ∧ S.fit xs F0 base i ⟨4, ⟨op, d, a, b', imm⟩, lab, wd⟩ = true) ∨
          (¬ (-1048576 ≤ tj - ti - 1 ∧ tj - ti - 1 ≤ 1048575) ∧ S.chk ⟨32, 0, 0, 0, tj - ti - 1⟩ = 11 ∧ S.fit xs F0 base i ⟨4, ⟨op, d, a, b', imm⟩, lab, wd⟩ = false) := by
        have e : tj - (ti + 1) = tj - ti - 1 := by omega
        rw [Hfit.out, hsz, chk_jal, e]
        by_cases hr : -1048576 ≤ tj - ti - 1 ∧ tj - ti - 1 ≤ 1048575
        · left; simp [hr]
        · right; simp [hr]
      rcases hchk with ⟨hr, hc, hft⟩ | ⟨hr, hc, hft⟩
      all_goals
        have Hft := Lib.hid hft
        clear hft hr
        go_enter Tryz.func175, Tryz.ntmps175
        go_wp2_with fail
        refine wp_region_ext (by kernel_rfl) (by kernel_rfl) ?_
        have hE := ext_cells (w.alloc (.cells #[.int .i64 4, .int .i64 op, .int .i64 d, .int .i64 a, .int .i64 b', .int .i64 imm, .string lab, .int .u32 wd] 152))
        repeat (first
          | go_big_quiet_step ((first
            | (go_at_call 176; exact ext_of (asm_address _ (hWA.below (Subtype.property _)) lab hls j Hlab.out (by omega) hl tj Htj.out))
            | (go_at_call 186; exact ext_of (asm_size _ _ _ _ _ _ _ _ _ _ (by omega) (by omega) hw0 hw1)))))
        refine wpQuiet_nil ?_
        intro w1 hx1
        have hb1 := ext_out hx1
        clear hE hx1
        have hb01 : Below w.heap.size w w1 := hbA.trans (hb1.mono (by simp))
        obtain ⟨hq1, hq2⟩ := bcell hb1
        have hz1 : w.heap.size + 1 ≤ w1.heap.size := by simpa using hb1.size
        have hlt1 : w.heap.size < w1.heap.size := by omega
        have hX0 : w1.cell? ⟨w.heap.size, 0, none⟩ = some (.int .i64 4) := by rw [hq1 _ _ (by simp)]; exact cell_row_new _ _ _ _
        have hW1 := h.below hb01
        obtain ⟨p0, p1, p2, p3, p4⟩ := hW1.cells
        obtain ⟨q1, q2⟩ := hW1.form hlt
        rw [Hfk.out] at q1
        obtain ⟨r1, r2, r3, r4⟩ := hW1.lts
        clear hq1 hq2
        go_wp2_with fail
        refine (isa_Check _ _ _ _ _ _).mono ?_
        rintro e w3 ⟨rfl, hb3⟩
        have hb03 : Below w.heap.size w w3 := by
          refine Below.trans ?_ (hb3.mono ?_)
          · exact hb01.alloc (by omega) _
          · simp; omega
        have hW3 := h.below hb03
        obtain ⟨n0, n1, n2, n3, n4⟩ := hW3.cells
        obtain ⟨hd1, hd2⟩ := hW3.form hlt
        rw [Hfk.out] at hd1
        obtain ⟨m1, m2, m3, m4⟩ := hW3.lts
        clear n1 n3 n4
      · go_wp2_with fail
        go_ret
        exact Hfin.out _ hb03 Hft.out
      · go_wp2_with fail
        go_ret
        obtain ⟨hg1, hg2⟩ := hW3.grown i _ rfl
        exact ⟨_, by rw [Hft.out]; rfl, by rw [Hft.out, Hfk.out]; rfl, hg1, (hb03.mono hB).trans hg2⟩
  · have n3 : (x.kind == 3) = false := int_bne (by omega)
    have n4 : (x.kind == 4) = false := int_bne (by omega)
    have hft : S.fit xs F0 base i x = true := by rw [hfit, if_pos (.inl (by omega))]
    have Hft := Lib.hid hft
    clear hfit hft hst hx h3 h4 h5
    obtain ⟨m3, m4⟩ : x.kind ≠ 3 ∧ x.kind ≠ 4 := by omega
    clear k34
    obtain ⟨kind, ⟨op, d, a, b', imm⟩, lab, wd⟩ := x
    simp only at hc0 hc1 hc2 hc3 hc4 hc5 hc6 hc7 hw0 hw1 n3 n4 m3 m4
    have hbA : Below w.heap.size w (w.alloc (.cells #[.int .i64 kind, .int .i64 op, .int .i64 d, .int .i64 a, .int .i64 b', .int .i64 imm, .string lab, .int .u32 wd] 152)) := (Below.refl _ _).alloc (Nat.le_refl _) _
    have hWA := h.below hbA
    go_enter Tryz.func175, Tryz.ntmps175
    go_wp2_with fail
    go_ret
    exact ⟨F, by rw [Hft.out]; rfl, by rw [if_pos Hft.out], hWA, hbA.mono hB⟩

end Go.Proofs.YtlldagdhlfpihaaGreatDoor
