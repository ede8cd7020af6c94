/- Walk of the law EmitLoads. -/
import Derived.Test.YtidhglleeccpoaaDoorERow
import Derived.Test.YtidhglleeccpoaaDoorAsmQ
import Derived.Test.YtidhglleeccpoaaDoorMachX
import Derived.Test.YtidhglleeccpoaaDoorMachW
import Derived.Test.YtidhglleeccpoaaDoorLdP
set_option linter.unusedVariables false
set_option linter.unusedSimpArgs false
set_option linter.unusedSectionVars false
namespace Go.Proofs.YtidhglleeccpoaaDoor
open Go.RowKit

def ldVs (d n : Int) : List VL := [⟨⟨69, d, 0, 0, n, 0, [], []⟩, none, 0, none, 0⟩, ⟨⟨71, 1 + d % 31, 0, 0, 0, 0, [], []⟩, none, 0, none, 0⟩, ⟨⟨72, 0, 0, 0, 106, 0, [], []⟩, none, 0, none, 0⟩]
abbrev ldS (d n : Int) : Obj := .cells #[.int .i64 69, .int .i64 d, .int .i64 0, .int .i64 0, .int .i64 n, .int .i64 0, .slice none 0 0, .slice none 0 0, .int .i64 71, .int .i64 (1 + d % 31), .int .i64 0, .int .i64 0, .int .i64 0, .int .i64 0, .slice none 0 0, .slice none 0 0,
  .int .i64 72, .int .i64 0, .int .i64 0, .int .i64 0, .int .i64 106, .int .i64 0, .slice none 0 0, .slice none 0 0] 25
abbrev ldFc (b : Nat) : Obj := .cells #[.int .i64 0, .int .i64 32, .int .i64 0, .int .i64 0, .int .i64 0, .bool false, .slice (some ⟨b, 0, none⟩) 3 3] 28
theorem ld_vls {w W : World} {d n : Int} (hb : Below ((w.alloc (ldS d n)).alloc (ldFc w.heap.size)).heap.size ((w.alloc (ldS d n)).alloc (ldFc w.heap.size)) W) : VLs W W.heap.size (some ⟨w.heap.size, 0, none⟩) (ldVs d n) := by
  have h0 := (two_cells w (ldS d n) (ldFc w.heap.size)).1
  have hlt : w.heap.size < ((w.alloc (ldS d n)).alloc (ldFc w.heap.size)).heap.size := by simp; omega
  have h1 : W.heap[w.heap.size]? = some (ldS d n) := (hb.block _ hlt).trans h0
  exact VLs.of_row (xs := ldVs d n) h1 rfl (Nat.lt_of_lt_of_le hlt hb.size)
theorem ld_voks {W : World} {B : Nat} {d n : Int} (d0 : 1 ≤ d) (d1 : d ≤ 31) (n0 : 0 ≤ n) (n1 : n ≤ 4294967295) : ∀ x ∈ ldVs d n, VOk W B x := by
  have one : ∀ (op d imm : Int), I64 op → I64 d → I64 imm → VOk W B ⟨⟨op, d, 0, 0, imm, 0, [], []⟩, none, 0, none, 0⟩ := fun op d imm h1 h2 h3 =>
    ⟨fun h => absurd h (by simp), fun h => absurd h (by simp), by simp, by simp, fun _ => rfl, fun _ => rfl, h1, h2, h3, by show I64 0; unfold I64; decide⟩
  intro x hx
  unfold ldVs at hx
  simp only [List.mem_cons, List.not_mem_nil, or_false] at hx
  rcases hx with rfl | rfl | rfl
  · exact one _ _ _ (by unfold I64; decide) (by unfold I64; omega) (by unfold I64; omega)
  · exact one _ _ _ (by unfold I64; decide) (by unfold I64; omega) (by unfold I64; decide)
  · exact one _ _ _ (by unfold I64; decide) (by unfold I64; decide) (by unfold I64; decide)
/-- What Emit answers to the law's function. -/
def LdPost (d n : Int) (w : World) (e : Ending) (w' : World) : Prop :=
  ∃ (nm : ByteArray) (it : List S.Item) (A : Option Addr) (N c : Nat), e = .returned (.tuple #[.agg #[.string nm, .slice A N c], .int .i64 0]) ∧ it.map nopOf = ldI d n ∧ N = it.length ∧ w'.ownsRow w.heap.size 39 8 (.slice A N c) N (it.flatMap itemCells) ∧ Below w.heap.size w w'
theorem ld_emit {w W : World} {d n : Int} (d0 : 1 ≤ d) (d1 : d ≤ 31) (n0 : 0 ≤ n) (n1 : n ≤ 4294967295) (hL : LVE W) (hb : Below ((w.alloc (ldS d n)).alloc (ldFc w.heap.size)).heap.size ((w.alloc (ldS d n)).alloc (ldFc w.heap.size)) W)
    {A : Option Addr} {c : Nat} (hU : U32s W W.heap.size A [n]) :
    Calls Tryd.prog 4 #[.agg #[.int .i64 0, .int .i64 32, .int .i64 0, .int .i64 0, .int .i64 0, .bool false, .slice (some ⟨w.heap.size, 0, none⟩) 3 3], .slice A 1 c] W (LdPost d n W) := by
  have h := e_Emit (ldF d n) (some ⟨w.heap.size, 0, none⟩) 3 (ldVs d n) rfl W hL (ld_vls hb) (ld_voks d0 d1 n0 n1) (by show 3 ≤ 300; decide) (by show (0 : Int) ≤ 60000; decide) (by show I64 0; unfold I64; decide) A c [n] hU (by simp)
  refine h.mono ?_
  rintro e w' ⟨v, rfl, ho, hb2⟩
  obtain ⟨A3, c3, rfl⟩ := ownsRow_form ho
  exact ⟨_, S.emitItems (ldF d n) [n], A3, _, c3, by rw [ld_ok d0 d1], ld_items d0 d1 n0 n1, rfl, ho, hb2⟩

theorem wf_u32e {y : Int} (h : (Lit.int .u32 y).wf = true) : 0 ≤ y ∧ y ≤ 4294967295 := by
  simp [Lit.wf, IntKind.min, IntKind.max, IntKind.signed, IntKind.bits] at h
  omega
theorem wf_u8e {y : Int} (h : (Lit.int .u8 y).wf = true) : 0 ≤ y ∧ y ≤ 255 := by
  simp [Lit.wf, IntKind.min, IntKind.max, IntKind.signed, IntKind.bits] at h
  omega
theorem ldI_words (d n : Int) : ∀ x ∈ ldI d n, 0 ≤ x.word ∧ x.word ≤ 4294967295 := by
  intro x hx
  unfold ldI at hx
  simp only [List.mem_cons, List.mem_map] at hx
  rcases hx with rfl | rfl | rfl | rfl | ⟨y, _, rfl⟩
  · exact ⟨Int.le_refl 0, show (0 : Int) ≤ 4294967295 by decide⟩
  · exact ⟨Int.le_refl 0, show (0 : Int) ≤ 4294967295 by decide⟩
  · exact ⟨Int.le_refl 0, show (0 : Int) ≤ 4294967295 by decide⟩
  · exact ⟨Int.le_refl 0, show (0 : Int) ≤ 4294967295 by decide⟩
  · exact ⟨Int.le_refl 0, show (0 : Int) ≤ 4294967295 by decide⟩
theorem ldI_labs (d n : Int) : ∀ (k : Nat) (x : S.Item), (ldI d n)[k]? = some x → x.label.size ≤ maxLen := by
  intro k x hx
  have hx := List.mem_of_getElem? hx
  have h0 : (S.outer 0).size = 2 := by kernel_rfl
  have h1 : (S.inner 0).size = 2 := by kernel_rfl
  have h2 : S.noLab.size = 0 := by kernel_rfl
  unfold ldI at hx
  simp only [List.mem_cons, List.mem_map] at hx
  unfold maxLen
  rcases hx with rfl | rfl | rfl | rfl | ⟨y, _, rfl⟩
  · show (S.outer 0).size ≤ _; omega
  · show S.noLab.size ≤ _; omega
  · show S.noLab.size ≤ _; omega
  · show (S.inner 0).size ≤ _; omega
  · show S.noLab.size ≤ _; omega
theorem set1 {w : World} {g : Nat} {cs : Array Value} {T : TypeId} (h : w.heap[g]? = some (.cells cs T)) (i : Nat) (v : Value) : (w.setCell ⟨g, i, none⟩ v).heap[g]? = some (.cells (cs.setIfInBounds i v) T) := by
  rw [setCell_eq_setRow _ _ _ _ _ _ _ h]
  exact setRow_heap _ _ _ _ _ _ h
theorem set8 {w : World} {g : Nat} {a0 a1 a2 a3 a4 a5 a6 a7 : Value} {T : TypeId} (h : w.heap[g]? = some (.cells #[a0, a1, a2, a3, a4, a5, a6, a7] T)) (b0 b1 b2 b3 b4 b5 b6 b7 : Value) :
    ((((((((w.setCell ⟨g, 0, none⟩ b0).setCell ⟨g, 1, none⟩ b1).setCell ⟨g, 2, none⟩ b2).setCell ⟨g, 3, none⟩ b3).setCell ⟨g, 4, none⟩ b4).setCell ⟨g, 5, none⟩ b5).setCell ⟨g, 6, none⟩ b6).setCell ⟨g, 7, none⟩ b7).heap[g]? = some (.cells #[b0, b1, b2, b3, b4, b5, b6, b7] T) ∧
    (∀ z : World, z.heap.size ≤ g → Below z.heap.size z w → Below z.heap.size z ((((((((w.setCell ⟨g, 0, none⟩ b0).setCell ⟨g, 1, none⟩ b1).setCell ⟨g, 2, none⟩ b2).setCell ⟨g, 3, none⟩ b3).setCell ⟨g, 4, none⟩ b4).setCell ⟨g, 5, none⟩ b5).setCell ⟨g, 6, none⟩ b6).setCell ⟨g, 7, none⟩ b7)) ∧
    ((((((((w.setCell ⟨g, 0, none⟩ b0).setCell ⟨g, 1, none⟩ b1).setCell ⟨g, 2, none⟩ b2).setCell ⟨g, 3, none⟩ b3).setCell ⟨g, 4, none⟩ b4).setCell ⟨g, 5, none⟩ b5).setCell ⟨g, 6, none⟩ b6).setCell ⟨g, 7, none⟩ b7).heap.size = w.heap.size :=
  ⟨by
    have h8 := set1 (set1 (set1 (set1 (set1 (set1 (set1 (set1 h 0 b0) 1 b1) 2 b2) 3 b3) 4 b4) 5 b5) 6 b6) 7 b7
    simp only [List.setIfInBounds_toArray, List.set_cons_succ, List.set_cons_zero] at h8
    exact h8,
    fun z hz hb => (((((((hb.setCell (p := ⟨g, 0, none⟩) hz b0).setCell (p := ⟨g, 1, none⟩) hz b1).setCell (p := ⟨g, 2, none⟩) hz b2).setCell (p := ⟨g, 3, none⟩) hz b3).setCell (p := ⟨g, 4, none⟩) hz b4).setCell (p := ⟨g, 5, none⟩) hz b5).setCell (p := ⟨g, 6, none⟩) hz b6).setCell (p := ⟨g, 7, none⟩) hz b7,
    by simp [World.setCell]⟩

theorem item_size : (Tryd.prog.info? 39).map (·.size) = some 8 := by kernel_rfl

set_option maxRecDepth 100000 in
set_option maxHeartbeats 4000000 in
theorem law_EmitLoads (n0 n1 : Int) (w0 : 0 ≤ n0 ∧ n0 ≤ 4294967295) (w1 : 0 ≤ n1 ∧ n1 ≤ 255) (w : World) (hL : LVE w) :
    Calls Tryd.prog 3 #[.int .u32 n0, .int .u8 n1] w fun e w' => e = .returned (.bool true) ∧ Below w.heap.size w w' := by
  have HL := Lib.hid hL
  clear hL
  obtain ⟨a0, a1⟩ := w0
  obtain ⟨b0, b1⟩ := w1
  go_enter Tryd.func3, Tryd.ntmps3
  go_upto_region 2 with fail
  have d0 : 1 ≤ 1 + n1 % 31 := by omega
  have d1 : 1 + n1 % 31 ≤ 31 := by omega
  have e0 : 1 ≤ 1 + (1 + n1 % 31) % 31 := by omega
  have e1 : 1 + (1 + n1 % 31) % 31 ≤ 31 := by omega
  generalize 1 + n1 % 31 = d at *
  go_upto_region 3 with fail
  have HbA := Lib.hid (show Below w.heap.size w ((w.alloc (ldS d n0)).alloc (ldFc w.heap.size)) from ((Below.refl _ _).alloc (Nat.le_refl _) _).alloc (by simp) _)
  have hF := (two_cells w (ldS d n0) (ldFc w.heap.size)).2
  have hsz : ((w.alloc (ldS d n0)).alloc (ldFc w.heap.size)).heap.size = w.heap.size + 2 := by simp
  have Hem := Lib.hid (fun (W : World) (A : Option Addr) (c : Nat) hb hL hU => @ld_emit w W d n0 d0 d1 a0 a1 hL hb A c hU)
  generalize (w.alloc (ldS d n0)).alloc (ldFc w.heap.size) = w2 at *
  have q0 : w2.cell? ⟨w.heap.size + 1, 0, none⟩ = some (.int .i64 0) := by rw [Lib.cell_of_heap hF]; rfl
  have q1 : w2.cell? ⟨w.heap.size + 1, 1, none⟩ = some (.int .i64 32) := by rw [Lib.cell_of_heap hF]; rfl
  have q2 : w2.cell? ⟨w.heap.size + 1, 2, none⟩ = some (.int .i64 0) := by rw [Lib.cell_of_heap hF]; rfl
  have q3 : w2.cell? ⟨w.heap.size + 1, 3, none⟩ = some (.int .i64 0) := by rw [Lib.cell_of_heap hF]; rfl
  have q4 : w2.cell? ⟨w.heap.size + 1, 4, none⟩ = some (.int .i64 0) := by rw [Lib.cell_of_heap hF]; rfl
  have q5 : w2.cell? ⟨w.heap.size + 1, 5, none⟩ = some (.bool false) := by rw [Lib.cell_of_heap hF]; rfl
  have q6 : w2.cell? ⟨w.heap.size + 1, 6, none⟩ = some (.slice (some ⟨w.heap.size, 0, none⟩) 3 3) := by rw [Lib.cell_of_heap hF]; rfl
  have hbU : Below w2.heap.size w2 (w2.alloc (.cells #[.int .u32 n0] 22)) := (Below.refl _ _).alloc (Nat.le_refl _) _
  have hU : U32s (w2.alloc (.cells #[.int .u32 n0] 22)) (w2.alloc (.cells #[.int .u32 n0] 22)).heap.size (some ⟨w2.heap.size, 0, none⟩) [n0] := by
    refine ⟨fun x hx => by rw [List.mem_singleton] at hx; subst hx; exact ⟨a0, a1⟩, fun _ => ⟨w2.heap.size, 0, rfl, by simp, fun k x hx => ?_⟩⟩
    have hk := (List.getElem?_eq_some_iff.1 hx).1
    have hk0 : k = 0 := by simpa using hk
    subst hk0
    simp only [List.getElem?_cons_zero, Option.some.injEq] at hx
    subst hx
    exact cell_row_new w2 #[.int .u32 n0] 22 0
  have HbU := Lib.hid (HbA.out.trans (hbU.mono HbA.out.size))
  have hcall := Hem.out _ _ 1 hbU (HL.out.on HbU.out) hU
  rw [hsz] at hcall
  have Hcall := Lib.hid hcall
  clear hcall
  clear hF hbU hU Hem
  go_wp2_with fail
  refine Hcall.out.mono ?_
  rintro e w3 ⟨nm, it, A3, N, c3, rfl, hit, hN, ho3, hb3⟩
  have Z3 := Lib.hid (HbU.out.trans (hb3.mono HbU.out.size))
  have Ho3 := Lib.hid ho3
  have Hit := Lib.hid hit
  have HN := Lib.hid hN
  have hN1 : 7 ≤ N ∧ N ≤ 9 := by
    have h1 := congrArg List.length hit
    have h2 := ldL_len d n0
    have h3 : (ldI d n0).length = (ldL d n0).length + 2 := by simp [ldI, ldL]
    rw [List.length_map, ← hN] at h1
    omega
  obtain ⟨N7, N9⟩ := hN1
  clear ho3 hb3 hit hN q0 q1 q2 q3 q4 q5 q6 hsz Hcall
  have hbX : Below w3.heap.size w3 (w3.alloc (.cells #[.string nm, .slice A3 N c3] 31)) := (Below.refl _ _).alloc (Nat.le_refl _) _
  have hrX := heap_alloc_new w3 (.cells #[.string nm, .slice A3 N c3] 31)
  have hzX : w3.heap.size < (w3.alloc (.cells #[.string nm, .slice A3 N c3] 31)).heap.size := by simp
  go_upto_region 4 with fail
  generalize w3.alloc (.cells #[.string nm, .slice A3 N c3] 31) = w4 at *
  have Hb4 := Lib.hid (Z3.out.trans (hbX.mono Z3.out.size))
  have ho4 := ownsRow_below Ho3.out hbX
  have Hox := Lib.hid (fun (w9 : World) (hb : Below w4.heap.size w4 w9) => (show w9.cell? ⟨w3.heap.size, 1, none⟩ = some (.slice A3 N c3) from by
    rw [Lib.cell_of_heap ((hb.block w3.heap.size hzX).trans hrX)]; rfl))
  obtain ⟨gi, rfl, hg1, hg2, hg3, hg4, hg5⟩ := ownsRow_at ho4 (by omega)
  have HIt := Lib.hid (fun (w9 : World) (hb : Below w4.heap.size w4 w9) (j : Nat) (y : S.Item) (hy : it[j]? = some y) (q : Nat) (hq : q < 8) => (show w9.cell? ⟨gi, j * 8 + q, none⟩ = (itemCells y)[q]? from by
    have hj := (List.getElem?_eq_some_iff.1 hy).1
    rw [← HN.out] at hj
    rw [hb.cell (p := ⟨gi, j * 8 + q, none⟩) hg2, hg4 _ (by omega), flat_item it j y hy q hq]))
  have HzX := Lib.hid hzX
  clear hbX hrX hzX hg1 hg3 hg4 hg5 ho4
  have x1 := Hox.out w4 (Below.refl _ _)
  go_wp2_with fail
  clear x1
  go_loopw [9, 10] (fun v9 v10 wl => ∃ k : Nat, k ≤ N ∧ v10 = .int .i64 k ∧ (∃ A9 c9, v9 = .slice A9 k c9 ∧ Hid (wl.ownsRow w4.heap.size 39 8 (.slice A9 k c9) k (((it.take k).map nopOf).flatMap itemCells))) ∧ Hid (Below w4.heap.size w4 wl)) (fun _ v10 _ => N - (intOf v10).toNat)
  case atStart => exact ⟨0, by omega, rfl, ⟨none, 0, rfl, Lib.hid (World.ownsRow_nil _ _ _ _)⟩, Lib.hid (Below.refl _ _)⟩
  case round =>
    obtain ⟨k, hk, rfl, ⟨A9, c9, rfl, HO⟩, HB⟩ := hrel
    have x1 := Hox.out wr HB.out
    by_cases hlt : k < N
    · have hki : k < it.length := by rw [← HN.out]; exact hlt
      obtain ⟨y, hy⟩ : ∃ y, it[k]? = some y := ⟨_, List.getElem?_eq_getElem hki⟩
      have Hc := Lib.hid (fun (w9 : World) (hb : Below w4.heap.size w4 w9) q hq => HIt.out w9 hb k y hy q hq)
      have htk : (it.take (k + 1)).map nopOf = (it.take k).map nopOf ++ [nopOf y] := by
        rw [List.take_succ_eq_append_getElem hki, List.map_append]
        rw [List.getElem?_eq_getElem hki] at hy
        cases hy
        rfl
      have Htk := Lib.hid htk
      clear htk hy hki
      have c0 := Hc.out wr HB.out 0 (by decide)
      have c1 := Hc.out wr HB.out 1 (by decide)
      have c2 := Hc.out wr HB.out 2 (by decide)
      have c3' := Hc.out wr HB.out 3 (by decide)
      have c4 := Hc.out wr HB.out 4 (by decide)
      have c5 := Hc.out wr HB.out 5 (by decide)
      have c6 := Hc.out wr HB.out 6 (by decide)
      have c7 := Hc.out wr HB.out 7 (by decide)
      simp only [itemCells, List.getElem?_cons_zero, List.getElem?_cons_succ, Nat.add_zero] at c0 c1 c2 c3' c4 c5 c6 c7
      have hzr := HB.out.size
      have hgr : gi < wr.heap.size := Nat.lt_of_lt_of_le hg2 hzr
      obtain ⟨kind, ⟨op, yd, ya, yb, imm⟩, lab, wd⟩ := y
      simp only at c0 c1 c2 c3' c4 c5 c6 c7
      have hbX : Below wr.heap.size wr (wr.alloc (.cells #[.int .i64 kind, .int .i64 op, .int .i64 yd, .int .i64 ya, .int .i64 yb, .int .i64 imm, .string lab, .int .u32 wd] 39)) := (Below.refl _ _).alloc (Nat.le_refl _) _
      have hrX := heap_alloc_new wr (.cells #[.int .i64 kind, .int .i64 op, .int .i64 yd, .int .i64 ya, .int .i64 yb, .int .i64 imm, .string lab, .int .u32 wd] 39)
      have hzx : (wr.alloc (.cells #[.int .i64 kind, .int .i64 op, .int .i64 yd, .int .i64 ya, .int .i64 yb, .int .i64 imm, .string lab, .int .u32 wd] 39)).heap.size = wr.heap.size + 1 := by simp
      go_upto_region 11 with fail
      generalize wr.alloc (.cells #[.int .i64 kind, .int .i64 op, .int .i64 yd, .int .i64 ya, .int .i64 yb, .int .i64 imm, .string lab, .int .u32 wd] 39) = wx at *
      have hzx1 : wr.heap.size < wx.heap.size := by omega
      have HbX := Lib.hid hbX
      have HrX := Lib.hid hrX
      have Hzx := Lib.hid hzx
      have y0 : wx.cell? ⟨wr.heap.size, 0, none⟩ = some (.int .i64 kind) := by rw [Lib.cell_of_heap hrX]; rfl
      clear c0 c1 c2 c3' c4 c5 c6 c7 hbX hrX hzx x1
      by_cases h3 : kind = 3
      · subst h3
        have Hnop := Lib.hid (show nopOf ⟨3, ⟨op, yd, ya, yb, imm⟩, lab, wd⟩ = inI nopI from rfl)
        go_upto_if 66 with fail
        go_cut [67, 68] (fun _ _ wc => Hid (wc.heap[wr.heap.size]? = some (.cells #[.int .i64 1, .int .i64 15, .int .i64 0, .int .i64 0, .int .i64 0, .int .i64 0, .string ⟨#[]⟩, .int .u32 0] 39)) ∧ Hid (Below wr.heap.size wr wc) ∧ Hid (wc.heap.size = wr.heap.size + 1))
        case first =>
          have y1 : wx.cell? ⟨wr.heap.size, 1, none⟩ = some (.int .i64 op) := by rw [Lib.cell_of_heap HrX.out]; rfl
          have y2 : wx.cell? ⟨wr.heap.size, 2, none⟩ = some (.int .i64 yd) := by rw [Lib.cell_of_heap HrX.out]; rfl
          have y3 : wx.cell? ⟨wr.heap.size, 3, none⟩ = some (.int .i64 ya) := by rw [Lib.cell_of_heap HrX.out]; rfl
          have y4 : wx.cell? ⟨wr.heap.size, 4, none⟩ = some (.int .i64 yb) := by rw [Lib.cell_of_heap HrX.out]; rfl
          have y5 : wx.cell? ⟨wr.heap.size, 5, none⟩ = some (.int .i64 imm) := by rw [Lib.cell_of_heap HrX.out]; rfl
          have y6 : wx.cell? ⟨wr.heap.size, 6, none⟩ = some (.string lab) := by rw [Lib.cell_of_heap HrX.out]; rfl
          have y7 : wx.cell? ⟨wr.heap.size, 7, none⟩ = some (.int .u32 wd) := by rw [Lib.cell_of_heap HrX.out]; rfl
          have f0 : wx.frozen? ⟨wr.heap.size, 0, none⟩ = false := Lib.frozen_of_heap HrX.out 0
          have f1 : wx.frozen? ⟨wr.heap.size, 1, none⟩ = false := Lib.frozen_of_heap HrX.out 1
          have f2 : wx.frozen? ⟨wr.heap.size, 2, none⟩ = false := Lib.frozen_of_heap HrX.out 2
          have f3 : wx.frozen? ⟨wr.heap.size, 3, none⟩ = false := Lib.frozen_of_heap HrX.out 3
          have f4 : wx.frozen? ⟨wr.heap.size, 4, none⟩ = false := Lib.frozen_of_heap HrX.out 4
          have f5 : wx.frozen? ⟨wr.heap.size, 5, none⟩ = false := Lib.frozen_of_heap HrX.out 5
          have f6 : wx.frozen? ⟨wr.heap.size, 6, none⟩ = false := Lib.frozen_of_heap HrX.out 6
          have f7 : wx.frozen? ⟨wr.heap.size, 7, none⟩ = false := Lib.frozen_of_heap HrX.out 7
          go_wp2_with fail
          clear y0 y1 y2 y3 y4 y5 y6 y7
          go_meet
          exact ⟨Lib.hid (set8 HrX.out _ _ _ _ _ _ _ _).1, Lib.hid ((set8 HrX.out _ _ _ _ _ _ _ _).2.1 wr (Nat.le_refl _) HbX.out), Lib.hid (by rw [(set8 HrX.out _ _ _ _ _ _ _ _).2.2]; exact Hzx.out)⟩
        case rest =>
          obtain ⟨HrY, HbY, HzY⟩ := hcut
          have hzY : wr.heap.size < wc.heap.size := by have := HzY.out; omega
          have HoY := Lib.hid (ownsRow_below HO.out HbY.out)
          go_upto_region 9 with (first
            | (refine wpList_load_row (o := ⟨some 70, .load 39 (.tmp 11), _, _, _, _⟩) rfl 39 (.tmp 11) rfl wr.heap.size rfl 39 _ _ _ HrY.out Tryd.underlying39 rfl (by rw [item_size]; rfl) ?_)
            | (at_builtin
               refine wpList_push rfl (.tmp 69) (.tmp 71) _ rfl w4.heap.size 39 item_info Tryd.underlying29 rfl (by decide) #[.int .i64 1, .int .i64 15, .int .i64 0, .int .i64 0, .int .i64 0, .int .i64 0, .string ⟨#[]⟩, .int .u32 0] _ _ _ rfl HoY.out rfl rfl rfl (by simp [Value.oneCell']) (by simp only [maxLen]; omega) (by omega) (by omega) ?_
               intro v' w7 ho7 hg7 hb7 _
               obtain ⟨A8, c8, rfl⟩ := ownsRow_form ho7))
          go_wp2_with fail
          go_roundw
          case rel =>
            refine ⟨k + 1, by omega, by go_num, ⟨A8, c8, rfl, Lib.hid ?_⟩, Lib.hid (HB.out.trans ((HbY.out.mono hzr).trans hb7))⟩
            rw [Htk.out, Hnop.out, List.flatMap_append, List.flatMap_singleton]
            exact ho7
          case measure => simp [intOf]; omega
      by_cases h4 : kind = 4
      · subst h4
        have Hnop := Lib.hid (show nopOf ⟨4, ⟨op, yd, ya, yb, imm⟩, lab, wd⟩ = inI nopI from rfl)
        go_upto_if 66 with fail
        go_cut [67, 68] (fun _ _ wc => Hid (wc.heap[wr.heap.size]? = some (.cells #[.int .i64 1, .int .i64 15, .int .i64 0, .int .i64 0, .int .i64 0, .int .i64 0, .string ⟨#[]⟩, .int .u32 0] 39)) ∧ Hid (Below wr.heap.size wr wc) ∧ Hid (wc.heap.size = wr.heap.size + 1))
        case first =>
          have y1 : wx.cell? ⟨wr.heap.size, 1, none⟩ = some (.int .i64 op) := by rw [Lib.cell_of_heap HrX.out]; rfl
          have y2 : wx.cell? ⟨wr.heap.size, 2, none⟩ = some (.int .i64 yd) := by rw [Lib.cell_of_heap HrX.out]; rfl
          have y3 : wx.cell? ⟨wr.heap.size, 3, none⟩ = some (.int .i64 ya) := by rw [Lib.cell_of_heap HrX.out]; rfl
          have y4 : wx.cell? ⟨wr.heap.size, 4, none⟩ = some (.int .i64 yb) := by rw [Lib.cell_of_heap HrX.out]; rfl
          have y5 : wx.cell? ⟨wr.heap.size, 5, none⟩ = some (.int .i64 imm) := by rw [Lib.cell_of_heap HrX.out]; rfl
          have y6 : wx.cell? ⟨wr.heap.size, 6, none⟩ = some (.string lab) := by rw [Lib.cell_of_heap HrX.out]; rfl
          have y7 : wx.cell? ⟨wr.heap.size, 7, none⟩ = some (.int .u32 wd) := by rw [Lib.cell_of_heap HrX.out]; rfl
          have f0 : wx.frozen? ⟨wr.heap.size, 0, none⟩ = false := Lib.frozen_of_heap HrX.out 0
          have f1 : wx.frozen? ⟨wr.heap.size, 1, none⟩ = false := Lib.frozen_of_heap HrX.out 1
          have f2 : wx.frozen? ⟨wr.heap.size, 2, none⟩ = false := Lib.frozen_of_heap HrX.out 2
          have f3 : wx.frozen? ⟨wr.heap.size, 3, none⟩ = false := Lib.frozen_of_heap HrX.out 3
          have f4 : wx.frozen? ⟨wr.heap.size, 4, none⟩ = false := Lib.frozen_of_heap HrX.out 4
          have f5 : wx.frozen? ⟨wr.heap.size, 5, none⟩ = false := Lib.frozen_of_heap HrX.out 5
          have f6 : wx.frozen? ⟨wr.heap.size, 6, none⟩ = false := Lib.frozen_of_heap HrX.out 6
          have f7 : wx.frozen? ⟨wr.heap.size, 7, none⟩ = false := Lib.frozen_of_heap HrX.out 7
          go_wp2_with fail
          clear y0 y1 y2 y3 y4 y5 y6 y7
          go_meet
          exact ⟨Lib.hid (set8 HrX.out _ _ _ _ _ _ _ _).1, Lib.hid ((set8 HrX.out _ _ _ _ _ _ _ _).2.1 wr (Nat.le_refl _) HbX.out), Lib.hid (by rw [(set8 HrX.out _ _ _ _ _ _ _ _).2.2]; exact Hzx.out)⟩
        case rest =>
          obtain ⟨HrY, HbY, HzY⟩ := hcut
          have hzY : wr.heap.size < wc.heap.size := by have := HzY.out; omega
          have HoY := Lib.hid (ownsRow_below HO.out HbY.out)
          go_upto_region 9 with (first
            | (refine wpList_load_row (o := ⟨some 70, .load 39 (.tmp 11), _, _, _, _⟩) rfl 39 (.tmp 11) rfl wr.heap.size rfl 39 _ _ _ HrY.out Tryd.underlying39 rfl (by rw [item_size]; rfl) ?_)
            | (at_builtin
               refine wpList_push rfl (.tmp 69) (.tmp 71) _ rfl w4.heap.size 39 item_info Tryd.underlying29 rfl (by decide) #[.int .i64 1, .int .i64 15, .int .i64 0, .int .i64 0, .int .i64 0, .int .i64 0, .string ⟨#[]⟩, .int .u32 0] _ _ _ rfl HoY.out rfl rfl rfl (by simp [Value.oneCell']) (by simp only [maxLen]; omega) (by omega) (by omega) ?_
               intro v' w7 ho7 hg7 hb7 _
               obtain ⟨A8, c8, rfl⟩ := ownsRow_form ho7))
          go_wp2_with fail
          go_roundw
          case rel =>
            refine ⟨k + 1, by omega, by go_num, ⟨A8, c8, rfl, Lib.hid ?_⟩, Lib.hid (HB.out.trans ((HbY.out.mono hzr).trans hb7))⟩
            rw [Htk.out, Hnop.out, List.flatMap_append, List.flatMap_singleton]
            exact ho7
          case measure => simp [intOf]; omega
      have Hnop := Lib.hid (show nopOf ⟨kind, ⟨op, yd, ya, yb, imm⟩, lab, wd⟩ = ⟨kind, ⟨op, yd, ya, yb, imm⟩, lab, wd⟩ from by unfold nopOf; rw [if_neg (fun q => q.elim h3 h4)])
      have b3 : (kind == 3) = false := by simp [h3]
      have b4 : (kind == 4) = false := by simp [h4]
      have HoY := Lib.hid (ownsRow_below HO.out HbX.out)
      clear h3 h4 Hzx
      go_upto_region 13 with fail
      clear y0 b3 b4
      go_upto_region 9 with (first
        | (refine wpList_load_row (o := ⟨some 70, .load 39 (.tmp 11), _, _, _, _⟩) rfl 39 (.tmp 11) rfl wr.heap.size rfl 39 _ _ _ HrX.out Tryd.underlying39 rfl (by rw [item_size]; rfl) ?_)
        | (at_builtin
           refine wpList_push rfl (.tmp 69) (.tmp 71) _ rfl w4.heap.size 39 item_info Tryd.underlying29 rfl (by decide) #[.int .i64 kind, .int .i64 op, .int .i64 yd, .int .i64 ya, .int .i64 yb, .int .i64 imm, .string lab, .int .u32 wd] _ _ _ rfl HoY.out rfl rfl rfl (by simp [Value.oneCell']) (by simp only [maxLen]; omega) (by omega) (by omega) ?_
           intro v' w7 ho7 hg7 hb7 _
           obtain ⟨A8, c8, rfl⟩ := ownsRow_form ho7))
      go_wp2_with fail
      go_roundw
      case rel =>
        refine ⟨k + 1, by omega, by go_num, ⟨A8, c8, rfl, Lib.hid ?_⟩, Lib.hid (HB.out.trans ((HbX.out.mono hzr).trans hb7))⟩
        rw [Htk.out, Hnop.out, List.flatMap_append, List.flatMap_singleton]
        exact ho7
      case measure => simp [intOf]; omega
    · have hkN : k = N := by omega
      subst hkN
      have ht : (it.take k).map nopOf = ldI d n0 := by rw [HN.out, List.take_length]; exact Hit.out
      rw [ht] at HO
      have hlenI : (ldI d n0).length = k := by rw [← Hit.out, List.length_map, HN.out]
      have hI := Items.of_own (xs := ldI d n0) HO.out (ldI_words d n0)
      have hAs := asm_Assemble A9 c9 (ldI d n0) 0 wr hI (by omega) (ldI_labs d n0)
      rw [hlenI] at hAs
      have HAs := Lib.hid hAs
      clear ht hI hAs hlenI
      go_upto_region 14 with fail
      clear x1
      go_wp2_with fail
      refine HAs.out.mono ?_
      rintro e w5 ⟨vo, vp, r, F, rfl, hres, ho5, hp5, hb5⟩
      obtain ⟨rfl, hout⟩ := ld_words d0 d1 a0 a1 hres
      rw [if_pos rfl, hout, List.length_map] at ho5
      obtain ⟨M, hM⟩ : ∃ M, M = (ldL d n0).length := ⟨_, rfl⟩
      have hM2 := ldL_len d n0
      rw [← hM] at ho5 hM2
      obtain ⟨M5, M7⟩ := hM2
      obtain ⟨Ao, co, rfl⟩ := ownsRow_form ho5
      obtain ⟨Ap, cp, rfl⟩ := ownsRow_form hp5
      have hnew := mach_New Ao none co 0 ((ldL d n0).map S.enc) [] ((M : Int) + 1) w5 (Reads.of_own ho5) (fun hp => by simp at hp) (by rw [List.length_map, ← hM]; omega) (by simp)
        (fun x hx => by obtain ⟨y, hy, rfl⟩ := List.mem_map.1 hx; exact enc_bd (ldL_in d0 d1 a0 a1 y hy).1) (fun x hx => by cases hx)
      rw [List.length_map, ← hM] at hnew
      have HM := Lib.hid hM
      have Hnew := Lib.hid hnew
      have hend := ld_end d0 d1 a0 a1
      have etn : ((M : Int) + 1).toNat = M + 1 := by omega
      rw [← hM] at hend
      have Hend := Lib.hid hend
      have Hetn := Lib.hid etn
      have Z5 := Lib.hid (Hb4.out.trans (HB.out.mono Hb4.out.size |>.trans (hb5.mono (Nat.le_trans Hb4.out.size HB.out.size))))
      clear hres hout ho5 hp5 hM hnew hend etn hb5 HO
      go_wp2_with fail
      refine Hnew.out.mono ?_
      rintro e w6 (⟨hno, _⟩ | ⟨_, p, vm, Ai, ci, rfl, hMA, hb6, _⟩)
      · exact absurd ⟨by omega, by omega, by omega⟩ hno
      rw [Hetn.out] at hMA
      have hlow := hMA.low
      have hvm := hMA.mem.lt
      have Z6 := Lib.hid (Z5.out.trans (hb6.mono Z5.out.size))
      have HMA := Lib.hid hMA
      have hz6 := hb6.size
      clear hb6
      go_wp2_with fail
      refine (mach_Run (M : Int) HMA.out (by show (0 : Nat) ≤ 500000; decide) (by show (0 : Int) ≤ 0 ∧ (0 : Int) ≤ 500000; decide) (by omega)).mono ?_
      rintro e w7 ⟨rfl, vo7, rd7, hM7, hO7, _⟩
      have etm : ((M : Int)).toNat = M := by omega
      rw [etm] at hM7
      have Z7 := Lib.hid (Z6.out.trans (hO7.below (B := w5.heap.size) hz6 (fun k hk => by
        rcases hk with h | h | h
        · omega
        · exact (hvm k h).1
        · simp [Value.ownBlock] at h) |>.mono Z5.out.size))
      have Hend' := Lib.hid Hend.out
      obtain ⟨m1, hm1⟩ : ∃ m1, m1 = (newM ((ldL d n0).map S.enc) (M + 1) []).steps_ M := ⟨_, rfl⟩
      have hend := Hend.out
      rw [← hm1] at hM7 hend
      obtain ⟨t1, t2, t3⟩ := hend
      have HM7 := Lib.hid hM7
      have T1 := mach_Trap HM7.out
      have T2 := mach_Reg d HM7.out
      have T3 := mach_Reg (1 + d % 31) HM7.out
      rw [t1] at T1
      rw [t2] at T2
      rw [t3] at T3
      have H1 := Lib.hid T1
      have H2 := Lib.hid T2
      have H3 := Lib.hid T3
      clear hM7 hO7 hm1 t1 t2 t3 T1 T2 T3 hMA hvm etm
      go_wp2_with fail
      refine H1.out.mono ?_
      rintro e w8 ⟨rfl, rfl⟩
      go_wp2_with fail
      refine H2.out.mono ?_
      rintro e w8 ⟨rfl, rfl⟩
      go_wp2_with fail
      refine H3.out.mono ?_
      rintro e w8 ⟨rfl, rfl⟩
      go_wp2_with fail
      refine (l_works _ (HL.out.on Z7.out)).mono ?_
      rintro e w9 ⟨rfl, hb9⟩
      go_wp2_with fail
      go_ret
      exact ⟨rfl, Z7.out.trans (hb9.mono Z7.out.size)⟩

end Go.Proofs.YtidhglleeccpoaaDoor
