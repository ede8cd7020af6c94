/- Bounds of a few objects; walk of works (layer 4). -/
import Derived.Test.YtbgdomnalimjnaaLinkM
set_option linter.unusedVariables false
set_option linter.unusedSimpArgs false
set_option linter.unusedSectionVars false
namespace Go.Proofs.Ytbgdomnalimjnaa
open Go.RowKit

theorem joined_len {os : List S.Obj} (h : ∀ o ∈ os, o.items.length ≤ 60) : (S.joined os).length ≤ os.length * 60 := by
  induction os with
  | nil => simp [S.joined]
  | cons o r ih =>
    have h1 := ih fun p hp => h p (List.mem_cons_of_mem _ hp)
    have h2 := h o (List.mem_cons_self ..)
    have e : S.joined (o :: r) = S.itemsOf o ++ S.joined r := by simp [S.joined]
    rw [e, List.length_append, List.length_cons]
    have e2 : (S.itemsOf o).length = o.items.length := by simp [S.itemsOf]
    omega
theorem few_bounds {os : List S.Obj} (h : Few os) : os.length ≤ 1048576 ∧ (S.joined os).length ≤ 1048576 ∧ (∀ (k : Nat) (o : S.Obj), os[k]? = some o → ∀ x ∈ o.items, o.name.size + x.label.size ≤ 9223372036854775807) ∧ ∀ o ∈ os, o.items.length ≤ 1048576 := by
  obtain ⟨h1, h2⟩ := h
  have h3 := joined_len fun o ho => (h2 o ho).1
  refine ⟨by omega, by omega, fun k o ho x hx => ?_, fun o ho => ?_⟩
  · obtain ⟨a, b, c⟩ := h2 o (List.mem_of_getElem? ho)
    have := c x hx
    omega
  · have := (h2 o ho).1
    omega
theorem linkRes_small {os : List S.Obj} {base r : Int} {L : List Int} {P : List (ByteArray × Int)} (h : LinkRes os base r L P) (hw : ∀ x ∈ S.joined os, 0 ≤ x.word ∧ x.word ≤ 4294967295) (ht : (S.joined os).length ≤ 1048576) : L.length ≤ 67108864 ∧ P.length ≤ 1048576 := by
  rcases h with ⟨_, _, rfl, rfl⟩ | ⟨_, F, h1, rfl, rfl⟩
  · simp
  · by_cases e : r = 0
    · subst e
      rw [if_pos rfl, if_pos rfl]
      have := placesTo_length (S.joined os) F base (S.joined os).length
      exact ⟨formsRes_small' h1 hw, by omega⟩
    · rw [if_neg e, if_neg e]
      simp

theorem ReadsP.more {w : World} {B B' : Nat} {A : Option Addr} {L : List (ByteArray × Int)} (h : ReadsP w B A L) (hB : B ≤ B') : ReadsP w B' A L := fun hp => by
  obtain ⟨b, off, e, hbB, hc⟩ := h hp
  exact ⟨b, off, e, by omega, hc⟩

namespace S
def wa : Obj := ⟨⟨#[97]⟩, [⟨2, ⟨0, 0, 0, 0, 0⟩, ⟨#[46, 120]⟩, 0⟩, ⟨6, ⟨0, 0, 0, 0, 0⟩, ⟨#[]⟩, 7⟩, ⟨7, ⟨0, 0, 0, 0, 0⟩, ⟨#[46, 120]⟩, 0⟩]⟩
def wb : Obj := ⟨⟨#[98]⟩, [⟨2, ⟨0, 0, 0, 0, 0⟩, ⟨#[46, 120]⟩, 0⟩, ⟨7, ⟨0, 0, 0, 0, 0⟩, ⟨#[46, 120]⟩, 0⟩]⟩
end S
theorem wab_res : S.FormsRes (S.joined [S.wa, S.wb]) 0 0 [0, 0, 0, 0, 0] := okB_res (js := []) (by kernel_rfl)
theorem wab_out : S.outTo (S.joined [S.wa, S.wb]) [0, 0, 0, 0, 0] 0 (S.joined [S.wa, S.wb]).length = [7, 0, 8] := by kernel_rfl
theorem wab_places : S.placesTo (S.joined [S.wa, S.wb]) [0, 0, 0, 0, 0] 0 (S.joined [S.wa, S.wb]).length = [(⟨#[97, 46, 120]⟩, 0), (⟨#[98, 46, 120]⟩, 2)] := by kernel_rfl
theorem wab_link : LinkRes [S.wa, S.wb] 0 0 [7, 0, 8] [(⟨#[97, 46, 120]⟩, 0), (⟨#[98, 46, 120]⟩, 2)] := by
  have h := linkRes_ok (os := [S.wa, S.wb]) (by kernel_rfl) wab_res
  rw [wab_out, wab_places] at h
  exact h
theorem wab_find : S.findP [(⟨#[97, 46, 120]⟩, 0), (⟨#[98, 46, 120]⟩, 2)] ⟨#[98, 46, 120]⟩ = some 2 := by kernel_rfl
theorem wab_names : namesB [S.wa, S.wb] = true := by kernel_rfl
theorem wab_count : S.countO [S.wa, S.wb] = 3 := by kernel_rfl

/-- A literal object: its items, then itself. -/
theorem obj_lit (w : World) (cs : Array Value) (s : ByteArray) (xs : List S.Item) (hcs : cs.toList = xs.flatMap itemCells) (hw : ∀ x ∈ xs, 0 ≤ x.word ∧ x.word ≤ 4294967295) {w' : World} (n : Nat) (hn : n = xs.length)
    (he : w' = (w.alloc (.cells cs 57)).alloc (.cells #[.string s, .slice (some ⟨w.heap.size, 0, none⟩) n n] 66)) :
    Items w' w'.heap.size (some ⟨w.heap.size, 0, none⟩) xs ∧ w'.cell? ⟨w.heap.size + 1, 0, none⟩ = some (.string s) ∧ w'.cell? ⟨w.heap.size + 1, 1, none⟩ = some (.slice (some ⟨w.heap.size, 0, none⟩) n n) ∧ Below w.heap.size w w' ∧ w'.heap.size = w.heap.size + 2 := by
  subst he
  obtain ⟨x1, x2, x3, x4⟩ := two_alloc w cs #[.string s, .slice (some ⟨w.heap.size, 0, none⟩) n n] 57 66
  exact ⟨Items.lit x1 hcs (by omega) hw, by rw [blk_cell x2]; rfl, by rw [blk_cell x2]; rfl, x3, x4⟩

set_option maxRecDepth 100000 in
set_option maxHeartbeats 4000000 in
theorem law4_works (w : World) : Calls Try.prog 24 #[] w fun e w' => e = .returned (.bool true) ∧ Below w.heap.size w w' := by
  go_enter Try.func24, Try.ntmps24
  go_upto_region 2 with fail
  obtain ⟨hIa, hA0, hA1, hbA, hzA⟩ := obj_lit w #[.int .i64 2, .int .i64 0, .int .i64 0, .int .i64 0, .int .i64 0, .int .i64 0, .string ⟨#[46, 120]⟩, .int .u32 0, .int .i64 6, .int .i64 0, .int .i64 0, .int .i64 0, .int .i64 0, .int .i64 0, .string ⟨#[]⟩, .int .u32 7, .int .i64 7, .int .i64 0, .int .i64 0, .int .i64 0, .int .i64 0, .int .i64 0, .string ⟨#[46, 120]⟩, .int .u32 0] ⟨#[97]⟩ S.wa.items rfl (words_of' (by kernel_rfl)) 3 rfl rfl
  generalize (w.alloc (.cells #[.int .i64 2, .int .i64 0, .int .i64 0, .int .i64 0, .int .i64 0, .int .i64 0, .string ⟨#[46, 120]⟩, .int .u32 0, .int .i64 6, .int .i64 0, .int .i64 0, .int .i64 0, .int .i64 0, .int .i64 0, .string ⟨#[]⟩, .int .u32 7, .int .i64 7, .int .i64 0, .int .i64 0, .int .i64 0, .int .i64 0, .int .i64 0, .string ⟨#[46, 120]⟩, .int .u32 0] 57)).alloc (.cells #[.string ⟨#[97]⟩, .slice (some ⟨w.heap.size, 0, none⟩) 3 3] 66) = w1 at *
  have gA : w.heap.size + 1 < w1.heap.size := by omega
  clear hzA
  go_upto_region 3 with fail
  obtain ⟨hIb, hB0, hB1, hbB, hzB⟩ := obj_lit w1 #[.int .i64 2, .int .i64 0, .int .i64 0, .int .i64 0, .int .i64 0, .int .i64 0, .string ⟨#[46, 120]⟩, .int .u32 0, .int .i64 7, .int .i64 0, .int .i64 0, .int .i64 0, .int .i64 0, .int .i64 0, .string ⟨#[46, 120]⟩, .int .u32 0] ⟨#[98]⟩ S.wb.items rfl (words_of' (by kernel_rfl)) 2 rfl rfl
  generalize (w1.alloc (.cells #[.int .i64 2, .int .i64 0, .int .i64 0, .int .i64 0, .int .i64 0, .int .i64 0, .string ⟨#[46, 120]⟩, .int .u32 0, .int .i64 7, .int .i64 0, .int .i64 0, .int .i64 0, .int .i64 0, .int .i64 0, .string ⟨#[46, 120]⟩, .int .u32 0] 57)).alloc (.cells #[.string ⟨#[98]⟩, .slice (some ⟨w1.heap.size, 0, none⟩) 2 2] 66) = w2 at *
  have gB : w1.heap.size + 1 < w2.heap.size := by omega
  clear hzB
  have hA0' := (hbB.cell (p := ⟨w.heap.size + 1, 0, none⟩) (show w.heap.size + 1 < w1.heap.size by omega)).trans hA0
  have hA1' := (hbB.cell (p := ⟨w.heap.size + 1, 1, none⟩) (show w.heap.size + 1 < w1.heap.size by omega)).trans hA1
  have hIa2 := (hIa.below hbB).more hbB.size
  have hb02 := hbA.trans (hbB.mono (by omega))
  clear hIa hA0 hA1 hbA hbB
  go_wp2_with fail
  obtain ⟨x1, x2, x3⟩ := one_allocL w2 #[.string ⟨#[97]⟩, .slice (some ⟨w.heap.size, 0, none⟩) 3 3, .string ⟨#[98]⟩, .slice (some ⟨w1.heap.size, 0, none⟩) 2 2] 66
  generalize w2.alloc (.cells #[.string ⟨#[97]⟩, .slice (some ⟨w.heap.size, 0, none⟩) 3 3, .string ⟨#[98]⟩, .slice (some ⟨w1.heap.size, 0, none⟩) 2 2] 66) = w3 at *
  have g3 : w2.heap.size < w3.heap.size := by omega
  clear x3
  have hO := Objs.lit2 (B := w3.heap.size) (a := S.wa) (o := S.wb) x1 (by omega) ((hIa2.below x2).more x2.size) ((hIb.below x2).more x2.size) (names_of wab_names)
  have hIa3 := (hIa2.below x2).more x2.size
  have hIb3 := (hIb.below x2).more x2.size
  have hb03 := hb02.trans (x2.mono (by omega))
  have hA0 := (x2.cell (p := ⟨w.heap.size + 1, 0, none⟩) (show w.heap.size + 1 < w2.heap.size by omega)).trans hA0'
  have hA1 := (x2.cell (p := ⟨w.heap.size + 1, 1, none⟩) (show w.heap.size + 1 < w2.heap.size by omega)).trans hA1'
  have hB0' := (x2.cell (p := ⟨w1.heap.size + 1, 0, none⟩) (show w1.heap.size + 1 < w2.heap.size by omega)).trans hB0
  have hB1' := (x2.cell (p := ⟨w1.heap.size + 1, 1, none⟩) (show w1.heap.size + 1 < w2.heap.size by omega)).trans hB1
  clear hA0' hA1' hB0 hB1 hb02 x1 x2
  have hcall : Calls Try.prog 26 #[.slice (some ⟨w2.heap.size, 0, none⟩) 2 2, .int .i64 0] w3 (Linked [S.wa, S.wb] 0 w3) := link_Link _ _ _ _ _ hO (by decide) (by decide) (sizes_of wab_names)
  have Hcall := Lib.hid hcall
  clear hcall
  refine Hcall.out.mono ?_
  rintro e w4 ⟨vo, vp, r, L, P, rfl, hres, ho4, hp4, hb4⟩
  obtain ⟨e0, eL, eP⟩ := linkRes_fun wab_link hres
  subst e0 eL eP
  clear hres Hcall
  obtain ⟨Ao, co, rfl⟩ := ownsRow_form ho4
  obtain ⟨Ap, cp, rfl⟩ := ownsRow_form hp4
  have hR4 := Reads.of_own ho4
  have hP4 := ReadsP.of_own hp4
  have hz4 := hb4.size
  obtain ⟨x1, x2, x4⟩ := one_allocL w4 #[.slice Ao 3 co, .slice Ap 2 cp] 51
  go_upto_region 4 with fail
  generalize w4.alloc (.cells #[.slice Ao 3 co, .slice Ap 2 cp] 51) = w5 at *
  have g5 : w4.heap.size < w5.heap.size := by omega
  clear x4
  have hX0 : w5.cell? ⟨w4.heap.size, 0, none⟩ = some (.slice Ao 3 co) := by rw [blk_cell x1]; rfl
  have hX1 : w5.cell? ⟨w4.heap.size, 1, none⟩ = some (.slice Ap 2 cp) := by rw [blk_cell x1]; rfl
  have hb45 : Below w3.heap.size w3 w5 := hb4.trans (x2.mono hz4)
  have hR5 := hR4.below x2
  have hP5 := (hP4.below x2).more x2.size
  clear x1 x2 hb4 hR4 hP4
  go_wp2_with fail
  have hcall : Calls Try.prog 30 #[.agg #[.slice Ao 3 co, .slice Ap 2 cp], .string ⟨#[98, 46, 120]⟩] w5 (FindPost [(⟨#[97, 46, 120]⟩, 0), (⟨#[98, 46, 120]⟩, 2)] ⟨#[98, 46, 120]⟩ w5) := link_Find (.bool true) _ _ _ _ _ _ _ _ hP5 (by decide)
  have Hcall := Lib.hid hcall
  clear hcall
  refine Hcall.out.mono ?_
  rintro e w6 ⟨rfl, hb6⟩
  rw [wab_find]
  have hz6 := hb6.size
  have hX0' := (hb6.cell (p := ⟨w4.heap.size, 0, none⟩) (show w4.heap.size < w5.heap.size by omega)).trans hX0
  have hR6 := hR5.below (hb6.mono (by omega))
  have hb36 : Below w3.heap.size w3 w6 := hb45.trans (hb6.mono (by omega))
  clear Hcall hb45 hb6 hX0 hX1 hP5 hR5
  go_wp2_with fail
  obtain ⟨x1, x2, x7⟩ := one_allocL w6 #[.int .u32 7, .int .u32 0, .int .u32 8] 34
  generalize w6.alloc (.cells #[.int .u32 7, .int .u32 0, .int .u32 8] 34) = w7 at *
  have g7 : w6.heap.size < w7.heap.size := by omega
  clear x7
  have hcall : Calls Try.prog 28 #[.slice Ao 3 co, .slice (some ⟨w6.heap.size, 0, none⟩) 3 3] w7 fun e w' => e = .returned (.bool true) ∧ Below w7.heap.size w7 w' :=
    ref4_Words _ _ _ _ _ _ [7, 0, 8] w7 (hR6.below (x2.mono (by omega))) (Reads.lit (B := w7.heap.size) x1 rfl (by omega)) (by decide)
  have Hcall := Lib.hid hcall
  clear hcall
  have hb37 : Below w3.heap.size w3 w7 := hb36.trans (x2.mono (by omega))
  clear x1 x2 hb36 hR6
  refine Hcall.out.mono ?_
  rintro e w8 ⟨rfl, hb8⟩
  have hz8 := hb8.size
  have hb38 : Below w3.heap.size w3 w8 := hb37.trans (hb8.mono (by omega))
  have hA0' := (hb38.cell (p := ⟨w.heap.size + 1, 0, none⟩) (show w.heap.size + 1 < w3.heap.size by omega)).trans hA0
  have hA1' := (hb38.cell (p := ⟨w.heap.size + 1, 1, none⟩) (show w.heap.size + 1 < w3.heap.size by omega)).trans hA1
  have hB0 := (hb38.cell (p := ⟨w1.heap.size + 1, 0, none⟩) (show w1.heap.size + 1 < w3.heap.size by omega)).trans hB0'
  have hB1 := (hb38.cell (p := ⟨w1.heap.size + 1, 1, none⟩) (show w1.heap.size + 1 < w3.heap.size by omega)).trans hB1'
  clear Hcall hb37 hb8 hX0' hA0 hA1 hB0' hB1' hO
  go_wp2_with fail
  obtain ⟨x1, x2, x9⟩ := one_allocL w8 #[.string ⟨#[97]⟩, .slice (some ⟨w.heap.size, 0, none⟩) 3 3, .string ⟨#[98]⟩, .slice (some ⟨w1.heap.size, 0, none⟩) 2 2] 66
  generalize w8.alloc (.cells #[.string ⟨#[97]⟩, .slice (some ⟨w.heap.size, 0, none⟩) 3 3, .string ⟨#[98]⟩, .slice (some ⟨w1.heap.size, 0, none⟩) 2 2] 66) = w9 at *
  have g9 : w8.heap.size < w9.heap.size := by omega
  clear x9
  have hb39 : Below w3.heap.size w3 w9 := hb38.trans (x2.mono (by omega))
  have hO9 := Objs.lit2 (B := w9.heap.size) (a := S.wa) (o := S.wb) x1 (by omega) ((hIa3.below hb39).more (by omega)) ((hIb3.below hb39).more (by omega)) (names_of wab_names)
  have hcall : Calls Try.prog 31 #[.slice (some ⟨w8.heap.size, 0, none⟩) 2 2] w9 fun e w' => e = .returned (.int .i64 (S.countO [S.wa, S.wb])) ∧ Below w9.heap.size w9 w' := link_Size _ _ _ _ hO9 (by decide) (by decide)
  rw [wab_count] at hcall
  have Hcall := Lib.hid hcall
  clear hcall x1 x2
  refine Hcall.out.mono ?_
  rintro e w10 ⟨rfl, hb10⟩
  go_wp2_with fail
  go_ret
  exact ⟨rfl, hb03.trans ((hb39.trans (hb10.mono (by omega))).mono (by omega))⟩

end Go.Proofs.Ytbgdomnalimjnaa
