/- Walk of LinkKnown: the chapter's examples of layer 4. -/
import Derived.Test.YtbgdomnalimjnaaLinkN
set_option linter.unusedVariables false
set_option linter.unusedSimpArgs false
set_option linter.unusedSectionVars false
namespace Go.Proofs.Ytbgdomnalimjnaa
open Go.RowKit
namespace S
def ka : Obj := ⟨⟨#[97]⟩, [⟨7, ⟨0, 0, 0, 0, 0⟩, ⟨#[121]⟩, 0⟩]⟩
def kb : Obj := ⟨⟨#[98]⟩, [⟨2, ⟨0, 0, 0, 0, 0⟩, ⟨#[121]⟩, 0⟩, ⟨6, ⟨0, 0, 0, 0, 0⟩, ⟨#[]⟩, 1⟩]⟩
def kc : Obj := ⟨⟨#[46, 98]⟩, []⟩
def kd : Obj := ⟨⟨#[]⟩, []⟩
def checkOf' (xs : List Item) : Int := if firstErr xs ≠ 0 then 1 else if allAt xs (fun i x => decide (x.kind = 2 → stands xs x.label = i)) = false then 1
  else if allAt xs (fun _ x => decide (named x = true → 0 ≤ stands xs x.label)) = false then 12 else 0
end S
theorem miss_res {xs : List S.Item} (h : S.checkOf' xs = 12) : S.FormsRes xs 0 12 [] := by
  unfold S.checkOf' at h
  by_cases h2 : S.firstErr xs ≠ 0
  · rw [if_pos h2] at h; cases h
  rw [if_neg h2] at h
  have h2' : S.firstErr xs = 0 := by omega
  by_cases h3 : S.allAt xs (fun i x => decide (x.kind = 2 → S.stands xs x.label = i)) = false
  · rw [if_pos h3] at h; cases h
  rw [if_neg h3] at h
  have hd : ¬ S.Dup xs := by
    rintro ⟨i, x, hx, hk, hs⟩
    have := allAt_of (eq_true_of_ne_false h3) hx
    exact hs (of_decide_eq_true this hk)
  by_cases h4 : S.allAt xs (fun _ x => decide (S.named x = true → 0 ≤ S.stands xs x.label)) = false
  · have : ∃ (i : Nat) (x : S.Item), xs[i]? = some x ∧ decide (S.named x = true → 0 ≤ S.stands xs x.label) = false := by
      unfold S.allAt at h4
      rw [List.all_eq_false] at h4
      obtain ⟨i, hi, hp⟩ := h4
      cases hx : xs[i]? with
      | none => simp [hx] at hp
      | some x => exact ⟨i, x, hx, by simpa [hx] using hp⟩
    obtain ⟨i, x, hx, hp⟩ := this
    have hp := Classical.not_imp.1 (of_decide_eq_false hp)
    exact .inl ⟨by decide, .inr (.inr (.inr (.inl ⟨Int.le_refl _, by decide, h2', hd, ⟨i, x, hx, hp.1, by omega⟩, rfl⟩))), rfl⟩
  · rw [if_neg h4] at h; cases h
theorem kab_res : S.FormsRes (S.joined [S.ka, S.kb]) 0 0 [0, 0, 0] := okB_res (js := []) (by kernel_rfl)
theorem kab_out : S.outTo (S.joined [S.ka, S.kb]) [0, 0, 0] 0 (S.joined [S.ka, S.kb]).length = [4, 1] := by kernel_rfl
theorem kab_places : S.placesTo (S.joined [S.ka, S.kb]) [0, 0, 0] 0 (S.joined [S.ka, S.kb]).length = [(⟨#[121]⟩, 1)] := by kernel_rfl
theorem kab_link : LinkRes [S.ka, S.kb] 0 0 [4, 1] [(⟨#[121]⟩, 1)] := by
  have h := linkRes_ok (os := [S.ka, S.kb]) (by kernel_rfl) kab_res
  rw [kab_out, kab_places] at h
  exact h
theorem kaa_link : LinkRes [S.ka, S.ka] 0 14 [] [] := linkRes_names (by kernel_rfl) (by decide)
theorem kc_link : LinkRes [S.kc] 0 2 [] [] := linkRes_names (by kernel_rfl) (by decide)
theorem kd_link : LinkRes [S.kd] 0 2 [] [] := linkRes_names (by kernel_rfl) (by decide)
theorem ka_link : LinkRes [S.ka] 0 12 [] [] := linkRes_err (by kernel_rfl) (by decide) (miss_res (by kernel_rfl))
theorem k0_link : LinkRes [] 0 0 [] [] := by
  have h := linkRes_ok (os := []) (base := 0) (by kernel_rfl) (F := []) (okB_res (js := []) (by kernel_rfl))
  exact h
theorem kab_names : namesB [S.ka, S.kb] = true := by kernel_rfl
theorem kaa_names : namesB [S.ka, S.ka] = true := by kernel_rfl
theorem kc_names : namesB [S.kc] = true := by kernel_rfl
theorem kd_names : namesB [S.kd] = true := by kernel_rfl
theorem ka_names : namesB [S.ka] = true := by kernel_rfl
theorem k0_names : namesB [] = true := by kernel_rfl
theorem kab_find : S.findP [(⟨#[121]⟩, 1)] ⟨#[120]⟩ = none := by kernel_rfl

set_option maxRecDepth 100000 in
set_option maxHeartbeats 16000000 in
theorem law_LinkKnown (w0 : World) : Calls Try.prog 9 #[] w0 fun e w' => e = .returned (.bool true) ∧ Below w0.heap.size w0 w' := by
  go_enter Try.func9, Try.ntmps9
  have hB := Below.refl w0.heap.size w0
  go_upto_region 2 with fail
  obtain ⟨hIa, hCa, hDa, hx, hy⟩ := obj_lit w0 #[.int .i64 7, .int .i64 0, .int .i64 0, .int .i64 0, .int .i64 0, .int .i64 0, .string ⟨#[121]⟩, .int .u32 0] ⟨#[97]⟩ S.ka.items rfl (words_of' (by kernel_rfl)) 1 rfl rfl
  generalize (w0.alloc (.cells #[.int .i64 7, .int .i64 0, .int .i64 0, .int .i64 0, .int .i64 0, .int .i64 0, .string ⟨#[121]⟩, .int .u32 0] 57)).alloc (.cells #[.string ⟨#[97]⟩, .slice (some ⟨w0.heap.size, 0, none⟩) 1 1] 66) = w1 at *
  have gw1 : w0.heap.size + 1 < w1.heap.size := by omega
  clear hy
  have hzw1 : w0.heap.size ≤ w1.heap.size := hx.size
  have hB' := hB.trans (hx.mono (show w0.heap.size ≤ w0.heap.size by omega))
  clear hB
  have hB := hB'
  clear hB'
  clear hx
  go_upto_region 3 with fail
  obtain ⟨hIb, hCb, hDb, hx, hy⟩ := obj_lit w1 #[.int .i64 2, .int .i64 0, .int .i64 0, .int .i64 0, .int .i64 0, .int .i64 0, .string ⟨#[121]⟩, .int .u32 0, .int .i64 6, .int .i64 0, .int .i64 0, .int .i64 0, .int .i64 0, .int .i64 0, .string ⟨#[]⟩, .int .u32 1] ⟨#[98]⟩ S.kb.items rfl (words_of' (by kernel_rfl)) 2 rfl rfl
  generalize (w1.alloc (.cells #[.int .i64 2, .int .i64 0, .int .i64 0, .int .i64 0, .int .i64 0, .int .i64 0, .string ⟨#[121]⟩, .int .u32 0, .int .i64 6, .int .i64 0, .int .i64 0, .int .i64 0, .int .i64 0, .int .i64 0, .string ⟨#[]⟩, .int .u32 1] 57)).alloc (.cells #[.string ⟨#[98]⟩, .slice (some ⟨w1.heap.size, 0, none⟩) 2 2] 66) = w2 at *
  have gw2 : w1.heap.size + 1 < w2.heap.size := by omega
  clear hy
  have hzw2 : w1.heap.size ≤ w2.heap.size := hx.size
  have hB' := hB.trans (hx.mono (show w0.heap.size ≤ w1.heap.size by omega))
  clear hB
  have hB := hB'
  clear hB'
  have hIa' := (hIa.below hx).more hx.size
  clear hIa
  have hIa := hIa'
  clear hIa'
  have hCa' := (hx.cell (p := ⟨w0.heap.size + 1, 0, none⟩) (show w0.heap.size + 1 < w1.heap.size by omega)).trans hCa
  clear hCa
  have hCa := hCa'
  clear hCa'
  have hDa' := (hx.cell (p := ⟨w0.heap.size + 1, 1, none⟩) (show w0.heap.size + 1 < w1.heap.size by omega)).trans hDa
  clear hDa
  have hDa := hDa'
  clear hDa'
  clear hx
  go_wp2_with fail
  obtain ⟨hx1, hx, hy⟩ := one_allocL w2 #[.string ⟨#[97]⟩, .slice (some ⟨w0.heap.size, 0, none⟩) 1 1, .string ⟨#[98]⟩, .slice (some ⟨w1.heap.size, 0, none⟩) 2 2] 66
  generalize w2.alloc (.cells #[.string ⟨#[97]⟩, .slice (some ⟨w0.heap.size, 0, none⟩) 1 1, .string ⟨#[98]⟩, .slice (some ⟨w1.heap.size, 0, none⟩) 2 2] 66) = w3 at *
  have gw3 : w2.heap.size < w3.heap.size := by omega
  clear hy
  have hzw3 : w2.heap.size ≤ w3.heap.size := hx.size
  have hB' := hB.trans (hx.mono (show w0.heap.size ≤ w2.heap.size by omega))
  clear hB
  have hB := hB'
  clear hB'
  have hIa' := (hIa.below hx).more hx.size
  clear hIa
  have hIa := hIa'
  clear hIa'
  have hCa' := (hx.cell (p := ⟨w0.heap.size + 1, 0, none⟩) (show w0.heap.size + 1 < w2.heap.size by omega)).trans hCa
  clear hCa
  have hCa := hCa'
  clear hCa'
  have hDa' := (hx.cell (p := ⟨w0.heap.size + 1, 1, none⟩) (show w0.heap.size + 1 < w2.heap.size by omega)).trans hDa
  clear hDa
  have hDa := hDa'
  clear hDa'
  have hIb' := (hIb.below hx).more hx.size
  clear hIb
  have hIb := hIb'
  clear hIb'
  have hCb' := (hx.cell (p := ⟨w1.heap.size + 1, 0, none⟩) (show w1.heap.size + 1 < w2.heap.size by omega)).trans hCb
  clear hCb
  have hCb := hCb'
  clear hCb'
  have hDb' := (hx.cell (p := ⟨w1.heap.size + 1, 1, none⟩) (show w1.heap.size + 1 < w2.heap.size by omega)).trans hDb
  clear hDb
  have hDb := hDb'
  clear hDb'
  clear hx
  have hO := Objs.lit2 (B := w3.heap.size) (a := S.ka) (o := S.kb) hx1 (by omega) hIa hIb (names_of kab_names)
  have hcall : Calls Try.prog 26 #[.slice (some ⟨w2.heap.size, 0, none⟩) 2 2, .int .i64 0] w3 (Linked [S.ka, S.kb] 0 w3) := link_Link _ _ _ _ _ hO (by decide) (by decide) (sizes_of kab_names)
  have Hcall := Lib.hid hcall
  clear hcall hO
  refine Hcall.out.mono ?_
  rintro e w4 ⟨vo, vp, r, L, P, rfl, hres, ho, hp, hx⟩
  obtain ⟨e0, eL, eP⟩ := linkRes_fun kab_link hres
  subst e0 eL eP
  clear hres Hcall
  obtain ⟨Aow4, cow4, rfl⟩ := ownsRow_form ho
  obtain ⟨Apw4, cpw4, rfl⟩ := ownsRow_form hp
  have hR := Reads.of_own ho
  have hP := ReadsP.of_own hp
  clear ho hp
  have hzw4 : w3.heap.size ≤ w4.heap.size := hx.size
  have hB' := hB.trans (hx.mono (show w0.heap.size ≤ w3.heap.size by omega))
  clear hB
  have hB := hB'
  clear hB'
  have hIa' := (hIa.below hx).more hx.size
  clear hIa
  have hIa := hIa'
  clear hIa'
  have hCa' := (hx.cell (p := ⟨w0.heap.size + 1, 0, none⟩) (show w0.heap.size + 1 < w3.heap.size by omega)).trans hCa
  clear hCa
  have hCa := hCa'
  clear hCa'
  have hDa' := (hx.cell (p := ⟨w0.heap.size + 1, 1, none⟩) (show w0.heap.size + 1 < w3.heap.size by omega)).trans hDa
  clear hDa
  have hDa := hDa'
  clear hDa'
  have hIb' := (hIb.below hx).more hx.size
  clear hIb
  have hIb := hIb'
  clear hIb'
  have hCb' := (hx.cell (p := ⟨w1.heap.size + 1, 0, none⟩) (show w1.heap.size + 1 < w3.heap.size by omega)).trans hCb
  clear hCb
  have hCb := hCb'
  clear hCb'
  have hDb' := (hx.cell (p := ⟨w1.heap.size + 1, 1, none⟩) (show w1.heap.size + 1 < w3.heap.size by omega)).trans hDb
  clear hDb
  have hDb := hDb'
  clear hDb'
  clear hx
  go_upto_region 4 with fail
  obtain ⟨hx1, hx, hy⟩ := one_allocL w4 #[.slice Aow4 2 cow4, .slice Apw4 1 cpw4] 51
  generalize w4.alloc (.cells #[.slice Aow4 2 cow4, .slice Apw4 1 cpw4] 51) = w5 at *
  have gw5 : w4.heap.size < w5.heap.size := by omega
  clear hy
  have hzw5 : w4.heap.size ≤ w5.heap.size := hx.size
  have hB' := hB.trans (hx.mono (show w0.heap.size ≤ w4.heap.size by omega))
  clear hB
  have hB := hB'
  clear hB'
  have hIa' := (hIa.below hx).more hx.size
  clear hIa
  have hIa := hIa'
  clear hIa'
  have hCa' := (hx.cell (p := ⟨w0.heap.size + 1, 0, none⟩) (show w0.heap.size + 1 < w4.heap.size by omega)).trans hCa
  clear hCa
  have hCa := hCa'
  clear hCa'
  have hDa' := (hx.cell (p := ⟨w0.heap.size + 1, 1, none⟩) (show w0.heap.size + 1 < w4.heap.size by omega)).trans hDa
  clear hDa
  have hDa := hDa'
  clear hDa'
  have hIb' := (hIb.below hx).more hx.size
  clear hIb
  have hIb := hIb'
  clear hIb'
  have hCb' := (hx.cell (p := ⟨w1.heap.size + 1, 0, none⟩) (show w1.heap.size + 1 < w4.heap.size by omega)).trans hCb
  clear hCb
  have hCb := hCb'
  clear hCb'
  have hDb' := (hx.cell (p := ⟨w1.heap.size + 1, 1, none⟩) (show w1.heap.size + 1 < w4.heap.size by omega)).trans hDb
  clear hDb
  have hDb := hDb'
  clear hDb'
  have hR' := hR.below (hx.mono (show w4.heap.size ≤ w4.heap.size by omega))
  clear hR
  have hR := hR'
  clear hR'
  have hP' := hP.below (hx.mono (show w4.heap.size ≤ w4.heap.size by omega))
  clear hP
  have hP := hP'
  clear hP'
  clear hx
  have hXw5 : w5.cell? ⟨w4.heap.size, 0, none⟩ = some (.slice Aow4 2 cow4) := by rw [blk_cell hx1]; rfl
  have hYw5 : w5.cell? ⟨w4.heap.size, 1, none⟩ = some (.slice Apw4 1 cpw4) := by rw [blk_cell hx1]; rfl
  clear hx1
  clear hIb
  go_wp2_with fail
  obtain ⟨hx1, hx, hy⟩ := one_allocL w5 #[.string ⟨#[97]⟩, .slice (some ⟨w0.heap.size, 0, none⟩) 1 1, .string ⟨#[97]⟩, .slice (some ⟨w0.heap.size, 0, none⟩) 1 1] 66
  generalize w5.alloc (.cells #[.string ⟨#[97]⟩, .slice (some ⟨w0.heap.size, 0, none⟩) 1 1, .string ⟨#[97]⟩, .slice (some ⟨w0.heap.size, 0, none⟩) 1 1] 66) = w6 at *
  have gw6 : w5.heap.size < w6.heap.size := by omega
  clear hy
  have hzw6 : w5.heap.size ≤ w6.heap.size := hx.size
  have hB' := hB.trans (hx.mono (show w0.heap.size ≤ w5.heap.size by omega))
  clear hB
  have hB := hB'
  clear hB'
  have hIa' := (hIa.below hx).more hx.size
  clear hIa
  have hIa := hIa'
  clear hIa'
  have hCa' := (hx.cell (p := ⟨w0.heap.size + 1, 0, none⟩) (show w0.heap.size + 1 < w5.heap.size by omega)).trans hCa
  clear hCa
  have hCa := hCa'
  clear hCa'
  have hDa' := (hx.cell (p := ⟨w0.heap.size + 1, 1, none⟩) (show w0.heap.size + 1 < w5.heap.size by omega)).trans hDa
  clear hDa
  have hDa := hDa'
  clear hDa'
  have hCb' := (hx.cell (p := ⟨w1.heap.size + 1, 0, none⟩) (show w1.heap.size + 1 < w5.heap.size by omega)).trans hCb
  clear hCb
  have hCb := hCb'
  clear hCb'
  have hDb' := (hx.cell (p := ⟨w1.heap.size + 1, 1, none⟩) (show w1.heap.size + 1 < w5.heap.size by omega)).trans hDb
  clear hDb
  have hDb := hDb'
  clear hDb'
  have hR' := hR.below (hx.mono (show w4.heap.size ≤ w5.heap.size by omega))
  clear hR
  have hR := hR'
  clear hR'
  have hP' := hP.below (hx.mono (show w4.heap.size ≤ w5.heap.size by omega))
  clear hP
  have hP := hP'
  clear hP'
  have hXw5' := (hx.cell (p := ⟨w4.heap.size, 0, none⟩) (show w4.heap.size < w5.heap.size by omega)).trans hXw5
  clear hXw5
  have hXw5 := hXw5'
  clear hXw5'
  have hYw5' := (hx.cell (p := ⟨w4.heap.size, 1, none⟩) (show w4.heap.size < w5.heap.size by omega)).trans hYw5
  clear hYw5
  have hYw5 := hYw5'
  clear hYw5'
  clear hx
  have hO := Objs.lit2 (B := w6.heap.size) (a := S.ka) (o := S.ka) hx1 (by omega) hIa hIa (names_of kaa_names)
  have hcall : Calls Try.prog 26 #[.slice (some ⟨w5.heap.size, 0, none⟩) 2 2, .int .i64 0] w6 (Linked [S.ka, S.ka] 0 w6) := link_Link _ _ _ _ _ hO (by decide) (by decide) (sizes_of kaa_names)
  have Hcall := Lib.hid hcall
  clear hcall hO
  refine Hcall.out.mono ?_
  rintro e w7 ⟨vo, vp, r, L, P, rfl, hres, ho, hp, hx⟩
  obtain ⟨e0, eL, eP⟩ := linkRes_fun kaa_link hres
  subst e0 eL eP
  clear hres Hcall
  obtain ⟨Aow7, cow7, rfl⟩ := ownsRow_form ho
  obtain ⟨Apw7, cpw7, rfl⟩ := ownsRow_form hp
  clear ho hp
  have hzw7 : w6.heap.size ≤ w7.heap.size := hx.size
  have hB' := hB.trans (hx.mono (show w0.heap.size ≤ w6.heap.size by omega))
  clear hB
  have hB := hB'
  clear hB'
  have hIa' := (hIa.below hx).more hx.size
  clear hIa
  have hIa := hIa'
  clear hIa'
  have hCa' := (hx.cell (p := ⟨w0.heap.size + 1, 0, none⟩) (show w0.heap.size + 1 < w6.heap.size by omega)).trans hCa
  clear hCa
  have hCa := hCa'
  clear hCa'
  have hDa' := (hx.cell (p := ⟨w0.heap.size + 1, 1, none⟩) (show w0.heap.size + 1 < w6.heap.size by omega)).trans hDa
  clear hDa
  have hDa := hDa'
  clear hDa'
  have hCb' := (hx.cell (p := ⟨w1.heap.size + 1, 0, none⟩) (show w1.heap.size + 1 < w6.heap.size by omega)).trans hCb
  clear hCb
  have hCb := hCb'
  clear hCb'
  have hDb' := (hx.cell (p := ⟨w1.heap.size + 1, 1, none⟩) (show w1.heap.size + 1 < w6.heap.size by omega)).trans hDb
  clear hDb
  have hDb := hDb'
  clear hDb'
  have hR' := hR.below (hx.mono (show w4.heap.size ≤ w6.heap.size by omega))
  clear hR
  have hR := hR'
  clear hR'
  have hP' := hP.below (hx.mono (show w4.heap.size ≤ w6.heap.size by omega))
  clear hP
  have hP := hP'
  clear hP'
  have hXw5' := (hx.cell (p := ⟨w4.heap.size, 0, none⟩) (show w4.heap.size < w6.heap.size by omega)).trans hXw5
  clear hXw5
  have hXw5 := hXw5'
  clear hXw5'
  have hYw5' := (hx.cell (p := ⟨w4.heap.size, 1, none⟩) (show w4.heap.size < w6.heap.size by omega)).trans hYw5
  clear hYw5
  have hYw5 := hYw5'
  clear hYw5'
  clear hx
  go_upto_region 5 with fail
  obtain ⟨hx1, hx, hy⟩ := one_allocL w7 #[.slice Aow7 0 cow7, .slice Apw7 0 cpw7] 51
  generalize w7.alloc (.cells #[.slice Aow7 0 cow7, .slice Apw7 0 cpw7] 51) = w8 at *
  have gw8 : w7.heap.size < w8.heap.size := by omega
  clear hy
  have hzw8 : w7.heap.size ≤ w8.heap.size := hx.size
  have hB' := hB.trans (hx.mono (show w0.heap.size ≤ w7.heap.size by omega))
  clear hB
  have hB := hB'
  clear hB'
  have hIa' := (hIa.below hx).more hx.size
  clear hIa
  have hIa := hIa'
  clear hIa'
  have hCa' := (hx.cell (p := ⟨w0.heap.size + 1, 0, none⟩) (show w0.heap.size + 1 < w7.heap.size by omega)).trans hCa
  clear hCa
  have hCa := hCa'
  clear hCa'
  have hDa' := (hx.cell (p := ⟨w0.heap.size + 1, 1, none⟩) (show w0.heap.size + 1 < w7.heap.size by omega)).trans hDa
  clear hDa
  have hDa := hDa'
  clear hDa'
  have hCb' := (hx.cell (p := ⟨w1.heap.size + 1, 0, none⟩) (show w1.heap.size + 1 < w7.heap.size by omega)).trans hCb
  clear hCb
  have hCb := hCb'
  clear hCb'
  have hDb' := (hx.cell (p := ⟨w1.heap.size + 1, 1, none⟩) (show w1.heap.size + 1 < w7.heap.size by omega)).trans hDb
  clear hDb
  have hDb := hDb'
  clear hDb'
  have hR' := hR.below (hx.mono (show w4.heap.size ≤ w7.heap.size by omega))
  clear hR
  have hR := hR'
  clear hR'
  have hP' := hP.below (hx.mono (show w4.heap.size ≤ w7.heap.size by omega))
  clear hP
  have hP := hP'
  clear hP'
  have hXw5' := (hx.cell (p := ⟨w4.heap.size, 0, none⟩) (show w4.heap.size < w7.heap.size by omega)).trans hXw5
  clear hXw5
  have hXw5 := hXw5'
  clear hXw5'
  have hYw5' := (hx.cell (p := ⟨w4.heap.size, 1, none⟩) (show w4.heap.size < w7.heap.size by omega)).trans hYw5
  clear hYw5
  have hYw5 := hYw5'
  clear hYw5'
  clear hx
  have hXw8 : w8.cell? ⟨w7.heap.size, 0, none⟩ = some (.slice Aow7 0 cow7) := by rw [blk_cell hx1]; rfl
  clear hx1
  go_wp2_with fail
  obtain ⟨hx1, hx, hy⟩ := one_allocL w8 #[.string ⟨#[46, 98]⟩, .slice none 0 0] 66
  generalize w8.alloc (.cells #[.string ⟨#[46, 98]⟩, .slice none 0 0] 66) = w9 at *
  have gw9 : w8.heap.size < w9.heap.size := by omega
  clear hy
  have hzw9 : w8.heap.size ≤ w9.heap.size := hx.size
  have hB' := hB.trans (hx.mono (show w0.heap.size ≤ w8.heap.size by omega))
  clear hB
  have hB := hB'
  clear hB'
  have hIa' := (hIa.below hx).more hx.size
  clear hIa
  have hIa := hIa'
  clear hIa'
  have hCa' := (hx.cell (p := ⟨w0.heap.size + 1, 0, none⟩) (show w0.heap.size + 1 < w8.heap.size by omega)).trans hCa
  clear hCa
  have hCa := hCa'
  clear hCa'
  have hDa' := (hx.cell (p := ⟨w0.heap.size + 1, 1, none⟩) (show w0.heap.size + 1 < w8.heap.size by omega)).trans hDa
  clear hDa
  have hDa := hDa'
  clear hDa'
  have hCb' := (hx.cell (p := ⟨w1.heap.size + 1, 0, none⟩) (show w1.heap.size + 1 < w8.heap.size by omega)).trans hCb
  clear hCb
  have hCb := hCb'
  clear hCb'
  have hDb' := (hx.cell (p := ⟨w1.heap.size + 1, 1, none⟩) (show w1.heap.size + 1 < w8.heap.size by omega)).trans hDb
  clear hDb
  have hDb := hDb'
  clear hDb'
  have hR' := hR.below (hx.mono (show w4.heap.size ≤ w8.heap.size by omega))
  clear hR
  have hR := hR'
  clear hR'
  have hP' := hP.below (hx.mono (show w4.heap.size ≤ w8.heap.size by omega))
  clear hP
  have hP := hP'
  clear hP'
  have hXw5' := (hx.cell (p := ⟨w4.heap.size, 0, none⟩) (show w4.heap.size < w8.heap.size by omega)).trans hXw5
  clear hXw5
  have hXw5 := hXw5'
  clear hXw5'
  have hYw5' := (hx.cell (p := ⟨w4.heap.size, 1, none⟩) (show w4.heap.size < w8.heap.size by omega)).trans hYw5
  clear hYw5
  have hYw5 := hYw5'
  clear hYw5'
  have hXw8' := (hx.cell (p := ⟨w7.heap.size, 0, none⟩) (show w7.heap.size < w8.heap.size by omega)).trans hXw8
  clear hXw8
  have hXw8 := hXw8'
  clear hXw8'
  clear hx
  have hO := Objs.lit1 (B := w9.heap.size) (a := S.kc) hx1 (by omega) (fun h => by cases h) (names_of kc_names)
  have hcall : Calls Try.prog 26 #[.slice (some ⟨w8.heap.size, 0, none⟩) 1 1, .int .i64 0] w9 (Linked [S.kc] 0 w9) := link_Link _ _ _ _ _ hO (by decide) (by decide) (sizes_of kc_names)
  have Hcall := Lib.hid hcall
  clear hcall hO
  refine Hcall.out.mono ?_
  rintro e w10 ⟨vo, vp, r, L, P, rfl, hres, ho, hp, hx⟩
  obtain ⟨e0, eL, eP⟩ := linkRes_fun kc_link hres
  subst e0 eL eP
  clear hres Hcall
  obtain ⟨Aow10, cow10, rfl⟩ := ownsRow_form ho
  obtain ⟨Apw10, cpw10, rfl⟩ := ownsRow_form hp
  clear ho hp
  have hzw10 : w9.heap.size ≤ w10.heap.size := hx.size
  have hB' := hB.trans (hx.mono (show w0.heap.size ≤ w9.heap.size by omega))
  clear hB
  have hB := hB'
  clear hB'
  have hIa' := (hIa.below hx).more hx.size
  clear hIa
  have hIa := hIa'
  clear hIa'
  have hCa' := (hx.cell (p := ⟨w0.heap.size + 1, 0, none⟩) (show w0.heap.size + 1 < w9.heap.size by omega)).trans hCa
  clear hCa
  have hCa := hCa'
  clear hCa'
  have hDa' := (hx.cell (p := ⟨w0.heap.size + 1, 1, none⟩) (show w0.heap.size + 1 < w9.heap.size by omega)).trans hDa
  clear hDa
  have hDa := hDa'
  clear hDa'
  have hCb' := (hx.cell (p := ⟨w1.heap.size + 1, 0, none⟩) (show w1.heap.size + 1 < w9.heap.size by omega)).trans hCb
  clear hCb
  have hCb := hCb'
  clear hCb'
  have hDb' := (hx.cell (p := ⟨w1.heap.size + 1, 1, none⟩) (show w1.heap.size + 1 < w9.heap.size by omega)).trans hDb
  clear hDb
  have hDb := hDb'
  clear hDb'
  have hR' := hR.below (hx.mono (show w4.heap.size ≤ w9.heap.size by omega))
  clear hR
  have hR := hR'
  clear hR'
  have hP' := hP.below (hx.mono (show w4.heap.size ≤ w9.heap.size by omega))
  clear hP
  have hP := hP'
  clear hP'
  have hXw5' := (hx.cell (p := ⟨w4.heap.size, 0, none⟩) (show w4.heap.size < w9.heap.size by omega)).trans hXw5
  clear hXw5
  have hXw5 := hXw5'
  clear hXw5'
  have hYw5' := (hx.cell (p := ⟨w4.heap.size, 1, none⟩) (show w4.heap.size < w9.heap.size by omega)).trans hYw5
  clear hYw5
  have hYw5 := hYw5'
  clear hYw5'
  have hXw8' := (hx.cell (p := ⟨w7.heap.size, 0, none⟩) (show w7.heap.size < w9.heap.size by omega)).trans hXw8
  clear hXw8
  have hXw8 := hXw8'
  clear hXw8'
  clear hx
  go_upto_region 6 with fail
  obtain ⟨hx1, hx, hy⟩ := one_allocL w10 #[.slice Aow10 0 cow10, .slice Apw10 0 cpw10] 51
  generalize w10.alloc (.cells #[.slice Aow10 0 cow10, .slice Apw10 0 cpw10] 51) = w11 at *
  have gw11 : w10.heap.size < w11.heap.size := by omega
  clear hy
  have hzw11 : w10.heap.size ≤ w11.heap.size := hx.size
  have hB' := hB.trans (hx.mono (show w0.heap.size ≤ w10.heap.size by omega))
  clear hB
  have hB := hB'
  clear hB'
  have hIa' := (hIa.below hx).more hx.size
  clear hIa
  have hIa := hIa'
  clear hIa'
  have hCa' := (hx.cell (p := ⟨w0.heap.size + 1, 0, none⟩) (show w0.heap.size + 1 < w10.heap.size by omega)).trans hCa
  clear hCa
  have hCa := hCa'
  clear hCa'
  have hDa' := (hx.cell (p := ⟨w0.heap.size + 1, 1, none⟩) (show w0.heap.size + 1 < w10.heap.size by omega)).trans hDa
  clear hDa
  have hDa := hDa'
  clear hDa'
  have hCb' := (hx.cell (p := ⟨w1.heap.size + 1, 0, none⟩) (show w1.heap.size + 1 < w10.heap.size by omega)).trans hCb
  clear hCb
  have hCb := hCb'
  clear hCb'
  have hDb' := (hx.cell (p := ⟨w1.heap.size + 1, 1, none⟩) (show w1.heap.size + 1 < w10.heap.size by omega)).trans hDb
  clear hDb
  have hDb := hDb'
  clear hDb'
  have hR' := hR.below (hx.mono (show w4.heap.size ≤ w10.heap.size by omega))
  clear hR
  have hR := hR'
  clear hR'
  have hP' := hP.below (hx.mono (show w4.heap.size ≤ w10.heap.size by omega))
  clear hP
  have hP := hP'
  clear hP'
  have hXw5' := (hx.cell (p := ⟨w4.heap.size, 0, none⟩) (show w4.heap.size < w10.heap.size by omega)).trans hXw5
  clear hXw5
  have hXw5 := hXw5'
  clear hXw5'
  have hYw5' := (hx.cell (p := ⟨w4.heap.size, 1, none⟩) (show w4.heap.size < w10.heap.size by omega)).trans hYw5
  clear hYw5
  have hYw5 := hYw5'
  clear hYw5'
  have hXw8' := (hx.cell (p := ⟨w7.heap.size, 0, none⟩) (show w7.heap.size < w10.heap.size by omega)).trans hXw8
  clear hXw8
  have hXw8 := hXw8'
  clear hXw8'
  clear hx
  have hXw11 : w11.cell? ⟨w10.heap.size, 0, none⟩ = some (.slice Aow10 0 cow10) := by rw [blk_cell hx1]; rfl
  clear hx1
  go_wp2_with fail
  obtain ⟨hx1, hx, hy⟩ := one_allocL w11 #[.string ⟨#[]⟩, .slice none 0 0] 66
  generalize w11.alloc (.cells #[.string ⟨#[]⟩, .slice none 0 0] 66) = w12 at *
  have gw12 : w11.heap.size < w12.heap.size := by omega
  clear hy
  have hzw12 : w11.heap.size ≤ w12.heap.size := hx.size
  have hB' := hB.trans (hx.mono (show w0.heap.size ≤ w11.heap.size by omega))
  clear hB
  have hB := hB'
  clear hB'
  have hIa' := (hIa.below hx).more hx.size
  clear hIa
  have hIa := hIa'
  clear hIa'
  have hCa' := (hx.cell (p := ⟨w0.heap.size + 1, 0, none⟩) (show w0.heap.size + 1 < w11.heap.size by omega)).trans hCa
  clear hCa
  have hCa := hCa'
  clear hCa'
  have hDa' := (hx.cell (p := ⟨w0.heap.size + 1, 1, none⟩) (show w0.heap.size + 1 < w11.heap.size by omega)).trans hDa
  clear hDa
  have hDa := hDa'
  clear hDa'
  have hCb' := (hx.cell (p := ⟨w1.heap.size + 1, 0, none⟩) (show w1.heap.size + 1 < w11.heap.size by omega)).trans hCb
  clear hCb
  have hCb := hCb'
  clear hCb'
  have hDb' := (hx.cell (p := ⟨w1.heap.size + 1, 1, none⟩) (show w1.heap.size + 1 < w11.heap.size by omega)).trans hDb
  clear hDb
  have hDb := hDb'
  clear hDb'
  have hR' := hR.below (hx.mono (show w4.heap.size ≤ w11.heap.size by omega))
  clear hR
  have hR := hR'
  clear hR'
  have hP' := hP.below (hx.mono (show w4.heap.size ≤ w11.heap.size by omega))
  clear hP
  have hP := hP'
  clear hP'
  have hXw5' := (hx.cell (p := ⟨w4.heap.size, 0, none⟩) (show w4.heap.size < w11.heap.size by omega)).trans hXw5
  clear hXw5
  have hXw5 := hXw5'
  clear hXw5'
  have hYw5' := (hx.cell (p := ⟨w4.heap.size, 1, none⟩) (show w4.heap.size < w11.heap.size by omega)).trans hYw5
  clear hYw5
  have hYw5 := hYw5'
  clear hYw5'
  have hXw8' := (hx.cell (p := ⟨w7.heap.size, 0, none⟩) (show w7.heap.size < w11.heap.size by omega)).trans hXw8
  clear hXw8
  have hXw8 := hXw8'
  clear hXw8'
  have hXw11' := (hx.cell (p := ⟨w10.heap.size, 0, none⟩) (show w10.heap.size < w11.heap.size by omega)).trans hXw11
  clear hXw11
  have hXw11 := hXw11'
  clear hXw11'
  clear hx
  have hO := Objs.lit1 (B := w12.heap.size) (a := S.kd) hx1 (by omega) (fun h => by cases h) (names_of kd_names)
  have hcall : Calls Try.prog 26 #[.slice (some ⟨w11.heap.size, 0, none⟩) 1 1, .int .i64 0] w12 (Linked [S.kd] 0 w12) := link_Link _ _ _ _ _ hO (by decide) (by decide) (sizes_of kd_names)
  have Hcall := Lib.hid hcall
  clear hcall hO
  refine Hcall.out.mono ?_
  rintro e w13 ⟨vo, vp, r, L, P, rfl, hres, ho, hp, hx⟩
  obtain ⟨e0, eL, eP⟩ := linkRes_fun kd_link hres
  subst e0 eL eP
  clear hres Hcall
  obtain ⟨Aow13, cow13, rfl⟩ := ownsRow_form ho
  obtain ⟨Apw13, cpw13, rfl⟩ := ownsRow_form hp
  clear ho hp
  have hzw13 : w12.heap.size ≤ w13.heap.size := hx.size
  have hB' := hB.trans (hx.mono (show w0.heap.size ≤ w12.heap.size by omega))
  clear hB
  have hB := hB'
  clear hB'
  have hIa' := (hIa.below hx).more hx.size
  clear hIa
  have hIa := hIa'
  clear hIa'
  have hCa' := (hx.cell (p := ⟨w0.heap.size + 1, 0, none⟩) (show w0.heap.size + 1 < w12.heap.size by omega)).trans hCa
  clear hCa
  have hCa := hCa'
  clear hCa'
  have hDa' := (hx.cell (p := ⟨w0.heap.size + 1, 1, none⟩) (show w0.heap.size + 1 < w12.heap.size by omega)).trans hDa
  clear hDa
  have hDa := hDa'
  clear hDa'
  have hCb' := (hx.cell (p := ⟨w1.heap.size + 1, 0, none⟩) (show w1.heap.size + 1 < w12.heap.size by omega)).trans hCb
  clear hCb
  have hCb := hCb'
  clear hCb'
  have hDb' := (hx.cell (p := ⟨w1.heap.size + 1, 1, none⟩) (show w1.heap.size + 1 < w12.heap.size by omega)).trans hDb
  clear hDb
  have hDb := hDb'
  clear hDb'
  have hR' := hR.below (hx.mono (show w4.heap.size ≤ w12.heap.size by omega))
  clear hR
  have hR := hR'
  clear hR'
  have hP' := hP.below (hx.mono (show w4.heap.size ≤ w12.heap.size by omega))
  clear hP
  have hP := hP'
  clear hP'
  have hXw5' := (hx.cell (p := ⟨w4.heap.size, 0, none⟩) (show w4.heap.size < w12.heap.size by omega)).trans hXw5
  clear hXw5
  have hXw5 := hXw5'
  clear hXw5'
  have hYw5' := (hx.cell (p := ⟨w4.heap.size, 1, none⟩) (show w4.heap.size < w12.heap.size by omega)).trans hYw5
  clear hYw5
  have hYw5 := hYw5'
  clear hYw5'
  have hXw8' := (hx.cell (p := ⟨w7.heap.size, 0, none⟩) (show w7.heap.size < w12.heap.size by omega)).trans hXw8
  clear hXw8
  have hXw8 := hXw8'
  clear hXw8'
  have hXw11' := (hx.cell (p := ⟨w10.heap.size, 0, none⟩) (show w10.heap.size < w12.heap.size by omega)).trans hXw11
  clear hXw11
  have hXw11 := hXw11'
  clear hXw11'
  clear hx
  go_upto_region 7 with fail
  obtain ⟨hx1, hx, hy⟩ := one_allocL w13 #[.slice Aow13 0 cow13, .slice Apw13 0 cpw13] 51
  generalize w13.alloc (.cells #[.slice Aow13 0 cow13, .slice Apw13 0 cpw13] 51) = w14 at *
  have gw14 : w13.heap.size < w14.heap.size := by omega
  clear hy
  have hzw14 : w13.heap.size ≤ w14.heap.size := hx.size
  have hB' := hB.trans (hx.mono (show w0.heap.size ≤ w13.heap.size by omega))
  clear hB
  have hB := hB'
  clear hB'
  have hIa' := (hIa.below hx).more hx.size
  clear hIa
  have hIa := hIa'
  clear hIa'
  have hCa' := (hx.cell (p := ⟨w0.heap.size + 1, 0, none⟩) (show w0.heap.size + 1 < w13.heap.size by omega)).trans hCa
  clear hCa
  have hCa := hCa'
  clear hCa'
  have hDa' := (hx.cell (p := ⟨w0.heap.size + 1, 1, none⟩) (show w0.heap.size + 1 < w13.heap.size by omega)).trans hDa
  clear hDa
  have hDa := hDa'
  clear hDa'
  have hCb' := (hx.cell (p := ⟨w1.heap.size + 1, 0, none⟩) (show w1.heap.size + 1 < w13.heap.size by omega)).trans hCb
  clear hCb
  have hCb := hCb'
  clear hCb'
  have hDb' := (hx.cell (p := ⟨w1.heap.size + 1, 1, none⟩) (show w1.heap.size + 1 < w13.heap.size by omega)).trans hDb
  clear hDb
  have hDb := hDb'
  clear hDb'
  have hR' := hR.below (hx.mono (show w4.heap.size ≤ w13.heap.size by omega))
  clear hR
  have hR := hR'
  clear hR'
  have hP' := hP.below (hx.mono (show w4.heap.size ≤ w13.heap.size by omega))
  clear hP
  have hP := hP'
  clear hP'
  have hXw5' := (hx.cell (p := ⟨w4.heap.size, 0, none⟩) (show w4.heap.size < w13.heap.size by omega)).trans hXw5
  clear hXw5
  have hXw5 := hXw5'
  clear hXw5'
  have hYw5' := (hx.cell (p := ⟨w4.heap.size, 1, none⟩) (show w4.heap.size < w13.heap.size by omega)).trans hYw5
  clear hYw5
  have hYw5 := hYw5'
  clear hYw5'
  have hXw8' := (hx.cell (p := ⟨w7.heap.size, 0, none⟩) (show w7.heap.size < w13.heap.size by omega)).trans hXw8
  clear hXw8
  have hXw8 := hXw8'
  clear hXw8'
  have hXw11' := (hx.cell (p := ⟨w10.heap.size, 0, none⟩) (show w10.heap.size < w13.heap.size by omega)).trans hXw11
  clear hXw11
  have hXw11 := hXw11'
  clear hXw11'
  clear hx
  have hXw14 : w14.cell? ⟨w13.heap.size, 0, none⟩ = some (.slice Aow13 0 cow13) := by rw [blk_cell hx1]; rfl
  clear hx1
  go_wp2_with fail
  obtain ⟨hx1, hx, hy⟩ := one_allocL w14 #[.string ⟨#[97]⟩, .slice (some ⟨w0.heap.size, 0, none⟩) 1 1] 66
  generalize w14.alloc (.cells #[.string ⟨#[97]⟩, .slice (some ⟨w0.heap.size, 0, none⟩) 1 1] 66) = w15 at *
  have gw15 : w14.heap.size < w15.heap.size := by omega
  clear hy
  have hzw15 : w14.heap.size ≤ w15.heap.size := hx.size
  have hB' := hB.trans (hx.mono (show w0.heap.size ≤ w14.heap.size by omega))
  clear hB
  have hB := hB'
  clear hB'
  have hIa' := (hIa.below hx).more hx.size
  clear hIa
  have hIa := hIa'
  clear hIa'
  have hCa' := (hx.cell (p := ⟨w0.heap.size + 1, 0, none⟩) (show w0.heap.size + 1 < w14.heap.size by omega)).trans hCa
  clear hCa
  have hCa := hCa'
  clear hCa'
  have hDa' := (hx.cell (p := ⟨w0.heap.size + 1, 1, none⟩) (show w0.heap.size + 1 < w14.heap.size by omega)).trans hDa
  clear hDa
  have hDa := hDa'
  clear hDa'
  have hCb' := (hx.cell (p := ⟨w1.heap.size + 1, 0, none⟩) (show w1.heap.size + 1 < w14.heap.size by omega)).trans hCb
  clear hCb
  have hCb := hCb'
  clear hCb'
  have hDb' := (hx.cell (p := ⟨w1.heap.size + 1, 1, none⟩) (show w1.heap.size + 1 < w14.heap.size by omega)).trans hDb
  clear hDb
  have hDb := hDb'
  clear hDb'
  have hR' := hR.below (hx.mono (show w4.heap.size ≤ w14.heap.size by omega))
  clear hR
  have hR := hR'
  clear hR'
  have hP' := hP.below (hx.mono (show w4.heap.size ≤ w14.heap.size by omega))
  clear hP
  have hP := hP'
  clear hP'
  have hXw5' := (hx.cell (p := ⟨w4.heap.size, 0, none⟩) (show w4.heap.size < w14.heap.size by omega)).trans hXw5
  clear hXw5
  have hXw5 := hXw5'
  clear hXw5'
  have hYw5' := (hx.cell (p := ⟨w4.heap.size, 1, none⟩) (show w4.heap.size < w14.heap.size by omega)).trans hYw5
  clear hYw5
  have hYw5 := hYw5'
  clear hYw5'
  have hXw8' := (hx.cell (p := ⟨w7.heap.size, 0, none⟩) (show w7.heap.size < w14.heap.size by omega)).trans hXw8
  clear hXw8
  have hXw8 := hXw8'
  clear hXw8'
  have hXw11' := (hx.cell (p := ⟨w10.heap.size, 0, none⟩) (show w10.heap.size < w14.heap.size by omega)).trans hXw11
  clear hXw11
  have hXw11 := hXw11'
  clear hXw11'
  have hXw14' := (hx.cell (p := ⟨w13.heap.size, 0, none⟩) (show w13.heap.size < w14.heap.size by omega)).trans hXw14
  clear hXw14
  have hXw14 := hXw14'
  clear hXw14'
  clear hx
  have hO := Objs.lit1 (B := w15.heap.size) (a := S.ka) hx1 (by omega) hIa (names_of ka_names)
  have hcall : Calls Try.prog 26 #[.slice (some ⟨w14.heap.size, 0, none⟩) 1 1, .int .i64 0] w15 (Linked [S.ka] 0 w15) := link_Link _ _ _ _ _ hO (by decide) (by decide) (sizes_of ka_names)
  have Hcall := Lib.hid hcall
  clear hcall hO
  refine Hcall.out.mono ?_
  rintro e w16 ⟨vo, vp, r, L, P, rfl, hres, ho, hp, hx⟩
  obtain ⟨e0, eL, eP⟩ := linkRes_fun ka_link hres
  subst e0 eL eP
  clear hres Hcall
  obtain ⟨Aow16, cow16, rfl⟩ := ownsRow_form ho
  obtain ⟨Apw16, cpw16, rfl⟩ := ownsRow_form hp
  clear ho hp
  have hzw16 : w15.heap.size ≤ w16.heap.size := hx.size
  have hB' := hB.trans (hx.mono (show w0.heap.size ≤ w15.heap.size by omega))
  clear hB
  have hB := hB'
  clear hB'
  have hIa' := (hIa.below hx).more hx.size
  clear hIa
  have hIa := hIa'
  clear hIa'
  have hCa' := (hx.cell (p := ⟨w0.heap.size + 1, 0, none⟩) (show w0.heap.size + 1 < w15.heap.size by omega)).trans hCa
  clear hCa
  have hCa := hCa'
  clear hCa'
  have hDa' := (hx.cell (p := ⟨w0.heap.size + 1, 1, none⟩) (show w0.heap.size + 1 < w15.heap.size by omega)).trans hDa
  clear hDa
  have hDa := hDa'
  clear hDa'
  have hCb' := (hx.cell (p := ⟨w1.heap.size + 1, 0, none⟩) (show w1.heap.size + 1 < w15.heap.size by omega)).trans hCb
  clear hCb
  have hCb := hCb'
  clear hCb'
  have hDb' := (hx.cell (p := ⟨w1.heap.size + 1, 1, none⟩) (show w1.heap.size + 1 < w15.heap.size by omega)).trans hDb
  clear hDb
  have hDb := hDb'
  clear hDb'
  have hR' := hR.below (hx.mono (show w4.heap.size ≤ w15.heap.size by omega))
  clear hR
  have hR := hR'
  clear hR'
  have hP' := hP.below (hx.mono (show w4.heap.size ≤ w15.heap.size by omega))
  clear hP
  have hP := hP'
  clear hP'
  have hXw5' := (hx.cell (p := ⟨w4.heap.size, 0, none⟩) (show w4.heap.size < w15.heap.size by omega)).trans hXw5
  clear hXw5
  have hXw5 := hXw5'
  clear hXw5'
  have hYw5' := (hx.cell (p := ⟨w4.heap.size, 1, none⟩) (show w4.heap.size < w15.heap.size by omega)).trans hYw5
  clear hYw5
  have hYw5 := hYw5'
  clear hYw5'
  have hXw8' := (hx.cell (p := ⟨w7.heap.size, 0, none⟩) (show w7.heap.size < w15.heap.size by omega)).trans hXw8
  clear hXw8
  have hXw8 := hXw8'
  clear hXw8'
  have hXw11' := (hx.cell (p := ⟨w10.heap.size, 0, none⟩) (show w10.heap.size < w15.heap.size by omega)).trans hXw11
  clear hXw11
  have hXw11 := hXw11'
  clear hXw11'
  have hXw14' := (hx.cell (p := ⟨w13.heap.size, 0, none⟩) (show w13.heap.size < w15.heap.size by omega)).trans hXw14
  clear hXw14
  have hXw14 := hXw14'
  clear hXw14'
  clear hx
  go_upto_region 8 with fail
  obtain ⟨hx1, hx, hy⟩ := one_allocL w16 #[.slice Aow16 0 cow16, .slice Apw16 0 cpw16] 51
  generalize w16.alloc (.cells #[.slice Aow16 0 cow16, .slice Apw16 0 cpw16] 51) = w17 at *
  have gw17 : w16.heap.size < w17.heap.size := by omega
  clear hy
  have hzw17 : w16.heap.size ≤ w17.heap.size := hx.size
  have hB' := hB.trans (hx.mono (show w0.heap.size ≤ w16.heap.size by omega))
  clear hB
  have hB := hB'
  clear hB'
  have hIa' := (hIa.below hx).more hx.size
  clear hIa
  have hIa := hIa'
  clear hIa'
  have hCa' := (hx.cell (p := ⟨w0.heap.size + 1, 0, none⟩) (show w0.heap.size + 1 < w16.heap.size by omega)).trans hCa
  clear hCa
  have hCa := hCa'
  clear hCa'
  have hDa' := (hx.cell (p := ⟨w0.heap.size + 1, 1, none⟩) (show w0.heap.size + 1 < w16.heap.size by omega)).trans hDa
  clear hDa
  have hDa := hDa'
  clear hDa'
  have hCb' := (hx.cell (p := ⟨w1.heap.size + 1, 0, none⟩) (show w1.heap.size + 1 < w16.heap.size by omega)).trans hCb
  clear hCb
  have hCb := hCb'
  clear hCb'
  have hDb' := (hx.cell (p := ⟨w1.heap.size + 1, 1, none⟩) (show w1.heap.size + 1 < w16.heap.size by omega)).trans hDb
  clear hDb
  have hDb := hDb'
  clear hDb'
  have hR' := hR.below (hx.mono (show w4.heap.size ≤ w16.heap.size by omega))
  clear hR
  have hR := hR'
  clear hR'
  have hP' := hP.below (hx.mono (show w4.heap.size ≤ w16.heap.size by omega))
  clear hP
  have hP := hP'
  clear hP'
  have hXw5' := (hx.cell (p := ⟨w4.heap.size, 0, none⟩) (show w4.heap.size < w16.heap.size by omega)).trans hXw5
  clear hXw5
  have hXw5 := hXw5'
  clear hXw5'
  have hYw5' := (hx.cell (p := ⟨w4.heap.size, 1, none⟩) (show w4.heap.size < w16.heap.size by omega)).trans hYw5
  clear hYw5
  have hYw5 := hYw5'
  clear hYw5'
  have hXw8' := (hx.cell (p := ⟨w7.heap.size, 0, none⟩) (show w7.heap.size < w16.heap.size by omega)).trans hXw8
  clear hXw8
  have hXw8 := hXw8'
  clear hXw8'
  have hXw11' := (hx.cell (p := ⟨w10.heap.size, 0, none⟩) (show w10.heap.size < w16.heap.size by omega)).trans hXw11
  clear hXw11
  have hXw11 := hXw11'
  clear hXw11'
  have hXw14' := (hx.cell (p := ⟨w13.heap.size, 0, none⟩) (show w13.heap.size < w16.heap.size by omega)).trans hXw14
  clear hXw14
  have hXw14 := hXw14'
  clear hXw14'
  clear hx
  have hXw17 : w17.cell? ⟨w16.heap.size, 0, none⟩ = some (.slice Aow16 0 cow16) := by rw [blk_cell hx1]; rfl
  clear hx1
  go_wp2_with fail
  have hO := (show Objs w17 w17.heap.size none [] from fun h => by cases h)
  have hcall : Calls Try.prog 26 #[.slice none 0 0, .int .i64 0] w17 (Linked [] 0 w17) := link_Link _ _ _ _ _ hO (by decide) (by decide) (sizes_of k0_names)
  have Hcall := Lib.hid hcall
  clear hcall hO
  refine Hcall.out.mono ?_
  rintro e w18 ⟨vo, vp, r, L, P, rfl, hres, ho, hp, hx⟩
  obtain ⟨e0, eL, eP⟩ := linkRes_fun k0_link hres
  subst e0 eL eP
  clear hres Hcall
  obtain ⟨Aow18, cow18, rfl⟩ := ownsRow_form ho
  obtain ⟨Apw18, cpw18, rfl⟩ := ownsRow_form hp
  clear ho hp
  have hzw18 : w17.heap.size ≤ w18.heap.size := hx.size
  have hB' := hB.trans (hx.mono (show w0.heap.size ≤ w17.heap.size by omega))
  clear hB
  have hB := hB'
  clear hB'
  have hIa' := (hIa.below hx).more hx.size
  clear hIa
  have hIa := hIa'
  clear hIa'
  have hCa' := (hx.cell (p := ⟨w0.heap.size + 1, 0, none⟩) (show w0.heap.size + 1 < w17.heap.size by omega)).trans hCa
  clear hCa
  have hCa := hCa'
  clear hCa'
  have hDa' := (hx.cell (p := ⟨w0.heap.size + 1, 1, none⟩) (show w0.heap.size + 1 < w17.heap.size by omega)).trans hDa
  clear hDa
  have hDa := hDa'
  clear hDa'
  have hCb' := (hx.cell (p := ⟨w1.heap.size + 1, 0, none⟩) (show w1.heap.size + 1 < w17.heap.size by omega)).trans hCb
  clear hCb
  have hCb := hCb'
  clear hCb'
  have hDb' := (hx.cell (p := ⟨w1.heap.size + 1, 1, none⟩) (show w1.heap.size + 1 < w17.heap.size by omega)).trans hDb
  clear hDb
  have hDb := hDb'
  clear hDb'
  have hR' := hR.below (hx.mono (show w4.heap.size ≤ w17.heap.size by omega))
  clear hR
  have hR := hR'
  clear hR'
  have hP' := hP.below (hx.mono (show w4.heap.size ≤ w17.heap.size by omega))
  clear hP
  have hP := hP'
  clear hP'
  have hXw5' := (hx.cell (p := ⟨w4.heap.size, 0, none⟩) (show w4.heap.size < w17.heap.size by omega)).trans hXw5
  clear hXw5
  have hXw5 := hXw5'
  clear hXw5'
  have hYw5' := (hx.cell (p := ⟨w4.heap.size, 1, none⟩) (show w4.heap.size < w17.heap.size by omega)).trans hYw5
  clear hYw5
  have hYw5 := hYw5'
  clear hYw5'
  have hXw8' := (hx.cell (p := ⟨w7.heap.size, 0, none⟩) (show w7.heap.size < w17.heap.size by omega)).trans hXw8
  clear hXw8
  have hXw8 := hXw8'
  clear hXw8'
  have hXw11' := (hx.cell (p := ⟨w10.heap.size, 0, none⟩) (show w10.heap.size < w17.heap.size by omega)).trans hXw11
  clear hXw11
  have hXw11 := hXw11'
  clear hXw11'
  have hXw14' := (hx.cell (p := ⟨w13.heap.size, 0, none⟩) (show w13.heap.size < w17.heap.size by omega)).trans hXw14
  clear hXw14
  have hXw14 := hXw14'
  clear hXw14'
  have hXw17' := (hx.cell (p := ⟨w16.heap.size, 0, none⟩) (show w16.heap.size < w17.heap.size by omega)).trans hXw17
  clear hXw17
  have hXw17 := hXw17'
  clear hXw17'
  clear hx
  go_upto_region 9 with fail
  obtain ⟨hx1, hx, hy⟩ := one_allocL w18 #[.slice Aow18 0 cow18, .slice Apw18 0 cpw18] 51
  generalize w18.alloc (.cells #[.slice Aow18 0 cow18, .slice Apw18 0 cpw18] 51) = w19 at *
  have gw19 : w18.heap.size < w19.heap.size := by omega
  clear hy
  have hzw19 : w18.heap.size ≤ w19.heap.size := hx.size
  have hB' := hB.trans (hx.mono (show w0.heap.size ≤ w18.heap.size by omega))
  clear hB
  have hB := hB'
  clear hB'
  have hIa' := (hIa.below hx).more hx.size
  clear hIa
  have hIa := hIa'
  clear hIa'
  have hCa' := (hx.cell (p := ⟨w0.heap.size + 1, 0, none⟩) (show w0.heap.size + 1 < w18.heap.size by omega)).trans hCa
  clear hCa
  have hCa := hCa'
  clear hCa'
  have hDa' := (hx.cell (p := ⟨w0.heap.size + 1, 1, none⟩) (show w0.heap.size + 1 < w18.heap.size by omega)).trans hDa
  clear hDa
  have hDa := hDa'
  clear hDa'
  have hCb' := (hx.cell (p := ⟨w1.heap.size + 1, 0, none⟩) (show w1.heap.size + 1 < w18.heap.size by omega)).trans hCb
  clear hCb
  have hCb := hCb'
  clear hCb'
  have hDb' := (hx.cell (p := ⟨w1.heap.size + 1, 1, none⟩) (show w1.heap.size + 1 < w18.heap.size by omega)).trans hDb
  clear hDb
  have hDb := hDb'
  clear hDb'
  have hR' := hR.below (hx.mono (show w4.heap.size ≤ w18.heap.size by omega))
  clear hR
  have hR := hR'
  clear hR'
  have hP' := hP.below (hx.mono (show w4.heap.size ≤ w18.heap.size by omega))
  clear hP
  have hP := hP'
  clear hP'
  have hXw5' := (hx.cell (p := ⟨w4.heap.size, 0, none⟩) (show w4.heap.size < w18.heap.size by omega)).trans hXw5
  clear hXw5
  have hXw5 := hXw5'
  clear hXw5'
  have hYw5' := (hx.cell (p := ⟨w4.heap.size, 1, none⟩) (show w4.heap.size < w18.heap.size by omega)).trans hYw5
  clear hYw5
  have hYw5 := hYw5'
  clear hYw5'
  have hXw8' := (hx.cell (p := ⟨w7.heap.size, 0, none⟩) (show w7.heap.size < w18.heap.size by omega)).trans hXw8
  clear hXw8
  have hXw8 := hXw8'
  clear hXw8'
  have hXw11' := (hx.cell (p := ⟨w10.heap.size, 0, none⟩) (show w10.heap.size < w18.heap.size by omega)).trans hXw11
  clear hXw11
  have hXw11 := hXw11'
  clear hXw11'
  have hXw14' := (hx.cell (p := ⟨w13.heap.size, 0, none⟩) (show w13.heap.size < w18.heap.size by omega)).trans hXw14
  clear hXw14
  have hXw14 := hXw14'
  clear hXw14'
  have hXw17' := (hx.cell (p := ⟨w16.heap.size, 0, none⟩) (show w16.heap.size < w18.heap.size by omega)).trans hXw17
  clear hXw17
  have hXw17 := hXw17'
  clear hXw17'
  clear hx
  have hXw19 : w19.cell? ⟨w18.heap.size, 0, none⟩ = some (.slice Aow18 0 cow18) := by rw [blk_cell hx1]; rfl
  clear hx1
  go_wp2_with fail
  have hcall : Calls Try.prog 30 #[.agg #[.slice Aow4 2 cow4, .slice Apw4 1 cpw4], .string ⟨#[120]⟩] w19 (FindPost [(⟨#[121]⟩, 1)] ⟨#[120]⟩ w19) := link_Find (.bool true) _ _ _ _ _ _ _ _ (hP.more (by omega)) (by decide)
  have Hcall := Lib.hid hcall
  clear hcall
  refine Hcall.out.mono ?_
  rintro e w20 ⟨rfl, hx⟩
  rw [kab_find]
  clear Hcall
  have hzw20 : w19.heap.size ≤ w20.heap.size := hx.size
  have hB' := hB.trans (hx.mono (show w0.heap.size ≤ w19.heap.size by omega))
  clear hB
  have hB := hB'
  clear hB'
  have hIa' := (hIa.below hx).more hx.size
  clear hIa
  have hIa := hIa'
  clear hIa'
  have hCa' := (hx.cell (p := ⟨w0.heap.size + 1, 0, none⟩) (show w0.heap.size + 1 < w19.heap.size by omega)).trans hCa
  clear hCa
  have hCa := hCa'
  clear hCa'
  have hDa' := (hx.cell (p := ⟨w0.heap.size + 1, 1, none⟩) (show w0.heap.size + 1 < w19.heap.size by omega)).trans hDa
  clear hDa
  have hDa := hDa'
  clear hDa'
  have hCb' := (hx.cell (p := ⟨w1.heap.size + 1, 0, none⟩) (show w1.heap.size + 1 < w19.heap.size by omega)).trans hCb
  clear hCb
  have hCb := hCb'
  clear hCb'
  have hDb' := (hx.cell (p := ⟨w1.heap.size + 1, 1, none⟩) (show w1.heap.size + 1 < w19.heap.size by omega)).trans hDb
  clear hDb
  have hDb := hDb'
  clear hDb'
  have hR' := hR.below (hx.mono (show w4.heap.size ≤ w19.heap.size by omega))
  clear hR
  have hR := hR'
  clear hR'
  have hP' := hP.below (hx.mono (show w4.heap.size ≤ w19.heap.size by omega))
  clear hP
  have hP := hP'
  clear hP'
  have hXw5' := (hx.cell (p := ⟨w4.heap.size, 0, none⟩) (show w4.heap.size < w19.heap.size by omega)).trans hXw5
  clear hXw5
  have hXw5 := hXw5'
  clear hXw5'
  have hYw5' := (hx.cell (p := ⟨w4.heap.size, 1, none⟩) (show w4.heap.size < w19.heap.size by omega)).trans hYw5
  clear hYw5
  have hYw5 := hYw5'
  clear hYw5'
  have hXw8' := (hx.cell (p := ⟨w7.heap.size, 0, none⟩) (show w7.heap.size < w19.heap.size by omega)).trans hXw8
  clear hXw8
  have hXw8 := hXw8'
  clear hXw8'
  have hXw11' := (hx.cell (p := ⟨w10.heap.size, 0, none⟩) (show w10.heap.size < w19.heap.size by omega)).trans hXw11
  clear hXw11
  have hXw11 := hXw11'
  clear hXw11'
  have hXw14' := (hx.cell (p := ⟨w13.heap.size, 0, none⟩) (show w13.heap.size < w19.heap.size by omega)).trans hXw14
  clear hXw14
  have hXw14 := hXw14'
  clear hXw14'
  have hXw17' := (hx.cell (p := ⟨w16.heap.size, 0, none⟩) (show w16.heap.size < w19.heap.size by omega)).trans hXw17
  clear hXw17
  have hXw17 := hXw17'
  clear hXw17'
  have hXw19' := (hx.cell (p := ⟨w18.heap.size, 0, none⟩) (show w18.heap.size < w19.heap.size by omega)).trans hXw19
  clear hXw19
  have hXw19 := hXw19'
  clear hXw19'
  clear hx
  obtain ⟨b1, o1, hA1, hb1, hc1⟩ := reads_at hR (k := 0) (v := .int .u32 4) rfl
  obtain ⟨b2, o2, hA2, hb2, hc2⟩ := reads_at hR (k := 1) (v := .int .u32 1) rfl
  rw [hA1] at hA2
  cases hA2
  subst hA1
  rw [Nat.add_zero] at hc1
  go_wp2_with fail
  refine (law4_works _).mono ?_
  rintro e w' ⟨rfl, hx⟩
  go_wp2_with fail
  go_ret
  exact ⟨rfl, hB.trans (hx.mono (by omega))⟩

end Go.Proofs.Ytbgdomnalimjnaa
