/- Walks of the law's items and of awake. -/
import Derived.Test.YtfdmbjkofchhiaaLawB
import Derived.Test.YtfdmbjkofchhiaaAsmChk
set_option linter.unusedVariables false
set_option linter.unusedSimpArgs false
set_option linter.unusedSectionVars false
namespace Go.Proofs.Ytfdmbjkofchhiaa
open Go.RowKit

def itemV (x : S.Item) : Value := .agg #[.int .i64 x.kind, .int .i64 x.inst.op, .int .i64 x.inst.d, .int .i64 x.inst.a, .int .i64 x.inst.b, .int .i64 x.inst.imm, .string x.label, .int .u32 x.word]
def itemCells (x : S.Item) : List Value := [.int .i64 x.kind, .int .i64 x.inst.op, .int .i64 x.inst.d, .int .i64 x.inst.a, .int .i64 x.inst.b, .int .i64 x.inst.imm, .string x.label, .int .u32 x.word]

theorem law_label (s : ByteArray) (w : World) : Calls Try.prog 19 #[.string s] w
    fun e w' => e = .returned (.agg #[.int .i64 2, .int .i64 0, .int .i64 0, .int .i64 0, .int .i64 0, .int .i64 0, .string s, .int .u32 0]) ∧ Below w.heap.size w w' := by
  go_enter Try.func19, Try.ntmps19
  go_wp2_with fail
  refine bodyPost_ret (v := .agg #[.int .i64 2, .int .i64 0, .int .i64 0, .int .i64 0, .int .i64 0, .int .i64 0, .string s, .int .u32 0]) (by simp [results, Try.results19, go_sem]) rfl ⟨rfl, ?_⟩
  exact (Below.refl _ _).alloc (Nat.le_refl _) _
theorem law_jump (d : Int) (s : ByteArray) (w : World) : Calls Try.prog 22 #[.int .i64 d, .string s] w
    fun e w' => e = .returned (.agg #[.int .i64 4, .int .i64 0, .int .i64 d, .int .i64 0, .int .i64 0, .int .i64 0, .string s, .int .u32 0]) ∧ Below w.heap.size w w' := by
  go_enter Try.func22, Try.ntmps22
  go_wp2_with fail
  refine bodyPost_ret (v := .agg #[.int .i64 4, .int .i64 0, .int .i64 d, .int .i64 0, .int .i64 0, .int .i64 0, .string s, .int .u32 0]) (by simp [results, Try.results22, go_sem]) rfl ⟨rfl, ?_⟩
  exact (Below.refl _ _).alloc (Nat.le_refl _) _
theorem law_branch (a b : Int) (s : ByteArray) (w : World) : Calls Try.prog 17 #[.int .i64 a, .int .i64 b, .string s] w
    fun e w' => e = .returned (.agg #[.int .i64 3, .int .i64 26, .int .i64 0, .int .i64 a, .int .i64 b, .int .i64 0, .string s, .int .u32 0]) ∧ Below w.heap.size w w' := by
  go_enter Try.func17, Try.ntmps17
  go_wp2_with fail
  refine bodyPost_ret (v := .agg #[.int .i64 3, .int .i64 26, .int .i64 0, .int .i64 a, .int .i64 b, .int .i64 0, .string s, .int .u32 0]) (by simp [results, Try.results17, go_sem]) rfl ⟨rfl, ?_⟩
  exact (Below.refl _ _).alloc (Nat.le_refl _) _
theorem law_space (n : Int) (w : World) : Calls Try.prog 18 #[.int .u32 n] w
   fun e w' => e = .returned (.agg #[.int .i64 8, .int .i64 0, .int .i64 0, .int .i64 0, .int .i64 0, .int .i64 0, .string ⟨#[]⟩, .int .u32 n]) ∧ Below w.heap.size w w' := by
 go_enter Try.func18, Try.ntmps18
 go_wp2_with fail
 refine bodyPost_ret (v := .agg #[.int .i64 8, .int .i64 0, .int .i64 0, .int .i64 0, .int .i64 0, .int .i64 0, .string ⟨#[]⟩, .int .u32 n]) (by simp [results, Try.results18, go_sem]) rfl ⟨rfl, ?_⟩
 exact (Below.refl _ _).alloc (Nat.le_refl _) _

theorem flat_item (L : List S.Item) (i : Nat) (x : S.Item) (h : L[i]? = some x) (j : Nat) (hj : j < 8) : (L.flatMap itemCells)[i * 8 + j]? = (itemCells x)[j]? := by
  induction L generalizing i with
  | nil => simp at h
  | cons q L ih =>
    cases i with
    | zero =>
      simp only [List.getElem?_cons_zero, Option.some.injEq] at h
      subst h
      rw [List.flatMap_cons, List.getElem?_append_left (by simp [itemCells]; omega)]
      simp
    | succ i =>
      have h1 := ih i (by simpa using h)
      have e1 : (i + 1) * 8 + j = (itemCells q).length + (i * 8 + j) := by simp [itemCells]; omega
      rw [List.flatMap_cons, e1, List.getElem?_append_right (by omega), Nat.add_sub_cancel_left]
      exact h1

/-- A literal list of items in a block. -/
theorem Items.lit {w : World} {b B : Nat} {cs : Array Value} {t : TypeId} {xs : List S.Item} (h : w.heap[b]? = some (.cells cs t (0, 0))) (hcs : cs.toList = xs.flatMap itemCells) (hb : b < B) (hw : ∀ x ∈ xs, 0 ≤ x.word ∧ x.word ≤ 4294967295) :
    Items w B (some ⟨b, 0, none⟩) xs := fun _ => by
  refine ⟨b, 0, rfl, hb, fun i x hx => ?_⟩
  have hc : ∀ j, j < 8 → w.cell? ⟨b, 0 + i * 8 + j, none⟩ = (itemCells x)[j]? := by
    intro j hj
    rw [blk_cell h, ← flat_item xs i x hx j hj, ← hcs]
    simp
  have hm := hw x (List.mem_of_getElem? hx)
  exact ⟨hc 0 (by omega), hc 1 (by omega), hc 2 (by omega), hc 3 (by omega), hc 4 (by omega), hc 5 (by omega), hc 6 (by omega), hc 7 (by omega), hm.1, hm.2⟩
theorem Reads.lit {w : World} {b B : Nat} {cs : Array Value} {t : TypeId} {L : List Value} (h : w.heap[b]? = some (.cells cs t (0, 0))) (hcs : cs.toList = L) (hb : b < B) : Reads w B (some ⟨b, 0, none⟩) L := fun _ => by
  refine ⟨b, 0, rfl, hb, fun i x hx => ?_⟩
  rw [blk_cell h, Nat.zero_add, ← hx, ← hcs]
  simp
theorem two_alloc (w : World) (cs ds : Array Value) (t u : TypeId) :
    ((w.alloc (.cells cs t)).alloc (.cells ds u)).heap[w.heap.size]? = some (.cells cs t (0, 0)) ∧ ((w.alloc (.cells cs t)).alloc (.cells ds u)).heap[w.heap.size + 1]? = some (.cells ds u (0, 0)) ∧
      Below w.heap.size w ((w.alloc (.cells cs t)).alloc (.cells ds u)) ∧ ((w.alloc (.cells cs t)).alloc (.cells ds u)).heap.size = w.heap.size + 2 := by
  refine ⟨(Below.heap_alloc _ _ _ (by simp)).trans (heap_alloc_new _ _), ?_, ((Below.refl _ _).alloc (Nat.le_refl _) _).alloc (by simp) _, by simp⟩
  have := heap_alloc_new (w.alloc (.cells cs t)) (.cells ds u)
  simpa using this

set_option maxRecDepth 100000 in
set_option maxHeartbeats 2000000 in
theorem law_awake (w : World) : Calls Try.prog 8 #[] w fun e w' => e = .returned (.bool true) ∧ Below w.heap.size w w' := by
  go_enter Try.func8, Try.ntmps8
  go_wp2_with fail
  refine (law_label _ _).mono ?_
  rintro e w1 ⟨rfl, hb1⟩
  go_wp2_with fail
  refine (law_jump _ _ _).mono ?_
  rintro e w2 ⟨rfl, hb2⟩
  have hz1 := hb1.size
  have hb12 := hb1.trans (hb2.mono hz1)
  have hz2 := hb12.size
  go_wp2_with fail
  obtain ⟨x1, x2, x3, x4⟩ := two_alloc w2 #[.int .i64 2, .int .i64 0, .int .i64 0, .int .i64 0, .int .i64 0, .int .i64 0, .string ⟨#[97]⟩, .int .u32 0, .int .i64 4, .int .i64 0, .int .i64 0, .int .i64 0, .int .i64 0, .int .i64 0, .string ⟨#[97]⟩, .int .u32 0] #[.int .u32 2149580799] 44 42
  generalize (w2.alloc (.cells #[.int .i64 2, .int .i64 0, .int .i64 0, .int .i64 0, .int .i64 0, .int .i64 0, .string ⟨#[97]⟩, .int .u32 0, .int .i64 4, .int .i64 0, .int .i64 0, .int .i64 0, .int .i64 0, .int .i64 0, .string ⟨#[97]⟩, .int .u32 0] 44)).alloc (.cells #[.int .u32 2149580799] 42) = w3 at *
  have hcall : Calls Try.prog 20 #[.slice (some ⟨w2.heap.size, 0, none⟩) 2 2, .int .i64 5, .int .i64 1, .int .i64 5, .slice (some ⟨w2.heap.size + 1, 0, none⟩) 1 1] w3 fun e w' => e = .returned (.bool true) ∧ Below w3.heap.size w3 w' :=
    law_begins _ _ 2 1 S.ex1 5 1 5 [2149580799] w3 (Items.lit x1 rfl (by omega) (by simp [S.ex1])) (by decide) (labs_of ex1_labs) (Reads.lit x2 rfl (by omega)) [0, 1] ex1_res
      (by rw [ex1_out]; rfl) ⟨#[97]⟩ (by rw [ex1_places]; rfl) (by rw [ex1_out]; exact fun _ _ h => h) (by rw [ex1_out]; decide)
  have Hcall := Lib.hid hcall
  clear hcall x1 x2
  refine Hcall.out.mono ?_
  rintro e w4 ⟨rfl, hb4⟩
  have hb14 := hb12.trans ((x3.trans (hb4.mono (by omega))).mono hz2)
  have hz4 := hb14.size
  clear Hcall x3 x4 hb4
  go_wp2_with fail
  refine (law_branch _ _ _ _).mono ?_
  rintro e w5 ⟨rfl, hb5⟩
  go_wp2_with fail
  refine (law_label _ _).mono ?_
  rintro e w6 ⟨rfl, hb6⟩
  have hz5 := hb5.size
  have hb16 := hb14.trans ((hb5.trans (hb6.mono hz5)).mono hz4)
  have hz6 := hb16.size
  go_wp2_with fail
  obtain ⟨x1, x2, x3, x4⟩ := two_alloc w6 #[.int .i64 3, .int .i64 26, .int .i64 0, .int .i64 1, .int .i64 2, .int .i64 0, .string ⟨#[98]⟩, .int .u32 0, .int .i64 6, .int .i64 0, .int .i64 0, .int .i64 0, .int .i64 0, .int .i64 0, .string ⟨#[]⟩, .int .u32 7, .int .i64 2, .int .i64 0, .int .i64 0, .int .i64 0, .int .i64 0, .int .i64 0, .string ⟨#[98]⟩, .int .u32 0] #[.int .u32 1747058689, .int .u32 7] 44 42
  generalize (w6.alloc (.cells #[.int .i64 3, .int .i64 26, .int .i64 0, .int .i64 1, .int .i64 2, .int .i64 0, .string ⟨#[98]⟩, .int .u32 0, .int .i64 6, .int .i64 0, .int .i64 0, .int .i64 0, .int .i64 0, .int .i64 0, .string ⟨#[]⟩, .int .u32 7, .int .i64 2, .int .i64 0, .int .i64 0, .int .i64 0, .int .i64 0, .int .i64 0, .string ⟨#[98]⟩, .int .u32 0] 44)).alloc (.cells #[.int .u32 1747058689, .int .u32 7] 42) = w7 at *
  have hcall : Calls Try.prog 20 #[.slice (some ⟨w6.heap.size, 0, none⟩) 3 3, .int .i64 0, .int .i64 2, .int .i64 2, .slice (some ⟨w6.heap.size + 1, 0, none⟩) 2 2] w7 fun e w' => e = .returned (.bool true) ∧ Below w7.heap.size w7 w' :=
    law_begins _ _ 3 2 S.ex2 0 2 2 [1747058689, 7] w7 (Items.lit x1 rfl (by omega) (by simp [S.ex2])) (by decide) (labs_of ex2_labs) (Reads.lit x2 rfl (by omega)) [1, 0, 0] ex2_res
      (by rw [ex2_out]; rfl) ⟨#[98]⟩ (by rw [ex2_places]; rfl) (by rw [ex2_out]; exact fun _ _ h => h) (by rw [ex2_out]; decide)
  have Hcall := Lib.hid hcall
  clear hcall x1 x2
  refine Hcall.out.mono ?_
  rintro e w8 ⟨rfl, hb8⟩
  have hb18 := hb16.trans ((x3.trans (hb8.mono (by omega))).mono hz6)
  clear Hcall x3 x4 hb8
  go_wp2_with fail
  go_ret
  exact ⟨rfl, hb18⟩

end Go.Proofs.Ytfdmbjkofchhiaa
