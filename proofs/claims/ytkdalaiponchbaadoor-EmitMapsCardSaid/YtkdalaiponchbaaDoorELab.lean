/- Labels: walks of emit.Label, outer, inner, own, and of pennantref24's digits and labels. -/
import Derived.Test.YtkdalaiponchbaaDoorESpec
import Derived.Test.YtkdalaiponchbaaDoorOwn
import Derived.Test.YtkdalaiponchbaaDoorProg
import Derived.Test.YtkdalaiponchbaaDoorShelf
import Derived.Lib.AppendIntMem
import Derived.Lib.SmallJoins
import Derived.Laws.BytesArg
import Derived.Deep.RegionWith
import Derived.Deep.DeepCutAuto
set_option linter.unusedVariables false
set_option linter.unusedSimpArgs false
set_option linter.unusedSectionVars false
namespace Go.Proofs.YtkdalaiponchbaaDoor
open Go.RowKit

/-- What the listed variable holds. -/
structure LVE (w : World) : Prop where
  tab : Lib.TabIs Tryd.prog w "internal/strconv.uint64pow10" .u64 Lib.pow10Tab
  size : 3 ≤ w.heap.size
theorem pow_named : Tryd.prog.globalNamed "internal/strconv.uint64pow10" = some 0 := by kernel_rfl
theorem LVE.keep {w w' : World} (h : LVE w) {B : Nat} (hb : Below B w w') (hB : 3 ≤ B) : LVE w' := by
  refine ⟨?_, Nat.le_trans h.size hb.size⟩
  have h1 := h.tab
  unfold Lib.TabIs World.var? at h1 ⊢
  rw [pow_named] at h1 ⊢
  simp only [Option.bind_some] at h1 ⊢
  rw [hb.block 0 (by omega)]
  exact h1
theorem LVE.on {w w' : World} (h : LVE w) (hb : Below w.heap.size w w') : LVE w' := h.keep hb h.size

def I64 (n : Int) : Prop := -9223372036854775808 ≤ n ∧ n ≤ 9223372036854775807
theorem e_Itoa (n : Int) (h : I64 n) (w : World) (hL : LVE w) :
    Calls Tryd.prog 28 #[.int .i64 n] w fun e w' => e = .returned (.string ⟨(S.itoa n).toArray⟩) ∧ Below w.heap.size w w' := by
  obtain ⟨h0, h1⟩ := h
  refine (Tryd.strconv_Itoa n h0 h1 w hL.tab).mono ?_
  rintro e w' ⟨rfl, k, os, rfl⟩
  refine ⟨by rw [itoa_eq (by omega)], ?_⟩
  exact Lib.below_grow _ _ (Nat.le_refl _) _ _

theorem digF_len_all : ∀ (f u : Nat), (S.digF f u).length ≤ f + 1
  | 0, u => by simp [S.digF]
  | f + 1, u => by
    simp only [S.digF]
    split
    · simp
    · have := digF_len_all f (u / 10)
      rw [List.length_append]
      simp
      omega
theorem itoa_len (n : Int) : (S.itoa n).length ≤ 22 := by
  unfold S.itoa
  have h1 := digF_len_all 20 n.natAbs
  have h2 := digF_len_all 20 n.toNat
  split
  · simp; omega
  · omega
theorem str_app (a b : List UInt8) : (⟨a.toArray⟩ : ByteArray) ++ ⟨b.toArray⟩ = ⟨(a ++ b).toArray⟩ := by
  apply ByteArray.ext
  apply Array.toList_inj.1
  rw [Go.Joins.data_append]
theorem ret_str {a b : ByteArray} (h : a = b) : Ending.returned (.string a) = .returned (.string b) := by rw [h]

theorem e_Label (n : Int) (h : I64 n) (w : World) (hL : LVE w) : Calls Tryd.prog 15 #[.int .i64 n] w fun e w' => e = .returned (.string (S.rt n)) ∧ Below w.heap.size w w' := by
  have Hs := Lib.hid (str_app [114, 116] (S.itoa n))
  have hl := itoa_len n
  go_enter Tryd.func15, Tryd.ntmps15
  go_wp2_with fail
  refine (e_Itoa n h w hL).mono ?_
  rintro e w2 ⟨rfl, hb⟩
  have Hr := Lib.hid (show S.rt n = ⟨([114, 116] ++ S.itoa n).toArray⟩ from rfl)
  generalize S.itoa n = l at *
  go_wp2_with fail
  go_ret
  exact ⟨by rw [Hr.out]; exact ret_str Hs.out, hb⟩
theorem e_own (n : Int) (h : I64 n) (w : World) (hL : LVE w) : Calls Tryd.prog 25 #[.int .i64 n] w fun e w' => e = .returned (.string (S.own n)) ∧ Below w.heap.size w w' := by
  have Hs := Lib.hid (str_app [46, 108] (S.itoa n))
  have hl := itoa_len n
  go_enter Tryd.func25, Tryd.ntmps25
  go_wp2_with fail
  refine (e_Itoa n h w hL).mono ?_
  rintro e w2 ⟨rfl, hb⟩
  have Hr := Lib.hid (show S.own n = ⟨([46, 108] ++ S.itoa n).toArray⟩ from rfl)
  generalize S.itoa n = l at *
  go_wp2_with fail
  go_ret
  exact ⟨by rw [Hr.out]; exact ret_str Hs.out, hb⟩
theorem e_outer (n : Int) (h : I64 n) (w : World) (hL : LVE w) : Calls Tryd.prog 53 #[.int .i64 n] w fun e w' => e = .returned (.string (S.outer n)) ∧ Below w.heap.size w w' := by
  have Hs := Lib.hid (str_app [102] (S.itoa n))
  have hl := itoa_len n
  go_enter Tryd.func53, Tryd.ntmps53
  go_wp2_with fail
  refine (e_Itoa n h w hL).mono ?_
  rintro e w2 ⟨rfl, hb⟩
  have Hr := Lib.hid (show S.outer n = ⟨([102] ++ S.itoa n).toArray⟩ from rfl)
  generalize S.itoa n = l at *
  go_wp2_with fail
  go_ret
  exact ⟨by rw [Hr.out]; exact ret_str Hs.out, hb⟩
theorem e_inner (n : Int) (h : I64 n) (w : World) (hL : LVE w) : Calls Tryd.prog 55 #[.int .i64 n] w fun e w' => e = .returned (.string (S.inner n)) ∧ Below w.heap.size w w' := by
  have Hs := Lib.hid (str_app [107] (S.itoa n))
  have hl := itoa_len n
  go_enter Tryd.func55, Tryd.ntmps55
  go_wp2_with fail
  refine (e_Itoa n h w hL).mono ?_
  rintro e w2 ⟨rfl, hb⟩
  have Hr := Lib.hid (show S.inner n = ⟨([107] ++ S.itoa n).toArray⟩ from rfl)
  generalize S.itoa n = l at *
  go_wp2_with fail
  go_ret
  exact ⟨by rw [Hr.out]; exact ret_str Hs.out, hb⟩

/-! ### The document's digits -/
theorem itoa_small {n : Int} (h : 0 ≤ n ∧ n < 10) : S.itoa n = [UInt8.ofNat (48 + n.toNat)] := by
  rw [itoa_eq (by omega)]
  unfold Lib.itoa
  rw [if_neg (by omega), Lib.decDigits_one (by omega)]
theorem itoa_neg {n : Int} (h : -10000000000000000000 < n ∧ n < 0) : S.itoa n = 45 :: S.itoa (-n) := by
  rw [itoa_eq (by omega), itoa_eq (by omega)]
  unfold Lib.itoa
  rw [if_pos (by omega), if_neg (by omega), show n.natAbs = (-n).toNat by omega]
theorem itoa_big {n : Int} (h : 10 ≤ n ∧ n < 10000000000000000000) : S.itoa n = S.itoa (n / 10) ++ S.itoa (n % 10) := by
  rw [itoa_eq (by omega), itoa_eq (by omega), itoa_small (by omega)]
  unfold Lib.itoa
  rw [if_neg (by omega), if_neg (by omega)]
  conv => lhs; rw [Lib.decDigits, dif_neg (by omega)]
  rw [show n.toNat / 10 = (n / 10).toNat by omega, show n.toNat % 10 = (n % 10).toNat by omega]
theorem one_allocN (w : World) (cs : Array Value) (t : TypeId) : (w.alloc (.cells cs t)).heap[w.heap.size]? = some (.cells cs t (0, 0)) ∧ Below w.heap.size w (w.alloc (.cells cs t)) ∧ (w.alloc (.cells cs t)).heap.size = w.heap.size + 1 :=
  ⟨heap_alloc_new w _, (Below.refl _ _).alloc (Nat.le_refl _) _, by simp⟩
theorem conv_one (w : World) (c : Int) : (convert 89 9 (.slice (some ⟨w.heap.size, 0, none⟩) 1 1)).run Tryd.prog (w.alloc (.cells #[.int .u8 c] 5)) = .ok (.string ⟨#[UInt8.ofNat c.toNat]⟩) (w.alloc (.cells #[.int .u8 c] 5)) := by
  refine run_convert_bytes_arg _ 89 5 Tryd.underlying89 Tryd.underlying5 w.heap.size 0 1 1 [c] rfl (fun i hi => ?_) 9 Tryd.underlying9
  rw [cell_of_row _ _ _ _ _ (0, 0) (one_allocN w #[.int .u8 c] 5).1]
  have : i = 0 := by omega
  subst this
  rfl
theorem conv_at (w : World) (b : Nat) (c : Int) (h : w.cell? ⟨b, 0, none⟩ = some (.int .u8 c)) : (convert 89 9 (.slice (some ⟨b, 0, none⟩) 1 1)).run Tryd.prog w = .ok (.string ⟨#[UInt8.ofNat c.toNat]⟩) w := by
  refine run_convert_bytes_arg _ 89 5 Tryd.underlying89 Tryd.underlying5 b 0 1 1 [c] rfl (fun i hi => ?_) 9 Tryd.underlying9
  have : i = 0 := by omega
  subst this
  exact h

end Go.Proofs.YtkdalaiponchbaaDoor
