/- EMkB, ELab: joined.  Labels: walks of emit.Label, outer, inner, own, and of pennantref24's digits and labels. -/
import Derived.Test.YtidhglleeccpoaaDoorEMak
import Derived.Test.YtidhglleeccpoaaDoorLay
import Derived.Test.YtidhglleeccpoaaDoorOwn
import Derived.Test.YtidhglleeccpoaaDoorProg
import Derived.Test.YtidhglleeccpoaaDoorShelf
import Derived.Lib.AppendIntMem
import Derived.Lib.SmallJoins
import Derived.Laws.BytesArg
import Derived.Deep.RegionWith
import Derived.Deep.DeepCutAuto
section
set_option linter.unusedVariables false
set_option linter.unusedSimpArgs false
set_option linter.unusedSectionVars false
namespace Go.Proofs.YtidhglleeccpoaaDoor
open Go.RowKit

theorem mk_app {base mb : Nat} {wv : Value} {xs ys zs : List S.Item} {w : World} (h : MkAt base mb wv (xs ++ ys ++ zs) w) : MkAt base mb wv (xs ++ (ys ++ zs)) w := by rw [← List.append_assoc]; exact h

set_option maxRecDepth 100000 in
set_option maxHeartbeats 1000000 in
theorem mk_load (base mb : Nat) (wv : Value) (xs : List S.Item) (w : World) (h : MkAt base mb wv xs w) (hbw : base ≤ w.heap.size) (hl : xs.length ≤ 899999000) (d n : Int) (h0 : 0 ≤ n) (h1 : n ≤ 4294967295) :
    Calls Tryd.prog 36 #[.pointer (some ⟨mb, 0, none⟩), .int .i64 d, .int .u32 n] w (MkPost base mb wv xs (S.eload d n) w) := by
  by_cases c1 : n < 32768
  · have He := Lib.hid (show S.eload d n = [S.iInst 15 d 0 0 n] by unfold S.eload; rw [if_pos c1])
    have hw : IntKind.i32.wrap n = n := by rw [IntKind.wrap_i32]; omega
    go_enter Tryd.func36, Tryd.ntmps36
    go_wp2_with fail
    refine (mk_inst base mb wv xs w h hbw (by omega) 15 d 0 0 n).mono ?_
    rintro e w' ⟨rfl, h2, h3⟩
    go_wp2_with fail
    go_end0
    exact ⟨rfl, by rw [He.out]; exact h2, h3⟩
  · by_cases c2 : 4294934528 ≤ n
    · have He := Lib.hid (show S.eload d n = [S.iInst 15 d 0 0 (n - 4294967296)] by unfold S.eload; rw [if_neg c1, if_pos c2])
      have hw : IntKind.i32.wrap n = n - 4294967296 := by rw [IntKind.wrap_i32]; omega
      go_enter Tryd.func36, Tryd.ntmps36
      go_wp2_with fail
      refine (mk_inst base mb wv xs w h hbw (by omega) 15 d 0 0 (n - 4294967296)).mono ?_
      rintro e w' ⟨rfl, h2, h3⟩
      go_wp2_with fail
      go_end0
      exact ⟨rfl, by rw [He.out]; exact h2, h3⟩
    · have hm := u32_mask 16 n 65536 65535 rfl rfl (by omega) h0 (by omega)
      have hd0 : 0 ≤ n / 65536 := by omega
      have hd1 : n / 65536 ≤ 65535 := by omega
      have hm0 : 0 ≤ n % 65536 := by omega
      have hm1 : n % 65536 ≤ 65535 := by omega
      have hw : ∃ k, IntKind.i32.wrap n = k ∧ (k < -32768 ∨ 32767 < k) ∧ -2147483648 ≤ k ∧ k ≤ 2147483647 := ⟨_, rfl, by rw [IntKind.wrap_i32]; omega, by rw [IntKind.wrap_i32]; omega, by rw [IntKind.wrap_i32]; omega⟩
      obtain ⟨k, hk, hk2, hk3, hk4⟩ := hw
      by_cases c3 : n % 65536 = 0
      · have He := Lib.hid (show S.eload d n = [S.iInst 23 d 0 0 (n / 65536)] by unfold S.eload; rw [if_neg c1, if_neg c2, if_pos c3])
        rcases hk2 with hk2 | hk2
        all_goals
          go_enter Tryd.func36, Tryd.ntmps36
          go_wp2_with fail
          refine (mk_inst base mb wv xs w h hbw (by omega) 23 d 0 0 (n / 65536)).mono ?_
          rintro e w' ⟨rfl, h2, h3⟩
          go_wp2_with fail
          go_end0
          exact ⟨rfl, by rw [He.out]; exact h2, h3⟩
      · have He := Lib.hid (show S.eload d n = [S.iInst 23 d 0 0 (n / 65536), S.iInst 17 d d 0 (n % 65536)] by unfold S.eload; rw [if_neg c1, if_neg c2, if_neg c3])
        rcases hk2 with hk2 | hk2
        all_goals
          go_enter Tryd.func36, Tryd.ntmps36
          go_wp2_with fail
          refine (mk_inst base mb wv xs w h hbw (by omega) 23 d 0 0 (n / 65536)).mono ?_
          rintro e w' ⟨rfl, h2, h3⟩
          go_wp2_with fail
          refine (mk_inst base mb wv (xs ++ [S.iInst 23 d 0 0 (n / 65536)]) w' h2 (Nat.le_trans hbw h3.size) (by simp; omega) 17 d d 0 (n % 65536)).mono ?_
          rintro e w2 ⟨rfl, h4, h5⟩
          go_wp2_with fail
          go_end0
          exact ⟨rfl, by rw [He.out]; exact mk_app h4, h3.trans h5⟩

set_option maxRecDepth 100000 in
set_option maxHeartbeats 1000000 in
theorem mk_slot (base mb : Nat) (wv : Value) (xs : List S.Item) (w : World) (h : MkAt base mb wv xs w) (hbw : base ≤ w.heap.size) (hl : xs.length ≤ 899999000) (n : Int) (h0 : 0 ≤ n) (h1 : n ≤ 16777216) :
    Calls Tryd.prog 42 #[.pointer (some ⟨mb, 0, none⟩), .int .i64 n] w fun e w' => e = .returned (.tuple #[.int .i64 (S.eslot n).2.1, .int .i64 (S.eslot n).2.2]) ∧ MkAt base mb wv (xs ++ (S.eslot n).1) w' ∧ BK base w w' := by
  by_cases c1 : n < 1024
  · have He := Lib.hid (show S.eslot n = ([], 0, 32 + n) by unfold S.eslot; rw [if_pos c1])
    go_enter Tryd.func42, Tryd.ntmps42
    go_wp2_with fail
    go_ret2
    exact ⟨by rw [He.out]; rfl, by rw [He.out]; simpa using h, BK.refl _ _⟩
  · have hm : S.u32 (n - 1024) = n - 1024 := by unfold S.u32; omega
    have He := Lib.hid (show S.eslot n = ([S.iAddr 25 S.moreLab (n - 1024)], 25, 0) by unfold S.eslot; rw [if_neg c1, hm])
    have hw : IntKind.u32.wrap (n - 1024) = n - 1024 := by rw [IntKind.wrap_u32]; omega
    clear hm
    go_enter Tryd.func42, Tryd.ntmps42
    go_wp2_with fail
    refine (mk_one base mb wv xs (S.iAddr 25 S.moreLab (n - 1024)) w h hbw (by omega) (by simp [S.iAddr]; omega) (by simp [S.iAddr]; omega)).mono ?_
    rintro e w' ⟨rfl, h2, h3⟩
    go_wp2_with fail
    go_ret2
    exact ⟨by rw [He.out]; rfl, by rw [He.out]; exact h2, h3⟩

end Go.Proofs.YtidhglleeccpoaaDoor
end

section
set_option linter.unusedVariables false
set_option linter.unusedSimpArgs false
set_option linter.unusedSectionVars false
namespace Go.Proofs.YtidhglleeccpoaaDoor
open Go.RowKit

/-- What the listed variable holds. -/
structure LVE (w : World) : Prop where
  tab : Lib.TabIs Tryd.prog w "internal/strconv.uint64pow10" .u64 Lib.pow10Tab
  size : 3 ≤ w.heap.size
theorem pow_named : Tryd.prog.globalNamed "internal/strconv.uint64pow10" = some 0 := by kernel_rfl
theorem LVE.keep {w w' : World} (h : LVE w) {B : Nat} (hb : Below B w w') (hB : 3 ≤ B) : LVE w' := by
  refine ⟨?_, Nat.le_trans h.size hb.size⟩
  have h1 := h.tab
  unfold Lib.TabIs World.var? at h1 ⊢
  rw [pow_named] at h1 ⊢
  simp only [Option.bind_some] at h1 ⊢
  rw [hb.block 0 (by omega)]
  exact h1
theorem LVE.on {w w' : World} (h : LVE w) (hb : Below w.heap.size w w') : LVE w' := h.keep hb h.size

def I64 (n : Int) : Prop := -9223372036854775808 ≤ n ∧ n ≤ 9223372036854775807
theorem e_Itoa (n : Int) (h : I64 n) (w : World) (hL : LVE w) :
    Calls Tryd.prog 17 #[.int .i64 n] w fun e w' => e = .returned (.string ⟨(S.itoa n).toArray⟩) ∧ Below w.heap.size w w' := by
  obtain ⟨h0, h1⟩ := h
  refine (Tryd.strconv_Itoa n h0 h1 w hL.tab).mono ?_
  rintro e w' ⟨rfl, k, os, rfl⟩
  refine ⟨by rw [itoa_eq (by omega)], ?_⟩
  exact Lib.below_grow _ _ (Nat.le_refl _) _ _

theorem digF_len_all : ∀ (f u : Nat), (S.digF f u).length ≤ f + 1
  | 0, u => by simp [S.digF]
  | f + 1, u => by
    simp only [S.digF]
    split
    · simp
    · have := digF_len_all f (u / 10)
      rw [List.length_append]
      simp
      omega
theorem itoa_len (n : Int) : (S.itoa n).length ≤ 22 := by
  unfold S.itoa
  have h1 := digF_len_all 20 n.natAbs
  have h2 := digF_len_all 20 n.toNat
  split
  · simp; omega
  · omega
theorem str_app (a b : List UInt8) : (⟨a.toArray⟩ : ByteArray) ++ ⟨b.toArray⟩ = ⟨(a ++ b).toArray⟩ := by
  apply ByteArray.ext
  apply Array.toList_inj.1
  rw [Go.Joins.data_append]
theorem ret_str {a b : ByteArray} (h : a = b) : Ending.returned (.string a) = .returned (.string b) := by rw [h]

theorem e_Label (n : Int) (h : I64 n) (w : World) (hL : LVE w) : Calls Tryd.prog 23 #[.int .i64 n] w fun e w' => e = .returned (.string (S.rt n)) ∧ Below w.heap.size w w' := by
  have Hs := Lib.hid (str_app [114, 116] (S.itoa n))
  have hl := itoa_len n
  go_enter Tryd.func23, Tryd.ntmps23
  go_wp2_with fail
  refine (e_Itoa n h w hL).mono ?_
  rintro e w2 ⟨rfl, hb⟩
  have Hr := Lib.hid (show S.rt n = ⟨([114, 116] ++ S.itoa n).toArray⟩ from rfl)
  generalize S.itoa n = l at *
  go_wp2_with fail
  go_ret
  exact ⟨by rw [Hr.out]; exact ret_str Hs.out, hb⟩
theorem e_own (n : Int) (h : I64 n) (w : World) (hL : LVE w) : Calls Tryd.prog 14 #[.int .i64 n] w fun e w' => e = .returned (.string (S.own n)) ∧ Below w.heap.size w w' := by
  have Hs := Lib.hid (str_app [46, 108] (S.itoa n))
  have hl := itoa_len n
  go_enter Tryd.func14, Tryd.ntmps14
  go_wp2_with fail
  refine (e_Itoa n h w hL).mono ?_
  rintro e w2 ⟨rfl, hb⟩
  have Hr := Lib.hid (show S.own n = ⟨([46, 108] ++ S.itoa n).toArray⟩ from rfl)
  generalize S.itoa n = l at *
  go_wp2_with fail
  go_ret
  exact ⟨by rw [Hr.out]; exact ret_str Hs.out, hb⟩
theorem e_outer (n : Int) (h : I64 n) (w : World) (hL : LVE w) : Calls Tryd.prog 35 #[.int .i64 n] w fun e w' => e = .returned (.string (S.outer n)) ∧ Below w.heap.size w w' := by
  have Hs := Lib.hid (str_app [102] (S.itoa n))
  have hl := itoa_len n
  go_enter Tryd.func35, Tryd.ntmps35
  go_wp2_with fail
  refine (e_Itoa n h w hL).mono ?_
  rintro e w2 ⟨rfl, hb⟩
  have Hr := Lib.hid (show S.outer n = ⟨([102] ++ S.itoa n).toArray⟩ from rfl)
  generalize S.itoa n = l at *
  go_wp2_with fail
  go_ret
  exact ⟨by rw [Hr.out]; exact ret_str Hs.out, hb⟩
theorem e_inner (n : Int) (h : I64 n) (w : World) (hL : LVE w) : Calls Tryd.prog 37 #[.int .i64 n] w fun e w' => e = .returned (.string (S.inner n)) ∧ Below w.heap.size w w' := by
  have Hs := Lib.hid (str_app [107] (S.itoa n))
  have hl := itoa_len n
  go_enter Tryd.func37, Tryd.ntmps37
  go_wp2_with fail
  refine (e_Itoa n h w hL).mono ?_
  rintro e w2 ⟨rfl, hb⟩
  have Hr := Lib.hid (show S.inner n = ⟨([107] ++ S.itoa n).toArray⟩ from rfl)
  generalize S.itoa n = l at *
  go_wp2_with fail
  go_ret
  exact ⟨by rw [Hr.out]; exact ret_str Hs.out, hb⟩

/-! ### The document's digits -/
theorem itoa_small {n : Int} (h : 0 ≤ n ∧ n < 10) : S.itoa n = [UInt8.ofNat (48 + n.toNat)] := by
  rw [itoa_eq (by omega)]
  unfold Lib.itoa
  rw [if_neg (by omega), Lib.decDigits_one (by omega)]
theorem itoa_neg {n : Int} (h : -10000000000000000000 < n ∧ n < 0) : S.itoa n = 45 :: S.itoa (-n) := by
  rw [itoa_eq (by omega), itoa_eq (by omega)]
  unfold Lib.itoa
  rw [if_pos (by omega), if_neg (by omega), show n.natAbs = (-n).toNat by omega]
theorem itoa_big {n : Int} (h : 10 ≤ n ∧ n < 10000000000000000000) : S.itoa n = S.itoa (n / 10) ++ S.itoa (n % 10) := by
  rw [itoa_eq (by omega), itoa_eq (by omega), itoa_small (by omega)]
  unfold Lib.itoa
  rw [if_neg (by omega), if_neg (by omega)]
  conv => lhs; rw [Lib.decDigits, dif_neg (by omega)]
  rw [show n.toNat / 10 = (n / 10).toNat by omega, show n.toNat % 10 = (n % 10).toNat by omega]
theorem one_allocN (w : World) (cs : Array Value) (t : TypeId) : (w.alloc (.cells cs t)).heap[w.heap.size]? = some (.cells cs t (0, 0)) ∧ Below w.heap.size w (w.alloc (.cells cs t)) ∧ (w.alloc (.cells cs t)).heap.size = w.heap.size + 1 :=
  ⟨heap_alloc_new w _, (Below.refl _ _).alloc (Nat.le_refl _) _, by simp⟩
theorem conv_one (w : World) (c : Int) : (convert 69 9 (.slice (some ⟨w.heap.size, 0, none⟩) 1 1)).run Tryd.prog (w.alloc (.cells #[.int .u8 c] 5)) = .ok (.string ⟨#[UInt8.ofNat c.toNat]⟩) (w.alloc (.cells #[.int .u8 c] 5)) := by
  refine run_convert_bytes_arg _ 69 5 Tryd.underlying69 Tryd.underlying5 w.heap.size 0 1 1 [c] rfl (fun i hi => ?_) 9 Tryd.underlying9
  rw [cell_of_row _ _ _ _ _ (0, 0) (one_allocN w #[.int .u8 c] 5).1]
  have : i = 0 := by omega
  subst this
  rfl
theorem conv_at (w : World) (b : Nat) (c : Int) (h : w.cell? ⟨b, 0, none⟩ = some (.int .u8 c)) : (convert 69 9 (.slice (some ⟨b, 0, none⟩) 1 1)).run Tryd.prog w = .ok (.string ⟨#[UInt8.ofNat c.toNat]⟩) w := by
  refine run_convert_bytes_arg _ 69 5 Tryd.underlying69 Tryd.underlying5 b 0 1 1 [c] rfl (fun i hi => ?_) 9 Tryd.underlying9
  have : i = 0 := by omega
  subst this
  exact h

end Go.Proofs.YtidhglleeccpoaaDoor
end
