/- The machine of pennantref02: walk of New. -/
import Derived.Test.YtbgdomnalimjnaaMachW
set_option linter.unusedVariables false
set_option linter.unusedSimpArgs false
set_option linter.unusedSectionVars false
namespace Go.Proofs.Ytbgdomnalimjnaa
open Go.RowKit

def sizeOk (n : Nat) (size : Int) : Prop := 1 ≤ size ∧ size ≤ 335544320 ∧ (n : Int) ≤ size
/-- A machine whose words are laid so far, without input. -/
def partM (words : List Int) (size k : Nat) : S.Mach := ⟨List.replicate 32 0, words.take k ++ List.replicate (size - k) 0, 0, [], [], 0, 0, 0, 0⟩
theorem part_len {words : List Int} {size k : Nat} (hk : k ≤ words.length) (hs : k ≤ size) : (partM words size k).mem.length = size := by
  simp [partM]; omega
theorem part_set {words : List Int} {size k : Nat} (hk : k < words.length) (hs : words.length ≤ size) : (partM words size k).mem.set k (words.getD k 0) = (partM words size (k + 1)).mem := by
  show (words.take k ++ List.replicate (size - k) 0).set k (words.getD k 0) = words.take (k + 1) ++ List.replicate (size - (k + 1)) 0
  rw [List.set_append_right _ _ (by simp; omega)]
  have e1 : k - (words.take k).length = 0 := by simp; omega
  have e2 : size - k = (size - (k + 1)) + 1 := by omega
  have e3 : words.getD k 0 = words[k] := by simp [hk]
  rw [e1, e2, List.replicate_succ, List.set_cons_zero, e3, List.take_succ_eq_append_getElem hk, List.append_assoc]
  rfl
theorem part_ok {words : List Int} {size k : Nat} (hs : 1 ≤ size) (hk : k ≤ size) (hk' : k ≤ words.length) (hw : ∀ x ∈ words, 0 ≤ x ∧ x ≤ 4294967295) : (partM words size k).Ok := by
  have h := newM_ok (words := words.take k) (size := size) (input := []) hs (by rw [List.length_take]; omega) (fun x hx => hw x (List.mem_of_mem_take hx)) (fun x hx => by cases hx)
  have e : newM (words.take k) size [] = partM words size k := by
    have : (words.take k).length = k := by rw [List.length_take]; omega
    unfold newM partM
    rw [this]
  rw [← e]
  exact h
theorem RAt.given {w : World} {B p : Nat} {vm vo : Value} {c : Nat} {m : S.Mach} (h : RAt w B p vm vo none c m) (hm : m.input = []) {A' : Option Addr} {c' : Nat} {I : List Int} (hI : ∀ x ∈ I, 0 ≤ x ∧ x ≤ 255) (hl : I.length ≤ c' ∧ c' ≤ 9223372036854775807) (hl2 : I.length ≤ 4611686018427387904)
    (hr : Reads w w.heap.size A' (I.map (Value.int .u8))) (hA : ∀ b o s, A' = some ⟨b, o, s⟩ → b < w.heap.size ∧ b ≠ p ∧ vm.ownBlock ≠ some b ∧ vo.ownBlock ≠ some b) : RAt (w.setCell ⟨p, 34, none⟩ (.slice A' I.length c')) B p vm vo A' c' { m with input := I } := by
  have hsame : ∀ j, j ≠ p → (w.setCell ⟨p, 34, none⟩ (.slice A' I.length c')).heap[j]? = w.heap[j]? := fun j hj => Below.heap_setCell _ _ _ _ hj
  refine ⟨⟨h.ok.regs, h.ok.word, h.ok.zero, h.ok.mem, h.ok.memw, h.ok.place0, h.ok.place1, hI, h.ok.outp, h.ok.code0, h.ok.code1⟩, h.low, ?_, ?_, ?_, ?_, ?_, hl, h.low0, fun b o s e => ?_, fun b o s e => (hA b o s e).2, h.d2⟩
  · obtain ⟨cs, h1, h2⟩ := h.blk
    refine ⟨cs.setIfInBounds 34 (.slice A' I.length c'), heap_setCell_same w p 34 cs _ _ h1, ?_⟩
    rw [Array.toList_setIfInBounds, h2]
    exact (rset h.ok 2 _).symm
  · exact ownsRow_same h.mem fun j hj => hsame j fun e => h.d2.1 (e ▸ hj)
  · exact ownsRow_same h.out fun j hj => hsame j fun e => h.d2.2 (e ▸ hj)
  · exact hr.same (by simp [World.setCell]) fun b o s e => hsame b (hA b o s e).2.1
  · exact hl2
  · have := (hA b o s e).1
    simpa [World.setCell] using this

def NewPost (w : World) (n : Nat) (size : Int) (m : S.Mach) (e : Ending) (w' : World) : Prop :=
  (¬ sizeOk n size ∧ e = .returned (.tuple #[.pointer none, .int .i64 2]) ∧ w = w') ∨
  (sizeOk n size ∧ ∃ p vm vo A c, e = .returned (.tuple #[.pointer (some ⟨p, 0, none⟩), .int .i64 0]) ∧ RAt w' w.heap.size p vm vo A c m ∧ Below w.heap.size w w' ∧ ∀ b o s, A = some ⟨b, o, s⟩ → w.heap.size ≤ b)

set_option maxRecDepth 100000 in
set_option maxHeartbeats 8000000 in
theorem ref2_New (Aw Ai : Option Addr) (cw ci : Nat) (L I : List Int) (size : Int) (w : World) (hL : Reads w w.heap.size Aw (L.map (Value.int .u32))) (hI : Reads w w.heap.size Ai (I.map (Value.int .u8))) (hl : L.length ≤ 200) (hil : I.length ≤ 50)
    (hLw : ∀ x ∈ L, 0 ≤ x ∧ x ≤ 4294967295) (hIw : ∀ x ∈ I, 0 ≤ x ∧ x ≤ 255) (hAi : Ai = none → I.length = 0) :
    Calls Try.prog 47 #[.slice Aw L.length cw, .int .i64 size, .slice Ai I.length ci] w (NewPost w L.length size (newM L size.toNat I)) := by
  have HLw := Lib.hid hLw
  have HIw := Lib.hid hIw
  have HAi := Lib.hid hAi
  clear hLw hIw hAi
  by_cases h1 : size < 1
  · have Hn := Lib.hid (show ¬ sizeOk L.length size from fun q => by have := q.1; omega)
    go_enter Try.func47, Try.ntmps47
    go_wp2_with fail
    go_ret2
    exact .inl ⟨Hn.out, rfl, rfl⟩
  by_cases h2 : 335544320 < size
  · have Hn := Lib.hid (show ¬ sizeOk L.length size from fun q => by have := q.2.1; omega)
    go_enter Try.func47, Try.ntmps47
    go_wp2_with fail
    go_ret2
    exact .inl ⟨Hn.out, rfl, rfl⟩
  by_cases h3 : size < L.length
  · have Hn := Lib.hid (show ¬ sizeOk L.length size from fun q => by have := q.2.2; omega)
    go_enter Try.func47, Try.ntmps47
    go_wp2_with fail
    go_ret2
    exact .inl ⟨Hn.out, rfl, rfl⟩
  obtain ⟨n, rfl⟩ : ∃ n : Nat, size = n := ⟨size.toNat, by omega⟩
  have Hok := Lib.hid (show sizeOk L.length n from ⟨by omega, by omega, by omega⟩)
  go_enter Try.func47, Try.ntmps47
  go_upto_region 3 with fail
  go_upto_region 4 with (refine wpList_makeN rfl (.tmp 22) (.tmp 22) _ rfl w.heap.size 34 u32_infoM Try.underlying22 rfl .i64 .i64 _ _ n rfl rfl rfl rfl (by omega) (by simp only [maxLen]; omega) (Nat.le_refl _) ?_; intro w1 ho1 hb1)
  have hR : RAt (w1.alloc (.cells #[.int .u32 0, .int .u32 0, .int .u32 0, .int .u32 0, .int .u32 0, .int .u32 0, .int .u32 0, .int .u32 0, .int .u32 0, .int .u32 0, .int .u32 0, .int .u32 0, .int .u32 0, .int .u32 0, .int .u32 0, .int .u32 0, .int .u32 0, .int .u32 0, .int .u32 0, .int .u32 0, .int .u32 0, .int .u32 0, .int .u32 0, .int .u32 0, .int .u32 0, .int .u32 0, .int .u32 0, .int .u32 0, .int .u32 0, .int .u32 0, .int .u32 0, .int .u32 0, .slice (some ⟨w.heap.size, 0, none⟩) n n, .int .u32 0, .slice none 0 0, .slice none 0 0, .int .i64 0, .int .u32 0, .int .i64 0, .int .i64 0] 88)) w.heap.size w1.heap.size (.slice (some ⟨w.heap.size, 0, none⟩) n n) (.slice none 0 0) none 0 (partM L n 0) := by
    obtain ⟨x1, x2, x3⟩ := one_allocM w1 #[.int .u32 0, .int .u32 0, .int .u32 0, .int .u32 0, .int .u32 0, .int .u32 0, .int .u32 0, .int .u32 0, .int .u32 0, .int .u32 0, .int .u32 0, .int .u32 0, .int .u32 0, .int .u32 0, .int .u32 0, .int .u32 0, .int .u32 0, .int .u32 0, .int .u32 0, .int .u32 0, .int .u32 0, .int .u32 0, .int .u32 0, .int .u32 0, .int .u32 0, .int .u32 0, .int .u32 0, .int .u32 0, .int .u32 0, .int .u32 0, .int .u32 0, .int .u32 0, .slice (some ⟨w.heap.size, 0, none⟩) n n, .int .u32 0, .slice none 0 0, .slice none 0 0, .int .i64 0, .int .u32 0, .int .i64 0, .int .i64 0] 88
    have hz := (ho1.lt w.heap.size rfl).2
    refine ⟨part_ok (by omega) (Nat.zero_le _) (Nat.zero_le _) HLw.out, hb1.size, ⟨_, x1, rfl⟩, ?_, World.ownsRow_nil _ _ _ _, fun hp => by simp [partM] at hp, by simp [partM], ⟨by simp [partM], by decide⟩, by simp [partM]; omega, (fun b o s e => by cases e), (fun b o s e => by cases e), ?_⟩
    · have := ho1.alloc (.cells #[.int .u32 0, .int .u32 0, .int .u32 0, .int .u32 0, .int .u32 0, .int .u32 0, .int .u32 0, .int .u32 0, .int .u32 0, .int .u32 0, .int .u32 0, .int .u32 0, .int .u32 0, .int .u32 0, .int .u32 0, .int .u32 0, .int .u32 0, .int .u32 0, .int .u32 0, .int .u32 0, .int .u32 0, .int .u32 0, .int .u32 0, .int .u32 0, .int .u32 0, .int .u32 0, .int .u32 0, .int .u32 0, .int .u32 0, .int .u32 0, .int .u32 0, .int .u32 0, .slice (some ⟨w.heap.size, 0, none⟩) n n, .int .u32 0, .slice none 0 0, .slice none 0 0, .int .i64 0, .int .u32 0, .int .i64 0, .int .i64 0] 88)
      simpa [partM] using this
    · refine ⟨fun e => ?_, (fun e => by cases e)⟩
      have : w.heap.size = w1.heap.size := by injection e
      omega
  have hb2 : Below w.heap.size w (w1.alloc (.cells #[.int .u32 0, .int .u32 0, .int .u32 0, .int .u32 0, .int .u32 0, .int .u32 0, .int .u32 0, .int .u32 0, .int .u32 0, .int .u32 0, .int .u32 0, .int .u32 0, .int .u32 0, .int .u32 0, .int .u32 0, .int .u32 0, .int .u32 0, .int .u32 0, .int .u32 0, .int .u32 0, .int .u32 0, .int .u32 0, .int .u32 0, .int .u32 0, .int .u32 0, .int .u32 0, .int .u32 0, .int .u32 0, .int .u32 0, .int .u32 0, .int .u32 0, .int .u32 0, .slice (some ⟨w.heap.size, 0, none⟩) n n, .int .u32 0, .slice none 0 0, .slice none 0 0, .int .i64 0, .int .u32 0, .int .i64 0, .int .i64 0] 88)) := hb1.alloc hb1.size _
  have hz1 := (ho1.lt w.heap.size rfl).2
  have hpz : w1.heap.size < (w1.alloc (.cells #[.int .u32 0, .int .u32 0, .int .u32 0, .int .u32 0, .int .u32 0, .int .u32 0, .int .u32 0, .int .u32 0, .int .u32 0, .int .u32 0, .int .u32 0, .int .u32 0, .int .u32 0, .int .u32 0, .int .u32 0, .int .u32 0, .int .u32 0, .int .u32 0, .int .u32 0, .int .u32 0, .int .u32 0, .int .u32 0, .int .u32 0, .int .u32 0, .int .u32 0, .int .u32 0, .int .u32 0, .int .u32 0, .int .u32 0, .int .u32 0, .int .u32 0, .int .u32 0, .slice (some ⟨w.heap.size, 0, none⟩) n n, .int .u32 0, .slice none 0 0, .slice none 0 0, .int .i64 0, .int .u32 0, .int .i64 0, .int .i64 0] 88)).heap.size := hR.lt
  clear ho1 hb1
  generalize w1.alloc (.cells #[.int .u32 0, .int .u32 0, .int .u32 0, .int .u32 0, .int .u32 0, .int .u32 0, .int .u32 0, .int .u32 0, .int .u32 0, .int .u32 0, .int .u32 0, .int .u32 0, .int .u32 0, .int .u32 0, .int .u32 0, .int .u32 0, .int .u32 0, .int .u32 0, .int .u32 0, .int .u32 0, .int .u32 0, .int .u32 0, .int .u32 0, .int .u32 0, .int .u32 0, .int .u32 0, .int .u32 0, .int .u32 0, .int .u32 0, .int .u32 0, .int .u32 0, .int .u32 0, .slice (some ⟨w.heap.size, 0, none⟩) n n, .int .u32 0, .slice none 0 0, .slice none 0 0, .int .i64 0, .int .u32 0, .int .i64 0, .int .i64 0] 88) = w2 at *
  generalize w1.heap.size = p at *
  clear w1
  have hnL : L.length ≤ n := by omega
  go_wp2_with fail
  go_loopw [9] (fun i wr => ∃ k : Nat, k ≤ L.length ∧ i = .int .i64 k ∧ RAt wr w.heap.size p (.slice (some ⟨w.heap.size, 0, none⟩) n n) (.slice none 0 0) none 0 (partM L n k) ∧ Below w.heap.size w wr) (fun i _ => L.length - (intOf i).toNat)
  case atStart => exact ⟨0, by omega, rfl, hR, hb2⟩
  case round =>
    obtain ⟨k, hk, rfl, hM, hbr⟩ := hrel
    by_cases hlt : k < L.length
    · have hx : (L.map (Value.int .u32))[k]? = some (.int .u32 (L.getD k 0)) := by simp [hlt]
      obtain ⟨bL, oL, e, hbL, hcL⟩ := hL (by simp; omega)
      have hcx := (hbr.cell (p := ⟨bL, oL + k, none⟩) hbL).trans (hcL k _ hx)
      subst e
      have hvb : 0 ≤ L.getD k 0 ∧ L.getD k 0 ≤ 4294967295 := by
        have e3 : L.getD k 0 = L[k] := by simp [hlt]
        rw [e3]
        exact HLw.out _ (List.getElem_mem _)
      have hpl := part_len (words := L) (size := n) (k := k) (by omega) (by omega)
      have hset := part_set hlt hnL
      obtain ⟨c32, _⟩ := hM.cells
      have hmem := hM.mem
      rw [hpl] at hmem
      have hct := hmem.cellAt k (by omega)
      have hct' : wr.cell? ⟨w.heap.size, k, none⟩ = some (.int .u32 ((partM L n k).mem.getD k 0)) := by
        rw [hct, List.getElem?_map]
        have : k < (partM L n k).mem.length := by rw [hpl]; omega
        simp [this]
      have hft := hmem.frozenAt k
      have hpw := hM.lt
      have hgw : w.heap.size < wr.heap.size := (hmem.lt w.heap.size rfl).2
      have hbL' : bL < wr.heap.size := by omega
      have Hset := Lib.hid hset
      have Hpl := Lib.hid hpl
      clear hx hcL hset hmem hct hpl
      generalize L.getD k 0 = v at *
      generalize (partM L n k).mem.getD k 0 = v0 at *
      go_wp2_with fail
      have hE := ext_cells wr
      refine wp_region_ext_plan 10 1 [0, 1, 2, 3, 4, 5, 6, 7, 8, 9] (by kernel_rfl) (by kernel_rfl) (fun _ _ _ _ _ h => h) ?_
      repeat (first
        | (refine plan_cons rfl ?_; go_big_quiet_step (fail)))
      refine wpQuiet_nil ?_
      rintro w4 ⟨⟨w4', hb4'⟩, hw4⟩
      have hb4 : Below wr.heap.size wr w4 := by rw [hw4]; exact hb4'
      clear hw4 hb4'
      simp only [List.drop_succ_cons, List.drop_zero]
      clear hE
      have hM4 := hM.below hb4
      have hS := hM4.sw (g := w.heap.size) (cap := n) (i := k) (b := v) (by rw [Hpl.out]) hvb (by rw [Hpl.out]; omega)
      rw [Hset.out] at hS
      have hS' : RAt (w4.setCell ⟨w.heap.size, k, none⟩ (.int .u32 v)) w.heap.size p (.slice (some ⟨w.heap.size, 0, none⟩) n n) (.slice none 0 0) none 0 (partM L n (k + 1)) := hS
      have hct4 := (hb4.cell (p := ⟨w.heap.size, k, none⟩) hgw).trans hct'
      have hft4 := (hb4.frozen (p := ⟨w.heap.size, k, none⟩) hgw).trans hft
      have hgw4 : w.heap.size < w4.heap.size := by have := hb4.size; omega
      have HS := Lib.hid hS'
      clear hS hS'
      go_wp2_with fail
      go_roundw
      case rel => exact ⟨k + 1, by omega, by go_num, HS.out, (hbr.trans (hb4.mono (by omega))).setCell (p := ⟨w.heap.size, k, none⟩) (Nat.le_refl _) _⟩
      case measure => simp [intOf]; omega
    · have hke : k = L.length := by omega
      have hM' : RAt wr w.heap.size p (.slice (some ⟨w.heap.size, 0, none⟩) n n) (.slice none 0 0) none 0 (partM L n L.length) := hke ▸ hM
      have hIr := hI.below hbr
      obtain ⟨_, _, c34, _⟩ := hM'.cells
      have f34 := hM'.fz 34
      have hpw := hM'.lt
      have hmem := hM'.mem
      have hgw : w.heap.size < wr.heap.size := (hmem.lt w.heap.size rfl).2
      have HM := Lib.hid hM'
      have hnil : wr.ownsRow wr.heap.size 5 1 (.slice none 0 0) 0 [] := World.ownsRow_nil _ _ _ _
      clear hM hM' hke hmem
      go_upto_region 9 with (at_builtin; refine wpList_appendsN rfl (.tmp 46) (.tmp 47) _ rfl wr.heap.size 5 u8_infoM Try.underlying23 rfl (by decide) _ 0 [] rfl hnil w.heap.size Ai I.length ci (I.map (Value.int .u8)) rfl (by simp) HAi.out hIr (by simp [Value.oneCell']) (by simp only [maxLen]; omega) (by omega) (Nat.le_refl _) ?_; intro v' w5 ho5 hg5 hb5 hat5; obtain ⟨A5, c5, rfl⟩ := ownsRow_form ho5; have hc5 : w5.cell? ⟨p, 34, none⟩ = some (.slice none (partM L n L.length).input.length 0) := (hb5.cell (p := ⟨p, 34, none⟩) hpw).trans c34; have hf5 : w5.frozen? ⟨p, 34, none⟩ = false := (hb5.frozen (p := ⟨p, 34, none⟩) hpw).trans f34; have hp5 : p < w5.heap.size := by have := hb5.size; omega)
      have hM5 := HM.out.below hb5
      simp only [Nat.zero_add, List.nil_append] at ho5
      have hA5 : ∀ b o s, A5 = some ⟨b, o, s⟩ → wr.heap.size ≤ b ∧ b < w5.heap.size := by
        intro b o s e
        exact ho5.lt b (by rw [e]; rfl)
      have hcap : I.length ≤ c5 ∧ c5 ≤ 9223372036854775807 := by
        rcases ho5.2 with ⟨e, e2⟩ | ⟨g, cap, cur, e, _, _, e3, e4, _⟩
        · injection e with e5 e6 e7
          omega
        · injection e with e5 e6 e7
          simp only [maxLen] at e4
          omega
      have hG := hM5.given rfl HIw.out hcap (by omega) (Reads.of_own ho5) (fun b o s e => by
        obtain ⟨g1, g2⟩ := hA5 b o s e
        refine ⟨g2, by omega, ?_, (fun q => by cases q)⟩
        intro q
        have : w.heap.size = b := by injection q
        omega)
      have hend : newM L n I = { partM L n L.length with input := I } := by
        simp [newM, partM]
      have HG := Lib.hid hG
      have Hend := Lib.hid hend
      have hbz : Below w.heap.size w (w5.setCell ⟨p, 34, none⟩ (.slice A5 I.length c5)) := (hbr.trans (hb5.mono (Nat.le_of_lt hgw))).setCell (p := ⟨p, 34, none⟩) HM.out.low _
      clear hG hend hcap ho5
      go_wp2_with fail
      go_ret2
      refine .inr ⟨Hok.out, p, .slice (some ⟨w.heap.size, 0, none⟩) n n, .slice none 0 0, A5, c5, rfl, ?_, hbz, fun b o s e => by have := (hA5 b o s e).1; omega⟩
      rw [Hend.out]
      exact HG.out

end Go.Proofs.Ytbgdomnalimjnaa
