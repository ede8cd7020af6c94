/- MachU, MachV, MachD, MachW: joined.  The laws of layer 2: word, ref02.New. -/
import Derived.Test.YtidhglleeccpoaaDoorMachT
import Derived.Test.YtidhglleeccpoaaDoorOwnC
import Derived.Test.YtidhglleeccpoaaDoorLay
import Derived.Test.YtidhglleeccpoaaDoorMachN
import Derived.Test.YtidhglleeccpoaaDoorIsaD
import Derived.Test.YtidhglleeccpoaaDoorMachP
import Derived.Test.YtidhglleeccpoaaDoorIsaE
section
set_option linter.unusedVariables false
set_option linter.unusedSimpArgs false
set_option linter.unusedSectionVars false
namespace Go.Proofs.YtidhglleeccpoaaDoor
open Go.RowKit

section
variable {w w' : World} {B p : Nat} {vm vo : Value} {A : Option Addr} {c : Nat} {inp : List Int} {rd : Nat} {m : S.Mach}

namespace S.Mach
def regV (m : S.Mach) (i : Int) : Int := if 0 ≤ i ∧ i < 32 then m.reg.getD i.toNat 0 else 0
def memV (m : S.Mach) (i : Int) : Int := if 0 ≤ i ∧ i < m.mem.length then m.mem.getD i.toNat 0 else 0
def memB (m : S.Mach) (i : Int) : Bool := decide (0 ≤ i ∧ i < m.mem.length)
end S.Mach

theorem mach_Trap (h : MAt w B p vm vo A c inp rd m) : Calls Tryd.prog 8 #[.pointer (some ⟨p, 0, none⟩)] w fun e w' => e = .returned (.int .i64 m.trap) ∧ w = w' := by
  obtain ⟨_, _, _, _, _, _, _, cc, _⟩ := h.cells
  have hlt := h.lt
  go_enter Tryd.func8, Tryd.ntmps8
  go_wp2_with fail
  refine (mach_is h).mono ?_
  rintro e w2 ⟨rfl, rfl⟩
  go_wp2_with fail
  go_ret
  exact ⟨rfl, rfl⟩

theorem mach_Reg (i : Int) (h : MAt w B p vm vo A c inp rd m) : Calls Tryd.prog 9 #[.pointer (some ⟨p, 0, none⟩), .int .i64 i] w fun e w' => e = .returned (.int .u32 (m.regV i)) ∧ w = w' := by
  have hlt := h.lt
  by_cases h0 : i < 0
  · have Hv := Lib.hid (show m.regV i = 0 by unfold S.Mach.regV; rw [if_neg (by omega)])
    go_enter Tryd.func9, Tryd.ntmps9
    go_wp2_with fail
    refine (mach_is h).mono ?_
    rintro e w2 ⟨rfl, rfl⟩
    go_wp2_with fail
    go_ret
    exact ⟨by rw [Hv.out]; rfl, rfl⟩
  · by_cases h1 : 32 ≤ i
    · have Hv := Lib.hid (show m.regV i = 0 by unfold S.Mach.regV; rw [if_neg (by omega)])
      go_enter Tryd.func9, Tryd.ntmps9
      go_wp2_with fail
      refine (mach_is h).mono ?_
      rintro e w2 ⟨rfl, rfl⟩
      go_wp2_with fail
      go_ret
      exact ⟨by rw [Hv.out]; rfl, rfl⟩
    · obtain ⟨k, rfl⟩ : ∃ k : Nat, i = k := ⟨i.toNat, by omega⟩
      have hk : k < 32 := by omega
      have hr := h.reg hk
      have Hv := Lib.hid (show m.regV k = m.reg.getD k 0 by unfold S.Mach.regV; rw [if_pos (by omega)]; rfl)
      generalize m.reg.getD k 0 = rv at *
      go_enter Tryd.func9, Tryd.ntmps9
      go_wp2_with fail
      refine (mach_is h).mono ?_
      rintro e w2 ⟨rfl, rfl⟩
      go_wp2_with fail
      go_ret
      exact ⟨by rw [Hv.out]; rfl, rfl⟩

theorem u8_infoM : (Tryd.prog.info? 5).map (fun i => (i.zero, i.size, i.bytes)) = some (some (.int .u8 0), 1, 1) := by kernel_rfl
theorem u32_infoM : (Tryd.prog.info? 22).map (fun i => (i.zero, i.size, i.bytes)) = some (some (.int .u32 0), 1, 4) := by kernel_rfl
set_option maxHeartbeats 1000000 in
set_option maxRecDepth 100000 in
theorem clone_bytes (A : Option Addr) (c : Nat) (L : List Int) (w : World) (hr : Reads w w.heap.size A (L.map (Value.int .u8))) (hl : L.length ≤ 1000000000) :
    Calls Tryd.prog 20 #[.slice A L.length c] w fun e w' => ∃ A' c', e = .returned (.slice A' L.length c') ∧ w'.ownsRow w.heap.size 5 1 (.slice A' L.length c') L.length (L.map (Value.int .u8)) ∧ Below w.heap.size w w' := by
  have hn := fun (w : World) (A : Option Addr) (n c n1 c1 : Nat) => Lib.run_eql_slice_nil (P := Tryd.prog) w 69 5 A n c n1 c1 Tryd.underlying69
  cases A with
  | none =>
    go_enter Tryd.func20, Tryd.ntmps20
    have hx0 : L = [] := by
      cases L with
      | nil => rfl
      | cons x r =>
        obtain ⟨b, off, e, _⟩ := hr (by simp)
        cases e
    subst hx0
    go_wp2_with fail
    go_ret
    exact ⟨_, _, rfl, World.ownsRow_nil _ _ _ _, Below.refl _ _⟩
  | some a =>
    have hr' := hr.below ((Below.refl w.heap.size w).alloc (Nat.le_refl _) (.cells #[] 5))
    go_enter Tryd.func20, Tryd.ntmps20
    go_wp2_with (at_builtin
                 refine wpList_appendsN rfl (.tmp 5) (.tmp 6) _ rfl w.heap.size 5 u8_infoM Tryd.underlying69 rfl (by decide) _ 0 [] rfl (World.ownsRow_made w #[] 0 (Nat.le_refl _) (by simp [maxLen]) (by simp)) w.heap.size (some a) L.length c (L.map (Value.int .u8)) rfl (by simp) (fun h => by cases h) hr' (by simp [Value.oneCell']) (by simp only [maxLen]; omega) (by omega) (by simp) ?_
                 intro v' w1 ho1 hg1 hb1 hat1
                 obtain ⟨A1, c1, rfl⟩ := ownsRow_form ho1)
    go_ret
    simp only [Nat.zero_add, List.nil_append] at ho1
    exact ⟨A1, c1, by simp, ho1, ((Below.refl _ _).alloc (Nat.le_refl _) _).trans hb1⟩

theorem reads_own {e : TypeId} {A : Option Addr} {m c n B : Nat} {xs : List Value} (h : w.ownsRow B e 1 (.slice A m c) n xs) : Reads w w.heap.size A xs := Reads.of_own h

def RunAt (w : World) (B p : Nat) (vm vo : Value) (A : Option Addr) (c : Nat) (inp : List Int) (m' : S.Mach) (w' : World) : Prop :=
  ∃ vo' rd', MAt w' B p vm vo' A c inp rd' m' ∧ Only (MFoot p vm vo) w w' ∧ (vo'.ownBlock = vo.ownBlock ∨ ∃ k, w.heap.size ≤ k ∧ vo'.ownBlock = some k)
theorem RunAt.next {w w1 w2 : World} {m1 m2 : S.Mach} {vo1 : Value} {rd1 : Nat} (h1 : MAt w1 B p vm vo1 A c inp rd1 m1) (h2 : Only (MFoot p vm vo) w w1) (h3 : vo1.ownBlock = vo.ownBlock ∨ ∃ k, w.heap.size ≤ k ∧ vo1.ownBlock = some k) (hs : RunAt w1 B p vm vo1 A c inp m2 w2) : RunAt w B p vm vo A c inp m2 w2 := by
  obtain ⟨vo2, rd2, k1, k2, k3⟩ := hs
  have hz := h2.size
  refine ⟨vo2, rd2, k1, h2.trans k2 (fun i hi hf => ?_), ?_⟩
  · rcases hf with e | e | e
    · exact .inl e
    · exact .inr (.inl e)
    · rcases h3 with e2 | ⟨k, hk, e2⟩
      · exact .inr (.inr (e2 ▸ e))
      · rw [e2] at e; cases e; omega
  · rcases k3 with e | ⟨k, hk, e⟩
    · rw [e]; exact h3
    · exact .inr ⟨k, by omega, e⟩
theorem step_runM {m : S.Mach} (h : MAt w B p vm vo A c inp rd m) (hol : m.out.length ≤ 1000000) (hst : 0 ≤ m.steps ∧ m.steps ≤ 1000000) :
    Calls Tryd.prog 22 #[.pointer (some ⟨p, 0, none⟩)] w fun e w' => e = .returned (.int .i64 m.step.state) ∧ RunAt w B p vm vo A c inp m.step w' := mach_Step h hol hst

set_option maxRecDepth 100000 in
set_option maxHeartbeats 4000000 in
theorem mach_Run (fuel : Int) (h : MAt w B p vm vo A c inp rd m) (hol : m.out.length ≤ 500000) (hst : 0 ≤ m.steps ∧ m.steps ≤ 500000) (hf : fuel ≤ 100000) :
    Calls Tryd.prog 7 #[.pointer (some ⟨p, 0, none⟩), .int .i64 fuel] w fun e w' => e = .returned (.int .i64 (m.steps_ fuel.toNat).state) ∧ RunAt w B p vm vo A c inp (m.steps_ fuel.toNat) w' := by
  have hlt := h.lt
  have hway : ∃ nf : Nat, fuel.toNat = nf ∧ nf ≤ 100000 ∧ ((fuel < 0 ∧ nf = 0) ∨ (¬ fuel < 0 ∧ fuel = nf)) := ⟨fuel.toNat, rfl, by omega, by omega⟩
  obtain ⟨nf, hnt, hnf, hway⟩ := hway
  rw [hnt]
  clear hnt hf
  go_enter Tryd.func7, Tryd.ntmps7
  go_wp2_with fail
  refine (mach_is h).mono ?_
  rintro e w2 ⟨rfl, rfl⟩
  go_upto_region 3 with fail
  go_cut [9, 10] from 8 to 10 (fun v9 v10 wc => v9 = .int .i64 nf ∧ v10 = .int .i64 0 ∧ wc = w)
  case first =>
    rcases hway with ⟨h0, rfl⟩ | ⟨h0, rfl⟩
    · go_wp2_with fail
      all_goals
        go_meet
        exact ⟨by first | rfl | (congr 2; omega), rfl, rfl⟩
    · go_wp2_with fail
      all_goals
        go_meet
        exact ⟨by first | rfl | (congr 2; omega), rfl, rfl⟩
  case rest =>
  obtain ⟨rfl, rfl, rfl⟩ := hcut
  clear hway
  go_wp2_with fail
  go_loopw [10] (fun i wr => ∃ k : Nat, k ≤ nf ∧ i = .int .i64 k ∧ RunAt wc B p vm vo A c inp (m.steps_ k) wr) (fun i _ => nf - (intOf i).toNat)
  case atStart => exact ⟨0, by omega, rfl, vo, rd, h, Only.refl _ _, .inl rfl⟩
  case round =>
    obtain ⟨k, hk, rfl, hR⟩ := hrel
    obtain ⟨vo1, rd1, hM1, hO1, hv1⟩ := hR
    have hg := steps_grow m k
    have hcs := hM1.cells
    obtain ⟨_, _, _, _, _, c37, _⟩ := hcs
    have hp1 := hM1.lt
    by_cases hlt2 : k < nf
    · go_wp2_with fail
      refine (step_runM hM1 (by omega) (by omega)).mono ?_
      rintro e w3 ⟨rfl, hR3⟩
      have hR' : RunAt wc B p vm vo A c inp (m.steps_ (k + 1)) w3 := RunAt.next hM1 hO1 hv1 hR3
      by_cases hs : (m.steps_ k).step.state = 0
      · have d0 : ((m.steps_ k).step.state != 0) = false := by simp [hs]
        clear hs
        go_wp2_with fail
        go_roundw
        case rel => exact ⟨k + 1, by omega, by go_num, hR'⟩
        case measure => simp [intOf]; omega
      · have d0 : ((m.steps_ k).step.state != 0) = true := by simpa using hs
        have hstop := steps_stop (m := m) (k := k + 1) hs (nf - (k + 1))
        rw [show k + 1 + (nf - (k + 1)) = nf by omega] at hstop
        have Hstop := Lib.hid hstop
        obtain ⟨vo2, rd2, hM2, hO2, hv2⟩ := hR'
        obtain ⟨_, _, _, _, _, c37', _⟩ := hM2.cells
        have hp2 := hM2.lt
        clear hs hstop hR3
        go_wp2_with fail
        go_ret
        rw [Hstop.out]
        exact ⟨rfl, vo2, rd2, hM2, hO2, hv2⟩
    · have hke : k = nf := by omega
      subst hke
      go_wp2_with fail
      go_ret
      exact ⟨rfl, vo1, rd1, hM1, hO1, hv1⟩
end

end Go.Proofs.YtidhglleeccpoaaDoor
end

section
set_option linter.unusedVariables false
set_option linter.unusedSimpArgs false
set_option linter.unusedSectionVars false
namespace Go.Proofs.YtidhglleeccpoaaDoor
open Go.RowKit

section
variable {w w' : World} {B p : Nat} {vm vo : Value} {A : Option Addr} {c : Nat} {inp : List Int} {rd : Nat} {m : S.Mach}

namespace S.Mach
def setV (m : S.Mach) (i v : Int) : S.Mach := if 0 ≤ i ∧ i < 32 then m.put i v else m
def putV (m : S.Mach) (i v : Int) : S.Mach := if 0 ≤ i ∧ i < m.mem.length then { m with mem := m.mem.set i.toNat v } else m
def goV (m : S.Mach) (v : Int) : S.Mach := if m.state ≠ 0 then m else { m with place := v }
end S.Mach

end

end Go.Proofs.YtidhglleeccpoaaDoor
end

section
set_option linter.unusedVariables false
set_option linter.unusedSimpArgs false
set_option linter.unusedSectionVars false
namespace Go.Proofs.YtidhglleeccpoaaDoor
open Go.RowKit

theorem ediv_bd {a p : Int} (h0 : -2147483648 ≤ a) (h1 : a ≤ 2147483647) (hp : 1 ≤ p) : -2147483648 ≤ a / p ∧ a / p ≤ 2147483647 := by
  refine ⟨Int.le_ediv_of_mul_le (by omega) ?_, ?_⟩
  · have : -2147483648 * p ≤ -2147483648 * 1 := by omega
    omega
  · by_cases h : 0 ≤ a
    · exact Int.le_trans (Int.ediv_le_self _ h) h1
    · have := Int.ediv_neg_of_neg_of_pos (show a < 0 by omega) (show 0 < p by omega)
      omega
def Reck (op a b : Int) (w : World) (e : Ending) (w' : World) : Prop := e = .returned (.int .u32 (S.alu op a b)) ∧ w = w'
end Go.Proofs.YtidhglleeccpoaaDoor
end

section
set_option linter.unusedVariables false
set_option linter.unusedSimpArgs false
set_option linter.unusedSectionVars false
namespace Go.Proofs.YtidhglleeccpoaaDoor
open Go.RowKit

/-- A machine as it is made. -/
def newM (words : List Int) (size : Nat) (input : List Int) : S.Mach := ⟨List.replicate 32 0, words ++ List.replicate (size - words.length) 0, 0, input, [], 0, 0, 0, 0⟩
def sizeOk (n : Nat) (size : Int) : Prop := 1 ≤ size ∧ size ≤ 335544320 ∧ (n : Int) ≤ size
theorem getD_rep (n i : Nat) : (List.replicate n (0 : Int)).getD i 0 = 0 := by
  by_cases h : i < n <;> simp [h]
theorem newM_ok {words : List Int} {size : Nat} {input : List Int} (hs : 1 ≤ size) (hl : words.length ≤ size) (hw : ∀ x ∈ words, 0 ≤ x ∧ x ≤ 4294967295) (hi : ∀ x ∈ input, 0 ≤ x ∧ x ≤ 255) : (newM words size input).Ok := by
  refine ⟨by simp [newM], fun i => ?_, ?_, ?_, fun i => ?_, Int.le_refl _, show (0 : Int) ≤ 4294967295 by decide, hi, fun x hx => by simp [newM] at hx, Int.le_refl _, show (0 : Int) ≤ 4294967295 by decide⟩
  · show 0 ≤ (List.replicate 32 (0 : Int)).getD i 0 ∧ (List.replicate 32 (0 : Int)).getD i 0 ≤ 4294967295
    rw [getD_rep]; decide
  · show (List.replicate 32 (0 : Int)).getD 0 0 = 0
    rw [getD_rep]
  · simp [newM]; omega
  · show 0 ≤ (words ++ List.replicate (size - words.length) 0).getD i 0 ∧ (words ++ List.replicate (size - words.length) 0).getD i 0 ≤ 4294967295
    by_cases h : i < words.length
    · have e : (words ++ List.replicate (size - words.length) 0).getD i 0 = words[i] := by simp [List.getElem?_append_left h, List.getElem?_eq_getElem h]
      rw [e]
      exact hw _ (List.getElem_mem _)
    · have e : (words ++ List.replicate (size - words.length) (0 : Int)).getD i 0 = (List.replicate (size - words.length) (0 : Int)).getD (i - words.length) 0 := by
        simp only [List.getD_eq_getElem?_getD]
        rw [List.getElem?_append_right (by omega)]
      rw [e, getD_rep]
      decide

end Go.Proofs.YtidhglleeccpoaaDoor
end
