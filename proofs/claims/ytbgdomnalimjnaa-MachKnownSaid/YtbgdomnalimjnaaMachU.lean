/- The machine of package mach: walks of the methods that read, of the clones, of Run. -/
import Derived.Test.YtbgdomnalimjnaaMachT
import Derived.Test.YtbgdomnalimjnaaOwnC
set_option linter.unusedVariables false
set_option linter.unusedSimpArgs false
set_option linter.unusedSectionVars false
namespace Go.Proofs.Ytbgdomnalimjnaa
open Go.RowKit

section
variable {w w' : World} {B p : Nat} {vm vo : Value} {A : Option Addr} {c : Nat} {inp : List Int} {rd : Nat} {m : S.Mach}

namespace S.Mach
def regV (m : S.Mach) (i : Int) : Int := if 0 ≤ i ∧ i < 32 then m.reg.getD i.toNat 0 else 0
def memV (m : S.Mach) (i : Int) : Int := if 0 ≤ i ∧ i < m.mem.length then m.mem.getD i.toNat 0 else 0
def memB (m : S.Mach) (i : Int) : Bool := decide (0 ≤ i ∧ i < m.mem.length)
end S.Mach

theorem mach_Place (h : MAt w B p vm vo A c inp rd m) : Calls Try.prog 19 #[.pointer (some ⟨p, 0, none⟩)] w fun e w' => e = .returned (.int .u32 m.place) ∧ w = w' := by
  obtain ⟨_, cc, _, _, _, _, _, _, _⟩ := h.cells
  have hlt := h.lt
  go_enter Try.func19, Try.ntmps19
  go_wp2_with fail
  refine (mach_is h).mono ?_
  rintro e w2 ⟨rfl, rfl⟩
  go_wp2_with fail
  go_ret
  exact ⟨rfl, rfl⟩

theorem mach_State (h : MAt w B p vm vo A c inp rd m) : Calls Try.prog 21 #[.pointer (some ⟨p, 0, none⟩)] w fun e w' => e = .returned (.int .i64 m.state) ∧ w = w' := by
  obtain ⟨_, _, _, _, _, cc, _, _, _⟩ := h.cells
  have hlt := h.lt
  go_enter Try.func21, Try.ntmps21
  go_wp2_with fail
  refine (mach_is h).mono ?_
  rintro e w2 ⟨rfl, rfl⟩
  go_wp2_with fail
  go_ret
  exact ⟨rfl, rfl⟩

theorem mach_Code (h : MAt w B p vm vo A c inp rd m) : Calls Try.prog 45 #[.pointer (some ⟨p, 0, none⟩)] w fun e w' => e = .returned (.int .u32 m.code) ∧ w = w' := by
  obtain ⟨_, _, _, _, _, _, cc, _, _⟩ := h.cells
  have hlt := h.lt
  go_enter Try.func45, Try.ntmps45
  go_wp2_with fail
  refine (mach_is h).mono ?_
  rintro e w2 ⟨rfl, rfl⟩
  go_wp2_with fail
  go_ret
  exact ⟨rfl, rfl⟩

theorem mach_Trap (h : MAt w B p vm vo A c inp rd m) : Calls Try.prog 46 #[.pointer (some ⟨p, 0, none⟩)] w fun e w' => e = .returned (.int .i64 m.trap) ∧ w = w' := by
  obtain ⟨_, _, _, _, _, _, _, cc, _⟩ := h.cells
  have hlt := h.lt
  go_enter Try.func46, Try.ntmps46
  go_wp2_with fail
  refine (mach_is h).mono ?_
  rintro e w2 ⟨rfl, rfl⟩
  go_wp2_with fail
  go_ret
  exact ⟨rfl, rfl⟩

theorem mach_Steps (h : MAt w B p vm vo A c inp rd m) : Calls Try.prog 36 #[.pointer (some ⟨p, 0, none⟩)] w fun e w' => e = .returned (.int .i64 m.steps) ∧ w = w' := by
  obtain ⟨_, _, _, _, _, _, _, _, cc⟩ := h.cells
  have hlt := h.lt
  go_enter Try.func36, Try.ntmps36
  go_wp2_with fail
  refine (mach_is h).mono ?_
  rintro e w2 ⟨rfl, rfl⟩
  go_wp2_with fail
  go_ret
  exact ⟨rfl, rfl⟩

theorem mach_Reg (i : Int) (h : MAt w B p vm vo A c inp rd m) : Calls Try.prog 39 #[.pointer (some ⟨p, 0, none⟩), .int .i64 i] w fun e w' => e = .returned (.int .u32 (m.regV i)) ∧ w = w' := by
  have hlt := h.lt
  by_cases h0 : i < 0
  · have Hv := Lib.hid (show m.regV i = 0 by unfold S.Mach.regV; rw [if_neg (by omega)])
    go_enter Try.func39, Try.ntmps39
    go_wp2_with fail
    refine (mach_is h).mono ?_
    rintro e w2 ⟨rfl, rfl⟩
    go_wp2_with fail
    go_ret
    exact ⟨by rw [Hv.out]; rfl, rfl⟩
  · by_cases h1 : 32 ≤ i
    · have Hv := Lib.hid (show m.regV i = 0 by unfold S.Mach.regV; rw [if_neg (by omega)])
      go_enter Try.func39, Try.ntmps39
      go_wp2_with fail
      refine (mach_is h).mono ?_
      rintro e w2 ⟨rfl, rfl⟩
      go_wp2_with fail
      go_ret
      exact ⟨by rw [Hv.out]; rfl, rfl⟩
    · obtain ⟨k, rfl⟩ : ∃ k : Nat, i = k := ⟨i.toNat, by omega⟩
      have hk : k < 32 := by omega
      have hr := h.reg hk
      have Hv := Lib.hid (show m.regV k = m.reg.getD k 0 by unfold S.Mach.regV; rw [if_pos (by omega)]; rfl)
      generalize m.reg.getD k 0 = rv at *
      go_enter Try.func39, Try.ntmps39
      go_wp2_with fail
      refine (mach_is h).mono ?_
      rintro e w2 ⟨rfl, rfl⟩
      go_wp2_with fail
      go_ret
      exact ⟨by rw [Hv.out]; rfl, rfl⟩

theorem mach_Mem (i : Int) (h : MAt w B p vm vo A c inp rd m) : Calls Try.prog 18 #[.pointer (some ⟨p, 0, none⟩), .int .i64 i] w fun e w' => e = .returned (.tuple #[.int .u32 (m.memV i), .bool (m.memB i)]) ∧ ∃ n, w' = w.drewN n := by
  have hlt := h.lt
  have hl0 := h.low0
  obtain ⟨g, cap, hvm, hg, hmc, hfz⟩ := h.memv
  obtain ⟨c32, _⟩ := h.cells
  rw [hvm] at c32
  have Hmc := Lib.hid hmc
  clear hvm hmc hfz
  by_cases h0 : i < 0
  · have Hv := Lib.hid (show m.memV i = 0 by unfold S.Mach.memV; rw [if_neg (by omega)])
    have Hb := Lib.hid (show m.memB i = false by unfold S.Mach.memB; rw [decide_eq_false_iff_not]; omega)
    go_enter Try.func18, Try.ntmps18
    go_wp2_with fail
    refine (mach_is h).mono ?_
    rintro e w2 ⟨rfl, rfl⟩
    go_wp2_with fail
    go_ret2
    exact ⟨by rw [Hv.out, Hb.out]; rfl, 0, rfl⟩
  · by_cases h1 : (m.mem.length : Int) ≤ i
    · have Hv := Lib.hid (show m.memV i = 0 by unfold S.Mach.memV; rw [if_neg (by omega)])
      have Hb := Lib.hid (show m.memB i = false by unfold S.Mach.memB; rw [decide_eq_false_iff_not]; omega)
      go_enter Try.func18, Try.ntmps18
      go_wp2_with fail
      refine (mach_is h).mono ?_
      rintro e w2 ⟨rfl, rfl⟩
      go_wp2_with fail
      go_ret2
      exact ⟨by rw [Hv.out, Hb.out]; rfl, 0, rfl⟩
    · obtain ⟨k, rfl⟩ : ∃ k : Nat, i = k := ⟨i.toNat, by omega⟩
      have hk : k < m.mem.length := by omega
      have hr := Hmc.out k hk
      have Hv := Lib.hid (show m.memV k = m.mem.getD k 0 by unfold S.Mach.memV; rw [if_pos (by omega)]; rfl)
      have Hb := Lib.hid (show m.memB k = true by unfold S.Mach.memB; rw [decide_eq_true_eq]; omega)
      generalize m.mem.getD k 0 = rv at *
      go_enter Try.func18, Try.ntmps18
      go_wp2_with fail
      refine (mach_is h).mono ?_
      rintro e w2 ⟨rfl, rfl⟩
      go_wp2_with fail
      go_ret2
      exact ⟨by rw [Hv.out, Hb.out]; rfl, 0, rfl⟩

theorem u8_infoM : (Try.prog.info? 5).map (fun i => (i.zero, i.size, i.bytes)) = some (some (.int .u8 0), 1, 1) := by kernel_rfl
theorem u32_infoM : (Try.prog.info? 34).map (fun i => (i.zero, i.size, i.bytes)) = some (some (.int .u32 0), 1, 4) := by kernel_rfl
set_option maxHeartbeats 1000000 in
set_option maxRecDepth 100000 in
theorem clone_bytes (A : Option Addr) (c : Nat) (L : List Int) (w : World) (hr : Reads w w.heap.size A (L.map (Value.int .u8))) (hl : L.length ≤ 1000000000) :
    Calls Try.prog 66 #[.slice A L.length c] w fun e w' => ∃ A' c', e = .returned (.slice A' L.length c') ∧ w'.ownsRow w.heap.size 5 1 (.slice A' L.length c') L.length (L.map (Value.int .u8)) ∧ Below w.heap.size w w' := by
  have hn := fun (w : World) (A : Option Addr) (n c n1 c1 : Nat) => Lib.run_eql_slice_nil (P := Try.prog) w 23 5 A n c n1 c1 Try.underlying23
  cases A with
  | none =>
    go_enter Try.func66, Try.ntmps66
    have hx0 : L = [] := by
      cases L with
      | nil => rfl
      | cons x r =>
        obtain ⟨b, off, e, _⟩ := hr (by simp)
        cases e
    subst hx0
    go_wp2_with fail
    go_ret
    exact ⟨_, _, rfl, World.ownsRow_nil _ _ _ _, Below.refl _ _⟩
  | some a =>
    have hr' := hr.below ((Below.refl w.heap.size w).alloc (Nat.le_refl _) (.cells #[] 5))
    go_enter Try.func66, Try.ntmps66
    go_wp2_with (at_builtin
                 refine wpList_appendsN rfl (.tmp 5) (.tmp 6) _ rfl w.heap.size 5 u8_infoM Try.underlying23 rfl (by decide) _ 0 [] rfl (World.ownsRow_made w #[] 0 (Nat.le_refl _) (by simp [maxLen]) (by simp)) w.heap.size (some a) L.length c (L.map (Value.int .u8)) rfl (by simp) (fun h => by cases h) hr' (by simp [Value.oneCell']) (by simp only [maxLen]; omega) (by omega) (by simp) ?_
                 intro v' w1 ho1 hg1 hb1 hat1
                 obtain ⟨A1, c1, rfl⟩ := ownsRow_form ho1)
    go_ret
    simp only [Nat.zero_add, List.nil_append] at ho1
    exact ⟨A1, c1, by simp, ho1, ((Below.refl _ _).alloc (Nat.le_refl _) _).trans hb1⟩

set_option maxHeartbeats 1000000 in
set_option maxRecDepth 100000 in
theorem clone_words (A : Option Addr) (c : Nat) (L : List Int) (w : World) (hr : Reads w w.heap.size A (L.map (Value.int .u32))) (hl : L.length ≤ 1000000000) :
    Calls Try.prog 65 #[.slice A L.length c] w fun e w' => ∃ A' c', e = .returned (.slice A' L.length c') ∧ w'.ownsRow w.heap.size 34 1 (.slice A' L.length c') L.length (L.map (Value.int .u32)) ∧ Below w.heap.size w w' := by
  have hn := fun (w : World) (A : Option Addr) (n c n1 c1 : Nat) => Lib.run_eql_slice_nil (P := Try.prog) w 22 34 A n c n1 c1 Try.underlying22
  cases A with
  | none =>
    go_enter Try.func65, Try.ntmps65
    have hx0 : L = [] := by
      cases L with
      | nil => rfl
      | cons x r =>
        obtain ⟨b, off, e, _⟩ := hr (by simp)
        cases e
    subst hx0
    go_wp2_with fail
    go_ret
    exact ⟨_, _, rfl, World.ownsRow_nil _ _ _ _, Below.refl _ _⟩
  | some a =>
    have hr' := hr.below ((Below.refl w.heap.size w).alloc (Nat.le_refl _) (.cells #[] 34))
    go_enter Try.func65, Try.ntmps65
    go_wp2_with (at_builtin
                 refine wpList_appendsN rfl (.tmp 5) (.tmp 6) _ rfl w.heap.size 34 u32_infoM Try.underlying22 rfl (by decide) _ 0 [] rfl (World.ownsRow_made w #[] 0 (Nat.le_refl _) (by simp [maxLen]) (by simp)) w.heap.size (some a) L.length c (L.map (Value.int .u32)) rfl (by simp) (fun h => by cases h) hr' (by simp [Value.oneCell']) (by simp only [maxLen]; omega) (by omega) (by simp) ?_
                 intro v' w1 ho1 hg1 hb1 hat1
                 obtain ⟨A1, c1, rfl⟩ := ownsRow_form ho1)
    go_ret
    simp only [Nat.zero_add, List.nil_append] at ho1
    exact ⟨A1, c1, by simp, ho1, ((Below.refl _ _).alloc (Nat.le_refl _) _).trans hb1⟩

theorem reads_own {e : TypeId} {A : Option Addr} {m c n B : Nat} {xs : List Value} (h : w.ownsRow B e 1 (.slice A m c) n xs) : Reads w w.heap.size A xs := Reads.of_own h

theorem mach_Out (h : MAt w B p vm vo A c inp rd m) (hol : m.out.length ≤ 1000000) : Calls Try.prog 37 #[.pointer (some ⟨p, 0, none⟩)] w
    fun e w' => ∃ A' c', e = .returned (.slice A' m.out.length c') ∧ w'.ownsRow w.heap.size 5 1 (.slice A' m.out.length c') m.out.length (m.out.map (Value.int .u8)) ∧ Below w.heap.size w w' := by
  have hlt := h.lt
  have ho := h.out
  obtain ⟨_, _, _, _, c36, _⟩ := h.cells
  obtain ⟨Ao, co, rfl⟩ := ownsRow_form ho
  have hr := Reads.of_own ho
  go_enter Try.func37, Try.ntmps37
  go_wp2_with fail
  refine (mach_is h).mono ?_
  rintro e w2 ⟨rfl, rfl⟩
  go_wp2_with fail
  refine (clone_bytes _ _ _ _ hr (by omega)).mono ?_
  rintro e w2 ⟨A', c', rfl, h1, h2⟩
  go_wp2_with fail
  go_ret
  exact ⟨A', c', rfl, h1, h2⟩

def RunAt (w : World) (B p : Nat) (vm vo : Value) (A : Option Addr) (c : Nat) (inp : List Int) (m' : S.Mach) (w' : World) : Prop :=
  ∃ vo' rd', MAt w' B p vm vo' A c inp rd' m' ∧ Only (MFoot p vm vo) w w' ∧ (vo'.ownBlock = vo.ownBlock ∨ ∃ k, w.heap.size ≤ k ∧ vo'.ownBlock = some k)
theorem RunAt.next {w w1 w2 : World} {m1 m2 : S.Mach} {vo1 : Value} {rd1 : Nat} (h1 : MAt w1 B p vm vo1 A c inp rd1 m1) (h2 : Only (MFoot p vm vo) w w1) (h3 : vo1.ownBlock = vo.ownBlock ∨ ∃ k, w.heap.size ≤ k ∧ vo1.ownBlock = some k) (hs : RunAt w1 B p vm vo1 A c inp m2 w2) : RunAt w B p vm vo A c inp m2 w2 := by
  obtain ⟨vo2, rd2, k1, k2, k3⟩ := hs
  have hz := h2.size
  refine ⟨vo2, rd2, k1, h2.trans k2 (fun i hi hf => ?_), ?_⟩
  · rcases hf with e | e | e
    · exact .inl e
    · exact .inr (.inl e)
    · rcases h3 with e2 | ⟨k, hk, e2⟩
      · exact .inr (.inr (e2 ▸ e))
      · rw [e2] at e; cases e; omega
  · rcases k3 with e | ⟨k, hk, e⟩
    · rw [e]; exact h3
    · exact .inr ⟨k, by omega, e⟩
theorem step_run {m : S.Mach} (h : MAt w B p vm vo A c inp rd m) (hol : m.out.length ≤ 1000000) (hst : 0 ≤ m.steps ∧ m.steps ≤ 1000000) :
    Calls Try.prog 15 #[.pointer (some ⟨p, 0, none⟩)] w fun e w' => e = .returned (.int .i64 m.step.state) ∧ RunAt w B p vm vo A c inp m.step w' := mach_Step h hol hst

set_option maxRecDepth 100000 in
set_option maxHeartbeats 4000000 in
theorem mach_Run (fuel : Int) (h : MAt w B p vm vo A c inp rd m) (hol : m.out.length ≤ 500000) (hst : 0 ≤ m.steps ∧ m.steps ≤ 500000) (hf : fuel ≤ 100000) :
    Calls Try.prog 35 #[.pointer (some ⟨p, 0, none⟩), .int .i64 fuel] w fun e w' => e = .returned (.int .i64 (m.steps_ fuel.toNat).state) ∧ RunAt w B p vm vo A c inp (m.steps_ fuel.toNat) w' := by
  have hlt := h.lt
  have hway : ∃ nf : Nat, fuel.toNat = nf ∧ nf ≤ 100000 ∧ ((fuel < 0 ∧ nf = 0) ∨ (¬ fuel < 0 ∧ fuel = nf)) := ⟨fuel.toNat, rfl, by omega, by omega⟩
  obtain ⟨nf, hnt, hnf, hway⟩ := hway
  rw [hnt]
  clear hnt hf
  go_enter Try.func35, Try.ntmps35
  go_wp2_with fail
  refine (mach_is h).mono ?_
  rintro e w2 ⟨rfl, rfl⟩
  go_upto_region 3 with fail
  go_cut [9, 10] from 8 to 10 (fun v9 v10 wc => v9 = .int .i64 nf ∧ v10 = .int .i64 0 ∧ wc = w)
  case first =>
    rcases hway with ⟨h0, rfl⟩ | ⟨h0, rfl⟩
    · go_wp2_with fail
      all_goals
        go_meet
        exact ⟨by first | rfl | (congr 2; omega), rfl, rfl⟩
    · go_wp2_with fail
      all_goals
        go_meet
        exact ⟨by first | rfl | (congr 2; omega), rfl, rfl⟩
  case rest =>
  obtain ⟨rfl, rfl, rfl⟩ := hcut
  clear hway
  go_wp2_with fail
  go_loopw [10] (fun i wr => ∃ k : Nat, k ≤ nf ∧ i = .int .i64 k ∧ RunAt wc B p vm vo A c inp (m.steps_ k) wr) (fun i _ => nf - (intOf i).toNat)
  case atStart => exact ⟨0, by omega, rfl, vo, rd, h, Only.refl _ _, .inl rfl⟩
  case round =>
    obtain ⟨k, hk, rfl, hR⟩ := hrel
    obtain ⟨vo1, rd1, hM1, hO1, hv1⟩ := hR
    have hg := steps_grow m k
    have hcs := hM1.cells
    obtain ⟨_, _, _, _, _, c37, _⟩ := hcs
    have hp1 := hM1.lt
    by_cases hlt2 : k < nf
    · go_wp2_with fail
      refine (step_run hM1 (by omega) (by omega)).mono ?_
      rintro e w3 ⟨rfl, hR3⟩
      have hR' : RunAt wc B p vm vo A c inp (m.steps_ (k + 1)) w3 := RunAt.next hM1 hO1 hv1 hR3
      by_cases hs : (m.steps_ k).step.state = 0
      · have d0 : ((m.steps_ k).step.state != 0) = false := by simp [hs]
        clear hs
        go_wp2_with fail
        go_roundw
        case rel => exact ⟨k + 1, by omega, by go_num, hR'⟩
        case measure => simp [intOf]; omega
      · have d0 : ((m.steps_ k).step.state != 0) = true := by simpa using hs
        have hstop := steps_stop (m := m) (k := k + 1) hs (nf - (k + 1))
        rw [show k + 1 + (nf - (k + 1)) = nf by omega] at hstop
        have Hstop := Lib.hid hstop
        obtain ⟨vo2, rd2, hM2, hO2, hv2⟩ := hR'
        obtain ⟨_, _, _, _, _, c37', _⟩ := hM2.cells
        have hp2 := hM2.lt
        clear hs hstop hR3
        go_wp2_with fail
        go_ret
        rw [Hstop.out]
        exact ⟨rfl, vo2, rd2, hM2, hO2, hv2⟩
    · have hke : k = nf := by omega
      subst hke
      go_wp2_with fail
      go_ret
      exact ⟨rfl, vo1, rd1, hM1, hO1, hv1⟩
end

end Go.Proofs.Ytbgdomnalimjnaa
