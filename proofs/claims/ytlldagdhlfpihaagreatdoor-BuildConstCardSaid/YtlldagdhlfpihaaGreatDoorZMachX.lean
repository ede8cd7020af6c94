/- MachU, MachV, MachW, MachX: joined.  The machine of package mach: walk of New. -/
import Derived.Test.YtlldagdhlfpihaaGreatDoorZMachT
import Derived.Test.YtlldagdhlfpihaaGreatDoorZOwnC
import Derived.Test.YtlldagdhlfpihaaGreatDoorZAsmA
import Derived.Test.YtlldagdhlfpihaaGreatDoorZMachO
import Derived.Test.YtlldagdhlfpihaaGreatDoorZMachP
import Derived.Test.YtlldagdhlfpihaaGreatDoorZIsaE
import Derived.Laws.CopyOwn
section
set_option linter.unusedVariables false
set_option linter.unusedSimpArgs false
set_option linter.unusedSectionVars false
namespace Go.Proofs.YtlldagdhlfpihaaGreatDoor
open Go.RowKit

section
variable {w w' : World} {B p : Nat} {vm vo : Value} {A : Option Addr} {c : Nat} {inp : List Int} {rd : Nat} {m : S.Mach}

namespace S.Mach
def regV (m : S.Mach) (i : Int) : Int := if 0 ≤ i ∧ i < 32 then m.reg.getD i.toNat 0 else 0
end S.Mach

theorem mach_Reg (i : Int) (h : MAt w B p vm vo A c inp rd m) : Calls Tryz.prog 26 #[.pointer (some ⟨p, 0, none⟩), .int .i64 i] w fun e w' => e = .returned (.int .u32 (m.regV i)) ∧ w = w' := by
  have hlt := h.lt
  by_cases h0 : i < 0
  · have Hv := Lib.hid (show m.regV i = 0 by unfold S.Mach.regV; rw [if_neg (by omega)])
    go_enter Tryz.func26, Tryz.ntmps26
    go_wp2_with fail
    refine (mach_is h).mono ?_
    rintro e w2 ⟨rfl, rfl⟩
    go_wp2_with fail
    go_ret
    exact ⟨by rw [Hv.out]; rfl, rfl⟩
  · by_cases h1 : 32 ≤ i
    · have Hv := Lib.hid (show m.regV i = 0 by unfold S.Mach.regV; rw [if_neg (by omega)])
      go_enter Tryz.func26, Tryz.ntmps26
      go_wp2_with fail
      refine (mach_is h).mono ?_
      rintro e w2 ⟨rfl, rfl⟩
      go_wp2_with fail
      go_ret
      exact ⟨by rw [Hv.out]; rfl, rfl⟩
    · obtain ⟨k, rfl⟩ : ∃ k : Nat, i = k := ⟨i.toNat, by omega⟩
      have hk : k < 32 := by omega
      have hr := h.reg hk
      have Hv := Lib.hid (show m.regV k = m.reg.getD k 0 by unfold S.Mach.regV; rw [if_pos (by omega)]; rfl)
      generalize m.reg.getD k 0 = rv at *
      go_enter Tryz.func26, Tryz.ntmps26
      go_wp2_with fail
      refine (mach_is h).mono ?_
      rintro e w2 ⟨rfl, rfl⟩
      go_wp2_with fail
      go_ret
      exact ⟨by rw [Hv.out]; rfl, rfl⟩

theorem u8_infoM : (Tryz.prog.info? 5).map (fun i => (i.zero, i.size, i.bytes)) = some (some (.int .u8 0), 1, 1) := by kernel_rfl
theorem u32_infoM : (Tryz.prog.info? 30).map (fun i => (i.zero, i.size, i.bytes)) = some (some (.int .u32 0), 1, 4) := by kernel_rfl
set_option maxHeartbeats 1000000 in
set_option maxRecDepth 100000 in
theorem clone_bytes (A : Option Addr) (c : Nat) (L : List Int) (w : World) (hr : Reads w w.heap.size A (L.map (Value.int .u8))) (hl : L.length ≤ 1000000000) :
    Calls Tryz.prog 53 #[.slice A L.length c] w fun e w' => ∃ A' c', e = .returned (.slice A' L.length c') ∧ w'.ownsRow w.heap.size 5 1 (.slice A' L.length c') L.length (L.map (Value.int .u8)) ∧ Below w.heap.size w w' := by
  have hn := fun (w : World) (A : Option Addr) (n c n1 c1 : Nat) => Lib.run_eql_slice_nil (P := Tryz.prog) w 57 5 A n c n1 c1 Tryz.underlying57
  cases A with
  | none =>
    go_enter Tryz.func53, Tryz.ntmps53
    have hx0 : L = [] := by
      cases L with
      | nil => rfl
      | cons x r =>
        obtain ⟨b, off, e, _⟩ := hr (by simp)
        cases e
    subst hx0
    go_wp2_with fail
    go_ret
    exact ⟨_, _, rfl, World.ownsRow_nil _ _ _ _, Below.refl _ _⟩
  | some a =>
    have hr' := hr.below ((Below.refl w.heap.size w).alloc (Nat.le_refl _) (.cells #[] 5))
    go_enter Tryz.func53, Tryz.ntmps53
    go_wp2_with (at_builtin
                 refine wpList_appendsN rfl (.tmp 5) (.tmp 6) _ rfl w.heap.size 5 u8_infoM Tryz.underlying57 rfl (by decide) _ 0 [] rfl (World.ownsRow_made w #[] 0 (Nat.le_refl _) (by simp [maxLen]) (by simp)) w.heap.size (some a) L.length c (L.map (Value.int .u8)) rfl (by simp) (fun h => by cases h) hr' (by simp [Value.oneCell']) (by simp only [maxLen]; omega) (by omega) (by simp) ?_
                 intro v' w1 ho1 hg1 hb1 hat1
                 obtain ⟨A1, c1, rfl⟩ := ownsRow_form ho1)
    go_ret
    simp only [Nat.zero_add, List.nil_append] at ho1
    exact ⟨A1, c1, by simp, ho1, ((Below.refl _ _).alloc (Nat.le_refl _) _).trans hb1⟩

def RunAt (w : World) (B p : Nat) (vm vo : Value) (A : Option Addr) (c : Nat) (inp : List Int) (m' : S.Mach) (w' : World) : Prop :=
  ∃ vo' rd', MAt w' B p vm vo' A c inp rd' m' ∧ Only (MFoot p vm vo) w w' ∧ (vo'.ownBlock = vo.ownBlock ∨ ∃ k, w.heap.size ≤ k ∧ vo'.ownBlock = some k)
theorem RunAt.next {w w1 w2 : World} {m1 m2 : S.Mach} {vo1 : Value} {rd1 : Nat} (h1 : MAt w1 B p vm vo1 A c inp rd1 m1) (h2 : Only (MFoot p vm vo) w w1) (h3 : vo1.ownBlock = vo.ownBlock ∨ ∃ k, w.heap.size ≤ k ∧ vo1.ownBlock = some k) (hs : RunAt w1 B p vm vo1 A c inp m2 w2) : RunAt w B p vm vo A c inp m2 w2 := by
  obtain ⟨vo2, rd2, k1, k2, k3⟩ := hs
  have hz := h2.size
  refine ⟨vo2, rd2, k1, h2.trans k2 (fun i hi hf => ?_), ?_⟩
  · rcases hf with e | e | e
    · exact .inl e
    · exact .inr (.inl e)
    · rcases h3 with e2 | ⟨k, hk, e2⟩
      · exact .inr (.inr (e2 ▸ e))
      · rw [e2] at e; cases e; omega
  · rcases k3 with e | ⟨k, hk, e⟩
    · rw [e]; exact h3
    · exact .inr ⟨k, by omega, e⟩
theorem step_runM {m : S.Mach} (h : MAt w B p vm vo A c inp rd m) (hol : m.out.length ≤ 1000000000) (hst : 0 ≤ m.steps ∧ m.steps ≤ 1000000000) :
    Calls Tryz.prog 25 #[.pointer (some ⟨p, 0, none⟩)] w fun e w' => e = .returned (.int .i64 m.step.state) ∧ RunAt w B p vm vo A c inp m.step w' := mach_Step h hol hst

set_option maxRecDepth 100000 in
set_option maxHeartbeats 4000000 in
theorem mach_Run (fuel : Int) (h : MAt w B p vm vo A c inp rd m) (hol : m.out.length ≤ 500000000) (hst : 0 ≤ m.steps ∧ m.steps ≤ 500000000) (hf : fuel ≤ 100000000) :
    Calls Tryz.prog 45 #[.pointer (some ⟨p, 0, none⟩), .int .i64 fuel] w fun e w' => e = .returned (.int .i64 (m.steps_ fuel.toNat).state) ∧ RunAt w B p vm vo A c inp (m.steps_ fuel.toNat) w' := by
  have hlt := h.lt
  have hway : ∃ nf : Nat, fuel.toNat = nf ∧ nf ≤ 100000000 ∧ ((fuel < 0 ∧ nf = 0) ∨ (¬ fuel < 0 ∧ fuel = nf)) := ⟨fuel.toNat, rfl, by omega, by omega⟩
  obtain ⟨nf, hnt, hnf, hway⟩ := hway
  rw [hnt]
  clear hnt hf
  go_enter Tryz.func45, Tryz.ntmps45
  go_wp2_with fail
  refine (mach_is h).mono ?_
  rintro e w2 ⟨rfl, rfl⟩
  go_upto_region 3 with fail
  go_cut [9, 10] from 8 to 10 (fun v9 v10 wc => v9 = .int .i64 nf ∧ v10 = .int .i64 0 ∧ wc = w)
  case first =>
    rcases hway with ⟨h0, rfl⟩ | ⟨h0, rfl⟩
    · go_wp2_with fail
      all_goals
        go_meet
        exact ⟨by first | rfl | (congr 2; omega), rfl, rfl⟩
    · go_wp2_with fail
      all_goals
        go_meet
        exact ⟨by first | rfl | (congr 2; omega), rfl, rfl⟩
  case rest =>
  obtain ⟨rfl, rfl, rfl⟩ := hcut
  clear hway
  go_wp2_with fail
  go_loopw [10] (fun i wr => ∃ k : Nat, k ≤ nf ∧ i = .int .i64 k ∧ RunAt wc B p vm vo A c inp (m.steps_ k) wr) (fun i _ => nf - (intOf i).toNat)
  case atStart => exact ⟨0, by omega, rfl, vo, rd, h, Only.refl _ _, .inl rfl⟩
  case round =>
    obtain ⟨k, hk, rfl, hR⟩ := hrel
    obtain ⟨vo1, rd1, hM1, hO1, hv1⟩ := hR
    have hg := steps_grow m k
    have hcs := hM1.cells
    obtain ⟨_, _, _, _, _, c37, _⟩ := hcs
    have hp1 := hM1.lt
    by_cases hlt2 : k < nf
    · go_wp2_with fail
      refine (step_runM hM1 (by omega) (by omega)).mono ?_
      rintro e w3 ⟨rfl, hR3⟩
      have hR' : RunAt wc B p vm vo A c inp (m.steps_ (k + 1)) w3 := RunAt.next hM1 hO1 hv1 hR3
      by_cases hs : (m.steps_ k).step.state = 0
      · have d0 : ((m.steps_ k).step.state != 0) = false := by simp [hs]
        clear hs
        go_wp2_with fail
        go_roundw
        case rel => exact ⟨k + 1, by omega, by go_num, hR'⟩
        case measure => simp [intOf]; omega
      · have d0 : ((m.steps_ k).step.state != 0) = true := by simpa using hs
        have hstop := steps_stop (m := m) (k := k + 1) hs (nf - (k + 1))
        rw [show k + 1 + (nf - (k + 1)) = nf by omega] at hstop
        have Hstop := Lib.hid hstop
        obtain ⟨vo2, rd2, hM2, hO2, hv2⟩ := hR'
        obtain ⟨_, _, _, _, _, c37', _⟩ := hM2.cells
        have hp2 := hM2.lt
        clear hs hstop hR3
        go_wp2_with fail
        go_ret
        rw [Hstop.out]
        exact ⟨rfl, vo2, rd2, hM2, hO2, hv2⟩
    · have hke : k = nf := by omega
      subst hke
      go_wp2_with fail
      go_ret
      exact ⟨rfl, vo1, rd1, hM1, hO1, hv1⟩
end

end Go.Proofs.YtlldagdhlfpihaaGreatDoor
end

section
set_option linter.unusedVariables false
set_option linter.unusedSimpArgs false
set_option linter.unusedSectionVars false
namespace Go.Proofs.YtlldagdhlfpihaaGreatDoor
open Go.RowKit

section
variable {w w' : World} {B p : Nat} {vm vo : Value} {A : Option Addr} {c : Nat} {inp : List Int} {rd : Nat} {m : S.Mach}

namespace S.Mach
def setV (m : S.Mach) (i v : Int) : S.Mach := if 0 ≤ i ∧ i < 32 then m.put i v else m
end S.Mach

theorem mach_Set (i v : Int) (h : MAt w B p vm vo A c inp rd m) (hv : 0 ≤ v ∧ v ≤ 4294967295) : Calls Tryz.prog 24 #[.pointer (some ⟨p, 0, none⟩), .int .i64 i, .int .u32 v] w
    fun e w' => e = .returned (.int .i64 (if 0 ≤ i ∧ i < 32 then 0 else 2)) ∧ MAt w' B p vm vo A c inp rd (m.setV i v) ∧ Only (· = p) w w' := by
  have hlt := h.lt
  have HM := Lib.hid h
  by_cases h0 : i < 0
  · have Hc := Lib.hid (show ¬ (0 ≤ i ∧ i < 32) by omega)
    go_enter Tryz.func24, Tryz.ntmps24
    go_wp2_with fail
    refine (mach_is h).mono ?_
    rintro e w2 ⟨rfl, rfl⟩
    go_wp2_with fail
    go_ret
    simp only [S.Mach.setV, if_neg Hc.out]
    exact ⟨rfl, HM.out, Only.refl _ _⟩
  · by_cases h1 : 32 ≤ i
    · have Hc := Lib.hid (show ¬ (0 ≤ i ∧ i < 32) by omega)
      go_enter Tryz.func24, Tryz.ntmps24
      go_wp2_with fail
      refine (mach_is h).mono ?_
      rintro e w2 ⟨rfl, rfl⟩
      go_wp2_with fail
      go_ret
      simp only [S.Mach.setV, if_neg Hc.out]
      exact ⟨rfl, HM.out, Only.refl _ _⟩
    · have Hc := Lib.hid (show 0 ≤ i ∧ i < 32 by omega)
      go_enter Tryz.func24, Tryz.ntmps24
      go_wp2_with fail
      refine (mach_is h).mono ?_
      rintro e w2 ⟨rfl, rfl⟩
      go_wp2_with fail
      refine (mach_put _ _ h (by omega) (by omega) hv).mono ?_
      rintro e w3 ⟨rfl, hM3, hO3⟩
      go_wp2_with fail
      go_ret
      simp only [S.Mach.setV, if_pos Hc.out]
      exact ⟨rfl, hM3, hO3⟩

end

end Go.Proofs.YtlldagdhlfpihaaGreatDoor
end

section
set_option linter.unusedVariables false
set_option linter.unusedSimpArgs false
set_option linter.unusedSectionVars false
namespace Go.Proofs.YtlldagdhlfpihaaGreatDoor
open Go.RowKit

/-- A machine as it is made. -/
def newM (words : List Int) (size : Nat) (input : List Int) : S.Mach := ⟨List.replicate 32 0, words ++ List.replicate (size - words.length) 0, 0, input, [], 0, 0, 0, 0⟩
def sizeOk (n : Nat) (size : Int) : Prop := 1 ≤ size ∧ size ≤ 335544320 ∧ (n : Int) ≤ size
theorem getD_rep (n i : Nat) : (List.replicate n (0 : Int)).getD i 0 = 0 := by
  by_cases h : i < n <;> simp [h]
theorem newM_ok {words : List Int} {size : Nat} {input : List Int} (hs : 1 ≤ size) (hl : words.length ≤ size) (hw : ∀ x ∈ words, 0 ≤ x ∧ x ≤ 4294967295) (hi : ∀ x ∈ input, 0 ≤ x ∧ x ≤ 255) : (newM words size input).Ok := by
  refine ⟨by simp [newM], fun i => ?_, ?_, ?_, fun i => ?_, Int.le_refl _, show (0 : Int) ≤ 4294967295 by decide, hi, fun x hx => by simp [newM] at hx, Int.le_refl _, show (0 : Int) ≤ 4294967295 by decide⟩
  · show 0 ≤ (List.replicate 32 (0 : Int)).getD i 0 ∧ (List.replicate 32 (0 : Int)).getD i 0 ≤ 4294967295
    rw [getD_rep]; decide
  · show (List.replicate 32 (0 : Int)).getD 0 0 = 0
    rw [getD_rep]
  · simp [newM]; omega
  · show 0 ≤ (words ++ List.replicate (size - words.length) 0).getD i 0 ∧ (words ++ List.replicate (size - words.length) 0).getD i 0 ≤ 4294967295
    by_cases h : i < words.length
    · have e : (words ++ List.replicate (size - words.length) 0).getD i 0 = words[i] := by simp [List.getElem?_append_left h, List.getElem?_eq_getElem h]
      rw [e]
      exact hw _ (List.getElem_mem _)
    · have e : (words ++ List.replicate (size - words.length) (0 : Int)).getD i 0 = (List.replicate (size - words.length) (0 : Int)).getD (i - words.length) 0 := by
        simp only [List.getD_eq_getElem?_getD]
        rw [List.getElem?_append_right (by omega)]
      rw [e, getD_rep]
      decide

end Go.Proofs.YtlldagdhlfpihaaGreatDoor
end

section
set_option linter.unusedVariables false
set_option linter.unusedSimpArgs false
set_option linter.unusedSectionVars false
namespace Go.Proofs.YtlldagdhlfpihaaGreatDoor
open Go.RowKit

theorem Reads.moreM {w : World} {B B' : Nat} {A : Option Addr} {xs : List Value} (h : Reads w B A xs) (hB : B ≤ B') : Reads w B' A xs := fun hp => by
  obtain ⟨b, off, e, hb, hc⟩ := h hp
  exact ⟨b, off, e, by omega, hc⟩

/-- The words are laid over the head of a machine's memory. -/
theorem MAt.copied {w : World} {B p : Nat} {vm vo : Value} {A : Option Addr} {c : Nat} {inp : List Int} {rd : Nat} {m : S.Mach} (h : MAt w B p vm vo A c inp rd m) {g cap : Nat} (hv : vm = .slice (some ⟨g, 0, none⟩) m.mem.length cap) {cur : Array Value} (hg : w.heap[g]? = some (.cells cur 30 (0, 0)))
    {L : List Int} (hL : L.length ≤ m.mem.length) (hw : ∀ x ∈ L, 0 ≤ x ∧ x ≤ 4294967295) :
    MAt (w.setRow g (cur.toList.take 0 ++ (L.map (Value.int .u32) ++ cur.toList.drop (0 + (L.map (Value.int .u32)).length))).toArray) B p vm vo A c inp rd { m with mem := L ++ m.mem.drop L.length } := by
  obtain ⟨n1, n2⟩ := h.mem_ne (k := g) (by rw [hv]; rfl)
  have hsame : ∀ j, j ≠ g → (w.setRow g (cur.toList.take 0 ++ (L.map (Value.int .u32) ++ cur.toList.drop (0 + (L.map (Value.int .u32)).length))).toArray).heap[j]? = w.heap[j]? := fun j hj => setRow_other w g j _ hj
  refine ⟨⟨h.ok.regs, h.ok.word, h.ok.zero, by have := h.ok.mem; simp; omega, fun j => ?_, h.ok.place0, h.ok.place1, h.ok.inp, h.ok.outp, h.ok.code0, h.ok.code1⟩, h.low, ?_, ?_, ?_, ?_, h.left, h.rdle, h.inl, by have := h.low0; simp; omega, fun b o s e => by have := h.la b o s e; simpa using this, h.d1, h.d2⟩
  · show 0 ≤ (L ++ m.mem.drop L.length).getD j 0 ∧ (L ++ m.mem.drop L.length).getD j 0 ≤ 4294967295
    by_cases hj : j < L.length
    · have e : (L ++ m.mem.drop L.length).getD j 0 = L[j] := by simp [List.getElem?_append_left hj, List.getElem?_eq_getElem hj]
      rw [e]
      exact hw _ (List.getElem_mem _)
    · have e : (L ++ m.mem.drop L.length).getD j 0 = m.mem.getD j 0 := by
        simp only [List.getD_eq_getElem?_getD]
        rw [List.getElem?_append_right (by omega), List.getElem?_drop, show L.length + (j - L.length) = j by omega]
      rw [e]
      exact h.ok.memw j
  · obtain ⟨cs, h1, h2⟩ := h.blk
    exact ⟨cs, by rw [hsame p (Ne.symm n1)]; exact h1, h2⟩
  · rcases h.mem.2 with ⟨e, _⟩ | ⟨g', cap', cur', e, h3, h4, h5, h6, h7, h8⟩
    · rw [hv] at e; cases e
    · rw [hv] at e
      injection e with e1 e2 e3
      injection e1 with e1
      injection e1 with e1
      subst e1 e3
      rw [hg] at h4
      injection h4 with h4
      injection h4 with h4 _ _
      subst h4
      have hl : (L ++ m.mem.drop L.length).length = m.mem.length := by simp; omega
      refine ⟨by simp, .inr ⟨g, cap, _, by rw [hv, hl], h3, setRow_heap w g cur _ _ _ hg, by rw [hl]; exact h5, h6, ?_, ?_⟩⟩
      · simp; omega
      · simp only [List.take_zero, List.nil_append, Nat.mul_one] at h8 ⊢
        rw [hl, List.take_append, List.take_of_length_le (by simp; omega), List.map_append, List.map_drop, ← h8, List.length_map, Nat.zero_add, List.drop_take]
  · exact ownsRow_same h.out fun j hj => hsame j fun e => n2 (e ▸ hj)
  · exact h.rin.same (by simp) fun b' o s e => hsame b' fun e2 => (h.d1 b' o s e).2.1 (by rw [e2, hv]; rfl)

theorem newAt {w wz : World} {n g c : Nat} {A : Option Addr} {I : List Int} (hn : 1 ≤ n) (hn2 : n ≤ 335544320) (hI : ∀ x ∈ I, 0 ≤ x ∧ x ≤ 255) (hil : I.length ≤ 1000000) (hb : Below w.heap.size w wz)
    (hg : wz.ownsRow w.heap.size 30 1 (.slice (some ⟨g, 0, none⟩) n n) n (List.replicate n (Value.int .u32 0))) (hA : wz.ownsRow w.heap.size 5 1 (.slice A I.length c) I.length (I.map (Value.int .u8))) :
    MAt (wz.alloc (.cells #[.int .u32 0, .int .u32 0, .int .u32 0, .int .u32 0, .int .u32 0, .int .u32 0, .int .u32 0, .int .u32 0, .int .u32 0, .int .u32 0, .int .u32 0, .int .u32 0, .int .u32 0, .int .u32 0, .int .u32 0, .int .u32 0, .int .u32 0, .int .u32 0, .int .u32 0, .int .u32 0, .int .u32 0, .int .u32 0, .int .u32 0, .int .u32 0, .int .u32 0, .int .u32 0, .int .u32 0, .int .u32 0, .int .u32 0, .int .u32 0, .int .u32 0, .int .u32 0, .slice (some ⟨g, 0, none⟩) n n, .int .u32 0, .slice A I.length c, .int .i64 0, .slice none 0 0, .int .i64 0, .int .u32 0, .int .i64 0, .int .i64 0] 118)) w.heap.size wz.heap.size (.slice (some ⟨g, 0, none⟩) n n) (.slice none 0 0) A c I 0 (newM [] n I) ∧ Below w.heap.size w (wz.alloc (.cells #[.int .u32 0, .int .u32 0, .int .u32 0, .int .u32 0, .int .u32 0, .int .u32 0, .int .u32 0, .int .u32 0, .int .u32 0, .int .u32 0, .int .u32 0, .int .u32 0, .int .u32 0, .int .u32 0, .int .u32 0, .int .u32 0, .int .u32 0, .int .u32 0, .int .u32 0, .int .u32 0, .int .u32 0, .int .u32 0, .int .u32 0, .int .u32 0, .int .u32 0, .int .u32 0, .int .u32 0, .int .u32 0, .int .u32 0, .int .u32 0, .int .u32 0, .int .u32 0, .slice (some ⟨g, 0, none⟩) n n, .int .u32 0, .slice A I.length c, .int .i64 0, .slice none 0 0, .int .i64 0, .int .u32 0, .int .i64 0, .int .i64 0] 118)) ∧ (∀ b o s, A = some ⟨b, o, s⟩ → w.heap.size ≤ b) := by
  obtain ⟨x1, x2, x3⟩ := one_allocM wz #[.int .u32 0, .int .u32 0, .int .u32 0, .int .u32 0, .int .u32 0, .int .u32 0, .int .u32 0, .int .u32 0, .int .u32 0, .int .u32 0, .int .u32 0, .int .u32 0, .int .u32 0, .int .u32 0, .int .u32 0, .int .u32 0, .int .u32 0, .int .u32 0, .int .u32 0, .int .u32 0, .int .u32 0, .int .u32 0, .int .u32 0, .int .u32 0, .int .u32 0, .int .u32 0, .int .u32 0, .int .u32 0, .int .u32 0, .int .u32 0, .int .u32 0, .int .u32 0, .slice (some ⟨g, 0, none⟩) n n, .int .u32 0, .slice A I.length c, .int .i64 0, .slice none 0 0, .int .i64 0, .int .u32 0, .int .i64 0, .int .i64 0] 118
  have hgl := hg.lt g rfl
  have hAl : ∀ b o s, A = some ⟨b, o, s⟩ → w.heap.size ≤ b ∧ b < wz.heap.size := fun b o s e => hA.lt b (by rw [e]; rfl)
  have hmem : (newM [] n I).mem = List.replicate n 0 := by simp [newM]
  have hne := rows_ne hA hg (by decide)
  refine ⟨⟨newM_ok hn (by simp) (fun x hx => by cases hx) hI, hb.size, ⟨_, x1, rfl⟩, ?_, World.ownsRow_nil _ _ _ _, ?_, by simp [newM], Nat.zero_le _, by omega, by rw [hmem]; simp; omega, fun b o s e => by have := hAl b o s e; omega, fun b o s e => ?_, ?_⟩, hb.trans (x2.mono hb.size), fun b o s e => (hAl b o s e).1⟩
  · rw [hmem, List.map_replicate, List.length_replicate]
    exact ownsRow_below hg x2
  · exact Reads.of_own (ownsRow_below hA x2)
  · have h1 := hAl b o s e
    refine ⟨by omega, fun q => ?_, fun q => by cases q⟩
    have q2 : g = b := by injection q
    subst q2
    rcases hne with q | q
    · rw [e] at q; cases q
    · exact q (by rw [e]; rfl)
  · refine ⟨fun q => ?_, fun q => by cases q⟩
    have q2 : g = wz.heap.size := by injection q
    omega

theorem u32_sizeM : (Tryz.prog.info? 30).map (·.size) = some 1 := by kernel_rfl
theorem made_zeros (n : Nat) : (madeCells (Value.int .u32 0).cells (n * 1)).toList = List.replicate n (Value.int .u32 0) := by
  rw [Nat.mul_one]
  exact toList_madeCells_one _ n

def MNewPost (w : World) (n : Nat) (size : Int) (I : List Int) (m : S.Mach) (e : Ending) (w' : World) : Prop :=
  (¬ sizeOk n size ∧ e = .returned (.tuple #[.pointer none, .int .i64 2]) ∧ w = w') ∨
  (sizeOk n size ∧ ∃ p vm A c, e = .returned (.tuple #[.pointer (some ⟨p, 0, none⟩), .int .i64 0]) ∧ MAt w' w.heap.size p vm (.slice none 0 0) A c I 0 m ∧ Below w.heap.size w w' ∧ ∀ b o s, A = some ⟨b, o, s⟩ → w.heap.size ≤ b)

set_option maxRecDepth 100000 in
set_option maxHeartbeats 8000000 in
theorem mach_New (Aw Ai : Option Addr) (cw ci : Nat) (L I : List Int) (size : Int) (w : World) (hL : Reads w w.heap.size Aw (L.map (Value.int .u32))) (hI : Reads w w.heap.size Ai (I.map (Value.int .u8))) (hl : L.length ≤ 300000000) (hil : I.length ≤ 1000000)
    (hLw : ∀ x ∈ L, 0 ≤ x ∧ x ≤ 4294967295) (hIw : ∀ x ∈ I, 0 ≤ x ∧ x ≤ 255) :
    Calls Tryz.prog 23 #[.slice Aw L.length cw, .int .i64 size, .slice Ai I.length ci] w (MNewPost w L.length size I (newM L size.toNat I)) := by
  have HLw := Lib.hid hLw
  have HIw := Lib.hid hIw
  clear hLw hIw
  by_cases h1 : size < 1
  · have Hn := Lib.hid (show ¬ sizeOk L.length size from fun q => by have := q.1; omega)
    go_enter Tryz.func23, Tryz.ntmps23
    go_wp2_with fail
    go_ret2
    exact .inl ⟨Hn.out, rfl, rfl⟩
  by_cases h2 : 335544320 < size
  · have Hn := Lib.hid (show ¬ sizeOk L.length size from fun q => by have := q.2.1; omega)
    go_enter Tryz.func23, Tryz.ntmps23
    go_wp2_with fail
    go_ret2
    exact .inl ⟨Hn.out, rfl, rfl⟩
  by_cases h3 : size < L.length
  · have Hn := Lib.hid (show ¬ sizeOk L.length size from fun q => by have := q.2.2; omega)
    go_enter Tryz.func23, Tryz.ntmps23
    go_wp2_with fail
    go_ret2
    exact .inl ⟨Hn.out, rfl, rfl⟩
  obtain ⟨n, rfl⟩ : ∃ n : Nat, size = n := ⟨size.toNat, by omega⟩
  have Hok := Lib.hid (show sizeOk L.length n from ⟨by omega, by omega, by omega⟩)
  have HL := Lib.hid hL
  have hn1 : 1 ≤ n := by omega
  have hn2 : n ≤ 335544320 := by omega
  have hnL : L.length ≤ n := by omega
  go_enter Tryz.func23, Tryz.ntmps23
  go_upto_region 3 with fail
  go_cut [8] (fun v8 wc => ∃ p g A c, v8 = .pointer (some ⟨p, 0, none⟩) ∧ MAt wc w.heap.size p (.slice (some ⟨g, 0, none⟩) n n) (.slice none 0 0) A c I 0 (newM [] n I) ∧ Below w.heap.size w wc ∧ ∀ b o s, A = some ⟨b, o, s⟩ → w.heap.size ≤ b)
  case first =>
    have hId : Below w.heap.size w w.drew := (Below.refl _ _).drew
    obtain ⟨ti, hti, htz, hts, htb⟩ := info_parts (u32_infoM)
    go_region_with (first
      | (go_at_call 53; refine (clone_bytes Ai ci I w.drew hI (by omega)).mono ?_; rintro e w2 ⟨A2, c2, rfl, ho2, hb2⟩)
      | (go_at_call 53; have hb3 : Below w.heap.size w w3 := hId.grown hg3 (Nat.le_refl _) (fun k e => by cases e); refine (clone_bytes Ai ci I w3 ((hI.below hb3).moreM hb3.size) (by omega)).mono ?_; rintro e w5 ⟨A5, c5, rfl, ho5, hb5⟩)
      | (obtain ⟨w3, hrun, ho3, hg3⟩ := run_make_full (P := Tryz.prog) w2 w2.heap.size 50 30 ti _ 1 Tryz.underlying50 hti htz hts .i64 .i64 n (by rw [htb]; omega) (by simp only [maxLen]; omega) (Nat.le_refl _); simp only [hrun]; clear htb)
      | (obtain ⟨w3, hrun, ho3, hg3⟩ := run_make_full (P := Tryz.prog) w.drew w.drew.heap.size 50 30 ti _ 1 Tryz.underlying50 hti htz hts .i64 .i64 n (by rw [htb]; omega) (by simp only [maxLen]; omega) (Nat.le_refl _); simp only [hrun]; clear htb))
    · simp only [List.getElem_toArray, List.getElem_cons_succ, List.getElem_cons_zero, Act.put, List.setIfInBounds_toArray, List.set_cons_succ, List.set_cons_zero]
      have hb3 : Below w.heap.size w w3 := hId.grown hg3 (Nat.le_refl _) (fun k e => by cases e)
      have hbz : Below w.heap.size w w5 := hb3.trans (hb5.mono hb3.size)
      have hrow : w5.ownsRow w.heap.size 30 1 (.slice (some ⟨w.heap.size, 0, none⟩) n n) n (List.replicate n (Value.int .u32 0)) := by
        have h := ownsRow_below ho3 hb5
        rwa [made_zeros] at h
      have hZ := Lib.hid (newAt (w := w) hn1 hn2 HIw.out hil hbz hrow (ownsRow_base ho5 hb3.size))
      clear hrun ho3 hg3 ho5 hb5 hb3 hbz hrow
      go_wp2_with fail
      go_meet
      refine ⟨w5.heap.size, w.heap.size, A5, c5, by kernel_rfl, ?_⟩
      with_reducible exact hZ.out
    · simp only [List.getElem_toArray, List.getElem_cons_succ, List.getElem_cons_zero, Act.put, List.setIfInBounds_toArray, List.set_cons_succ, List.set_cons_zero]
      have hb2' : Below w.heap.size w w2 := hId.trans hb2
      have hb3 : Below w.heap.size w w3 := hb2'.grown hg3 hb2'.size (fun k e => by cases e)
      have hrow : w3.ownsRow w.heap.size 30 1 (.slice (some ⟨w2.heap.size, 0, none⟩) n n) n (List.replicate n (Value.int .u32 0)) := by
        have h := ownsRow_base ho3 hb2'.size
        rwa [made_zeros] at h
      have hin : w3.ownsRow w.heap.size 5 1 (.slice A2 I.length c2) I.length (I.map (Value.int .u8)) := ownsRow_same (ownsRow_base ho2 (Nat.le_refl _)) fun k hk => hg3.block k (ho2.lt k hk).2 (fun e => by cases e)
      have hZ := Lib.hid (newAt (w := w) hn1 hn2 HIw.out hil hb3 hrow hin)
      clear hrun ho3 hg3 ho2 hb2 hb2' hb3 hrow hin
      go_wp2_with fail
      go_meet
      refine ⟨w3.heap.size, w2.heap.size, A2, c2, by kernel_rfl, ?_⟩
      with_reducible exact hZ.out
  case rest =>
  obtain ⟨p, g, A2, c2, rfl, hM, hbc, hA2⟩ := hcut
  have hmem : (newM [] n I).mem.length = n := by simp [newM]
  obtain ⟨c32, _⟩ := hM.cells
  have hpw := hM.lt
  have hmw := hM.mem
  rw [hmem] at hmw
  obtain ⟨cur, hgr, hcs⟩ : ∃ cur, wc.heap[g]? = some (.cells cur 30 (0, 0)) ∧ n ≤ cur.size := by
    rcases hmw.2 with ⟨e, _⟩ | ⟨g', cap', cur', e, h3, h4, h5, h6, h7, h8⟩
    · cases e
    · injection e with e1 e2 e3
      injection e1 with e1
      injection e1 with e1
      subst e1
      exact ⟨cur', h4, by omega⟩
  have hLc := HL.out.below hbc
  have HM := Lib.hid hM
  have HLc := Lib.hid hLc
  have hend : newM L n I = { newM [] n I with mem := L ++ (newM [] n I).mem.drop L.length } := by
    simp [newM]
  have Hend := Lib.hid hend
  have Hb := Lib.hid hbc
  have HA2 := Lib.hid hA2
  clear hM hLc hmw hend hbc hA2
  by_cases hz : L.length = 0
  · have hnil : L = [] := List.eq_nil_of_length_eq_zero hz
    subst hnil
    go_wp2_with (refine wpList_copy_nothing (o := ⟨some 32, _, _, _, _, _⟩) rfl (.tmp 30) (.tmp 31) _ _ rfl 30 Tryz.underlying50 u32_sizeM (some ⟨g, 0, none⟩) Aw n n 0 cw rfl rfl (by simp) ?_)
    go_ret2
    refine .inr ⟨Hok.out, p, .slice (some ⟨g, 0, none⟩) n n, A2, c2, rfl, ?_, Hb.out, HA2.out⟩
    exact HM.out
  · obtain ⟨bL, oL, e, hbL, hcL⟩ := HLc.out (by simp; omega)
    subst e
    have HcL := Lib.hid hcL
    have Hcp := Lib.hid (HM.out.copied (g := g) (cap := n) (by rw [hmem]) hgr (L := L) (by rw [hmem]; exact hnL) HLw.out)
    have Hgl := Lib.hid (HM.out.foot_lt (show MFoot p (.slice (some ⟨g, 0, none⟩) n n) (.slice none 0 0) g from .inr (.inl rfl))).1
    clear hcL
    go_wp2_with (refine wpList_copy_own (o := ⟨some 32, _, _, _, _, _⟩) rfl (.tmp 30) (.tmp 31) _ _ rfl 30 Tryz.underlying50 u32_sizeM g 0 n n ⟨bL, oL, none⟩ L.length cw rfl rfl cur 30 hgr (L.map (Value.int .u32)) (by rw [List.length_map]; exact (Nat.min_eq_left hnL).symm) (fun j v hj => (by rw [Addr.add_mk]; exact HcL.out j v hj)) (by rw [List.length_map]; omega) (by simp [Value.oneCell']) ?_)
    go_ret2
    refine .inr ⟨Hok.out, p, .slice (some ⟨g, 0, none⟩) n n, A2, c2, rfl, ?_, ?_, HA2.out⟩
    · rw [Hend.out]
      have hc := Hcp.out
      rw [List.take_zero, List.nil_append, Nat.zero_add, List.length_map] at hc
      exact hc
    · exact below_setRow Hb.out Hgl.out _

end Go.Proofs.YtlldagdhlfpihaaGreatDoor
end
