/- The law MachKnown: its walk. -/
import Derived.Test.YtbgdomnalimjnaaPartsA
set_option linter.unusedVariables false
set_option linter.unusedSimpArgs false
set_option linter.unusedSectionVars false
namespace Go.Proofs.Ytbgdomnalimjnaa
open Go.RowKit

/-! ### Machines that are none -/
def Off (v : Value) (w : World) : Prop := Calls Try.prog 48 #[v] w fun e w' => e = .returned (.bool false) ∧ w = w'
theorem off_nil (w : World) : Off (.pointer none) w := by
  unfold Off
  go_enter Try.func48, Try.ntmps48
  go_wp2_with fail
  go_ret
  exact ⟨rfl, rfl⟩
theorem off_empty {w : World} {p : Nat} (hp : p < w.heap.size) (hc : w.cell? ⟨p, 32, none⟩ = some (.slice none 0 0)) : Off (.pointer (some ⟨p, 0, none⟩)) w := by
  unfold Off
  go_enter Try.func48, Try.ntmps48
  go_wp2_with fail
  go_ret
  exact ⟨rfl, rfl⟩
theorem off_Mem {v : Value} {w : World} (i : Int) (h : Off v w) : Calls Try.prog 18 #[v, .int .i64 i] w fun e w' => e = .returned (.tuple #[.int .u32 0, .bool false]) ∧ w = w' := by
  go_enter Try.func18, Try.ntmps18
  go_wp2_with fail
  refine Calls.mono h ?_
  rintro e w2 ⟨rfl, rfl⟩
  go_wp2_with fail
  go_ret2
  exact ⟨rfl, rfl⟩
theorem off_Step {v : Value} {w : World} (h : Off v w) : Calls Try.prog 15 #[v] w fun e w' => e = .returned (.int .i64 2) ∧ w = w' := by
  go_enter Try.func15, Try.ntmps15
  go_wp2_with fail
  refine Calls.mono h ?_
  rintro e w2 ⟨rfl, rfl⟩
  go_wp2_with fail
  go_ret
  exact ⟨rfl, rfl⟩
theorem off_Reg {v : Value} {w : World} (i : Int) (h : Off v w) : Calls Try.prog 39 #[v, .int .i64 i] w fun e w' => e = .returned (.int .u32 0) ∧ w = w' := by
  go_enter Try.func39, Try.ntmps39
  go_wp2_with fail
  refine Calls.mono h ?_
  rintro e w2 ⟨rfl, rfl⟩
  go_wp2_with fail
  go_ret
  exact ⟨rfl, rfl⟩
theorem off_Put {v : Value} {w : World} (i u : Int) (h : Off v w) : Calls Try.prog 41 #[v, .int .i64 i, .int .u32 u] w fun e w' => e = .returned (.int .i64 1) ∧ w = w' := by
  go_enter Try.func41, Try.ntmps41
  go_wp2_with fail
  refine Calls.mono h ?_
  rintro e w2 ⟨rfl, rfl⟩
  go_wp2_with fail
  go_ret
  exact ⟨rfl, rfl⟩
theorem off_Set {v : Value} {w : World} (i u : Int) (h : Off v w) : Calls Try.prog 42 #[v, .int .i64 i, .int .u32 u] w fun e w' => e = .returned (.int .i64 1) ∧ w = w' := by
  go_enter Try.func42, Try.ntmps42
  go_wp2_with fail
  refine Calls.mono h ?_
  rintro e w2 ⟨rfl, rfl⟩
  go_wp2_with fail
  go_ret
  exact ⟨rfl, rfl⟩
theorem off_Go {v : Value} {w : World} (u : Int) (h : Off v w) : Calls Try.prog 38 #[v, .int .u32 u] w fun e w' => e = .returned (.int .i64 1) ∧ w = w' := by
  go_enter Try.func38, Try.ntmps38
  go_wp2_with fail
  refine Calls.mono h ?_
  rintro e w2 ⟨rfl, rfl⟩
  go_wp2_with fail
  go_ret
  exact ⟨rfl, rfl⟩
theorem off_Copy {v : Value} {w : World} (h : Off v w) : Calls Try.prog 34 #[v] w fun e w' => e = .returned (.pointer none) ∧ w = w' := by
  go_enter Try.func34, Try.ntmps34
  go_wp2_with fail
  refine Calls.mono h ?_
  rintro e w2 ⟨rfl, rfl⟩
  go_wp2_with fail
  go_ret
  exact ⟨rfl, rfl⟩
theorem off_Steps {v : Value} {w : World} (h : Off v w) : Calls Try.prog 36 #[v] w fun e w' => e = .returned (.int .i64 0) ∧ w = w' := by
  go_enter Try.func36, Try.ntmps36
  go_wp2_with fail
  refine Calls.mono h ?_
  rintro e w2 ⟨rfl, rfl⟩
  go_wp2_with fail
  go_ret
  exact ⟨rfl, rfl⟩
theorem off_Trap {v : Value} {w : World} (h : Off v w) : Calls Try.prog 46 #[v] w fun e w' => e = .returned (.int .i64 0) ∧ w = w' := by
  go_enter Try.func46, Try.ntmps46
  go_wp2_with fail
  refine Calls.mono h ?_
  rintro e w2 ⟨rfl, rfl⟩
  go_wp2_with fail
  go_ret
  exact ⟨rfl, rfl⟩
theorem off_Code {v : Value} {w : World} (h : Off v w) : Calls Try.prog 45 #[v] w fun e w' => e = .returned (.int .u32 0) ∧ w = w' := by
  go_enter Try.func45, Try.ntmps45
  go_wp2_with fail
  refine Calls.mono h ?_
  rintro e w2 ⟨rfl, rfl⟩
  go_wp2_with fail
  go_ret
  exact ⟨rfl, rfl⟩
theorem off_Run {v : Value} {w : World} (i : Int) (h : Off v w) : Calls Try.prog 35 #[v, .int .i64 i] w fun e w' => e = .returned (.int .i64 2) ∧ w = w' := by
  go_enter Try.func35, Try.ntmps35
  go_wp2_with fail
  refine Calls.mono h ?_
  rintro e w2 ⟨rfl, rfl⟩
  go_wp2_with fail
  go_ret
  exact ⟨rfl, rfl⟩
theorem off_Out {v : Value} {w : World} (h : Off v w) : Calls Try.prog 37 #[v] w fun e w' => e = .returned (.slice none 0 0) ∧ w = w' := by
  go_enter Try.func37, Try.ntmps37
  go_wp2_with fail
  refine Calls.mono h ?_
  rintro e w2 ⟨rfl, rfl⟩
  go_wp2_with fail
  go_ret
  exact ⟨rfl, rfl⟩
theorem off_Place {v : Value} {w : World} (h : Off v w) : Calls Try.prog 19 #[v] w fun e w' => e = .returned (.int .u32 0) ∧ w = w' := by
  go_enter Try.func19, Try.ntmps19
  go_wp2_with fail
  refine Calls.mono h ?_
  rintro e w2 ⟨rfl, rfl⟩
  go_wp2_with fail
  go_ret
  exact ⟨rfl, rfl⟩
theorem off_State {v : Value} {w : World} (h : Off v w) : Calls Try.prog 21 #[v] w fun e w' => e = .returned (.int .i64 2) ∧ w = w' := by
  go_enter Try.func21, Try.ntmps21
  go_wp2_with fail
  refine Calls.mono h ?_
  rintro e w2 ⟨rfl, rfl⟩
  go_wp2_with fail
  go_ret
  exact ⟨rfl, rfl⟩

section
variable {w w' : World} {B : Nat} {x y z : Mc} {l r : List Mc}
theorem Fam.fresh (h : Fam w B l) (hb : Below w.heap.size w w') (hB : B ≤ w.heap.size) (hy : y.at_ w' w.heap.size) (hA : ∀ k o t, y.A = some ⟨k, o, t⟩ → w.heap.size ≤ k) : Fam w' B (y :: l) := by
  have hyf : ∀ k, y.foot k → w.heap.size ≤ k := fun k hk => (MAt.foot_lt hy hk).1
  refine ⟨fun z hz => ?_, List.pairwise_cons.2 ⟨fun z hz => ⟨fun k a b => ?_, fun k a b => ?_, fun k a b => ?_⟩, h.off⟩⟩
  · rcases List.mem_cons.1 hz with rfl | hz
    · exact MAt.base hy hB
    · exact MAt.below (h.at_ z hz) hb
  · have h1 := hyf k a
    have h2 := (MAt.foot_lt (h.at_ z hz) b).2
    omega
  · obtain ⟨o, t, e⟩ := b
    have h1 := hyf k a
    have h2 := MAt.la (h.at_ z hz) k o t e
    omega
  · obtain ⟨o, t, e⟩ := a
    have h1 := hA k o t e
    have h2 := (MAt.foot_lt (h.at_ z hz) b).2
    omega
theorem Fam.rot6 {a b c d e f : Mc} (h : Fam w B [a, b, c, d, e, f]) : Fam w B [f, a, b, c, d, e] := h.perm (List.perm_append_comm (l₁ := [a, b, c, d, e]) (l₂ := [f]))
theorem reads_noneW (w : World) (B : Nat) : Reads w B none (([] : List Int).map (Value.int .u32)) := fun hp => by simp at hp
theorem fam_nil (w : World) (B : Nat) : Fam w B [] := ⟨fun x hx => (by simp at hx), List.Pairwise.nil⟩
theorem fam_new (h : Fam w B l) (hB : B ≤ w.heap.size) {Aw Ai : Option Addr} {cw ci k kn : Nat} {L I : List Int} {n : Nat} (hL : Reads w w.heap.size Aw (L.map (Value.int .u32))) (hI : Reads w w.heap.size Ai (I.map (Value.int .u8))) (hk : L.length = k) (hki : I.length = kn) (hl : k ≤ 200) (hil : kn ≤ 50)
    (hLw : ∀ x ∈ L, 0 ≤ x ∧ x ≤ 4294967295) (hIw : ∀ x ∈ I, 0 ≤ x ∧ x ≤ 255) (hs : k ≤ n ∧ 1 ≤ n ∧ n ≤ 1000) (sz : Int) (hsz : sz = n) :
    Calls Try.prog 43 #[.slice Aw k cw, .int .i64 sz, .slice Ai kn ci] w fun e w' => ∃ y : Mc, e = .returned (.tuple #[.pointer (some ⟨y.p, 0, none⟩), .int .i64 0]) ∧ y.m = newM L n I ∧ Fam w' B (y :: l) ∧ Below B w w' := by
  subst hk hki hsz
  refine (mach_New Aw Ai cw ci L I n w hL hI hl hil hLw hIw).mono ?_
  rintro e w2 (⟨hno, _⟩ | ⟨_, p, vm, A, c, rfl, hM, hb, hA⟩)
  · exact absurd (show sizeOk L.length n from ⟨by omega, by omega, by omega⟩) hno
  · exact ⟨⟨p, vm, .slice none 0 0, A, c, I, 0, _⟩, rfl, rfl, h.fresh hb hB hM hA, hb.mono hB⟩
theorem at_Code {p : Nat} {a : Int} (hx : x.at_ w B) (hp : x.p = p) (e : x.m.code = a) : Calls Try.prog 45 #[.pointer (some ⟨p, 0, none⟩)] w fun e w' => e = .returned (.int .u32 a) ∧ w = w' := by
  subst hp e
  exact mach_Code hx
theorem at_Trap {p : Nat} {a : Int} (hx : x.at_ w B) (hp : x.p = p) (e : x.m.trap = a) : Calls Try.prog 46 #[.pointer (some ⟨p, 0, none⟩)] w fun e w' => e = .returned (.int .i64 a) ∧ w = w' := by
  subst hp e
  exact mach_Trap hx
theorem at_Out1 {p : Nat} (hx : x.at_ w B) (hp : x.p = p) (e : x.m.out = [65]) : Calls Try.prog 37 #[.pointer (some ⟨p, 0, none⟩)] w fun e w' => (∃ A' c', e = .returned (.slice A' 1 c') ∧ (convert 23 9 (.slice A' 1 c')).run Try.prog w' = .ok (.string ⟨#[65]⟩) w') ∧ Below w.heap.size w w' := by
  subst hp
  refine (mach_Out hx (by rw [e]; decide)).mono ?_
  rintro e' w2 ⟨A', c', rfl, ho, h⟩
  have hs := conv_row ho
  rw [e] at hs
  rw [e]
  exact ⟨⟨A', c', rfl, hs⟩, h⟩
end

theorem bytes_lit (w : World) (L : List Int) (n : Nat) (hn : L.length = n) : Reads (w.alloc (.cells (L.map (Value.int .u8)).toArray 5)) (w.alloc (.cells (L.map (Value.int .u8)).toArray 5)).heap.size (some ⟨w.heap.size, 0, none⟩) (L.map (Value.int .u8)) := fun _ => by
  obtain ⟨x1, x2, x3⟩ := one_allocM w (L.map (Value.int .u8)).toArray 5
  refine ⟨w.heap.size, 0, rfl, by omega, fun i x hx => ?_⟩
  rw [blk_cellM x1]
  simpa using hx

def kW : List Int := [S.wordOf ⟨15, 4, 0, 0, 65⟩, S.wordOf ⟨35, 0, 4, 0, 0⟩, S.wordOf ⟨36, 0, 0, 0, 0⟩, S.wordOf ⟨5, 4, 0, 0, 0⟩, S.wordOf ⟨24, 4, 0, 0, 100⟩, S.wordOf ⟨34, 4, 0, 0, 0⟩, S.wordOf ⟨36, 0, 4, 0, 0⟩]
theorem k_words : ∀ x ∈ kW, 0 ≤ x ∧ x ≤ 4294967295 := by decide +kernel
def kM1 : S.Mach := newM [S.wordOf ⟨15, 4, 0, 0, 65⟩, S.wordOf ⟨35, 0, 4, 0, 0⟩, S.wordOf ⟨36, 0, 0, 0, 0⟩] 10 []
def kM2 : S.Mach := newM [S.wordOf ⟨5, 4, 0, 0, 0⟩] 10 []
def kM3 : S.Mach := newM [S.wordOf ⟨24, 4, 0, 0, 100⟩] 100 []
def kM4 : S.Mach := newM [0] 1 []
def kM5 : S.Mach := newM [S.wordOf ⟨34, 4, 0, 0, 0⟩, S.wordOf ⟨36, 0, 4, 0, 0⟩] 2 []
def kM6 : S.Mach := newM [S.wordOf ⟨34, 4, 0, 0, 0⟩, S.wordOf ⟨36, 0, 4, 0, 0⟩] 2 [7]
theorem k_1 : (kM1.steps_ 10).state = 1 ∧ (kM1.steps_ 10).code = 0 ∧ (kM1.steps_ 10).out = [65] ∧ (kM1.steps_ 10).steps = 3 := by refine ⟨?_, ?_, ?_, ?_⟩ <;> decide +kernel
theorem k_2 : (kM2.steps_ 10).state = 2 ∧ (kM2.steps_ 10).trap = 4 ∧ (kM2.steps_ 10).steps = 0 := by refine ⟨?_, ?_, ?_⟩ <;> decide +kernel
theorem k_3 : (kM3.steps_ 1).state = 2 ∧ (kM3.steps_ 1).trap = 2 := by refine ⟨?_, ?_⟩ <;> decide +kernel
theorem k_4 : kM4.step.state = 2 ∧ kM4.step.trap = 1 := by refine ⟨?_, ?_⟩ <;> decide +kernel
theorem k_5 : (kM5.steps_ 10).state = 1 ∧ (kM5.steps_ 10).code = 4294967295 := by refine ⟨?_, ?_⟩ <;> decide +kernel
theorem k_6 : (kM6.steps_ 10).state = 1 ∧ (kM6.steps_ 10).code = 7 ∧ (kM6.steps_ 10).out.length = 0 ∧ (kM6.steps_ 10).steps = 2 := by refine ⟨?_, ?_, ?_, ?_⟩ <;> decide +kernel

set_option maxRecDepth 100000 in
set_option maxHeartbeats 1000000 in
theorem law_MachKnown (w : World) : Calls Try.prog 12 #[] w fun e w' => e = .returned (.bool true) ∧ Below w.heap.size w w' := by
  have r0 := fun w => law2_word 15 4 0 0 65 w
  have r1 := fun w => law2_word 35 0 4 0 0 w
  have r2 := fun w => law2_word 36 0 0 0 0 w
  have r3 := fun w => law2_word 5 4 0 0 0 w
  have r4 := fun w => law2_word 24 4 0 0 100 w
  have r5 := fun w => law2_word 34 4 0 0 0 w
  have r6 := fun w => law2_word 36 0 4 0 0 w
  have hkw := k_words
  unfold kW at hkw
  have d1 : kM1 = newM [S.wordOf ⟨15, 4, 0, 0, 65⟩, S.wordOf ⟨35, 0, 4, 0, 0⟩, S.wordOf ⟨36, 0, 0, 0, 0⟩] 10 [] := rfl
  have d2 : kM2 = newM [S.wordOf ⟨5, 4, 0, 0, 0⟩] 10 [] := rfl
  have d3 : kM3 = newM [S.wordOf ⟨24, 4, 0, 0, 100⟩] 100 [] := rfl
  have d5 : kM5 = newM [S.wordOf ⟨34, 4, 0, 0, 0⟩, S.wordOf ⟨36, 0, 4, 0, 0⟩] 2 [] := rfl
  have d6 : kM6 = newM [S.wordOf ⟨34, 4, 0, 0, 0⟩, S.wordOf ⟨36, 0, 4, 0, 0⟩] 2 [7] := rfl
  generalize S.wordOf ⟨15, 4, 0, 0, 65⟩ = a0 at *
  generalize S.wordOf ⟨35, 0, 4, 0, 0⟩ = a1 at *
  generalize S.wordOf ⟨36, 0, 0, 0, 0⟩ = a2 at *
  generalize S.wordOf ⟨5, 4, 0, 0, 0⟩ = a3 at *
  generalize S.wordOf ⟨24, 4, 0, 0, 100⟩ = a4 at *
  generalize S.wordOf ⟨34, 4, 0, 0, 0⟩ = a5 at *
  generalize S.wordOf ⟨36, 0, 4, 0, 0⟩ = a6 at *
  have R0 := Lib.hid r0
  have R1 := Lib.hid r1
  have R2 := Lib.hid r2
  have R3 := Lib.hid r3
  have R4 := Lib.hid r4
  have R5 := Lib.hid r5
  have R6 := Lib.hid r6
  have D1 := Lib.hid d1
  have D2 := Lib.hid d2
  have D3 := Lib.hid d3
  have D5 := Lib.hid d5
  have D6 := Lib.hid d6
  have HK := Lib.hid hkw
  clear r0 r1 r2 r3 r4 r5 r6 d1 d2 d3 d5 d6 hkw
  obtain ⟨b0, b1, b2, b3, b4, b5, b6⟩ : (0 ≤ a0 ∧ a0 ≤ 4294967295) ∧ (0 ≤ a1 ∧ a1 ≤ 4294967295) ∧ (0 ≤ a2 ∧ a2 ≤ 4294967295) ∧ (0 ≤ a3 ∧ a3 ≤ 4294967295) ∧ (0 ≤ a4 ∧ a4 ≤ 4294967295) ∧ (0 ≤ a5 ∧ a5 ≤ 4294967295) ∧ (0 ≤ a6 ∧ a6 ≤ 4294967295) := by
    have h := HK.out
    simp only [List.forall_mem_cons] at h
    exact ⟨h.1, h.2.1, h.2.2.1, h.2.2.2.1, h.2.2.2.2.1, h.2.2.2.2.2.1, h.2.2.2.2.2.2.1⟩
  go_enter Try.func12, Try.ntmps12
  have F0 : Hid (Fam w w.heap.size []) := Lib.hid (fam_nil w w.heap.size)
  have B0 : Hid (Below w.heap.size w w) := Lib.hid (Below.refl _ _)
  go_wp2_with fail
  refine (R0.out _).mono ?_
  rintro e w1 ⟨rfl, hb1⟩
  have F1 := Lib.hid (F0.out.below hb1)
  have B1 := Lib.hid (B0.out.trans (hb1.mono B0.out.size))
  clear hb1 F0 B0
  go_wp2_with fail
  refine (R1.out _).mono ?_
  rintro e w2 ⟨rfl, hb2⟩
  have F2 := Lib.hid (F1.out.below hb2)
  have B2 := Lib.hid (B1.out.trans (hb2.mono B1.out.size))
  clear hb2 F1 B1
  go_wp2_with fail
  refine (R2.out _).mono ?_
  rintro e w3 ⟨rfl, hb3⟩
  have F3 := Lib.hid (F2.out.below hb3)
  have B3 := Lib.hid (B2.out.trans (hb3.mono B2.out.size))
  clear hb3 F2 B2
  go_wp2_with fail
  have hal4 : Below w3.heap.size w3 (w3.alloc (.cells (([a0, a1, a2] : List Int).map (Value.int .u32)).toArray 34)) := (Below.refl _ _).alloc (Nat.le_refl _) _
  refine (fam_new (w := (w3.alloc (.cells (([a0, a1, a2] : List Int).map (Value.int .u32)).toArray 34))) (F3.out.below hal4) (Nat.le_trans B3.out.size hal4.size) (L := [a0, a1, a2]) (I := []) (n := 10) (k := 3) (kn := 0) (words_lit w3 [a0, a1, a2] 3 rfl) (reads_none _ _) rfl rfl (by decide) (by decide) (fun x hx => by simp only [List.mem_cons, List.not_mem_nil, or_false] at hx; rcases hx with rfl | rfl | rfl <;> first | assumption | omega) (by simp) (by decide) _ rfl).mono ?_
  rintro e w4 ⟨x1, rfl, hx1, hF4, hb4⟩
  have X1 : Hid (x1.m = kM1) := Lib.hid (by rw [hx1, D1.out])
  have B4 := Lib.hid ((B3.out.trans (hal4.mono B3.out.size)).trans hb4)
  have F4 := Lib.hid hF4
  clear hb4 F3 B3 hx1 hF4 hal4
  go_wp2_with fail
  refine (R3.out _).mono ?_
  rintro e w5 ⟨rfl, hb5⟩
  have F5 := Lib.hid (F4.out.below hb5)
  have B5 := Lib.hid (B4.out.trans (hb5.mono B4.out.size))
  clear hb5 F4 B4
  go_wp2_with fail
  have hal6 : Below w5.heap.size w5 (w5.alloc (.cells (([a3] : List Int).map (Value.int .u32)).toArray 34)) := (Below.refl _ _).alloc (Nat.le_refl _) _
  refine (fam_new (w := (w5.alloc (.cells (([a3] : List Int).map (Value.int .u32)).toArray 34))) (F5.out.below hal6) (Nat.le_trans B5.out.size hal6.size) (L := [a3]) (I := []) (n := 10) (k := 1) (kn := 0) (words_lit w5 [a3] 1 rfl) (reads_none _ _) rfl rfl (by decide) (by decide) (fun x hx => by obtain rfl := List.mem_singleton.1 hx; first | assumption | omega) (by simp) (by decide) _ rfl).mono ?_
  rintro e w6 ⟨x2, rfl, hx2, hF6, hb6⟩
  have X2 : Hid (x2.m = kM2) := Lib.hid (by rw [hx2, D2.out])
  have B6 := Lib.hid ((B5.out.trans (hal6.mono B5.out.size)).trans hb6)
  have F6 := Lib.hid hF6
  clear hb6 F5 B5 hx2 hF6 hal6
  go_wp2_with fail
  refine (R4.out _).mono ?_
  rintro e w7 ⟨rfl, hb7⟩
  have F7 := Lib.hid (F6.out.below hb7)
  have B7 := Lib.hid (B6.out.trans (hb7.mono B6.out.size))
  clear hb7 F6 B6
  go_wp2_with fail
  have hal8 : Below w7.heap.size w7 (w7.alloc (.cells (([a4] : List Int).map (Value.int .u32)).toArray 34)) := (Below.refl _ _).alloc (Nat.le_refl _) _
  refine (fam_new (w := (w7.alloc (.cells (([a4] : List Int).map (Value.int .u32)).toArray 34))) (F7.out.below hal8) (Nat.le_trans B7.out.size hal8.size) (L := [a4]) (I := []) (n := 100) (k := 1) (kn := 0) (words_lit w7 [a4] 1 rfl) (reads_none _ _) rfl rfl (by decide) (by decide) (fun x hx => by obtain rfl := List.mem_singleton.1 hx; first | assumption | omega) (by simp) (by decide) _ rfl).mono ?_
  rintro e w8 ⟨x3, rfl, hx3, hF8, hb8⟩
  have X3 : Hid (x3.m = kM3) := Lib.hid (by rw [hx3, D3.out])
  have B8 := Lib.hid ((B7.out.trans (hal8.mono B7.out.size)).trans hb8)
  have F8 := Lib.hid hF8
  clear hb8 F7 B7 hx3 hF8 hal8
  go_wp2_with fail
  have hal9 : Below w8.heap.size w8 (w8.alloc (.cells (([0] : List Int).map (Value.int .u32)).toArray 34)) := (Below.refl _ _).alloc (Nat.le_refl _) _
  refine (fam_new (w := (w8.alloc (.cells (([0] : List Int).map (Value.int .u32)).toArray 34))) (F8.out.below hal9) (Nat.le_trans B8.out.size hal9.size) (L := [0]) (I := []) (n := 1) (k := 1) (kn := 0) (words_lit w8 [0] 1 rfl) (reads_none _ _) rfl rfl (by decide) (by decide) (fun x hx => by obtain rfl := List.mem_singleton.1 hx; first | assumption | omega) (by simp) (by decide) _ rfl).mono ?_
  rintro e w9 ⟨x4, rfl, hx4, hF9, hb9⟩
  have X4 : Hid (x4.m = kM4) := Lib.hid (by rw [hx4]; rfl)
  have B9 := Lib.hid ((B8.out.trans (hal9.mono B8.out.size)).trans hb9)
  have F9 := Lib.hid hF9
  clear hb9 F8 B8 hx4 hF9 hal9
  go_wp2_with fail
  refine (R5.out _).mono ?_
  rintro e w10 ⟨rfl, hb10⟩
  have F10 := Lib.hid (F9.out.below hb10)
  have B10 := Lib.hid (B9.out.trans (hb10.mono B9.out.size))
  clear hb10 F9 B9
  go_wp2_with fail
  refine (R6.out _).mono ?_
  rintro e w11 ⟨rfl, hb11⟩
  have F11 := Lib.hid (F10.out.below hb11)
  have B11 := Lib.hid (B10.out.trans (hb11.mono B10.out.size))
  clear hb11 F10 B10
  go_wp2_with fail
  have hal12 : Below w11.heap.size w11 (w11.alloc (.cells (([a5, a6] : List Int).map (Value.int .u32)).toArray 34)) := (Below.refl _ _).alloc (Nat.le_refl _) _
  refine (fam_new (w := (w11.alloc (.cells (([a5, a6] : List Int).map (Value.int .u32)).toArray 34))) (F11.out.below hal12) (Nat.le_trans B11.out.size hal12.size) (L := [a5, a6]) (I := []) (n := 2) (k := 2) (kn := 0) (words_lit w11 [a5, a6] 2 rfl) (reads_none _ _) rfl rfl (by decide) (by decide) (fun x hx => by simp only [List.mem_cons, List.not_mem_nil, or_false] at hx; rcases hx with rfl | rfl <;> first | assumption | omega) (by simp) (by decide) _ rfl).mono ?_
  rintro e w12 ⟨x5, rfl, hx5, hF12, hb12⟩
  have X5 : Hid (x5.m = kM5) := Lib.hid (by rw [hx5, D5.out])
  have B12 := Lib.hid ((B11.out.trans (hal12.mono B11.out.size)).trans hb12)
  have F12 := Lib.hid hF12
  clear hb12 F11 B11 hx5 hF12 hal12
  go_wp2_with fail
  refine (R5.out _).mono ?_
  rintro e w13 ⟨rfl, hb13⟩
  have F13 := Lib.hid (F12.out.below hb13)
  have B13 := Lib.hid (B12.out.trans (hb13.mono B12.out.size))
  clear hb13 F12 B12
  go_wp2_with fail
  refine (R6.out _).mono ?_
  rintro e w14 ⟨rfl, hb14⟩
  have F14 := Lib.hid (F13.out.below hb14)
  have B14 := Lib.hid (B13.out.trans (hb14.mono B13.out.size))
  clear hb14 F13 B13
  go_wp2_with fail
  have hal15 : Below w14.heap.size w14 (w14.alloc (.cells (([a5, a6] : List Int).map (Value.int .u32)).toArray 34)) := (Below.refl _ _).alloc (Nat.le_refl _) _
  have ham15 : Below (w14.alloc (.cells (([a5, a6] : List Int).map (Value.int .u32)).toArray 34)).heap.size (w14.alloc (.cells (([a5, a6] : List Int).map (Value.int .u32)).toArray 34)) ((w14.alloc (.cells (([a5, a6] : List Int).map (Value.int .u32)).toArray 34)).alloc (.cells (([7] : List Int).map (Value.int .u8)).toArray 5)) := (Below.refl _ _).alloc (Nat.le_refl _) _
  have hr7 := bytes_lit (w14.alloc (.cells (([a5, a6] : List Int).map (Value.int .u32)).toArray 34)) [7] 1 rfl
  rw [show (w14.alloc (.cells (([a5, a6] : List Int).map (Value.int .u32)).toArray 34)).heap.size = w14.heap.size + 1 by simp] at hr7
  refine (fam_new (Ai := some ⟨w14.heap.size + 1, 0, none⟩) (w := ((w14.alloc (.cells (([a5, a6] : List Int).map (Value.int .u32)).toArray 34)).alloc (.cells (([7] : List Int).map (Value.int .u8)).toArray 5))) ((F14.out.below hal15).below ham15) (Nat.le_trans B14.out.size (Nat.le_trans hal15.size ham15.size)) (L := [a5, a6]) (I := [7]) (n := 2) (k := 2) (kn := 1) (((words_lit w14 [a5, a6] 2 rfl).below ham15).moreM ham15.size) hr7 rfl rfl (by decide) (by decide) (fun x hx => by simp only [List.mem_cons, List.not_mem_nil, or_false] at hx; rcases hx with rfl | rfl <;> first | assumption | omega) (fun x hx => by obtain rfl := List.mem_singleton.1 hx; omega) (by decide) _ rfl).mono ?_
  rintro e w15 ⟨x6, rfl, hx6, hF15, hb15⟩
  have X6 : Hid (x6.m = kM6) := Lib.hid (by rw [hx6, D6.out])
  have B15 := Lib.hid (((B14.out.trans (hal15.mono B14.out.size)).trans (ham15.mono (Nat.le_trans B14.out.size hal15.size))).trans hb15)
  have F15 := Lib.hid hF15
  clear hb15 F14 B14 hx6 hF15 hal15 ham15
  go_wp2_with (at_make; refine wpList_makeN rfl (.const (.int .i64 3)) (.const (.int .i64 3)) _ rfl w15.heap.size 34 u32_infoM Try.underlying22 rfl .i64 .i64 _ _ 3 rfl rfl rfl rfl (by decide) (by simp only [maxLen]; decide) (Nat.le_refl _) ?_; intro w16 ho16 hb16)
  refine (mach_New (some ⟨w15.heap.size, 0, none⟩) none 3 0 [0, 0, 0] [] 2 w16 (Reads.of_own (n := 3) ho16) (reads_none _ _) (by decide) (by decide) (fun x hx => by simp only [List.mem_cons, List.not_mem_nil, or_false] at hx; rcases hx with rfl | rfl | rfl <;> decide) (by simp)).mono ?_
  rintro e w17 (⟨_, rfl, rfl⟩ | ⟨hok, _⟩)
  rotate_left
  · exact absurd hok (fun h => absurd h.2.2 (by decide))
  have F16 := Lib.hid (F15.out.below hb16)
  have B16 := Lib.hid (B15.out.trans (hb16.mono B15.out.size))
  clear hb16 ho16 F15 B15
  go_wp2_with fail
  refine (mach_New none none 0 0 [] [] 0 w16 (reads_noneW _ _) (reads_none _ _) (by decide) (by decide) (by simp) (by simp)).mono ?_
  rintro e w17 (⟨_, rfl, rfl⟩ | ⟨hok, _⟩)
  rotate_left
  · exact absurd hok (fun h => absurd h.1 (by decide))
  go_wp2_with fail
  refine (fam_run 10 F16.out.rot6 rfl (by rw [X1.out]; exact (by decide : (0 : Nat) ≤ 500000)) (by rw [X1.out]; exact (by decide : (0 : Int) ≤ 0 ∧ (0 : Int) ≤ 500000)) (by decide)).mono ?_
  rintro e w17 ⟨y1, rfl, hm17, hp17, hF17, hb17⟩
  rw [X1.out] at hm17
  have hm17' : y1.m = kM1.steps_ 10 := hm17
  rw [hm17', k_1.1]
  have M1 := Lib.hid hm17'
  have Y1 := Lib.hid hp17
  have F17 := Lib.hid hF17
  have B17 := Lib.hid (B16.out.trans hb17)
  clear hm17 hm17' hp17 hF17 hb17 F16 B16
  go_wp2_with fail
  refine (at_Code (F17.out.at_ y1 (by simp)) Y1.out (show y1.m.code = 0 by rw [M1.out]; exact k_1.2.1)).mono ?_
  rintro e _ ⟨rfl, rfl⟩
  go_wp2_with fail
  refine (at_Out1 (F17.out.at_ y1 (by simp)) Y1.out (by rw [M1.out]; exact k_1.2.2.1)).mono ?_
  rintro e w18 ⟨⟨A0, c0, rfl, hs18⟩, hb18⟩
  have F18 := Lib.hid (F17.out.below hb18)
  have B18 := Lib.hid (B17.out.trans (hb18.mono B17.out.size))
  clear hb18 F17 B17
  go_wp2_with fail
  refine (at_Steps (F18.out.at_ y1 (by simp)) Y1.out (show y1.m.steps = 3 by rw [M1.out]; exact k_1.2.2.2)).mono ?_
  rintro e _ ⟨rfl, rfl⟩
  clear hs18
  go_wp2_with fail
  refine (fam_run 10 F18.out.rot6 rfl (by rw [X2.out]; exact (by decide : (0 : Nat) ≤ 500000)) (by rw [X2.out]; exact (by decide : (0 : Int) ≤ 0 ∧ (0 : Int) ≤ 500000)) (by decide)).mono ?_
  rintro e w19 ⟨y2, rfl, hm19, hp19, hF19, hb19⟩
  rw [X2.out] at hm19
  have hm19' : y2.m = kM2.steps_ 10 := hm19
  rw [hm19', k_2.1]
  have M2 := Lib.hid hm19'
  have Y2 := Lib.hid hp19
  have F19 := Lib.hid hF19
  have B19 := Lib.hid (B18.out.trans hb19)
  clear hm19 hm19' hp19 hF19 hb19 F18 B18
  go_wp2_with fail
  refine (at_Trap (F19.out.at_ y2 (by simp)) Y2.out (show y2.m.trap = 4 by rw [M2.out]; exact k_2.2.1)).mono ?_
  rintro e _ ⟨rfl, rfl⟩
  go_wp2_with fail
  refine (at_Steps (F19.out.at_ y2 (by simp)) Y2.out (show y2.m.steps = 0 by rw [M2.out]; exact k_2.2.2)).mono ?_
  rintro e _ ⟨rfl, rfl⟩
  go_wp2_with fail
  refine (fam_run 1 F19.out.rot6 rfl (by rw [X3.out]; exact (by decide : (0 : Nat) ≤ 500000)) (by rw [X3.out]; exact (by decide : (0 : Int) ≤ 0 ∧ (0 : Int) ≤ 500000)) (by decide)).mono ?_
  rintro e w20 ⟨y3, rfl, hm20, hp20, hF20, hb20⟩
  rw [X3.out] at hm20
  have hm20' : y3.m = kM3.steps_ 1 := hm20
  rw [hm20', k_3.1]
  have M3 := Lib.hid hm20'
  have Y3 := Lib.hid hp20
  have F20 := Lib.hid hF20
  have B20 := Lib.hid (B19.out.trans hb20)
  clear hm20 hm20' hp20 hF20 hb20 F19 B19
  go_wp2_with fail
  refine (at_Trap (F20.out.at_ y3 (by simp)) Y3.out (show y3.m.trap = 2 by rw [M3.out]; exact k_3.2)).mono ?_
  rintro e _ ⟨rfl, rfl⟩
  go_wp2_with fail
  refine (fam_step F20.out.rot6 rfl (by rw [X4.out]; exact (by decide : (0 : Nat) ≤ 1000000)) (by rw [X4.out]; exact (by decide : (0 : Int) ≤ 0 ∧ (0 : Int) ≤ 1000000))).mono ?_
  rintro e w21 ⟨y4, rfl, hm21, hp21, hF21, hb21⟩
  rw [X4.out] at hm21
  have hm21' : y4.m = kM4.step := hm21
  rw [hm21', k_4.1]
  have M4 := Lib.hid hm21'
  have Y4 := Lib.hid hp21
  have F21 := Lib.hid hF21
  have B21 := Lib.hid (B20.out.trans hb21)
  clear hm21 hm21' hp21 hF21 hb21 F20 B20
  go_wp2_with fail
  refine (at_Trap (F21.out.at_ y4 (by simp)) Y4.out (show y4.m.trap = 1 by rw [M4.out]; exact k_4.2)).mono ?_
  rintro e _ ⟨rfl, rfl⟩
  go_wp2_with fail
  refine (fam_run 10 F21.out.rot6 rfl (by rw [X5.out]; exact (by decide : (0 : Nat) ≤ 500000)) (by rw [X5.out]; exact (by decide : (0 : Int) ≤ 0 ∧ (0 : Int) ≤ 500000)) (by decide)).mono ?_
  rintro e w22 ⟨y5, rfl, hm22, hp22, hF22, hb22⟩
  rw [X5.out] at hm22
  have hm22' : y5.m = kM5.steps_ 10 := hm22
  rw [hm22', k_5.1]
  have M5 := Lib.hid hm22'
  have Y5 := Lib.hid hp22
  have F22 := Lib.hid hF22
  have B22 := Lib.hid (B21.out.trans hb22)
  clear hm22 hm22' hp22 hF22 hb22 F21 B21
  go_wp2_with fail
  refine (at_Code (F22.out.at_ y5 (by simp)) Y5.out (show y5.m.code = 4294967295 by rw [M5.out]; exact k_5.2)).mono ?_
  rintro e _ ⟨rfl, rfl⟩
  go_wp2_with fail
  refine (fam_run 10 F22.out.rot6 rfl (by rw [X6.out]; exact (by decide : (0 : Nat) ≤ 500000)) (by rw [X6.out]; exact (by decide : (0 : Int) ≤ 0 ∧ (0 : Int) ≤ 500000)) (by decide)).mono ?_
  rintro e w23 ⟨y6, rfl, hm23, hp23, hF23, hb23⟩
  rw [X6.out] at hm23
  have hm23' : y6.m = kM6.steps_ 10 := hm23
  rw [hm23', k_6.1]
  have M6 := Lib.hid hm23'
  have Y6 := Lib.hid hp23
  have F23 := Lib.hid hF23
  have B23 := Lib.hid (B22.out.trans hb23)
  clear hm23 hm23' hp23 hF23 hb23 F22 B22
  go_wp2_with fail
  refine (at_Code (F23.out.at_ y6 (by simp)) Y6.out (show y6.m.code = 7 by rw [M6.out]; exact k_6.2.1)).mono ?_
  rintro e _ ⟨rfl, rfl⟩
  go_wp2_with fail
  refine (fam_run (-5) F23.out Y6.out (by rw [M6.out]; exact Nat.le_trans (Nat.le_of_eq k_6.2.2.1) (by decide)) (by rw [M6.out, k_6.2.2.2]; decide) (by decide)).mono ?_
  rintro e w24 ⟨z6, rfl, hm24, hp24, hF24, hb24⟩
  rw [M6.out] at hm24
  have hm24' : z6.m = kM6.steps_ 10 := hm24
  rw [hm24', k_6.1]
  have MZ6 := Lib.hid hm24'
  have YZ6 := Lib.hid hp24
  have F24 := Lib.hid hF24
  have B24 := Lib.hid (B23.out.trans hb24)
  clear hm24 hm24' hp24 hF24 hb24 F23 B23
  go_upto_region 17 with fail
  refine wp_forget (fun we => we.cell? ⟨w24.heap.size, 32, none⟩ = some (.slice none 0 0) ∧ w24.heap.size < we.heap.size ∧ Below w24.heap.size w24 we) ⟨by rw [blk_cellM (one_allocM _ _ _).1]; rfl, by rw [(one_allocM _ _ _).2.2]; omega, (one_allocM _ _ _).2.1⟩ ?_
  rintro we ⟨hc, hlt, hbe⟩
  have BE := Lib.hid (B24.out.trans (hbe.mono B24.out.size))
  have hE := Lib.hid (off_empty hlt hc)
  clear hc hbe F24 B24
  go_wp2_with fail
  refine (off_Mem 0 (off_nil _)).mono ?_
  rintro e _ ⟨rfl, rfl⟩
  go_upto_region 18 with fail
  try simp only [List.append_eq, List.cons_append, List.nil_append]
  go_wp2_with fail
  refine (off_Step (off_nil _)).mono ?_
  rintro e _ ⟨rfl, rfl⟩
  go_wp2_with fail
  refine (off_Run 3 hE.out).mono ?_
  rintro e _ ⟨rfl, rfl⟩
  go_wp2_with fail
  refine (off_Reg 1 (off_nil _)).mono ?_
  rintro e _ ⟨rfl, rfl⟩
  go_wp2_with fail
  refine (off_Set 1 1 hE.out).mono ?_
  rintro e _ ⟨rfl, rfl⟩
  go_wp2_with fail
  refine (off_Put 0 0 (off_nil _)).mono ?_
  rintro e _ ⟨rfl, rfl⟩
  go_wp2_with fail
  refine (off_Go 0 hE.out).mono ?_
  rintro e _ ⟨rfl, rfl⟩
  go_wp2_with fail
  refine (off_Copy (off_nil _)).mono ?_
  rintro e _ ⟨rfl, rfl⟩
  go_wp2_with fail
  refine (off_Out hE.out).mono ?_
  rintro e _ ⟨rfl, rfl⟩
  go_wp2_with fail
  refine (off_Steps (off_nil _)).mono ?_
  rintro e _ ⟨rfl, rfl⟩
  go_wp2_with fail
  refine (off_Trap (off_nil _)).mono ?_
  rintro e _ ⟨rfl, rfl⟩
  go_wp2_with fail
  refine (off_Code (off_nil _)).mono ?_
  rintro e _ ⟨rfl, rfl⟩
  go_wp2_with fail
  refine (off_Place hE.out).mono ?_
  rintro e _ ⟨rfl, rfl⟩
  go_wp2_with fail
  refine (off_State hE.out).mono ?_
  rintro e _ ⟨rfl, rfl⟩
  go_wp2_with fail
  refine (law2_works _).mono ?_
  rintro e wz ⟨rfl, hbz⟩
  go_wp2_with fail
  go_ret
  exact ⟨rfl, BE.out.trans (hbz.mono BE.out.size)⟩

end Go.Proofs.Ytbgdomnalimjnaa
