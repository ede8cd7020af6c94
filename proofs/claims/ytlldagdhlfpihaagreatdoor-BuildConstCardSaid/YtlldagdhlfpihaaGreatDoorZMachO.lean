/- MachA, MachN, MachO: joined.  The machine of package mach: walks of is, put, fell, word, next. -/
import Derived.Test.YtlldagdhlfpihaaGreatDoorZMachB
import Derived.Test.YtlldagdhlfpihaaGreatDoorZOwn
import Derived.Test.YtlldagdhlfpihaaGreatDoorProg
import Derived.Test.YtlldagdhlfpihaaGreatDoorZMachM
import Derived.Deep.DeepCutAuto
section
set_option linter.unusedVariables false
set_option linter.unusedSimpArgs false
set_option linter.unusedSectionVars false
namespace Go.Proofs.YtlldagdhlfpihaaGreatDoor
open Go.RowKit

theorem mach_wide (n : Int) (w : World) : Calls Tryz.prog 91 #[.int .i64 n] w fun e w' => e = .returned (.int .u32 (S.u32m n)) ∧ w = w' := by
  go_enter Tryz.func91, Tryz.ntmps91
  go_wp2
  go_ret
  refine ⟨ret_int ?_, rfl⟩
  simp only [S.u32m, wrap32]
  omega
def tv (b : Bool) : Int := if b = true then 1 else 0
theorem tv_truth (p : Prop) [Decidable p] : tv (decide p) = S.truth p := by simp [tv, S.truth]
theorem mach_truth (b : Bool) (w : World) : Calls Tryz.prog 131 #[.bool b] w fun e w' => e = .returned (.int .u32 (tv b)) ∧ w = w' := by
  cases b
  all_goals
    go_enter Tryz.func131, Tryz.ntmps131
    go_wp2
    go_ret
    exact ⟨rfl, rfl⟩
theorem mach_goes (op a b : Int) (w : World) (a0 : 0 ≤ a) (a1 : a ≤ 4294967295) (b0 : 0 ≤ b) (b1 : b ≤ 4294967295) :
    Calls Tryz.prog 93 #[.int .i64 op, .int .u32 a, .int .u32 b] w fun e w' => e = .returned (.bool (S.goes op a b)) ∧ w = w' := by
  have ha := sgn_wrap a0 a1
  have hb := sgn_wrap b0 b1
  go_enter Tryz.func93, Tryz.ntmps93
  go_wp2
  all_goals
    go_ret
    refine ⟨ret_bool ?_, rfl⟩
    first
      | grind [S.goes]
      | simp_all [S.goes]

theorem bits_Mul32 (a b : Int) (w : World) (a0 : 0 ≤ a) (a1 : a ≤ 4294967295) (b0 : 0 ≤ b) (b1 : b ≤ 4294967295) :
    Calls Tryz.prog 130 #[.int .u32 a, .int .u32 b] w fun e w' => e = .returned (.tuple #[.int .u32 (a * b / 4294967296), .int .u32 (S.u32m (a * b))]) ∧ w = w' := by
  have m0 : 0 ≤ a * b := Int.mul_nonneg a0 b0
  have m1 : a * b ≤ 4294967295 * 4294967295 := Int.mul_le_mul a1 b1 b0 (by omega)
  go_enter Tryz.func130, Tryz.ntmps130
  go_wp2_with fail
  go_ret2
  exact ⟨by simp [S.u32m], rfl⟩

theorem reck_1 (op a b : Int) (w : World) (a0 : 0 ≤ a) (a1 : a ≤ 4294967295) (b0 : 0 ≤ b) (b1 : b ≤ 4294967295) (ho : 1 ≤ op ∧ op ≤ 14) (hz : ¬ (b = 0 ∧ (op = 5 ∨ op = 6))) :
    Calls Tryz.prog 90 #[.int .i64 op, .int .u32 a, .int .u32 b] w fun e w' => e = .returned (.tuple #[.int .u32 (S.alu op a b), .bool true]) ∧ w = w' := by
  have hc : op = 5 ∨ op = 6 ∨ op = 4 ∨ op = 13 ∨ op = 14 ∨ op = 1 ∨ op = 2 ∨ op = 3 ∨ op = 7 ∨ op = 8 ∨ op = 9 ∨ op = 10 ∨ op = 11 ∨ op = 12 := by omega
  have ha := sgn_wrap a0 a1
  have hb := sgn_wrap b0 b1
  have hsh := u32_mask 5 b 32 31 rfl rfl (by omega) b0 (by omega)
  have hs0 : 0 ≤ b % 32 := by omega
  have hs1 : b % 32 ≤ 31 := by omega
  have Hz := Lib.hid hz
  clear hz ho
  rcases hc with rfl | rfl | rfl | rfl | rfl | rfl | rfl | rfl | rfl | rfl | rfl | rfl | rfl | rfl
  · have hbz : ¬ b = 0 := by have := Hz.out; omega
    have hbn : (b == 0) = false := by simpa using hbz
    have hb1' : 1 ≤ b := by omega
    have q0 : 0 ≤ a / b := Int.ediv_nonneg a0 b0
    have q1 : a / b ≤ 4294967295 := by
      have := Int.ediv_le_self b a0
      omega
    go_enter Tryz.func90, Tryz.ntmps90
    go_wp2_with fail
    go_ret2
    exact ⟨by simp [S.alu], rfl⟩
  · have hbz : ¬ b = 0 := by have := Hz.out; omega
    have hbn : (b == 0) = false := by simpa using hbz
    have hb1' : 1 ≤ b := by omega
    go_enter Tryz.func90, Tryz.ntmps90
    go_wp2_with fail
    go_ret2
    exact ⟨by simp [S.alu], rfl⟩
  · go_enter Tryz.func90, Tryz.ntmps90
    go_wp2_with fail
    refine (bits_Mul32 _ _ _ a0 a1 b0 b1).mono ?_
    rintro e w' ⟨rfl, rfl⟩
    go_wp2_with fail
    go_ret2
    exact ⟨by simp [S.alu], rfl⟩
  · go_enter Tryz.func90, Tryz.ntmps90
    go_wp2_with fail
    refine (mach_truth _ _).mono ?_
    rintro e w' ⟨rfl, rfl⟩
    go_wp2_with fail
    go_ret2
    exact ⟨by simp [S.alu, tv_truth], rfl⟩
  · go_enter Tryz.func90, Tryz.ntmps90
    go_wp2_with fail
    refine (mach_truth _ _).mono ?_
    rintro e w' ⟨rfl, rfl⟩
    go_wp2_with fail
    go_ret2
    exact ⟨by simp [S.alu, tv_truth], rfl⟩
  all_goals
    go_enter Tryz.func90, Tryz.ntmps90
    go_wp2_with fail
    go_ret2
    exact ⟨by simp [S.alu, S.u32m], rfl⟩

theorem reck_0 (op a : Int) (w : World) (ho : op = 5 ∨ op = 6) :
    Calls Tryz.prog 90 #[.int .i64 op, .int .u32 a, .int .u32 0] w fun e w' => e = .returned (.tuple #[.int .u32 0, .bool false]) ∧ w = w' := by
  rcases ho with rfl | rfl
  all_goals
    go_enter Tryz.func90, Tryz.ntmps90
    go_wp2_with fail
    go_ret2
    exact ⟨rfl, rfl⟩
theorem reck_2 (op a b : Int) (w : World) (a0 : 0 ≤ a) (a1 : a ≤ 4294967295) (b0 : 0 ≤ b) (b1 : b ≤ 4294967295) (ho : 15 ≤ op ∧ op ≤ 22) :
    Calls Tryz.prog 90 #[.int .i64 op, .int .u32 a, .int .u32 b] w fun e w' => e = .returned (.tuple #[.int .u32 (S.alu (S.like op) a b), .bool true]) ∧ w = w' := by
  have hc : op = 22 ∨ op = 15 ∨ op = 16 ∨ op = 17 ∨ op = 18 ∨ op = 19 ∨ op = 20 ∨ op = 21 := by omega
  have ha := sgn_wrap a0 a1
  have hb := sgn_wrap b0 b1
  have hsh := u32_mask 5 b 32 31 rfl rfl (by omega) b0 (by omega)
  have hs0 : 0 ≤ b % 32 := by omega
  have hs1 : b % 32 ≤ 31 := by omega
  clear ho
  rcases hc with rfl | rfl | rfl | rfl | rfl | rfl | rfl | rfl
  · go_enter Tryz.func90, Tryz.ntmps90
    go_wp2_with fail
    refine (mach_truth _ _).mono ?_
    rintro e w' ⟨rfl, rfl⟩
    go_wp2_with fail
    go_ret2
    exact ⟨by simp [S.alu, S.like, tv_truth], rfl⟩
  all_goals
    go_enter Tryz.func90, Tryz.ntmps90
    go_wp2_with fail
    go_ret2
    exact ⟨by simp [S.alu, S.like, S.u32m], rfl⟩
theorem reck_3 (a b : Int) (w : World) (b0 : 0 ≤ b) (b1 : b ≤ 4294967295) :
    Calls Tryz.prog 90 #[.int .i64 23, .int .u32 a, .int .u32 b] w fun e w' => e = .returned (.tuple #[.int .u32 (S.u32m (b * 65536)), .bool true]) ∧ w = w' := by
  go_enter Tryz.func90, Tryz.ntmps90
  go_wp2_with fail
  go_ret2
  exact ⟨by simp [S.u32m], rfl⟩

end Go.Proofs.YtlldagdhlfpihaaGreatDoor
end

section
set_option linter.unusedVariables false
set_option linter.unusedSimpArgs false
set_option linter.unusedSectionVars false
namespace Go.Proofs.YtlldagdhlfpihaaGreatDoor
open Go.RowKit

section
variable {w w' : World} {B p : Nat} {vm vo : Value} {A : Option Addr} {c : Nat} {inp : List Int} {rd : Nat} {m : S.Mach}

/-! ### What writes make of it -/
theorem MAt.drewN (h : MAt w B p vm vo A c inp rd m) (n : Nat) : MAt (w.drewN n) B p vm vo A c inp rd m := h.keep (Nat.le_refl _) fun _ _ => rfl
theorem MAt.drew (h : MAt w B p vm vo A c inp rd m) : MAt w.drew B p vm vo A c inp rd m := h.keep (Nat.le_refl _) fun _ _ => rfl
theorem Only.drew {F : Nat → Prop} (w : World) : Only F w w.drew := ⟨rfl, rfl, rfl, Nat.le_refl _, fun _ _ _ => rfl⟩
theorem Only.drewN {F : Nat → Prop} (w : World) (n : Nat) : Only F w (w.drewN n) := ⟨rfl, rfl, rfl, Nat.le_refl _, fun _ _ _ => rfl⟩
theorem getD_set {l : List Int} {i j : Nat} {v : Int} : (l.set i v).getD j 0 = if i = j ∧ j < l.length then v else l.getD j 0 := by
  simp only [List.getD_eq_getElem?_getD, List.getElem?_set]
  by_cases h : i = j
  · subst h
    by_cases h2 : i < l.length
    · simp [h2]
    · simp [h2]
  · simp [h]
theorem ok_put (h : m.Ok) {d v : Int} (hd : 0 ≤ d) (hv : 0 ≤ v ∧ v ≤ 4294967295) : (m.put d v).Ok := by
  unfold S.Mach.put
  by_cases e : d = 0
  · rw [if_pos e]; exact h
  · rw [if_neg e]
    refine ⟨by simpa using h.regs, fun i => ?_, ?_, h.mem, h.memw, h.place0, h.place1, h.inp, h.outp, h.code0, h.code1⟩
    · show 0 ≤ (m.reg.set d.toNat v).getD i 0 ∧ (m.reg.set d.toNat v).getD i 0 ≤ 4294967295
      rw [getD_set]
      split
      · exact hv
      · exact h.word i
    · show (m.reg.set d.toNat v).getD 0 0 = 0
      rw [getD_set, if_neg (by omega)]
      exact h.zero
theorem MAt.put (h : MAt w B p vm vo A c inp rd m) {d v : Int} (h0 : 0 < d) (h1 : d < 32) (hv : 0 ≤ v ∧ v ≤ 4294967295) : MAt (w.setCell ⟨p, d.toNat, none⟩ (.int .u32 v)) B p vm vo A c inp rd (m.put d v) := by
  have hok := ok_put h.ok (d := d) (by omega) hv
  have e : m.put d v = { m with reg := m.reg.set d.toNat v } := by unfold S.Mach.put; rw [if_neg (by omega)]
  rw [e] at hok ⊢
  refine h.stored d.toNat _ hok rfl rfl h.left h.rdle ?_
  unfold mCells
  rw [List.set_append_left _ _ (by simp [h.ok.regs]; omega), List.map_set]
theorem set_hi (l : List Int) (hl : l.length = 32) (k : Nat) (t : List Value) (u : Value) : (l.map (Value.int .u32) ++ t).set (32 + k) u = l.map (Value.int .u32) ++ t.set k u := by
  rw [List.set_append_right _ _ (by simp [hl])]
  simp [hl]
theorem mset (h : m.Ok) (l k : Nat) (u : Value) : m.reg.map (Value.int .u32) ++ ([vm, .int .u32 m.place, .slice A l c, .int .i64 rd, vo, .int .i64 m.state, .int .u32 m.code, .int .i64 m.trap, .int .i64 m.steps] : List Value).set k u = (mCells m vm A l c rd vo).set (32 + k) u :=
  (set_hi m.reg h.regs k _ u).symm
theorem MAt.fell (h : MAt w B p vm vo A c inp rd m) (t : Int) : MAt ((w.setCell ⟨p, 37, none⟩ (.int .i64 2)).setCell ⟨p, 39, none⟩ (.int .i64 t)) B p vm vo A c inp rd (m.fell t) := by
  have ok1 : ({ m with state := 2 } : S.Mach).Ok := ⟨h.ok.regs, h.ok.word, h.ok.zero, h.ok.mem, h.ok.memw, h.ok.place0, h.ok.place1, h.ok.inp, h.ok.outp, h.ok.code0, h.ok.code1⟩
  have h1 : MAt (w.setCell ⟨p, 37, none⟩ (.int .i64 2)) B p vm vo A c inp rd { m with state := 2 } := h.stored 37 _ ok1 rfl rfl h.left h.rdle (mset h.ok _ 5 _)
  exact h1.stored 39 _ ⟨h.ok.regs, h.ok.word, h.ok.zero, h.ok.mem, h.ok.memw, h.ok.place0, h.ok.place1, h.ok.inp, h.ok.outp, h.ok.code0, h.ok.code1⟩ rfl rfl h.left h.rdle (mset ok1 _ 7 _)
theorem MAt.halted (h : MAt w B p vm vo A c inp rd m) {a : Int} (ha : 0 ≤ a ∧ a ≤ 4294967295) : MAt ((w.setCell ⟨p, 37, none⟩ (.int .i64 1)).setCell ⟨p, 38, none⟩ (.int .u32 a)) B p vm vo A c inp rd { m with state := 1, code := a } := by
  have ok1 : ({ m with state := 1 } : S.Mach).Ok := ⟨h.ok.regs, h.ok.word, h.ok.zero, h.ok.mem, h.ok.memw, h.ok.place0, h.ok.place1, h.ok.inp, h.ok.outp, h.ok.code0, h.ok.code1⟩
  have h1 : MAt (w.setCell ⟨p, 37, none⟩ (.int .i64 1)) B p vm vo A c inp rd { m with state := 1 } := h.stored 37 _ ok1 rfl rfl h.left h.rdle (mset h.ok _ 5 _)
  exact h1.stored 38 _ ⟨h.ok.regs, h.ok.word, h.ok.zero, h.ok.mem, h.ok.memw, h.ok.place0, h.ok.place1, h.ok.inp, h.ok.outp, ha.1, ha.2⟩ rfl rfl h.left h.rdle (mset ok1 _ 6 _)
theorem MAt.went (h : MAt w B p vm vo A c inp rd m) {tq : Int} (ht : 0 ≤ tq ∧ tq ≤ 4294967295) : MAt (w.setCell ⟨p, 33, none⟩ (.int .u32 tq)) B p vm vo A c inp rd { m with place := tq } :=
  h.stored 33 _ ⟨h.ok.regs, h.ok.word, h.ok.zero, h.ok.mem, h.ok.memw, ht.1, ht.2, h.ok.inp, h.ok.outp, h.ok.code0, h.ok.code1⟩ rfl rfl h.left h.rdle (mset h.ok _ 1 _)
theorem MAt.stepped (h : MAt w B p vm vo A c inp rd m) (n : Int) : MAt (w.setCell ⟨p, 40, none⟩ (.int .i64 n)) B p vm vo A c inp rd { m with steps := n } :=
  h.stored 40 _ ⟨h.ok.regs, h.ok.word, h.ok.zero, h.ok.mem, h.ok.memw, h.ok.place0, h.ok.place1, h.ok.inp, h.ok.outp, h.ok.code0, h.ok.code1⟩ rfl rfl h.left h.rdle (mset h.ok _ 8 _)
theorem MAt.readOn (h : MAt w B p vm vo A c inp rd m) {x : Int} {r : List Int} (hx : m.input = x :: r) : MAt (w.setCell ⟨p, 35, none⟩ (.int .i64 ((rd : Int) + 1))) B p vm vo A c inp (rd + 1) { m with input := r } := by
  have hl := h.left
  rw [hx] at hl
  have hlt : rd < inp.length := by
    refine Nat.lt_of_not_le fun hc => ?_
    rw [List.drop_eq_nil_of_le hc] at hl
    cases hl
  rw [List.drop_eq_getElem_cons hlt] at hl
  refine h.stored 35 _ ⟨h.ok.regs, h.ok.word, h.ok.zero, h.ok.mem, h.ok.memw, h.ok.place0, h.ok.place1, fun y hy => h.ok.inp y (by rw [hx]; exact List.mem_cons_of_mem _ hy), h.ok.outp, h.ok.code0, h.ok.code1⟩ rfl rfl (List.cons.inj hl).2 hlt ?_
  exact mset h.ok _ 3 _
/-- A word of the memory is written. -/
theorem MAt.sw (h : MAt w B p vm vo A c inp rd m) {g cap i : Nat} (hv : vm = .slice (some ⟨g, 0, none⟩) m.mem.length cap) {b : Int} (hb : 0 ≤ b ∧ b ≤ 4294967295) (hi : i < m.mem.length) :
    MAt (w.setCell ⟨g, i, none⟩ (.int .u32 b)) B p vm vo A c inp rd { m with mem := m.mem.set i b } := by
  subst hv
  obtain ⟨n1, n2⟩ := h.mem_ne (k := g) rfl
  obtain ⟨s1, s2⟩ := h.mem.stored i (.int .u32 b)
  have hsame : ∀ j, j ≠ g → (w.setCell ⟨g, i, none⟩ (.int .u32 b)).heap[j]? = w.heap[j]? := fun j hj => Below.heap_setCell _ _ _ _ hj
  refine ⟨⟨h.ok.regs, h.ok.word, h.ok.zero, by simpa using h.ok.mem, fun j => ?_, h.ok.place0, h.ok.place1, h.ok.inp, h.ok.outp, h.ok.code0, h.ok.code1⟩, h.low, ?_, ?_, ?_, ?_, h.left, h.rdle, h.inl, by simpa using h.low0, fun b o s e => by have := h.la b o s e; simpa [World.setCell] using this, h.d1, h.d2⟩
  · show 0 ≤ (m.mem.set i b).getD j 0 ∧ (m.mem.set i b).getD j 0 ≤ 4294967295
    rw [getD_set]
    split
    · exact hb
    · exact h.ok.memw j
  · obtain ⟨cs, h1, h2⟩ := h.blk
    exact ⟨cs, by rw [hsame p (Ne.symm n1)]; exact h1, h2⟩
  · simp only [List.length_set, List.map_set]
    exact s1
  · exact ownsRow_same h.out fun j hj => hsame j fun e => n2 (e ▸ hj)
  · exact h.rin.same (by simp [World.setCell]) fun b' o s e => hsame b' fun e2 => (h.d1 b' o s e).2.1 (by rw [e2]; rfl)
/-- The output grows: behind the append, and behind the store of what it gives. -/
theorem MAt.told (h : MAt w B p vm vo A c inp rd m) {vo' : Value} {x : Int} (hx : 0 ≤ x ∧ x ≤ 255) (ho : w'.ownsRow B 5 1 vo' (m.out.length + 1) (m.out.map (Value.int .u8) ++ [.int .u8 x])) (hg : w.grownBy w' vo.ownBlock)
    (hb : vo'.ownBlock = vo.ownBlock ∨ ∃ k, w.heap.size ≤ k ∧ vo'.ownBlock = some k) :
    MAt (w'.setCell ⟨p, 36, none⟩ vo') B p vm vo' A c inp rd { m with out := m.out ++ [x] } := by
  have hkeep : ∀ j, j < w.heap.size → vo.ownBlock ≠ some j → w'.heap[j]? = w.heap[j]? := fun j hj hn => hg.block j hj (fun e => hn e.symm)
  have hset : ∀ j, j ≠ p → (w'.setCell ⟨p, 36, none⟩ vo').heap[j]? = w'.heap[j]? := fun j hj => Below.heap_setCell _ _ _ _ hj
  have hlt := h.lt
  have hvop : vo'.ownBlock ≠ some p := by
    rcases hb with e | ⟨k, hk, e⟩
    · rw [e]; exact h.d2.2
    · rw [e]; intro q; cases q; omega
  refine ⟨⟨h.ok.regs, h.ok.word, h.ok.zero, h.ok.mem, h.ok.memw, h.ok.place0, h.ok.place1, h.ok.inp, fun y hy => ?_, h.ok.code0, h.ok.code1⟩, h.low, ?_, ?_, ?_, ?_, h.left, h.rdle, h.inl, h.low0, fun b o s e => by have h1 := h.la b o s e; have h2 := hg.size; simp only [World.setCell]; simp; omega, fun b o s e => ?_, h.d2.1, hvop⟩
  · rcases List.mem_append.1 hy with hy | hy
    · exact h.ok.outp y hy
    · rw [List.mem_singleton.1 hy]; exact hx
  · obtain ⟨cs, h1, h2⟩ := h.blk
    have h1' : w'.heap[p]? = some (.cells cs 118 (0, 0)) := by rw [hkeep p hlt h.d2.2]; exact h1
    refine ⟨cs.setIfInBounds 36 vo', heap_setCell_same w' p 36 cs _ vo' h1', ?_⟩
    rw [Array.toList_setIfInBounds, h2]
    exact (mset h.ok _ 4 _).symm
  · refine ownsRow_same h.mem fun j hj => ?_
    obtain ⟨n1, n2⟩ := h.mem_ne hj
    rw [hset j n1]
    exact hkeep j (h.mem.lt j hj).2 n2
  · show (w'.setCell ⟨p, 36, none⟩ vo').ownsRow B 5 1 vo' (m.out ++ [x]).length ((m.out ++ [x]).map (Value.int .u8))
    rw [List.length_append, List.map_append]
    exact ownsRow_setCell_other ho hvop _
  · exact h.rin.same (by have := hg.size; simpa [World.setCell] using this) fun b o s e => by
      obtain ⟨d1, d2, d3⟩ := h.d1 b o s e
      rw [hset b d1]
      exact hkeep b (h.la b o s e) d3
  · obtain ⟨d1, d2, d3⟩ := h.d1 b o s e
    refine ⟨d1, d2, ?_⟩
    rcases hb with e2 | ⟨k, hk, e2⟩
    · rw [e2]; exact d3
    · rw [e2]
      intro q
      cases q
      have := h.la b o s e
      omega
end

end Go.Proofs.YtlldagdhlfpihaaGreatDoor
end

section
set_option linter.unusedVariables false
set_option linter.unusedSimpArgs false
set_option linter.unusedSectionVars false
namespace Go.Proofs.YtlldagdhlfpihaaGreatDoor
open Go.RowKit

section
variable {w w' : World} {B p : Nat} {vm vo : Value} {A : Option Addr} {c : Nat} {inp : List Int} {rd : Nat} {m : S.Mach}

theorem mach_is (h : MAt w B p vm vo A c inp rd m) : Calls Tryz.prog 54 #[.pointer (some ⟨p, 0, none⟩)] w fun e w' => e = .returned (.bool true) ∧ w = w' := by
  obtain ⟨g, cap, rfl, hg, _, _⟩ := h.memv
  obtain ⟨c32, _⟩ := h.cells
  have hm := h.ok.mem
  have hlt := h.lt
  go_enter Tryz.func54, Tryz.ntmps54
  go_wp2_with fail
  go_ret
  exact ⟨rfl, rfl⟩

theorem mach_put (d v : Int) (h : MAt w B p vm vo A c inp rd m) (h0 : 0 ≤ d) (h1 : d < 32) (hv : 0 ≤ v ∧ v ≤ 4294967295) : Calls Tryz.prog 55 #[.pointer (some ⟨p, 0, none⟩), .int .i64 d, .int .u32 v] w
    fun e w' => e = .returned (.tuple #[]) ∧ MAt w' B p vm vo A c inp rd (m.put d v) ∧ Only (· = p) w w' := by
  have hlt := h.lt
  by_cases hd : d = 0
  · have d1 : (d != 0) = false := by simp [hd]
    go_enter Tryz.func55, Tryz.ntmps55
    go_wp2_with fail
    refine bodyPost_end (v := .tuple #[]) (by simp [results, Tryz.results55, go_sem]) rfl ⟨rfl, ?_, Only.refl _ _⟩
    rw [S.Mach.put, if_pos hd]
    exact h
  · have d1 : (d != 0) = true := by simpa using hd
    have hp := h.put (show 0 < d by omega) h1 hv
    obtain ⟨k, rfl⟩ : ∃ k : Nat, d = k := ⟨d.toNat, by omega⟩
    have hk : k < 32 := by omega
    have hf := h.fz k
    have hc := h.reg hk
    have Hp := Lib.hid hp
    clear hp hd
    go_enter Tryz.func55, Tryz.ntmps55
    go_wp2_with fail
    refine bodyPost_end (v := .tuple #[]) (by simp [results, Tryz.results55, go_sem]) rfl ⟨rfl, ?_, ?_⟩
    · exact Hp.out
    · exact Only.setCell (F := (· = p)) _ rfl _

theorem mach_fell (t : Int) (h : MAt w B p vm vo A c inp rd m) : Calls Tryz.prog 56 #[.pointer (some ⟨p, 0, none⟩), .int .i64 t] w
    fun e w' => e = .returned (.int .i64 2) ∧ MAt w' B p vm vo A c inp rd (m.fell t) ∧ Only (· = p) w w' := by
  have hp := h.fell t
  have hf := h.fz 37
  have hf' := h.fz 39
  obtain ⟨_, _, _, _, _, c37, _, c39, _⟩ := h.cells
  have Hp := Lib.hid hp
  have hlt := h.lt
  clear hp
  go_enter Tryz.func56, Tryz.ntmps56
  go_wp2_with fail
  go_ret
  refine ⟨rfl, Hp.out, ?_⟩
  exact (Only.setCell (F := (· = p)) _ rfl _).trans (Only.setCell (F := (· = p)) _ rfl _) (fun _ _ h => h)

theorem mach_word (a imm : Int) (h : MAt w B p vm vo A c inp rd m) (a0 : 0 ≤ a ∧ a ≤ 4294967295) : Calls Tryz.prog 92 #[.pointer (some ⟨p, 0, none⟩), .int .u32 a, .int .i64 imm] w
    fun e w' => e = .returned (.tuple #[.int .u32 (S.u32m (a + S.u32m imm)), .bool (decide (S.u32m (a + S.u32m imm) < m.mem.length))]) ∧ ∃ n, w' = w.drewN n := by
  obtain ⟨g, cap, rfl, hg, _, _⟩ := h.memv
  obtain ⟨c32, _⟩ := h.cells
  have hm := h.ok.mem
  have hlt := h.lt
  have hl := h.low0
  have hw := u32_wrap (a + S.u32m imm)
  have hu := u32_bd (a + S.u32m imm)
  go_enter Tryz.func92, Tryz.ntmps92
  go_wp2_with fail
  refine (mach_wide _ _).mono ?_
  rintro e w' ⟨rfl, rfl⟩
  generalize hU : S.u32m (a + S.u32m imm) = U at *
  obtain ⟨u0, u1⟩ := hu
  have hw1 : IntKind.u64.wrap U = U := by simp [IntKind.wrap, IntKind.signed, IntKind.bits]; omega
  have hw2 : IntKind.u64.wrap (m.mem.length : Int) = m.mem.length := by simp [IntKind.wrap, IntKind.signed, IntKind.bits]; omega
  go_wp2_with fail
  go_quiet (fail)
  go_wp2_with fail
  go_ret2
  exact ⟨by rw [hU]; rfl, _, rfl⟩

theorem mach_next_none (h : MAt w B p vm vo A c inp rd m) (hi : m.input = []) : Calls Tryz.prog 94 #[.pointer (some ⟨p, 0, none⟩)] w
    fun e w' => e = .returned (.int .u32 4294967295) ∧ ∃ n, w' = w.drewN n := by
  obtain ⟨_, _, c34, c35, _⟩ := h.cells
  have hl := h.left
  have hr := h.rdle
  have hz := h.inl
  rw [hi] at hl
  have he : rd = inp.length := by
    have := congrArg List.length hl
    simp at this
    omega
  have hd : ((rd : Int) == inp.length) = true := by simp [he]
  have hlt := h.lt
  clear hl hi he
  go_enter Tryz.func94, Tryz.ntmps94
  go_wp2_with fail
  go_quiet (fail)
  go_wp2_with fail
  go_ret
  exact ⟨rfl, _, rfl⟩

theorem mach_next_some (h : MAt w B p vm vo A c inp rd m) {x : Int} {r : List Int} (hi : m.input = x :: r) : Calls Tryz.prog 94 #[.pointer (some ⟨p, 0, none⟩)] w
    fun e w' => e = .returned (.int .u32 x) ∧ MAt w' B p vm vo A c inp (rd + 1) { m with input := r } ∧ Only (· = p) w w' := by
  obtain ⟨_, _, c34, c35, _⟩ := h.cells
  have hl := h.left
  have hz := h.inl
  have hN := h.readOn hi
  have HN := Lib.hid hN
  rw [hi] at hl
  have hlt : rd < inp.length := by
    refine Nat.lt_of_not_le fun hc => ?_
    rw [List.drop_eq_nil_of_le hc] at hl
    cases hl
  rw [List.drop_eq_getElem_cons hlt] at hl
  have hx : (inp.map (Value.int .u8))[rd]? = some (.int .u8 x) := by
    rw [List.getElem?_map, List.getElem?_eq_getElem hlt, (List.cons.inj hl).1]
    rfl
  have hxb : 0 ≤ x ∧ x ≤ 255 := h.ok.inp x (by rw [hi]; exact List.mem_cons_self ..)
  obtain ⟨b, off, e, hb, hc⟩ := h.rin (by simp; omega)
  have hcx := hc rd _ hx
  have hdb := h.d1 b off none e
  subst e
  have hd : ((rd : Int) == inp.length) = false := by simp; omega
  have hf := h.fz 35
  have hpl := h.lt
  have hbp := hdb.1
  obtain ⟨x0, x1⟩ := hxb
  have hw1 : IntKind.u32.wrap x = x := by simp [IntKind.wrap, IntKind.signed, IntKind.bits]; omega
  have hs1 : ((rd : Int) + 1 - 1) = rd := by omega
  have Hi := Lib.hid hi
  clear hl hi hN HN hc hx hdb
  go_enter Tryz.func94, Tryz.ntmps94
  go_wp2_with fail
  go_quiet (fail)
  go_upto_region 4 with fail
  have hN := (h.drewN nq).readOn Hi.out
  obtain ⟨_, _, n34, n35, _⟩ := hN.cells
  have hcx' : ((w.drewN nq).setCell ⟨p, 35, none⟩ (.int .i64 ((rd : Int) + 1))).cell? ⟨b, off + rd, none⟩ = some (.int .u8 x) := by
    rw [← hcx]
    exact World.cell?_of_block (w := w) (a := ⟨b, off + rd, none⟩) (Below.heap_setCell _ _ _ _ hbp)
  have hO : Only (· = p) w ((w.drewN nq).setCell ⟨p, 35, none⟩ (.int .i64 ((rd : Int) + 1))) := (Only.drewN w nq).trans (Only.setCell (F := (· = p)) _ rfl _) (fun _ _ h => h)
  have HN := Lib.hid hN
  generalize (w.drewN nq).setCell ⟨p, 35, none⟩ (.int .i64 ((rd : Int) + 1)) = w1 at *
  clear hN
  go_wp2_with fail
  go_quiet (fail)
  go_wp2_with fail
  go_ret
  exact ⟨rfl, HN.out.drewN _, hO.trans (Only.drewN _ _) (fun _ _ h => h)⟩
end

end Go.Proofs.YtlldagdhlfpihaaGreatDoor
end
