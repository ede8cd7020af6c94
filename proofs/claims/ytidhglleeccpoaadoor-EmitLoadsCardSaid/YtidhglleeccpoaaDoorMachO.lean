/- The machine of package mach: walks of is, put, fell, word, next. -/
import Derived.Test.YtidhglleeccpoaaDoorMachN
import Derived.Deep.DeepCutAuto
set_option linter.unusedVariables false
set_option linter.unusedSimpArgs false
set_option linter.unusedSectionVars false
namespace Go.Proofs.YtidhglleeccpoaaDoor
open Go.RowKit

section
variable {w w' : World} {B p : Nat} {vm vo : Value} {A : Option Addr} {c : Nat} {inp : List Int} {rd : Nat} {m : S.Mach}

theorem mach_is (h : MAt w B p vm vo A c inp rd m) : Calls Tryd.prog 21 #[.pointer (some ⟨p, 0, none⟩)] w fun e w' => e = .returned (.bool true) ∧ w = w' := by
  obtain ⟨g, cap, rfl, hg, _, _⟩ := h.memv
  obtain ⟨c32, _⟩ := h.cells
  have hm := h.ok.mem
  have hlt := h.lt
  go_enter Tryd.func21, Tryd.ntmps21
  go_wp2_with fail
  go_ret
  exact ⟨rfl, rfl⟩

theorem mach_put (d v : Int) (h : MAt w B p vm vo A c inp rd m) (h0 : 0 ≤ d) (h1 : d < 32) (hv : 0 ≤ v ∧ v ≤ 4294967295) : Calls Tryd.prog 70 #[.pointer (some ⟨p, 0, none⟩), .int .i64 d, .int .u32 v] w
    fun e w' => e = .returned (.tuple #[]) ∧ MAt w' B p vm vo A c inp rd (m.put d v) ∧ Only (· = p) w w' := by
  have hlt := h.lt
  by_cases hd : d = 0
  · have d1 : (d != 0) = false := by simp [hd]
    go_enter Tryd.func70, Tryd.ntmps70
    go_wp2_with fail
    refine bodyPost_end (v := .tuple #[]) (by simp [results, Tryd.results70, go_sem]) rfl ⟨rfl, ?_, Only.refl _ _⟩
    rw [S.Mach.put, if_pos hd]
    exact h
  · have d1 : (d != 0) = true := by simpa using hd
    have hp := h.put (show 0 < d by omega) h1 hv
    obtain ⟨k, rfl⟩ : ∃ k : Nat, d = k := ⟨d.toNat, by omega⟩
    have hk : k < 32 := by omega
    have hf := h.fz k
    have hc := h.reg hk
    have Hp := Lib.hid hp
    clear hp hd
    go_enter Tryd.func70, Tryd.ntmps70
    go_wp2_with fail
    refine bodyPost_end (v := .tuple #[]) (by simp [results, Tryd.results70, go_sem]) rfl ⟨rfl, ?_, ?_⟩
    · exact Hp.out
    · exact Only.setCell (F := (· = p)) _ rfl _

theorem mach_fell (t : Int) (h : MAt w B p vm vo A c inp rd m) : Calls Tryd.prog 53 #[.pointer (some ⟨p, 0, none⟩), .int .i64 t] w
    fun e w' => e = .returned (.int .i64 2) ∧ MAt w' B p vm vo A c inp rd (m.fell t) ∧ Only (· = p) w w' := by
  have hp := h.fell t
  have hf := h.fz 37
  have hf' := h.fz 39
  obtain ⟨_, _, _, _, _, c37, _, c39, _⟩ := h.cells
  have Hp := Lib.hid hp
  have hlt := h.lt
  clear hp
  go_enter Tryd.func53, Tryd.ntmps53
  go_wp2_with fail
  go_ret
  refine ⟨rfl, Hp.out, ?_⟩
  exact (Only.setCell (F := (· = p)) _ rfl _).trans (Only.setCell (F := (· = p)) _ rfl _) (fun _ _ h => h)

theorem mach_word (a imm : Int) (h : MAt w B p vm vo A c inp rd m) (a0 : 0 ≤ a ∧ a ≤ 4294967295) : Calls Tryd.prog 72 #[.pointer (some ⟨p, 0, none⟩), .int .u32 a, .int .i64 imm] w
    fun e w' => e = .returned (.tuple #[.int .u32 (S.u32m (a + S.u32m imm)), .bool (decide (S.u32m (a + S.u32m imm) < m.mem.length))]) ∧ ∃ n, w' = w.drewN n := by
  obtain ⟨g, cap, rfl, hg, _, _⟩ := h.memv
  obtain ⟨c32, _⟩ := h.cells
  have hm := h.ok.mem
  have hlt := h.lt
  have hl := h.low0
  have hw := u32_wrap (a + S.u32m imm)
  have hu := u32_bd (a + S.u32m imm)
  go_enter Tryd.func72, Tryd.ntmps72
  go_wp2_with fail
  refine (mach_wide _ _).mono ?_
  rintro e w' ⟨rfl, rfl⟩
  generalize hU : S.u32m (a + S.u32m imm) = U at *
  obtain ⟨u0, u1⟩ := hu
  have hw1 : IntKind.u64.wrap U = U := by simp [IntKind.wrap, IntKind.signed, IntKind.bits]; omega
  have hw2 : IntKind.u64.wrap (m.mem.length : Int) = m.mem.length := by simp [IntKind.wrap, IntKind.signed, IntKind.bits]; omega
  go_wp2_with fail
  go_quiet (fail)
  go_wp2_with fail
  go_ret2
  exact ⟨by rw [hU]; rfl, _, rfl⟩

theorem mach_next_none (h : MAt w B p vm vo A c inp rd m) (hi : m.input = []) : Calls Tryd.prog 74 #[.pointer (some ⟨p, 0, none⟩)] w
    fun e w' => e = .returned (.int .u32 4294967295) ∧ ∃ n, w' = w.drewN n := by
  obtain ⟨_, _, c34, c35, _⟩ := h.cells
  have hl := h.left
  have hr := h.rdle
  have hz := h.inl
  rw [hi] at hl
  have he : rd = inp.length := by
    have := congrArg List.length hl
    simp at this
    omega
  have hd : ((rd : Int) == inp.length) = true := by simp [he]
  have hlt := h.lt
  clear hl hi he
  go_enter Tryd.func74, Tryd.ntmps74
  go_wp2_with fail
  go_quiet (fail)
  go_wp2_with fail
  go_ret
  exact ⟨rfl, _, rfl⟩

theorem mach_next_some (h : MAt w B p vm vo A c inp rd m) {x : Int} {r : List Int} (hi : m.input = x :: r) : Calls Tryd.prog 74 #[.pointer (some ⟨p, 0, none⟩)] w
    fun e w' => e = .returned (.int .u32 x) ∧ MAt w' B p vm vo A c inp (rd + 1) { m with input := r } ∧ Only (· = p) w w' := by
  obtain ⟨_, _, c34, c35, _⟩ := h.cells
  have hl := h.left
  have hz := h.inl
  have hN := h.readOn hi
  have HN := Lib.hid hN
  rw [hi] at hl
  have hlt : rd < inp.length := by
    refine Nat.lt_of_not_le fun hc => ?_
    rw [List.drop_eq_nil_of_le hc] at hl
    cases hl
  rw [List.drop_eq_getElem_cons hlt] at hl
  have hx : (inp.map (Value.int .u8))[rd]? = some (.int .u8 x) := by
    rw [List.getElem?_map, List.getElem?_eq_getElem hlt, (List.cons.inj hl).1]
    rfl
  have hxb : 0 ≤ x ∧ x ≤ 255 := h.ok.inp x (by rw [hi]; exact List.mem_cons_self ..)
  obtain ⟨b, off, e, hb, hc⟩ := h.rin (by simp; omega)
  have hcx := hc rd _ hx
  have hdb := h.d1 b off none e
  subst e
  have hd : ((rd : Int) == inp.length) = false := by simp; omega
  have hf := h.fz 35
  have hpl := h.lt
  have hbp := hdb.1
  obtain ⟨x0, x1⟩ := hxb
  have hw1 : IntKind.u32.wrap x = x := by simp [IntKind.wrap, IntKind.signed, IntKind.bits]; omega
  have hs1 : ((rd : Int) + 1 - 1) = rd := by omega
  have Hi := Lib.hid hi
  clear hl hi hN HN hc hx hdb
  go_enter Tryd.func74, Tryd.ntmps74
  go_wp2_with fail
  go_quiet (fail)
  go_upto_region 4 with fail
  have hN := (h.drewN nq).readOn Hi.out
  obtain ⟨_, _, n34, n35, _⟩ := hN.cells
  have hcx' : ((w.drewN nq).setCell ⟨p, 35, none⟩ (.int .i64 ((rd : Int) + 1))).cell? ⟨b, off + rd, none⟩ = some (.int .u8 x) := by
    rw [← hcx]
    exact World.cell?_of_block (w := w) (a := ⟨b, off + rd, none⟩) (Below.heap_setCell _ _ _ _ hbp)
  have hO : Only (· = p) w ((w.drewN nq).setCell ⟨p, 35, none⟩ (.int .i64 ((rd : Int) + 1))) := (Only.drewN w nq).trans (Only.setCell (F := (· = p)) _ rfl _) (fun _ _ h => h)
  have HN := Lib.hid hN
  generalize (w.drewN nq).setCell ⟨p, 35, none⟩ (.int .i64 ((rd : Int) + 1)) = w1 at *
  clear hN
  go_wp2_with fail
  go_quiet (fail)
  go_wp2_with fail
  go_ret
  exact ⟨rfl, HN.out.drewN _, hO.trans (Only.drewN _ _) (fun _ _ h => h)⟩
end

end Go.Proofs.YtidhglleeccpoaaDoor
