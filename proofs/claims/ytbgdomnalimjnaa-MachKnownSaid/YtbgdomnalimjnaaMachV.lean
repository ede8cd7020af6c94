/- The machine of package mach: walks of Set, Put, Go; of the laws' word. -/
import Derived.Test.YtbgdomnalimjnaaMachU
import Derived.Test.YtbgdomnalimjnaaIsaC
set_option linter.unusedVariables false
set_option linter.unusedSimpArgs false
set_option linter.unusedSectionVars false
namespace Go.Proofs.Ytbgdomnalimjnaa
open Go.RowKit

section
variable {w w' : World} {B p : Nat} {vm vo : Value} {A : Option Addr} {c : Nat} {inp : List Int} {rd : Nat} {m : S.Mach}

namespace S.Mach
def setV (m : S.Mach) (i v : Int) : S.Mach := if 0 ≤ i ∧ i < 32 then m.put i v else m
def putV (m : S.Mach) (i v : Int) : S.Mach := if 0 ≤ i ∧ i < m.mem.length then { m with mem := m.mem.set i.toNat v } else m
def goV (m : S.Mach) (v : Int) : S.Mach := if m.state ≠ 0 then m else { m with place := v }
end S.Mach

theorem mach_Set (i v : Int) (h : MAt w B p vm vo A c inp rd m) (hv : 0 ≤ v ∧ v ≤ 4294967295) : Calls Try.prog 42 #[.pointer (some ⟨p, 0, none⟩), .int .i64 i, .int .u32 v] w
    fun e w' => e = .returned (.int .i64 (if 0 ≤ i ∧ i < 32 then 0 else 2)) ∧ MAt w' B p vm vo A c inp rd (m.setV i v) ∧ Only (· = p) w w' := by
  have hlt := h.lt
  have HM := Lib.hid h
  by_cases h0 : i < 0
  · have Hc := Lib.hid (show ¬ (0 ≤ i ∧ i < 32) by omega)
    go_enter Try.func42, Try.ntmps42
    go_wp2_with fail
    refine (mach_is h).mono ?_
    rintro e w2 ⟨rfl, rfl⟩
    go_wp2_with fail
    go_ret
    simp only [S.Mach.setV, if_neg Hc.out]
    exact ⟨rfl, HM.out, Only.refl _ _⟩
  · by_cases h1 : 32 ≤ i
    · have Hc := Lib.hid (show ¬ (0 ≤ i ∧ i < 32) by omega)
      go_enter Try.func42, Try.ntmps42
      go_wp2_with fail
      refine (mach_is h).mono ?_
      rintro e w2 ⟨rfl, rfl⟩
      go_wp2_with fail
      go_ret
      simp only [S.Mach.setV, if_neg Hc.out]
      exact ⟨rfl, HM.out, Only.refl _ _⟩
    · have Hc := Lib.hid (show 0 ≤ i ∧ i < 32 by omega)
      go_enter Try.func42, Try.ntmps42
      go_wp2_with fail
      refine (mach_is h).mono ?_
      rintro e w2 ⟨rfl, rfl⟩
      go_wp2_with fail
      refine (mach_put _ _ h (by omega) (by omega) hv).mono ?_
      rintro e w3 ⟨rfl, hM3, hO3⟩
      go_wp2_with fail
      go_ret
      simp only [S.Mach.setV, if_pos Hc.out]
      exact ⟨rfl, hM3, hO3⟩

theorem mach_Put (i v : Int) (h : MAt w B p vm vo A c inp rd m) (hv : 0 ≤ v ∧ v ≤ 4294967295) : Calls Try.prog 41 #[.pointer (some ⟨p, 0, none⟩), .int .i64 i, .int .u32 v] w
    fun e w' => e = .returned (.int .i64 (if 0 ≤ i ∧ i < m.mem.length then 0 else 2)) ∧ MAt w' B p vm vo A c inp rd (m.putV i v) ∧ Only (MFoot p vm vo) w w' := by
  have hlt := h.lt
  have HM := Lib.hid h
  have hl0 := h.low0
  obtain ⟨g, cap, hvm, hg, hmc, hfz⟩ := h.memv
  obtain ⟨c32, _⟩ := h.cells
  rw [hvm] at c32
  have Hvm := Lib.hid hvm
  have Hmc := Lib.hid hmc
  clear hvm hmc
  by_cases h0 : i < 0
  · have Hc := Lib.hid (show ¬ (0 ≤ i ∧ i < m.mem.length) by omega)
    go_enter Try.func41, Try.ntmps41
    go_wp2_with fail
    refine (mach_is h).mono ?_
    rintro e w2 ⟨rfl, rfl⟩
    go_wp2_with fail
    go_ret
    simp only [S.Mach.putV, if_neg Hc.out]
    exact ⟨rfl, HM.out, Only.refl _ _⟩
  · by_cases h1 : (m.mem.length : Int) ≤ i
    · have Hc := Lib.hid (show ¬ (0 ≤ i ∧ i < m.mem.length) by omega)
      go_enter Try.func41, Try.ntmps41
      go_wp2_with fail
      refine (mach_is h).mono ?_
      rintro e w2 ⟨rfl, rfl⟩
      go_wp2_with fail
      go_ret
      simp only [S.Mach.putV, if_neg Hc.out]
      exact ⟨rfl, HM.out, Only.refl _ _⟩
    · obtain ⟨k, rfl⟩ : ∃ k : Nat, i = k := ⟨i.toNat, by omega⟩
      have hk : k < m.mem.length := by omega
      have Hc := Lib.hid (show 0 ≤ (k : Int) ∧ (k : Int) < m.mem.length by omega)
      have hmt := Hmc.out k hk
      have hft := hfz k
      have HS := Lib.hid (h.sw Hvm.out hv hk)
      go_enter Try.func41, Try.ntmps41
      go_wp2_with fail
      refine (mach_is h).mono ?_
      rintro e w2 ⟨rfl, rfl⟩
      go_wp2_with fail
      go_ret
      simp only [S.Mach.putV, if_pos Hc.out, Int.toNat_natCast]
      exact ⟨rfl, HS.out, Only.setCell _ (show MFoot p vm vo g from .inr (.inl (by rw [Hvm.out]; rfl))) _⟩

theorem mach_Go (v : Int) (h : MAt w B p vm vo A c inp rd m) (hv : 0 ≤ v ∧ v ≤ 4294967295) : Calls Try.prog 38 #[.pointer (some ⟨p, 0, none⟩), .int .u32 v] w
    fun e w' => e = .returned (.int .i64 (if m.state ≠ 0 then 2 else 0)) ∧ MAt w' B p vm vo A c inp rd (m.goV v) ∧ Only (· = p) w w' := by
  have hlt := h.lt
  have HM := Lib.hid h
  obtain ⟨_, c33, _, _, _, c37, _⟩ := h.cells
  have f33 := h.fz 33
  by_cases hs : m.state = 0
  · have d0 : (m.state != 0) = false := by simp [hs]
    have Hs := Lib.hid hs
    have HW := Lib.hid (h.went hv)
    clear hs
    go_enter Try.func38, Try.ntmps38
    go_wp2_with fail
    refine (mach_is h).mono ?_
    rintro e w2 ⟨rfl, rfl⟩
    go_wp2_with fail
    go_ret
    simp only [S.Mach.goV, if_neg (show ¬ m.state ≠ 0 from fun q => q Hs.out)]
    exact ⟨rfl, HW.out, Only.setCell (F := (· = p)) _ rfl _⟩
  · have d0 : (m.state != 0) = true := by simpa using hs
    have Hs := Lib.hid hs
    clear hs
    go_enter Try.func38, Try.ntmps38
    go_wp2_with fail
    refine (mach_is h).mono ?_
    rintro e w2 ⟨rfl, rfl⟩
    go_wp2_with fail
    go_ret
    simp only [S.Mach.goV, if_pos (show m.state ≠ 0 from Hs.out)]
    exact ⟨rfl, HM.out, Only.refl _ _⟩
end

end Go.Proofs.Ytbgdomnalimjnaa
