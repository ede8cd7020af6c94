/- Walk of pennantref03.fits. -/
import Derived.Test.YtbgdomnalimjnaaAsmC
set_option linter.unusedVariables false
set_option linter.unusedSimpArgs false
set_option linter.unusedSectionVars false
namespace Go.Proofs.Ytbgdomnalimjnaa
open Go.RowKit

set_option maxRecDepth 100000 in
set_option maxHeartbeats 2000000 in
theorem ref_fits (A Af Aa : Option Addr) (c cf ca : Nat) (xs : List S.Item) (F : List Int) (base : Int) (i : Nat) (x : S.Item) (w : World) (hi : Items w w.heap.size A xs) (hF : Ints w w.heap.size Af F)
    (hA : Ints w w.heap.size Aa (addrs xs F base (xs.length + 1))) (hok : S.FormOk xs F) (hx : xs[i]? = some x) (hs : S.named x = true → 0 ≤ S.stands xs x.label)
    (hl : xs.length ≤ 1048576) (hb0 : 0 ≤ base) (hb1 : base ≤ 67108864) (hw : ∀ x ∈ xs, 0 ≤ x.word ∧ x.word ≤ 4294967295) :
    Calls Try.prog 116 #[.slice A xs.length c, .slice Af F.length cf, .slice Aa (xs.length + 1) ca, .int .i64 i] w
      fun e w' => e = .returned (.bool (S.fit xs F base i x)) ∧ Below w.heap.size w w' := by
  have hlt : i < xs.length := (List.getElem?_eq_some_iff.1 hx).1
  have hlF : i < F.length := by rw [hok.1]; exact hlt
  have hF26 : F.length ≤ 1048576 := by rw [hok.1]; exact hl
  obtain ⟨b, off, x', rfl, hb, hx', hc0, hc1, hc2, hc3, hc4, hc5, hc6, hc7, hw0, hw1⟩ := hi.at_ hlt
  rw [hx] at hx'
  cases hx'
  obtain ⟨bF, oF, rfl, hbF, hcF⟩ := hF.at_ hlF
  obtain ⟨bA, oA, rfl, hbA, hcA⟩ := hA.two (by rw [addrs_length]; omega)
  have hcA1 := hcA (i + 1) _ (addrs_some xs F base _ (i + 1) (by omega))
  obtain ⟨hbd0, hbd1⟩ := addr_bd (base := base) hok hw (i + 1)
  obtain ⟨h3, h4, h5⟩ := hok.2 i x hx
  have hns : (x.kind = 3 ∨ x.kind = 4) → ∃ j : Nat, S.stands xs x.label = j ∧ j < xs.length := by
    intro h
    have h0 := hs (by simp [S.named]; omega)
    rcases stands_spec xs x.label with ⟨e, _⟩ | ⟨j, y, e, hj, _⟩
    · omega
    · exact ⟨j, e, (List.getElem?_eq_some_iff.1 hj).1⟩
  obtain ⟨kind, ⟨op, d, a, b', imm⟩, lab, wd⟩ := x
  simp only at hc0 hc1 hc2 hc3 hc4 hc5 hc6 hc7 hw0 hw1 h3 h4 h5 hns
  have hfit : S.fit xs F base i ⟨kind, ⟨op, d, a, b', imm⟩, lab, wd⟩ = (if (kind ≠ 3 ∧ kind ≠ 4) ∨ (kind = 3 ∧ F.getD i 0 = 3) ∨ (kind = 4 ∧ F.getD i 0 = 2) then true
      else if kind = 3 ∧ F.getD i 0 = 1 then
        decide (-32768 ≤ S.addr xs F base (S.stands xs lab).toNat - S.addr xs F base (i + 1) ∧ S.addr xs F base (S.stands xs lab).toNat - S.addr xs F base (i + 1) ≤ 32767)
      else decide (-1048576 ≤ S.addr xs F base (S.stands xs lab).toNat - S.addr xs F base (i + 1) ∧ S.addr xs F base (S.stands xs lab).toNat - S.addr xs F base (i + 1) ≤ 1048575)) := rfl
  rw [hfit]
  clear hfit hx hs
  have Hw := Lib.hid hw
  have Hk := Lib.hid hok
  clear hw hok
  generalize F.getD i 0 = fk at *
  by_cases k34 : kind = 3 ∨ kind = 4
  · obtain ⟨j, hj, hjl⟩ := hns k34
    have hcA2 := hcA j _ (addrs_some xs F base _ j (by omega))
    obtain ⟨hbe0, hbe1⟩ := addr_bd (base := base) Hk.out Hw.out j
    clear hns hcA h5
    rw [hj, Int.toNat_natCast]
    generalize S.addr xs F base (i + 1) = A1 at *
    generalize S.addr xs F base j = A2 at *
    have hcases : (kind = 3 ∧ fk = 1) ∨ (kind = 3 ∧ fk = 2) ∨ (kind = 3 ∧ fk = 3) ∨ (kind = 4 ∧ fk = 1) ∨ (kind = 4 ∧ fk = 2) := by
      rcases k34 with k | k
      · have := h3 k; omega
      · have := h4 k; omega
    clear h3 h4 k34
    have hb9 : Below w.heap.size w (w.alloc (.cells #[.int .i64 kind, .int .i64 op, .int .i64 d, .int .i64 a, .int .i64 b', .int .i64 imm, .string lab, .int .u32 wd] 57)) := (Below.refl _ _).alloc (Nat.le_refl _) _
    rcases hcases with ⟨rfl, rfl⟩ | ⟨rfl, rfl⟩ | ⟨rfl, rfl⟩ | ⟨rfl, rfl⟩ | ⟨rfl, rfl⟩
    rotate_left 2
    · go_enter Try.func116, Try.ntmps116
      go_wp2_with fail
      go_ret
      exact ⟨rfl, hb9⟩
    rotate_left 1
    · go_enter Try.func116, Try.ntmps116
      go_wp2_with fail
      go_ret
      exact ⟨rfl, hb9⟩
    all_goals
      go_enter Try.func116, Try.ntmps116
      go_wp2_with fail
      go_quiet ((go_at_call 93; exact quiet_left (ref_stands _ _ _ _ _ w.heap.size ((hi.below hb9).below (below_drewN (Below.refl _ _) _)) hl)))
      go_wp2_with fail
      all_goals
        go_ret
        exact ⟨ret_bool (by simp; try omega), below_drewN hb9 _⟩
  · have n3 : (kind == 3) = false := int_bne (by omega)
    have n4 : (kind == 4) = false := int_bne (by omega)
    have m3 : kind ≠ 3 ∧ kind ≠ 4 := by omega
    clear hns hcA h3 h4 h5 k34
    rw [if_pos (.inl m3)]
    obtain ⟨m3, m4⟩ := m3
    go_enter Try.func116, Try.ntmps116
    go_wp2_with fail
    go_outline
    go_ret
    exact ⟨rfl, (Below.refl _ _).alloc (Nat.le_refl _) _⟩

end Go.Proofs.Ytbgdomnalimjnaa
