/- Walk of pennantref01.lay: so many bits of a number, the highest first, behind a list. -/
import Derived.Test.YtkdalaiponchbaaDoorIsaB
import Derived.Test.YtkdalaiponchbaaDoorBits
import Derived.Lib.Hide
set_option linter.unusedVariables false
set_option linter.unusedSimpArgs false
set_option linter.unusedSectionVars false
namespace Go.Proofs.YtkdalaiponchbaaDoor
open Go.RowKit

theorem u8_info : (Tryd.prog.info? 5).map (fun i => (i.zero, i.size, i.bytes)) = some (some (.int .u8 0), 1, 1) := by kernel_rfl

def bitAt (n : Int) (b t : Nat) : Int := n / 2 ^ (b - 1 - t) % 2
def layL (n : Int) (b k : Nat) : List Value := (List.range k).map fun t => Value.int .u8 (bitAt n b t)
theorem layL_succ (n : Int) (b k : Nat) : layL n b (k + 1) = layL n b k ++ [.int .u8 (bitAt n b k)] := by simp [layL, List.range_succ]

set_option maxRecDepth 100000 in
set_option maxHeartbeats 1000000 in
theorem ref_lay (base : Nat) (v : Value) (len : Nat) (xs : List Value) (n : Int) (b : Nat) (w : World) (hown : w.ownsRow base 5 1 v len xs) (hbase : base ≤ w.heap.size) (hlen : len ≤ 64) (hb : b ≤ 32) :
    Calls Tryd.prog 108 #[v, .int .i64 n, .int .i64 b] w
      fun e w' => ∃ v', e = .returned v' ∧ w'.ownsRow base 5 1 v' (len + b) (xs ++ layL n b b) ∧ Below base w w' := by
  obtain ⟨i0, hi, hz0, hz1, hz2⟩ := info_parts u8_info
  go_enter Tryd.func108, Tryd.ntmps108
  go_wp2
  go_loopw [0, 7] (fun v i wr => ∃ k : Nat, k ≤ b ∧ i = .int .i64 ((b : Int) - 1 - k) ∧ wr.ownsRow base 5 1 v (len + k) (xs ++ layL n b k) ∧ Below base w wr) (fun _ i _ => (intOf i + 1).toNat)
  case atStart => exact ⟨0, by omega, by simp, by simpa [layL] using hown, Below.refl _ _⟩
  case round =>
    obtain ⟨k, hk, rfl, hown', hbel⟩ := hrel
    by_cases hlt : k < b
    · have hbit : bits .and .i64 (n / 2 ^ (b - 1 - k)) 1 % 256 = bitAt n b k := i64_and1 _
      go_wp2_with (at_builtin
                   refine wpList_push rfl (.tmp 14) (.tmp 21) _ rfl base 5 u8_info Tryd.underlying89 rfl (by decide) #[.int .u8 (bitAt n b k)] _ _ _ rfl hown' rfl rfl rfl (by simp [Value.oneCell']) (by simp only [maxLen]; omega) (by omega) (Nat.le_trans hbase hbel.size) ?_
                   intro v' w' hown1 hg1 hb1 hat1)
      go_roundw
      case rel =>
        have h1 := layL_succ n b k
        refine ⟨k + 1, by omega, by congr 1; omega, ?_, hbel.trans hb1⟩
        rw [h1, ← List.append_assoc, ← Nat.add_assoc]
        exact hown1
      case measure => simp [intOf]; omega
    · have hkb : k = b := by omega
      subst hkb
      go_wp2
      go_ret
      exact ⟨_, rfl, hown', hbel⟩


def layI (n : Int) (b : Nat) : List Int := (List.range b).map (bitAt n b)
theorem layI_map (n : Int) (b : Nat) : layL n b b = (layI n b).map (Value.int .u8) := by simp [layL, layI]
theorem layI_length (n : Int) (b : Nat) : (layI n b).length = b := by simp [layI]

theorem layI_01 (n : Int) (b : Nat) : ∀ x ∈ layI n b, 0 ≤ x ∧ x ≤ 1 := by
  intro x hx
  simp only [layI, List.mem_map, bitAt] at hx
  obtain ⟨t, _, rfl⟩ := hx
  omega
theorem layI_val (n : Int) (b : Nat) : val (layI n b) = n % 2 ^ b := by
  have h := val_bits n b b (Nat.le_refl _)
  rw [Nat.sub_self, Int.pow_zero, Int.ediv_one] at h
  exact h

theorem ref_lay' (base : Nat) (v : Value) (bs : List Int) (n : Int) (b : Nat) (B : Int) (hB : B = b) (w : World) (hown : w.ownsRow base 5 1 v bs.length (bs.map (Value.int .u8))) (hbase : base ≤ w.heap.size) (hlen : bs.length ≤ 64) (hb : b ≤ 32) :
    Calls Tryd.prog 108 #[v, .int .i64 n, .int .i64 B] w
      fun e w' => ∃ v', e = .returned v' ∧ w'.ownsRow base 5 1 v' (bs ++ layI n b).length ((bs ++ layI n b).map (Value.int .u8)) ∧ Below base w w' := by
  subst hB
  refine (ref_lay base v bs.length (bs.map (Value.int .u8)) n b w hown hbase hlen hb).mono ?_
  rintro e w' ⟨v', rfl, h1, h2⟩
  refine ⟨v', rfl, ?_, h2⟩
  rw [List.length_append, layI_length, List.map_append, ← layI_map]
  exact h1

end Go.Proofs.YtkdalaiponchbaaDoor
