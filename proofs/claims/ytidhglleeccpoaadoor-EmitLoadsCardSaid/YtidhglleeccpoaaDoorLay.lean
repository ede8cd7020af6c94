/- Bits, IsaC, Lay: joined.  Walk of pennantref01.lay: so many bits of a number, the highest first, behind a list. -/
import Derived.Test.YtidhglleeccpoaaDoorSpec
import Derived.Test.YtidhglleeccpoaaDoorIsaB
import Derived.Laws.BitsLemmas
import Derived.Laws.BitsAllLaws
import Derived.Lib.Hide
section
set_option linter.unusedVariables false
set_option linter.unusedSimpArgs false
set_option linter.unusedSectionVars false
namespace Go.Proofs.YtidhglleeccpoaaDoor
open Go.RowKit

theorem wraps_u32 (n : Int) (h₀ : 0 ≤ n) (h₁ : n < 2 ^ 32) : IntKind.u32.wrap n = n := by rw [IntKind.wrap_u32]; omega
theorem u32_join (i : Nat) (x y : Int) (m : Int) (hm : m = 2 ^ i) (hx0 : 0 ≤ x) (hx : x % m = 0) (hx1 : x < 4294967296) (hy0 : 0 ≤ y) (hy1 : y < m) (hy2 : y < 4294967296) : bits .or .u32 x y = x + y := by
  subst hm
  exact bits_join .u32 32 (by decide) wraps_u32 i x y hx0 hx (by simpa using hx1) hy0 hy1 (by simpa using hy2)
theorem u32_mask (i : Nat) (x : Int) (m n : Int) (hm : m = 2 ^ i) (hn : n = m - 1) (hi : i ≤ 32) (h0 : 0 ≤ x) (h1 : x < 4294967296) : bits .and .u32 x n = x % m := by
  subst hn hm
  exact bits_mask .u32 32 (by decide) wraps_u32 i hi x h0 (by simpa using h1)

theorem i64_and1 (x : Int) : bits .and .i64 x 1 % 256 = x % 2 := by
  have h : (BitVec.ofInt 64 x &&& BitVec.ofInt 64 1).toNat = (x % 2).toNat := by
    rw [BitVec.toNat_and]
    have h1 : (BitVec.ofInt 64 1).toNat = 2 ^ 1 - 1 := by decide
    rw [h1, Nat.and_two_pow_sub_one_eq_mod, BitVec.toNat_ofInt]
    omega
  show IntKind.i64.wrap ((BitVec.ofInt 64 x &&& BitVec.ofInt 64 1).toNat : Int) % 256 = _
  rw [h, IntKind.wrap_i64]
  omega

theorem enc_1 {op d a b imm : Int} (o1 : 1 ≤ op) (o2 : op ≤ 36) (d1 : 0 ≤ d) (d2 : d ≤ 31) (a1 : 0 ≤ a) (a2 : a ≤ 31) (b1 : 0 ≤ b) (b2 : b ≤ 31) (i1 : 0 ≤ imm) (i2 : imm ≤ 0) (h : S.form op = 1) :
    bits .or .u32 (bits .or .u32 (bits .or .u32 (bits .or .u32 (op * 67108864) (d * 2097152)) (a * 65536)) (b * 2048)) (bits .and .u32 imm 0) = S.enc ⟨op, d, a, b, imm⟩ := by
  rw [u32_mask 0 imm 1 0 (by decide) (by omega) (by omega) (by omega) (by omega),
    u32_join 26 (op * 67108864) (d * 2097152) 67108864 (by decide) (by omega) (by omega) (by omega) (by omega) (by omega) (by omega),
    u32_join 21 (op * 67108864 + d * 2097152) (a * 65536) 2097152 (by decide) (by omega) (by omega) (by omega) (by omega) (by omega) (by omega),
    u32_join 16 (op * 67108864 + d * 2097152 + a * 65536) (b * 2048) 65536 (by decide) (by omega) (by omega) (by omega) (by omega) (by omega) (by omega),
    u32_join 11 (op * 67108864 + d * 2097152 + a * 65536 + b * 2048) (imm % 1) 2048 (by decide) (by omega) (by omega) (by omega) (by omega) (by omega) (by omega)]
  simp only [S.enc, h]
  simp
  try omega

theorem enc_2 {op d a b imm : Int} (o1 : 1 ≤ op) (o2 : op ≤ 36) (d1 : 0 ≤ d) (d2 : d ≤ 31) (a1 : 0 ≤ a) (a2 : a ≤ 31) (i1 : -32768 ≤ imm) (i2 : imm ≤ 65535) (h : S.form op = 2) :
    bits .or .u32 (bits .or .u32 (bits .or .u32 (op * 67108864) (d * 2097152)) (a * 65536)) (bits .and .u32 (imm % 4294967296) 65535) = S.enc ⟨op, d, a, b, imm⟩ := by
  rw [u32_mask 16 (imm % 4294967296) 65536 65535 (by decide) (by omega) (by omega) (by omega) (by omega),
    u32_join 26 (op * 67108864) (d * 2097152) 67108864 (by decide) (by omega) (by omega) (by omega) (by omega) (by omega) (by omega),
    u32_join 21 (op * 67108864 + d * 2097152) (a * 65536) 2097152 (by decide) (by omega) (by omega) (by omega) (by omega) (by omega) (by omega),
    u32_join 16 (op * 67108864 + d * 2097152 + a * 65536) ((imm % 4294967296) % 65536) 65536 (by decide) (by omega) (by omega) (by omega) (by omega) (by omega) (by omega)]
  simp only [S.enc, h]
  simp
  try omega

theorem enc_3 {op d a b imm : Int} (o1 : 1 ≤ op) (o2 : op ≤ 36) (d1 : 0 ≤ d) (d2 : d ≤ 31) (i1 : 0 ≤ imm) (i2 : imm ≤ 65535) (h : S.form op = 3) :
    bits .or .u32 (bits .or .u32 (op * 67108864) (d * 2097152)) (bits .and .u32 imm 65535) = S.enc ⟨op, d, a, b, imm⟩ := by
  rw [u32_mask 16 imm 65536 65535 (by decide) (by omega) (by omega) (by omega) (by omega),
    u32_join 26 (op * 67108864) (d * 2097152) 67108864 (by decide) (by omega) (by omega) (by omega) (by omega) (by omega) (by omega),
    u32_join 21 (op * 67108864 + d * 2097152) (imm % 65536) 2097152 (by decide) (by omega) (by omega) (by omega) (by omega) (by omega) (by omega)]
  simp only [S.enc, h]
  simp
  try omega

theorem enc_4 {op d a b imm : Int} (o1 : 1 ≤ op) (o2 : op ≤ 36) (a1 : 0 ≤ a) (a2 : a ≤ 31) (b1 : 0 ≤ b) (b2 : b ≤ 31) (i1 : -32768 ≤ imm) (i2 : imm ≤ 32767) (h : S.form op = 4) :
    bits .or .u32 (bits .or .u32 (bits .or .u32 (op * 67108864) (a * 2097152)) (b * 65536)) (bits .and .u32 (imm % 4294967296) 65535) = S.enc ⟨op, d, a, b, imm⟩ := by
  rw [u32_mask 16 (imm % 4294967296) 65536 65535 (by decide) (by omega) (by omega) (by omega) (by omega),
    u32_join 26 (op * 67108864) (a * 2097152) 67108864 (by decide) (by omega) (by omega) (by omega) (by omega) (by omega) (by omega),
    u32_join 21 (op * 67108864 + a * 2097152) (b * 65536) 2097152 (by decide) (by omega) (by omega) (by omega) (by omega) (by omega) (by omega),
    u32_join 16 (op * 67108864 + a * 2097152 + b * 65536) ((imm % 4294967296) % 65536) 65536 (by decide) (by omega) (by omega) (by omega) (by omega) (by omega) (by omega)]
  simp only [S.enc, h]
  simp
  try omega

theorem enc_5 {op d a b imm : Int} (o1 : 1 ≤ op) (o2 : op ≤ 36) (d1 : 0 ≤ d) (d2 : d ≤ 31) (i1 : -1048576 ≤ imm) (i2 : imm ≤ 1048575) (h : S.form op = 5) :
    bits .or .u32 (bits .or .u32 (op * 67108864) (d * 2097152)) (bits .and .u32 (imm % 4294967296) 2097151) = S.enc ⟨op, d, a, b, imm⟩ := by
  rw [u32_mask 21 (imm % 4294967296) 2097152 2097151 (by decide) (by omega) (by omega) (by omega) (by omega),
    u32_join 26 (op * 67108864) (d * 2097152) 67108864 (by decide) (by omega) (by omega) (by omega) (by omega) (by omega) (by omega),
    u32_join 21 (op * 67108864 + d * 2097152) ((imm % 4294967296) % 2097152) 2097152 (by decide) (by omega) (by omega) (by omega) (by omega) (by omega) (by omega)]
  simp only [S.enc, h]
  simp
  try omega

theorem enc_6 {op d a b imm : Int} (o1 : 1 ≤ op) (o2 : op ≤ 36) (d1 : 0 ≤ d) (d2 : d ≤ 31) (i1 : 0 ≤ imm) (i2 : imm ≤ 0) (h : S.form op = 6) :
    bits .or .u32 (bits .or .u32 (op * 67108864) (d * 2097152)) (bits .and .u32 imm 0) = S.enc ⟨op, d, a, b, imm⟩ := by
  rw [u32_mask 0 imm 1 0 (by decide) (by omega) (by omega) (by omega) (by omega),
    u32_join 26 (op * 67108864) (d * 2097152) 67108864 (by decide) (by omega) (by omega) (by omega) (by omega) (by omega) (by omega),
    u32_join 21 (op * 67108864 + d * 2097152) (imm % 1) 2097152 (by decide) (by omega) (by omega) (by omega) (by omega) (by omega) (by omega)]
  simp only [S.enc, h]
  simp
  try omega

theorem enc_7 {op d a b imm : Int} (o1 : 1 ≤ op) (o2 : op ≤ 36) (a1 : 0 ≤ a) (a2 : a ≤ 31) (i1 : 0 ≤ imm) (i2 : imm ≤ 0) (h : S.form op = 7) :
    bits .or .u32 (bits .or .u32 (op * 67108864) (a * 2097152)) (bits .and .u32 imm 0) = S.enc ⟨op, d, a, b, imm⟩ := by
  rw [u32_mask 0 imm 1 0 (by decide) (by omega) (by omega) (by omega) (by omega),
    u32_join 26 (op * 67108864) (a * 2097152) 67108864 (by decide) (by omega) (by omega) (by omega) (by omega) (by omega) (by omega),
    u32_join 21 (op * 67108864 + a * 2097152) (imm % 1) 2097152 (by decide) (by omega) (by omega) (by omega) (by omega) (by omega) (by omega)]
  simp only [S.enc, h]
  simp
  try omega

/-- The number that bits are, the highest first. -/
def val (l : List Int) : Int := l.foldl (fun a x => 2 * a + x) 0
theorem foldl_val (l : List Int) (a : Int) : l.foldl (fun a x => 2 * a + x) a = a * 2 ^ l.length + val l := by
  induction l generalizing a with
  | nil => simp [val]
  | cons x l ih =>
    simp only [List.foldl_cons, List.length_cons, val]
    rw [ih, ih (2 * 0 + x), Int.pow_succ]
    simp only [Int.mul_zero, Int.zero_add, Int.add_mul, Int.mul_assoc, Int.mul_comm, Int.mul_left_comm]
    omega
theorem val_append (l m : List Int) : val (l ++ m) = val l * 2 ^ m.length + val m := by
  rw [val, List.foldl_append, foldl_val]; rfl
theorem val_snoc (l : List Int) (x : Int) : val (l ++ [x]) = 2 * val l + x := by
  rw [val_append]; simp [val]; omega
theorem val_zeros (k : Nat) : val (List.replicate k 0) = 0 := by
  induction k with
  | zero => rfl
  | succ k ih => rw [List.replicate_succ', val_snoc, ih]; rfl
theorem val_bits (n : Int) (b : Nat) : ∀ k, k ≤ b → val ((List.range k).map fun t => n / 2 ^ (b - 1 - t) % 2) = n / 2 ^ (b - k) % 2 ^ k := by
  intro k
  induction k with
  | zero => intro _; simp [val]
  | succ k ih =>
    intro hk
    rw [List.range_succ, List.map_append, List.map_singleton, val_snoc, ih (by omega)]
    have e1 : b - 1 - k = b - (k + 1) := by omega
    have e2 : b - k = (b - (k + 1)) + 1 := by omega
    rw [e1, e2, Int.pow_succ, ← Int.ediv_ediv_of_nonneg (Int.le_of_lt (Int.pow_pos (by decide)))]
    generalize n / 2 ^ (b - (k + 1)) = q
    have hp : (0 : Int) < 2 ^ k := Int.pow_pos (by decide)
    rw [Int.pow_succ]
    generalize (2 : Int) ^ k = p at *
    have h1 := Int.emod_add_mul_ediv q 2
    have h2 := Int.emod_add_mul_ediv (q / 2) p
    have h3 : (2 * (q / 2 % p) + q % 2) = q - (p * 2) * (q / 2 / p) := by
      rw [Int.mul_assoc, Int.mul_left_comm]; omega
    have h4 : 0 ≤ q / 2 % p := Int.emod_nonneg _ (by omega)
    have h5 : q / 2 % p < p := Int.emod_lt_of_pos _ hp
    rw [h3, ← Int.sub_mul_emod_self_left q (p * 2) (q / 2 / p), ← h3]
    symm
    exact Int.emod_eq_of_lt (by omega) (by omega)
theorem val_cons (x : Int) (l : List Int) : val (x :: l) = x * 2 ^ l.length + val l := by
  have h := val_append [x] l
  simpa [val] using h
theorem val_le (l : List Int) (h : ∀ x ∈ l, 0 ≤ x ∧ x ≤ 1) : 0 ≤ val l ∧ val l + 1 ≤ 2 ^ l.length := by
  induction l with
  | nil => simp [val]
  | cons x l ih =>
    obtain ⟨h1, h2⟩ := ih fun y hy => h y (by simp [hy])
    obtain ⟨h3, h4⟩ := h x (by simp)
    have hp : (0 : Int) < 2 ^ l.length := Int.pow_pos (by decide)
    rw [val_cons, List.length_cons, Int.pow_succ]
    have h5 : x = 0 ∨ x = 1 := by omega
    rcases h5 with rfl | rfl <;> simp <;> omega

theorem pow31 (k : Nat) (h : k < 32) : (2 : Int) ^ k ≤ 2147483648 := by
  have h1 : 2 ^ k ≤ 2 ^ 31 := Nat.pow_le_pow_right (by decide) (by omega)
  have h2 : ((2 ^ k : Nat) : Int) ≤ ((2 ^ 31 : Nat) : Int) := by exact_mod_cast h1
  simpa using h2
theorem horner_step (L : List Int) (hL : L.length = 32) (h01 : ∀ x ∈ L, 0 ≤ x ∧ x ≤ 1) (k : Nat) (hk : k < 32) :
    ∃ x, (L.map (Value.int .u8))[k]? = some (.int .u8 x) ∧ 0 ≤ x ∧ x ≤ 1 ∧ val (L.take (k + 1)) = 2 * val (L.take k) + x ∧ 0 ≤ val (L.take k) ∧ val (L.take k) ≤ 2147483647 := by
  have hk' : k < L.length := by omega
  obtain ⟨h1, h2⟩ := h01 L[k] (List.getElem_mem hk')
  obtain ⟨h3, h4⟩ := val_le (L.take k) (fun x hx => h01 x (List.mem_of_mem_take hx))
  refine ⟨L[k], by simp [hk'], h1, h2, ?_, h3, ?_⟩
  · rw [List.take_succ_eq_append_getElem hk', val_snoc]
  · have h5 := pow31 k hk
    rw [List.length_take, Nat.min_eq_left (by omega)] at h4
    omega

end Go.Proofs.YtidhglleeccpoaaDoor
end

section
set_option linter.unusedVariables false
set_option linter.unusedSimpArgs false
set_option linter.unusedSectionVars false
namespace Go.Proofs.YtidhglleeccpoaaDoor
open Go.RowKit

set_option maxHeartbeats 16000000 in
theorem isa_Encode (op d a b imm : Int) (w : World) (hg : S.good ⟨op, d, a, b, imm⟩ = true) :
    Calls Tryd.prog 64 #[.agg #[.int .i64 op, .int .i64 d, .int .i64 a, .int .i64 b, .int .i64 imm]] w
      fun e w' => e = .returned (.tuple #[.int .u32 (S.enc ⟨op, d, a, b, imm⟩), .int .i64 0]) ∧ Below w.heap.size w w' := by
  have hc : S.chk ⟨op, d, a, b, imm⟩ = 0 := by simp [S.chk, hg]
  obtain ⟨o1, o2, d1, d2, a1, a2, b1, b2, hw⟩ := good_ways hg
  clear hg
  rcases hw with ⟨h, hD, hA, hB, hI, i1, i2⟩ | ⟨h, hD, hA, hB, hI, i1, i2⟩ | ⟨h, hD, hA, hB, hI, i1, i2⟩ | ⟨h, hD, hA, hB, hI, i1, i2⟩ | ⟨h, hD, hA, hB, hI, i1, i2⟩ | ⟨h, hD, hA, hB, hI, i1, i2⟩ | ⟨h, hD, hA, hB, hI, i1, i2⟩
  all_goals
    have H := Lib.hid h
    clear h
    go_enter Tryd.func64, Tryd.ntmps64
    go_wp2_with (first
      | (go_at_call 62; refine (isa_Check _ _ _ _ _ _).mono ?_; rintro e w' ⟨rfl, hb⟩; obtain ⟨hc1, hc2⟩ := bcell hb; have hz := hb.size; simp at hz)
      | (go_at_call 66; refine (isa_Form _ _).mono ?_; rintro e w' ⟨rfl, rfl⟩)
      | (go_at_call 65; refine (isa_has _ _).mono ?_; rintro e w' ⟨rfl, rfl⟩))
    refine wp_loop_rounds 4 ?_
    rw [rounds_succ]
    go_wp2
    rw [rounds_succ]
    go_wp2
    rw [rounds_succ]
    go_wp2
    rw [rounds_succ]
    go_wp2
    refine wp_forget (fun w4 => w4.cell? ⟨w.heap.size, 4, none⟩ = some (.int .i64 imm) ∧ Below w.heap.size w w4) ⟨?_, ?_⟩ ?_
    · have h4 : w'.cell? ⟨w.heap.size, 4, none⟩ = some (.int .i64 imm) := by rw [hc1 _ _ (by simp)]; go_simp
      refine (Below.cell (B := w'.heap.size) (w := w') ?_ ?_).trans h4
      · exact ((((Below.refl _ _).alloc (by simp) _).alloc (by simp) _).alloc (by simp; omega) _).alloc (by simp; omega) _
      · simp; omega
    · have h0 : Below w.heap.size w w' := ((Below.refl _ _).alloc (Nat.le_refl _) _).trans (hb.mono (by simp))
      exact (((h0.alloc (by omega) _).alloc (by simp; omega) _).alloc (by simp; omega) _).alloc (by simp; omega) _
    rintro w4 ⟨h4, hb4⟩
    go_quiet (fail)
    go_wp2
    go_ret2
    refine ⟨ret_pair ?_ rfl, below_drewN hb4 _⟩
    first
      | (with_reducible exact enc_1 o1 o2 d1 d2 a1 a2 b1 b2 i1 i2 H.out)
      | (with_reducible exact enc_2 o1 o2 d1 d2 a1 a2 i1 i2 H.out)
      | (with_reducible exact enc_3 o1 o2 d1 d2 i1 i2 H.out)
      | (with_reducible exact enc_4 o1 o2 a1 a2 b1 b2 i1 i2 H.out)
      | (with_reducible exact enc_5 o1 o2 d1 d2 i1 i2 H.out)
      | (with_reducible exact enc_6 o1 o2 d1 d2 i1 i2 H.out)
      | (with_reducible exact enc_7 o1 o2 a1 a2 i1 i2 H.out)

end Go.Proofs.YtidhglleeccpoaaDoor
end

section
set_option linter.unusedVariables false
set_option linter.unusedSimpArgs false
set_option linter.unusedSectionVars false
namespace Go.Proofs.YtidhglleeccpoaaDoor
open Go.RowKit

theorem u8_info : (Tryd.prog.info? 5).map (fun i => (i.zero, i.size, i.bytes)) = some (some (.int .u8 0), 1, 1) := by kernel_rfl

def bitAt (n : Int) (b t : Nat) : Int := n / 2 ^ (b - 1 - t) % 2
def layL (n : Int) (b k : Nat) : List Value := (List.range k).map fun t => Value.int .u8 (bitAt n b t)
theorem layL_succ (n : Int) (b k : Nat) : layL n b (k + 1) = layL n b k ++ [.int .u8 (bitAt n b k)] := by simp [layL, List.range_succ]

def layI (n : Int) (b : Nat) : List Int := (List.range b).map (bitAt n b)
theorem layI_map (n : Int) (b : Nat) : layL n b b = (layI n b).map (Value.int .u8) := by simp [layL, layI]
theorem layI_length (n : Int) (b : Nat) : (layI n b).length = b := by simp [layI]

theorem layI_01 (n : Int) (b : Nat) : ∀ x ∈ layI n b, 0 ≤ x ∧ x ≤ 1 := by
  intro x hx
  simp only [layI, List.mem_map, bitAt] at hx
  obtain ⟨t, _, rfl⟩ := hx
  omega
theorem layI_val (n : Int) (b : Nat) : val (layI n b) = n % 2 ^ b := by
  have h := val_bits n b b (Nat.le_refl _)
  rw [Nat.sub_self, Int.pow_zero, Int.ediv_one] at h
  exact h

end Go.Proofs.YtidhglleeccpoaaDoor
end
