/- Walks of pennantref03: check, At, fits. -/
import Derived.Test.YtbgdomnalimjnaaAsmB
set_option linter.unusedVariables false
set_option linter.unusedSimpArgs false
set_option linter.unusedSectionVars false
namespace Go.Proofs.Ytbgdomnalimjnaa
open Go.RowKit

set_option maxRecDepth 100000 in
set_option maxHeartbeats 1000000 in
theorem ref3_check (k op d a b imm : Int) (lab : ByteArray) (wd : Int) (w : World) :
    Calls Try.prog 122 #[.agg #[.int .i64 k, .int .i64 op, .int .i64 d, .int .i64 a, .int .i64 b, .int .i64 imm, .string lab, .int .u32 wd]] w
      fun e w' => e = .returned (.int .i64 (S.chkItem ⟨k, ⟨op, d, a, b, imm⟩, lab, wd⟩)) ∧ Below w.heap.size w w' := by
  by_cases c1 : k = 1
  · subst c1
    have hcc : S.chk ⟨op, d, a, b, imm⟩ = 0 ∨ S.chk ⟨op, d, a, b, imm⟩ = 11 := by unfold S.chk; split <;> simp
    rcases hcc with hcc | hcc
    all_goals
     go_enter Try.func122, Try.ntmps122
     go_wp2_with (go_at_call 107; refine (ref_Check _ _ _ _ _ _).mono ?_; rintro e w' ⟨rfl, hb⟩; obtain ⟨hc1, hc2⟩ := bcell hb)
     go_ret
     exact ⟨ret_int (by simp [S.chkItem, hcc]), ((Below.refl _ _).alloc (Nat.le_refl _) _).trans (hb.mono (by simp))⟩
  · have d1 := int_bne c1
    go_enter Try.func122, Try.ntmps122
    go_wp2_with (first
      | (go_at_call 119; refine (ref_Turned _ _).mono ?_; rintro e w' ⟨rfl, rfl⟩)
      | (go_at_call 123; refine (ref3_register _ _).mono ?_; rintro e w' ⟨rfl, rfl⟩))
    all_goals
      go_ret
      exact ⟨ret_int (by grind [S.chkItem]), (Below.refl _ _).alloc (Nat.le_refl _) _⟩

theorem int_info : (Try.prog.info? 3).map (fun i => (i.zero, i.size, i.bytes)) = some (some (.int .i64 0), 1, 8) := by kernel_rfl

/-- A slice value reads as a list of ints, below block B. -/
def Ints (w : World) (B : Nat) (A : Option Addr) (xs : List Int) : Prop :=
  0 < xs.length → ∃ b off, A = some ⟨b, off, none⟩ ∧ b < B ∧ ∀ i x, xs[i]? = some x → w.cell? ⟨b, off + i, none⟩ = some (.int .i64 x)
theorem Ints.below {w w' : World} {B : Nat} {A : Option Addr} {xs : List Int} (h : Ints w B A xs) (hb : Below B w w') : Ints w' B A xs := fun hp => by
  obtain ⟨b, off, e, hbB, hc⟩ := h hp
  exact ⟨b, off, e, hbB, fun i x hx => (hb.cell (p := ⟨b, off + i, none⟩) hbB).trans (hc i x hx)⟩
theorem Ints.more {w : World} {B B' : Nat} {A : Option Addr} {xs : List Int} (h : Ints w B A xs) (hB : B ≤ B') : Ints w B' A xs := fun hp => by
  obtain ⟨b, off, e, hbB, hc⟩ := h hp
  exact ⟨b, off, e, Nat.lt_of_lt_of_le hbB hB, hc⟩
theorem Ints.at_ {w : World} {B : Nat} {A : Option Addr} {xs : List Int} (h : Ints w B A xs) {k : Nat} (hk : k < xs.length) :
    ∃ b off, A = some ⟨b, off, none⟩ ∧ b < B ∧ w.cell? ⟨b, off + k, none⟩ = some (.int .i64 (xs.getD k 0)) := by
  obtain ⟨b, off, e, hbB, hc⟩ := h (by omega)
  refine ⟨b, off, e, hbB, hc k _ ?_⟩
  simp [hk]
theorem Ints.some_ {w : World} {B : Nat} {A : Option Addr} {xs : List Int} (h : Ints w B A xs) {k : Nat} {v : Int} (hk : xs[k]? = some v) :
    ∃ b off, A = some ⟨b, off, none⟩ ∧ b < B ∧ w.cell? ⟨b, off + k, none⟩ = some (.int .i64 v) := by
  obtain ⟨b, off, e, hbB, hc⟩ := h (by have := (List.getElem?_eq_some_iff.1 hk).1; omega)
  exact ⟨b, off, e, hbB, hc k v hk⟩
theorem Ints.two {w : World} {B : Nat} {A : Option Addr} {xs : List Int} (h : Ints w B A xs) (hp : 0 < xs.length) :
    ∃ b off, A = some ⟨b, off, none⟩ ∧ b < B ∧ ∀ i x, xs[i]? = some x → w.cell? ⟨b, off + i, none⟩ = some (.int .i64 x) := h hp
theorem Ints.of_own {w : World} {base : Nat} {e : TypeId} {A : Option Addr} {m c n : Nat} {xs : List Int} (h : w.ownsRow base e 1 (.slice A m c) n (xs.map (Value.int .i64))) : Ints w w.heap.size A xs := fun hp => by
  have hl : xs.length = n := by have := h.1; simpa using this
  obtain ⟨g, rfl, hg1, hg2, hg3, hg4, _⟩ := ownsRow_at h (by omega)
  refine ⟨g, 0, rfl, hg2, fun i x hx => ?_⟩
  have hi := (List.getElem?_eq_some_iff.1 hx).1
  have h1 := hg4 i (by omega)
  rw [Nat.zero_add, h1, List.getElem?_map, hx]; rfl

def addrs (xs : List S.Item) (F : List Int) (base : Int) (n : Nat) : List Int := (List.range n).map (S.addr xs F base)
theorem addrs_succ (xs : List S.Item) (F : List Int) (base : Int) (n : Nat) : addrs xs F base (n + 1) = addrs xs F base n ++ [S.addr xs F base n] := by simp [addrs, List.range_succ]
theorem addrs_getD (xs : List S.Item) (F : List Int) (base : Int) (n k : Nat) (h : k < n) : (addrs xs F base n).getD k 0 = S.addr xs F base k := by simp [addrs, h]
theorem addrs_some (xs : List S.Item) (F : List Int) (base : Int) (n k : Nat) (h : k < n) : (addrs xs F base n)[k]? = some (S.addr xs F base k) := by simp [addrs, h]
theorem addrs_length (xs : List S.Item) (F : List Int) (base : Int) (n : Nat) : (addrs xs F base n).length = n := by simp [addrs]

end Go.Proofs.Ytbgdomnalimjnaa
