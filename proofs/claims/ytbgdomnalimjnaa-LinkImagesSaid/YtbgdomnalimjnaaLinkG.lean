/- Walks of pennantref04: Words, Places. -/
import Derived.Test.YtbgdomnalimjnaaLinkF
set_option linter.unusedVariables false
set_option linter.unusedSimpArgs false
set_option linter.unusedSectionVars false
namespace Go.Proofs.Ytbgdomnalimjnaa
open Go.RowKit

theorem reads_at {w : World} {B : Nat} {A : Option Addr} {xs : List Value} (h : Reads w B A xs) {k : Nat} {v : Value} (hk : xs[k]? = some v) :
    ∃ b off, A = some ⟨b, off, none⟩ ∧ b < B ∧ w.cell? ⟨b, off + k, none⟩ = some v := by
  obtain ⟨b, off, e, hb, hc⟩ := h (by have := (List.getElem?_eq_some_iff.1 hk).1; omega)
  exact ⟨b, off, e, hb, hc k v hk⟩

set_option maxRecDepth 100000 in
set_option maxHeartbeats 1000000 in
theorem ref4_Words (A A' : Option Addr) (c c' B B' : Nat) (L : List Int) (w : World) (hr : Reads w B A (L.map (Value.int .u32))) (hr' : Reads w B' A' (L.map (Value.int .u32))) (hl : L.length ≤ 4611686018427387904) :
    Calls Try.prog 28 #[.slice A L.length c, .slice A' L.length c'] w fun e w' => e = .returned (.bool true) ∧ Below w.heap.size w w' := by
  have hdd : ((L.length : Int) != L.length) = false := by simp
  go_enter Try.func28, Try.ntmps28
  go_wp2_with fail
  go_loopw [5] (fun i wr => ∃ (k n : Nat), k ≤ L.length ∧ i = .int .i64 k ∧ wr = w.drewN n) (fun i _ => L.length - (intOf i).toNat)
  case atStart => exact ⟨0, 0, by omega, rfl, rfl⟩
  case round =>
    obtain ⟨k, n, hk, rfl, rfl⟩ := hrel
    by_cases hlt : k < L.length
    · have hLk : (L.map (Value.int .u32))[k]? = some (.int .u32 (L.getD k 0)) := by simp [hlt]
      obtain ⟨b, off, rfl, hb, hc⟩ := reads_at hr hLk
      obtain ⟨b', off', rfl, hb', hc'⟩ := reads_at hr' hLk
      clear hLk
      generalize L.getD k 0 = v at *
      go_wp2_with fail
      go_quiet (fail)
      go_wp2_with fail
      go_roundw
      case rel => exact ⟨k + 1, _, by omega, by go_num, rfl⟩
      case measure => simp [intOf]; omega
    · go_wp2_with fail
      go_ret
      exact ⟨rfl, below_drewN (Below.refl _ _) _⟩

/-- A slice value reads as a list of places, below block B. -/
def ReadsP (w : World) (B : Nat) (A : Option Addr) (L : List (ByteArray × Int)) : Prop :=
  0 < L.length → ∃ b off, A = some ⟨b, off, none⟩ ∧ b < B ∧ ∀ i p, L[i]? = some p → w.cell? ⟨b, off + i * 2, none⟩ = some (.string p.1) ∧ w.cell? ⟨b, off + i * 2 + 1, none⟩ = some (.int .i64 p.2)
theorem ReadsP.below {w w' : World} {B : Nat} {A : Option Addr} {L : List (ByteArray × Int)} (h : ReadsP w B A L) (hb : Below B w w') : ReadsP w' B A L := fun hp => by
  obtain ⟨b, off, e, hbB, hc⟩ := h hp
  exact ⟨b, off, e, hbB, fun i p hx => ⟨(hb.cell (p := ⟨b, off + i * 2, none⟩) hbB).trans (hc i p hx).1, (hb.cell (p := ⟨b, off + i * 2 + 1, none⟩) hbB).trans (hc i p hx).2⟩⟩
theorem flat_two (L : List (ByteArray × Int)) (i : Nat) (p : ByteArray × Int) (h : L[i]? = some p) : (L.flatMap placeCells)[i * 2]? = some (.string p.1) ∧ (L.flatMap placeCells)[i * 2 + 1]? = some (.int .i64 p.2) := by
  induction L generalizing i with
  | nil => simp at h
  | cons q L ih =>
    cases i with
    | zero =>
      simp only [List.getElem?_cons_zero, Option.some.injEq] at h
      subst h
      simp [placeCells]
    | succ i =>
      have h1 := ih i (by simpa using h)
      have e1 : (i + 1) * 2 = i * 2 + 1 + 1 := by omega
      rw [List.flatMap_cons, e1]
      simpa [placeCells] using h1
theorem flat_len (L : List (ByteArray × Int)) : (L.flatMap placeCells).length = L.length * 2 := by
  induction L with
  | nil => rfl
  | cons q L ih => rw [List.flatMap_cons, List.length_append, ih]; simp [placeCells]; omega
theorem ReadsP.of_own {w : World} {base : Nat} {e : TypeId} {A : Option Addr} {m c n : Nat} {L : List (ByteArray × Int)} (h : w.ownsRow base e 2 (.slice A m c) n (L.flatMap placeCells)) : ReadsP w w.heap.size A L := fun hp => by
  have hl : (L.flatMap placeCells).length = n * 2 := h.1
  rw [flat_len] at hl
  obtain ⟨g, rfl, hg1, hg2, hg3, hg4, _⟩ := ownsRow_at h (by omega)
  refine ⟨g, 0, rfl, hg2, fun i p hx => ?_⟩
  have hi := (List.getElem?_eq_some_iff.1 hx).1
  obtain ⟨f1, f2⟩ := flat_two L i p hx
  refine ⟨?_, ?_⟩
  · rw [Nat.zero_add, hg4 _ (by omega), f1]
  · rw [Nat.zero_add, hg4 _ (by omega), f2]
theorem ReadsP.at_ {w : World} {B : Nat} {A : Option Addr} {L : List (ByteArray × Int)} (h : ReadsP w B A L) {k : Nat} (hk : k < L.length) :
    ∃ b off s n, A = some ⟨b, off, none⟩ ∧ b < B ∧ L[k]? = some (s, n) ∧ w.cell? ⟨b, off + k * 2, none⟩ = some (.string s) ∧ w.cell? ⟨b, off + k * 2 + 1, none⟩ = some (.int .i64 n) := by
  obtain ⟨b, off, e, hb, hc⟩ := h (by omega)
  obtain ⟨h1, h2⟩ := hc k L[k] (List.getElem?_eq_getElem hk)
  exact ⟨b, off, _, _, e, hb, List.getElem?_eq_getElem hk, h1, h2⟩

set_option maxRecDepth 100000 in
set_option maxHeartbeats 1000000 in
theorem ref4_Places (A A' : Option Addr) (c c' B B' : Nat) (L : List (ByteArray × Int)) (w : World) (hr : ReadsP w B A L) (hr' : ReadsP w B' A' L) (hl : L.length ≤ 4611686018427387904) :
    Calls Try.prog 29 #[.slice A L.length c, .slice A' L.length c'] w fun e w' => e = .returned (.bool true) ∧ Below w.heap.size w w' := by
  have hdd : ((L.length : Int) != L.length) = false := by simp
  go_enter Try.func29, Try.ntmps29
  go_wp2_with fail
  go_loopw [5] (fun i wr => ∃ (k n : Nat), k ≤ L.length ∧ i = .int .i64 k ∧ wr = w.drewN n) (fun i _ => L.length - (intOf i).toNat)
  case atStart => exact ⟨0, 0, by omega, rfl, rfl⟩
  case round =>
    obtain ⟨k, n, hk, rfl, rfl⟩ := hrel
    by_cases hlt : k < L.length
    · obtain ⟨b, off, s, v, rfl, hb, hx, hc0, hc1⟩ := hr.at_ hlt
      obtain ⟨b', off', s', v', rfl, hb', hx', hd0, hd1⟩ := hr'.at_ hlt
      rw [hx] at hx'
      cases hx'
      clear hx
      go_wp2_with fail
      go_quiet (fail)
      go_wp2_with fail
      go_roundw
      case rel => exact ⟨k + 1, _, by omega, by go_num, rfl⟩
      case measure => simp [intOf]; omega
    · go_wp2_with fail
      go_ret
      exact ⟨rfl, below_drewN (Below.refl _ _) _⟩

end Go.Proofs.Ytbgdomnalimjnaa
