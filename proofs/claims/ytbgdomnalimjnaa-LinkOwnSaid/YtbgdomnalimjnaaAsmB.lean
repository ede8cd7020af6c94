/- Items in memory; walks over lists of items. -/
import Derived.Test.YtbgdomnalimjnaaAsmA
set_option linter.unusedVariables false
set_option linter.unusedSimpArgs false
set_option linter.unusedSectionVars false
namespace Go.Proofs.Ytbgdomnalimjnaa
open Go.RowKit

theorem lab_eq {a b : ByteArray} (h : a = b) : (a.toList == b.toList) = true := by simp [h]
theorem lab_ne {a b : ByteArray} (h : a ≠ b) : (a.toList == b.toList) = false := by
  rw [beq_eq_false_iff_ne]
  intro e
  rw [ByteArray.toList_eq, ByteArray.toList_eq] at e
  exact h (WideShapes.bytes_inj e)
theorem int_beq {a b : Int} (h : a = b) : (a == b) = true := by simp [h]
theorem int_bne {a b : Int} (h : a ≠ b) : (a == b) = false := by simp [h]

/-- The cells of an item, from an offset on. -/
structure ItemAt (w : World) (b o : Nat) (x : S.Item) : Prop where
  c0 : w.cell? ⟨b, o, none⟩ = some (.int .i64 x.kind)
  c1 : w.cell? ⟨b, o + 1, none⟩ = some (.int .i64 x.inst.op)
  c2 : w.cell? ⟨b, o + 2, none⟩ = some (.int .i64 x.inst.d)
  c3 : w.cell? ⟨b, o + 3, none⟩ = some (.int .i64 x.inst.a)
  c4 : w.cell? ⟨b, o + 4, none⟩ = some (.int .i64 x.inst.b)
  c5 : w.cell? ⟨b, o + 5, none⟩ = some (.int .i64 x.inst.imm)
  c6 : w.cell? ⟨b, o + 6, none⟩ = some (.string x.label)
  c7 : w.cell? ⟨b, o + 7, none⟩ = some (.int .u32 x.word)
  w0 : 0 ≤ x.word
  w1 : x.word ≤ 4294967295

/-- A slice value reads as a list of items, below block B. -/
def Items (w : World) (B : Nat) (A : Option Addr) (xs : List S.Item) : Prop :=
  0 < xs.length → ∃ b off, A = some ⟨b, off, none⟩ ∧ b < B ∧ ∀ i x, xs[i]? = some x → ItemAt w b (off + i * 8) x

theorem ItemAt.keep {w w' : World} {b o : Nat} {x : S.Item} (h : ItemAt w b o x) (hk : ∀ o, w'.cell? ⟨b, o, none⟩ = w.cell? ⟨b, o, none⟩) : ItemAt w' b o x :=
  ⟨(hk _).trans h.c0, (hk _).trans h.c1, (hk _).trans h.c2, (hk _).trans h.c3, (hk _).trans h.c4, (hk _).trans h.c5, (hk _).trans h.c6, (hk _).trans h.c7, h.w0, h.w1⟩
theorem Items.below {w w' : World} {B : Nat} {A : Option Addr} {xs : List S.Item} (h : Items w B A xs) (hb : Below B w w') : Items w' B A xs := fun hp => by
  obtain ⟨b, off, e, hbB, hc⟩ := h hp
  exact ⟨b, off, e, hbB, fun i x hx => (hc i x hx).keep fun o => hb.cell (p := ⟨b, o, none⟩) hbB⟩
theorem Items.words {w : World} {B : Nat} {A : Option Addr} {xs : List S.Item} (h : Items w B A xs) : ∀ x ∈ xs, 0 ≤ x.word ∧ x.word ≤ 4294967295 := fun x hx => by
  obtain ⟨i, hi, rfl⟩ := List.getElem_of_mem hx
  obtain ⟨b, off, e, hbB, hc⟩ := h (by omega)
  have := hc i _ (List.getElem?_eq_getElem hi)
  exact ⟨this.w0, this.w1⟩
theorem Items.more {w : World} {B B' : Nat} {A : Option Addr} {xs : List S.Item} (h : Items w B A xs) (hB : B ≤ B') : Items w B' A xs := fun hp => by
  obtain ⟨b, off, e, hbB, hc⟩ := h hp
  exact ⟨b, off, e, Nat.lt_of_lt_of_le hbB hB, hc⟩
theorem Items.at_ {w : World} {B : Nat} {A : Option Addr} {xs : List S.Item} (h : Items w B A xs) {k : Nat} (hk : k < xs.length) :
    ∃ b off x, A = some ⟨b, off, none⟩ ∧ b < B ∧ xs[k]? = some x ∧ ItemAt w b (off + k * 8) x := by
  obtain ⟨b, off, e, hbB, hc⟩ := h (by omega)
  exact ⟨b, off, xs[k], e, hbB, List.getElem?_eq_getElem hk, hc k _ (List.getElem?_eq_getElem hk)⟩

set_option maxRecDepth 100000 in
set_option maxHeartbeats 1000000 in
theorem ref_stands (A : Option Addr) (c : Nat) (xs : List S.Item) (lab : ByteArray) (w : World) (B : Nat) (hi : Items w B A xs) (hl : xs.length ≤ 1048576) :
    Calls Try.prog 93 #[.slice A xs.length c, .string lab] w fun e w' => e = .returned (.int .i64 (S.stands xs lab)) ∧ w = w' := by
  go_enter Try.func93, Try.ntmps93
  go_wp2_with fail
  go_loop [5] (fun i => ∃ k : Nat, k ≤ xs.length ∧ i = .int .i64 k ∧ S.standsFrom xs lab (xs.length - k) k = S.stands xs lab) (fun i => xs.length - (intOf i).toNat)
  case atStart => exact ⟨0, by omega, rfl, rfl⟩
  case round =>
    obtain ⟨k, hk, rfl, hs⟩ := hrel
    have Hs := Lib.hid hs
    clear hs
    by_cases hlt : k < xs.length
    · obtain ⟨b, off, x, rfl, hb, hx, hc0, hc1, hc2, hc3, hc4, hc5, hc6, hc7, hw0, hw1⟩ := hi.at_ hlt
      have hst := stands_step (lab := lab) hlt hx
      clear hx hc1 hc2 hc3 hc4 hc5 hc7
      by_cases h1 : x.kind = 2
      · have d1 := int_beq h1
        by_cases h2 : x.label = lab
        · have d2 := lab_eq h2
          rw [if_pos ⟨h1, h2⟩, Hs.out] at hst
          have Hst := Lib.hid hst
          clear hst h2 h1
          go_wp2_with fail
          go_ret
          exact ⟨ret_int Hst.out.symm, rfl⟩
        · have d2 := lab_ne h2
          rw [if_neg (fun h => h2 h.2), Hs.out] at hst
          have Hst := Lib.hid hst
          clear hst h2 h1
          go_wp2_with fail
          go_round
          case rel => exact ⟨k + 1, by omega, by go_num, Hst.out.symm⟩
          case measure => simp [intOf]; omega
      · have d1 := int_bne h1
        rw [if_neg (fun h => h1 h.1), Hs.out] at hst
        have Hst := Lib.hid hst
        clear hst h1
        go_wp2_with fail
        go_round
        case rel => exact ⟨k + 1, by omega, by go_num, Hst.out.symm⟩
        case measure => simp [intOf]; omega
    · have hkl : k = xs.length := by omega
      subst hkl
      have h0 := Hs.out
      rw [Nat.sub_self] at h0
      have Ht := Lib.hid h0
      clear h0
      go_wp2_with fail
      go_ret
      exact ⟨ret_int Ht.out, rfl⟩

end Go.Proofs.Ytbgdomnalimjnaa
