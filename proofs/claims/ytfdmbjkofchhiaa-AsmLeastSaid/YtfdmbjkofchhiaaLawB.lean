/- Walk of the law's begins. -/
import Derived.Test.YtfdmbjkofchhiaaLawA
import Derived.Test.YtfdmbjkofchhiaaAsmQ
set_option linter.unusedVariables false
set_option linter.unusedSimpArgs false
set_option linter.unusedSectionVars false
namespace Go.Proofs.Ytfdmbjkofchhiaa
open Go.RowKit

theorem assembled_ok {xs : List S.Item} {base : Int} {F : List Int} {w w' : World} {e : Ending} (hres : S.FormsRes xs base 0 F) (h : Assembled w xs base e w') :
    ∃ Ao co Ap cp, e = .returned (.tuple #[.slice Ao (S.outTo xs F base xs.length).length co, .slice Ap (S.placesTo xs F base xs.length).length cp, .int .i64 0]) ∧
      Reads w' w'.heap.size Ao ((S.outTo xs F base xs.length).map (Value.int .u32)) ∧ ReadsP w' w'.heap.size Ap (S.placesTo xs F base xs.length) ∧ Below w.heap.size w w' := by
  obtain ⟨vo, vp, r, G, rfl, hr, h1, h2, hb⟩ := h
  obtain ⟨e0, eF⟩ := formsRes_fun hres hr
  subst eF
  rw [if_pos e0.symm] at h1 h2
  obtain ⟨Ao, co, rfl⟩ := ownsRow_form h1
  obtain ⟨Ap, cp, rfl⟩ := ownsRow_form h2
  exact ⟨Ao, co, Ap, cp, by rw [← e0], Reads.of_own h1, ReadsP.of_own h2, hb⟩

theorem formsRes_bd {xs : List S.Item} {base : Int} {F : List Int} (h : S.FormsRes xs base 0 F) (hw : ∀ x ∈ xs, 0 ≤ x.word ∧ x.word ≤ 4294967295) :
    (S.outTo xs F base xs.length).length ≤ 67108864 ∧ (S.placesTo xs F base xs.length).length ≤ xs.length := by
  rcases h with ⟨h, _⟩ | ⟨_, h, _⟩ | ⟨h1, _, h3, h4, h5⟩
  · exact absurd rfl h
  · omega
  · have h6 := outTo_length (base := base) h3.1 (kinds_ok (firstErr_of h1)) hw xs.length
    have h7 := (base_ok h1).1
    have h8 : S.addr xs F base xs.length ≤ 67108864 := h5
    exact ⟨by omega, placesTo_length xs F base xs.length⟩

set_option maxRecDepth 100000 in
set_option maxHeartbeats 2000000 in
theorem law_begins (A Aw : Option Addr) (c cw : Nat) (xs : List S.Item) (base many at_ : Int) (W : List Int) (w : World) (hi : Items w w.heap.size A xs) (hl : xs.length ≤ 1048576)
    (hlab : ∀ (k : Nat) (x : S.Item), xs[k]? = some x → x.label.size ≤ maxLen) (hW : Reads w w.heap.size Aw (W.map (Value.int .u32))) (F : List Int) (hres : S.FormsRes xs base 0 F)
    (hm : ((S.outTo xs F base xs.length).length : Int) = many) (s : ByteArray) (hp : (S.placesTo xs F base xs.length)[0]? = some (s, at_))
    (hpre : ∀ (k : Nat) (v : Int), W[k]? = some v → (S.outTo xs F base xs.length)[k]? = some v) (hWl : W.length ≤ (S.outTo xs F base xs.length).length) :
    Calls Try.prog 20 #[.slice A xs.length c, .int .i64 base, .int .i64 many, .int .i64 at_, .slice Aw W.length cw] w fun e w' => e = .returned (.bool true) ∧ Below w.heap.size w w' := by
  obtain ⟨hb1, hb2⟩ := formsRes_bd hres hi.words
  have hasm := (asm_Assemble A c xs base w hi hl hlab).mono fun e w' h => assembled_ok hres h
  have Hasm := Lib.hid hasm
  have Hpre := Lib.hid hpre
  have Hp := Lib.hid hp
  have hpl := (List.getElem?_eq_some_iff.1 hp).1
  have d1 : (many != many) = false := by simp
  have d2 : (at_ != at_) = false := by simp
  have d3 : decide (((S.placesTo xs F base xs.length).length : Int) < 1) = false := by simp; omega
  have d4 : decide (((S.outTo xs F base xs.length).length : Int) < (W.length : Int)) = false := by simp; omega
  have d5 : decide ((S.outTo xs F base xs.length).length < W.length) = false := by simp; omega
  have d6 : (((S.outTo xs F base xs.length).length : Int) != many) = false := by simp [hm]
  have hl4 := hWl
  clear hasm hpre hp hlab hWl hm
  generalize S.outTo xs F base xs.length = out at *
  generalize S.placesTo xs F base xs.length = pl at *
  go_enter Try.func20, Try.ntmps20
  go_wp2_with fail
  refine Hasm.out.mono ?_
  rintro e w1 ⟨Ao, co, Ap, cp, rfl, hro, hrp, hbw⟩
  obtain ⟨bp, op, sp, np, rfl, hbp, hpx, hpc0, hpc1⟩ := hrp.at_ hpl
  rw [Hp.out] at hpx
  cases hpx
  have hW1 := hW.below hbw
  have hz1 := hbw.size
  simp only [Nat.zero_mul, Nat.add_zero] at hpc0 hpc1
  go_wp2_with fail
  go_loopw [14] (fun i wr => ∃ (k n : Nat), k ≤ W.length ∧ i = .int .i64 k ∧ wr = w1.drewN n) (fun i _ => W.length - (intOf i).toNat)
  case atStart => exact ⟨0, 0, by omega, rfl, rfl⟩
  case round =>
    obtain ⟨k, n, hk, rfl, rfl⟩ := hrel
    by_cases hlt : k < W.length
    · have hx : W[k]? = some W[k] := List.getElem?_eq_getElem hlt
      have hy := Hpre.out k _ hx
      generalize W[k] = v at *
      obtain ⟨b, off, rfl, hb, hc⟩ := reads_at hro (k := k) (v := .int .u32 v) (by simp [hy])
      obtain ⟨b', off', rfl, hb', hc'⟩ := reads_at hW1 (k := k) (v := .int .u32 v) (by simp [hx])
      clear hx hy
      go_wp2_with fail
      go_quiet (fail)
      go_wp2_with fail
      go_roundw
      case rel => exact ⟨k + 1, _, by omega, by go_num, rfl⟩
      case measure => simp [intOf]; omega
    · go_wp2_with fail
      go_ret
      exact ⟨rfl, below_drewN hbw _⟩

end Go.Proofs.Ytfdmbjkofchhiaa
