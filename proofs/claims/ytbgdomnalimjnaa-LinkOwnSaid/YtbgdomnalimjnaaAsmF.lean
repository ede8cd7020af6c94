/- Walk of pennantref03.Check. -/
import Derived.Test.YtbgdomnalimjnaaAsmC
set_option linter.unusedVariables false
set_option linter.unusedSimpArgs false
set_option linter.unusedSectionVars false
namespace Go.Proofs.Ytbgdomnalimjnaa
open Go.RowKit

theorem firstErr_drop {xs : List S.Item} {k : Nat} {x : S.Item} (hx : xs[k]? = some x) : S.firstErr (xs.drop k) = if S.chkItem x ≠ 0 then S.chkItem x else S.firstErr (xs.drop (k + 1)) := by
  have hk := (List.getElem?_eq_some_iff.1 hx).1
  have he := (List.getElem?_eq_some_iff.1 hx).2
  rw [List.drop_eq_getElem_cons hk, he, S.firstErr]

def DupAt (xs : List S.Item) (i : Nat) : Prop := ∃ x, xs[i]? = some x ∧ x.kind = 2 ∧ S.stands xs x.label ≠ i
def MissAt (xs : List S.Item) (i : Nat) : Prop := ∃ x, xs[i]? = some x ∧ S.named x = true ∧ S.stands xs x.label < 0
theorem dup_none {xs : List S.Item} (h : ∀ m, m < xs.length → ¬ DupAt xs m) : ¬ S.Dup xs := fun ⟨i, x, h1, h2, h3⟩ => h i (List.getElem?_eq_some_iff.1 h1).1 ⟨x, h1, h2, h3⟩
theorem miss_none {xs : List S.Item} (h : ∀ m, m < xs.length → ¬ MissAt xs m) : ¬ S.Miss xs := fun ⟨i, x, h1, h2, h3⟩ => h i (List.getElem?_eq_some_iff.1 h1).1 ⟨x, h1, h2, h3⟩

set_option maxRecDepth 100000 in
set_option maxHeartbeats 4000000 in
theorem ref_CheckItems (A : Option Addr) (c : Nat) (xs : List S.Item) (base : Int) (w : World) (hi : Items w w.heap.size A xs) (hl : xs.length ≤ 1048576) :
    Calls Try.prog 115 #[.slice A xs.length c, .int .i64 base] w
      fun e w' => ∃ r, e = .returned (.int .i64 r) ∧ S.CheckRes xs base r ∧ Below w.heap.size w w' := by
  by_cases hb0 : base < 0
  · go_enter Try.func115, Try.ntmps115
    go_wp2_with fail
    go_ret
    exact ⟨2, rfl, .inl ⟨.inl hb0, rfl⟩, Below.refl _ _⟩
  by_cases hb1 : 67108864 < base
  · go_enter Try.func115, Try.ntmps115
    go_wp2_with fail
    go_ret
    exact ⟨2, rfl, .inl ⟨.inr hb1, rfl⟩, Below.refl _ _⟩
  have hb0' : 0 ≤ base := by omega
  have hb1' : base ≤ 67108864 := by omega
  clear hb0 hb1
  go_enter Try.func115, Try.ntmps115
  go_wp2_with fail
  go_loopw [5] (fun i wr => ∃ k : Nat, k ≤ xs.length ∧ i = .int .i64 k ∧ S.firstErr xs = S.firstErr (xs.drop k) ∧ Below w.heap.size w wr) (fun i _ => xs.length - (intOf i).toNat)
  case atStart => exact ⟨0, by omega, rfl, by simp, Below.refl _ _⟩
  case round =>
    obtain ⟨k, hk, rfl, hfe, hbk⟩ := hrel
    have Hfe := Lib.hid hfe
    clear hfe
    by_cases hlt : k < xs.length
    · obtain ⟨b, off, x, rfl, hb, hx, hc0, hc1, hc2, hc3, hc4, hc5, hc6, hc7, hw0, hw1⟩ := (hi.below hbk).at_ hlt
      have Hd := Lib.hid (firstErr_drop hx)
      clear hx
      obtain ⟨kind, ⟨op, d, a, b', imm⟩, lab, wd⟩ := x
      simp only at hc0 hc1 hc2 hc3 hc4 hc5 hc6 hc7 hw0 hw1
      by_cases he : S.chkItem ⟨kind, ⟨op, d, a, b', imm⟩, lab, wd⟩ = 0
      · have hd := int_beq he
        have He := Lib.hid he
        clear he
        go_wp2_with (go_at_call 122; refine (ref3_check _ _ _ _ _ _ _ _ _).mono ?_; rintro e w' ⟨rfl, hb1⟩)
        go_roundw
        case rel =>
          refine ⟨k + 1, by omega, by go_num, ?_, hbk.trans (hb1.mono hbk.size)⟩
          rw [Hfe.out, Hd.out, if_neg (by rw [He.out]; simp)]
        case measure => simp [intOf]; omega
      · have hd := int_bne he
        have He := Lib.hid he
        clear he
        go_wp2_with (go_at_call 122; refine (ref3_check _ _ _ _ _ _ _ _ _).mono ?_; rintro e w' ⟨rfl, hb1⟩)
        go_ret
        refine ⟨_, rfl, .inr (.inl ⟨hb0', hb1', ?_, ?_⟩), hbk.trans (hb1.mono hbk.size)⟩
        · rw [Hfe.out, Hd.out, if_pos He.out]; exact He.out
        · rw [Hfe.out, Hd.out, if_pos He.out]
    · have hkl : k = xs.length := by omega
      subst hkl
      have H0 : Hid (S.firstErr xs = 0) := by have := Hfe.out; rw [List.drop_length] at this; exact this
      clear Hfe
      have hi2 := hi.below hbk
      go_wp2_with fail
      go_loop [7] (fun i => ∃ k : Nat, k ≤ xs.length ∧ i = .int .i64 k ∧ ∀ m, m < k → ¬ DupAt xs m) (fun i => xs.length - (intOf i).toNat)
      case atStart => exact ⟨0, by omega, rfl, fun m hm => by omega⟩
      case round =>
        obtain ⟨k, hk, rfl, hnd⟩ := hrel
        have Hnd := Lib.hid hnd
        clear hnd
        by_cases hlt : k < xs.length
        · obtain ⟨b, off, x, rfl, hb, hx, hc0, hc1, hc2, hc3, hc4, hc5, hc6, hc7, hw0, hw1⟩ := hi2.at_ hlt
          have Hx := Lib.hid hx
          clear hx
          by_cases h1 : x.kind = 2
          · have d1 := int_beq h1
            by_cases h2 : S.stands xs x.label = k
            · have d2 := int_beq h2
              have h2' := Lib.hid h2
              have h1' := Lib.hid h1
              clear h1 h2
              go_wp2_with (go_at_call 93; refine (ref_stands _ _ _ _ _ _ hi2 hl).mono ?_; rintro e w' ⟨rfl, rfl⟩)
              go_round
              case rel =>
                refine ⟨k + 1, by omega, by go_num, fun m hm => ?_⟩
                by_cases hmk : m < k
                · exact Hnd.out m hmk
                · have : m = k := by omega
                  subst this
                  rintro ⟨y, hy1, hy2, hy3⟩
                  rw [Hx.out] at hy1; cases hy1
                  exact hy3 h2'.out
              case measure => simp [intOf]; omega
            · have d2 := int_bne h2
              have h2' := Lib.hid h2
              have h1' := Lib.hid h1
              clear h1 h2
              go_wp2_with (go_at_call 93; refine (ref_stands _ _ _ _ _ _ hi2 hl).mono ?_; rintro e w' ⟨rfl, rfl⟩)
              go_ret
              exact ⟨14, rfl, .inr (.inr (.inl ⟨hb0', hb1', H0.out, ⟨k, x, Hx.out, h1'.out, h2'.out⟩, rfl⟩)), hbk⟩
          · have d1 := int_bne h1
            have h1' := Lib.hid h1
            clear h1
            go_wp2_with fail
            go_round
            case rel =>
              refine ⟨k + 1, by omega, by go_num, fun m hm => ?_⟩
              by_cases hmk : m < k
              · exact Hnd.out m hmk
              · have : m = k := by omega
                subst this
                rintro ⟨y, hy1, hy2, hy3⟩
                rw [Hx.out] at hy1; cases hy1
                exact h1'.out hy2
            case measure => simp [intOf]; omega
        · have hkl : k = xs.length := by omega
          subst hkl
          go_wp2_with fail
          go_loopw [8] (fun i wr2 => ∃ k : Nat, k ≤ xs.length ∧ i = .int .i64 k ∧ (∀ m, m < k → ¬ MissAt xs m) ∧ Below w.heap.size w wr2) (fun i _ => xs.length - (intOf i).toNat)
          case atStart => exact ⟨0, by omega, rfl, fun m hm => by omega, hbk⟩
          case round =>
            obtain ⟨k, hk, rfl, hnm, hbk2⟩ := hrel
            have Hnm := Lib.hid hnm
            clear hnm
            have hi3 := hi.below hbk2
            by_cases hlt : k < xs.length
            · obtain ⟨b, off, x, rfl, hb, hx, hc0, hc1, hc2, hc3, hc4, hc5, hc6, hc7, hw0, hw1⟩ := hi3.at_ hlt
              have Hx := Lib.hid hx
              clear hx
              obtain ⟨kind, ⟨op, d, a, b', imm⟩, lab, wd⟩ := x
              simp only at hc0 hc1 hc2 hc3 hc4 hc5 hc6 hc7 hw0 hw1
              have hbr := Nat.lt_of_lt_of_le hb hbk2.size
              rcases Bool.eq_false_or_eq_true (S.named ⟨kind, ⟨op, d, a, b', imm⟩, lab, wd⟩) with h1 | h1
              · rcases Bool.eq_false_or_eq_true (decide (S.stands xs lab < 0)) with h2 | h2
                · go_wp2_with (first
                    | (go_at_call 92; refine (ref_Named _ _ _ _ _ _ _ _ _).mono ?_; rintro e w' ⟨rfl, hbn⟩; obtain ⟨hq1, hq2⟩ := bcell hbn; have hzn := hbk2.size)
                    | (go_at_call 93; refine (ref_stands _ _ _ _ _ _ (hi3.below (hbn.mono hzn)) hl).mono ?_; rintro e w' ⟨rfl, rfl⟩))
                  go_ret
                  exact ⟨12, rfl, .inr (.inr (.inr (.inl ⟨hb0', hb1', H0.out, dup_none Hnd.out, ⟨k, _, Hx.out, h1, by simpa using h2⟩, rfl⟩))), hbk2.trans (hbn.mono hzn)⟩
                · go_wp2_with (first
                    | (go_at_call 92; refine (ref_Named _ _ _ _ _ _ _ _ _).mono ?_; rintro e w' ⟨rfl, hbn⟩; obtain ⟨hq1, hq2⟩ := bcell hbn; have hzn := hbk2.size)
                    | (go_at_call 93; refine (ref_stands _ _ _ _ _ _ (hi3.below (hbn.mono hzn)) hl).mono ?_; rintro e w' ⟨rfl, rfl⟩))
                  go_roundw
                  case rel =>
                    refine ⟨k + 1, by omega, by go_num, fun m hm => ?_, hbk2.trans (hbn.mono hzn)⟩
                    by_cases hmk : m < k
                    · exact Hnm.out m hmk
                    · have : m = k := by omega
                      subst this
                      rintro ⟨y, hy1, hy2, hy3⟩
                      rw [Hx.out] at hy1; cases hy1
                      simp at h2
                      simp only at hy3
                      omega
                  case measure => simp [intOf]; omega
              · go_wp2_with (go_at_call 92; refine (ref_Named _ _ _ _ _ _ _ _ _).mono ?_; rintro e w' ⟨rfl, hbn⟩; have hzn := hbk2.size)
                go_roundw
                case rel =>
                  refine ⟨k + 1, by omega, by go_num, fun m hm => ?_, hbk2.trans (hbn.mono hzn)⟩
                  by_cases hmk : m < k
                  · exact Hnm.out m hmk
                  · have : m = k := by omega
                    subst this
                    rintro ⟨y, hy1, hy2, hy3⟩
                    rw [Hx.out] at hy1; cases hy1
                    rw [h1] at hy2; cases hy2
                case measure => simp [intOf]; omega
            · have hkl : k = xs.length := by omega
              subst hkl
              go_wp2_with fail
              go_ret
              exact ⟨0, rfl, .inr (.inr (.inr (.inr ⟨hb0', hb1', H0.out, dup_none Hnd.out, miss_none Hnm.out, rfl⟩))), hbk2⟩

end Go.Proofs.Ytbgdomnalimjnaa
