/- Walk of the law EmitLabels. -/
import Derived.Test.YtkdalaiponchbaaDoorEWrk
import Derived.Test.YtkdalaiponchbaaDoorEDig
set_option linter.unusedVariables false
set_option linter.unusedSimpArgs false
set_option linter.unusedSectionVars false
namespace Go.Proofs.YtkdalaiponchbaaDoor
open Go.RowKit

def dval (l : List UInt8) : Nat := l.foldl (fun v c => 10 * v + (c.toNat - 48)) 0
theorem dval_dig : ∀ (f u : Nat), u < 10 ^ (f + 1) → dval (S.digF f u) = u
  | 0, u, h => by
    have h' : u < 10 := by simpa using h
    show dval [UInt8.ofNat (48 + u % 10)] = u
    simp only [dval, List.foldl_cons, List.foldl_nil]
    rw [dig_byte (by omega)]
    omega
  | f + 1, u, h => by
    show dval (if u < 10 then [UInt8.ofNat (48 + u)] else S.digF f (u / 10) ++ [UInt8.ofNat (48 + u % 10)]) = u
    by_cases hu : u < 10
    · rw [if_pos hu]
      simp only [dval, List.foldl_cons, List.foldl_nil]
      rw [dig_byte (by omega)]
      omega
    · rw [if_neg hu]
      have ih := dval_dig f (u / 10) (by rw [Nat.pow_succ] at h; omega)
      unfold dval at ih ⊢
      rw [List.foldl_append, ih]
      simp only [List.foldl_cons, List.foldl_nil]
      rw [dig_byte (by omega)]
      omega
theorem itoa_inj {a b : Int} (ha : I64 a) (hb : I64 b) (h : S.itoa a = S.itoa b) : a = b := by
  have e : (10 : Nat) ^ (20 + 1) = 1000000000000000000000 := by decide
  obtain ⟨a0, a1⟩ := ha
  obtain ⟨b0, b1⟩ := hb
  have no : ∀ (u : Nat) (l : List UInt8), S.digF 20 u ≠ 45 :: l := fun u l h => by
    have := digF_mem 20 u 45 (by rw [h]; simp)
    exact absurd this.1 (by decide)
  unfold S.itoa at h
  split at h
  · split at h
    · have h2 := congrArg dval (List.cons.inj h).2
      rw [dval_dig 20 _ (by rw [e]; omega), dval_dig 20 _ (by rw [e]; omega)] at h2
      omega
    · exact absurd h.symm (no _ _)
  · split at h
    · exact absurd h (no _ _)
    · have h2 := congrArg dval h
      rw [dval_dig 20 _ (by rw [e]; omega), dval_dig 20 _ (by rw [e]; omega)] at h2
      omega
theorem rt_inj {a b : Int} (ha : I64 a) (hb : I64 b) (h : S.rt a = S.rt b) : a = b := by
  unfold S.rt S.lab at h
  have h2 := congrArg (fun x : ByteArray => x.data.toList) h
  simp only [List.toList_toArray] at h2
  exact itoa_inj ha hb (List.append_cancel_left h2)

set_option maxRecDepth 100000 in
set_option maxHeartbeats 2000000 in
theorem law_EmitLabels (a b : Int) (ha : I64 a) (hb : I64 b) (w : World) (hL : LVE w) : Calls Tryd.prog 4 #[.int .i64 a, .int .i64 b] w fun e w' => e = .returned (.bool true) ∧ Below w.heap.size w w' := by
  have HL := Lib.hid hL
  have hi : S.rt a = S.rt b → a = b := rt_inj ha hb
  have Ha := Lib.hid ha
  have Hb := Lib.hid hb
  obtain ⟨ra, hra⟩ : ∃ r, r = S.rt a := ⟨_, rfl⟩
  obtain ⟨rb, hrb⟩ : ∃ r, r = S.rt b := ⟨_, rfl⟩
  have he := fun W hb => e_Label a ha W (hL.on hb)
  have hf := fun W hb' => e_Label b hb W (hL.on hb')
  have hr := fun W => r24_Label a ha W
  rw [← hra] at he hr
  rw [← hrb] at hf
  rw [← hra, ← hrb] at hi
  have He := Lib.hid he
  have Hf := Lib.hid hf
  have Hr := Lib.hid hr
  clear he hf hr ha hb
  by_cases hab : a = b
  · subst hab
    rw [← hra] at hrb
    subst hrb
    clear hra hi
    go_enter Tryd.func4, Tryd.ntmps4
    go_wp2_with fail
    refine (He.out _ (Below.refl _ _)).mono ?_
    rintro e w1 ⟨rfl, hb1⟩
    go_wp2_with fail
    refine (Hr.out _).mono ?_
    rintro e w2 ⟨rfl, hb2⟩
    have h2 := hb1.trans (hb2.mono hb1.size)
    go_wp2_with fail
    refine (He.out _ h2).mono ?_
    rintro e w3 ⟨rfl, hb3⟩
    have h3 := h2.trans (hb3.mono h2.size)
    go_wp2_with fail
    refine (He.out _ h3).mono ?_
    rintro e w4 ⟨rfl, hb4⟩
    have h4 := h3.trans (hb4.mono h3.size)
    go_wp2_with fail
    refine (l_works w4 (HL.out.on h4)).mono ?_
    rintro e w5 ⟨rfl, hb5⟩
    go_wp2_with fail
    go_ret
    exact ⟨rfl, h4.trans (hb5.mono h4.size)⟩
  · have hne := lab_ne (fun h => hab (hi h))
    clear hi hra hrb
    go_enter Tryd.func4, Tryd.ntmps4
    go_wp2_with fail
    refine (He.out _ (Below.refl _ _)).mono ?_
    rintro e w1 ⟨rfl, hb1⟩
    go_wp2_with fail
    refine (Hr.out _).mono ?_
    rintro e w2 ⟨rfl, hb2⟩
    have h2 := hb1.trans (hb2.mono hb1.size)
    go_wp2_with fail
    refine (He.out _ h2).mono ?_
    rintro e w3 ⟨rfl, hb3⟩
    have h3 := h2.trans (hb3.mono h2.size)
    go_wp2_with fail
    refine (Hf.out _ h3).mono ?_
    rintro e w4 ⟨rfl, hb4⟩
    have h4 := h3.trans (hb4.mono h3.size)
    go_wp2_with fail
    refine (l_works w4 (HL.out.on h4)).mono ?_
    rintro e w5 ⟨rfl, hb5⟩
    go_wp2_with fail
    go_ret
    exact ⟨ret_bool (by rw [int_bne hab]; rfl), h4.trans (hb5.mono h4.size)⟩

end Go.Proofs.YtkdalaiponchbaaDoor
