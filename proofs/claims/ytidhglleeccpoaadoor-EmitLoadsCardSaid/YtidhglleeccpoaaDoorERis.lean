/- ESlc, ESrt, ERis: joined.  Plain: when is a list rising: sorted, and none of it falls to Compact. -/
import Derived.Test.YtidhglleeccpoaaDoorEVir
import Derived.Test.YtidhglleeccpoaaDoorShelf
import Derived.BigQuiet
import Derived.Deep.QuietTactic
import Derived.Lib.SlicesCompact
section
set_option linter.unusedVariables false
set_option linter.unusedSimpArgs false
set_option linter.unusedSectionVars false
namespace Go.Proofs.YtidhglleeccpoaaDoor
open Go.RowKit

/-- A function value that answers of numbers, and leaves what lay below B. -/
def Pred (B : Nat) (g : Nat) (lb : Array Value) (p : Int → Bool) (w : World) : Prop :=
  ∀ (W : World) (x : Int), Below B w W → Calls Tryd.prog g (#[.int .i64 x] ++ lb) W fun e w' => e = .returned (.bool (p x)) ∧ Below B W w'

set_option maxRecDepth 100000 in
set_option maxHeartbeats 1000000 in
theorem s_IndexFunc (B g : Nat) (lb : Array Value) (p : Int → Bool) (eg : ∀ args w, (callFunc g args).run Tryd.prog w = .ok (.enter g args) w) (w : World) (hp : Pred B g lb p w) (A : Option Addr) (l : List Int) (c : Nat) (hA : Ints w B A l) (hl : l.length ≤ 4611686018427387904) :
    Calls Tryd.prog 57 #[.slice A l.length c, .func (.func g) #[] lb] w fun e w' => (∃ r : Int, e = .returned (.int .i64 r) ∧ decide (0 ≤ r) = l.any p) ∧ Below B w w' := by
  obtain ⟨N, hN⟩ : ∃ N : Nat, N = l.length := ⟨_, rfl⟩
  rw [← hN] at hl ⊢
  have HN := Lib.hid hN
  clear hN
  go_enter Tryd.func57, Tryd.ntmps57
  go_wp2_with fail
  go_loopw [5, 8] (fun _ v8 wr => ∃ k : Nat, k ≤ N ∧ v8 = .int .i64 k ∧ Below B w wr ∧ Hid (∀ x ∈ l.take k, p x = false)) (fun _ v8 _ => N - (intOf v8).toNat)
  case atStart => exact ⟨0, by omega, rfl, Below.refl _ _, Lib.hid (by simp)⟩
  case round =>
    obtain ⟨k, hk, rfl, hbk, hpre⟩ := hrel
    by_cases hlt : k < N
    · have hkl : k < l.length := by rw [← HN.out]; exact hlt
      obtain ⟨b, off, hAe, hbB, hc⟩ := (hA.below hbk).at_ hkl
      obtain ⟨x, hx⟩ : ∃ x, x = l.getD k 0 := ⟨_, rfl⟩
      rw [← hx] at hc
      have hge : l[k]? = some x := by rw [hx]; simp [hkl]
      have Hx := Lib.hid hge
      clear hge hx hkl
      subst hAe
      have hcall := hp wr x hbk
      cases hq : p x with
      | true =>
        rw [hq] at hcall
        have Hq := Lib.hid hq
        clear hq hp hA
        go_wp2_with (go_at_fn g; refine hcall.mono ?_; rintro e w2 ⟨rfl, hb2⟩)
        go_ret
        refine ⟨⟨(k : Int), rfl, ?_⟩, hbk.trans hb2⟩
        rw [decide_eq_true (by omega)]
        symm
        rw [List.any_eq_true]
        exact ⟨x, List.mem_of_getElem? Hx.out, Hq.out⟩
      | false =>
        rw [hq] at hcall
        have Hq := Lib.hid hq
        have Hp := Lib.hid hp
        have HA := Lib.hid hA
        clear hq hp hA
        go_wp2_with (go_at_fn g; refine hcall.mono ?_; rintro e w2 ⟨rfl, hb2⟩)
        go_roundw
        case rel =>
          refine ⟨k + 1, by omega, by go_num, hbk.trans hb2, Lib.hid (fun y hy => ?_)⟩
          rw [List.take_add_one, Hx.out] at hy
          rcases List.mem_append.1 hy with hy | hy
          · exact hpre.out y hy
          · have : y = x := by simpa using hy
            rw [this]; exact Hq.out
        case measure => simp [intOf]; omega
    · have hkN : k = N := by omega
      subst hkN
      clear hp hA
      go_wp2_with fail
      go_ret
      refine ⟨⟨-1, rfl, ?_⟩, hbk⟩
      rw [decide_eq_false (by omega)]
      symm
      rw [List.any_eq_false]
      intro y hy
      have := hpre.out y (by rw [HN.out, List.take_length]; exact hy)
      simp [this]

set_option maxRecDepth 100000 in
set_option maxHeartbeats 1000000 in
theorem s_ContainsFunc (B g : Nat) (lb : Array Value) (p : Int → Bool) (eg : ∀ args w, (callFunc g args).run Tryd.prog w = .ok (.enter g args) w) (w : World) (hp : Pred B g lb p w) (A : Option Addr) (l : List Int) (c : Nat) (hA : Ints w B A l) (hl : l.length ≤ 4611686018427387904) :
    Calls Tryd.prog 27 #[.slice A l.length c, .func (.func g) #[] lb] w fun e w' => e = .returned (.bool (l.any p)) ∧ Below B w w' := by
  have HI := Lib.hid (s_IndexFunc B g lb p eg w hp A l c hA hl)
  generalize l.any p = r at *
  clear hp hA eg
  go_enter Tryd.func27, Tryd.ntmps27
  go_wp2_with (go_at_call 57; refine HI.out.mono ?_; rintro e w2 ⟨⟨n, rfl, hn⟩, hb2⟩)
  all_goals
    go_ret
    exact ⟨by simp_all, hb2⟩

theorem enters_chk2 : ∀ args w, (callFunc 28 args).run Tryd.prog w = .ok (.enter 28 args) w := enters_of Tryd.func28 (by kernel_rfl) rfl
theorem p_chk2 (B : Nat) (w : World) : Pred B 28 #[] (fun r => decide (32 ≤ r)) w := fun W x _ => by
  by_cases h : 32 ≤ x
  all_goals
    go_enter Tryd.func28, Tryd.ntmps28
    go_wp2_with fail
    go_ret
    exact ⟨by simp [h], Below.refl _ _⟩

end Go.Proofs.YtidhglleeccpoaaDoor
end

section
set_option linter.unusedVariables false
set_option linter.unusedSimpArgs false
set_option linter.unusedSectionVars false
namespace Go.Proofs.YtidhglleeccpoaaDoor
open Go.RowKit

def upTo : List Int → Bool
  | [] => true
  | [_] => true
  | x :: y :: r => decide (x ≤ y) && upTo (y :: r)
theorem upTo_of : ∀ (l : List Int), (∀ j, j + 1 < l.length → l.getD j 0 ≤ l.getD (j + 1) 0) → upTo l = true
  | [], _ => rfl
  | [_], _ => rfl
  | x :: y :: r, h => by
    have h0 := h 0 (by simp)
    have h1 := upTo_of (y :: r) (fun j hj => by simpa using h (j + 1) (by simp at *; omega))
    simp only [List.getD_cons_zero, List.getD_cons_succ] at h0
    simp [upTo, h0, h1]
theorem upTo_at : ∀ (l : List Int), upTo l = true → ∀ j, j + 1 < l.length → l.getD j 0 ≤ l.getD (j + 1) 0
  | [], _, j, h => by simp at h
  | [_], _, j, h => by simp at h
  | x :: y :: r, h, 0, _ => by
    simp only [upTo, Bool.and_eq_true, decide_eq_true_eq] at h
    simpa using h.1
  | x :: y :: r, h, j + 1, hj => by
    simp only [upTo, Bool.and_eq_true, decide_eq_true_eq] at h
    have := upTo_at (y :: r) h.2 j (by simp at *; omega)
    simpa using this
theorem upTo_false {l : List Int} {j : Nat} (hj : j + 1 < l.length) (h : l.getD (j + 1) 0 < l.getD j 0) : upTo l = false := by
  cases e : upTo l with
  | false => rfl
  | true => have := upTo_at l e j hj; omega

set_option maxRecDepth 100000 in
set_option maxHeartbeats 1000000 in
theorem s_IsSortedQ (B : Nat) (w : World) (A : Option Addr) (l : List Int) (c : Nat) (hA : Ints w B A l) (hl : l.length ≤ 1000000) :
    Calls Tryd.prog 30 #[.slice A l.length c] w fun e w' => e = .returned (.bool (upTo l)) ∧ ∃ n, w' = w.drewN n := by
  obtain ⟨N, hN⟩ : ∃ N : Nat, N = l.length := ⟨_, rfl⟩
  rw [← hN] at hl ⊢
  have HN := Lib.hid hN
  clear hN
  have wr0 : IntKind.i64.wrap ((N : Int) - 1) = (N : Int) - 1 := by rw [IntWalk.i64_in _ (by omega)]
  go_enter Tryd.func30, Tryd.ntmps30
  go_wp2_with fail
  go_loopw [3, 7] (fun v3 v7 wr => ∃ k : Int, -1 ≤ k ∧ k < N ∧ v3 = .int .i64 k ∧ (∃ n, wr = w.drewN n) ∧ Hid (∀ j : Nat, k ≤ j → j + 1 < N → l.getD j 0 ≤ l.getD (j + 1) 0)) (fun v3 _ _ => (intOf v3 + 1).toNat)
  case atStart => exact ⟨(N : Int) - 1, by omega, by omega, rfl, ⟨0, rfl⟩, Lib.hid (fun j h1 h2 => by omega)⟩
  case round =>
    obtain ⟨k, hk0, hk1, rfl, ⟨n, rfl⟩, hpre⟩ := hrel
    by_cases h0 : 0 < k
    · obtain ⟨m, rfl⟩ : ∃ m : Nat, k = (m : Int) + 1 := ⟨(k - 1).toNat, by omega⟩
      have hm1 : m + 1 < N := by omega
      have hm0 : m < N := by omega
      have hAd := hA
      obtain ⟨b, off, hAe, hbB, hc1⟩ := hAd.at_ (k := m + 1) (by rw [← HN.out]; exact hm1)
      obtain ⟨b', off', hAe', _, hc0⟩ := hAd.at_ (k := m) (by rw [← HN.out]; exact hm0)
      rw [hAe] at hAe'
      cases hAe'
      obtain ⟨x, hx⟩ : ∃ x, x = l.getD m 0 := ⟨_, rfl⟩
      obtain ⟨y, hy⟩ : ∃ y, y = l.getD (m + 1) 0 := ⟨_, rfl⟩
      rw [← hx] at hc0
      rw [← hy] at hc1
      have Hx := Lib.hid hx
      have Hy := Lib.hid hy
      have e1 : ((m : Int) + 1).toNat = m + 1 := by omega
      have e2 : IntKind.i64.wrap ((m : Int) + 1 - 1) = (m : Int) := by rw [IntWalk.i64_in _ (by omega)]; omega
      have e3 : IntKind.i64.wrap (m : Int) = (m : Int) := by rw [IntWalk.i64_in _ (by omega)]
      have i1 : (m : Int) + 1 < (N : Int) := by omega
      have i2 : (0 : Int) ≤ (m : Int) + 1 := by omega
      have i3 : (m : Int) < (N : Int) := by omega
      have i4 : (0 : Int) ≤ (m : Int) := by omega
      subst hAe
      clear hx hy hA hAd
      by_cases hlt : y < x
      · have hd : decide (y < x) = true := by simpa using hlt
        have Hlt := Lib.hid hlt
        have Hr := Lib.hid (upTo_false (l := l) (j := m) (by rw [← HN.out]; exact hm1) (by rw [← Hx.out, ← Hy.out]; exact hlt))
        have hcl := fun w => Tryd.cmp_Less_int2 y x w
        rw [hd] at hcl
        have Hcl := Lib.hid hcl
        clear hcl hlt hd wr0
        go_upto_region 4 with fail
        go_quiet ((go_at_call 58; first | exact Calls.quiet_of_same (Hcl.out _) | exact quiet_add_left ((Hcl.out _).mono fun _ _ h => ⟨h.1, h.2.symm⟩)))
        go_wp2_with fail
        go_ret
        exact ⟨by rw [Hr.out]; rfl, by first | exact ⟨_, rfl⟩ | exact ⟨_, World.drewN_drewN _ _ _⟩⟩
      · have hd : decide (y < x) = false := by simpa using hlt
        have Hlt := Lib.hid hlt
        have hcl := fun w => Tryd.cmp_Less_int2 y x w
        rw [hd] at hcl
        have Hcl := Lib.hid hcl
        clear hcl hlt hd wr0
        go_upto_region 4 with fail
        go_quiet ((go_at_call 58; first | exact Calls.quiet_of_same (Hcl.out _) | exact quiet_add_left ((Hcl.out _).mono fun _ _ h => ⟨h.1, h.2.symm⟩)))
        go_wp2_with fail
        go_roundw
        case rel =>
          refine ⟨(m : Int), by omega, by omega, by go_num, by first | exact ⟨_, rfl⟩ | exact ⟨_, World.drewN_drewN _ _ _⟩, Lib.hid (fun j h1 h2 => ?_)⟩
          by_cases e : j = m
          · subst e
            rw [← Hx.out, ← Hy.out]
            have := Hlt.out
            omega
          · exact hpre.out j (by omega) h2
        case measure => simp [intOf]; omega
    · have hk : k = 0 ∨ k = -1 := by omega
      have Hr := Lib.hid (upTo_of l (fun j hj => hpre.out j (by omega) (by rw [HN.out]; exact hj)))
      clear hA hpre
      go_wp2_with fail
      go_ret
      exact ⟨by rw [Hr.out]; rfl, by first | exact ⟨_, rfl⟩ | exact ⟨_, World.drewN_drewN _ _ _⟩⟩
theorem s_IsSorted (B : Nat) (w : World) (A : Option Addr) (l : List Int) (c : Nat) (hA : Ints w B A l) (hB : B ≤ w.heap.size) (hl : l.length ≤ 1000000) :
    Calls Tryd.prog 30 #[.slice A l.length c] w fun e w' => e = .returned (.bool (upTo l)) ∧ Below w.heap.size w w' :=
  (s_IsSortedQ B w A l c hA hl).mono fun _ _ ⟨h1, n, h2⟩ => ⟨h1, by rw [h2]; exact below_drewN (Below.refl _ _) n⟩

end Go.Proofs.YtidhglleeccpoaaDoor
end

section
set_option linter.unusedVariables false
set_option linter.unusedSimpArgs false
set_option linter.unusedSectionVars false
namespace Go.Proofs.YtidhglleeccpoaaDoor

theorem rising_at : ∀ (l : List Int), S.rising l = true ↔ ∀ j, j + 1 < l.length → l.getD j 0 < l.getD (j + 1) 0
  | [] => by simp [S.rising]
  | [_] => by simp [S.rising]
  | x :: y :: r => by
    have ih := rising_at (y :: r)
    simp only [S.rising, Bool.and_eq_true, decide_eq_true_eq, ih]
    constructor
    · rintro ⟨h0, h1⟩ j hj
      cases j with
      | zero => simpa using h0
      | succ j => simpa using h1 j (by simp at *; omega)
    · intro h
      exact ⟨by simpa using h 0 (by simp), fun j hj => by simpa using h (j + 1) (by simp at *; omega)⟩
theorem filter_len {α : Type} (p : α → Bool) : ∀ (l : List α), (l.filter p).length = l.length ↔ ∀ x ∈ l, p x = true
  | [] => by simp
  | a :: l => by
    have ih := filter_len p l
    have hle := List.length_filter_le p l
    cases e : p a with
    | true => simp [List.filter_cons, e, ih]
    | false =>
      simp only [List.filter_cons, e, Bool.false_eq_true, if_false, List.length_cons, List.mem_cons, forall_eq_or_imp, false_and, iff_false]
      omega
theorem compact_len (l : List Int) : (Lib.compact l).length < l.length ↔ ∃ j, j + 1 < l.length ∧ l.getD (j + 1) 0 = l.getD j 0 := by
  have h0 : (Lib.compact l).length = ((List.range l.length).filter (Lib.keeps l.toArray)).length := by
    simp [Lib.compact, Lib.compactUpTo]
  have h1 : ((List.range l.length).filter (Lib.keeps l.toArray)).length ≤ l.length := by
    simpa using List.length_filter_le (Lib.keeps l.toArray) (List.range l.length)
  have h2 := filter_len (Lib.keeps l.toArray) (List.range l.length)
  rw [List.length_range] at h2
  rw [h0]
  constructor
  · intro h
    have h3 : ¬ (∀ x ∈ List.range l.length, Lib.keeps l.toArray x = true) := fun hh => by have := h2.2 hh; omega
    have h4 : ∃ x, x < l.length ∧ Lib.keeps l.toArray x = false := by
      apply Classical.byContradiction
      intro hn
      refine h3 (fun x hx => ?_)
      cases e : Lib.keeps l.toArray x with
      | true => rfl
      | false => exact absurd ⟨x, List.mem_range.1 hx, e⟩ hn
    obtain ⟨x, hx, hk⟩ := h4
    cases x with
    | zero => simp [Lib.keeps] at hk
    | succ j =>
      refine ⟨j, hx, ?_⟩
      simp only [Lib.keeps] at hk
      simp_all
  · rintro ⟨j, hj, he⟩
    have h3 : ((List.range l.length).filter (Lib.keeps l.toArray)).length ≠ l.length := fun hh => by
      have := h2.1 hh (j + 1) (List.mem_range.2 hj)
      simp only [Lib.keeps] at this
      simp_all
    omega
theorem rising_eq (l : List Int) : S.rising l = (upTo l && !decide ((Lib.compact l).length < l.length)) := by
  rw [Bool.eq_iff_iff]
  simp only [Bool.and_eq_true, Bool.not_eq_true', decide_eq_false_iff_not, rising_at, compact_len]
  constructor
  · intro h
    refine ⟨upTo_of l (fun j hj => by have := h j hj; omega), ?_⟩
    rintro ⟨j, hj, he⟩
    have := h j hj
    omega
  · rintro ⟨h1, h2⟩ j hj
    have := upTo_at l h1 j hj
    rcases Int.lt_or_eq_of_le this with h | h
    · exact h
    · exact absurd ⟨j, hj, h.symm⟩ h2
end Go.Proofs.YtidhglleeccpoaaDoor
end
