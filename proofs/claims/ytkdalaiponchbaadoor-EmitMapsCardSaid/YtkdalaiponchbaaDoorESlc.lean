/- Walks of the library's slices functions at []int: IndexFunc, ContainsFunc, IsSorted. -/
import Derived.Test.YtkdalaiponchbaaDoorEVir
import Derived.Test.YtkdalaiponchbaaDoorShelf
import Derived.BigQuiet
import Derived.Deep.QuietTactic
set_option linter.unusedVariables false
set_option linter.unusedSimpArgs false
set_option linter.unusedSectionVars false
namespace Go.Proofs.YtkdalaiponchbaaDoor
open Go.RowKit

/-- A function value that answers of numbers, and leaves what lay below B. -/
def Pred (B : Nat) (g : Nat) (lb : Array Value) (p : Int → Bool) (w : World) : Prop :=
  ∀ (W : World) (x : Int), Below B w W → Calls Tryd.prog g (#[.int .i64 x] ++ lb) W fun e w' => e = .returned (.bool (p x)) ∧ Below B W w'

set_option maxRecDepth 100000 in
set_option maxHeartbeats 1000000 in
theorem s_IndexFunc (B g : Nat) (lb : Array Value) (p : Int → Bool) (eg : ∀ args w, (callFunc g args).run Tryd.prog w = .ok (.enter g args) w) (w : World) (hp : Pred B g lb p w) (A : Option Addr) (l : List Int) (c : Nat) (hA : Ints w B A l) (hl : l.length ≤ 4611686018427387904) :
    Calls Tryd.prog 65 #[.slice A l.length c, .func (.func g) #[] lb] w fun e w' => (∃ r : Int, e = .returned (.int .i64 r) ∧ decide (0 ≤ r) = l.any p) ∧ Below B w w' := by
  obtain ⟨N, hN⟩ : ∃ N : Nat, N = l.length := ⟨_, rfl⟩
  rw [← hN] at hl ⊢
  have HN := Lib.hid hN
  clear hN
  go_enter Tryd.func65, Tryd.ntmps65
  go_wp2_with fail
  go_loopw [5, 8] (fun _ v8 wr => ∃ k : Nat, k ≤ N ∧ v8 = .int .i64 k ∧ Below B w wr ∧ Hid (∀ x ∈ l.take k, p x = false)) (fun _ v8 _ => N - (intOf v8).toNat)
  case atStart => exact ⟨0, by omega, rfl, Below.refl _ _, Lib.hid (by simp)⟩
  case round =>
    obtain ⟨k, hk, rfl, hbk, hpre⟩ := hrel
    by_cases hlt : k < N
    · have hkl : k < l.length := by rw [← HN.out]; exact hlt
      obtain ⟨b, off, hAe, hbB, hc⟩ := (hA.below hbk).at_ hkl
      obtain ⟨x, hx⟩ : ∃ x, x = l.getD k 0 := ⟨_, rfl⟩
      rw [← hx] at hc
      have hge : l[k]? = some x := by rw [hx]; simp [hkl]
      have Hx := Lib.hid hge
      clear hge hx hkl
      subst hAe
      have hcall := hp wr x hbk
      cases hq : p x with
      | true =>
        rw [hq] at hcall
        have Hq := Lib.hid hq
        clear hq hp hA
        go_wp2_with (go_at_fn g; refine hcall.mono ?_; rintro e w2 ⟨rfl, hb2⟩)
        go_ret
        refine ⟨⟨(k : Int), rfl, ?_⟩, hbk.trans hb2⟩
        rw [decide_eq_true (by omega)]
        symm
        rw [List.any_eq_true]
        exact ⟨x, List.mem_of_getElem? Hx.out, Hq.out⟩
      | false =>
        rw [hq] at hcall
        have Hq := Lib.hid hq
        have Hp := Lib.hid hp
        have HA := Lib.hid hA
        clear hq hp hA
        go_wp2_with (go_at_fn g; refine hcall.mono ?_; rintro e w2 ⟨rfl, hb2⟩)
        go_roundw
        case rel =>
          refine ⟨k + 1, by omega, by go_num, hbk.trans hb2, Lib.hid (fun y hy => ?_)⟩
          rw [List.take_add_one, Hx.out] at hy
          rcases List.mem_append.1 hy with hy | hy
          · exact hpre.out y hy
          · have : y = x := by simpa using hy
            rw [this]; exact Hq.out
        case measure => simp [intOf]; omega
    · have hkN : k = N := by omega
      subst hkN
      clear hp hA
      go_wp2_with fail
      go_ret
      refine ⟨⟨-1, rfl, ?_⟩, hbk⟩
      rw [decide_eq_false (by omega)]
      symm
      rw [List.any_eq_false]
      intro y hy
      have := hpre.out y (by rw [HN.out, List.take_length]; exact hy)
      simp [this]

set_option maxRecDepth 100000 in
set_option maxHeartbeats 1000000 in
theorem s_ContainsFunc (B g : Nat) (lb : Array Value) (p : Int → Bool) (eg : ∀ args w, (callFunc g args).run Tryd.prog w = .ok (.enter g args) w) (w : World) (hp : Pred B g lb p w) (A : Option Addr) (l : List Int) (c : Nat) (hA : Ints w B A l) (hl : l.length ≤ 4611686018427387904) :
    Calls Tryd.prog 37 #[.slice A l.length c, .func (.func g) #[] lb] w fun e w' => e = .returned (.bool (l.any p)) ∧ Below B w w' := by
  have HI := Lib.hid (s_IndexFunc B g lb p eg w hp A l c hA hl)
  generalize l.any p = r at *
  clear hp hA eg
  go_enter Tryd.func37, Tryd.ntmps37
  go_wp2_with (go_at_call 65; refine HI.out.mono ?_; rintro e w2 ⟨⟨n, rfl, hn⟩, hb2⟩)
  all_goals
    go_ret
    exact ⟨by simp_all, hb2⟩

theorem enters_chk2 : ∀ args w, (callFunc 38 args).run Tryd.prog w = .ok (.enter 38 args) w := enters_of Tryd.func38 (by kernel_rfl) rfl
theorem p_chk2 (B : Nat) (w : World) : Pred B 38 #[] (fun r => decide (32 ≤ r)) w := fun W x _ => by
  by_cases h : 32 ≤ x
  all_goals
    go_enter Tryd.func38, Tryd.ntmps38
    go_wp2_with fail
    go_ret
    exact ⟨by simp [h], Below.refl _ _⟩

end Go.Proofs.YtkdalaiponchbaaDoor
