/- isa's numbers of a text: strconv.Atoi at any text, and the closure of isa.Parse. -/
import Derived.Test.YtjhchgbeglhoaaaDoorISpl
set_option linter.unusedVariables false
set_option linter.unusedSimpArgs false
set_option linter.unusedSectionVars false
namespace Go.Proofs.YtjhchgbeglhoaaaDoor
open Go.RowKit

theorem isa_Atoi (s : ByteArray) (hs : s.size ≤ 1000000) (w : World) (hL : LV w) : Calls Tryd.prog 49 #[.string s] w fun e w' =>
    ∃ ev, e = .returned (.tuple #[.int .i64 (S.atoiV s.data.toList), ev]) ∧ Below w.heap.size w w' := by
  cases h : Lib.atoiAll s.data.toList
  · rename_i v
    have e1 : S.atoiV s.data.toList = v := by unfold S.atoiV; rw [h]
    rw [e1]
    refine (Tryd.strconv_Atoi_ok s (by omega) v h w).mono ?_
    rintro e w' ⟨rfl, hw⟩
    refine ⟨_, rfl, ?_⟩
    rcases hw with rfl | ⟨t, rfl⟩
    · exact Below.refl _ _
    · exact Lib.bytesWorld_below _ _ _
  · have e1 : S.atoiV s.data.toList = 0 := by unfold S.atoiV; rw [h]
    rw [e1]
    obtain ⟨ev, h1, h2⟩ := hL.syn
    refine (Any.strconv_Atoi_syntax Tryd.laysC172 s (by omega) h ev w h1 h2).mono ?_
    rintro e w' ⟨N, rfl, _, _, hb⟩
    exact ⟨_, rfl, hb⟩
  · have e1 : S.atoiV s.data.toList = Lib.atoiSat s.data.toList := by unfold S.atoiV; rw [h]
    rw [e1]
    obtain ⟨ev, h1, h2⟩ := hL.rng
    refine (Tryd.strconv_Atoi_range s (by omega) h ev w h1 h2).mono ?_
    rintro e w' ⟨N, rfl, _, _, hb⟩
    exact ⟨_, rfl, hb⟩

/-- The rest of a text's words, in the variable that the closure shares. -/
def RestAt (b g k : Nat) (ws : List (List UInt8)) (w : World) : Prop := ∃ A m, m + k = ws.length ∧ w.heap[b]? = some (.cells #[.slice A m m] 70 (0, 0)) ∧ (0 < m → A = some ⟨g, k, none⟩)

theorem trim_len (u p : List UInt8) : (Lib.trimPrefix u p).length ≤ u.length := by
  unfold Lib.trimPrefix
  split
  · rw [List.length_drop]; omega
  · exact Nat.le_refl _

set_option maxRecDepth 100000 in
set_option maxHeartbeats 1000000 in
theorem isa_number (is : Bool) (b g k : Nat) (ws : List (List UInt8)) (mark : List UInt8) (w : World) (hL : LV w) (hb8 : 8 ≤ b) (hR : RestAt b g k ws w) (hW : WordsIn g ws w) (hg : g < b) (hsh : ∀ j, (ws.getD j []).length ≤ 1000) :
    Calls Tryd.prog 48 #[.bool is, .string ⟨mark.toArray⟩, .pointer (some ⟨b, 0, none⟩)] w fun e w' =>
      ∃ (k' : Nat) (x : Int), e = .returned (.int .i64 x) ∧ S.takeN is (fun u => S.atoiV (Lib.trimPrefix u mark)) (ws.drop k) = (x, ws.drop k') ∧ RestAt b g k' ws w' ∧ Below b w w' := by
  cases is with
  | false =>
    go_enter Tryd.func48, Tryd.ntmps48
    go_wp2_with fail
    go_ret
    exact ⟨k, 0, rfl, rfl, hR, Below.refl _ _⟩
  | true =>
    have HR := Lib.hid hR
    obtain ⟨A, m, hm, hcell, hA⟩ := hR
    have hc : w.cell? ⟨b, 0, none⟩ = some (.slice A m m) := (cell_of_row w b 0 _ _ (0, 0) hcell).trans rfl
    have hbw : b < w.heap.size := by
      rcases Nat.lt_or_ge b w.heap.size with h | h
      · exact h
      · simp [Array.getElem?_eq_none h] at hcell
    have Hm := Lib.hid hm
    have Hcell := Lib.hid hcell
    clear hcell
    by_cases h0 : m = 0
    · subst h0
      have Ht : Hid (S.takeN true (fun u => S.atoiV (Lib.trimPrefix u mark)) (ws.drop k) = (0, ws.drop k)) := Lib.hid (take_none _ ws k (by omega))
      clear hm
      go_enter Tryd.func48, Tryd.ntmps48
      go_wp2_with fail
      go_ret
      exact ⟨k, 0, rfl, Ht.out, HR.out, Below.refl _ _⟩
    · have hA' := hA (by omega)
      subst hA'
      have hlt : k < ws.length := by omega
      have hcw := hW k hlt
      have hus := hsh k
      have Ht := Lib.hid (take_one (fun u => S.atoiV (Lib.trimPrefix u mark)) ws k hlt)
      obtain ⟨j, rfl⟩ : ∃ j, m = j + 1 := ⟨m - 1, by omega⟩
      generalize ws.getD k [] = u at *
      clear hm hA hlt hsh hW h0
      go_enter Tryd.func48, Tryd.ntmps48
      go_wp2_with fail
      refine (Tryd.strings_TrimPrefix ⟨u.toArray⟩ ⟨mark.toArray⟩ w).mono ?_
      rintro e w' ⟨rfl, rfl⟩
      rw [show ByteArray.data ⟨u.toArray⟩ = u.toArray from rfl, show ByteArray.data ⟨mark.toArray⟩ = mark.toArray from rfl, List.toList_toArray, List.toList_toArray]
      have htl := trim_len u mark
      generalize Lib.trimPrefix u mark = t at *
      go_wp2_with fail
      refine (isa_Atoi ⟨t.toArray⟩ (by show t.length ≤ _; omega) w' hL).mono ?_
      rintro e w2 ⟨ev, rfl, hb2⟩
      rw [show ByteArray.data ⟨t.toArray⟩ = t.toArray from rfl, List.toList_toArray]
      have hc2 := (hb2.cell (p := ⟨b, 0, none⟩) hbw).trans hc
      have Hcell2 := Lib.hid ((hb2.block b hbw).trans Hcell.out)
      have hf2 := Lib.frozen_of_heap Hcell2.out 0
      have HB2 := Lib.hid hb2
      generalize S.atoiV t = x at *
      clear hb2 hc hcw
      go_wp2_with fail
      all_goals
        go_ret
        refine ⟨k + 1, x, rfl, Ht.out, ?_, (HB2.out.mono (Nat.le_of_lt hbw)).setCell (p := ⟨b, 0, none⟩) (Nat.le_refl _) _⟩
        have hm := Hm.out
        first
          | exact ⟨_, j, by omega, instAt_set Hcell2.out _, fun _ => rfl⟩
          | exact ⟨_, 0, by omega, instAt_set Hcell2.out _, fun h => absurd h (by omega)⟩

end Go.Proofs.YtjhchgbeglhoaaaDoor
