/- Walk of link.Find. -/
import Derived.Test.YtbgdomnalimjnaaLinkG
set_option linter.unusedVariables false
set_option linter.unusedSimpArgs false
set_option linter.unusedSectionVars false
namespace Go.Proofs.Ytbgdomnalimjnaa
open Go.RowKit

theorem find_drop {L : List (ByteArray × Int)} {k : Nat} {n s : ByteArray} {v : Int} (h : L[k]? = some (n, v)) : S.findP (L.drop k) s = if n = s then some v else S.findP (L.drop (k + 1)) s := by
  have hk := (List.getElem?_eq_some_iff.1 h).1
  have he : L[k] = (n, v) := (List.getElem?_eq_some_iff.1 h).2
  rw [List.drop_eq_getElem_cons hk, he, S.findP]

def FindPost (L : List (ByteArray × Int)) (s : ByteArray) (w : World) (e : Ending) (w' : World) : Prop :=
  e = .returned (.tuple #[.int .i64 ((S.findP L s).getD 0), .bool (S.findP L s).isSome]) ∧ Below w.heap.size w w'

set_option maxHeartbeats 1000000 in
theorem link_Find (vw : Value) (Aw Ap : Option Addr) (nw cw cp : Nat) (L : List (ByteArray × Int)) (s : ByteArray) (w : World) (hP : ReadsP w w.heap.size Ap L) (hl : L.length ≤ 1048576) :
    Calls Try.prog 30 #[.agg #[.slice Aw nw cw, .slice Ap L.length cp], .string s] w (FindPost L s w) := by
  go_enter Try.func30, Try.ntmps30
  go_wp2_with fail
  go_loopw [11] (fun i wr => ∃ k : Nat, k ≤ L.length ∧ i = .int .i64 k ∧ S.findP L s = S.findP (L.drop k) s ∧ Below w.heap.size w wr) (fun i _ => L.length - (intOf i).toNat)
  case atStart => exact ⟨0, by omega, rfl, rfl, (Below.refl _ _).alloc (Nat.le_refl _) _⟩
  case round =>
    obtain ⟨k, hk, rfl, hf, hbk⟩ := hrel
    have Hf := Lib.hid hf
    have hzk := hbk.size
    clear hf
    by_cases hlt : k < L.length
    · obtain ⟨b, off, n, v, rfl, hb, hx, hc0, hc1⟩ := (hP.below hbk).at_ hlt
      have hd := Lib.hid (find_drop (s := s) hx)
      clear hx
      have g0 : b < wr.heap.size := by omega
      by_cases hs : n = s
      · have ds := lab_eq hs
        have Hs := Lib.hid hs
        clear hs
        go_wp2_with fail
        go_ret2
        refine ⟨?_, hbk.alloc (by omega) _⟩
        rw [Hf.out, hd.out, if_pos Hs.out]
        rfl
      · have ds := lab_ne hs
        have Hs := Lib.hid hs
        clear hs
        go_wp2_with fail
        go_roundw
        case rel => exact ⟨k + 1, by omega, by go_num, by rw [Hf.out, hd.out, if_neg Hs.out], hbk.alloc (by omega) _⟩
        case measure => simp [intOf]; omega
    · have hke : k = L.length := by omega
      subst hke
      go_wp2_with fail
      go_ret2
      refine ⟨?_, hbk⟩
      rw [Hf.out, List.drop_length]
      rfl

end Go.Proofs.Ytbgdomnalimjnaa
