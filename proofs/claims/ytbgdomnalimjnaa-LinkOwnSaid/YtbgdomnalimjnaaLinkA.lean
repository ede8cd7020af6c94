/- Walks of the small functions of link and pennantref04: HasPrefix at a dot, owned, own. -/
import Derived.Test.YtbgdomnalimjnaaLinkS
import Derived.Test.YtbgdomnalimjnaaOwn
import Derived.Test.YtbgdomnalimjnaaProg
set_option linter.unusedVariables false
set_option linter.unusedSimpArgs false
set_option linter.unusedSectionVars false
namespace Go.Proofs.Ytbgdomnalimjnaa
open Go.RowKit

theorem ownB_get (s : ByteArray) (h : 0 < s.size) : S.ownB s = (s[0] == 46) := by
  unfold S.ownB
  have e : s.data.toList.head? = some s[0] := by
    rw [List.head?_eq_getElem?, List.getElem?_eq_getElem (by simpa using h)]
    rfl
  rw [e]
  rfl
theorem ownB_none (s : ByteArray) (h : s.size = 0) : S.ownB s = false := by
  unfold S.ownB
  have e : s.data.toList = [] := List.eq_nil_of_length_eq_zero (by simpa using h)
  rw [e]
  rfl

theorem own_ext (s : ByteArray) (h : 0 < s.size) : ((s.extract 0 1).toList == [46]) = S.ownB s := by
  rw [ownB_get s h]
  have e : (s.extract 0 1).toList = [s[0]] := by
    rw [ByteArray.toList_eq, ByteArray.data_extract]
    apply List.ext_getElem
    · simp; omega
    · intro i h1 h2
      simp at h2
      subst h2
      simp
      rfl
  rw [e]
  simp

theorem lite_HasPrefix (s : ByteArray) (w : World) (hs : s.size ≤ maxLen) :
    Calls Try.prog 114 #[.string s, .string ⟨#[46]⟩] w fun e w' => e = .returned (.bool (S.ownB s)) ∧ w = w' := by
  unfold maxLen at hs
  by_cases h : 0 < s.size
  · go_enter Try.func114, Try.ntmps114
    go_wp2_with fail
    go_ret
    exact ⟨ret_bool (own_ext s h), rfl⟩
  · go_enter Try.func114, Try.ntmps114
    go_wp2_with fail
    go_ret
    exact ⟨ret_bool (ownB_none s (by omega)).symm, rfl⟩
theorem strings_HasPrefix (s : ByteArray) (w : World) (hs : s.size ≤ maxLen) :
    Calls Try.prog 87 #[.string s, .string ⟨#[46]⟩] w fun e w' => e = .returned (.bool (S.ownB s)) ∧ w = w' := by
  go_enter Try.func87, Try.ntmps87
  go_wp2_with fail
  refine (lite_HasPrefix _ _ hs).mono ?_
  rintro e w' ⟨rfl, rfl⟩
  go_wp2_with fail
  go_ret
  exact ⟨rfl, rfl⟩
theorem link_owned (n s : ByteArray) (w : World) (hs : s.size ≤ maxLen) (hns : n.size + s.size ≤ 9223372036854775807) :
    Calls Try.prog 89 #[.string n, .string s] w fun e w' => e = .returned (.string (S.owned n s)) ∧ w = w' := by
  cases ho : S.ownB s
  · have H := Lib.hid ho
    clear ho
    go_enter Try.func89, Try.ntmps89
    go_wp2_with fail
    refine (strings_HasPrefix _ _ hs).mono ?_
    rintro e w' ⟨rfl, rfl⟩
    rw [H.out]
    go_wp2_with fail
    go_ret
    exact ⟨by simp [S.owned, H.out], rfl⟩
  · have H := Lib.hid ho
    clear ho
    go_enter Try.func89, Try.ntmps89
    go_wp2_with fail
    refine (strings_HasPrefix _ _ hs).mono ?_
    rintro e w' ⟨rfl, rfl⟩
    rw [H.out]
    go_wp2_with fail
    go_ret
    exact ⟨by simp [S.owned, H.out], rfl⟩

theorem ref_own (s : ByteArray) (w : World) (hs : s.size ≤ maxLen) :
    Calls Try.prog 59 #[.string s] w fun e w' => e = .returned (.bool (S.ownB s)) ∧ w = w' := by
  unfold maxLen at hs
  by_cases h : 0 < s.size
  · go_enter Try.func59, Try.ntmps59
    go_wp2_with fail
    go_ret
    refine ⟨ret_bool ?_, rfl⟩
    rw [ownB_get s h, Bool.eq_iff_iff]
    simp
    constructor
    · intro e; exact UInt8.toNat_inj.1 (by have : (46 : UInt8).toNat = 46 := rfl; omega)
    · intro e; rw [e]; rfl
  · go_enter Try.func59, Try.ntmps59
    go_wp2_with fail
    go_ret
    exact ⟨ret_bool (ownB_none s (by omega)).symm, rfl⟩

end Go.Proofs.Ytbgdomnalimjnaa
