/- Walk of the law's function no. -/
import Derived.Test.YtfdmbjkofchhiaaLawC
import Derived.Test.YtfdmbjkofchhiaaAsmEx
set_option linter.unusedVariables false
set_option linter.unusedSimpArgs false
set_option linter.unusedSectionVars false
namespace Go.Proofs.Ytfdmbjkofchhiaa
open Go.RowKit

set_option maxRecDepth 100000 in
set_option maxHeartbeats 1000000 in
theorem law_no (A : Option Addr) (c : Nat) (xs : List S.Item) (base r : Int) (w : World) (hi : Items w w.heap.size A xs) (hl : xs.length ≤ 1048576) (hlab : ∀ (k : Nat) (x : S.Item), xs[k]? = some x → x.label.size ≤ maxLen)
    (hres : S.FormsRes xs base r []) (hr : r ≠ 0) :
    Calls Try.prog 21 #[.int .i64 r, .int .i64 base, .slice A xs.length c] w fun e w' => e = .returned (.bool true) ∧ Below w.heap.size w w' := by
  have Hres := Lib.hid hres
  have Hlab := Lib.hid hlab
  have Hr := Lib.hid hr
  have hrr : (r == r) = true := by simp
  clear hres hlab hr
  go_enter Try.func21, Try.ntmps21
  go_wp2_with fail
  refine (asm_Assemble _ _ _ _ _ hi hl Hlab.out).mono ?_
  rintro e w1 ⟨vo, vp, r1, F1, rfl, h1, ho, hp, hb1⟩
  obtain ⟨e0, eF⟩ := formsRes_fun Hres.out h1
  subst e0 eF
  rw [if_neg Hr.out] at ho hp
  obtain ⟨Ao, co, rfl⟩ := ownsRow_form ho
  obtain ⟨Ap, cp, rfl⟩ := ownsRow_form hp
  have hz1 := hb1.size
  clear h1 ho hp
  go_wp2_with fail
  refine (asm_Forms _ _ _ _ _ ((hi.below hb1).more hz1) hl Hlab.out).mono ?_
  rintro e w2 ⟨v, r2, F2, rfl, h2, hF, hb2⟩
  obtain ⟨e0, eF⟩ := formsRes_fun Hres.out h2
  subst e0 eF
  obtain ⟨A2, c2, rfl⟩ := ownsRow_form hF
  clear h2 hF
  go_wp2_with fail
  go_ret
  exact ⟨rfl, hb1.trans (hb2.mono hz1)⟩

end Go.Proofs.Ytfdmbjkofchhiaa
