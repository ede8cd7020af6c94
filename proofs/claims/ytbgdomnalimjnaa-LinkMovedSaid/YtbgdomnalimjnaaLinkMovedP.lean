/- The law LinkMoved holds of the given program: for whatever two lists of items and base the call returns true, and the lists read as before. No condition. -/
import Derived.Test.YtbgdomnalimjnaaRows
import Derived.Test.YtbgdomnalimjnaaLinkR
import Derived.Test.YtbgdomnalimjnaaRowEnd
import Derived.Test.YtbgdomnalimjnaaObjRow
import Derived.SizedLaws
import Derived.ChangeMaps5
set_option maxRecDepth 100000
set_option linter.unusedVariables false
set_option linter.unusedSimpArgs false
set_option linter.unusedSectionVars false
namespace Go.Proofs.Ytbgdomnalimjnaa
open Go.ChangeShapes Go.WideShapes Go.ChangeAt Go.RowKit

theorem linkMoved_lifted (os : Os) (started : os.Started) (H : Type) (enc : TypeId × Value → H) :
    ReturnsInHanded {} Try.checked os 7 .any (Rows.linkMovedSpec.pre6 enc Try.prog Try.f7 Rows.linkMovedRow.domain false) (Rows.linkMovedSpec.post enc Try.prog Try.f7 false true false false) := by
  refine returnsInHanded_of_change_sized (C := Try.checked) Try.own started (by kernel_rfl) Try.func7
    (ChangeSpec.witness6 (enc := enc) (C := Try.checked) false ⟨#[], #[.slice none 0 0, .slice none 0 0, .int .u16 0], []⟩ 8 (by kernel_rfl) (by kernel_rfl) (by kernel_rfl) (by kernel_rfl)) ?_
  intro W base args ds gs before hval0 hW hcnd hsz _
  have hval : ∀ (j : Nat) t v, Try.f7.params[j]? = some t → args[j]? = some v → Value.okWide Try.prog W .any base t v := hval0
  have hW' := hW
  obtain ⟨p, q, hA0, hV, rfl, hfz, hnd⟩ := hW
  have hA : DataW.TrodAll enc Try.prog W 0 (fun _ => true) true Try.f7.params.toList args.toList ds p := hA0
  rw [Try.params7] at hA hval hsz
  obtain ⟨v0, v1, v2, d0, d1, d2, p0, p1, p2, rfl, rfl, rfl, h0, h1, h2⟩ := trodAll_three hA
  obtain ⟨rfl, rfl⟩ := trodVars_none hV
  have h0k := h0
  have h1k := h1
  have hlt : ∀ x ∈ p0, x.block < W.heap.size := fun x hx => by simpa using hW'.lt x (by simp [hx])
  have hlt' : ∀ x ∈ p1, x.block < W.heap.size := fun x hx => by simpa using hW'.lt x (by simp [hx])
  have hwt : ∀ (j : Nat) (t : TypeId) (d : DataW H), ([47, 47, 69] : List TypeId)[j]? = some t → [d0, d1, d2][j]? = some d → ∀ n ∈ d.weights Try.prog t, n ≤ reachBytes := fun j t d ht hd n hn => by
    have h3 := List.all_eq_true.1 hsz n (DataW.weights_mem_each (j := j) (t := t) (d := d) (by rw [List.getElem?_append_left (List.getElem?_eq_some_iff.1 ht).1]; exact ht) (by rw [List.getElem?_append_left (List.getElem?_eq_some_iff.1 hd).1]; exact hd) n hn)
    simpa using h3
  obtain ⟨A, c, xs, rfl, hI, hL, hS⟩ := open_items_sized (hval 0 47 v0 rfl rfl) h0 (hwt 0 _ _ rfl rfl)
  obtain ⟨A', c', ys, rfl, hI', hL', hS'⟩ := open_items_sized (hval 1 47 v1 rfl rfl) h1 (hwt 1 _ _ rfl rfl)
  obtain ⟨a, rfl, rfl, rfl, wa⟩ := open_int Try.underlying69 (hval 2 69 v2 rfl rfl) h2
  have hr : reachBytes ≤ 4611686018427387904 := by decide
  have hba : 0 ≤ a ∧ a ≤ 65535 := by
    have := wa
    simp [Lit.wf, IntKind.min, IntKind.max, IntKind.signed, IntKind.bits] at this
    omega
  clear hA0 hval0
  simp only [List.append_nil] at hW'
  refine (law_LinkMoved A A' c c' xs ys a W hI hI' (by simp only [maxLen] at hL; omega) (by simp only [maxLen] at hL'; omega) hba.1 hba.2 (fun x hx => Nat.le_trans (hS x hx) hr) (fun x hx => Nat.le_trans (hS' x hx) hr)).mono fun e W' ⟨he, hb⟩ => ?_
  subst he
  exact ⟨_, rfl, post_of_below (pa := p0 ++ p1) (pv := []) hW' (fun _ _ _ => trodAll_mk1 (shut_bool Try.underlying4 true)) (fun sp hs => by have h := trodAll_mk3 (trod_below Try.laidOut (by kernel_rfl) (of_decide_eq_true (by kernel_rfl)) h0k hb hlt sp (fun p hp => hs p (by simp [hp]))) (trod_below Try.laidOut (by kernel_rfl) (of_decide_eq_true (by kernel_rfl)) h1k hb hlt' sp (fun p hp => hs p (by simp [hp]))) (shut_int Try.underlying69 wa); simp only [List.append_nil] at h; exact h) (fun _ _ => rfl) (by simp) hb
    (ok_one (by kernel_rfl) rfl (okWide_bool_mk Try.underlying4 true))⟩

theorem linkMoved_holds : Rows.LinkMovedSaid :=
  OpenClaim.holds_of_wide 7 Try.f7 rfl rfl rfl rfl rfl rfl rfl ⟨rfl, rfl, rfl, rfl, rfl⟩ rfl rfl rfl rfl rfl (by kernel_rfl) Try.func7 (by kernel_rfl)
    (of_decide_eq_true (by kernel_rfl)) (by unfold Func.isWrapper; rw [if_neg (by decide +kernel)]; exact ⟨rfl, rfl⟩)
    (fun os started H enc _ => linkMoved_lifted os started H enc)

end Go.Proofs.Ytbgdomnalimjnaa
