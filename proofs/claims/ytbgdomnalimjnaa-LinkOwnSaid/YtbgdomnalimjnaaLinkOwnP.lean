/- The law LinkOwn holds of the given program: for whatever name and numbers the call returns true. No condition. -/
import Derived.Test.YtbgdomnalimjnaaRows
import Derived.Test.YtbgdomnalimjnaaLinkU
import Derived.Test.YtbgdomnalimjnaaRowEnd
import Derived.Test.YtbgdomnalimjnaaObjRow
import Derived.SizedLaws
import Derived.ChangeMaps5
import Derived.OpenShut
set_option maxRecDepth 100000
set_option linter.unusedVariables false
set_option linter.unusedSimpArgs false
set_option linter.unusedSectionVars false
namespace Go.Proofs.Ytbgdomnalimjnaa
open Go.ChangeShapes Go.WideShapes Go.ChangeAt Go.RowKit

theorem open_two_bytes {H : Type} {enc : TypeId × Value → H} {w : World} {base : Nat} {spare : Nat → Bool} {held : Bool} {b0 : Nat} {v : Value} {d : DataW H} {ps : List MemPlace} (hval : Value.okWide Try.prog w .any b0 74 v) (h : DataW.Trod enc Try.prog w base spare held 74 v d ps) :
    ∃ a b, v = .agg #[.int .u8 a, .int .u8 b] ∧ (0 ≤ a ∧ a ≤ 255) ∧ (0 ≤ b ∧ b ≤ 255) := by
  obtain ⟨cs, rfl, hcs⟩ : ∃ cs, v = .agg cs ∧ cs.size = Try.prog.cellsOf 74 := by
    simp only [Value.okWide, Try.underlying74] at hval
    obtain ⟨cs, h1, h2, _⟩ := hval
    exact ⟨cs, h1, h2⟩
  obtain ⟨fuel, hf⟩ := h
  obtain ⟨xs, n, _, _, hl, hxl, he⟩ := DataW.trod_array Try.underlying74 hf
  have e1 : Try.prog.cellsOf 5 = 1 := by kernel_rfl
  have e2 : Try.prog.cellsOf 74 = 2 := by kernel_rfl
  rw [e2] at hcs
  have hcl : (Value.agg cs).cells.toList = cs.toList := by simp [Value.cells]
  rw [hcl] at he
  obtain ⟨l⟩ := cs
  match l, hcs with
  | [c0, c1], _ =>
    have g0 := he 0 (by omega)
    have g1 := he 1 (by omega)
    rw [e1, List.getElem?_eq_getElem (by omega)] at g0 g1
    obtain ⟨a, ea, _, wa⟩ := DataW.trod_int Try.underlying5 g0
    obtain ⟨b, eb, _, wb⟩ := DataW.trod_int Try.underlying5 g1
    simp at ea eb
    subst ea eb
    simp [Lit.wf, IntKind.min, IntKind.max, IntKind.signed, IntKind.bits] at wa wb
    exact ⟨a, b, rfl, by omega, by omega⟩

theorem linkOwn_lifted (os : Os) (started : os.Started) (H : Type) (enc : TypeId × Value → H) :
    ReturnsInHanded {} Try.checked os 8 .any (Rows.linkOwnSpec.pre6 enc Try.prog Try.f8 Rows.linkOwnRow.domain false) (Rows.linkOwnSpec.post enc Try.prog Try.f8 false true false false) := by
  refine returnsInHanded_of_change (C := Try.checked) Try.own started (by kernel_rfl) Try.func8
    (ChangeSpec.witness6 (enc := enc) (C := Try.checked) false ⟨#[], #[.string ⟨#[]⟩, .agg #[.int .u8 0, .int .u8 0]], []⟩ 8 (by kernel_rfl) (by kernel_rfl) (by kernel_rfl) (by kernel_rfl)) ?_
  intro W base args ds gs before hval0 hW hcnd _
  have hval : ∀ (j : Nat) t v, Try.f8.params[j]? = some t → args[j]? = some v → Value.okWide Try.prog W .any base t v := hval0
  have hW' := hW
  obtain ⟨p, q, hA0, hV, rfl, hfz, hnd⟩ := hW
  have hA : DataW.TrodAll enc Try.prog W 0 (fun _ => true) true Try.f8.params.toList args.toList ds p := hA0
  rw [Try.params8] at hA hval
  obtain ⟨v0, v1, d0, d1, p0, p1, rfl, rfl, rfl, h0, h1⟩ := trodAll_two hA
  obtain ⟨rfl, rfl⟩ := trodVars_none hV
  have h1k := h1
  have hlt : ∀ x ∈ p1, x.block < W.heap.size := fun x hx => by simpa using hW'.lt x (by simp [hx])
  obtain ⟨s, rfl, rfl, rfl, ws⟩ := Go.ChangeMaps.open_string Try.underlying9 (hval 0 9 v0 rfl rfl) h0
  obtain ⟨a, b, rfl, ha, hb'⟩ := open_two_bytes (hval 1 74 v1 rfl rfl) h1
  clear hA0 hval0
  simp only [List.append_nil] at hW'
  refine (law_LinkOwn s a b W ha hb' ws).mono fun e W' ⟨he, hb⟩ => ?_
  subst he
  exact ⟨_, rfl, post_of_below (pa := [] ++ p1) (pv := []) hW' (fun _ _ _ => trodAll_mk1 (shut_bool Try.underlying4 true)) (fun sp hs => by have h := trodAll_mk2 (Go.ChangeMaps.shut_string Try.underlying9 ws) (trod_below Try.laidOut (by kernel_rfl) (of_decide_eq_true (by kernel_rfl)) h1k hb hlt sp (fun p hp => hs p (by simp [hp]))); exact h) (fun _ _ => rfl) (by simp) hb
    (ok_one (by kernel_rfl) rfl (okWide_bool_mk Try.underlying4 true))⟩

theorem linkOwn_holds : Rows.LinkOwnSaid :=
  OpenClaim.holds_of_wide 8 Try.f8 rfl rfl rfl rfl rfl rfl rfl ⟨rfl, rfl, rfl, rfl, rfl⟩ rfl rfl rfl rfl rfl (by kernel_rfl) Try.func8 (by kernel_rfl)
    (of_decide_eq_true (by kernel_rfl)) (by unfold Func.isWrapper; rw [if_neg (by decide +kernel)]; exact ⟨rfl, rfl⟩)
    (fun os started H enc _ => linkOwn_lifted os started H enc)

end Go.Proofs.Ytbgdomnalimjnaa
