/- The law RtlibKnown holds of the given program: the chapter's examples: the call returns true, and what was given reads as before. No condition beyond the listed variables, which the card ties to the program's text. -/
import Derived.Test.YtldbnjajjfgipaaGreatDoorCards
import Derived.Test.YtldbnjajjfgipaaGreatDoorTie
import Derived.Test.YtldbnjajjfgipaaGreatDoorZRtlibKnownC
import Derived.Test.YtldbnjajjfgipaaGreatDoorZVNp
import Derived.ChangeMaps5
import Derived.OpenShut
set_option linter.all false
set_option maxHeartbeats 40000000
namespace Go.Proofs.YtldbnjajjfgipaaGreatDoor
open S Go.Proofs.Tryz
set_option maxRecDepth 100000
open Go.ChangeShapes Go.WideShapes Go.ChangeAt Go.ChangeMaps Go.RowKit
theorem Zf0 (os:Os){H:Type}(enc:TypeId×Value->H):∃places,DataW.whole enc prog ((laidWorld os).forCall (λ _ _=>0) ⟨#[],#[],[]⟩).memory Tryz.f4.params.toList Rows.rtlibKnownSpec.vars false (#[]:Array Value).toList 8=some ([],[],places) :=
 ⟨[],by kernel_rfl⟩
theorem Zfk (os:Os)(started:os.Started)(H:Type)(enc:TypeId×Value->H)(F:Stop.Interp) :
 ReturnsInHanded {} Tryz.checked os 4 .any ((OpenSpec.ofChange Rows.rtlibKnownSpec).preRow enc prog Tryz.f4 Rows.rtlibKnownRow.domain false Rows.rtlibKnownRow.laid) (((OpenSpec.ofChange Rows.rtlibKnownSpec).at F).post enc prog Tryz.f4 false true false false):=by
 obtain⟨places,hx⟩:=Zf0 os enc;refine returnsInHanded_of_row (C:=Tryz.checked) (s:=OpenSpec.ofChange Rows.rtlibKnownSpec) Tryz.own started (by kernel_rfl) func4
  (witness_row_atRef (enc:=enc) (C:=Tryz.checked) false (laidWorld os) #[] rfl (by kernel_rfl) (by kernel_rfl) (by kernel_rfl)
   (OpenSpec.preRow_of_cond 8 hx (by kernel_rfl) (λ k hk=>by cases hk) (by kernel_rfl) (Zut os _))) ?_
 intro W base args ds gs before hval0 hW _ _ _ hLd hSh _;have hLV:LVE W:=Z2q hLd hSh;have hval:∀(j:Nat) t v,Tryz.f4.params[j]?=some t->args[j]?=some v->Value.okWide prog W .any base t v:=hval0;have hW':=hW;obtain⟨p,q,hA0,hV,rfl,hfz,hnd⟩:=hW;have hA:DataW.TrodAll enc prog W 0 (λ _=>true) true Tryz.f4.params.toList args.toList ds p:=hA0;rw[Tryz.params4] at hA hval;obtain⟨he0,rfl,rfl⟩:=trodAll_nil hA;obtain rfl:args=#[]:=by cases args;simp at he0;subst he0;rfl
 obtain⟨rfl,rfl⟩:=trodVars_none hV;clear hA0 hval0;simp only[List.append_nil] at hW';refine(Zim W hLV).mono λ e W' ⟨he,hb⟩=>?_
 subst he;exact⟨_,rfl,Zj3 (pa:=[]) (pv:=[]) hW' (λ _ _ _=>trodAll_mk1 (shut_bool underlying4 true)) (λ sp hs=>rfl) (λ _ _=>rfl) (by simp) hb
  (ok_one (by kernel_rfl) rfl (okWide_bool_mk underlying4 true))⟩
theorem Zhw:Rows.RtlibKnownSaid :=
 OpenClaim.holds_of_cond 4 Tryz.f4 rfl rfl rfl rfl rfl rfl rfl ⟨rfl,rfl,rfl,rfl,rfl⟩ rfl rfl rfl rfl rfl (by kernel_rfl) func4 Zfj
  (of_decide_eq_true (by kernel_rfl)) (by unfold Func.isWrapper;first | (rw[if_pos (by decide +kernel)];kernel_rfl) | (rw[if_neg (by decide +kernel)];exact⟨rfl,rfl⟩))
  (λ os started H enc _ F=>by rw[OpenClaim.pre_eq_preRow];exact Zfk os started H enc F)
theorem Zf1 (f:FuncId)(fn:Func)(hf:Tryz.pinned.checked.prog.funcNamed Rows.rtlibKnownRow.func=some f)(hfn:Tryz.pinned.checked.prog.funcs[f]?=some fn) :
 false=Tryz.pinned.checked.prog.looks []/\∀(j:Nat) t,fn.params[j]?=some t->Tryz.pinned.checked.prog.wantsStandIn t=false:=by
 obtain rfl:f=4:=Option.some.inj ((show prog.funcNamed Rows.rtlibKnownRow.func=some 4 by kernel_rfl).symm.trans hf) |>.symm
 obtain rfl:fn=Tryz.f4:=(Option.some.inj (func4.symm.trans hfn)).symm;refine⟨by kernel_rfl,λ j t ht=>?_⟩;rw[Tryz.params4] at ht;simp at ht
theorem Ztt:Rows.RtlibKnownCardSaid :=
 Claim7.holds_tied_plain_at .later [] _ _ _ _ Zhw (λ _ h=>by cases h) (by kernel_rfl) (λ _ h=>by cases h) rtlibKnown_row_tie rfl ⟨rfl,rfl⟩ (by kernel_rfl) rfl Zf1 (by kernel_rfl)
