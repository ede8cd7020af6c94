/- The law RtgcAgain holds of the given program: for whatever setting the call returns true, and what was given reads as before. No condition beyond the listed variables, which the card ties to the program's text. -/
import Derived.Test.YtgdjocajlndonaaGreatDoorCards
import Derived.Test.YtgdjocajlndonaaGreatDoorTie
import Derived.Test.YtgdjocajlndonaaGreatDoorZKAgn
import Derived.ChangeMaps5
import Derived.OpenShut
set_option linter.all false
set_option maxHeartbeats 40000000
namespace Go.Proofs.YtgdjocajlndonaaGreatDoor
set_option maxRecDepth 100000
open Go.ChangeShapes Go.WideShapes Go.ChangeAt Go.ChangeMaps Go.RowKit
theorem rtgcAgain_own:ownKnob Tryz.prog.godebug=none:=by kernel_rfl
theorem rtgcAgain_laidOut:laidOutB Tryz.prog=true:=by kernel_rfl
theorem rtgcAgain_reads (os:Os){H:Type}(enc:TypeId×Value->H):∃ places,DataW.whole enc Tryz.prog ((laidWorld os).forCall (fun _ _=>0) ⟨#[],#[.agg #[.slice none 0 0,.slice none 0 0,.slice none 0 0,.slice none 0 0,.slice none 0 0,.slice none 0 0,.int .u32 0,.int .u16 0]],[]⟩).memory Tryz.f3.params.toList Rows.rtgcAgainSpec.vars false (#[.agg #[.slice none 0 0,.slice none 0 0,.slice none 0 0,.slice none 0 0,.slice none 0 0,.slice none 0 0,.int .u32 0,.int .u16 0]]:Array Value).toList 8=some ([.agg [.nil,.nil,.nil,.nil,.nil,.nil,.agg [.lit (.int .u32 0),.lit (.int .u16 0)]]],[],places) :=
 ⟨[],by kernel_rfl⟩
theorem rtgcAgain_lifted (os:Os)(started:os.Started)(H:Type)(enc:TypeId×Value->H)(F:Stop.Interp) :
 ReturnsInHanded {} Tryz.checked os 3 .any ((OpenSpec.ofChange Rows.rtgcAgainSpec).preRow enc Tryz.prog Tryz.f3 Rows.rtgcAgainRow.domain false Rows.rtgcAgainRow.laid) (((OpenSpec.ofChange Rows.rtgcAgainSpec).at F).post enc Tryz.prog Tryz.f3 false true false false):=by
 obtain ⟨places,hx⟩:=rtgcAgain_reads os enc;refine returnsInHanded_of_row (C:=Tryz.checked) (s:=OpenSpec.ofChange Rows.rtgcAgainSpec) rtgcAgain_own started (by kernel_rfl) Tryz.func3
  (witness_row_atRef (enc:=enc) (C:=Tryz.checked) false (laidWorld os) #[.agg #[.slice none 0 0,.slice none 0 0,.slice none 0 0,.slice none 0 0,.slice none 0 0,.slice none 0 0,.int .u32 0,.int .u16 0]] rfl (by kernel_rfl) (by kernel_rfl) (by kernel_rfl)
   (OpenSpec.preRow_of_cond 8 hx (by kernel_rfl) (fun k hk=>by cases hk) (by kernel_rfl) (Zk8 os _))) ?_
 intro W base args ds gs before hval0 hW _ _ _ hLd hSh _;have hLV:LVE W:=Zzv hLd hSh;have hval:∀ (j:Nat) t v,Tryz.f3.params[j]?=some t->args[j]?=some v->Value.okWide Tryz.prog W .any base t v:=hval0;have hW':=hW;obtain ⟨p,q,hA0,hV,rfl,hfz,hnd⟩:=hW;have hA:DataW.TrodAll enc Tryz.prog W 0 (fun _=>true) true Tryz.f3.params.toList args.toList ds p:=hA0;rw [Tryz.params3] at hA hval;obtain ⟨v0,d0,rfl,rfl,h0⟩:=trodAll_one hA;obtain ⟨rfl,rfl⟩:=trodVars_none hV;have h0k:=h0;have hlt:∀ x∈p,x.block<W.heap.size:=fun x hx=>by simpa using hW'.lt x (by simp [hx])
 obtain ⟨x,An,Ar,Ag,As,Aq,Ap,cn,cr,cg,cs,cq,cp,rfl,hOk,hS,hcr⟩:=Zez (hval 0 30 v0 rfl rfl) h0;clear hA0 hval0;simp only [List.append_nil] at hW';refine (Zl7 W hLV x hOk An Ar Ag As Aq Ap cn cr cg cs cq cp hS hcr).mono fun e W' ⟨he,hb⟩=>?_
 subst he;exact ⟨_,rfl,Zdp (pa:=p) (pv:=[]) hW' (fun _ _ _=>trodAll_mk1 (shut_bool Tryz.underlying4 true)) (fun sp hs=>trodAll_mk1 (Zgx rtgcAgain_laidOut (by kernel_rfl) (of_decide_eq_true (by kernel_rfl)) h0k hb hlt sp hs)) (fun _ _=>rfl) (by simp) hb
  (ok_one (by kernel_rfl) rfl (okWide_bool_mk Tryz.underlying4 true))⟩
theorem rtgcAgain_said:Rows.RtgcAgainSaid :=
 OpenClaim.holds_of_cond 3 Tryz.f3 rfl rfl rfl rfl rfl rfl rfl ⟨rfl,rfl,rfl,rfl,rfl⟩ rfl rfl rfl rfl rfl (by kernel_rfl) Tryz.func3 rtgcAgain_closed
  (of_decide_eq_true (by kernel_rfl)) (by unfold Func.isWrapper;first | (rw [if_pos (by decide +kernel)];kernel_rfl) | (rw [if_neg (by decide +kernel)];exact ⟨rfl,rfl⟩))
  (fun os started H enc _ F=>by rw [OpenClaim.pre_eq_preRow];exact rtgcAgain_lifted os started H enc F)
theorem rtgcAgain_plain (f:FuncId)(fn:Func)(hf:Tryz.pinned.checked.prog.funcNamed Rows.rtgcAgainRow.func=some f)(hfn:Tryz.pinned.checked.prog.funcs[f]?=some fn) :
 false=Tryz.pinned.checked.prog.looks []/\∀ (j:Nat) t,fn.params[j]?=some t->Tryz.pinned.checked.prog.wantsStandIn t=false:=by
 obtain rfl:f=3:=Option.some.inj ((show Tryz.prog.funcNamed Rows.rtgcAgainRow.func=some 3 by kernel_rfl).symm.trans hf) |>.symm
 obtain rfl:fn=Tryz.f3:=(Option.some.inj (Tryz.func3.symm.trans hfn)).symm;refine ⟨by kernel_rfl,fun j t ht=>?_⟩;rw [Tryz.params3] at ht;have ht':=Array.mem_of_getElem? ht;simp at ht';subst ht';exact (show Tryz.prog.wantsStandIn 30=false by kernel_rfl)
theorem rtgcAgain_card:Rows.RtgcAgainCardSaid :=
 Claim7.holds_tied_plain_at .later [] _ _ _ _ rtgcAgain_said (fun _ h=>by cases h) (by kernel_rfl) (fun _ h=>by cases h) rtgcAgain_row_tie rfl ⟨rfl,rfl⟩ (by kernel_rfl) rfl rtgcAgain_plain (by kernel_rfl)
end Go.Proofs.YtgdjocajlndonaaGreatDoor
