/- The law RtgcApplies holds of the given program: for whatever counts of arguments and whatever sorts of procedure and list the call returns true, and what was given reads as before. No condition beyond the listed variables, which the card ties to the program's text. -/
import Derived.Test.YtlldagdhlfpihaaGreatDoorCards
import Derived.Test.YtlldagdhlfpihaaGreatDoorTie
import Derived.Test.YtlldagdhlfpihaaGreatDoorZKApp
import Derived.ChangeMaps5
import Derived.OpenShut
set_option linter.unusedVariables false
set_option linter.unusedSimpArgs false
set_option linter.unusedSectionVars false
namespace Go.Proofs.YtlldagdhlfpihaaGreatDoor
set_option maxRecDepth 100000
open Go.ChangeShapes Go.WideShapes Go.ChangeAt Go.ChangeMaps Go.RowKit
section
variable {H:Type}{enc:TypeId×Value->H}{W:World}{base:Nat}{sp:Nat->Bool}{held:Bool}
theorem b2_cells:Tryz.prog.cellsOf 88=2:=by kernel_rfl
theorem b2_one:Tryz.prog.cellsOf 4=1:=by kernel_rfl
theorem open_b2 {r:Reach}{b0:Nat}{v:Value}{d:DataW H}{ps:List MemPlace}(hval:Value.okWide Tryz.prog W r b0 88 v)(hd:DataW.Trod enc Tryz.prog W base sp held 88 v d ps) :
 ∃ a b:Bool,v=.agg #[.bool a,.bool b]/\d=.agg [.lit (.bool a),.lit (.bool b)]/\ps=[]:=by
 have hv:∃ c0 c1,v=.agg #[c0,c1]:=by
  simp only [Value.okWide,Tryz.underlying88] at hval
  obtain ⟨cs,h1,h2,_⟩:=hval
  rw [b2_cells] at h2
  obtain ⟨l⟩:=cs
  match l,h2 with
  | [c0,c1],_=>exact ⟨c0,c1,h1⟩
 obtain ⟨c0,c1,rfl⟩:=hv
 obtain ⟨fuel,hf⟩:=hd
 cases fuel with
 | zero=>simp [DataW.trod] at hf
 | succ n =>
  rw [DataW.trod_step] at hf
  unfold DataW.trodStep at hf
  simp only [Tryz.underlying88,Value.cells] at hf
  rw [if_pos (by rw [b2_cells];rfl)] at hf
  simp only [Option.map_eq_some_iff] at hf
  obtain ⟨xs,hx,e1⟩:=hf
  rw [show List.range 2=[0,1] from rfl,List.mapM_cons,List.mapM_cons,List.mapM_nil] at hx
  simp only [bind,Option.bind_eq_some_iff,pure,Option.some.injEq,b2_one] at hx
  obtain ⟨y0,h0,_,⟨y1,h1,_,rfl,rfl⟩,rfl⟩:=hx
  obtain ⟨a,ea,rfl⟩:=DataW.trod_bool Tryz.underlying4 h0
  obtain ⟨b,eb,rfl⟩:=DataW.trod_bool Tryz.underlying4 h1
  simp at ea eb
  subst ea;subst eb
  simp only [Prod.mk.injEq] at e1
  exact ⟨a,b,rfl,by rw [<- e1.1];rfl,by rw [<- e1.2];rfl⟩
theorem shut_b2 (a b:Bool):DataW.Trod enc Tryz.prog W base sp held 88 (.agg #[.bool a,.bool b]) (.agg [.lit (.bool a),.lit (.bool b)]) [] :=
 ⟨2,by
  show DataW.trod enc Tryz.prog W base sp held (1+1) 88 [.bool a,.bool b]=_
  rw [DataW.trod_step]
  unfold DataW.trodStep
  simp only [Tryz.underlying88]
  rw [if_pos (by rw [b2_cells];rfl),show List.range 2=[0,1] from rfl,List.mapM_cons,List.mapM_cons,List.mapM_nil]
  simp [b2_one,DataW.trod,Tryz.underlying4]⟩
end
theorem wf_u8 {y:Int}(h:(Lit.int .u8 y).wf=true):0<=y/\y<=255:=by
 simp [Lit.wf,IntKind.min,IntKind.max,IntKind.signed,IntKind.bits] at h
 omega
theorem rtgcApplies_own : ownKnob Tryz.prog.godebug = none := by kernel_rfl
theorem rtgcApplies_reads (os:Os){H:Type}(enc:TypeId×Value->H):∃ places,DataW.whole enc Tryz.prog ((laidWorld os).forCall (fun _ _=>0) ⟨#[],#[.int .u8 0,.int .u8 0,.agg #[.bool false,.bool false]],[]⟩).memory Tryz.f10.params.toList Rows.rtgcAppliesSpec.vars false (#[.int .u8 0,.int .u8 0,.agg #[.bool false,.bool false]]:Array Value).toList 8=some ([.lit (.int .u8 0),.lit (.int .u8 0),.agg [.lit (.bool false),.lit (.bool false)]],[],places) :=
 ⟨[],by kernel_rfl⟩
theorem rtgcApplies_lifted (os:Os)(started:os.Started)(H:Type)(enc:TypeId×Value->H)(F:Stop.Interp) :
 ReturnsInHanded {} Tryz.checked os 10 .any ((OpenSpec.ofChange Rows.rtgcAppliesSpec).preRow enc Tryz.prog Tryz.f10 Rows.rtgcAppliesRow.domain false Rows.rtgcAppliesRow.laid) (((OpenSpec.ofChange Rows.rtgcAppliesSpec).at F).post enc Tryz.prog Tryz.f10 false true false false):=by
 obtain ⟨places,hx⟩:=rtgcApplies_reads os enc
 refine returnsInHanded_of_row (C:=Tryz.checked) (s:=OpenSpec.ofChange Rows.rtgcAppliesSpec) rtgcApplies_own started (by kernel_rfl) Tryz.func10
  (witness_row_atRef (enc:=enc) (C:=Tryz.checked) false (laidWorld os) #[.int .u8 0,.int .u8 0,.agg #[.bool false,.bool false]] rfl (by kernel_rfl) (by kernel_rfl) (by kernel_rfl)
   (OpenSpec.preRow_of_cond 8 hx (by kernel_rfl) (fun k hk=>by cases hk) (by kernel_rfl) (laid_met os _))) ?_
 intro W base args ds gs before hval0 hW _ _ _ hLd hSh _
 have hLV:LVE W:=lv_of hLd hSh
 have hval:∀ (j:Nat) t v,Tryz.f10.params[j]?=some t->args[j]?=some v->Value.okWide Tryz.prog W .any base t v:=hval0
 have hW':=hW
 obtain ⟨p,q,hA0,hV,rfl,hfz,hnd⟩:=hW
 have hA:DataW.TrodAll enc Tryz.prog W 0 (fun _=>true) true Tryz.f10.params.toList args.toList ds p:=hA0
 rw [Tryz.params10] at hA hval
 obtain ⟨v0,v1,v2,d0,d1,d2,p0,p1,p2,rfl,rfl,rfl,h0,h1,h2⟩:=trodAll_three hA
 obtain ⟨rfl,rfl⟩:=trodVars_none hV
 obtain ⟨n0,rfl,rfl,rfl,w0⟩:=open_int Tryz.underlying5 (hval 0 5 v0 rfl rfl) h0
 obtain ⟨n1,rfl,rfl,rfl,w1⟩:=open_int Tryz.underlying5 (hval 1 5 v1 rfl rfl) h1
 obtain ⟨c,pr,rfl,rfl,rfl⟩:=open_b2 (hval 2 88 v2 rfl rfl) h2
 clear hA0 hval0
 simp only [List.append_nil] at hW'
 refine (law_RtgcApplies n0 n1 c pr W hLV (wf_u8 w0) (wf_u8 w1)).mono fun e W' ⟨he,hb⟩=>?_
 subst he
 exact ⟨_,rfl,post_of_below (pa:=[]++([]++[])) (pv:=[]) hW' (fun _ _ _=>trodAll_mk1 (shut_bool Tryz.underlying4 true)) (fun sp hs=>trodAll_mk3 (shut_int Tryz.underlying5 w0) (shut_int Tryz.underlying5 w1) (shut_b2 c pr)) (fun _ _=>rfl) (by simp) hb
  (ok_one (by kernel_rfl) rfl (okWide_bool_mk Tryz.underlying4 true))⟩
theorem rtgcApplies_said:Rows.RtgcAppliesSaid :=
 OpenClaim.holds_of_cond 10 Tryz.f10 rfl rfl rfl rfl rfl rfl rfl ⟨rfl,rfl,rfl,rfl,rfl⟩ rfl rfl rfl rfl rfl (by kernel_rfl) Tryz.func10 (by kernel_rfl)
  (of_decide_eq_true (by kernel_rfl)) (by unfold Func.isWrapper;first | (rw [if_pos (by decide +kernel)];kernel_rfl) | (rw [if_neg (by decide +kernel)];exact ⟨rfl,rfl⟩))
  (fun os started H enc _ F=>by rw [OpenClaim.pre_eq_preRow];exact rtgcApplies_lifted os started H enc F)
theorem rtgcApplies_plain (f:FuncId)(fn:Func)(hf:Tryz.pinned.checked.prog.funcNamed Rows.rtgcAppliesRow.func=some f)(hfn:Tryz.pinned.checked.prog.funcs[f]?=some fn) :
 false=Tryz.pinned.checked.prog.looks []/\∀ (j:Nat) t,fn.params[j]?=some t->Tryz.pinned.checked.prog.wantsStandIn t=false:=by
 obtain rfl:f=10:=Option.some.inj ((show Tryz.prog.funcNamed Rows.rtgcAppliesRow.func=some 10 by kernel_rfl).symm.trans hf) |>.symm
 obtain rfl:fn=Tryz.f10:=(Option.some.inj (Tryz.func10.symm.trans hfn)).symm
 refine ⟨by kernel_rfl,fun j t ht=>?_⟩
 rw [Tryz.params10] at ht
 have ht':=Array.mem_of_getElem? ht
 simp at ht'
 rcases ht' with rfl | rfl
 ·exact (show Tryz.prog.wantsStandIn 5=false by kernel_rfl)
 ·exact (show Tryz.prog.wantsStandIn 88=false by kernel_rfl)
theorem rtgcApplies_card:Rows.RtgcAppliesCardSaid :=
 Claim7.holds_tied_plain_at .later [] _ _ _ _ rtgcApplies_said (fun _ h=>by cases h) (by kernel_rfl) (fun _ h=>by cases h) rtgcApplies_row_tie rfl ⟨rfl,rfl⟩ (by kernel_rfl) rfl rtgcApplies_plain (by kernel_rfl)
end Go.Proofs.YtlldagdhlfpihaaGreatDoor
