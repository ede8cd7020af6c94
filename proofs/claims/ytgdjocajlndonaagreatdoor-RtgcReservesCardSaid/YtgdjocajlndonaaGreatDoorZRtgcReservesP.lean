/- The law RtgcReserves holds of the given program: for whatever setting, size and counts the call returns true, and what was given reads as before. No condition beyond the listed variables, which the card ties to the program's text. -/
import Derived.Test.YtgdjocajlndonaaGreatDoorCards
import Derived.Test.YtgdjocajlndonaaGreatDoorTie
import Derived.Test.YtgdjocajlndonaaGreatDoorZKRsv
import Derived.ChangeMaps5
import Derived.OpenShut
set_option linter.all false
set_option maxHeartbeats 40000000
open List renaming range->Yo,mapM_cons->Ybv
namespace Go.Proofs.YtgdjocajlndonaaGreatDoor
set_option maxRecDepth 100000
open Go.ChangeShapes Go.WideShapes Go.ChangeAt Go.ChangeMaps Go.RowKit
section
variable {H:Type}{enc:TypeId×Value->H}{W:World}{base:Nat}{sp:Nat->Bool}{held:Bool}
theorem q2_cells:Tryz.prog.cellsOf 52=2:=by kernel_rfl
theorem q2_one:Tryz.prog.cellsOf 26=1:=by kernel_rfl
theorem open_q2 {r:Reach}{b0:Nat}{v:Value}{d:DataW H}{ps:List MemPlace}(hval:Value.okWide Tryz.prog W r b0 52 v)(hd:DataW.Trod enc Tryz.prog W base sp held 52 v d ps) :
 ∃ a b:Int,v=.agg #[.int .u16 a,.int .u16 b]/\d=.agg [.lit (.int .u16 a),.lit (.int .u16 b)]/\ps=[]/\(Lit.int .u16 a).wf=true/\(Lit.int .u16 b).wf=true:=by
 have hv:∃ c0 c1,v=.agg #[c0,c1]:=by
  simp only [Value.okWide,Tryz.underlying52] at hval;obtain ⟨cs,h1,h2,_⟩:=hval;rw [q2_cells] at h2;obtain ⟨l⟩:=cs
  match l,h2 with
  | [c0,c1],_=>exact ⟨c0,c1,h1⟩
 obtain ⟨c0,c1,rfl⟩:=hv;obtain ⟨fuel,hf⟩:=hd
 cases fuel with
 | zero=>simp [DataW.trod] at hf
 | succ n =>
  rw [DataW.trod_step] at hf;unfold DataW.trodStep at hf;simp only [Tryz.underlying52,Value.cells] at hf;rw [if_pos (by rw [q2_cells];rfl)] at hf;simp only [Option.map_eq_some_iff] at hf;obtain ⟨xs,hx,e1⟩:=hf;rw [show Yo 2=[0,1] from rfl,Ybv,Ybv,List.mapM_nil] at hx;simp only [bind,Option.bind_eq_some_iff,pure,Option.some.injEq,q2_one] at hx;obtain ⟨y0,h0,_,⟨y1,h1,_,rfl,rfl⟩,rfl⟩:=hx;obtain ⟨a,ea,rfl,wa⟩:=DataW.trod_int Tryz.underlying26 h0;obtain ⟨b,eb,rfl,wb⟩:=DataW.trod_int Tryz.underlying26 h1;simp at ea eb;subst ea;subst eb;simp only [Prod.mk.injEq] at e1;exact ⟨a,b,rfl,by rw [<- e1.1];rfl,by rw [<- e1.2];rfl,wa,wb⟩
theorem shut_q2 (a b:Int)(wa:(Lit.int .u16 a).wf=true)(wb:(Lit.int .u16 b).wf=true):DataW.Trod enc Tryz.prog W base sp held 52 (.agg #[.int .u16 a,.int .u16 b]) (.agg [.lit (.int .u16 a),.lit (.int .u16 b)]) [] :=
 ⟨2,by
  show DataW.trod enc Tryz.prog W base sp held (1+1) 52 [.int .u16 a,.int .u16 b]=_
  rw [DataW.trod_step];unfold DataW.trodStep;simp only [Tryz.underlying52];rw [if_pos (by rw [q2_cells];rfl),show Yo 2=[0,1] from rfl,Ybv,Ybv,List.mapM_nil];simp [q2_one,DataW.trod,Tryz.underlying26,wa,wb]⟩
end
theorem wf_u16 {y:Int}(h:(Lit.int .u16 y).wf=true):0<=y/\y<65536:=by
 simp [Lit.wf,IntKind.min,IntKind.max,IntKind.signed,IntKind.bits] at h;omega
theorem rtgcReserves_own:ownKnob Tryz.prog.godebug=none:=by kernel_rfl
theorem rtgcReserves_laidOut:laidOutB Tryz.prog=true:=by kernel_rfl
theorem rtgcReserves_reads (os:Os){H:Type}(enc:TypeId×Value->H):∃ places,DataW.whole enc Tryz.prog ((laidWorld os).forCall (fun _ _=>0) ⟨#[],#[.agg #[.slice none 0 0,.slice none 0 0,.slice none 0 0,.slice none 0 0,.slice none 0 0,.slice none 0 0,.int .u32 0,.int .u16 0],.int .u16 0,.agg #[.int .u16 0,.int .u16 0]],[]⟩).memory Tryz.f4.params.toList Rows.rtgcReservesSpec.vars false (#[.agg #[.slice none 0 0,.slice none 0 0,.slice none 0 0,.slice none 0 0,.slice none 0 0,.slice none 0 0,.int .u32 0,.int .u16 0],.int .u16 0,.agg #[.int .u16 0,.int .u16 0]]:Array Value).toList 8=some ([.agg [.nil,.nil,.nil,.nil,.nil,.nil,.agg [.lit (.int .u32 0),.lit (.int .u16 0)]],.lit (.int .u16 0),.agg [.lit (.int .u16 0),.lit (.int .u16 0)]],[],places) :=
 ⟨[],by kernel_rfl⟩
theorem rtgcReserves_lifted (os:Os)(started:os.Started)(H:Type)(enc:TypeId×Value->H)(F:Stop.Interp) :
 ReturnsInHanded {} Tryz.checked os 4 .any ((OpenSpec.ofChange Rows.rtgcReservesSpec).preRow enc Tryz.prog Tryz.f4 Rows.rtgcReservesRow.domain false Rows.rtgcReservesRow.laid) (((OpenSpec.ofChange Rows.rtgcReservesSpec).at F).post enc Tryz.prog Tryz.f4 false true false false):=by
 obtain ⟨places,hx⟩:=rtgcReserves_reads os enc;refine returnsInHanded_of_row (C:=Tryz.checked) (s:=OpenSpec.ofChange Rows.rtgcReservesSpec) rtgcReserves_own started (by kernel_rfl) Tryz.func4
  (witness_row_atRef (enc:=enc) (C:=Tryz.checked) false (laidWorld os) #[.agg #[.slice none 0 0,.slice none 0 0,.slice none 0 0,.slice none 0 0,.slice none 0 0,.slice none 0 0,.int .u32 0,.int .u16 0],.int .u16 0,.agg #[.int .u16 0,.int .u16 0]] rfl (by kernel_rfl) (by kernel_rfl) (by kernel_rfl)
   (OpenSpec.preRow_of_cond 8 hx (by kernel_rfl) (fun k hk=>by cases hk) (by kernel_rfl) (Zk8 os _))) ?_
 intro W base args ds gs before hval0 hW _ _ _ hLd hSh _;have hLV:LVE W:=Zzv hLd hSh;have hval:∀ (j:Nat) t v,Tryz.f4.params[j]?=some t->args[j]?=some v->Value.okWide Tryz.prog W .any base t v:=hval0;have hW':=hW;obtain ⟨p,q,hA0,hV,rfl,hfz,hnd⟩:=hW;have hA:DataW.TrodAll enc Tryz.prog W 0 (fun _=>true) true Tryz.f4.params.toList args.toList ds p:=hA0;rw [Tryz.params4] at hA hval;obtain ⟨v0,v1,v2,d0,d1,d2,p0,p1,p2,rfl,rfl,rfl,h0,h1,h2⟩:=trodAll_three hA;obtain ⟨rfl,rfl⟩:=trodVars_none hV;obtain ⟨hp,rfl,rfl,rfl,w1⟩:=open_int Tryz.underlying26 (hval 1 26 v1 rfl rfl) h1;obtain ⟨a0,a1,rfl,rfl,rfl,w2,w3⟩:=open_q2 (hval 2 52 v2 rfl rfl) h2;have h0k:=h0;have hlt:∀ x∈p0,x.block<W.heap.size:=fun x hx=>by simpa using hW'.lt x (by simp [hx])
 obtain ⟨x,An,Ar,Ag,As,Aq,Ap,cn,cr,cg,cs,cq,cp,rfl,hOk,hS,hcr⟩:=Zez (hval 0 30 v0 rfl rfl) h0;clear hA0 hval0;simp only [List.append_nil] at hW';refine (Zht W hLV x hOk An Ar Ag As Aq Ap cn cr cg cs cq cp hS hcr hp a0 a1 (wf_u16 w1) (wf_u16 w2) (wf_u16 w3)).mono fun e W' ⟨he,hb⟩=>?_
 subst he;exact ⟨_,rfl,Zdp (pa:=p0++([]++[])) (pv:=[]) hW' (fun _ _ _=>trodAll_mk1 (shut_bool Tryz.underlying4 true)) (fun sp hs=>trodAll_mk3 (Zgx rtgcReserves_laidOut (by kernel_rfl) (of_decide_eq_true (by kernel_rfl)) h0k hb hlt sp hs) (shut_int Tryz.underlying26 w1) (shut_q2 a0 a1 w2 w3)) (fun _ _=>rfl) (by simp) hb
  (ok_one (by kernel_rfl) rfl (okWide_bool_mk Tryz.underlying4 true))⟩
theorem rtgcReserves_said:Rows.RtgcReservesSaid :=
 OpenClaim.holds_of_cond 4 Tryz.f4 rfl rfl rfl rfl rfl rfl rfl ⟨rfl,rfl,rfl,rfl,rfl⟩ rfl rfl rfl rfl rfl (by kernel_rfl) Tryz.func4 rtgcReserves_closed
  (of_decide_eq_true (by kernel_rfl)) (by unfold Func.isWrapper;first | (rw [if_pos (by decide +kernel)];kernel_rfl) | (rw [if_neg (by decide +kernel)];exact ⟨rfl,rfl⟩))
  (fun os started H enc _ F=>by rw [OpenClaim.pre_eq_preRow];exact rtgcReserves_lifted os started H enc F)
theorem rtgcReserves_plain (f:FuncId)(fn:Func)(hf:Tryz.pinned.checked.prog.funcNamed Rows.rtgcReservesRow.func=some f)(hfn:Tryz.pinned.checked.prog.funcs[f]?=some fn) :
 false=Tryz.pinned.checked.prog.looks []/\∀ (j:Nat) t,fn.params[j]?=some t->Tryz.pinned.checked.prog.wantsStandIn t=false:=by
 obtain rfl:f=4:=Option.some.inj ((show Tryz.prog.funcNamed Rows.rtgcReservesRow.func=some 4 by kernel_rfl).symm.trans hf) |>.symm
 obtain rfl:fn=Tryz.f4:=(Option.some.inj (Tryz.func4.symm.trans hfn)).symm;refine ⟨by kernel_rfl,fun j t ht=>?_⟩;rw [Tryz.params4] at ht;have ht':=Array.mem_of_getElem? ht;simp at ht';rcases ht' with rfl | rfl | rfl
 ·exact (show Tryz.prog.wantsStandIn 30=false by kernel_rfl)
 ·exact (show Tryz.prog.wantsStandIn 26=false by kernel_rfl)
 ·exact (show Tryz.prog.wantsStandIn 52=false by kernel_rfl)
theorem rtgcReserves_card:Rows.RtgcReservesCardSaid :=
 Claim7.holds_tied_plain_at .later [] _ _ _ _ rtgcReserves_said (fun _ h=>by cases h) (by kernel_rfl) (fun _ h=>by cases h) rtgcReserves_row_tie rfl ⟨rfl,rfl⟩ (by kernel_rfl) rfl rtgcReserves_plain (by kernel_rfl)
end Go.Proofs.YtgdjocajlndonaaGreatDoor
