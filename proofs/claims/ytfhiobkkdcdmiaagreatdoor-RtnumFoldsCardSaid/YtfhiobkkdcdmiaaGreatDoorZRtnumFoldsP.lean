/- The law RtnumFolds holds of the given program: for whatever two integers the call returns true, and what was given reads as before. No condition beyond the listed variables, which the card ties to the program's text. -/
import Derived.Test.YtfhiobkkdcdmiaaGreatDoorCards
import Derived.Test.YtfhiobkkdcdmiaaGreatDoorTie
import Derived.Test.YtfhiobkkdcdmiaaGreatDoorZNBig
import Derived.ChangeMaps5
import Derived.OpenShut
set_option linter.all false
set_option maxHeartbeats 40000000
namespace Go.Proofs.YtfhiobkkdcdmiaaGreatDoor
set_option maxRecDepth 100000
open Go.ChangeShapes Go.WideShapes Go.ChangeAt Go.ChangeMaps Go.RowKit
theorem Zj6:ownKnob Tryz.prog.godebug=none:=by kernel_rfl
theorem Zcv:laidOutB Tryz.prog=true:=by kernel_rfl
theorem Zho (os:Os){H:Type}(enc:TypeId×Value->H):∃places,DataW.whole enc Tryz.prog ((laidWorld os).forCall (λ _ _=>0) ⟨#[],#[.agg #[.bool false,.slice none 0 0],.agg #[.bool false,.slice none 0 0]],[]⟩).memory Tryz.f6.params.toList Rows.rtnumFoldsSpec.vars false (#[.agg #[.bool false,.slice none 0 0],.agg #[.bool false,.slice none 0 0]]:Array Value).toList 8=some ([.agg [.lit (.bool false),.nil],.agg [.lit (.bool false),.nil]],[],places) :=
 ⟨[],by kernel_rfl⟩
theorem Zg4 (os:Os)(started:os.Started)(H:Type)(enc:TypeId×Value->H)(F:Stop.Interp) :
 ReturnsInHanded {} Tryz.checked os 6 .any ((OpenSpec.ofChange Rows.rtnumFoldsSpec).preRow enc Tryz.prog Tryz.f6 Rows.rtnumFoldsRow.domain false Rows.rtnumFoldsRow.laid) (((OpenSpec.ofChange Rows.rtnumFoldsSpec).at F).post enc Tryz.prog Tryz.f6 false true false false):=by
 obtain⟨places,hx⟩:=Zho os enc;refine returnsInHanded_of_row (C:=Tryz.checked) (s:=OpenSpec.ofChange Rows.rtnumFoldsSpec) Zj6 started (by kernel_rfl) Tryz.func6
  (witness_row_atRef (enc:=enc) (C:=Tryz.checked) false (laidWorld os) #[.agg #[.bool false,.slice none 0 0],.agg #[.bool false,.slice none 0 0]] rfl (by kernel_rfl) (by kernel_rfl) (by kernel_rfl)
   (OpenSpec.preRow_of_cond 8 hx (by kernel_rfl) (λ k hk=>by cases hk) (by kernel_rfl) (Zxm os _))) ?_
 intro W base args ds gs before hval0 hW _ _ _ hLd hSh _;have hLV:LVE W:=Z5e hLd hSh;have hval:∀(j:Nat) t v,Tryz.f6.params[j]?=some t->args[j]?=some v->Value.okWide Tryz.prog W .any base t v:=hval0;have hW':=hW;obtain⟨p,q,hA0,hV,rfl,hfz,hnd⟩:=hW;have hA:DataW.TrodAll enc Tryz.prog W 0 (λ _=>true) true Tryz.f6.params.toList args.toList ds p:=hA0;rw[Tryz.params6] at hA hval;obtain⟨v0,v1,d0,d1,p0,p1,rfl,rfl,rfl,h0,h1⟩:=trodAll_two hA;obtain⟨rfl,rfl⟩:=trodVars_none hV;have h0k:=h0;have h1k:=h1;have hlt0:∀x∈p0,x.block<W.heap.size:=λ x hx=>by simpa using hW'.lt x (by simp[hx])
 have hlt1:∀x∈p1,x.block<W.heap.size:=λ x hx=>by simpa using hW'.lt x (by simp[hx])
 obtain⟨n1,A1,c1,l1,rfl,k1,b1,g1,r1⟩:=Zq9 (hval 0 24 v0 rfl rfl) h0;obtain⟨n2,A2,c2,l2,rfl,k2,b2,g2,r2⟩:=Zq9 (hval 1 24 v1 rfl rfl) h1;clear hA0 hval0;simp only[List.append_nil] at hW';refine(Zj2 W hLV n1 n2 A1 A2 l1.length c1 l2.length c2 l1 l2 ⟨rfl,rfl,r1,r2,g1,g2,⟨b1,b2⟩,⟨k1,k2⟩⟩).mono λ e W' ⟨he,hb⟩=>?_
 subst he;exact⟨_,rfl,Zk3 (pa:=p0++p1) (pv:=[]) hW' (λ _ _ _=>trodAll_mk1 (shut_bool Tryz.underlying4 true)) (λ sp hs=>trodAll_mk2 (Zj7 Zcv (by kernel_rfl) (of_decide_eq_true (by kernel_rfl)) h0k hb hlt0 sp (λ x hx=>hs x (by simp[hx]))) (Zj7 Zcv (by kernel_rfl) (of_decide_eq_true (by kernel_rfl)) h1k hb hlt1 sp (λ x hx=>hs x (by simp[hx])))) (λ _ _=>rfl) (by simp) hb
  (ok_one (by kernel_rfl) rfl (okWide_bool_mk Tryz.underlying4 true))⟩
theorem Zjs:Rows.RtnumFoldsSaid :=
 OpenClaim.holds_of_cond 6 Tryz.f6 rfl rfl rfl rfl rfl rfl rfl ⟨rfl,rfl,rfl,rfl,rfl⟩ rfl rfl rfl rfl rfl (by kernel_rfl) Tryz.func6 Zgm
  (of_decide_eq_true (by kernel_rfl)) (by unfold Func.isWrapper;first | (rw[if_pos (by decide +kernel)];kernel_rfl) | (rw[if_neg (by decide +kernel)];exact⟨rfl,rfl⟩))
  (λ os started H enc _ F=>by rw[OpenClaim.pre_eq_preRow];exact Zg4 os started H enc F)
theorem Zhp (f:FuncId)(fn:Func)(hf:Tryz.pinned.checked.prog.funcNamed Rows.rtnumFoldsRow.func=some f)(hfn:Tryz.pinned.checked.prog.funcs[f]?=some fn) :
 false=Tryz.pinned.checked.prog.looks []/\∀(j:Nat) t,fn.params[j]?=some t->Tryz.pinned.checked.prog.wantsStandIn t=false:=by
 obtain rfl:f=6:=Option.some.inj ((show Tryz.prog.funcNamed Rows.rtnumFoldsRow.func=some 6 by kernel_rfl).symm.trans hf) |>.symm
 obtain rfl:fn=Tryz.f6:=(Option.some.inj (Tryz.func6.symm.trans hfn)).symm;refine⟨by kernel_rfl,λ j t ht=>?_⟩;rw[Tryz.params6] at ht;have ht':=Array.mem_of_getElem? ht;simp at ht';subst ht';exact(show Tryz.prog.wantsStandIn 24=false by kernel_rfl)
theorem Zxh:Rows.RtnumFoldsCardSaid :=
 Claim7.holds_tied_plain_at .later [] _ _ _ _ Zjs (λ _ h=>by cases h) (by kernel_rfl) (λ _ h=>by cases h) rtnumFolds_row_tie rfl ⟨rfl,rfl⟩ (by kernel_rfl) rfl Zhp (by kernel_rfl)
