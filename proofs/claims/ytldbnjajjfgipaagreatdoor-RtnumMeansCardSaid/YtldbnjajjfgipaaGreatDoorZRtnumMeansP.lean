/- The law RtnumMeans holds of the given program: for whatever two integers and whatever case the call returns true, and what was given reads as before. No condition beyond the listed variables, which the card ties to the program's text. -/
import Derived.Test.YtldbnjajjfgipaaGreatDoorCards
import Derived.Test.YtldbnjajjfgipaaGreatDoorTie
import Derived.Test.YtldbnjajjfgipaaGreatDoorZNBig
import Derived.ChangeMaps5
import Derived.OpenShut
set_option linter.all false
set_option maxHeartbeats 40000000
namespace Go.Proofs.YtldbnjajjfgipaaGreatDoor
open S Go.Proofs.Tryz
set_option maxRecDepth 100000
open Go.ChangeShapes Go.WideShapes Go.ChangeAt Go.ChangeMaps Go.RowKit
theorem Zkm:ownKnob prog.godebug=none:=by kernel_rfl
theorem Zbw:laidOutB prog=true:=by kernel_rfl
theorem Zh1 (os:Os){H:Type}(enc:TypeId×Value->H):∃a,DataW.whole enc prog ((laidWorld os).forCall (λ _ _=>0) ⟨#[],#[.agg #[.bool false,.slice none 0 0],.agg #[.bool false,.slice none 0 0],.agg #[.int .u8 0,.int .u16 0,.int .u16 0,.int .u8 0,.int .u8 0]],[]⟩).memory Tryz.f5.params.toList Rows.rtnumMeansSpec.vars false (#[.agg #[.bool false,.slice none 0 0],.agg #[.bool false,.slice none 0 0],.agg #[.int .u8 0,.int .u16 0,.int .u16 0,.int .u8 0,.int .u8 0]]:Array Value).toList 8=some ([.agg [.lit (.bool false),.nil],.agg [.lit (.bool false),.nil],.agg [.lit (.int .u8 0),.lit (.int .u16 0),.lit (.int .u16 0),.lit (.int .u8 0),.lit (.int .u8 0)]],[],a) :=
 ⟨[],by kernel_rfl⟩
theorem Zhg (os:Os)(c:os.Started)(H:Type)(enc:TypeId×Value->H)(F:Stop.Interp) :
 ReturnsInHanded {} Tryz.checked os 5 .any ((OpenSpec.ofChange Rows.rtnumMeansSpec).preRow enc prog Tryz.f5 Rows.rtnumMeansRow.domain false Rows.rtnumMeansRow.laid) (((OpenSpec.ofChange Rows.rtnumMeansSpec).at F).post enc prog Tryz.f5 false true false false):=by
 obtain⟨w,b⟩:=Zh1 os enc;refine returnsInHanded_of_row (C:=Tryz.checked) (s:=OpenSpec.ofChange Rows.rtnumMeansSpec) Zkm c (by kernel_rfl) func5
  (witness_row_atRef (enc:=enc) (C:=Tryz.checked) false (laidWorld os) #[.agg #[.bool false,.slice none 0 0],.agg #[.bool false,.slice none 0 0],.agg #[.int .u8 0,.int .u16 0,.int .u16 0,.int .u8 0,.int .u8 0]] rfl (by kernel_rfl) (by kernel_rfl) (by kernel_rfl)
   (OpenSpec.preRow_of_cond 8 b (by kernel_rfl) (λ k T=>by cases T) (by kernel_rfl) (Zyn os _))) ?_
 intro W base args U gs z d L _ _ _ E B _;have J:LVE W:=Z6r E B;have a:∀(j:Nat) t v,Tryz.f5.params[j]?=some t->args[j]?=some v->Value.okWide prog W .any base t v:=d;have h:=L;obtain⟨p,q,u,Y,rfl,O,R⟩:=L;have hA:DataW.TrodAll enc prog W 0 (λ _=>true) true Tryz.f5.params.toList args.toList U p:=u;rw[Tryz.params5] at hA a;obtain⟨v0,Q,Z,d0,d1,d2,K,M,N,rfl,rfl,rfl,h0,h1,h2⟩:=trodAll_three hA;obtain⟨rfl,rfl⟩:=trodVars_none Y;have I:=h0;have G:=h1;have D:=h2;have l:∀x∈K,x.block<W.heap.size:=λ x b=>by simpa using h.lt x (by simp[b])
 have m:∀x∈M,x.block<W.heap.size:=λ x b=>by simpa using h.lt x (by simp[b])
 have n:∀x∈N,x.block<W.heap.size:=λ x b=>by simpa using h.lt x (by simp[b])
 obtain⟨n1,X,c1,l1,rfl,k1,b1,g1,r1⟩:=Zrn (a 0 50 v0 rfl rfl) h0;obtain⟨n2,P,c2,l2,rfl,k2,b2,g2,r2⟩:=Zrn (a 1 50 Q rfl rfl) h1;obtain⟨o,g,r,s,i,rfl,ob,gb,rb,sb,ib⟩:=Zwq (a 2 53 Z rfl rfl) h2;clear u d;simp only[List.append_nil] at h;refine(Zki W J n1 n2 X P l1.length c1 l2.length c2 l1 l2 o g r s i ⟨rfl,rfl,r1,r2,g1,g2,⟨b1,b2⟩,ob,gb,rb,sb,ib⟩).mono λ e W' ⟨V,y⟩=>?_
 subst V;exact⟨_,rfl,Zln (pa:=K++(M++N)) (pv:=[]) h (λ _ _ _=>trodAll_mk1 (shut_bool underlying4 true)) (λ sp A=>trodAll_mk3 (Zgv Zbw (by kernel_rfl) (of_decide_eq_true (by kernel_rfl)) I y l sp (λ x b=>A x (by simp[b]))) (Zgv Zbw (by kernel_rfl) (of_decide_eq_true (by kernel_rfl)) G y m sp (λ x b=>A x (by simp[b]))) (Zgv Zbw (by kernel_rfl) (of_decide_eq_true (by kernel_rfl)) D y n sp (λ x b=>A x (by simp[b])))) (λ _ _=>rfl) (by simp) y
  (ok_one (by kernel_rfl) rfl (okWide_bool_mk underlying4 true))⟩
theorem Zj8:Rows.RtnumMeansSaid :=
 OpenClaim.holds_of_cond 5 Tryz.f5 rfl rfl rfl rfl rfl rfl rfl ⟨rfl,rfl,rfl,rfl,rfl⟩ rfl rfl rfl rfl rfl (by kernel_rfl) func5 Zgu
  (of_decide_eq_true (by kernel_rfl)) (by unfold Func.isWrapper;first | (rw[if_pos (by decide +kernel)];kernel_rfl) | (rw[if_neg (by decide +kernel)];exact⟨rfl,rfl⟩))
  (λ os a H enc _ F=>by rw[OpenClaim.pre_eq_preRow];exact Zhg os a H enc F)
theorem Zh2 (f:FuncId)(fn:Func)(hf:Tryz.pinned.checked.prog.funcNamed Rows.rtnumMeansRow.func=some f)(b:Tryz.pinned.checked.prog.funcs[f]?=some fn) :
 false=Tryz.pinned.checked.prog.looks []/\∀(j:Nat) t,fn.params[j]?=some t->Tryz.pinned.checked.prog.wantsStandIn t=false:=by
 obtain rfl:f=5:=Option.some.inj ((show prog.funcNamed Rows.rtnumMeansRow.func=some 5 by kernel_rfl).symm.trans hf) |>.symm
 obtain rfl:fn=Tryz.f5:=(Option.some.inj (func5.symm.trans b)).symm;refine⟨by kernel_rfl,λ j t c=>?_⟩;rw[Tryz.params5] at c;have a:=Array.mem_of_getElem? c;simp at a;rcases a with rfl|rfl
 .exact(show prog.wantsStandIn 50=false by kernel_rfl)
 .exact(show prog.wantsStandIn 53=false by kernel_rfl)
theorem Zyi:Rows.RtnumMeansCardSaid :=
 Claim7.holds_tied_plain_at .later [] _ _ _ _ Zj8 (λ _ h=>by cases h) (by kernel_rfl) (λ _ h=>by cases h) rtnumMeans_row_tie rfl ⟨rfl,rfl⟩ (by kernel_rfl) rfl Zh2 (by kernel_rfl)
