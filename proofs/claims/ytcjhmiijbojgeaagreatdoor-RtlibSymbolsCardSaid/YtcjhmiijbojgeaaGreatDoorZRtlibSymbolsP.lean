/- The law RtlibSymbols holds of the given program: for whatever two texts, collected between or not, the call returns true, and what was given reads as before. No condition beyond the listed variables, which the card ties to the program's text. -/
import Derived.Test.YtcjhmiijbojgeaaGreatDoorCards
import Derived.Test.YtcjhmiijbojgeaaGreatDoorTie
import Derived.Test.YtcjhmiijbojgeaaGreatDoorZVLaw
import Derived.ChangeMaps5
import Derived.OpenShut
set_option linter.all false
set_option maxHeartbeats 40000000
namespace Go.Proofs.YtcjhmiijbojgeaaGreatDoor
open S Go.Proofs.Tryz
set_option maxRecDepth 100000
open Go.ChangeShapes Go.WideShapes Go.ChangeAt Go.ChangeMaps Go.RowKit
theorem Zg6:ownKnob prog.godebug=none:=by kernel_rfl
theorem Zn8:laidOutB prog=true:=by kernel_rfl
theorem Zfv (os:Os){H:Type}(enc:TypeId×Value->H):∃a,DataW.whole enc prog ((laidWorld os).forCall (λ _ _=>0) ⟨#[],#[.string ⟨#[]⟩,.string ⟨#[]⟩,.bool false],[]⟩).memory Tryz.f3.params.toList Rows.rtlibSymbolsSpec.vars false (#[.string ⟨#[]⟩,.string ⟨#[]⟩,.bool false]:Array Value).toList 8=some ([.lit (.string []),.lit (.string []),.lit (.bool false)],[],a) :=
 ⟨[],by kernel_rfl⟩
theorem Ze9 (os:Os)(b:os.Started)(H:Type)(enc:TypeId×Value->H)(F:Stop.Interp) :
 ReturnsInHanded {} Tryz.checked os 3 .any ((OpenSpec.ofChange Rows.rtlibSymbolsSpec).preRow enc prog Tryz.f3 Rows.rtlibSymbolsRow.domain false Rows.rtlibSymbolsRow.laid) (((OpenSpec.ofChange Rows.rtlibSymbolsSpec).at F).post enc prog Tryz.f3 false true false false):=by
 obtain⟨h,x⟩:=Zfv os enc;refine returnsInHanded_of_row (C:=Tryz.checked) (s:=OpenSpec.ofChange Rows.rtlibSymbolsSpec) Zg6 b (by kernel_rfl) func3
  (witness_row_atRef (enc:=enc) (C:=Tryz.checked) false (laidWorld os) #[.string ⟨#[]⟩,.string ⟨#[]⟩,.bool false] rfl (by kernel_rfl) (by kernel_rfl) (by kernel_rfl)
   (OpenSpec.preRow_of_cond 8 x (by kernel_rfl) (λ k B=>by cases B) (by kernel_rfl) (Zxq os _))) ?_
 intro W base args D gs i c o _ _ _ l m _;have n:LVE W:=Z6z l m;have a:∀(j:Nat) t v,Tryz.f3.params[j]?=some t->args[j]?=some v->Value.okWide prog W .any base t v:=c;have d:=o;obtain⟨p,q,g,J,rfl,I,G⟩:=o;have hA:DataW.TrodAll enc prog W 0 (λ _=>true) true Tryz.f3.params.toList args.toList D p:=g;rw[Tryz.params3] at hA a;obtain⟨r,y,E,d0,d1,d2,p0,p1,p2,rfl,rfl,rfl,h0,A,u⟩:=trodAll_three hA;obtain⟨rfl,rfl⟩:=trodVars_none J;obtain⟨s0,rfl,rfl,rfl,w0⟩:=open_string underlying9 (a 0 9 r rfl rfl) h0;obtain⟨s1,rfl,rfl,rfl,w1⟩:=open_string underlying9 (a 1 9 y rfl rfl) A;obtain⟨t2,rfl,rfl,rfl⟩:=open_bool underlying4 (a 2 4 E rfl rfl) u;clear g c;simp only[List.append_nil] at d;refine(Zg7 s0 s1 t2 W n).mono λ e W' ⟨w,z⟩=>?_
 subst w;exact⟨_,rfl,Zlv (pa:=[]) (pv:=[]) d (λ _ _ _=>trodAll_mk1 (shut_bool underlying4 true)) (λ sp hs=>trodAll_mk3 (shut_string underlying9 w0) (shut_string underlying9 w1) (shut_bool underlying4 t2)) (λ _ _=>rfl) (by simp) z
  (ok_one (by kernel_rfl) rfl (okWide_bool_mk underlying4 true))⟩
theorem Zgj:Rows.RtlibSymbolsSaid :=
 OpenClaim.holds_of_cond 3 Tryz.f3 rfl rfl rfl rfl rfl rfl rfl ⟨rfl,rfl,rfl,rfl,rfl⟩ rfl rfl rfl rfl rfl (by kernel_rfl) func3 Ze5
  (of_decide_eq_true (by kernel_rfl)) (by unfold Func.isWrapper;first | (rw[if_pos (by decide +kernel)];kernel_rfl) | (rw[if_neg (by decide +kernel)];exact⟨rfl,rfl⟩))
  (λ os a H enc _ F=>by rw[OpenClaim.pre_eq_preRow];exact Ze9 os a H enc F)
theorem Zfw (f:FuncId)(fn:Func)(hf:Tryz.pinned.checked.prog.funcNamed Rows.rtlibSymbolsRow.func=some f)(b:Tryz.pinned.checked.prog.funcs[f]?=some fn) :
 false=Tryz.pinned.checked.prog.looks []/\∀(j:Nat) t,fn.params[j]?=some t->Tryz.pinned.checked.prog.wantsStandIn t=false:=by
 obtain rfl:f=3:=Option.some.inj ((show prog.funcNamed Rows.rtlibSymbolsRow.func=some 3 by kernel_rfl).symm.trans hf) |>.symm
 obtain rfl:fn=Tryz.f3:=(Option.some.inj (func3.symm.trans b)).symm;refine⟨by kernel_rfl,λ j t c=>?_⟩;rw[Tryz.params3] at c;have a:=Array.mem_of_getElem? c;simp at a;rcases a with rfl|rfl
 .exact(show prog.wantsStandIn 9=false by kernel_rfl)
 .exact(show prog.wantsStandIn 4=false by kernel_rfl)
theorem Zse:Rows.RtlibSymbolsCardSaid :=
 Claim7.holds_tied_plain_at .later [] _ _ _ _ Zgj (λ _ h=>by cases h) (by kernel_rfl) (λ _ h=>by cases h) rtlibSymbols_row_tie rfl ⟨rfl,rfl⟩ (by kernel_rfl) rfl Zfw (by kernel_rfl)
