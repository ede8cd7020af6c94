/- Parts. -/
import Derived.Test.YtlldagdhlfpihaaGreatDoorZGApM
import Derived.Test.YtlldagdhlfpihaaGreatDoorZKLst
set_option linter.unusedVariables false
set_option linter.unusedSimpArgs false
set_option linter.unusedSectionVars false
namespace Go.Proofs.YtlldagdhlfpihaaGreatDoor
section
open Go.RowKit
theorem off_end {I:S.Img}{V V':S.Vw}{a c:Int}{K N:Nat}(h:S.GoH I V a K V' c)(hK:K<=N){m:S.Mach}(hm:S.On I m V a):S.Off I (m.steps_ N) V' c:=by
 obtain ⟨k,hk,ho⟩:=h m hm
 obtain ⟨d,rfl⟩:∃ d,N=k+d:=⟨N-k,by omega⟩
 rw [steps_add,steps_still (by rw [ho.end_];decide)]
 exact ho
end
section
open Go.RowKit
namespace S
end S
section
variable {I:S.Img}{dep lk:Int}{env:List Int}{at_:Nat}{st:S.Vw}{c:Nat}{Q:Int->S.Vw->Nat->Prop}{H:Int->S.Vw->Nat->Prop}
end
section
variable {I:S.Img}{dep lk:Int}{behind:Bool}{env:List Int}{st:S.Vw}{c:Nat}{Q:List Int->S.Vw->Nat->Prop}{R:S.BO->Nat->Prop}
theorem wpS_go (e:S.BE):S.wpS I dep lk behind (S.sGo e) env st c Q R=S.wpE I dep lk env e 0 st c (fun v st1 c1=>R (.left v st1) (c1+2)) (fun code st c=>R (.halt code st) c):=by
 rw [S.sGo,S.wpS,if_neg (by decide),wpEs_1]
 refine congrArg (fun q=>S.wpE I dep lk env e 0 st c q _) (funext fun v=>funext fun st1=>funext fun c1=>?_)
 rw [if_neg (by decide),if_neg (by decide),if_neg (by decide),if_neg (by decide),if_neg (by decide),if_neg (by decide),if_neg (by decide),if_neg (by decide),if_neg (by decide),if_pos rfl]
 rfl
end
end
section
open Go.RowKit
namespace S
end S
section
variable {I:S.Img}{dep lk:Int}
section
variable {env:List Int}{st:S.Vw}
theorem ev_q (a b:S.BE):S.evE I lk env st (S.eQ a b)=if S.evE I lk env st a=S.evE I lk env st b then 1 else 0:=rfl
end
section
variable {behind:Bool}{env:List Int}{st:S.Vw}{c:Nat}{Q:List Int->S.Vw->Nat->Prop}{R:S.BO->Nat->Prop}
end
end
theorem and31 {x:Int}(h0:0<=x)(h1:x<4294967296):S.alu 7 x (31%4294967296)=x%32:=and_mask 5 31 (by decide) (by decide) h0 h1
end
section
open Go.RowKit
theorem chk_rApply:S.chkB S.rApply=0:=by kernel_rfl
theorem env6 {env:List Int}(h:(env.length:Int)=6):∃ a b c d e f,env=[a,b,c,d,e,f]:=by
 match env,h with
 | [a,b,c,d,e,f],_=>exact ⟨a,b,c,d,e,f,rfl⟩
 | [],h=>simp at h
 | [_],h=>simp at h
 | [_,_],h=>simp at h
 | [_,_,_],h=>simp at h
 | [_,_,_,_],h=>simp at h
 | [_,_,_,_,_],h=>simp at h
 | _::_::_::_::_::_::_::_,h=>simp only [List.length_cons] at h;omega
section
variable {I:S.Img}(hI:I.Ok){cf:S.Cf}(hlow:∀ a,0<=a->a<1056->S.Dat I a)
section
variable {dep lk:Int}{behind:Bool}{env:List Int}{st:S.Vw}{r:List S.BS}{c:Nat}{Q:List Int->S.Vw->Nat->Prop}{R:S.BO->Nat->Prop}
theorem ev_isref {a:S.BE}{x:Int}(h:S.evE I lk env st a=x)(h0:0<=x)(h1:x<4294967296):S.evE I lk env st (S.isRef a)=if x%4=1 then 1 else 0:=by
 show (if S.alu 7 (S.evE I lk env st a) (3%4294967296)=1%4294967296 then (1:Int) else 0)=_
 rw [h,and3 h0 h1]
 rfl
theorem ev_lt3 {K x:Int}(h:env.getD 3 0=x):S.evE I lk env st (S.eLt (S.eC K) (S.eL 3))=if K%4294967296<x then 1 else 0:=by
 show S.alu 14 (K%4294967296) (env.getD 3 0)=_
 rw [h,alu14]
include hI
theorem ev_head {n:Int}{a w:Int}(h:env.getD n.toNat 0=4*a+1)(hd:S.Dat I a)(hm:st.mem a=w)(hw0:0<=w)(hw1:w<4294967296):S.okE I lk env st (S.headOf (S.eL n))/\S.evE I lk env st (S.headOf (S.eL n))=w%32:=by
 have hsz:=hI.size2
 have h0:=hd.1
 have h1:=hd.2.1
 have ea:S.evE I lk env st (S.eAdr (S.eL n))=a:=by
  show S.alu 11 (env.getD n.toNat 0) (2%4294967296)=_
  rw [h,shr2]
  omega
 have hu:S.u32m (a+0)=a:=by unfold S.u32m;omega
 refine ⟨ok_b (by decide) (ok_m (ok_b (by decide) (ok_l n) (ok_c 2)) (by show S.u32m (S.evE I lk env st (S.eAdr (S.eL n))+0)<I.size/\_;rw [ea,hu];exact dat_ok hd)) (ok_c 31),?_⟩
 show S.alu 7 (st.mem (S.u32m (S.evE I lk env st (S.eAdr (S.eL n))+0))) (31%4294967296)=_
 rw [ea,hu,hm,and31 hw0 hw1]
theorem ws_pair {n:Int}{a:Int}{yes no:List S.BS}(h:env.getD n.toNat 0=4*a+1)(hd:S.Dat I a)(hm:st.mem a=67)
 (hQ:∀ c':Nat,c'<=c+40->S.wpSs I dep lk behind yes env st c' (fun env st c=>S.wpSs I dep lk behind [] env st (c+3) (fun env st c=>S.wpSs I dep lk behind r env st (c+3) Q R) R) R):S.wpSs I dep lk behind (S.sPair (S.eL n) yes no::r) env st c Q R:=by
 have hsz:=hI.size2
 have h0:=hd.1
 have h1:=hd.2.1
 have ei:S.evE I lk env st (S.isRef (S.eL n))=1:=by
  rw [ev_isref (a:=S.eL n) (x:=4*a+1) h (by omega) (by omega),if_pos (by omega)]
 obtain ⟨okh,evh⟩:=ev_head hI (lk:=lk) (st:=st) h hd hm (by decide) (by decide)
 have eq:S.evE I lk env st (S.eQ (S.headOf (S.eL n)) (S.eC 3))=1:=by
  rw [ev_q,evh]
  rfl
 unfold S.sPair
 refine ws_if rfl (ok_q (ok_b (by decide) (ok_l n) (ok_c 3)) (ok_c 1)) (fun hz=>by rw [ei] at hz;cases hz) fun _=>?_
 refine ws_if rfl (ok_q okh (ok_c 3)) (fun hz=>by rw [eq] at hz;cases hz) fun _=>?_
 have q1:S.coE (S.isRef (S.eL n))=9:=rfl
 have q2:S.coE (S.eQ (S.headOf (S.eL n)) (S.eC 3))=13:=rfl
 exact hQ (c+S.coE (S.isRef (S.eL n))+4+S.coE (S.eQ (S.headOf (S.eL n)) (S.eC 3))+4) (by rw [q1,q2];omega)
theorem ws_nopair {n:Int}{x:Int}{yes no:List S.BS}(h:env.getD n.toNat 0=x)(h0:0<=x)(h1:x<4294967296)(hx:x%4≠1)
 (hQ:∀ c':Nat,c'<=c+40->S.wpSs I dep lk behind no env st c' (fun env st c=>S.wpSs I dep lk behind r env st c Q R) R):S.wpSs I dep lk behind (S.sPair (S.eL n) yes no::r) env st c Q R:=by
 have ei:S.evE I lk env st (S.isRef (S.eL n))=0:=by
  rw [ev_isref (a:=S.eL n) (x:=x) h h0 h1,if_neg hx]
 unfold S.sPair
 refine ws_if rfl (ok_q (ok_b (by decide) (ok_l n) (ok_c 3)) (ok_c 1)) (fun _=>?_) (fun hz=>absurd ei hz)
 have q1:S.coE (S.isRef (S.eL n))=9:=rfl
 exact hQ (c+S.coE (S.isRef (S.eL n))+4) (by rw [q1];omega)
end
theorem ws_count {dep lk:Int}{behind:Bool}{f m2 l e v:Int}{L:List Int}{st:S.Vw}{lo hi:Int}(hI:I.Ok)(hl:S.LAtE I st.mem lo hi e v L)(he:0<=e/\e<4294967296/\e%4≠1)(hn:L.length<=1000000)
 {r:List S.BS} {c:Nat} {Q:List Int->S.Vw->Nat->Prop} {R:S.BO->Nat->Prop}
 (hQ:∀ (c':Nat),(c':Int)<=c+100+100*L.length->S.wpSs I dep lk behind r [f,m2,l,L.length,e,0] st c' Q R) :
 S.wpSs I dep lk behind (S.sWh (S.eL 5) [S.sPair (S.eL 4) [S.sAs 3 (S.eAdd (S.eL 3) (S.eC 1)),S.sWhen (S.eLt (S.eC 1048576) (S.eL 3)) [S.sHlt (S.eC 3)],S.sAs 4 (S.eM (S.eAdr (S.eL 4)) 2)] [S.sAs 5 (S.eC 0)]]::r) [f,m2,l,0,v,1] st c Q R:=by
 have hsz:=hI.size2
 refine ws_wh rfl (fun env st' c' k=>st'=st/\((∃ (i:Nat) (v:Int),i<=L.length/\k=L.length-i+1/\env=[f,m2,l,(i:Int),v,1]/\S.LAtE I st.mem lo hi e v (L.drop i)/\(c':Int)<=c+90*i)\/(env=[f,m2,l,L.length,e,0]/\(c':Int)<=c+80+90*L.length)))
  (k0:=L.length+1) ⟨rfl,.inl ⟨0,v,by omega,by omega,by simp,by simpa using hl,by simp⟩⟩ ?_
 rintro env st' c' k ⟨rfl,h⟩
 have q1:S.coE (S.eL 5)=1:=rfl
 refine ⟨ok_l 5,fun hz=>?_,fun hnz=>?_⟩
 ·rcases h with ⟨i,v,_,_,rfl,_⟩ | ⟨rfl,hcc⟩
  ·cases hz
  ·exact hQ _ (by rw [q1];omega)
 ·rcases h with ⟨i,v,hi,rfl,rfl,hl',hcc⟩ | ⟨rfl,_⟩
  ·by_cases hlt:i<L.length
   ·rw [List.drop_eq_getElem_cons (by omega)] at hl'
    obtain ⟨a,rfl,ha1,ha2,ha3,ha4,ha5,ha6⟩:=hl'
    have d0:=ha3 0 (by decide)
    have d2:=ha3 2 (by decide)
    rw [show a+((0:Nat):Int)=a from by omega] at d0
    rw [show a+((2:Nat):Int)=a+2 from by omega] at d2
    have z0:=d0.1
    have z2:=d2.2.1
    refine ws_pair hI (a:=a) rfl d0 ha4 fun c2 hc2=>?_
    refine ws_as rfl (ok_b (by decide) (ok_l 3) (ok_c 1)) ?_
    have ea:S.evE I lk [f,m2,l,(i:Int),4*a+1,1] st' (S.eAdd (S.eL 3) (S.eC 1))=((i+1:Nat):Int):=by
     show S.alu 1 (i:Int) (1%4294967296)=_
     rw [alu1]
     unfold S.u32m
     omega
    rw [ea]
    have hset:[f,m2,l,(i:Int),4*a+1,1].set (Int.toNat 3) ((i+1:Nat):Int)=[f,m2,l,((i+1:Nat):Int),4*a+1,1]:=rfl
    rw [hset]
    have elt:S.evE I lk [f,m2,l,((i+1:Nat):Int),4*a+1,1] st' (S.eLt (S.eC 1048576) (S.eL 3))=0:=by
     rw [ev_lt3 (x:=((i+1:Nat):Int)) rfl,if_neg (by omega)]
    refine ws_if rfl (ok_b (by decide) (ok_c 1048576) (ok_l 3)) (fun _=>ws_nil ?_) (fun hq=>absurd elt hq)
    have eadr:S.evE I lk [f,m2,l,((i+1:Nat):Int),4*a+1,1] st' (S.eAdr (S.eL 4))=a:=by
     show S.alu 11 (4*a+1) (2%4294967296)=_
     rw [shr2]
     omega
    have hu:S.u32m (a+2)=a+2:=by unfold S.u32m;omega
    refine ws_as rfl (ok_m (ok_b (by decide) (ok_l 4) (ok_c 2)) (by show S.u32m (S.evE I lk [f,m2,l,((i+1:Nat):Int),4*a+1,1] st' (S.eAdr (S.eL 4))+2)<_/\_;rw [eadr,hu];exact dat_ok d2)) (ws_nil (ws_nil (ws_nil ?_)))
    have em:S.evE I lk [f,m2,l,((i+1:Nat):Int),4*a+1,1] st' (S.eM (S.eAdr (S.eL 4)) 2)=st'.mem (a+2):=by rw [ev_m,eadr,hu]
    rw [em]
    have t1:S.coE (S.eAdd (S.eL 3) (S.eC 1))=4:=rfl
    have t2:S.coE (S.eLt (S.eC 1048576) (S.eL 3))=4:=rfl
    have t3:S.coE (S.eM (S.eAdr (S.eL 4)) 2)=5:=rfl
    refine ⟨L.length-(i+1)+1,by omega,rfl,.inl ⟨i+1,st'.mem (a+2),by omega,rfl,rfl,ha6,?_⟩⟩
    rw [t1,t2,t3]
    rw [q1] at hc2
    omega
   ·have hie:i=L.length:=by omega
    subst hie
    rw [List.drop_of_length_le (Nat.le_refl _)] at hl'
    have hve:v=e:=hl'
    subst hve
    refine ws_nopair hI (x:=v) rfl he.1 he.2.1 he.2.2 fun c2 hc2=>?_
    refine ws_as rfl (ok_c 0) (ws_nil (ws_nil ⟨0,by omega,rfl,.inr ⟨rfl,?_⟩⟩))
    have t1:S.coE (S.eC 0)=2:=rfl
    rw [t1]
    rw [q1] at hc2
    omega
  ·exact absurd rfl hnz
end
end
section
open Go.RowKit
structure S.AppP (I:S.Img)(m:Nat)(L:List Int)(lo hi:Int)(st st':S.Vw):Prop where
 r1:st'.reg 1=st.reg 4
 r2:st'.reg 2=m+L.length
 ahead:∀ i:Nat,i<m->i<6->st'.reg (4+i)=st.reg (5+i)
 it:∀ (q:Nat) (x:Int),m+q<6->L[q]?=some x->st'.reg (4+(m+q:Nat))=x
 rest:S.LAtE I st'.mem lo hi 38 (st'.reg 10) (L.drop (6-m))
 mem:∀ a,¬ (17<=a/\a<23)->st'.mem a=st.mem a
 inp:st'.inp=st.inp
 out:st'.out=st.out
def S.AppR (I:S.Img)(m:Nat)(L:List Int)(lo hi e w t:Int)(st:S.Vw)(o:S.BO)(k:Nat):Prop :=
 (k:Int)<=1500+100*L.length/\(if w%32=11 then (if e=38 then ∃ st',o=.left (t/4) st'/\S.AppP I m L lo hi st st' else o=.halt 2 st) else o=.halt 6 st)
section
variable {I:S.Img}(hI:I.Ok)(hlow:∀ a,0<=a->a<1056->S.Dat I a)
include hI hlow
theorem ws_lay {dep lk:Int}{behind:Bool}{f l n v:Int}{m:Nat}(hm:m<=6){L:List Int}{s0:S.Vw}{lo hi:Int}(hlo:24<=lo)(hl:S.LAtE I s0.mem lo hi 38 v L)
 {r:List S.BS} {c:Nat} {Q:List Int->S.Vw->Nat->Prop} {R:S.BO->Nat->Prop}
 (hQ:∀ (st:S.Vw) (v':Int) (c':Nat),S.Lay I m L lo hi s0 v' (6-m) st->c'<=c+700->S.wpSs I dep lk behind r [f,m,l,n,v',6] st c' Q R) :
 S.wpSs I dep lk behind (S.sWh (S.eLt (S.eL 5) (S.eC 6)) [S.sPair (S.eL 4) [S.sPut (S.eAdd (S.eL 5) (S.eC 17)) 0 (S.eM (S.eAdr (S.eL 4)) 1),S.sAs 4 (S.eM (S.eAdr (S.eL 4)) 2)] [],S.sAs 5 (S.eAdd (S.eL 5) (S.eC 1))]::r) [f,m,l,n,v,m] s0 c Q R:=by
 have hsz:=hI.size2
 refine ws_wh rfl (fun env st' c' k=>∃ (i:Nat) (v:Int),i<=6-m/\k=6-m-i/\env=[f,(m:Int),l,n,v,((m+i:Nat):Int)]/\S.Lay I m L lo hi s0 v i st'/\c'<=c+100*i)
  (k0:=6-m) ⟨0,v,by omega,by omega,by simp,⟨rfl,rfl,rfl,fun _ _=>rfl,fun q x hq=>by omega,by simpa using hl⟩,by simp⟩ ?_
 rintro env st' c' k ⟨i,v,hi6,rfl,rfl,hL,hcc⟩
 have q1:S.coE (S.eLt (S.eL 5) (S.eC 6))=4:=rfl
 have elt:S.evE I lk [f,(m:Int),l,n,v,((m+i:Nat):Int)] st' (S.eLt (S.eL 5) (S.eC 6))=if ((m+i:Nat):Int)<6 then 1 else 0:=by
  show S.alu 14 ((m+i:Nat):Int) (6%4294967296)=_
  exact alu14 _ _
 refine ⟨ok_b (by decide) (ok_l 5) (ok_c 6),fun hz=>?_,fun hnz=>?_⟩
 ·have hie:i=6-m:=by
   refine Classical.byContradiction fun h=>?_
   rw [elt,if_pos (by omega)] at hz
   cases hz
  subst hie
  rw [show ((m+(6-m):Nat):Int)=6 from by omega]
  exact hQ st' v _ hL (by rw [q1];omega)
 ·have hlt:i<6-m:=Classical.byContradiction fun h=>by
   rw [elt,if_neg (by omega)] at hnz
   exact hnz rfl
  have q5:S.coE (S.eAdd (S.eL 5) (S.eC 1))=4:=rfl
  have nxt:∀ (st2:S.Vw) (v2:Int) (c2:Nat),S.Lay I m L lo hi s0 v2 (i+1) st2->c2<=c'+75->S.wpSs I dep lk behind [S.sAs 5 (S.eAdd (S.eL 5) (S.eC 1))] [f,(m:Int),l,n,v2,((m+i:Nat):Int)] st2 c2
   (fun env2 st2 c2=>∃ k2,k2<6-m-i/\∃ (i:Nat) (v:Int),i<=6-m/\k2=6-m-i/\env2=[f,(m:Int),l,n,v,((m+i:Nat):Int)]/\S.Lay I m L lo hi s0 v i st2/\c2+3<=c+100*i) R:=by
   intro st2 v2 c2 h1 h2
   refine ws_as rfl (ok_b (by decide) (ok_l 5) (ok_c 1)) (ws_nil ⟨6-m-(i+1),by omega,i+1,v2,by omega,rfl,?_,h1,by rw [q5];omega⟩)
   have ea:S.evE I lk [f,(m:Int),l,n,v2,((m+i:Nat):Int)] st2 (S.eAdd (S.eL 5) (S.eC 1))=((m+(i+1):Nat):Int):=by
    show S.alu 1 ((m+i:Nat):Int) (1%4294967296)=_
    rw [alu1]
    unfold S.u32m
    omega
   rw [ea]
   rfl
  have hl':=hL.lst
  by_cases hn:i<L.length
  ·rw [List.drop_eq_getElem_cons (by omega)] at hl'
   obtain ⟨a,rfl,ha1,ha2,ha3,ha4,ha5,ha6⟩:=hl'
   have d0:=ha3 0 (by decide)
   have d1:=ha3 1 (by decide)
   have d2:=ha3 2 (by decide)
   rw [show a+((0:Nat):Int)=a from by omega] at d0
   rw [show a+((1:Nat):Int)=a+1 from by omega] at d1
   rw [show a+((2:Nat):Int)=a+2 from by omega] at d2
   have z0:=d0.1
   have z2:=d2.2.1
   refine ws_pair hI (a:=a) rfl d0 (by rw [hL.mem a (by omega)];exact ha4) fun c2 hc2=>?_
   have eadr:∀ st,S.evE I lk [f,(m:Int),l,n,4*a+1,((m+i:Nat):Int)] st (S.eAdr (S.eL 4))=a:=fun st=>by
    show S.alu 11 (4*a+1) (2%4294967296)=_
    rw [shr2]
    omega
   have hu1:S.u32m (a+1)=a+1:=by unfold S.u32m;omega
   have hu2:S.u32m (a+2)=a+2:=by unfold S.u32m;omega
   have okm1:∀ st,S.okE I lk [f,(m:Int),l,n,4*a+1,((m+i:Nat):Int)] st (S.eM (S.eAdr (S.eL 4)) 1):=fun st=>ok_m (ok_b (by decide) (ok_l 4) (ok_c 2)) (by show S.u32m (S.evE I lk [f,(m:Int),l,n,4*a+1,((m+i:Nat):Int)] st (S.eAdr (S.eL 4))+1)<_/\_;rw [eadr,hu1];exact dat_ok d1)
   have okm2:∀ st,S.okE I lk [f,(m:Int),l,n,4*a+1,((m+i:Nat):Int)] st (S.eM (S.eAdr (S.eL 4)) 2):=fun st=>ok_m (ok_b (by decide) (ok_l 4) (ok_c 2)) (by show S.u32m (S.evE I lk [f,(m:Int),l,n,4*a+1,((m+i:Nat):Int)] st (S.eAdr (S.eL 4))+2)<_/\_;rw [eadr,hu2];exact dat_ok d2)
   have evm1:∀ st,S.evE I lk [f,(m:Int),l,n,4*a+1,((m+i:Nat):Int)] st (S.eM (S.eAdr (S.eL 4)) 1)=st.mem (a+1):=fun st=>by rw [ev_m,eadr,hu1]
   have evm2:∀ st,S.evE I lk [f,(m:Int),l,n,4*a+1,((m+i:Nat):Int)] st (S.eM (S.eAdr (S.eL 4)) 2)=st.mem (a+2):=fun st=>by rw [ev_m,eadr,hu2]
   have hp:S.u32m (S.evE I lk [f,(m:Int),l,n,4*a+1,((m+i:Nat):Int)] st' (S.eAdd (S.eL 5) (S.eC 17))+0)=17+m+i:=by
    show S.u32m (S.alu 1 ((m+i:Nat):Int) (17%4294967296)+0)=_
    rw [alu1]
    unfold S.u32m
    omega
   refine ws_put rfl (ok_b (by decide) (ok_l 5) (ok_c 17)) rfl (okm1 _) hp (hlow (17+m+i) (by omega) (by omega)).2 ?_
   rw [evm1,hL.mem (a+1) (by omega),ha5]
   refine ws_as rfl (okm2 _) (ws_nil (ws_nil ?_))
   have em:(st'.sto (17+(m:Int)+i) L[i]).mem (a+2)=s0.mem (a+2):=by
    have:(st'.sto (17+(m:Int)+i) L[i]).mem (a+2)=if a+2=17+(m:Int)+i then L[i] else st'.mem (a+2):=rfl
    rw [this,if_neg (by omega),hL.mem _ (by omega)]
   rw [evm2,em]
   have t1:S.coE (S.eAdd (S.eL 5) (S.eC 17))=4:=rfl
   have t2:S.coE (S.eM (S.eAdr (S.eL 4)) 1)=5:=rfl
   have t3:S.coE (S.eM (S.eAdr (S.eL 4)) 2)=5:=rfl
   refine nxt _ (s0.mem (a+2)) _ ⟨hL.reg,hL.inp,hL.out,fun b hb=>?_,fun q x hq hx=>?_,ha6⟩ ?_
   rotate_left 2
   ·rw [t1,t2,t3];rw [q1] at hc2;omega
   ·have:(st'.sto (17+(m:Int)+i) L[i]).mem b=if b=17+(m:Int)+i then L[i] else st'.mem b:=rfl
    rw [this,if_neg (by omega)]
    exact hL.mem b (by omega)
   ·have:(st'.sto (17+(m:Int)+i) L[i]).mem (17+m+q)=if 17+(m:Int)+q=17+(m:Int)+i then L[i] else st'.mem (17+m+q):=rfl
    rw [this]
    by_cases c:q=i
    ·subst c
     rw [if_pos rfl]
     rw [List.getElem?_eq_getElem hn] at hx
     exact Option.some.inj hx
    ·rw [if_neg (by omega)]
     exact hL.it q x (by omega) hx
  ·rw [List.drop_of_length_le (by omega)] at hl'
   have hve:v=38:=hl'
   subst hve
   refine ws_nopair hI (x:=38) rfl (by decide) (by decide) (by decide) fun c2 hc2=>ws_nil ?_
   refine nxt st' 38 c2 ⟨hL.reg,hL.inp,hL.out,fun b hb=>hL.mem b (by omega),fun q x hq hx=>?_,by rw [List.drop_of_length_le (by omega)];rfl⟩ (by rw [q1] at hc2;omega)
   have:=(List.getElem?_eq_some_iff.1 hx).1
   exact hL.it q x (by omega) hx
theorem ws_go {dep lk:Int}{behind:Bool}{e:S.BE}{r:List S.BS}{env:List Int}{st:S.Vw}{c:Nat}{Q:List Int->S.Vw->Nat->Prop}{R:S.BO->Nat->Prop}(hp:S.pureE e=true)(hok:S.okE I lk env st e)(h:R (.left (S.evE I lk env st e) st) (c+S.coE e+2)):S.wpSs I dep lk behind (S.sGo e::r) env st c Q R:=by
 rw [wpSs_c,wpS_go]
 exact wpE_pure hp hok h
theorem real_apply {iE:Nat}(hE:S.Seg I (S.kRt 102) iE (S.bItems S.rApply)){st:S.Vw}{m:Nat}(hm:m<=5){f e w t lo hi:Int}(h4:st.reg 4=4*f+1)(hf:S.Dat I f/\S.Dat I (f+1))(hf24:24<=f)(hw:st.mem f=w)(ht:st.mem (f+1)=t)(hw0:0<=w/\w<4294967296)(h2:st.reg 2=m)
 {L:List Int} (hlo:24<=lo) (hl:S.LAtE I st.mem lo hi e (st.reg 10) L) (he:0<=e/\e<4294967296/\e%4≠1) (hn:L.length<=1000000) :
 S.Real I (S.kRt 102) false st 21 (fun _ o k=>S.AppR I m L lo hi e w t st o k):=by
 refine real_of hI S.rApply chk_rApply hE (dep:=0) (by decide) st _ fun lk env _ _ hlen hp=>?_
 obtain ⟨e0,e1,e2,e3,e4,e5,rfl⟩:=env6 hlen
 have qp:S.rApply.params.toNat=0:=rfl
 have qb:S.rApply.behind=false:=rfl
 rw [qp,qb]
 have hsz:=hI.size2
 have hf0:=hf.1.1
 have hf1:=hf.1.2.1
 have hf2:=hf.2.2.1
 have q1:∀ j,S.coE (S.eR j)=1:=fun _=>rfl
 have q2:∀ j,S.coE (S.eC j)=2:=fun _=>rfl
 have q3:∀ j,S.coE (S.eL j)=1:=fun _=>rfl
 have q4:∀ j,S.coE (S.eW j)=3:=fun _=>rfl
 unfold S.rApply
 simp only
 refine ws_as rfl (ok_r 4) (ws_as rfl (ok_r 2) (ws_as rfl (ok_r 10) (ws_as rfl (ok_c 0) (ws_as rfl (ok_l 2) ?_))))
 simp only [ev_r,h4,h2,q1,q2,q3]
 have hset:(((([e0,e1,e2,e3,e4,e5].set (Int.toNat 0) (4*f+1)).set (Int.toNat 1) (m:Int)).set (Int.toNat 2) (st.reg 10)).set (Int.toNat 3) (S.evE I lk ((([e0,e1,e2,e3,e4,e5].set (Int.toNat 0) (4*f+1)).set (Int.toNat 1) (m:Int)).set (Int.toNat 2) (st.reg 10)) st (S.eC 0))).set (Int.toNat 4)
  (S.evE I lk (((([e0,e1,e2,e3,e4,e5].set (Int.toNat 0) (4*f+1)).set (Int.toNat 1) (m:Int)).set (Int.toNat 2) (st.reg 10)).set (Int.toNat 3) (S.evE I lk ((([e0,e1,e2,e3,e4,e5].set (Int.toNat 0) (4*f+1)).set (Int.toNat 1) (m:Int)).set (Int.toNat 2) (st.reg 10)) st (S.eC 0))) st (S.eL 2))=[4*f+1,(m:Int),st.reg 10,0,st.reg 10,e5]:=rfl
 rw [hset]
 have eref:S.evE I lk [4*f+1,(m:Int),st.reg 10,0,st.reg 10,e5] st (S.eNot (S.isRef (S.eL 0)))=0:=by
  show (if S.evE I lk [4*f+1,(m:Int),st.reg 10,0,st.reg 10,e5] st (S.isRef (S.eL 0))=0%4294967296 then (1:Int) else 0)=0
  rw [ev_isref (a:=S.eL 0) (x:=4*f+1) rfl (by omega) (by omega),if_pos (show (4*f+1)%4=1 from by omega)]
  rfl
 have okref:S.okE I lk [4*f+1,(m:Int),st.reg 10,0,st.reg 10,e5] st (S.eNot (S.isRef (S.eL 0))):=ok_q (ok_q (ok_b (by decide) (ok_l 0) (ok_c 3)) (ok_c 1)) (ok_c 0)
 have t1:S.coE (S.eNot (S.isRef (S.eL 0)))=14:=rfl
 have t2:S.coE (S.eNot (S.eQ (S.headOf (S.eL 0)) (S.eC 11)))=18:=rfl
 refine ws_if rfl okref (fun _=>ws_nil ?_) (fun hq=>absurd eref hq)
 obtain ⟨okh,evh⟩:=ev_head hI (lk:=lk) (env:=[4*f+1,(m:Int),st.reg 10,0,st.reg 10,e5]) (st:=st) (n:=0) rfl hf.1 hw hw0.1 hw0.2
 have ehd:S.evE I lk [4*f+1,(m:Int),st.reg 10,0,st.reg 10,e5] st (S.eNot (S.eQ (S.headOf (S.eL 0)) (S.eC 11)))=if w%32=11 then 0 else 1:=by
  show (if S.evE I lk _ st (S.eQ (S.headOf (S.eL 0)) (S.eC 11))=0%4294967296 then (1:Int) else 0)=_
  rw [ev_q,evh]
  show (if (if w%32=11 then (1:Int) else 0)=0 then (1:Int) else 0)=_
  by_cases c:w%32=11
  ·rw [if_pos c,if_pos c];rfl
  ·rw [if_neg c,if_neg c];rfl
 refine ws_if rfl (ok_q (ok_q okh (ok_c 11)) (ok_c 0)) (fun hz=>ws_nil ?_) (fun hnz=>?_)
 rotate_left
 ·have hne:w%32≠11:=fun q=>by rw [ehd,if_pos q] at hnz;exact hnz rfl
  refine ws_hlt rfl (ok_c 6) ⟨?_,by rw [if_neg hne];rfl⟩
  rw [t1,t2,q2]
  omega
 have hw11:w%32=11:=Classical.byContradiction fun q=>by
  rw [ehd,if_neg q] at hz
  cases hz
 refine ws_as rfl (ok_c 1) ?_
 have hset2:[4*f+1,(m:Int),st.reg 10,0,st.reg 10,e5].set (Int.toNat 5) (S.evE I lk [4*f+1,(m:Int),st.reg 10,0,st.reg 10,e5] st (S.eC 1))=[4*f+1,(m:Int),st.reg 10,0,st.reg 10,1]:=rfl
 rw [hset2]
 refine ws_count hI hl he hn fun c2 hc2=>?_
 rw [t1,t2,q2] at hc2
 have enil:S.evE I lk [4*f+1,(m:Int),st.reg 10,L.length,e,0] st (S.eNot (S.eQ (S.eL 4) (S.eC 38)))=if e=38 then 0 else 1:=by
  show (if (if e=38 then (1:Int) else 0)=0 then (1:Int) else 0)=_
  by_cases c:e=38
  ·rw [if_pos c,if_pos c];rfl
  ·rw [if_neg c,if_neg c];rfl
 have t3:S.coE (S.eNot (S.eQ (S.eL 4) (S.eC 38)))=11:=rfl
 refine ws_if rfl (ok_q (ok_q (ok_l 4) (ok_c 38)) (ok_c 0)) (fun hz=>ws_nil ?_) (fun hnz=>?_)
 rotate_left
 ·have hne:e≠38:=fun q=>by rw [enil,if_pos q] at hnz;exact hnz rfl
  refine ws_hlt rfl (ok_c 2) ⟨?_,by rw [if_pos hw11,if_neg hne];rfl⟩
  rw [t3,q2]
  omega
 have he38:e=38:=Classical.byContradiction fun q=>by
  rw [enil,if_neg q] at hz
  cases hz
 subst he38
 have dd:∀ j:Int,0<=j->j<1056->j<I.size/\¬ I.stk j/\¬ I.code j:=fun j h0 h1=>(hlow j h0 h1).2
 refine ws_put (a:=S.eC 17) (p:=17) rfl (ok_c 17) rfl (ok_r 5) rfl (dd 17 (by decide) (by decide)) ?_
 refine ws_put (a:=S.eC 18) (p:=18) rfl (ok_c 18) rfl (ok_r 6) rfl (dd 18 (by decide) (by decide)) ?_
 refine ws_put (a:=S.eC 19) (p:=19) rfl (ok_c 19) rfl (ok_r 7) rfl (dd 19 (by decide) (by decide)) ?_
 refine ws_put (a:=S.eC 20) (p:=20) rfl (ok_c 20) rfl (ok_r 8) rfl (dd 20 (by decide) (by decide)) ?_
 refine ws_put (a:=S.eC 21) (p:=21) rfl (ok_c 21) rfl (ok_r 9) rfl (dd 21 (by decide) (by decide)) ?_
 have sr:∀ (st:S.Vw) (a v j:Int),(st.sto a v).reg j=st.reg j:=fun _ _ _ _=>rfl
 simp only [ev_r,sr,q1,q2]
 obtain ⟨s1,hs1⟩:∃ s1,s1=((((st.sto 17 (st.reg 5)).sto 18 (st.reg 6)).sto 19 (st.reg 7)).sto 20 (st.reg 8)).sto 21 (st.reg 9):=⟨_,rfl⟩
 rw [<- hs1]
 have hm1:∀ a,s1.mem a=if a=21 then st.reg 9 else if a=20 then st.reg 8 else if a=19 then st.reg 7 else if a=18 then st.reg 6 else if a=17 then st.reg 5 else st.mem a:=fun a=>by rw [hs1];rfl
 have hr1:s1.reg=st.reg:=by rw [hs1];rfl
 have hi1:s1.inp=st.inp:=by rw [hs1];rfl
 have ho1:s1.out=st.out:=by rw [hs1];rfl
 have hm1':∀ a,¬ (17<=a/\a<22)->s1.mem a=st.mem a:=fun a ha=>by rw [hm1,if_neg (by omega),if_neg (by omega),if_neg (by omega),if_neg (by omega),if_neg (by omega)]
 refine ws_as rfl (ok_l 2) (ws_as rfl (ok_l 1) ?_)
 have hset3:([4*f+1,(m:Int),st.reg 10,L.length,38,0].set (Int.toNat 4) (S.evE I lk [4*f+1,(m:Int),st.reg 10,L.length,38,0] s1 (S.eL 2))).set (Int.toNat 5) (S.evE I lk ([4*f+1,(m:Int),st.reg 10,L.length,38,0].set (Int.toNat 4) (S.evE I lk [4*f+1,(m:Int),st.reg 10,L.length,38,0] s1 (S.eL 2))) s1 (S.eL 1))=[4*f+1,(m:Int),st.reg 10,(L.length:Int),st.reg 10,(m:Int)]:=rfl
 rw [hset3]
 refine ws_lay hI hlow (by omega) (s0:=s1) hlo (late_mono (Int.le_refl _) (Int.le_refl _) (fun a h1 h2=>hm1' a (by omega)) hl) fun s2 v' c3 hL hc3=>?_
 simp only [q3] at hc3
 rw [t3] at hc3
 have evl:∀ (env:List Int) (st:S.Vw) (n:Int),S.evE I lk env st (S.eL n)=env.getD n.toNat 0:=fun _ _ _=>rfl
 refine ws_set rfl (ok_l 0) ?_
 refine ws_set rfl (ok_b (by decide) (ok_l 1) (ok_l 3)) ?_
 refine ws_set rfl (ok_l 4) ?_
 have eadd:∀ s:S.Vw,S.evE I lk [4*f+1,(m:Int),st.reg 10,(L.length:Int),v',6] s (S.eAdd (S.eL 1) (S.eL 3))=m+L.length:=fun s=>by
  show S.alu 1 (m:Int) (L.length:Int)=_
  rw [alu1]
  unfold S.u32m
  omega
 rw [eadd]
 have el0:∀ s:S.Vw,S.evE I lk [4*f+1,(m:Int),st.reg 10,(L.length:Int),v',6] s (S.eL 0)=4*f+1:=fun _=>rfl
 have el4:∀ s:S.Vw,S.evE I lk [4*f+1,(m:Int),st.reg 10,(L.length:Int),v',6] s (S.eL 4)=v':=fun _=>rfl
 rw [el0,el4]
 obtain ⟨s3,hs3⟩:∃ s3,s3=((s2.set 1 (4*f+1)).set 2 (m+L.length)).set 10 v':=⟨_,rfl⟩
 rw [<- hs3]
 have wW:∀ (s:S.Vw) (n:Int),0<=n->n<1056->S.okE I lk [4*f+1,(m:Int),st.reg 10,(L.length:Int),v',6] s (S.eW n)/\S.evE I lk [4*f+1,(m:Int),st.reg 10,(L.length:Int),v',6] s (S.eW n)=s.mem n:=fun s n h0 h1=>by
  have hu:S.u32m (n%4294967296+0)=n:=by unfold S.u32m;omega
  refine ⟨ok_m (ok_c n) ?_,?_⟩
  ·rw [ev_c,hu];exact dat_ok (hlow n h0 h1)
  ·show s.mem (S.u32m (n%4294967296+0))=_
   rw [hu]
 refine ws_set rfl (wW _ 17 (by decide) (by decide)).1 ?_
 rw [(wW _ 17 (by decide) (by decide)).2]
 refine ws_set rfl (wW _ 18 (by decide) (by decide)).1 ?_
 rw [(wW _ 18 (by decide) (by decide)).2]
 refine ws_set rfl (wW _ 19 (by decide) (by decide)).1 ?_
 rw [(wW _ 19 (by decide) (by decide)).2]
 refine ws_set rfl (wW _ 20 (by decide) (by decide)).1 ?_
 rw [(wW _ 20 (by decide) (by decide)).2]
 refine ws_set rfl (wW _ 21 (by decide) (by decide)).1 ?_
 rw [(wW _ 21 (by decide) (by decide)).2]
 refine ws_set rfl (wW _ 22 (by decide) (by decide)).1 ?_
 rw [(wW _ 22 (by decide) (by decide)).2]
 have sm:∀ (st:S.Vw) (j v:Int),(st.set j v).mem=st.mem:=fun _ _ _=>rfl
 simp only [sm]
 obtain ⟨s4,hs4⟩:∃ s4,s4=(((((s3.set 4 (s3.mem 17)).set 5 (s3.mem 18)).set 6 (s3.mem 19)).set 7 (s3.mem 20)).set 8 (s3.mem 21)).set 9 (s3.mem 22):=⟨_,rfl⟩
 rw [<- hs4]
 have hm3:s3.mem=s2.mem:=by rw [hs3];rfl
 have hm4:s4.mem=s2.mem:=by rw [hs4];exact hm3
 have hrg:∀ j,s4.reg j=if j=9 then s2.mem 22 else if j=8 then s2.mem 21 else if j=7 then s2.mem 20 else if j=6 then s2.mem 19 else if j=5 then s2.mem 18 else if j=4 then s2.mem 17 else if j=10 then v' else if j=2 then m+L.length else if j=1 then 4*f+1 else s2.reg j:=fun j=>by rw [hs4,hm3,hs3];rfl
 have hg1:s4.reg 1=4*f+1:=by rw [hrg];rfl
 have eadr:S.evE I lk [4*f+1,(m:Int),st.reg 10,(L.length:Int),v',6] s4 (S.eAdr (S.eR 1))=f:=by
  show S.alu 11 (s4.reg 1) (2%4294967296)=_
  rw [hg1,shr2]
  omega
 have hu1:S.u32m (f+1)=f+1:=by unfold S.u32m;omega
 refine ws_go hI hlow rfl (ok_b (by decide) (ok_m (ok_b (by decide) (ok_r 1) (ok_c 2)) (by show S.u32m (S.evE I lk [4*f+1,(m:Int),st.reg 10,(L.length:Int),v',6] s4 (S.eAdr (S.eR 1))+1)<_/\_;rw [eadr,hu1];exact dat_ok hf.2)) (ok_c 2)) ?_
 have ego:S.evE I lk [4*f+1,(m:Int),st.reg 10,(L.length:Int),v',6] s4 (S.eShr (S.eM (S.eAdr (S.eR 1)) 1) 2)=t/4:=by
  show S.alu 11 (s4.mem (S.u32m (S.evE I lk [4*f+1,(m:Int),st.reg 10,(L.length:Int),v',6] s4 (S.eAdr (S.eR 1))+1))) (2%4294967296)=_
  rw [eadr,hu1,shr2,hm4,hL.mem (f+1) (by omega),hm1' (f+1) (by omega),ht]
 rw [ego]
 have hregs:∀ i:Nat,i<6->s4.reg (4+i)=s2.mem (17+i):=fun i hi=>by
  have:i=0\/i=1\/i=2\/i=3\/i=4\/i=5:=by omega
  rw [hrg]
  rcases this with rfl | rfl | rfl | rfl | rfl | rfl <;> rfl
 refine ⟨?_,?_⟩
 ·have t4:S.coE (S.eAdd (S.eL 1) (S.eL 3))=3:=rfl
  have t5:S.coE (S.eShr (S.eM (S.eAdr (S.eR 1)) 1) 2)=8:=rfl
  rw [t4,t5]
  simp only [q3,q4]
  omega
 ·rw [if_pos hw11,if_pos rfl]
  refine ⟨s4,rfl,⟨by rw [hg1,h4],by rw [hrg];rfl,fun i him hi=>?_,fun q x hq hx=>?_,?_,fun a ha=>?_,?_,?_⟩⟩
  ·rw [hregs i hi,hL.mem _ (by omega),hm1]
   have:i=0\/i=1\/i=2\/i=3\/i=4:=by omega
   rcases this with rfl | rfl | rfl | rfl | rfl <;> rfl
  ·rw [hregs (m+q) hq]
   have:=hL.it q x (by omega) hx
   rw [show (17:Int)+((m+q:Nat):Int)=17+m+q from by omega]
   exact this
  ·have h10:s4.reg 10=v':=by rw [hrg];rfl
   rw [h10,hm4]
   refine late_mono (Int.le_refl _) (Int.le_refl _) (fun a h1 h2=>?_) hL.lst
   exact hL.mem a (by omega)
  ·rw [hm4,hL.mem a (by omega),hm1' a (by omega)]
  ·rw [hs4,hs3];exact hL.inp.trans hi1
  ·rw [hs4,hs3];exact hL.out.trans ho1
end
end
section
open Go.RowKit
section
variable {I:S.Img}(hI:I.Ok){i:Nat}(h0:I.i0<=i)(h1:i<I.i1)
include hI h0 h1
end
section
variable {gw sw:List Int}{F:List Int}{size:Int}(hI:∀ b,(S.wImg b gw sw F size).Ok)
include hI
theorem on_set0 {m:S.Mach}{name:ByteArray}(h:S.Set_ gw sw F size m name):S.On (S.wImg false gw sw F size) m (S.viewOf m) ((S.wImg false gw sw F size).lab name) :=
 ⟨h.ok,h.run,h.len,fun i h0 h1=>h.code i (Nat.le_trans (show (S.wImg true gw sw F size).i0<=(S.wImg false gw sw F size).i0 from by show 2+gw.length+sw.length<=gw.length+sw.length+8;omega) h0) h1,h.place,fun _ _ _ _=>rfl,fun _ _ _=>rfl,rfl,rfl⟩
theorem run_fell {m:S.Mach}{name:ByteArray}(hm:S.Set_ gw sw F size m name){d:Int}{R R0:Int->S.BO->Nat->Prop}(hd:d<=256)(hr:S.Real (S.wImg true gw sw F size) name false (S.viewOf m) d R)(hr0:S.Real (S.wImg false gw sw F size) name false (S.viewOf m) d R0){N:Nat}{c:Int}
 (hR:∀ ret o k,R ret o k->∃ st',o=.halt c st'/\k<=N) (hR0:∀ ret o k,R0 ret o k->∃ c st',o=.halt c st'/\k<=N) :
 (m.steps_ N).state=1/\(m.steps_ N).code=c/\(m.steps_ N).place≠(S.wImg true gw sw F size).lab S.kStub:=by
 obtain ⟨s0,s1⟩:=stub_range hI
 obtain ⟨o,k,hRo,hdone⟩:=hr (S.viewOf m) 1056 ((S.wImg true gw sw F size).lab S.kStub) (S.Mt.refl_ _) hm.r28 hm.r31 s0 s1 (Int.le_refl _) (by show 1056+d<=1312;omega)
 obtain ⟨o0,k0,hRo0,hdone0⟩:=hr0 (S.viewOf m) 1056 ((S.wImg true gw sw F size).lab S.kStub) (S.Mt.refl_ _) hm.r28 hm.r31 s0 s1 (Int.le_refl _) (by show 1056+d<=1312;omega)
 obtain ⟨st',rfl,hk⟩:=hR _ _ _ hRo
 obtain ⟨c0,st0,rfl,hk0⟩:=hR0 _ _ _ hRo0
 obtain ⟨V',g,hmt⟩:=hdone
 obtain ⟨V0,g0,hmt0⟩:=hdone0
 have off:=off_end g hk (on_set hI hm)
 have off0:=off_end g0 hk0 (on_set0 hI hm)
 refine ⟨off.end_,off.codeIs,fun e=>?_⟩
 have hp:=off0.place.1
 have h8:=(labs_head (hI false)).2.2.2.2.2.2
 have hl:=(labs_head (hI true)).2.2.1
 have hi0:(S.wImg false gw sw F size).i0=2+gw.length+sw.length+6:=by show gw.length+sw.length+8=_;omega
 rw [hi0,h8] at hp
 omega
end
end
section
open Go.RowKit
section
variable {gw sw F:List Int}{size:Int}
theorem call_fell (hI:∀ b,(S.wImg b gw sw F size).Ok){m:S.Mach}(h:S.Wd gw sw F size m){name:ByteArray}(hn:name∈S.wTells){d:Int}{R R0:Int->S.BO->Nat->Prop}(hd:d<=256)
 (hr:S.Real (S.wImg true gw sw F size) name false (S.viewOf (m.setV 31 ((S.wImg true gw sw F size).lab S.kStub))) d R) (hr0:S.Real (S.wImg false gw sw F size) name false (S.viewOf (m.setV 31 ((S.wImg true gw sw F size).lab S.kStub))) d R0) {N:Nat} {c:Int}
 (hR:∀ ret o k,R ret o k->∃ st',o=.halt c st'/\k<=N) (hR0:∀ ret o k,R0 ret o k->∃ c st',o=.halt c st'/\k<=N) :
 (S.callM (S.wImg true gw sw F size) m name N).state=1/\(S.callM (S.wImg true gw sw F size) m name N).code=c/\(S.callM (S.wImg true gw sw F size) m name N).place≠(S.wImg true gw sw F size).lab S.kStub:=by
 obtain ⟨_,n1,n2⟩:=w_label (hI true) hn
 obtain ⟨_,s1,s2⟩:=w_label (hI true) has_stub
 have hset:=wd_call (hI true) h (name:=name) ⟨n1,by omega⟩ ⟨s1,by omega⟩
 have e:S.viewOf ((m.setV 31 ((S.wImg true gw sw F size).lab S.kStub)).goV ((S.wImg true gw sw F size).lab name))=S.viewOf (m.setV 31 ((S.wImg true gw sw F size).lab S.kStub)):=by
  have h0:(m.setV 31 ((S.wImg true gw sw F size).lab S.kStub)).state=0:=by
   rw [setV_eq (by decide) (by decide)]
   exact h.run
  unfold S.Mach.goV
  rw [if_neg (by rw [h0];decide)]
  rfl
 exact run_fell hI hset hd (by rw [e];exact hr) (by rw [e];exact hr0) hR hR0
theorem seg_apply (b:Bool):∃ i,S.Seg (S.wImg b gw sw F size) (S.kRt 102) i (S.bItems S.rApply):=seg_r (j:=10) (r:=S.rApply) rfl
section
variable {g:S.Gr}{a:Int}{was at_:List Int}{mem:Int->Int}{half fr to_ r26:Int}{il:List Nat}{nu:Nat->Int}{n0:Int}{l:List Nat}{cnt n:Nat}
end
end
section
variable {gw sw F:List Int}{size:Int}{g:S.Gr}{a:Int}{was at_:List Int}{half fr to_ r26:Int}{il:List Nat}{nu:Nat->Int}{n0:Int}{l:List Nat}{cnt n:Nat}
end
end
section
open Go.RowKit
section
variable {gw sw F:List Int}{size:Int}(hI:∀ b,(S.wImg b gw sw F size).Ok)
include hI
theorem w_low (b:Bool):∀ a,0<=a->a<1056->S.Dat (S.wImg b gw sw F size) a:=fun a h0 h1=>by
 have he:=end_bd (hI true)
 exact w_dat b hI h0 (by omega) (.inl h1) (.inl (by omega))
theorem has_apply:S.kRt 102∈S.wTells:=w_has (by kernel_rfl)
variable {M:S.Mach}(hw:S.Wd gw sw F size M){m:Nat}(hm:m<=5){f e w t lo hi:Int}(h4:M.rd 4=4*f+1)(hf:(S.wImg true gw sw F size).lab S.kEnd<=f/\f+1<size)(hwv:M.mv f=w)(ht:M.mv (f+1)=t)(hw0:0<=w/\w<4294967296)(h2:M.rd 2=m){L:List Int}(hlo:24<=lo)(hl:∀ b,S.LAtE (S.wImg b gw sw F size) M.mv lo hi e (M.rd 10) L)(he:0<=e/\e<4294967296/\e%4≠1)(hn:L.length<=1000000)
include hw hm h4 hf hwv ht hw0 h2 hlo hl he hn
theorem apply_real (b:Bool)(v:Int):S.Real (S.wImg b gw sw F size) (S.kRt 102) false (S.viewOf (M.setV 31 v)) 21 (fun _ o k=>S.AppR (S.wImg b gw sw F size) m L lo hi e w t (S.viewOf (M.setV 31 v)) o k):=by
 obtain ⟨iE,sE⟩:=seg_apply (gw:=gw) (sw:=sw) (F:=F) (size:=size) b
 have hed:=end_bd (hI true)
 have hv:∀ j,j≠31->(S.viewOf (M.setV 31 v)).reg j=M.rd j:=fun j hj=>view_reg hw.ok v hj
 have hmm:(S.viewOf (M.setV 31 v)).mem=M.mv:=view_mem M v
 refine real_apply (hI b) (w_low hI b) sE hm (f:=f) (by rw [hv 4 (by decide)];exact h4) ⟨w_dat b hI (by omega) (by omega) (by omega) (.inr hf.1),w_dat b hI (by omega) (by omega) (by omega) (.inr (by omega))⟩ (by omega) (by rw [hmm];exact hwv) (by rw [hmm];exact ht) hw0 (by rw [hv 2 (by decide)];exact h2) hlo ?_ he hn
 rw [hmm,hv 10 (by decide)]
 exact hl b
theorem apply_back (hw11:w%32=11)(he38:e=38)(htt:t/4=(S.wImg true gw sw F size).lab S.kStub){N:Nat}(hN:1501+100*L.length<=N) :
 ∃ st',S.AppP (S.wImg true gw sw F size) m L lo hi (S.viewOf (M.setV 31 ((S.wImg true gw sw F size).lab S.kStub))) st'/\S.Sees (S.wImg true gw sw F size) (S.callM (S.wImg true gw sw F size) M (S.kRt 102) N) st'/\(S.callM (S.wImg true gw sw F size) M (S.kRt 102) N).state=1/\(S.callM (S.wImg true gw sw F size) M (S.kRt 102) N).place=(S.wImg true gw sw F size).lab S.kStub:=by
 have hr:=apply_real hI hw hm h4 hf hwv ht hw0 h2 hlo hl he hn true ((S.wImg true gw sw F size).lab S.kStub)
 obtain ⟨st',hP,hs,h1,h3,_⟩:=call_back hI hw (has_apply hI) (d:=21) (by decide) hr (N:=N) (P:=fun st'=>S.AppP (S.wImg true gw sw F size) m L lo hi (S.viewOf (M.setV 31 ((S.wImg true gw sw F size).lab S.kStub))) st') fun ret o k hR=>by
  obtain ⟨hk,hR⟩:=hR
  rw [if_pos hw11,if_pos he38] at hR
  obtain ⟨st',rfl,hP⟩:=hR
  exact ⟨st',.inr (by rw [htt]),by omega,hP⟩
 exact ⟨st',hP,hs,h1,h3⟩
theorem apply_fell {c:Int}(hc:(w%32≠11/\c=6)\/(w%32=11/\e≠38/\c=2)){N:Nat}(hN:1501+100*L.length<=N) :
 (S.callM (S.wImg true gw sw F size) M (S.kRt 102) N).state=1/\(S.callM (S.wImg true gw sw F size) M (S.kRt 102) N).code=c/\(S.callM (S.wImg true gw sw F size) M (S.kRt 102) N).place≠(S.wImg true gw sw F size).lab S.kStub:=by
 have hr:=fun b=>apply_real hI hw hm h4 hf hwv ht hw0 h2 hlo hl he hn b ((S.wImg true gw sw F size).lab S.kStub)
 have key:∀ (b:Bool) (o:S.BO) (k:Nat),S.AppR (S.wImg b gw sw F size) m L lo hi e w t (S.viewOf (M.setV 31 ((S.wImg true gw sw F size).lab S.kStub))) o k->∃ st',o=.halt c st'/\k<=N:=fun b o k hR=>by
  obtain ⟨hk,hR⟩:=hR
  rcases hc with ⟨c1,rfl⟩ | ⟨c1,c2,rfl⟩
  ·rw [if_neg c1] at hR
   exact ⟨_,hR,by omega⟩
  ·rw [if_pos c1,if_neg c2] at hR
   exact ⟨_,hR,by omega⟩
 exact call_fell hI hw (has_apply hI) (d:=21) (by decide) (hr true) (hr false) (fun ret o k hR=>key true o k hR) fun ret o k hR=>by
  obtain ⟨st',h1,h2⟩:=key false o k hR
  exact ⟨c,st',h1,h2⟩
end
end
section
open Go.RowKit
def S.apArgs (m:S.Mach):Nat->S.Mach
 | 0=>m
 | j+1=>(S.apArgs m j).setV (5+j) (4*(10+j))
def S.apL (H typ stub:Int)(m0:S.Mach)(n:Nat):S.Mach:=S.listM (((m0.putV H (35+4*typ)).putV (H+1) (4*stub)).setV 26 (H+2)) (H+2) n n
def S.apE (e H typ stub:Int)(m0:S.Mach)(n:Nat):S.Mach:=if e=20 then (S.apL H typ stub m0 n).putV (H+2+2) 20 else S.apL H typ stub m0 n
def S.apM (e H typ stub:Int)(m0:S.Mach)(m n:Nat):S.Mach:=(((S.apArgs ((S.apE e H typ stub m0 n).setV 4 (4*H+1)) m).setV 10 (S.endL (H+2) n)).setV 2 m)
structure S.ApF (F:List Int)(size H typ stub e:Int)(m n:Nat)(M:S.Mach):Prop where
 wd:S.Wd [] [] F size M
 r4:M.rd 4=4*H+1
 r2:M.rd 2=m
 r10:M.rd 10=S.endL (H+2) n
 ra:∀ i:Nat,i<m->M.rd (5+i)=4*(10+i)
 w:M.mv H=35+4*typ
 t:M.mv (H+1)=4*stub
 l:∀ i:Nat,i<n->M.mv (H+2+3*i)=67/\M.mv (H+2+3*i+1)=4*(100+((n:Int)-1-i))/\M.mv (H+2+3*i+2)=if i=0 then e else S.endL (H+2) i
theorem apArgs_ok {F:List Int}{size:Int}(hI:(S.wImg true [] [] F size).Ok){M:S.Mach}(h:S.Wd [] [] F size M):∀ m:Nat,m<=5->S.Wd [] [] F size (S.apArgs M m)/\(∀ x,(S.apArgs M m).mv x=M.mv x)/\(∀ i:Nat,i<m->(S.apArgs M m).rd (5+i)=4*(10+i))/\(∀ r:Int,¬ (5<=r/\r<5+m)->(S.apArgs M m).rd r=M.rd r)
 | 0,_=>⟨h,fun _=>rfl,fun i hi=>by omega,fun _ _=>rfl⟩
 | m+1,hm=>by
  obtain ⟨h1,h2,h3,h4⟩:=apArgs_ok hI h m (by omega)
  have e:S.apArgs M (m+1)=(S.apArgs M m).setV (5+m) (4*(10+m)):=rfl
  rw [e]
  refine ⟨wd_set hI h1 ⟨by omega,by omega⟩ (fun q=>by omega) ⟨by omega,by omega⟩,fun x=>?_,fun i hi=>?_,fun r hr=>?_⟩
  ·rw [setV_mv (by omega) (by omega)];exact h2 x
  ·rw [setV_rd h1.ok (by omega) (by omega)]
   by_cases c:i=m
   ·subst c;rw [if_pos rfl]
   ·rw [if_neg (by omega)];exact h3 i (by omega)
  ·rw [setV_rd h1.ok (by omega) (by omega),if_neg (by omega)]
   exact h4 r (by omega)
theorem ap_of {F:List Int}{H:Int}(hI:(S.wImg true [] [] F (H+1000)).Ok)(hH:H=(S.wImg true [] [] F (H+1000)).lab S.kEnd){m0:S.Mach}(h:S.Wd [] [] F (H+1000) m0)(hsm:1312<=H/\H<=100000){typ stub e:Int}(ht:0<=typ/\typ<=7)(hs:0<=stub/\stub<=67108864){m n:Nat}(hm:m<=5)(hn:n<=30)(he:e=38\/e=20/\n≠0):S.ApF F (H+1000) H typ stub e m n (S.apM e H typ stub m0 m n):=by
 have nc:∀ x,H<=x->¬ (S.wImg true [] [] F (H+1000)).code x:=fun x hx hc=>by
  have:=(code_iff hI).1 hc
  omega
 have w1:=wd_put hI h (i:=H) (v:=35+4*typ) ⟨by omega,by omega⟩ (nc _ (by omega)) (by omega)
 have w2:=wd_put hI w1 (i:=H+1) (v:=4*stub) ⟨by omega,by omega⟩ (nc _ (by omega)) (by omega)
 have w3:=wd_set hI w2 (i:=26) (v:=H+2) (by decide) (fun h=>absurd h (by decide)) (by omega)
 obtain ⟨m1,hm1⟩:∃ m1,m1=((m0.putV H (35+4*typ)).putV (H+1) (4*stub)).setV 26 (H+2):=⟨_,rfl⟩
 have hl0:=h.len
 have hl1:=w1.len
 have e1:m1.mv H=35+4*typ/\m1.mv (H+1)=4*stub:=by
  rw [hm1]
  refine ⟨?_,?_⟩
  ·rw [setV_mv (by decide) (by decide),putV_mv (by omega) (by omega) (by omega),if_neg (by omega),putV_mv (by omega) (by omega) (by omega),if_pos rfl]
  ·rw [setV_mv (by decide) (by decide),putV_mv (by omega) (by omega) (by omega),if_pos rfl]
 rw [<- hm1] at w3
 have L:=lst_of hI w3 (p:=H+2) (N:=n) (by omega) ⟨by omega,by omega⟩ (by omega) (by omega) n (by omega)
 obtain ⟨m2,hm2⟩:∃ m2,m2=S.listM m1 (H+2) n n:=⟨_,rfl⟩
 rw [<- hm2] at L
 have hL:S.apL H typ stub m0 n=m2:=by rw [hm2,hm1];rfl
 obtain ⟨m3,hm3⟩:∃ m3,m3=S.apE e H typ stub m0 n:=⟨_,rfl⟩
 have key:S.Wd [] [] F (H+1000) m3/\m3.mv H=35+4*typ/\m3.mv (H+1)=4*stub/\∀ i:Nat,i<n->m3.mv (H+2+3*i)=67/\m3.mv (H+2+3*i+1)=4*(100+((n:Int)-1-i))/\m3.mv (H+2+3*i+2)=if i=0 then e else S.endL (H+2) i:=by
  have lw:=L.wd.len
  rcases he with rfl | ⟨rfl,hn0⟩
  ·have q:m3=m2:=by rw [hm3,<- hL];rfl
   rw [q]
   refine ⟨L.wd,?_,?_,fun i hi=>?_⟩
   ·rw [L.out _ (by omega) (by omega)];exact e1.1
   ·rw [L.out _ (by omega) (by omega)];exact e1.2
   ·obtain ⟨q1,q2,q3⟩:=L.hd i hi
    refine ⟨q1,q2,?_⟩
    rw [q3]
    cases i with
    | zero=>rfl
    | succ i=>rw [if_neg (by omega)]
  ·have q:m3=m2.putV (H+2+2) 20:=by rw [hm3,<- hL];rfl
   rw [q]
   refine ⟨wd_put hI L.wd ⟨by omega,by omega⟩ (nc _ (by omega)) (by decide),?_,?_,fun i hi=>?_⟩
   ·rw [putV_mv (by omega) (by omega) (by omega),if_neg (by omega),L.out _ (by omega) (by omega)];exact e1.1
   ·rw [putV_mv (by omega) (by omega) (by omega),if_neg (by omega),L.out _ (by omega) (by omega)];exact e1.2
   ·obtain ⟨q1,q2,q3⟩:=L.hd i hi
    refine ⟨?_,?_,?_⟩
    ·rw [putV_mv (by omega) (by omega) (by omega),if_neg (by omega)];exact q1
    ·rw [putV_mv (by omega) (by omega) (by omega),if_neg (by omega)];exact q2
    ·rw [putV_mv (by omega) (by omega) (by omega)]
     cases i with
     | zero=>rw [if_pos (by omega),if_pos rfl]
     | succ i=>rw [if_neg (by omega),if_neg (by omega)];exact q3
 obtain ⟨k1,k2,k3,k4⟩:=key
 have v4:=wd_set hI k1 (i:=4) (v:=4*H+1) (by decide) (fun h=>absurd h (by decide)) (by omega)
 obtain ⟨a1,a2,a3,a4⟩:=apArgs_ok hI v4 m hm
 have heb:=endL_bdG (p:=H+2) (by omega) (j:=n) (by omega)
 have v5:=wd_set hI a1 (i:=10) (v:=S.endL (H+2) n) (by decide) (fun h=>absurd h (by decide)) heb
 have v6:=wd_set hI v5 (i:=2) (v:=m) (by decide) (fun h=>absurd h (by decide)) (by omega)
 have hM:S.apM e H typ stub m0 m n=((S.apArgs (m3.setV 4 (4*H+1)) m).setV 10 (S.endL (H+2) n)).setV 2 m:=by rw [hm3];rfl
 rw [hM]
 have mve:∀ x,(((S.apArgs (m3.setV 4 (4*H+1)) m).setV 10 (S.endL (H+2) n)).setV 2 m).mv x=m3.mv x:=fun x=>by
  rw [setV_mv (by decide) (by decide),setV_mv (by decide) (by decide),a2,setV_mv (by decide) (by decide)]
 refine ⟨v6,?_,?_,?_,fun i hi=>?_,?_,?_,fun i hi=>?_⟩
 ·rw [setV_rd v5.ok (by decide) (by decide),if_neg (by decide),setV_rd a1.ok (by decide) (by decide),if_neg (by decide),a4 4 (by omega),setV_rd k1.ok (by decide) (by decide),if_pos rfl]
 ·rw [setV_rd v5.ok (by decide) (by decide),if_pos rfl]
 ·rw [setV_rd v5.ok (by decide) (by decide),if_neg (by decide),setV_rd a1.ok (by decide) (by decide),if_pos rfl]
 ·rw [setV_rd v5.ok (by decide) (by decide),if_neg (by omega),setV_rd a1.ok (by decide) (by decide),if_neg (by omega)]
  exact a3 i hi
 ·rw [mve];exact k2
 ·rw [mve];exact k3
 ·rw [mve,mve,mve];exact k4 i hi
theorem ap_run {F:List Int}{H:Int}(hI:∀ b,(S.wImg b [] [] F (H+1000)).Ok)(hH:H=(S.wImg true [] [] F (H+1000)).lab S.kEnd)(hsm:1312<=H/\H<=100000){typ e:Int}{m n:Nat}{M:S.Mach}(h:S.ApF F (H+1000) H typ ((S.wImg true [] [] F (H+1000)).lab S.kStub) e m n M)(ht:typ=1\/typ=2)(hm:m<=5)(hn:n<=30)(he:e=38\/e=20/\n≠0) :
 (typ=1->(S.callM (S.wImg true [] [] F (H+1000)) M (S.kRt 102) 100000).state=1/\(S.callM (S.wImg true [] [] F (H+1000)) M (S.kRt 102) 100000).place≠(S.wImg true [] [] F (H+1000)).lab S.kStub/\(S.callM (S.wImg true [] [] F (H+1000)) M (S.kRt 102) 100000).code=6) /\
 (typ=2->e=20->(S.callM (S.wImg true [] [] F (H+1000)) M (S.kRt 102) 100000).state=1/\(S.callM (S.wImg true [] [] F (H+1000)) M (S.kRt 102) 100000).place≠(S.wImg true [] [] F (H+1000)).lab S.kStub/\(S.callM (S.wImg true [] [] F (H+1000)) M (S.kRt 102) 100000).code=2) /\
 (typ=2->e=38->(S.callM (S.wImg true [] [] F (H+1000)) M (S.kRt 102) 100000).state=1/\(S.callM (S.wImg true [] [] F (H+1000)) M (S.kRt 102) 100000).place=(S.wImg true [] [] F (H+1000)).lab S.kStub /\
  (S.callM (S.wImg true [] [] F (H+1000)) M (S.kRt 102) 100000).rd 1=4*H+1/\(S.callM (S.wImg true [] [] F (H+1000)) M (S.kRt 102) 100000).rd 2=m+n /\
  (∀ i:Nat,i<m+n->i<6->(S.callM (S.wImg true [] [] F (H+1000)) M (S.kRt 102) 100000).rd (4+i)=if i<m then 4*(10+(i:Int)) else 4*(100+(i:Int)-m)) /\
  S.ListAt (S.callM (S.wImg true [] [] F (H+1000)) M (S.kRt 102) 100000) ((S.callM (S.wImg true [] [] F (H+1000)) M (S.kRt 102) 100000).rd 10) ((S.itemsL n n).drop (6-m))):=by
 have hll:=itemsL_len n n
 have hd:∀ b x,H<=x->x<H+1000->S.Dat (S.wImg b [] [] F (H+1000)) x:=fun b x h0 h1=>w_dat b hI (by omega) (by omega) (.inr (by omega)) (.inr (by omega))
 have hl:∀ b,S.LAtE (S.wImg b [] [] F (H+1000)) M.mv (H+2) (H+2+3*n) e (M.rd 10) (S.itemsL n n):=fun b=>by
  rw [h.r10]
  by_cases c:n=0
  ·subst c
   rcases he with rfl | ⟨_,hc⟩
   ·rfl
   ·exact absurd rfl hc
  ·exact lst_late (p:=H+2) (N:=n) (fun x h0 h1=>hd b x (by omega) (by omega)) (by omega) n (by omega) h.l c
 have fell:=fun (c:Int) hc=>apply_fell hI h.wd hm (f:=H) h.r4 ⟨by omega,by omega⟩ h.w h.t (by omega) h.r2 (lo:=H+2) (hi:=H+2+3*n) (by omega) hl (by omega) (by omega) (c:=c) hc (N:=100000) (by omega)
 refine ⟨fun h1=>?_,fun h1 h2=>?_,fun h1 h2=>?_⟩
 ·obtain ⟨f1,f2,f3⟩:=fell 6 (.inl ⟨by rw [h1];decide,rfl⟩)
  exact ⟨f1,f3,f2⟩
 ·obtain ⟨f1,f2,f3⟩:=fell 2 (.inr ⟨by rw [h1];decide,by rw [h2];decide,rfl⟩)
  exact ⟨f1,f3,f2⟩
 ·obtain ⟨st',hP,hs,s1,s2⟩:=apply_back hI h.wd hm (f:=H) h.r4 ⟨by omega,by omega⟩ h.w h.t (by omega) h.r2 (lo:=H+2) (hi:=H+2+3*n) (by omega) hl (by omega) (by omega) (by rw [h1];decide) h2 (by omega) (N:=100000) (by omega)
  have hv:∀ j,j≠31->(S.viewOf (M.setV 31 ((S.wImg true [] [] F (H+1000)).lab S.kStub))).reg j=M.rd j:=fun j hj=>view_reg h.wd.ok _ hj
  refine ⟨s1,s2,?_,?_,fun i hi hi6=>?_,?_⟩
  ·rw [hs.reg 1 (by decide),hP.r1,hv 4 (by decide)];exact h.r4
  ·rw [hs.reg 2 (by decide),hP.r2,hll]
  ·rw [hs.reg (4+i) (by unfold S.visB;exact decide_eq_true (by omega))]
   by_cases c:i<m
   ·rw [if_pos c,hP.ahead i c hi6,hv _ (by omega)]
    exact h.ra i c
   ·rw [if_neg c]
    have:=hP.it (i-m) (4*(100+((n:Int)-n+(i-m:Nat)))) (by omega) (itemsL_at n (by omega))
    rw [show m+(i-m)=i from by omega] at this
    rw [this]
    omega
  ·rw [hs.reg 10 (by decide)]
   exact listAt_of hs (by omega) (by omega) hP.rest
end
section
open Go.RowKit
theorem app_call {w:World}{F:Nat->Prop}{lo b p:Nat}{H half:Int}{P:List (ByteArray×Int)}{MM:S.Mach}{nm:ByteArray}{ca stub:Int}(hK:KAt w lo b p F H half P MM)(hs:S.findP P nm=some ca)(hst:S.findP P S.kStub=some stub)(ha:0<=ca/\ca<=67108864)(hst2:0<=stub/\stub<=67108864)(h0:MM.state=0)(h1:MM.out=[])(h2:MM.steps=0){C:S.Mach}(hC:((MM.setV 31 stub).goV ca).steps_ 100000=C){R:Int}(hR:S.callR C stub=R) :
 Calls Tryz.prog 29 #[.pointer (some ⟨b,0,none⟩),.string nm,.bool false,.int .i64 100000] w fun e w'=>e=.returned (.int .i64 R)/\KRan w lo b p F H half P C w':=by
 have h:=k_Call nm 100000 ca stub hK hs hst ⟨ha.1,Int.le_trans ha.2 (by decide)⟩ ⟨hst2.1,Int.le_trans hst2.2 (by decide)⟩ h0 h1 h2 (by decide)
 have e:S.callV MM stub ca 100000=C:=by
  unfold S.callV
  rw [show (100000:Int).toNat=100000 from rfl]
  exact hC
 rw [e,hR] at h
 exact h
end
end Go.Proofs.YtlldagdhlfpihaaGreatDoor
