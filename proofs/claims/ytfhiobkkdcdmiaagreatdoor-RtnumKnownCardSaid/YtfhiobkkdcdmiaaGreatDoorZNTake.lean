/- Parts. -/
import Derived.Test.YtfhiobkkdcdmiaaGreatDoorZGFrm
import Derived.JoinedOf
import Derived.JoinedCond
import Derived.KernelRfl
set_option linter.all false
set_option maxHeartbeats 40000000
open Nat renaming le_refl->Yb,zero_le->Yaf
open List renaming length_append->Yd,getD_eq_getElem?_getD->Ye,length_cons->Yi,replicate->Yu,length_nil->Yab,length_set->Ybo,length_replicate->Ycm
open Int renaming toNat_natCast->Yai,mul_nonneg->Yau,pow_pos->Yaw,le_of_lt->Ya2
namespace Go.Proofs.YtfhiobkkdcdmiaaGreatDoor
section
set_option maxRecDepth 100000
theorem Zg9:joinedFacts Tryz.pinned.checked.prog 4 Tryz.f4 (OpenSpec.ofChange Rows.rtnumKnownSpec).bare Rows.rtnumKnownRow=true:=by
 unfold joinedFacts;simp only [Bool.and_eq_true]
 (repeat' apply And.intro)
 all_goals (as_aux_lemma=>kernel_rfl)
end
section
open Go.RowKit
namespace S
end S
section
variable {I:S.Img}{dep lk:Int}{env:List Int}{st:S.Vw}
end
section
variable {I:S.Img}{dep lk:Int}{behind:Bool}{env:List Int}{st:S.Vw}{C:Nat}{Q:List Int->S.Vw->Nat->Prop}{R:S.BO->Nat->Prop}
theorem Zwt {e:S.BE}{r:List S.BS}{x:Int}{K:Nat}(he:S.Yl I dep lk env st e x K)(hd:S.dE e<=20)(h:∀ st2 c2,S.Sim st st2->c2<=C+K+1->R (.halt x st2) c2):S.WS I dep lk behind (S.sHlt e::r) env st C Q R:=fun st1 c hs hc=>by
 rw [Zbo,Zup];exact he 0 st1 c _ _ (by omega) hs fun st2 c2 h2 hc2=>h st2 _ h2 (by omega)
end
end
section
open Go.RowKit
namespace S
end S
section
variable {I:S.Img}{dep lk:Int}{env:List Int}{st:S.Vw}
end
section
variable {I:S.Img}(hN:S.NSegs I)
include hN
theorem Zk4 {st:S.Vw}{v:Int}(hv:0<=v/\v<4294967296)(h:v%4=2):S.Tells I S.kNInt st [v] 16 0 80:=by
 obtain ⟨i,hi⟩:=hN.int;refine Zdt hN.ok S.rNInt (by kernel_rfl) hi (dep:=0) (by decide) rfl rfl fun lk env s1 hl hp hs1 Q=>?_
 obtain ⟨e0,rfl⟩:=Zyv hl;have h0:e0=v:=hp 0 (show 0<1 by decide);subst h0;have hl0:S.Yl I 0 lk [e0] s1 (S.eL 0) e0 1:=Zq 0;have hf:=Zob hl0 hv
 show S.WS I 0 lk false [S.sWhen (S.eFix (S.eL 0)) [S.sVal (S.eC 1)],S.sWhen (S.eNot (S.isRef (S.eL 0))) [S.sVal (S.eC 0)],S.sVal (S.eQ (S.eAnd (S.eM (S.eAdr (S.eL 0)) 0) (S.eC 31)) (S.eC 31))] [e0] s1 8 _ _
 refine Zp (hf.to_ (if_neg (by omega)) (Yb _)) (by decide) (fun _=>?_) fun h=>absurd rfl h
 have e3:S.alu 7 e0 (3%4294967296)=2:=by
  rw [Z22 hv.1 hv.2];omega
 have y0:=Zm (op:=7) (by decide) hl0 (Zn 3);rw [e3] at y0;exact Zp ((Zhk (Zhk y0 (Zn 1)) (Zn 0)).to_ (y:=1) rfl (Yb _)) (by decide) (fun h=>by cases h) fun _=>Zb9 (Zn 0) (by decide) hs1 (by decide)
end
end
section
open Go.RowKit
theorem Z6z (x y:Int):S.alu 3 x y=S.u32m (x*y):=rfl
section
variable {I:S.Img}(hN:S.NSegs I)
include hN
end
end
section
open Go.RowKit
theorem Zmk:∀ (acc:List Int) (k:Nat) (d:Int),k<acc.length->S.dval (acc.set k d)=S.dval acc+(d-acc.getD k 0)*65536^k
 | [],k,d,h=>absurd h (Nat.not_lt_zero k)
 | x::r,0,d,_=>by
  show d+65536*S.dval r=(x+65536*S.dval r)+(d-x)*65536^0
  simp;omega
 | x::r,k+1,d,h=>by
  have ih:=Zmk r k d (by simpa using h)
  show x+65536*S.dval (r.set k d)=(x+65536*S.dval r)+(d-r.getD k 0)*65536^(k+1)
  rw [ih,Int.pow_succ]
  grind
theorem Zri {acc:List Int}(h:S.Digs acc)(k:Nat){d:Int}(hd:0<=d/\d<65536):S.Digs (acc.set k d):=fun x hx=>by
 rcases List.mem_or_eq_of_mem_set hx with q | q
 ·exact h x q
 ·rw [q];exact hd
theorem Zwu {st s:S.Vw}{H:Int}{acc:List Int}(h:S.HpS st s H acc){k:Nat}(hk:k<acc.length)(d:Int):S.HpS st (s.sto (H+2+k) (4*d)) H (acc.set k d):=by
 have hm:∀ a,(s.sto (H+2+k) (4*d)).mem a=if a=H+2+k then 4*d else s.mem a:=fun _=>rfl
 refine ⟨fun a ha=>?_,fun j hj=>?_,h.reg,h.inp,h.out⟩
 ·rw [Ybo] at ha
  rw [hm,if_neg (by omega)];exact h.out_ a ha
 ·rw [Ybo] at hj
  rw [hm,Zf9 acc k d j hk];by_cases c:j=k
  ·rw [if_pos (by omega),if_pos c]
  ·rw [if_neg (by omega),if_neg c]
   exact h.dig j hj
theorem Z6l {env:List Int}(h:(env.length:Int)=7):∃ a b c d e f g,env=[a,b,c,d,e,f,g]:=by
 match env,h with
 | [a,b,c,d,e,f,g],_=>exact ⟨a,b,c,d,e,f,g,rfl⟩
 | [],h=>simp at h
 | [_],h=>simp at h
 | [_,_],h=>simp at h
 | [_,_,_],h=>simp at h
 | [_,_,_,_],h=>simp at h
 | [_,_,_,_,_],h=>simp at h
 | [_,_,_,_,_,_],h=>simp at h
 | _::_::_::_::_::_::_::_::_,h=>simp only [Yi] at h;omega
theorem Zzb (n:Nat):S.dval (Yu n 0)=0:=Zeo fun j=>by
 rw [Ye,List.getElem?_replicate]
 split <;> rfl
section
variable {I:S.Img}(hN:S.NSegs I)
include hN
theorem Zwv {st:S.Vw}{H v u nv nu:Int}{x y:List Int}(hx:S.NumIn I st.mem H v nv x)(hy:S.NumIn I st.mem H u nu y)(h26:st.reg 26=H)(hdat:∀ j:Nat,j<x.length+y.length+3->S.Dat I (H+j))(hfew:x.length+y.length<=900){W:Nat}(hW:W=800*y.length+900) :
 ∀ st1,S.Sim st st1->S.Real I S.kNMul false (st1.args [v,u]) 56 (fun _ o k=>S.NumR I st H (if nv=nu then 0 else 1) (S.dval x*S.dval y) (x.length+y.length+3) (2000+200*(x.length+y.length)+x.length*W) o k):=fun st1 hs1=>by
 obtain ⟨iF,hF⟩:=hN.mul;obtain ⟨X,hX⟩:∃ L,L=x.length:=⟨_,rfl⟩
 obtain ⟨Y,hY⟩:∃ L,L=y.length:=⟨_,rfl⟩
 rw [<- hX,<- hY] at hdat hfew ⊢;rw [<- hY] at hW;obtain ⟨sg,hsg⟩:∃ n:Int,n=(if nv=nu then 0 else 1):=⟨_,rfl⟩
 rw [<- hsg];obtain ⟨NN,hNN⟩:∃ n,n=2000+200*(X+Y)+X*W:=⟨_,rfl⟩
 rw [<- hNN];have hr:=Zcy hN.ok S.rNMul (by kernel_rfl) hF (dep:=34) (by decide) (st1.args [v,u]) (S.NumR I st H sg (S.dval x*S.dval y) (X+Y+3) NN) fun lk env hl hp=>?_
 ·exact hr
 obtain ⟨e0,e1,e2,e3,e4,e5,e6,rfl⟩:=Z6l hl;have h0:e0=v:=hp 0 (show (0:Int)<2 by decide);have h1:e1=u:=hp 1 (show (1:Int)<2 by decide);subst h0 h1;have hs:S.Sim st (st1.args [e0,e1]):=hs1.args (by simp);obtain ⟨s1,hs1e⟩:∃ s,s=st1.args [e0,e1]:=⟨_,rfl⟩
 rw [<- hs1e] at hs ⊢;have hsz:=hN.ok.size2;have hd0:=hdat 0 (by omega);have hdl:=hdat (X+Y+2) (by omega);rw [show H+((0:Nat):Int)=H by omega] at hd0;have hH0:=hd0.1;have hHl:=hdl.2.1;have dx:S.Digs x:=hx.1.dig;have dy:S.Digs y:=hy.1.dig;have n0:=Zmh (H:=H) hs;have yh:∀ (env:List Int) (s:S.Vw) (acc:List Int),S.HpS st s H acc->S.Yl I 34 lk env s S.eH H 1:=fun env s acc h=>(Zxe (n:=26) (by decide)).to_ (by rw [h.reg 26 (by decide)];exact h26) (Yb _)
 have l0:∀ s b c d e f,S.Yl I 34 lk [e0,e1,b,c,d,e,f] s (S.eL 0) e0 1:=fun s b c d e f=>Zq 0
 have l1:∀ s b c d e f,S.Yl I 34 lk [e0,e1,b,c,d,e,f] s (S.eL 1) e1 1:=fun s b c d e f=>Zq 1
 have l2:∀ s b c d e f,S.Yl I 34 lk [e0,e1,b,c,d,e,f] s (S.eL 2) b 1:=fun s b c d e f=>Zq 2
 have l3:∀ s b c d e f,S.Yl I 34 lk [e0,e1,b,c,d,e,f] s (S.eL 3) c 1:=fun s b c d e f=>Zq 3
 have l4:∀ s b c d e f,S.Yl I 34 lk [e0,e1,b,c,d,e,f] s (S.eL 4) d 1:=fun s b c d e f=>Zq 4
 have l5:∀ s b c d e f,S.Yl I 34 lk [e0,e1,b,c,d,e,f] s (S.eL 5) e 1:=fun s b c d e f=>Zq 5
 have l6:∀ s b c d e f,S.Yl I 34 lk [e0,e1,b,c,d,e,f] s (S.eL 6) f 1:=fun s b c d e f=>Zq 6
 have lenX:∀ (s:S.Vw) (acc:List Int),S.HpS st s H acc->∀ b c d e f,S.Yl I 34 lk [e0,e1,b,c,d,e,f] s (S.eF S.kNLen [S.eL 0]) (X:Int) 109:=fun s acc h b c d e f=>(Zc3 (Za (l0 s b c d e f) Zg) (by simp) (Za8 hN (Zat hx h)) (by decide)).to_ (by rw [hX]) (Yb _)
 have lenY:∀ (s:S.Vw) (acc:List Int),S.HpS st s H acc->∀ b c d e f,S.Yl I 34 lk [e0,e1,b,c,d,e,f] s (S.eF S.kNLen [S.eL 1]) (Y:Int) 109:=fun s acc h b c d e f=>(Zc3 (Za (l1 s b c d e f) Zg) (by simp) (Za8 hN (Zat hy h)) (by decide)).to_ (by rw [hY]) (Yb _)
 show S.WS I 34 lk false [S.sAs 6 (S.eAdd (S.eF S.kNLen [S.eL 0]) (S.eF S.kNLen [S.eL 1])),S.sAs 2 (S.eC 0),
  S.sWh (S.eLt (S.eL 2) (S.eL 6)) [S.sPut (S.eAdd S.eH (S.eL 2)) 2 (S.eC 0),S.sInc 2],
  S.sAs 2 (S.eC 0),
  S.sWh (S.eLt (S.eL 2) (S.eF S.kNLen [S.eL 0]))
   [S.sAs 4 (S.eF S.kNDig [S.eL 0,S.eL 2]),S.sAs 5 (S.eC 0),S.sAs 3 (S.eC 0),
    S.sWh (S.eLt (S.eL 3) (S.eF S.kNLen [S.eL 1]))
     [S.sAs 5 (S.eAdd (S.eAdd (S.eL 5) (S.eShr (S.eM S.eCell 2) 2)) (S.eB 3 (S.eL 4) (S.eF S.kNDig [S.eL 1,S.eL 3]))),
      S.sPut S.eCell 2 (S.eDg (S.eL 5)),S.sAs 5 (S.eShr (S.eL 5) 16),S.sInc 3],
    S.sPut S.eCell 2 (S.eDg (S.eL 5)),S.sInc 2],
  S.sVal (S.eF S.kNFin [S.eB 9 (S.eF S.kNNeg [S.eL 0]) (S.eF S.kNNeg [S.eL 1]),S.eL 6])] [e0,e1,e2,e3,e4,e5,e6] s1 8 _ _
 refine Zo ((Zm (op:=1) (by decide) (lenX s1 _ n0 _ _ _ _ _) (lenY s1 _ n0 _ _ _ _ _)).to_ (y:=((X+Y:Nat):Int)) (by rw [Zau];unfold S.u32m;omega) (Yb _)) (by decide) ?_
 show S.WS I 34 lk false _ [e0,e1,e2,e3,e4,e5,((X+Y:Nat):Int)] s1 _ _ _
 refine Zo (Zn 0) (by decide) ?_
 show S.WS I 34 lk false _ [e0,e1,0,e3,e4,e5,((X+Y:Nat):Int)] s1 _ _ _
 refine Zfk (by decide) (fun env s C k=>∃ i:Nat,env=[e0,e1,(i:Int),e3,e4,e5,((X+Y:Nat):Int)]/\k=X+Y-i/\i<=X+Y/\S.HpS st s H (Yu i 0)/\C<=300+40*i) (k0:=X+Y)
  ⟨0,rfl,rfl,Yaf _,n0,by decide⟩ ?_
 rintro env s C k ⟨i,rfl,rfl,hi,hS,hC⟩;have y26:=Zm (op:=14) (by decide) (l2 s (i:Int) e3 e4 e5 ((X+Y:Nat):Int)) (l6 s _ _ _ _ _);rw [Zcl] at y26;refine ⟨_,_,y26,fun hz=>?_,fun hnz=>?_⟩
 rotate_left
 ·have hlt:i<X+Y:=Classical.byContradiction fun q=>hnz (if_neg (by omega))
  have hdi:=hdat (i+2) (by omega);rw [show H+((i+2:Nat):Int)=H+2+i by omega] at hdi;refine Zb7 (x:=4*0) (p:=H+2+i) ((Zm (op:=1) (by decide) (yh _ s _ hS) (l2 s _ _ _ _ _)).to_ (y:=H+i) (by rw [Zau];unfold S.u32m;omega) (Yb _)) (Zn 0) (by decide) (by decide) (by unfold S.u32m;omega) hdi.2 ?_;have hS2:=Zgk hS 0;rw [Ycm] at hS2;refine Zo ((Zm (op:=1) (by decide) (l2 _ _ _ _ _ _) (Zn 1)).to_ (y:=((i+1:Nat):Int)) (by rw [Zau];unfold S.u32m;omega) (Yb _)) (by decide) ?_
  show S.WS I 34 lk false _ [e0,e1,((i+1:Nat):Int),e3,e4,e5,((X+Y:Nat):Int)] _ _ _ _
  exact Z5 (k2:=X+Y-(i+1)) (by omega) ⟨i+1,rfl,rfl,by omega,by rw [List.replicate_succ'];exact hS2,by omega⟩
 have hiE:i=X+Y:=Classical.byContradiction fun q=>by rw [if_pos (by omega)] at hz;cases hz
 subst hiE;refine Zo (Zn 0) (by decide) ?_
 show S.WS I 34 lk false _ [e0,e1,0,e3,e4,e5,((X+Y:Nat):Int)] s _ _ _
 refine Zfk (by decide) (fun env s C k=>∃ (i:Nat) (b c d:Int) (acc:List Int),env=[e0,e1,(i:Int),b,c,d,((X+Y:Nat):Int)]/\k=X-i/\i<=X/\acc.length=X+Y/\S.Digs acc/\S.HpS st s H acc/\S.dval acc=S.psum x i*S.dval y/\(∀ j,i+Y<=j->acc.getD j 0=0)/\C<=350+40*(X+Y)+i*W) (k0:=X)
  ⟨0,e3,e4,e5,Yu (X+Y) 0,rfl,rfl,Yaf _,Ycm,(fun d hd=>by rw [List.eq_of_mem_replicate hd];decide),hS,by rw [Zzb];show _=0*_;rw [Int.zero_mul],(fun j _=>by
   rw [Ye,List.getElem?_replicate]
   split <;> rfl),by omega⟩ ?_
 rintro env s C k ⟨i,b,c,d,acc,rfl,rfl,hi,hla,hda,hS,hinv,hzero,hC⟩;have y2X:=Zm (op:=14) (by decide) (l2 s (i:Int) b c d ((X+Y:Nat):Int)) (lenX s acc hS _ _ _ _ _);rw [Zcl] at y2X;refine ⟨_,_,y2X,fun hz=>?_,fun hnz=>?_⟩
 ·have hiE:i=X:=Classical.byContradiction fun q=>by rw [if_pos (by omega)] at hz;cases hz
  have hv:S.dval acc=S.dval x*S.dval y:=by rw [hinv,Zan (by omega)]
  have sx:=hx.1.sg;have sy:=hy.1.sg;have hsg01:sg=0\/sg=1:=by rw [hsg];split <;> omega
  refine Zv5 hN (acc:=acc) hsg01 hS h26 hda (by omega) (fun j hj=>hdat j (by omega)) hv (by omega)
   (Za ((Zm (op:=9) (by decide) (Zc3 (Za (l0 s _ _ _ _ _) Zg) (by simp) (Zbe hN (Zat hx hS)) (by decide)) (Zc3 (Za (l1 s _ _ _ _ _) Zg) (by simp) (Zbe hN (Zat hy hS)) (by decide))).to_ (y:=sg) (by rw [Z1l sx sy,hsg]) (Yb _)) (Za ((l6 s _ _ _ _ _).to_ (y:=(acc.length:Int)) (by rw [hla]) (Yb _)) Zg)) (by decide) (by decide) ?_
  rw [hla,hNN,<- hiE];omega
 ·have hlt:i<X:=Classical.byContradiction fun q=>hnz (if_neg (by omega))
  have bx:=Zy dx i;have y1:=Zc3 (d:=34) (dep:=34) (lk:=lk) (env:=[e0,e1,(i:Int),b,c,d,((X+Y:Nat):Int)]) (Za (l0 s _ _ _ _ _) (Za (l2 s _ _ _ _ _) Zg)) (by simp) (Za9 hN (Zat hx hS) ⟨by omega,by omega⟩) (by decide);rw [Yai] at y1;obtain ⟨a,ha⟩:=Yx (x.getD i 0);rw [<- ha] at y1 bx;refine Zo y1 (by decide) ?_
  show S.WS I 34 lk false _ [e0,e1,(i:Int),b,a,d,((X+Y:Nat):Int)] s _ _ _
  refine Zo (Zn 0) (by decide) ?_
  show S.WS I 34 lk false _ [e0,e1,(i:Int),b,a,0,((X+Y:Nat):Int)] s _ _ _
  refine Zo (Zn 0) (by decide) ?_
  show S.WS I 34 lk false _ [e0,e1,(i:Int),0,a,0,((X+Y:Nat):Int)] s _ _ _
  refine Zfk (by decide) (fun env s C2 k=>∃ (j:Nat) (cc:Int) (acc2:List Int),env=[e0,e1,(i:Int),(j:Int),a,cc,((X+Y:Nat):Int)]/\k=Y-j/\j<=Y/\acc2.length=X+Y/\S.Digs acc2/\S.HpS st s H acc2/\(0<=cc/\cc<65536)/\S.dval acc2+cc*65536^(i+j)=S.psum x i*S.dval y+a*65536^i*S.psum y j/\(∀ j,i+Y<=j->acc2.getD j 0=0)/\C2<=C+500+760*j) (k0:=Y)
   ⟨0,0,acc,rfl,rfl,Yaf _,hla,hda,hS,by decide,(by rw [hinv,S.psum];simp),hzero,by omega⟩ ?_
  rintro env s C2 k ⟨j,cc,acc2,rfl,rfl,hj,hla2,hda2,hS2,hcc,hinv2,hzero2,hC2⟩;have y3Y:=Zm (op:=14) (by decide) (l3 s (i:Int) (j:Int) a cc ((X+Y:Nat):Int)) (lenY s acc2 hS2 _ _ _ _ _);rw [Zcl] at y3Y;have hdi:S.Dat I (H+2+i+j):=by
   have:=hdat (i+j+2) (by omega);rw [show H+((i+j+2:Nat):Int)=H+2+i+j by omega] at this;exact this
  have ycell:∀ (s:S.Vw) (acc:List Int) (cc:Int),S.HpS st s H acc->S.Yl I 34 lk [e0,e1,(i:Int),(j:Int),a,cc,((X+Y:Nat):Int)] s S.eCell (H+i+j) 5:=fun s acc cc h =>
   (Zm (op:=1) (by decide) (yh _ s _ h) (Zm (op:=1) (by decide) (l2 s _ _ _ _ _) (l3 s _ _ _ _ _))).to_ (by rw [Zau,Zau];unfold S.u32m;omega) (Yb _)
  have hpc:S.u32m (H+i+j+2)=H+2+i+j:=by unfold S.u32m;omega
  have eij:H+2+((i+j:Nat):Int)=H+2+i+j:=by omega
  refine ⟨_,_,y3Y,fun hz=>?_,fun hnz=>?_⟩
  ·have hjE:j=Y:=Classical.byContradiction fun q=>by rw [if_pos (by omega)] at hz;cases hz
   subst hjE;refine Zb7 (x:=4*cc) (p:=H+2+i+j) (ycell s acc2 cc hS2) ((Zm (op:=10) (by decide) (Zm (op:=7) (by decide) (l5 s _ _ _ _ _) (Zn 65535)) (Zn 2)).to_ (by rw [Zfq ⟨by omega,by omega⟩];omega) (Yb _)) (by decide) (by decide) hpc hdi.2 ?_;have hS3:=Zwu hS2 (k:=i+j) (by omega) cc;rw [eij] at hS3;refine Zo ((Zm (op:=1) (by decide) (l2 _ _ _ _ _ _) (Zn 1)).to_ (y:=((i+1:Nat):Int)) (by rw [Zau];unfold S.u32m;omega) (Yb _)) (by decide) ?_
   show S.WS I 34 lk false _ [e0,e1,((i+1:Nat):Int),(j:Int),a,cc,((X+j:Nat):Int)] _ _ _ _
   refine Z5 (k2:=X-(i+1)) (by omega) ⟨i+1,_,_,_,acc2.set (i+j) cc,rfl,rfl,by omega,by rw [Ybo];exact hla2,Zri hda2 _ hcc,hS3,?_,fun q hq=>?_,?_⟩
   ·rw [Zmk _ _ _ (by omega),hzero2 (i+j) (Yb _),S.psum,Int.sub_zero,hinv2,Zan (x:=y) (by omega),<- ha]
    grind
   ·rw [Zf9 _ _ _ _ (by omega),if_neg (by omega)]
    exact hzero2 q (by omega)
   ·rw [show (i+1)*W=i*W+W from Nat.succ_mul i W]
    omega
  ·have hlt2:j<Y:=Classical.byContradiction fun q=>hnz (if_neg (by omega))
   have by_:=Zy dy j;have bc:=Zy hda2 (i+j);have y2:=Zc3 (d:=34) (dep:=34) (lk:=lk) (env:=[e0,e1,(i:Int),(j:Int),a,cc,((X+Y:Nat):Int)]) (Za (l1 s _ _ _ _ _) (Za (l3 s _ _ _ _ _) Zg)) (by simp) (Za9 hN (Zat hy hS2) ⟨by omega,by omega⟩) (by decide);rw [Yai] at y2;have hcellv:=hS2.dig (i+j) (by omega);rw [eij] at hcellv;have ym:=Zlt (n:=2) (ycell s acc2 cc hS2) hpc (Za7 hdi);rw [hcellv] at ym;obtain ⟨q0,hq0⟩:∃ q,q=acc2.getD (i+j) 0:=⟨_,rfl⟩
   obtain ⟨yj,hyj⟩:∃ q,q=y.getD j 0:=⟨_,rfl⟩
   rw [<- hq0] at bc ym;rw [<- hyj] at by_ y2;have hm0:0<=a*yj:=Yau bx.1 by_.1;have hm1:a*yj<=65535*65535:=Int.mul_le_mul (by omega) (by omega) by_.1 (by decide);obtain ⟨tot,htot⟩:=Yx (cc+q0+a*yj);have ht4:0<=tot/\tot<4294967296:=by omega
   refine Zo ((Zm (op:=1) (by decide) (Zm (op:=1) (by decide) (l5 s _ _ _ _ _) (Zm (op:=11) (by decide) ym (Zn 2))) (Zm (op:=3) (by decide) (l4 s _ _ _ _ _) y2)).to_ (y:=tot) (by
    rw [Zau,Zau,Z6z,Z23,htot];generalize a*yj=ay at *;unfold S.u32m;omega) (Yb _)) (by decide) ?_
   show S.WS I 34 lk false _ [e0,e1,(i:Int),(j:Int),a,tot,((X+Y:Nat):Int)] s _ _ _
   refine Zb7 (x:=4*(tot%65536)) (p:=H+2+i+j) (ycell s acc2 tot hS2) ((Zm (op:=10) (by decide) (Zm (op:=7) (by decide) (l5 s _ _ _ _ _) (Zn 65535)) (Zn 2)).to_ (Zfq ht4) (Yb _)) (by decide) (by decide) hpc hdi.2 ?_;have hS3:=Zwu hS2 (k:=i+j) (by omega) (tot%65536);rw [eij] at hS3;refine Zo ((Zm (op:=11) (by decide) (l5 _ _ _ _ _ _) (Zn 16)).to_ (y:=tot/65536) (by rw [Zkd]) (Yb _)) (by decide) ?_
   show S.WS I 34 lk false _ [e0,e1,(i:Int),(j:Int),a,tot/65536,((X+Y:Nat):Int)] _ _ _ _
   refine Zo ((Zm (op:=1) (by decide) (l3 _ _ _ _ _ _) (Zn 1)).to_ (y:=((j+1:Nat):Int)) (by rw [Zau];unfold S.u32m;omega) (Yb _)) (by decide) ?_
   show S.WS I 34 lk false _ [e0,e1,(i:Int),((j+1:Nat):Int),a,tot/65536,((X+Y:Nat):Int)] _ _ _ _
   refine Z5 (k2:=Y-(j+1)) (by omega) ⟨j+1,tot/65536,acc2.set (i+j) (tot%65536),rfl,rfl,by omega,by rw [Ybo];exact hla2,Zri hda2 _ ⟨by omega,by omega⟩,hS3,⟨by omega,by omega⟩,?_,fun q hq=>?_,by omega⟩
   ·rw [Zmk _ _ _ (by omega),S.psum,<- hq0,<- hyj,show i+(j+1)=(i+j)+1 by omega,Int.pow_succ]
    have hqt:tot=tot%65536+65536*(tot/65536):=by omega
    have hp:(65536:Int)^(i+j)=65536^i*65536^j:=Int.pow_add _ _ _;rw [hp] at hinv2 ⊢;generalize (65536:Int)^i=Bi at *;generalize (65536:Int)^j=Bj at *;generalize tot%65536=dd at *;generalize tot/65536=qq at *;generalize S.dval acc2=D at *;generalize S.psum y j=Py at *;generalize S.psum x i*S.dval y=PX at *
    grind
   ·rw [Zf9 _ _ _ _ (by omega),if_neg (by omega)]
    exact hzero2 q hq
end
end
section
open Go.RowKit
namespace S
structure RwS (st s:Vw)(A:Int)(acc:List Int):Prop where
 out_:∀ a,a<A\/A+acc.length<=a->s.mem a=st.mem a
 dig:∀ j:Nat,j<acc.length->s.mem (A+j)=acc.getD j 0
 reg:∀ j,¬ (4<=j/\j<=7)->s.reg j=st.reg j
 inp:s.inp=st.inp
 out:s.out=st.out
end S
theorem Z2r {ds:List Int}{n m:Nat}(h:S.Top ds n)(k:S.Top ds m):n=m:=by
 refine Classical.byContradiction fun c=>?_
 rcases Nat.lt_or_gt_of_ne c with q | q
 ·exact k.2.2.elim (fun e=>by omega) fun e=>e (h.2.1 _ (by omega))
 ·exact h.2.2.elim (fun e=>by omega) fun e=>e (k.2.1 _ (by omega))
theorem Z0e (ds:List Int):∃ n,S.Top ds n:=by
 have key:∀ n:Nat,n<=ds.length->(∀ j,n<=j->ds.getD j 0=0)->∃ n,S.Top ds n:=by
  intro n
  induction n with
  | zero=>exact fun h1 h2=>⟨0,h1,h2,.inl rfl⟩
  | succ n ih =>
   intro h1 h2;by_cases c:ds.getD n 0=0
   ·exact ih (by omega) fun j hj=>if e:j=n then by rw [e];exact c else h2 j (by omega)
   ·exact ⟨n+1,h1,h2,.inr (by rw [Nat.add_sub_cancel];exact c)⟩
 exact key ds.length (Yb _) fun j hj=>by rw [Ye,List.getElem?_eq_none hj];rfl
theorem Z0f {ds:List Int}(hd:S.Digs ds){n:Nat}(h:S.Top ds n):S.dval ds<65536^n/\(0<n->65536^(n-1)<=S.dval ds):=by
 have e:=Zdf h;have hdt:S.Digs (ds.take n):=fun d q=>hd d (List.mem_of_mem_take q)
 have hl:(ds.take n).length=n:=by rw [List.length_take];have:=h.1;omega
 refine ⟨?_,fun hn=>?_⟩
 ·have:=Zg8 hdt
  rw [hl] at this;omega
 ·have h1:=Zgj (n-1) ds
  have h2:1<=S.dval (ds.drop (n-1)):=by
   have h3:=Za4 (ds.drop (n-1));have h4:(ds.drop (n-1)).getD 0 0=ds.getD (n-1) 0:=by
    rw [Ye,List.getElem?_drop,Nat.add_zero,<- Ye]
   have h5:=Zy hd (n-1);have h6:=h.2.2.resolve_left (by omega);have h7:=Zi (Zb8 (x:=ds.drop (n-1)) fun d q=>hd d (List.mem_of_mem_drop q));omega
  have h3:0<=S.psum ds (n-1):=by
   have:∀ i:Nat,0<=S.psum ds i:=fun i=>by
    induction i with
    | zero=>exact Int.le_refl _
    | succ i ih =>
     have hb:=Zy hd i;have hp:(0:Int)<65536^i:=Yaw (by decide);have:=Yau hb.1 (Ya2 hp);rw [S.psum];omega
   exact this _
  have hp:(0:Int)<65536^(n-1):=Yaw (by decide);have h4:=Int.mul_le_mul_of_nonneg_left h2 (Ya2 hp);rw [Int.mul_one] at h4;omega
section
variable {st s:S.Vw}{A:Int}{acc:List Int}
theorem Zqd (h:S.Sim st s):S.RwS st s A []:=⟨fun a _=>by rw [h.mem],fun j hj=>absurd hj (Nat.not_lt_zero _),h.reg,h.inp,h.out⟩
theorem Ze3 (h:S.RwS st s A acc)(d:Int):S.RwS st (s.sto (A+acc.length) d) A (acc++[d]):=by
 have hm:∀ a,(s.sto (A+acc.length) d).mem a=if a=A+acc.length then d else s.mem a:=fun _=>rfl
 refine ⟨fun a ha=>?_,fun j hj=>?_,h.reg,h.inp,h.out⟩
 ·rw [Yd,Yi,Yab] at ha
  rw [hm,if_neg (by omega)];exact h.out_ a (by omega)
 ·rw [Yd,Yi,Yab] at hj
  rw [hm,Ye];by_cases c:j=acc.length
  ·subst c
   rw [if_pos rfl,List.getElem?_append_right (Yb _),Nat.sub_self];rfl
  ·rw [if_neg (by omega),List.getElem?_append_left (by omega),<- Ye]
   exact h.dig j (by omega)
theorem Zqe {s':S.Vw}(h:S.RwS st s A acc)(k:S.Sim s s'):S.RwS st s' A acc:=⟨fun a ha=>by rw [k.mem];exact h.out_ a ha,fun j hj=>by rw [k.mem];exact h.dig j hj,fun j hj=>(k.reg j hj).trans (h.reg j hj),k.inp.trans h.inp,k.out.trans h.out⟩
end
section
variable {I:S.Img}(hN:S.NSegs I)
include hN
theorem Zor {st:S.Vw}{v neg:Int}{ds:List Int}{n:Nat}(hx:S.NumAt I st.mem v neg ds)(hT:S.Top ds n):S.Tells I S.kNTop st [v] 52 n (800+500*ds.length):=by
 obtain ⟨iD,hD⟩:=hN.top;refine Zdt hN.ok S.rNTop (by kernel_rfl) hD (dep:=34) (by decide) rfl rfl fun lk env s1 hl hp hs1 Q=>?_
 obtain ⟨e0,e1,e2,rfl⟩:=Zoa hl;have h0:e0=v:=hp 0 (show 0<1 by decide);subst h0;have hm:s1.mem=st.mem:=hs1.mem;have hx':S.NumAt I s1.mem e0 neg ds:=by rw [hm];exact hx
 have hfew:=hx.few;have l0:∀ a b,S.Yl I 34 lk [e0,a,b] s1 (S.eL 0) e0 1:=fun a b=>Zq 0
 have l1:∀ a b,S.Yl I 34 lk [e0,a,b] s1 (S.eL 1) a 1:=fun a b=>Zq 1
 have l2:∀ a b,S.Yl I 34 lk [e0,a,b] s1 (S.eL 2) b 1:=fun a b=>Zq 2
 show S.WS I 34 lk false [S.sAs 1 (S.eF S.kNLen [S.eL 0]),S.sAs 2 (S.eC 1),
  S.sWh (S.eL 2) [S.sAs 2 (S.eC 0),S.sWhen (S.eL 1) [S.sWhen (S.eNot (S.eF S.kNDig [S.eL 0,S.eSub (S.eL 1) (S.eC 1)])) [S.sAs 1 (S.eSub (S.eL 1) (S.eC 1)),S.sAs 2 (S.eC 1)]]],
  S.sVal (S.eL 1)] [e0,e1,e2] s1 8 Q _
 refine Zo (Zc3 (Za (l0 _ _) Zg) (by simp) (Za8 hN hx') (by decide)) (by decide) ?_
 show S.WS I 34 lk false _ [e0,(ds.length:Int),e2] s1 _ _ _
 refine Zo (Zn 1) (by decide) ?_
 show S.WS I 34 lk false _ [e0,(ds.length:Int),1] s1 _ _ _
 refine Zfk (by decide) (fun env s C k=>s=s1/\∃ (i:Nat) (f:Int),env=[e0,(i:Int),f]/\i<=ds.length/\(∀ j,i<=j->ds.getD j 0=0)/\((f=0/\k=0/\(i=0\/ds.getD (i-1) 0≠0)/\C<=260+480*(ds.length-i)+400)\/(f=1/\k=i+1/\C<=260+480*(ds.length-i)))) (k0:=ds.length+1)
  ⟨rfl,ds.length,1,rfl,Yb _,fun j hj=>by rw [Ye,List.getElem?_eq_none hj];rfl,.inr ⟨rfl,rfl,by omega⟩⟩ ?_
 rintro env s C k ⟨rfl,i,f,rfl,hi,hz,hcase⟩;refine ⟨f,1,l2 _ _,fun hf=>?_,fun hf=>?_⟩
 ·rcases hcase with ⟨_,_,htop,hC⟩ | ⟨q,_,_⟩
  ·have hTi:S.Top ds i:=⟨hi,hz,htop⟩
   have e:=Z2r hT hTi;subst e;exact Zb9 (l1 _ _) (by decide) hs1 (by omega)
  ·rw [q] at hf;cases hf
 ·rcases hcase with ⟨q,_⟩ | ⟨rfl,rfl,hC⟩
  ·exact absurd q hf
  refine Zo (Zn 0) (by decide) ?_
  show S.WS I 34 lk false _ [e0,(i:Int),0] s _ _ _
  refine Zp (l1 _ _) (by decide) (fun hn0=>Z5 (k2:=0) (by omega) ⟨rfl,i,0,rfl,hi,hz,.inl ⟨rfl,rfl,.inl (by omega),by omega⟩⟩) (fun hn0=>?_);obtain ⟨q,rfl⟩:∃ q,i=q+1:=⟨i-1,by omega⟩
  have y1:=Zc3 (d:=34) (dep:=34) (lk:=lk) (env:=[e0,((q+1:Nat):Int),0]) (Za (l0 _ _) (Za ((Zm (op:=2) (by decide) (l1 _ _) (Zn 1)).to_ (y:=(q:Int)) (by rw [Zj7];unfold S.u32m;omega) (Yb _)) Zg)) (by simp) (Za9 hN hx' ⟨by omega,by omega⟩) (by decide);rw [Yai] at y1;refine Zp (Zhk y1 (Zn 0)) (by decide) (fun hq=>Zbk 3 ?_) (fun hq=>?_)
  ·refine Z5 (k2:=0) (by omega) ⟨rfl,q+1,0,rfl,hi,hz,.inl ⟨rfl,rfl,.inr fun e=>?_,by omega⟩⟩
   rw [Nat.add_sub_cancel] at e;rw [e] at hq
   cases hq
  ·have hzero:ds.getD q 0=0:=Classical.byContradiction fun e=>hq (if_neg e)
   refine Zo ((Zm (op:=2) (by decide) (l1 _ _) (Zn 1)).to_ (y:=(q:Int)) (by rw [Zj7];unfold S.u32m;omega) (Yb _)) (by decide) ?_
   show S.WS I 34 lk false _ [e0,(q:Int),0] s _ _ _
   refine Zo (Zn 1) (by decide) (Zbk 3 (Zbk 3 ?_))
   show S.WS I 34 lk false _ [e0,(q:Int),1] s _ _ _
   refine Z5 (k2:=q+1) (by omega) ⟨rfl,q,1,rfl,by omega,fun j hj=>?_,.inr ⟨rfl,rfl,by omega⟩⟩;by_cases c:j=q
   ·rw [c];exact hzero
   ·exact hz j (by omega)
end
end
section
open Go.RowKit
theorem Zk5 {k:Nat}(h:k<=15):(1:Int)<=2^k/\(2:Int)^k<=32768:=by
 match k,h with
 | 0,_=>decide
 | 1,_=>decide
 | 2,_=>decide
 | 3,_=>decide
 | 4,_=>decide
 | 5,_=>decide
 | 6,_=>decide
 | 7,_=>decide
 | 8,_=>decide
 | 9,_=>decide
 | 10,_=>decide
 | 11,_=>decide
 | 12,_=>decide
 | 13,_=>decide
 | 14,_=>decide
 | 15,_=>decide
 | n+16,h=>omega
theorem Z60 {k:Nat}(hk:k<=15){d P:Int}(hP:P=2^k)(hd:0<=d/\d<65536):S.alu 10 d (k:Int)=d*P:=by
 have h:=Zk5 hk;rw [<- hP] at h;have e:((k:Int)%32).toNat=k:=by omega
 show S.u32m (d*2^((k:Int)%32).toNat)=d*P
 rw [e,<- hP];have h1:d*P<=65535*32768:=Int.mul_le_mul (by omega) h.2 (by omega) (by decide);have h0:0<=d*P:=Yau hd.1 (by omega);unfold S.u32m;omega
theorem Z7t {k:Nat}(hk:k<=15){x P:Int}(hP:P=2^k):S.alu 11 x (k:Int)=x/P:=by
 have e:((k:Int)%32).toNat=k:=by omega
 show x/2^((k:Int)%32).toNat=x/P
 rw [e,<- hP]
theorem Z6m {k:Nat}(hk:k<=15){c d P:Int}(hP:P=2^k)(hc:0<=c/\c<P)(hd:0<=d/\d<65536):S.alu 8 c (d*P)=c+d*P:=by
 have h:=Zk5 hk;rw [<- hP] at h;have h1:d*P<=65535*32768:=Int.mul_le_mul (by omega) h.2 (by omega) (by decide);have h0:0<=d*P:=Yau hd.1 (by omega)
 show bits .or .u32 c (d*P)=_
 rw [u32_or (by omega) (by omega) (by omega) (by omega),Nat.or_comm,<- u32_or (by omega) (by omega) (by omega) (by omega)];exact (Zz k (d*P) c P hP h0 (Int.mul_emod_left d P) (by omega) hc.1 hc.2 (by omega)).trans (by omega)
theorem Zww {I:S.Img}{st s:S.Vw}{H A v neg:Int}{ds acc:List Int}(h:S.NumIn I st.mem H v neg ds)(hA:H<=A)(hs:S.RwS st s A acc):S.NumAt I s.mem v neg ds:=h.1.same fun p e j hj=>hs.out_ _ (by have:=h.2 p e;omega)
def S.bq (st:S.Vw)(A:Int)(n:Nat)(val:Int)(N:Nat)(o:S.BO)(k:Nat):Prop:=∃ s acc,o=.ret s/\S.RwS st s A acc/\S.Digs acc/\acc.length=n/\S.dval acc=val/\k<=N
section
variable {I:S.Img}(hN:S.NSegs I)
include hN
theorem Zos {st:S.Vw}{H A v neg P:Int}{x:List Int}{n k:Nat}(hx:S.NumIn I st.mem H v neg x)(hA:H<=A)(hk:k<=15)(hP:P=2^k)(hn:n<=900)(hdat:∀ j:Nat,j<n+1->S.Dat I (A+j)) :
 ∀ st1,S.Sim st st1->S.Real I S.kNShl false (st1.args [v,n,k,A]) 55 (fun _ o c=>S.bq st A (n+1) (S.psum x n*P) (200+500*n) o c):=fun st1 hs1=>by
 obtain ⟨iF,hF⟩:=hN.shl;have hr:=Zcy hN.ok S.rNShl (by kernel_rfl) hF (dep:=34) (by decide) (st1.args [v,n,k,A]) (S.bq st A (n+1) (S.psum x n*P) (200+500*n)) fun lk env hl hp=>?_
 ·exact hr
 obtain ⟨e0,e1,e2,e3,e4,e5,rfl⟩:=Z1z hl;have h0:e0=v:=hp 0 (show (0:Int)<4 by decide);have h1:e1=(n:Int):=hp 1 (show (1:Int)<4 by decide);have h2:e2=(k:Int):=hp 2 (show (2:Int)<4 by decide);have h3:e3=A:=hp 3 (show (3:Int)<4 by decide);subst h0 h1 h2 h3;have hs:S.Sim st (st1.args [e0,(n:Int),(k:Int),e3]):=hs1.args (by simp);obtain ⟨s1,hs1e⟩:∃ s,s=st1.args [e0,(n:Int),(k:Int),e3]:=⟨_,rfl⟩
 rw [<- hs1e] at hs ⊢;have hsz:=hN.ok.size2;have hd0:=hdat 0 (by omega);have hdl:=hdat n (by omega);rw [show e3+((0:Nat):Int)=e3 by omega] at hd0;have hA0:=hd0.1;have hAl:=hdl.2.1;have dx:S.Digs x:=hx.1.dig;have hPb:=Zk5 hk;rw [<- hP] at hPb;have n0:=Zqd (A:=e3) hs;have l0:∀ s b c,S.Yl I 34 lk [e0,(n:Int),(k:Int),e3,b,c] s (S.eL 0) e0 1:=fun s b c=>Zq 0
 have l1:∀ s b c,S.Yl I 34 lk [e0,(n:Int),(k:Int),e3,b,c] s (S.eL 1) n 1:=fun s b c=>Zq 1
 have l2:∀ s b c,S.Yl I 34 lk [e0,(n:Int),(k:Int),e3,b,c] s (S.eL 2) k 1:=fun s b c=>Zq 2
 have l3:∀ s b c,S.Yl I 34 lk [e0,(n:Int),(k:Int),e3,b,c] s (S.eL 3) e3 1:=fun s b c=>Zq 3
 have l4:∀ s b c,S.Yl I 34 lk [e0,(n:Int),(k:Int),e3,b,c] s (S.eL 4) b 1:=fun s b c=>Zq 4
 have l5:∀ s b c,S.Yl I 34 lk [e0,(n:Int),(k:Int),e3,b,c] s (S.eL 5) c 1:=fun s b c=>Zq 5
 show S.WS I 34 lk false [S.sAs 4 (S.eC 0),S.sAs 5 (S.eC 0),
  S.sWh (S.eLt (S.eL 4) (S.eL 1))
   [S.sAs 5 (S.eB 8 (S.eL 5) (S.eB 10 (S.eF S.kNDig [S.eL 0,S.eL 4]) (S.eL 2))),
    S.sPut (S.eAdd (S.eL 3) (S.eL 4)) 0 (S.eAnd (S.eL 5) (S.eC 65535)),S.sAs 5 (S.eShr (S.eL 5) 16),S.sInc 4],
  S.sPut (S.eAdd (S.eL 3) (S.eL 1)) 0 (S.eL 5),S.sVal (S.eC 0)] [e0,(n:Int),(k:Int),e3,e4,e5] s1 8 _ _
 refine Zo (Zn 0) (by decide) ?_
 show S.WS I 34 lk false _ [e0,(n:Int),(k:Int),e3,0,e5] s1 _ _ _
 refine Zo (Zn 0) (by decide) ?_
 show S.WS I 34 lk false _ [e0,(n:Int),(k:Int),e3,0,0] s1 _ _ _
 refine Zfk (by decide) (fun env s C q=>∃ (i:Nat) (c:Int) (acc:List Int),env=[e0,(n:Int),(k:Int),e3,(i:Int),c]/\q=n-i/\i<=n/\acc.length=i/\S.Digs acc/\S.RwS st s e3 acc/\(0<=c/\c<P)/\S.dval acc+c*65536^i=S.psum x i*P/\C<=50+450*i) (k0:=n)
  ⟨0,0,[],rfl,rfl,Yaf _,rfl,(fun d hd=>by cases hd),n0,⟨by decide,by omega⟩,by show (0:Int)+0*1=0*P;simp,by decide⟩ ?_
 rintro env s C q ⟨i,c,acc,rfl,rfl,hi,hla,hda,hS,hc,hinv,hC⟩;have y41:=Zm (op:=14) (by decide) (l4 s (i:Int) c) (l1 s _ _);rw [Zcl] at y41;refine ⟨_,_,y41,fun hz=>?_,fun hnz=>?_⟩
 ·have hiE:i=n:=Classical.byContradiction fun q=>by rw [if_pos (by omega)] at hz;cases hz
  subst hiE;refine Zb7 (x:=c) (p:=e3+i) ((Zm (op:=1) (by decide) (l3 s _ _) (l1 s _ _)).to_ (y:=e3+i) (by rw [Zau];unfold S.u32m;omega) (Yb _)) (l5 s _ _) (by decide) (by decide) (by unfold S.u32m;omega) hdl.2 ?_;have hS2:=Ze3 hS c;rw [hla] at hS2;refine Zfe (Zn 0) (by decide) fun st2 c2 h2 hc2=>⟨_,acc++[c],rfl,Zqe hS2 (h2.set4 _),Zbd hda ⟨hc.1,by omega⟩,by rw [Yd,hla];rfl,by rw [Zbc,hla];exact hinv,by omega⟩
 ·have hlt:i<n:=Classical.byContradiction fun q=>hnz (if_neg (by omega))
  have hdi:=hdat i (by omega);have bx:=Zy dx i;have y1:=Zc3 (d:=34) (dep:=34) (lk:=lk) (env:=[e0,(n:Int),(k:Int),e3,(i:Int),c]) (Za (l0 s _ _) (Za (l4 s _ _) Zg)) (by simp) (Za9 hN (Zww hx hA hS) ⟨by omega,by omega⟩) (by decide);rw [Yai] at y1;obtain ⟨d,hd⟩:=Yx (x.getD i 0);rw [<- hd] at y1 bx;have hm0:0<=d*P:=Yau bx.1 (by omega);have hm1:d*P<=65535*P:=Int.mul_le_mul_of_nonneg_right (by omega) (by omega);obtain ⟨tot,htot⟩:=Yx (c+d*P);have ht4:0<=tot/\tot<4294967296:=by omega
  refine Zo ((Zm (op:=8) (by decide) (l5 s _ _) (Zm (op:=10) (by decide) y1 (l2 s _ _))).to_ (y:=tot) (by rw [Z60 hk hP bx,Z6m hk hP hc bx,htot]) (Yb _)) (by decide) ?_
  show S.WS I 34 lk false _ [e0,(n:Int),(k:Int),e3,(i:Int),tot] s _ _ _
  refine Zb7 (x:=tot%65536) (p:=e3+i) ((Zm (op:=1) (by decide) (l3 s _ _) (l4 s _ _)).to_ (y:=e3+i) (by rw [Zau];have:=hdi.2.1;unfold S.u32m;omega) (Yb _)) ((Zm (op:=7) (by decide) (l5 s _ _) (Zn 65535)).to_ (Zoc ht4.1 ht4.2) (Yb _)) (by decide) (by decide) (by have:=hdi.2.1;unfold S.u32m;omega) hdi.2 ?_;have hS2:=Ze3 hS (tot%65536);rw [hla] at hS2;refine Zo ((Zm (op:=11) (by decide) (l5 _ _ _) (Zn 16)).to_ (y:=tot/65536) (by rw [Zkd]) (Yb _)) (by decide) ?_
  show S.WS I 34 lk false _ [e0,(n:Int),(k:Int),e3,(i:Int),tot/65536] _ _ _ _
  refine Zo ((Zm (op:=1) (by decide) (l4 _ _ _) (Zn 1)).to_ (y:=((i+1:Nat):Int)) (by rw [Zau];unfold S.u32m;omega) (Yb _)) (by decide) ?_
  show S.WS I 34 lk false _ [e0,(n:Int),(k:Int),e3,((i+1:Nat):Int),tot/65536] _ _ _ _
  refine Z5 (k2:=n-(i+1)) (by omega) ⟨i+1,tot/65536,acc++[tot%65536],rfl,rfl,by omega,by rw [Yd,hla];rfl,Zbd hda ⟨by omega,by omega⟩,hS2,⟨by omega,by omega⟩,?_,by omega⟩;rw [Zbc,hla,S.psum,<- hd,Int.pow_succ];have hqt:tot=tot%65536+65536*(tot/65536):=by omega
  generalize (65536:Int)^i=Bi at *;generalize tot%65536=dd at *;generalize tot/65536=qq at *;generalize S.dval acc=D at *;generalize S.psum x i=Px at *
  grind
end
end
section
open Go.RowKit
namespace S
def RwAt (I:Img)(mem:Int->Int)(A:Int)(ds:List Int):Prop:=(∀ j:Nat,j<ds.length->Dat I (A+j))/\∀ j:Nat,j<ds.length->mem (A+j)=ds.getD j 0
def BwR (st:Vw)(A:Int)(n:Nat)(val:Int->Int)(N:Nat)(o:BO)(k:Nat):Prop :=
 ∃ s acc b,o=.ret s/\RwS st s A acc/\Digs acc/\acc.length=n/\(b=0\/b=1)/\s.reg 4=b/\dval acc=val b/\k<=N
end S
theorem Z61 {env:List Int}(h:(env.length:Int)=8):∃ a b c d e f g i,env=[a,b,c,d,e,f,g,i]:=by
 match env,h with
 | [a,b,c,d,e,f,g,i],_=>exact ⟨a,b,c,d,e,f,g,i,rfl⟩
 | [],h=>simp at h
 | [_],h=>simp at h
 | [_,_],h=>simp at h
 | [_,_,_],h=>simp at h
 | [_,_,_,_],h=>simp at h
 | [_,_,_,_,_],h=>simp at h
 | [_,_,_,_,_,_],h=>simp at h
 | [_,_,_,_,_,_,_],h=>simp at h
 | _::_::_::_::_::_::_::_::_::_,h=>simp only [Yi] at h;omega
section
variable {I:S.Img}(hN:S.NSegs I)
include hN
theorem Zsx {st:S.Vw}{A B g:Int}{u y:List Int}{n:Nat}(hu:S.RwAt I st.mem A u)(hy:S.RwAt I st.mem B y)(du:S.Digs u)(dy:S.Digs y)(hul:u.length=n+1)(hyl:y.length=n)(hn:n<=900)(hAB:A+n+1<=B)(hg:0<=g/\g<65536) :
 ∀ st1,S.Sim st st1->S.Real I S.kNTake false (st1.args [A,B,n,g]) 23 (fun _ o c=>S.BwR st A (n+1) (fun b=>S.dval u-g*S.dval y+b*65536^(n+1)) (100+90*n) o c):=fun st1 hs1=>by
 obtain ⟨iF,hF⟩:=hN.take;have hr:=Zcy hN.ok S.rNTake (by kernel_rfl) hF (dep:=0) (by decide) (st1.args [A,B,n,g]) (S.BwR st A (n+1) (fun b=>S.dval u-g*S.dval y+b*65536^(n+1)) (100+90*n)) fun lk env hl hp=>?_
 ·exact hr
 obtain ⟨e0,e1,e2,e3,e4,e5,e6,e7,rfl⟩:=Z61 hl;have h0:e0=A:=hp 0 (show (0:Int)<4 by decide);have h1:e1=B:=hp 1 (show (1:Int)<4 by decide);have h2:e2=(n:Int):=hp 2 (show (2:Int)<4 by decide);have h3:e3=g:=hp 3 (show (3:Int)<4 by decide);subst h0 h1 h2 h3;have hs:S.Sim st (st1.args [e0,e1,(n:Int),e3]):=hs1.args (by simp);obtain ⟨s1,hs1e⟩:∃ s,s=st1.args [e0,e1,(n:Int),e3]:=⟨_,rfl⟩
 rw [<- hs1e] at hs ⊢;have hsz:=hN.ok.size2;have n0:=Zqd (A:=e0) hs;have ub:∀ i:Nat,i<n+1->0<=e0+i/\e0+i<4294967296:=fun i hi=>by
  have:=hu.1 i (by omega);have h1:=this.1;have h2:=this.2.1;omega
 have vb:∀ i:Nat,i<n->0<=e1+i/\e1+i<4294967296:=fun i hi=>by
  have:=hy.1 i (by omega);have h1:=this.1;have h2:=this.2.1;omega
 have l0:∀ s a b c d,S.Yl I 0 lk [e0,e1,(n:Int),e3,a,b,c,d] s (S.eL 0) e0 1:=fun s a b c d=>Zq 0
 have l1:∀ s a b c d,S.Yl I 0 lk [e0,e1,(n:Int),e3,a,b,c,d] s (S.eL 1) e1 1:=fun s a b c d=>Zq 1
 have l2:∀ s a b c d,S.Yl I 0 lk [e0,e1,(n:Int),e3,a,b,c,d] s (S.eL 2) n 1:=fun s a b c d=>Zq 2
 have l3:∀ s a b c d,S.Yl I 0 lk [e0,e1,(n:Int),e3,a,b,c,d] s (S.eL 3) e3 1:=fun s a b c d=>Zq 3
 have l4:∀ s a b c d,S.Yl I 0 lk [e0,e1,(n:Int),e3,a,b,c,d] s (S.eL 4) a 1:=fun s a b c d=>Zq 4
 have l5:∀ s a b c d,S.Yl I 0 lk [e0,e1,(n:Int),e3,a,b,c,d] s (S.eL 5) b 1:=fun s a b c d=>Zq 5
 have l6:∀ s a b c d,S.Yl I 0 lk [e0,e1,(n:Int),e3,a,b,c,d] s (S.eL 6) c 1:=fun s a b c d=>Zq 6
 have l7:∀ s a b c d,S.Yl I 0 lk [e0,e1,(n:Int),e3,a,b,c,d] s (S.eL 7) d 1:=fun s a b c d=>Zq 7
 show S.WS I 0 lk false [S.sAs 4 (S.eC 0),S.sAs 5 (S.eC 0),S.sAs 6 (S.eC 0),
  S.sWh (S.eLt (S.eL 4) (S.eL 2))
   [S.sAs 7 (S.eAdd (S.eL 5) (S.eB 3 (S.eL 3) (S.eM (S.eAdd (S.eL 1) (S.eL 4)) 0))),
    S.sAs 5 (S.eShr (S.eL 7) 16),
    S.sAs 7 (S.eSub (S.eAdd (S.eC 65536) (S.eM (S.eAdd (S.eL 0) (S.eL 4)) 0)) (S.eAdd (S.eAnd (S.eL 7) (S.eC 65535)) (S.eL 6))),
    S.sPut (S.eAdd (S.eL 0) (S.eL 4)) 0 (S.eAnd (S.eL 7) (S.eC 65535)),
    S.sAs 6 (S.eSub (S.eC 1) (S.eShr (S.eL 7) 16)),
    S.sInc 4],
  S.sAs 7 (S.eSub (S.eAdd (S.eC 65536) (S.eM (S.eAdd (S.eL 0) (S.eL 2)) 0)) (S.eAdd (S.eL 5) (S.eL 6))),
  S.sPut (S.eAdd (S.eL 0) (S.eL 2)) 0 (S.eAnd (S.eL 7) (S.eC 65535)),
  S.sVal (S.eSub (S.eC 1) (S.eShr (S.eL 7) 16))] [e0,e1,(n:Int),e3,e4,e5,e6,e7] s1 8 _ _
 refine Zo (Zn 0) (by decide) ?_
 show S.WS I 0 lk false _ [e0,e1,(n:Int),e3,0,e5,e6,e7] s1 _ _ _
 refine Zo (Zn 0) (by decide) ?_
 show S.WS I 0 lk false _ [e0,e1,(n:Int),e3,0,0,e6,e7] s1 _ _ _
 refine Zo (Zn 0) (by decide) ?_
 show S.WS I 0 lk false _ [e0,e1,(n:Int),e3,0,0,0,e7] s1 _ _ _
 refine Zfk (by decide) (fun env s C q=>∃ (i:Nat) (c b d:Int) (acc:List Int),env=[e0,e1,(n:Int),e3,(i:Int),c,b,d]/\q=n-i/\i<=n/\acc.length=i/\S.Digs acc/\S.RwS st s e0 acc/\(0<=c/\c<65536)/\(b=0\/b=1)/\S.psum u i-e3*S.psum y i=S.dval acc-(c+b)*65536^i/\C<=50+80*i) (k0:=n)
  ⟨0,0,0,e7,[],rfl,rfl,Yaf _,rfl,(fun d hd=>by cases hd),n0,by decide,.inl rfl,by show (0:Int)-e3*0=0-(0+0)*1;simp,by decide⟩ ?_
 rintro env s C q ⟨i,c,b,d,acc,rfl,rfl,hi,hla,hda,hS,hc,hb,hinv,hC⟩;have y42:=Zm (op:=14) (by decide) (l4 s (i:Int) c b d) (l2 s _ _ _ _);rw [Zcl] at y42;have bu:=Zy du i;have hui:=hu.1 i (by omega);have humi:s.mem (e0+i)=u.getD i 0:=by
  rw [hS.out_ _ (by omega)];exact hu.2 i (by omega)
 have u1:=ub i (by omega);refine ⟨_,_,y42,fun hz=>?_,fun hnz=>?_⟩
 ·have hiE:i=n:=Classical.byContradiction fun q=>by rw [if_pos (by omega)] at hz;cases hz
  subst hiE;have yu:=Zlt (n:=0) (p:=e0+i) ((Zm (op:=1) (by decide) (l0 s (i:Int) c b d) (l2 s _ _ _ _)).to_ (y:=e0+i) (by rw [Zau];unfold S.u32m;omega) (Yb _)) (by unfold S.u32m;omega) (Za7 hui);rw [humi] at yu;obtain ⟨t,ht⟩:=Yx (65536+u.getD i 0-(c+b));have tb:0<=t/\t<131072:=by omega
  refine Zo ((Zm (op:=2) (by decide) (Zm (op:=1) (by decide) (Zn 65536) yu) (Zm (op:=1) (by decide) (l5 s _ _ _ _) (l6 s _ _ _ _))).to_ (y:=t) (by rw [Zau,Zau,Zj7];unfold S.u32m;omega) (Yb _)) (by decide) ?_
  show S.WS I 0 lk false _ [e0,e1,(i:Int),e3,(i:Int),c,b,t] s _ _ _
  refine Zb7 (x:=t%65536) (p:=e0+i) ((Zm (op:=1) (by decide) (l0 s _ _ _ _) (l2 s _ _ _ _)).to_ (y:=e0+i) (by rw [Zau];unfold S.u32m;omega) (Yb _)) ((Zm (op:=7) (by decide) (l7 s _ _ _ _) (Zn 65535)).to_ (Zoc (by omega) (by omega)) (Yb _)) (by decide) (by decide) (by unfold S.u32m;omega) hui.2 ?_;have hS2:=Ze3 hS (t%65536);rw [hla] at hS2;refine Zfe ((Zm (op:=2) (by decide) (Zn 1) (Zm (op:=11) (by decide) (l7 _ _ _ _ _) (Zn 16))).to_ (y:=1-t/65536) (by rw [Zkd,Zj7];unfold S.u32m;omega) (Yb _)) (by decide) fun st2 c2 h2 hc2=>⟨_,acc++[t%65536],1-t/65536,rfl,Zqe hS2 (h2.set4 _),Zbd hda ⟨by omega,by omega⟩,by rw [Yd,hla];rfl,by omega,Zj _ _ _,?_,by omega⟩
  rw [Zbc,hla,Int.pow_succ];have hU:S.dval u=S.psum u i+u.getD i 0*65536^i:=by rw [<- Zan (x:=u) (n:=i+1) (by omega)];rfl
  have hY:S.dval y=S.psum y i:=(Zan (by omega)).symm;rw [hU,hY];have hqt:t=t%65536+65536*(t/65536):=by omega
  have hinv':S.psum u i-e3*S.psum y i=S.dval acc-(c+b)*65536^i:=hinv;generalize (65536:Int)^i=Bi at *;generalize t%65536=dd at *;generalize t/65536=qq at *;generalize S.dval acc=D at *;generalize S.psum u i=Pu at *;generalize S.psum y i=Py at *;generalize u.getD i 0=ui at *;clear hui humi u1 y42 yu hS hS2 hb hc tb
  grind
 ·have hlt:i<n:=Classical.byContradiction fun q=>hnz (if_neg (by omega))
  have by_:=Zy dy i;have hyi:=hy.1 i (by omega);have hymi:s.mem (e1+i)=y.getD i 0:=by
   rw [hS.out_ _ (by omega)];exact hy.2 i (by omega)
  have v1:=vb i hlt;have yy:=Zlt (n:=0) (p:=e1+i) ((Zm (op:=1) (by decide) (l1 s (i:Int) c b d) (l4 s _ _ _ _)).to_ (y:=e1+i) (by rw [Zau];unfold S.u32m;omega) (Yb _)) (by unfold S.u32m;omega) (Za7 hyi);rw [hymi] at yy;obtain ⟨yi,hyi2⟩:∃ q,q=y.getD i 0:=⟨_,rfl⟩
  obtain ⟨ui,hui2⟩:∃ q,q=u.getD i 0:=⟨_,rfl⟩
  rw [<- hyi2] at by_ yy;rw [<- hui2] at bu humi;have hm0:0<=e3*yi:=Yau hg.1 by_.1;have hm1:e3*yi<=65535*65535:=Int.mul_le_mul (by omega) (by omega) by_.1 (by decide);obtain ⟨p,hp_⟩:=Yx (c+e3*yi);have pb:0<=p/\p<4294967296:=by omega
  refine Zo ((Zm (op:=1) (by decide) (l5 s _ _ _ _) (Zm (op:=3) (by decide) (l3 s _ _ _ _) yy)).to_ (y:=p) (by
   rw [Zau,Z6z,hp_];generalize e3*yi=ay at *;unfold S.u32m;omega) (Yb _)) (by decide) ?_
  show S.WS I 0 lk false _ [e0,e1,(n:Int),e3,(i:Int),c,b,p] s _ _ _
  refine Zo ((Zm (op:=11) (by decide) (l7 s _ _ _ _) (Zn 16)).to_ (y:=p/65536) (by rw [Zkd]) (Yb _)) (by decide) ?_
  show S.WS I 0 lk false _ [e0,e1,(n:Int),e3,(i:Int),p/65536,b,p] s _ _ _
  have yu:=Zlt (n:=0) (p:=e0+i) ((Zm (op:=1) (by decide) (l0 s (i:Int) (p/65536) b p) (l4 s _ _ _ _)).to_ (y:=e0+i) (by rw [Zau];unfold S.u32m;omega) (Yb _)) (by unfold S.u32m;omega) (Za7 hui);rw [humi] at yu;obtain ⟨t,ht⟩:=Yx (65536+ui-(p%65536+b));have tb:0<=t/\t<131072:=by omega
  refine Zo ((Zm (op:=2) (by decide) (Zm (op:=1) (by decide) (Zn 65536) yu) (Zm (op:=1) (by decide) (Zm (op:=7) (by decide) (l7 s _ _ _ _) (Zn 65535)) (l6 s _ _ _ _))).to_ (y:=t) (by rw [Zoc pb.1 pb.2,Zau,Zau,Zj7];unfold S.u32m;omega) (Yb _)) (by decide) ?_
  show S.WS I 0 lk false _ [e0,e1,(n:Int),e3,(i:Int),p/65536,b,t] s _ _ _
  refine Zb7 (x:=t%65536) (p:=e0+i) ((Zm (op:=1) (by decide) (l0 s _ _ _ _) (l4 s _ _ _ _)).to_ (y:=e0+i) (by rw [Zau];unfold S.u32m;omega) (Yb _)) ((Zm (op:=7) (by decide) (l7 s _ _ _ _) (Zn 65535)).to_ (Zoc (by omega) (by omega)) (Yb _)) (by decide) (by decide) (by unfold S.u32m;omega) hui.2 ?_;have hS2:=Ze3 hS (t%65536);rw [hla] at hS2;refine Zo ((Zm (op:=2) (by decide) (Zn 1) (Zm (op:=11) (by decide) (l7 _ _ _ _ _) (Zn 16))).to_ (y:=1-t/65536) (by rw [Zkd,Zj7];unfold S.u32m;omega) (Yb _)) (by decide) ?_
  show S.WS I 0 lk false _ [e0,e1,(n:Int),e3,(i:Int),p/65536,1-t/65536,t] _ _ _ _
  refine Zo ((Zm (op:=1) (by decide) (l4 _ _ _ _ _) (Zn 1)).to_ (y:=((i+1:Nat):Int)) (by rw [Zau];unfold S.u32m;omega) (Yb _)) (by decide) ?_
  show S.WS I 0 lk false _ [e0,e1,(n:Int),e3,((i+1:Nat):Int),p/65536,1-t/65536,t] _ _ _ _
  refine Z5 (k2:=n-(i+1)) (by omega) ⟨i+1,p/65536,1-t/65536,t,acc++[t%65536],rfl,rfl,by omega,by rw [Yd,hla];rfl,Zbd hda ⟨by omega,by omega⟩,hS2,⟨by omega,by omega⟩,by omega,?_,by omega⟩;rw [Zbc,hla,S.psum,S.psum,<- hyi2,<- hui2,Int.pow_succ];have hqt:t=t%65536+65536*(t/65536):=by omega
  have hqp:p=p%65536+65536*(p/65536):=by omega
  generalize (65536:Int)^i=Bi at *;generalize t%65536=dd at *;generalize t/65536=qq at *;generalize p%65536=pd at *;generalize p/65536=pq at *;generalize S.dval acc=D at *;generalize S.psum u i=Pu at *;generalize S.psum y i=Py at *;clear hui humi u1 y42 yu yy hS hS2 hb hc tb pb hm0 hm1 v1 hymi hyi by_ bu
  grind
theorem Zsy {st:S.Vw}{A B:Int}{u y:List Int}{n:Nat}(hu:S.RwAt I st.mem A u)(hy:S.RwAt I st.mem B y)(du:S.Digs u)(dy:S.Digs y)(hul:u.length=n+1)(hyl:y.length=n)(hn:n<=900)(hAB:A+n+1<=B) :
 ∀ st1,S.Sim st st1->S.Real I S.kNBack false (st1.args [A,B,n]) 20 (fun _ o c=>S.BwR st A (n+1) (fun b=>S.dval u+S.dval y-b*65536^(n+1)) (100+70*n) o c):=fun st1 hs1=>by
 obtain ⟨iF,hF⟩:=hN.back;have hr:=Zcy hN.ok S.rNBack (by kernel_rfl) hF (dep:=0) (by decide) (st1.args [A,B,n]) (S.BwR st A (n+1) (fun b=>S.dval u+S.dval y-b*65536^(n+1)) (100+70*n)) fun lk env hl hp=>?_
 ·exact hr
 obtain ⟨e0,e1,e2,e3,e4,rfl⟩:=Z13 hl;have h0:e0=A:=hp 0 (show (0:Int)<3 by decide);have h1:e1=B:=hp 1 (show (1:Int)<3 by decide);have h2:e2=(n:Int):=hp 2 (show (2:Int)<3 by decide);subst h0 h1 h2;have hs:S.Sim st (st1.args [e0,e1,(n:Int)]):=hs1.args (by simp);obtain ⟨s1,hs1e⟩:∃ s,s=st1.args [e0,e1,(n:Int)]:=⟨_,rfl⟩
 rw [<- hs1e] at hs ⊢;have hsz:=hN.ok.size2;have n0:=Zqd (A:=e0) hs;have ub:∀ i:Nat,i<n+1->0<=e0+i/\e0+i<4294967296:=fun i hi=>by
  have:=hu.1 i (by omega);have h1:=this.1;have h2:=this.2.1;omega
 have vb:∀ i:Nat,i<n->0<=e1+i/\e1+i<4294967296:=fun i hi=>by
  have:=hy.1 i (by omega);have h1:=this.1;have h2:=this.2.1;omega
 have l0:∀ s a b,S.Yl I 0 lk [e0,e1,(n:Int),a,b] s (S.eL 0) e0 1:=fun s a b=>Zq 0
 have l1:∀ s a b,S.Yl I 0 lk [e0,e1,(n:Int),a,b] s (S.eL 1) e1 1:=fun s a b=>Zq 1
 have l2:∀ s a b,S.Yl I 0 lk [e0,e1,(n:Int),a,b] s (S.eL 2) n 1:=fun s a b=>Zq 2
 have l3:∀ s a b,S.Yl I 0 lk [e0,e1,(n:Int),a,b] s (S.eL 3) a 1:=fun s a b=>Zq 3
 have l4:∀ s a b,S.Yl I 0 lk [e0,e1,(n:Int),a,b] s (S.eL 4) b 1:=fun s a b=>Zq 4
 show S.WS I 0 lk false [S.sAs 3 (S.eC 0),S.sAs 4 (S.eC 0),
  S.sWh (S.eLt (S.eL 3) (S.eL 2))
   [S.sAs 4 (S.eAdd (S.eL 4) (S.eAdd (S.eM (S.eAdd (S.eL 0) (S.eL 3)) 0) (S.eM (S.eAdd (S.eL 1) (S.eL 3)) 0))),
    S.sPut (S.eAdd (S.eL 0) (S.eL 3)) 0 (S.eAnd (S.eL 4) (S.eC 65535)),
    S.sAs 4 (S.eShr (S.eL 4) 16),
    S.sInc 3],
  S.sAs 4 (S.eAdd (S.eL 4) (S.eM (S.eAdd (S.eL 0) (S.eL 2)) 0)),
  S.sPut (S.eAdd (S.eL 0) (S.eL 2)) 0 (S.eAnd (S.eL 4) (S.eC 65535)),
  S.sVal (S.eShr (S.eL 4) 16)] [e0,e1,(n:Int),e3,e4] s1 8 _ _
 refine Zo (Zn 0) (by decide) ?_
 show S.WS I 0 lk false _ [e0,e1,(n:Int),0,e4] s1 _ _ _
 refine Zo (Zn 0) (by decide) ?_
 show S.WS I 0 lk false _ [e0,e1,(n:Int),0,0] s1 _ _ _
 refine Zfk (by decide) (fun env s C q=>∃ (i:Nat) (c:Int) (acc:List Int),env=[e0,e1,(n:Int),(i:Int),c]/\q=n-i/\i<=n/\acc.length=i/\S.Digs acc/\S.RwS st s e0 acc/\(c=0\/c=1)/\S.psum u i+S.psum y i=S.dval acc+c*65536^i/\C<=40+60*i) (k0:=n)
  ⟨0,0,[],rfl,rfl,Yaf _,rfl,(fun d hd=>by cases hd),n0,.inl rfl,by show (0:Int)+0=0+0*1;simp,by decide⟩ ?_
 rintro env s C q ⟨i,c,acc,rfl,rfl,hi,hla,hda,hS,hc,hinv,hC⟩;have y32:=Zm (op:=14) (by decide) (l3 s (i:Int) c) (l2 s _ _);rw [Zcl] at y32;have bu:=Zy du i;have hui:=hu.1 i (by omega);have humi:s.mem (e0+i)=u.getD i 0:=by
  rw [hS.out_ _ (by omega)];exact hu.2 i (by omega)
 have u1:=ub i (by omega);refine ⟨_,_,y32,fun hz=>?_,fun hnz=>?_⟩
 ·have hiE:i=n:=Classical.byContradiction fun q=>by rw [if_pos (by omega)] at hz;cases hz
  subst hiE;have yu:=Zlt (n:=0) (p:=e0+i) ((Zm (op:=1) (by decide) (l0 s (i:Int) c) (l2 s _ _)).to_ (y:=e0+i) (by rw [Zau];unfold S.u32m;omega) (Yb _)) (by unfold S.u32m;omega) (Za7 hui);rw [humi] at yu;obtain ⟨t,ht⟩:=Yx (c+u.getD i 0);have tb:0<=t/\t<131072:=by omega
  refine Zo ((Zm (op:=1) (by decide) (l4 s _ _) yu).to_ (y:=t) (by rw [Zau];unfold S.u32m;omega) (Yb _)) (by decide) ?_
  show S.WS I 0 lk false _ [e0,e1,(i:Int),(i:Int),t] s _ _ _
  refine Zb7 (x:=t%65536) (p:=e0+i) ((Zm (op:=1) (by decide) (l0 s _ _) (l2 s _ _)).to_ (y:=e0+i) (by rw [Zau];unfold S.u32m;omega) (Yb _)) ((Zm (op:=7) (by decide) (l4 s _ _) (Zn 65535)).to_ (Zoc (by omega) (by omega)) (Yb _)) (by decide) (by decide) (by unfold S.u32m;omega) hui.2 ?_;have hS2:=Ze3 hS (t%65536);rw [hla] at hS2;refine Zfe ((Zm (op:=11) (by decide) (l4 _ _ _) (Zn 16)).to_ (y:=t/65536) (by rw [Zkd]) (Yb _)) (by decide) fun st2 c2 h2 hc2=>⟨_,acc++[t%65536],t/65536,rfl,Zqe hS2 (h2.set4 _),Zbd hda ⟨by omega,by omega⟩,by rw [Yd,hla];rfl,by omega,Zj _ _ _,?_,by omega⟩
  rw [Zbc,hla,Int.pow_succ];have hU:S.dval u=S.psum u i+u.getD i 0*65536^i:=by rw [<- Zan (x:=u) (n:=i+1) (by omega)];rfl
  have hY:S.dval y=S.psum y i:=(Zan (by omega)).symm;rw [hU,hY];have hqt:t=t%65536+65536*(t/65536):=by omega
  generalize (65536:Int)^i=Bi at *;generalize t%65536=dd at *;generalize t/65536=qq at *;generalize S.dval acc=D at *;generalize S.psum u i=Pu at *;generalize S.psum y i=Py at *;generalize u.getD i 0=ui at *;clear hui humi u1 y32 yu hS hS2 hc tb
  grind
 ·have hlt:i<n:=Classical.byContradiction fun q=>hnz (if_neg (by omega))
  have by_:=Zy dy i;have hyi:=hy.1 i (by omega);have hymi:s.mem (e1+i)=y.getD i 0:=by
   rw [hS.out_ _ (by omega)];exact hy.2 i (by omega)
  have v1:=vb i hlt;have yu:=Zlt (n:=0) (p:=e0+i) ((Zm (op:=1) (by decide) (l0 s (i:Int) c) (l3 s _ _)).to_ (y:=e0+i) (by rw [Zau];unfold S.u32m;omega) (Yb _)) (by unfold S.u32m;omega) (Za7 hui);have yy:=Zlt (n:=0) (p:=e1+i) ((Zm (op:=1) (by decide) (l1 s (i:Int) c) (l3 s _ _)).to_ (y:=e1+i) (by rw [Zau];unfold S.u32m;omega) (Yb _)) (by unfold S.u32m;omega) (Za7 hyi);rw [humi] at yu;rw [hymi] at yy;obtain ⟨t,ht⟩:=Yx (c+(u.getD i 0+y.getD i 0));have tb:0<=t/\t<131072:=by omega
  refine Zo ((Zm (op:=1) (by decide) (l4 s _ _) (Zm (op:=1) (by decide) yu yy)).to_ (y:=t) (by rw [Zau,Zau];unfold S.u32m;omega) (Yb _)) (by decide) ?_
  show S.WS I 0 lk false _ [e0,e1,(n:Int),(i:Int),t] s _ _ _
  refine Zb7 (x:=t%65536) (p:=e0+i) ((Zm (op:=1) (by decide) (l0 s _ _) (l3 s _ _)).to_ (y:=e0+i) (by rw [Zau];unfold S.u32m;omega) (Yb _)) ((Zm (op:=7) (by decide) (l4 s _ _) (Zn 65535)).to_ (Zoc (by omega) (by omega)) (Yb _)) (by decide) (by decide) (by unfold S.u32m;omega) hui.2 ?_;have hS2:=Ze3 hS (t%65536);rw [hla] at hS2;refine Zo ((Zm (op:=11) (by decide) (l4 _ _ _) (Zn 16)).to_ (y:=t/65536) (by rw [Zkd]) (Yb _)) (by decide) ?_
  show S.WS I 0 lk false _ [e0,e1,(n:Int),(i:Int),t/65536] _ _ _ _
  refine Zo ((Zm (op:=1) (by decide) (l3 _ _ _) (Zn 1)).to_ (y:=((i+1:Nat):Int)) (by rw [Zau];unfold S.u32m;omega) (Yb _)) (by decide) ?_
  show S.WS I 0 lk false _ [e0,e1,(n:Int),((i+1:Nat):Int),t/65536] _ _ _ _
  refine Z5 (k2:=n-(i+1)) (by omega) ⟨i+1,t/65536,acc++[t%65536],rfl,rfl,by omega,by rw [Yd,hla];rfl,Zbd hda ⟨by omega,by omega⟩,hS2,by omega,?_,by omega⟩;rw [Zbc,hla,S.psum,S.psum,Int.pow_succ];have hqt:t=t%65536+65536*(t/65536):=by omega
  generalize (65536:Int)^i=Bi at *;generalize t%65536=dd at *;generalize t/65536=qq at *;generalize S.dval acc=D at *;generalize S.psum u i=Pu at *;generalize S.psum y i=Py at *;generalize u.getD i 0=ui at *;generalize y.getD i 0=yi at *;clear hui humi u1 y32 yu yy hS hS2 hc tb v1 hymi hyi by_ bu
  grind
end
end
end Go.Proofs.YtfhiobkkdcdmiaaGreatDoor
