/- Parts. -/
import Derived.Test.YtfhiobkkdcdmiaaGreatDoorZNCmp
set_option linter.all false
open Nat renaming le_refl->Yb
open List renaming length_append->Yd,getD_eq_getElem?_getD->Ye,length_cons->Yi,getElem?_append_left->Yk,getElem?_append_right->Yn,length_nil->Yab
namespace Go.Proofs.YtfhiobkkdcdmiaaGreatDoor
section
open Go.RowKit
namespace S
def Top (ds:List Int)(n:Nat):Prop:=n<=ds.length/\(∀ j,n<=j->ds.getD j 0=0)/\(n=0\/ds.getD (n-1) 0≠0)
def signed (neg:Int)(x:Int):Int:=if neg=0 then x else -x
def HpAt (I:Img)(st:Vw)(H:Int)(ds:List Int):Prop:=st.reg 26=H/\Digs ds/\ds.length<=1000/\(∀ j:Nat,j<ds.length+2->Dat I (H+j))/\∀ i:Nat,i<ds.length->st.mem (H+2+i)=4*ds.getD i 0
def FinR (st:Vw)(H neg:Int)(ds:List Int)(N:Nat)(o:BO)(k:Nat):Prop:=∃ st',o=.ret st'/\k<=N /\
 ((dval ds<536870912+neg/\st'.reg 4=u32m (4*signed neg (dval ds))/\Sim st st')\/(536870912+neg<=dval ds/\∃ n,Top ds n/\st'.reg 4=4*H+1/\Sim (((st.sto H (32*(n+1)+31)).sto (H+1) (4*neg)).set 26 (H+n+2)) st'))
end S
theorem Zdf {ds:List Int}{n:Nat}(h:S.Top ds n):S.dval ds=S.dval (ds.take n):=by
 refine Zic fun j=>?_
 by_cases c:j<n
 ·rw [Ye,Ye,List.getElem?_take_of_lt c]
 ·rw [h.2.1 j (by omega),Ye,List.getElem?_eq_none (by rw [List.length_take];omega)]
  rfl
theorem Zmg:∀ (n:Nat) {ds:List Int},S.Digs ds->(∀ j,n<=j->ds.getD j 0=0)->n<=2->S.dval ds=ds.getD 0 0+65536*ds.getD 1 0:=fun n ds hd h hn=>by
 have h2:S.dval ds.tail.tail=0:=Zeo fun j=>by rw [Za0,Za0];exact h (j+1+1) (by omega)
 rw [Za4 ds,Za4 ds.tail,h2,Za0]
 show _=ds.getD 0 0+65536*ds.getD (0+1) 0
 omega
theorem Zv4 {ds:List Int}(hd:S.Digs ds){n:Nat}(hn:3<=n)(h:ds.getD (n-1) 0≠0):4294967296<=S.dval ds:=by
 have key:∀ (i:Nat) {l:List Int},S.Digs l->l.getD i 0≠0->1<=S.dval l:=by
  intro i
  induction i with
  | zero =>
   intro l hl h0;have h1:=Zy hl 0;have h2:=Zi (Zb8 hl);rw [Za4 l];omega
  | succ i ih =>
   intro l hl h0;have h1:=Zy hl 0;have h2:=ih (Zb8 hl) (by rw [Za0];exact h0);rw [Za4 l];omega
 have h3:=key (n-3) (Zb8 (Zb8 hd)) (by rw [Za0,Za0,show n-3+1+1=n-1 by omega];exact h);have b0:=Zy hd 0;have b1:=Zy (Zb8 hd) 0;rw [Za4 ds,Za4 ds.tail];omega
theorem Z56 (x:Int):S.alu 10 x (14%4294967296)=S.u32m (x*16384):=rfl
theorem Z7n (x:Int):S.alu 10 x (5%4294967296)=S.u32m (x*32):=rfl
theorem Z57 {a b:Int}(ha:0<=a/\a<65536)(hb:0<=b/\b<65536):S.alu 8 a (b*65536)=a+b*65536:=by
 show bits .or .u32 a (b*65536)=_
 rw [u32_or (by omega) (by omega) (by omega) (by omega),Nat.or_comm,<- u32_or (by omega) (by omega) (by omega) (by omega)];exact (Zz 16 (b*65536) a 65536 (by decide) (by omega) (by omega) (by omega) (by omega) (by omega) (by omega)).trans (by omega)
theorem Z1y (n:Int)(h:0<=n/\n<=100000):S.alu 8 (S.u32m ((n+1)*32)) (31%4294967296)=32*(n+1)+31:=by
 have e:S.u32m ((n+1)*32)=32*(n+1):=by unfold S.u32m;omega
 rw [e];exact Zz 5 (32*(n+1)) 31 32 (by decide) (by omega) (by omega) (by omega) (by omega) (by omega) (by omega)
section
variable {I:S.Img}(hN:S.NSegs I)
include hN
theorem Zn7 {st:S.Vw}{H neg:Int}{ds:List Int}(hneg:neg=0\/neg=1)(h:S.HpAt I st H ds):∀ st1,S.Sim st st1->S.Real I S.kNFin false (st1.args [neg,(ds.length:Int)]) 19 (fun _ o k=>S.FinR st H neg ds (300+60*ds.length) o k):=fun st1 hs1=>by
 obtain ⟨iF,hF⟩:=hN.fin;obtain ⟨h26,hdg,hfew,hdat,hmem⟩:=h;have hr:=Zcy hN.ok S.rNFin (by kernel_rfl) hF (dep:=0) (by decide) (st1.args [neg,(ds.length:Int)]) (S.FinR st H neg ds (300+60*ds.length)) fun lk env hl hp=>?_
 ·exact hr
 obtain ⟨e0,e1,e2,e3,rfl⟩:=Z6v hl;have h0:e0=neg:=hp 0 (show (0:Int)<2 by decide);have h1:e1=(ds.length:Int):=hp 1 (show (1:Int)<2 by decide);subst h0 h1;have hs:S.Sim st (st1.args [e0,(ds.length:Int)]):=hs1.args (by simp);obtain ⟨s1,hs1e⟩:∃ s,s=st1.args [e0,(ds.length:Int)]:=⟨_,rfl⟩
 rw [<- hs1e] at hs ⊢;have hm:s1.mem=st.mem:=hs.mem;have hr26:s1.reg 26=H:=by rw [hs.reg 26 (by decide)];exact h26
 have hsz:=hN.ok.size2;have hd0:=hdat 0 (by omega);have hd1:=hdat 1 (by omega);have hdl:=hdat (ds.length+1) (by omega);rw [show H+((0:Nat):Int)=H by omega] at hd0;rw [show H+((1:Nat):Int)=H+1 by omega] at hd1;have hH0:=hd0.1;have hHl:=hdl.2.1;have yh:∀ env,S.Yl I 0 lk env s1 S.eH H 1:=fun env=>(Zxe (n:=26) (by decide)).to_ hr26 (Yb _)
 have hl0:∀ b c d,S.Yl I 0 lk [e0,b,c,d] s1 (S.eL 0) e0 1:=fun b c d=>Zq 0
 have hl1:∀ b c d,S.Yl I 0 lk [e0,b,c,d] s1 (S.eL 1) b 1:=fun b c d=>Zq 1
 have hl2:∀ b c d,S.Yl I 0 lk [e0,b,c,d] s1 (S.eL 2) c 1:=fun b c d=>Zq 2
 have hl3:∀ b c d,S.Yl I 0 lk [e0,b,c,d] s1 (S.eL 3) d 1:=fun b c d=>Zq 3
 have dg:∀ i:Nat,i<ds.length->∀ env,S.Yl I 0 lk env s1 (S.eM S.eH (2+i)) (4*ds.getD i 0) 2:=fun i hi env=>by
  have hdi:=hdat (i+2) (by omega);rw [show H+((i+2:Nat):Int)=H+2+i by omega] at hdi;refine (Zlt (n:=2+i) (p:=H+2+i) (yh env) (by have:=hdi.2.1;unfold S.u32m;omega) (Za7 hdi)).to_ ?_ (Yb _);rw [hm];exact hmem i hi
 show S.WS I 0 lk false [S.sAs 3 (S.eC 1),
  S.sWh (S.eL 3) [S.sAs 3 (S.eC 0),S.sWhen (S.eL 1) [S.sWhen (S.eNot (S.eM (S.eAdd S.eH (S.eL 1)) 1)) [S.sAs 1 (S.eSub (S.eL 1) (S.eC 1)),S.sAs 3 (S.eC 1)]]],
  S.sAs 2 (S.eC 0),S.sWhen (S.eL 1) [S.sAs 2 (S.eShr (S.eM S.eH 2) 2)],
  S.sWhen (S.eQ (S.eL 1) (S.eC 2)) [S.sAs 2 (S.eB 8 (S.eL 2) (S.eShl (S.eM S.eH 3) 14))],
  S.sWhen (S.eLt (S.eL 1) (S.eC 3)) [S.sWhen (S.eLt (S.eL 2) (S.eAdd (S.eC 536870912) (S.eL 0))) [S.sWhen (S.eL 0) [S.sAs 2 (S.eSub (S.eC 0) (S.eL 2))],S.sVal (S.eShl (S.eL 2) 2)]],
  S.sPut S.eH 0 (S.eB 8 (S.eShl (S.eAdd (S.eL 1) (S.eC 1)) 5) (S.eC 31)),S.sPut S.eH 1 (S.eShl (S.eL 0) 2),
  S.sSet 26 (S.eAdd (S.eAdd S.eH (S.eL 1)) (S.eC 2)),S.sVal (S.eRef (S.eSub (S.eSub S.eH (S.eL 1)) (S.eC 2)))] [e0,(ds.length:Int),e2,e3] s1 8 _ _
 refine Zo (Zn 1) (by decide) ?_
 show S.WS I 0 lk false _ [e0,(ds.length:Int),e2,1] s1 _ _ _
 refine Zfk (by decide) (fun env s C k=>s=s1/\∃ (n:Nat) (f:Int),env=[e0,(n:Int),e2,f]/\n<=ds.length/\(∀ j,n<=j->ds.getD j 0=0)/\((f=0/\k=0/\(n=0\/ds.getD (n-1) 0≠0)/\C<=80+50*(ds.length-n))\/(f=1/\k=n+1/\C<=20+50*(ds.length-n)))) (k0:=ds.length+1)
  ⟨rfl,ds.length,1,rfl,Yb _,fun j hj=>by rw [Ye,List.getElem?_eq_none hj];rfl,.inr ⟨rfl,rfl,by omega⟩⟩ ?_
 rintro env s C k ⟨rfl,n,f,rfl,hn,hz,hcase⟩;refine ⟨f,1,hl3 _ _ _,fun hf=>?_,fun hf=>?_⟩
 ·rcases hcase with ⟨_,_,htop,hC⟩ | ⟨q,_,_⟩
  ·have hT:S.Top ds n:=⟨hn,hz,htop⟩
   have hnb:(n:Int)<=1000:=by omega
   have rest0:∀ (C:Nat) (m:Int) (Q:List Int->S.Vw->Nat->Prop),C<=250+60*ds.length->536870912+e0<=S.dval ds ->
    S.WS I 0 lk false [S.sPut S.eH 0 (S.eB 8 (S.eShl (S.eAdd (S.eL 1) (S.eC 1)) 5) (S.eC 31)),S.sPut S.eH 1 (S.eShl (S.eL 0) 2),S.sSet 26 (S.eAdd (S.eAdd S.eH (S.eL 1)) (S.eC 2)),S.sVal (S.eRef (S.eSub (S.eSub S.eH (S.eL 1)) (S.eC 2)))] [e0,(n:Int),m,f] s C Q (S.FinR st H e0 ds (300+60*ds.length)):=fun C m Q hC hbig=>by
    have yn:∀ s,S.Yl I 0 lk [e0,(n:Int),m,f] s (S.eL 1) n 1:=fun s=>Zq 1
    have y0:∀ s,S.Yl I 0 lk [e0,(n:Int),m,f] s (S.eL 0) e0 1:=fun s=>Zq 0
    have yhd:=(Zm (op:=8) (by decide) (Zm (op:=10) (by decide) (Zm (op:=1) (by decide) (yn s) (Zn 1)) (Zn 5)) (Zn 31)).to_ (y:=32*((n:Int)+1)+31) (by
     rw [Zau,Z7n,show S.u32m ((n:Int)+1%4294967296)=(n:Int)+1 by unfold S.u32m;omega];exact Z1y n ⟨by omega,by omega⟩) (Yb _)
    refine Zb7 (p:=H) (yh _) yhd (by decide) (by decide) (by unfold S.u32m;omega) hd0.2 ?_;have yh2:S.Yl I 0 lk [e0,(n:Int),m,f] (s.sto H (32*((n:Int)+1)+31)) S.eH H 1:=(Zxe (n:=26) (by decide)).to_ hr26 (Yb _);refine Zb7 (p:=H+1) yh2 ((Zm (op:=10) (by decide) (y0 _) (Zn 2)).to_ (y:=4*e0) (by rw [Z24];unfold S.u32m;omega) (Yb _)) (by decide) (by decide) (by have:=hd1.2.1;unfold S.u32m;omega) hd1.2 ?_;have yh3:S.Yl I 0 lk [e0,(n:Int),m,f] ((s.sto H (32*((n:Int)+1)+31)).sto (H+1) (4*e0)) S.eH H 1:=(Zxe (n:=26) (by decide)).to_ hr26 (Yb _);refine Z32 ((Zm (op:=1) (by decide) (Zm (op:=1) (by decide) yh3 (yn _)) (Zn 2)).to_ (y:=H+n+2) (by rw [Zau,Zau];unfold S.u32m;omega) (Yb _)) (by decide) ?_;have yh4:S.Yl I 0 lk [e0,(n:Int),m,f] (((s.sto H (32*((n:Int)+1)+31)).sto (H+1) (4*e0)).set 26 (H+n+2)) S.eH (H+n+2) 1:=(Zxe (n:=26) (by decide)).to_ (Zj _ _ _) (Yb _);have yv:=(Zm (op:=8) (by decide) (Zm (op:=10) (by decide) (Zm (op:=2) (by decide) (Zm (op:=2) (by decide) yh4 (yn _)) (Zn 2)) (Zn 2)) (Zn 1)).to_ (y:=4*H+1) (by
     rw [Zj7,Zj7,Z24,show S.u32m (S.u32m (H+n+2-n)-2%4294967296)=H by unfold S.u32m;omega,show S.u32m (H*4)=4*H by unfold S.u32m;omega];exact or1 (by omega) (by omega) (by omega)) (Yb _)
    refine Zfe yv (by decide) fun st2 c2 h2 hc2=>⟨_,rfl,by omega,.inr ⟨hbig,n,hT,rfl,(S.Sim.trans ?_ h2).set4 _⟩⟩
    exact ((hs.sto _ _).sto _ _).set _ _
   have rest1:∀ (C:Nat) (m:Int) (Q:List Int->S.Vw->Nat->Prop),C<=180+50*ds.length->0<=m/\m<4294967296->(n<3->m=S.dval ds) ->
    S.WS I 0 lk false [S.sWhen (S.eLt (S.eL 1) (S.eC 3)) [S.sWhen (S.eLt (S.eL 2) (S.eAdd (S.eC 536870912) (S.eL 0))) [S.sWhen (S.eL 0) [S.sAs 2 (S.eSub (S.eC 0) (S.eL 2))],S.sVal (S.eShl (S.eL 2) 2)]],
     S.sPut S.eH 0 (S.eB 8 (S.eShl (S.eAdd (S.eL 1) (S.eC 1)) 5) (S.eC 31)),S.sPut S.eH 1 (S.eShl (S.eL 0) 2),S.sSet 26 (S.eAdd (S.eAdd S.eH (S.eL 1)) (S.eC 2)),S.sVal (S.eRef (S.eSub (S.eSub S.eH (S.eL 1)) (S.eC 2)))] [e0,(n:Int),m,f] s C Q (S.FinR st H e0 ds (300+60*ds.length)):=fun C m Q hC hmb hmv=>by
    have y3:=Zm (op:=14) (by decide) (hl1 (n:Int) m f) (Zn 3);rw [Zcl] at y3;refine Zp y3 (by decide) (fun hq=>rest0 _ m Q (by omega) ?_) (fun hq=>?_)
    ·have hn3:¬ (n:Int)<3%4294967296:=fun q=>by rw [if_pos q] at hq;cases hq
     have:=Zv4 hdg (n:=n) (by omega) (htop.resolve_left (by omega));omega
    ·have hn3:n<3:=Classical.byContradiction fun q=>hq (if_neg (by omega))
     have hmE:=hmv hn3;have y4:=Zm (op:=14) (by decide) (hl2 (n:Int) m f) ((Zm (op:=1) (by decide) (Zn 536870912) (hl0 (n:Int) m f)).to_ (y:=536870912+e0) (by rw [Zau];unfold S.u32m;omega) (Yb _));rw [Zcl] at y4;refine Zp y4 (by decide) (fun hq=>Zbk 3 (rest0 _ m Q (by omega) ?_)) (fun hq=>?_)
     ·have:¬ m<536870912+e0:=fun q=>by rw [if_pos q] at hq;cases hq
      omega
     ·have hlt:m<536870912+e0:=Classical.byContradiction fun q=>hq (if_neg q)
      refine Zp (hl0 _ _ _) (by decide) (fun h0=>?_) (fun h0=>?_)
      ·refine Zfe (Zm (op:=10) (by decide) (hl2 _ _ _) (Zn 2)) (by decide) fun st2 c2 h2 hc2=>⟨_,rfl,by omega,.inl ⟨by omega,?_,(hs.trans h2).set4 _⟩⟩
       show S.alu 10 m (2%4294967296)=_
       unfold S.signed;rw [Z24,if_pos h0,hmE,Int.mul_comm]
      ·refine Zo (Zm (op:=2) (by decide) (Zn 0) (hl2 _ _ _)) (by decide) (Zbk 3 ?_)
       rw [Zj7]
       show S.WS I 0 lk false _ [e0,(n:Int),S.u32m (0-m),f] s _ _ _
       refine Zfe (Zm (op:=10) (by decide) (hl2 _ _ _) (Zn 2)) (by decide) fun st2 c2 h2 hc2=>⟨_,rfl,by omega,.inl ⟨by omega,?_,(hs.trans h2).set4 _⟩⟩
       show S.alu 10 (S.u32m (0-m)) (2%4294967296)=_
       unfold S.signed;rw [Z24,if_neg h0,<- hmE];unfold S.u32m;omega
   have b0:=Zy hdg 0;have b1:=Zy hdg 1;refine Zo (Zn 0) (by decide) ?_
   show S.WS I 0 lk false _ [e0,(n:Int),0,f] s _ _ _
   refine Zp (hl1 _ _ _) (by decide) (fun hn0=>?_) (fun hn0=>?_)
   ·have hn0':n=0:=by omega
    have y2:=Zhk (hl1 (n:Int) 0 f) (Zn 2);refine Zp y2 (by decide) (fun _=>rest1 _ 0 _ (by omega) (by decide) fun _=>?_) (fun hq=>absurd (if_neg (by omega)) hq);rw [Zdf hT,hn0'];rfl
   ·have hn1:0<n:=by omega
    refine Zo ((Zm (op:=11) (by decide) ((dg 0 (by omega) _).to_ rfl (Yb _)) (Zn 2)).to_ (y:=ds.getD 0 0) (by rw [Z23];omega) (Yb _)) (by decide) (Zbk 3 ?_)
    show S.WS I 0 lk false _ [e0,(n:Int),ds.getD 0 0,f] s _ _ _
    have y2:=Zhk (hl1 (n:Int) (ds.getD 0 0) f) (Zn 2);refine Zp y2 (by decide) (fun hq=>rest1 _ _ _ (by omega) ⟨by omega,by omega⟩ fun hn3=>?_) (fun hq=>?_)
    ·have hn2:n≠2:=fun q=>by rw [if_pos (by rw [q];rfl)] at hq;cases hq
     rw [Zmg n hdg hz (by omega),hz 1 (by omega)];omega
    ·have hn2:n=2:=Classical.byContradiction fun q=>hq (if_neg (by omega))
     refine Zo ((Zm (op:=8) (by decide) (hl2 (n:Int) (ds.getD 0 0) f) (Zm (op:=10) (by decide) ((dg 1 (by omega) _).to_ rfl (Yb _)) (Zn 14))).to_ (y:=S.dval ds) (by
      rw [Z56,show S.u32m (4*ds.getD 1 0*16384)=ds.getD 1 0*65536 by unfold S.u32m;omega,Z57 b0 b1,Zmg n hdg hz (by omega)];omega) (Yb _)) (by decide) (Zbk 3 ?_)
     show S.WS I 0 lk false _ [e0,(n:Int),S.dval ds,f] s _ _ _
     have:=Zmg n hdg hz (by omega);exact rest1 _ _ _ (by omega) ⟨by omega,by omega⟩ fun _=>rfl
  ·rw [q] at hf;cases hf
 ·rcases hcase with ⟨q,_⟩ | ⟨rfl,rfl,hC⟩
  ·exact absurd q hf
  refine Zo (Zn 0) (by decide) ?_
  show S.WS I 0 lk false _ [e0,(n:Int),e2,0] s _ _ _
  refine Zp (hl1 _ _ _) (by decide) (fun hn0=>Z5 (k2:=0) (by omega) ⟨rfl,n,0,rfl,hn,hz,.inl ⟨rfl,rfl,.inl (by omega),by omega⟩⟩) (fun hn0=>?_);obtain ⟨i,rfl⟩:∃ i,n=i+1:=⟨n-1,by omega⟩
  have hdi:=hdat (i+2) (by omega);rw [show H+((i+2:Nat):Int)=H+2+i by omega] at hdi;have ya:=(Zm (op:=1) (by decide) (yh _) (hl1 ((i+1:Nat):Int) e2 0)).to_ (y:=H+i+1) (by rw [Zau];have:=hdi.2.1;unfold S.u32m;omega) (Yb _);have ym:=Zlt (n:=1) (p:=H+2+i) ya (by have:=hdi.2.1;unfold S.u32m;omega) (Za7 hdi);rw [hm,hmem i (by omega)] at ym;refine Zp (Zhk ym (Zn 0)) (by decide) (fun hq=>Zbk 3 ?_) (fun hq=>?_)
  ·refine Z5 (k2:=0) (by omega) ⟨rfl,i+1,0,rfl,hn,hz,.inl ⟨rfl,rfl,.inr fun q=>?_,by omega⟩⟩
   rw [show i+1-1=i by omega] at q;rw [q] at hq
   cases hq
  ·have hzero:ds.getD i 0=0:=by
    refine Classical.byContradiction fun q=>hq (if_neg fun e=>q ?_)
    have e':4*ds.getD i 0=0:=e;omega
   refine Zo ((Zm (op:=2) (by decide) (hl1 _ _ _) (Zn 1)).to_ (y:=(i:Int)) (by rw [Zj7];unfold S.u32m;omega) (Yb _)) (by decide) ?_
   show S.WS I 0 lk false _ [e0,(i:Int),e2,0] s _ _ _
   refine Zo (Zn 1) (by decide) (Zbk 3 (Zbk 3 ?_))
   show S.WS I 0 lk false _ [e0,(i:Int),e2,1] s _ _ _
   refine Z5 (k2:=i+1) (by omega) ⟨rfl,i,1,rfl,by omega,fun j hj=>?_,.inr ⟨rfl,rfl,by omega⟩⟩;by_cases c:j=i
   ·subst c;exact hzero
   ·exact hz j (by omega)
end
end
section
open Go.RowKit
namespace S
def psum (x:List Int):Nat->Int
 | 0=>0
 | i+1=>psum x i+x.getD i 0*65536^i
def NumIn (I:Img)(mem:Int->Int)(H v neg:Int)(ds:List Int):Prop:=NumAt I mem v neg ds/\∀ p,v=4*p+1->p+ds.length+2<=H
structure HpS (st s:Vw)(H:Int)(acc:List Int):Prop where
 out_:∀ a,a<H+2\/H+2+acc.length<=a->s.mem a=st.mem a
 dig:∀ j:Nat,j<acc.length->s.mem (H+2+j)=4*acc.getD j 0
 reg:∀ j,¬ (4<=j/\j<=7)->s.reg j=st.reg j
 inp:s.inp=st.inp
 out:s.out=st.out
def NumR (I:Img)(st:Vw)(H neg val:Int)(M N:Nat)(o:BO)(k:Nat):Prop :=
 ∃ s ds,HpAt I s H ds/\dval ds=val/\(∀ a,a<H\/H+M<=a->s.mem a=st.mem a)/\(∀ j,¬ (4<=j/\j<=7)->s.reg j=st.reg j)/\s.inp=st.inp/\s.out=st.out/\FinR s H neg ds N o k
end S
theorem Zn8 (x:List Int):∀ i:Nat,S.psum x (i+1)=x.getD 0 0+65536*S.psum x.tail i
 | 0=>by
  show 0+x.getD 0 0*65536^0=x.getD 0 0+65536*0
  simp
 | i+1=>by
  have h:=Zn8 x i
  show S.psum x (i+1)+x.getD (i+1) 0*65536^(i+1)=x.getD 0 0+65536*(S.psum x.tail i+x.tail.getD i 0*65536^i)
  rw [h,Za0,Int.pow_succ]
  grind
theorem Zgj:∀ (n:Nat) (x:List Int),S.dval x=S.psum x n+65536^n*S.dval (x.drop n)
 | 0,x=>by
  show S.dval x=0+65536^0*S.dval x
  simp
 | n+1,x=>by
  have h:=Zgj n x.tail;rw [Zn8,Za4 x,h,List.drop_tail,Int.pow_succ]
  grind
theorem Zan {x:List Int}{n:Nat}(h:x.length<=n):S.psum x n=S.dval x:=by
 have:=Zgj n x;rw [List.drop_eq_nil_of_le h] at this;have e:S.dval []=0:=rfl;rw [e] at this;omega
theorem Zdg {x y:List Int}:∀ n:Nat,(∀ j,j<n->x.getD j 0=y.getD j 0)->S.psum x n=S.psum y n
 | 0,_=>rfl
 | n+1,h=>by
  rw [S.psum,S.psum,Zdg n fun j hj=>h j (by omega),h n (by omega)]
theorem Zbc (acc:List Int)(d:Int):S.dval (acc++[d])=S.dval acc+d*65536^acc.length:=by
 have h:=Zan (x:=acc++[d]) (n:=acc.length+1) (by simp);have e0:(acc++[d]).getD acc.length 0=d:=by
  rw [Ye,Yn (Yb _),Nat.sub_self];rfl
 have e1:S.psum (acc++[d]) acc.length=S.dval acc:=by
  rw [<- Zan (x:=acc) (Yb _)];refine Zdg _ fun j hj=>?_
  rw [Ye,Yk hj,<- Ye]
 rw [<- h,S.psum,e1,e0]
theorem Zg8 {acc:List Int}(h:S.Digs acc):S.dval acc<65536^acc.length:=by
 induction acc with
 | nil=>decide
 | cons d r ih =>
  obtain ⟨h1,h2⟩:=Zod h;have:=ih h2;rw [S.dval,Yi,Int.pow_succ];omega
theorem Zbd {acc:List Int}(h:S.Digs acc){d:Int}(hd:0<=d/\d<65536):S.Digs (acc++[d]):=fun x hx=>by
 rcases List.mem_append.1 hx with q | q
 ·exact h x q
 ·rw [List.mem_singleton] at q
  rw [q];exact hd
theorem Z1z {env:List Int}(h:(env.length:Int)=6):∃ a b c d e f,env=[a,b,c,d,e,f]:=by
 match env,h with
 | [a,b,c,d,e,f],_=>exact ⟨a,b,c,d,e,f,rfl⟩
 | [],h=>simp at h
 | [_],h=>simp at h
 | [_,_],h=>simp at h
 | [_,_,_],h=>simp at h
 | [_,_,_,_],h=>simp at h
 | [_,_,_,_,_],h=>simp at h
 | _::_::_::_::_::_::_::_,h=>simp only [Yi] at h;omega
theorem Zfq {x:Int}(h:0<=x/\x<4294967296):S.alu 10 (S.alu 7 x (65535%4294967296)) (2%4294967296)=4*(x%65536):=by
 rw [Zoc h.1 h.2,Z24];unfold S.u32m;omega
section
variable {st s:S.Vw}{H:Int}{acc:List Int}
theorem Zmh (h:S.Sim st s):S.HpS st s H []:=⟨fun a _=>by rw [h.mem],fun j hj=>absurd hj (Nat.not_lt_zero _),h.reg,h.inp,h.out⟩
theorem Zgk (h:S.HpS st s H acc)(d:Int):S.HpS st (s.sto (H+2+acc.length) (4*d)) H (acc++[d]):=by
 have hm:∀ a,(s.sto (H+2+acc.length) (4*d)).mem a=if a=H+2+acc.length then 4*d else s.mem a:=fun _=>rfl
 refine ⟨fun a ha=>?_,fun j hj=>?_,h.reg,h.inp,h.out⟩
 ·rw [Yd,Yi,Yab] at ha
  rw [hm,if_neg (by omega)];exact h.out_ a (by omega)
 ·rw [Yd,Yi,Yab] at hj
  rw [hm,Ye];by_cases c:j=acc.length
  ·subst c
   rw [if_pos rfl,Yn (Yb _),Nat.sub_self];rfl
  ·rw [if_neg (by omega),Yk (by omega),<- Ye]
   exact h.dig j (by omega)
theorem Zat {I:S.Img}{v neg:Int}{ds:List Int}(h:S.NumIn I st.mem H v neg ds)(hs:S.HpS st s H acc):S.NumAt I s.mem v neg ds:=h.1.same fun p e j hj=>hs.out_ _ (by have:=h.2 p e;omega)
theorem Zz6 {I:S.Img}(h:S.HpS st s H acc)(h26:st.reg 26=H)(hd:S.Digs acc)(hl:acc.length<=1000)(hdat:∀ j:Nat,j<acc.length+2->S.Dat I (H+j)):S.HpAt I s H acc:=⟨by rw [h.reg 26 (by decide)];exact h26,hd,hl,hdat,h.dig⟩
end
theorem Zjg {st st':S.Vw}{H neg:Int}{ds:List Int}{N k k':Nat}(h:S.FinR st H neg ds N (.ret st') k){N':Nat}(hk:k'<=N'):S.FinR st H neg ds N' (.ret (st'.set 4 (st'.reg 4))) k':=by
 obtain ⟨s,e,hk0,hc⟩:=h
 cases e
 refine ⟨_,rfl,hk,?_⟩;have e4:(st'.set 4 (st'.reg 4)).reg 4=st'.reg 4:=Zj _ _ _;rcases hc with ⟨q1,q2,q3⟩ | ⟨q1,n,q2,q3,q4⟩
 ·exact .inl ⟨q1,e4.trans q2,q3.set4 _⟩
 ·exact .inr ⟨q1,n,q2,e4.trans q3,q4.set4 _⟩
section
variable {I:S.Img}(hN:S.NSegs I)
include hN
theorem Zv5 {dep lk:Int}{env:List Int}{st s:S.Vw}{C:Nat}{Q:List Int->S.Vw->Nat->Prop}{r:List S.BS}{H neg val:Int}{acc:List Int}{M N:Nat}{en el:S.BE}{K:Nat}(hneg:neg=0\/neg=1)(hs:S.HpS st s H acc)(h26:st.reg 26=H)(hd:S.Digs acc)(hl:acc.length<=1000)(hdat:∀ j:Nat,j<acc.length+2->S.Dat I (H+j))(hv:S.dval acc=val)(hM:acc.length+2<=M)
 (hy:S.Yls I dep lk env s [en,el] [neg,(acc.length:Int)] K) (hde:S.dEs [en,el]<=20) (hdep:19<=dep) (hC:C+K+(300+60*acc.length)+14<=N):S.WS I dep lk false (S.sVal (S.eF S.kNFin [en,el])::r) env s C Q (S.NumR I st H neg val M N):=by
 have hat:=Zz6 (I:=I) hs h26 hd hl hdat;refine Zlu (T:=S.FinR s H neg acc (300+60*acc.length)) hy hde (by simp) (Zn7 hN hneg hat) hdep fun o k hT=>?_
 have hT0:=hT;obtain ⟨st',rfl,hk,_⟩:=hT;intro c hc;exact ⟨s,acc,hat,hv,fun a ha=>hs.out_ a (by omega),hs.reg,hs.inp,hs.out,Zjg hT0 (by omega)⟩
theorem Zn9 {st:S.Vw}{H v u nv nu neg:Int}{x y:List Int}(hx:S.NumIn I st.mem H v nv x)(hy:S.NumIn I st.mem H u nu y)(hneg:neg=0\/neg=1)(h26:st.reg 26=H)(hdat:∀ j:Nat,j<max x.length y.length+3->S.Dat I (H+j))(hfew:max x.length y.length<=900) :
 ∀ st1,S.Sim st st1->S.Real I S.kNAdd false (st1.args [v,u,neg]) 55 (fun _ o k=>S.NumR I st H neg (S.dval x+S.dval y) (max x.length y.length+3) (1000+800*max x.length y.length) o k):=fun st1 hs1=>by
 obtain ⟨iF,hF⟩:=hN.add;obtain ⟨L,hL⟩:=Yx (max x.length y.length);rw [<- hL] at hdat hfew ⊢;have hr:=Zcy hN.ok S.rNAdd (by kernel_rfl) hF (dep:=34) (by decide) (st1.args [v,u,neg]) (S.NumR I st H neg (S.dval x+S.dval y) (L+3) (1000+800*L)) fun lk env hl hp=>?_
 ·exact hr
 obtain ⟨e0,e1,e2,e3,e4,e5,rfl⟩:=Z1z hl;have h0:e0=v:=hp 0 (show (0:Int)<3 by decide);have h1:e1=u:=hp 1 (show (1:Int)<3 by decide);have h2:e2=neg:=hp 2 (show (2:Int)<3 by decide);subst h0 h1 h2;have hs:S.Sim st (st1.args [e0,e1,e2]):=hs1.args (by simp);obtain ⟨s1,hs1e⟩:∃ s,s=st1.args [e0,e1,e2]:=⟨_,rfl⟩
 rw [<- hs1e] at hs ⊢;have hsz:=hN.ok.size2;have hd0:=hdat 0 (by omega);have hdl:=hdat (L+2) (by omega);rw [show H+((0:Nat):Int)=H by omega] at hd0;have hH0:=hd0.1;have hHl:=hdl.2.1;have dx:S.Digs x:=hx.1.dig;have dy:S.Digs y:=hy.1.dig;have yh:∀ (env:List Int) (s:S.Vw) (acc:List Int),S.HpS st s H acc->S.Yl I 34 lk env s S.eH H 1:=fun env s acc h=>(Zxe (n:=26) (by decide)).to_ (by rw [h.reg 26 (by decide)];exact h26) (Yb _)
 have n0:=Zmh (H:=H) hs
 show S.WS I 34 lk false [S.sAs 3 (S.eC 0),S.sAs 4 (S.eF S.kNLen [S.eL 0]),S.sWhen (S.eLt (S.eL 4) (S.eF S.kNLen [S.eL 1])) [S.sAs 4 (S.eF S.kNLen [S.eL 1])],S.sAs 5 (S.eC 0),
  S.sWh (S.eLt (S.eL 3) (S.eL 4)) [S.sAs 5 (S.eAdd (S.eL 5) (S.eAdd (S.eF S.kNDig [S.eL 0,S.eL 3]) (S.eF S.kNDig [S.eL 1,S.eL 3]))),S.sPut (S.eAdd S.eH (S.eL 3)) 2 (S.eDg (S.eL 5)),S.sAs 5 (S.eShr (S.eL 5) 16),S.sInc 3],
  S.sPut (S.eAdd S.eH (S.eL 4)) 2 (S.eDg (S.eL 5)),S.sVal (S.eF S.kNFin [S.eL 2,S.eAdd (S.eL 4) (S.eC 1)])] [e0,e1,e2,e3,e4,e5] s1 8 _ _
 refine Zo (Zn 0) (by decide) ?_
 show S.WS I 34 lk false _ [e0,e1,e2,0,e4,e5] s1 _ _ _
 have ylx:∀ a b c,S.Yl I 34 lk [e0,e1,e2,a,b,c] s1 (S.eF S.kNLen [S.eL 0]) x.length (1+0+60+48):=fun a b c=>Zc3 (Za ((Zq 0).to_ rfl (Yb _)) Zg) (by simp) (Za8 hN (Zat hx n0)) (by decide)
 have yly:∀ a b c,S.Yl I 34 lk [e0,e1,e2,a,b,c] s1 (S.eF S.kNLen [S.eL 1]) y.length (1+0+60+48):=fun a b c=>Zc3 (Za ((Zq 1).to_ rfl (Yb _)) Zg) (by simp) (Za8 hN (Zat hy n0)) (by decide)
 refine Zo (ylx _ _ _) (by decide) ?_
 show S.WS I 34 lk false _ [e0,e1,e2,0,(x.length:Int),e5] s1 _ _ _
 have rest:∀ (C:Nat) (Q:List Int->S.Vw->Nat->Prop),C<=400->S.WS I 34 lk false [S.sAs 5 (S.eC 0),
  S.sWh (S.eLt (S.eL 3) (S.eL 4)) [S.sAs 5 (S.eAdd (S.eL 5) (S.eAdd (S.eF S.kNDig [S.eL 0,S.eL 3]) (S.eF S.kNDig [S.eL 1,S.eL 3]))),S.sPut (S.eAdd S.eH (S.eL 3)) 2 (S.eDg (S.eL 5)),S.sAs 5 (S.eShr (S.eL 5) 16),S.sInc 3],
  S.sPut (S.eAdd S.eH (S.eL 4)) 2 (S.eDg (S.eL 5)),S.sVal (S.eF S.kNFin [S.eL 2,S.eAdd (S.eL 4) (S.eC 1)])] [e0,e1,e2,0,(L:Int),e5] s1 C Q (S.NumR I st H e2 (S.dval x+S.dval y) (L+3) (1000+800*L)):=fun C Q hC=>by
  refine Zo (Zn 0) (by decide) ?_
  show S.WS I 34 lk false _ [e0,e1,e2,0,(L:Int),0] s1 _ _ _
  refine Zfk (by decide) (fun env s C k=>∃ (acc:List Int) (c:Int),env=[e0,e1,e2,(acc.length:Int),(L:Int),c]/\k=L-acc.length/\acc.length<=L/\S.Digs acc/\S.HpS st s H acc/\0<=c/\c<=1/\S.dval acc+c*65536^acc.length=S.psum x acc.length+S.psum y acc.length/\C<=410+730*acc.length) (k0:=L)
   ⟨[],0,rfl,rfl,Nat.zero_le _,(fun d hd=>by cases hd),n0,by decide,by decide,rfl,by omega⟩ ?_
  rintro env s C k ⟨acc,c,rfl,rfl,hle,hda,hS,c0,c1,hinv,hC⟩;have y34:=Zm (op:=14) (by decide) (Zq (I:=I) (dep:=34) (lk:=lk) (env:=[e0,e1,e2,(acc.length:Int),(L:Int),c]) (st:=s) 3) (Zq 4);rw [Zcl] at y34;have e34:(if [e0,e1,e2,(acc.length:Int),(L:Int),c].getD (Int.toNat 3) 0<[e0,e1,e2,(acc.length:Int),(L:Int),c].getD (Int.toNat 4) 0 then (1:Int) else 0)=if (acc.length:Int)<(L:Int) then 1 else 0:=rfl
  rw [e34] at y34;refine ⟨_,_,y34,fun hz=>?_,fun hnz=>?_⟩
  ·have hlL:acc.length=L:=by
    refine Classical.byContradiction fun q=>?_
    rw [if_pos (by omega)] at hz
    cases hz
   have hdi:=hdat (L+2) (by omega);rw [show H+((L+2:Nat):Int)=H+2+acc.length by omega] at hdi;refine Zb7 (x:=4*c) (p:=H+2+acc.length) ((Zm (op:=1) (by decide) (yh _ s acc hS) ((Zq 4).to_ (y:=(L:Int)) rfl (Yb _))).to_ (y:=H+L) (by rw [Zau];unfold S.u32m;omega) (Yb _))
    ((Zm (op:=10) (by decide) (Zm (op:=7) (by decide) ((Zq 5).to_ (y:=c) rfl (Yb _)) (Zn 65535)) (Zn 2)).to_ (by rw [Zfq ⟨by omega,by omega⟩];omega) (Yb _)) (by decide) (by decide) (by unfold S.u32m;omega) hdi.2 ?_
   have hS2:=Zgk hS c;have hv:S.dval (acc++[c])=S.dval x+S.dval y:=by
    rw [Zbc,hinv,Zan (by omega),Zan (by omega)]
   have hl2:(acc++[c]).length=L+1:=by simp [hlL]
   refine Zv5 hN (acc:=acc++[c]) hneg hS2 h26 (Zbd hda ⟨c0,by omega⟩) (by omega) (fun j hj=>hdat j (by omega)) hv (by omega) (Za ((Zq 2).to_ (y:=e2) rfl (Yb _)) (Za ((Zm (op:=1) (by decide) ((Zq 4).to_ (y:=(L:Int)) rfl (Yb _)) (Zn 1)).to_ (y:=((acc++[c]).length:Int)) (by rw [Zau,hl2];unfold S.u32m;omega) (Yb _)) Zg)) (by decide) (by decide) ?_;rw [hl2];omega
  ·have hlt:acc.length<L:=Classical.byContradiction fun q=>hnz (if_neg (by omega))
   have hdi:=hdat (acc.length+2) (by omega);rw [show H+((acc.length+2:Nat):Int)=H+2+acc.length by omega] at hdi;have hx':=Zat hx hS;have hy':=Zat hy hS;have bx:=Zy dx acc.length;have by_:=Zy dy acc.length;have y1:=Zc3 (d:=34) (dep:=34) (lk:=lk) (env:=[e0,e1,e2,(acc.length:Int),(L:Int),c]) (Za ((Zq 0).to_ (y:=e0) rfl (Yb _)) (Za ((Zq 3).to_ (y:=(acc.length:Int)) rfl (Yb _)) Zg)) (by simp) (Za9 hN hx' ⟨by omega,by omega⟩) (by decide);have y2:=Zc3 (d:=34) (dep:=34) (lk:=lk) (env:=[e0,e1,e2,(acc.length:Int),(L:Int),c]) (Za ((Zq 1).to_ (y:=e1) rfl (Yb _)) (Za ((Zq 3).to_ (y:=(acc.length:Int)) rfl (Yb _)) Zg)) (by simp) (Za9 hN hy' ⟨by omega,by omega⟩) (by decide);rw [Int.toNat_natCast] at y1 y2;obtain ⟨tot,htot⟩:=Yx (c+(x.getD acc.length 0+y.getD acc.length 0));refine Zo ((Zm (op:=1) (by decide) ((Zq 5).to_ (y:=c) rfl (Yb _)) (Zm (op:=1) (by decide) y1 y2)).to_ (y:=tot) (by rw [Zau,Zau,htot];unfold S.u32m;omega) (Yb _)) (by decide) ?_
   show S.WS I 34 lk false _ [e0,e1,e2,(acc.length:Int),(L:Int),tot] s _ _ _
   refine Zb7 (x:=4*(tot%65536)) (p:=H+2+acc.length) ((Zm (op:=1) (by decide) (yh _ s acc hS) ((Zq 3).to_ (y:=(acc.length:Int)) rfl (Yb _))).to_ (y:=H+acc.length) (by rw [Zau];unfold S.u32m;omega) (Yb _))
    ((Zm (op:=10) (by decide) (Zm (op:=7) (by decide) ((Zq 5).to_ (y:=tot) rfl (Yb _)) (Zn 65535)) (Zn 2)).to_ (Zfq ⟨by omega,by omega⟩) (Yb _)) (by decide) (by decide) (by unfold S.u32m;omega) hdi.2 ?_
   have hS2:=Zgk hS (tot%65536);refine Zo ((Zm (op:=11) (by decide) ((Zq 5).to_ (y:=tot) rfl (Yb _)) (Zn 16)).to_ (y:=tot/65536) (by rw [Zkd]) (Yb _)) (by decide) ?_
   show S.WS I 34 lk false _ [e0,e1,e2,(acc.length:Int),(L:Int),tot/65536] _ _ _ _
   refine Zo ((Zm (op:=1) (by decide) ((Zq 3).to_ (y:=(acc.length:Int)) rfl (Yb _)) (Zn 1)).to_ (y:=((acc.length+1:Nat):Int)) (by rw [Zau];unfold S.u32m;omega) (Yb _)) (by decide) ?_
   show S.WS I 34 lk false _ [e0,e1,e2,((acc.length+1:Nat):Int),(L:Int),tot/65536] _ _ _ _
   have hl2:(acc++[tot%65536]).length=acc.length+1:=by simp
   refine Z5 (k2:=L-(acc.length+1)) (by omega) ⟨acc++[tot%65536],tot/65536,by rw [hl2],by rw [hl2],by omega,Zbd hda ⟨by omega,by omega⟩,hS2,by omega,by omega,?_,by rw [hl2];omega⟩;rw [hl2,Zbc,S.psum,S.psum,Int.pow_succ];have hq:tot=tot%65536+65536*(tot/65536):=by omega
   generalize (65536:Int)^acc.length=B at *;generalize tot%65536=d at *;generalize tot/65536=q at *;generalize x.getD acc.length 0=a at *;generalize y.getD acc.length 0=b at *
   grind
 have hif:=Zm (op:=14) (by decide) ((Zq (I:=I) (dep:=34) (lk:=lk) (env:=[e0,e1,e2,0,(x.length:Int),e5]) (st:=s1) 4).to_ (y:=(x.length:Int)) rfl (Yb _)) (yly 0 (x.length:Int) e5);rw [Zcl] at hif;refine Zp hif (by decide) (fun hz=>?_) (fun hnz=>?_)
 ·have:¬ (x.length:Int)<(y.length:Int):=fun q=>by rw [if_pos q] at hz;cases hz
  have e:x.length=L:=by omega
  rw [e];exact rest _ _ (by decide)
 ·have:(x.length:Int)<(y.length:Int):=Classical.byContradiction fun q=>hnz (if_neg q)
  refine Zo (yly _ _ _) (by decide) (Zbk 3 ?_)
  show S.WS I 34 lk false _ [e0,e1,e2,0,(y.length:Int),e5] s1 _ _ _
  have e:y.length=L:=by omega
  rw [e];exact rest _ _ (by decide)
end
end
end Go.Proofs.YtfhiobkkdcdmiaaGreatDoor
