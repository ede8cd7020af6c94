/- Parts. -/
import Derived.Test.YtfhiobkkdcdmiaaGreatDoorZNCmp
set_option linter.all false
open Nat renaming le_refl->Yb,zero_le->Yag
open List renaming length_append->Yd,getD_eq_getElem?_getD->Ye,length_cons->Yi,getElem?_append_left->Ym,getElem?_append_right->Yo,replicate->Ys,length_nil->Yad,length_set->Ybm,length_replicate->Yco
open Int renaming toNat_natCast->Yah,pow_pos->Yar,mul_nonneg->Yat,le_of_lt->Ya3,toNat->Ycd
namespace Go.Proofs.YtfhiobkkdcdmiaaGreatDoor
open Go.RowKit
section
namespace S
def Top (ds:List Int)(n:Nat):Prop:=n<=ds.length/\(∀j,n<=j->ds.getD j 0=0)/\(n=0\/ds.getD (n-1) 0≠0)
def signed (neg:Int)(x:Int):Int:=if neg=0 then x else -x
def HpAt (I:Img)(st:Vw)(H:Int)(ds:List Int):Prop:=st.reg 26=H/\Digs ds/\ds.length<=1000/\(∀j:Nat,j<ds.length+2->Dat I (H+j))/\∀i:Nat,i<ds.length->st.mem (H+2+i)=4*ds.getD i 0
def FinR (st:Vw)(H neg:Int)(ds:List Int)(N:Nat)(o:BO)(k:Nat):Prop:=∃st',o=.ret st'/\k<=N /\
 ((dval ds<536870912+neg/\st'.reg 4=u32m (4*signed neg (dval ds))/\Sim st st')\/(536870912+neg<=dval ds/\∃n,Top ds n/\st'.reg 4=4*H+1/\Sim (((st.sto H (32*(n+1)+31)).sto (H+1) (4*neg)).set 26 (H+n+2)) st'))
end S
theorem Zda {ds:List Int}{n:Nat}(h:S.Top ds n):S.dval ds=S.dval (ds.take n):=by
 refine Zhw λ j=>?_
 by_cases c:j<n
 .rw[Ye,Ye,List.getElem?_take_of_lt c]
 .rw[h.2.1 j (by omega),Ye,List.getElem?_eq_none (by rw[List.length_take];omega)]
  rfl
theorem Zl8:∀(n:Nat) {ds:List Int},S.Digs ds->(∀j,n<=j->ds.getD j 0=0)->n<=2->S.dval ds=ds.getD 0 0+65536*ds.getD 1 0:=λ n ds hd h hn=>by
 have h2:S.dval ds.tail.tail=0:=Zeg λ j=>by rw[Zaz,Zaz];exact h (j+1+1) (by omega)
 rw[Za3 ds,Za3 ds.tail,h2,Zaz]
 show _=ds.getD 0 0+65536*ds.getD (0+1) 0
 omega
theorem Zwd {ds:List Int}(hd:S.Digs ds){n:Nat}(hn:3<=n)(h:ds.getD (n-1) 0≠0):4294967296<=S.dval ds:=by
 have key:∀(i:Nat) {l:List Int},S.Digs l->l.getD i 0≠0->1<=S.dval l:=by
  intro i
  induction i with
  | zero =>
   intro l hl h0;have h1:=Zz hl 0;have h2:=Zk (Zb5 hl);rw[Za3 l];omega
  | succ i ih =>
   intro l hl h0;have h1:=Zz hl 0;have h2:=ih (Zb5 hl) (by rw[Zaz];exact h0);rw[Za3 l];omega
 have h3:=key (n-3) (Zb5 (Zb5 hd)) (by rw[Zaz,Zaz,show n-3+1+1=n-1 by omega];exact h);have b0:=Zz hd 0;have b1:=Zz (Zb5 hd) 0;rw[Za3 ds,Za3 ds.tail];omega
theorem Z6e (x:Int):S.alu 10 x (14%4294967296)=S.u32m (x*16384):=rfl
theorem Z7l (x:Int):S.alu 10 x (5%4294967296)=S.u32m (x*32):=rfl
theorem Z6f {a b:Int}(ha:0<=a/\a<65536)(hb:0<=b/\b<65536):S.alu 8 a (b*65536)=a+b*65536:=by
 show bits .or .u32 a (b*65536)=_
 rw[u32_or (by omega) (by omega) (by omega) (by omega),Nat.or_comm,<- u32_or (by omega) (by omega) (by omega) (by omega)];exact(Zw 16 (b*65536) a 65536 (by decide) (by omega) (by omega) (by omega) (by omega) (by omega) (by omega)).trans (by omega)
theorem Z2o (n:Int)(h:0<=n/\n<=100000):S.alu 8 (S.u32m ((n+1)*32)) (31%4294967296)=32*(n+1)+31:=by
 have e:S.u32m ((n+1)*32)=32*(n+1):=by unfold S.u32m;omega
 rw[e];exact Zw 5 (32*(n+1)) 31 32 (by decide) (by omega) (by omega) (by omega) (by omega) (by omega) (by omega)
section
variable {I:S.Img}(hN:S.NSegs I)
include hN
theorem Zoe {st:S.Vw}{H neg:Int}{ds:List Int}(hneg:neg=0\/neg=1)(h:S.HpAt I st H ds):∀st1,S.Sim st st1->S.Real I S.kNFin false (st1.args [neg,(ds.length:Int)]) 19 (λ _ o k=>S.FinR st H neg ds (300+60*ds.length) o k):=λ st1 hs1=>by
 obtain⟨iF,hF⟩:=hN.fin;obtain⟨h26,hdg,hfew,hdat,hmem⟩:=h;have hr:=Zcw hN.ok S.rNFin (by kernel_rfl) hF (dep:=0) (by decide) (st1.args [neg,(ds.length:Int)]) (S.FinR st H neg ds (300+60*ds.length)) λ lk env hl hp=>?_
 .exact hr
 obtain⟨e0,e1,e2,e3,rfl⟩:=Z6t hl;have h0:e0=neg:=hp 0 (show(0:Int)<2 by decide);have h1:e1=(ds.length:Int):=hp 1 (show(1:Int)<2 by decide);subst h0 h1;have hs:S.Sim st (st1.args [e0,(ds.length:Int)]):=hs1.args (by simp);obtain⟨s1,hs1e⟩:∃s,s=st1.args [e0,(ds.length:Int)]:=⟨_,rfl⟩
 rw[<- hs1e] at hs⊢;have hm:s1.mem=st.mem:=hs.mem;have hr26:s1.reg 26=H:=by rw[hs.reg 26 (by decide)];exact h26
 have hsz:=hN.ok.size2;have hd0:=hdat 0 (by omega);have hd1:=hdat 1 (by omega);have hdl:=hdat (ds.length+1) (by omega);rw[show H+((0:Nat):Int)=H by omega] at hd0;rw[show H+((1:Nat):Int)=H+1 by omega] at hd1;have hH0:=hd0.1;have hHl:=hdl.2.1;have yh:∀env,S.Yl I 0 lk env s1 S.eH H 1:=λ env=>(Zxj (n:=26) (by decide)).to_ hr26 (Yb _)
 have hl0:∀b c d,S.Yl I 0 lk [e0,b,c,d] s1 (S.eL 0) e0 1:=λ b c d=>Zs 0
 have hl1:∀b c d,S.Yl I 0 lk [e0,b,c,d] s1 (S.eL 1) b 1:=λ b c d=>Zs 1
 have hl2:∀b c d,S.Yl I 0 lk [e0,b,c,d] s1 (S.eL 2) c 1:=λ b c d=>Zs 2
 have hl3:∀b c d,S.Yl I 0 lk [e0,b,c,d] s1 (S.eL 3) d 1:=λ b c d=>Zs 3
 have dg:∀i:Nat,i<ds.length->∀env,S.Yl I 0 lk env s1 (S.eM S.eH (2+i)) (4*ds.getD i 0) 2:=λ i hi env=>by
  have hdi:=hdat (i+2) (by omega);rw[show H+((i+2:Nat):Int)=H+2+i by omega] at hdi;refine(Zli (n:=2+i) (p:=H+2+i) (yh env) (by have:=hdi.2.1;unfold S.u32m;omega) (Za7 hdi)).to_ ?_ (Yb _);rw[hm];exact hmem i hi
 show S.WS I 0 lk false [S.sAs 3 (S.eC 1),
  S.sWh (S.eL 3) [S.sAs 3 (S.eC 0),S.sWhen (S.eL 1) [S.sWhen (S.eNot (S.eM (S.eAdd S.eH (S.eL 1)) 1)) [S.sAs 1 (S.eSub (S.eL 1) (S.eC 1)),S.sAs 3 (S.eC 1)]]],
  S.sAs 2 (S.eC 0),S.sWhen (S.eL 1) [S.sAs 2 (S.eShr (S.eM S.eH 2) 2)],
  S.sWhen (S.eQ (S.eL 1) (S.eC 2)) [S.sAs 2 (S.eB 8 (S.eL 2) (S.eShl (S.eM S.eH 3) 14))],
  S.sWhen (S.eLt (S.eL 1) (S.eC 3)) [S.sWhen (S.eLt (S.eL 2) (S.eAdd (S.eC 536870912) (S.eL 0))) [S.sWhen (S.eL 0) [S.sAs 2 (S.eSub (S.eC 0) (S.eL 2))],S.sVal (S.eShl (S.eL 2) 2)]],
  S.sPut S.eH 0 (S.eB 8 (S.eShl (S.eAdd (S.eL 1) (S.eC 1)) 5) (S.eC 31)),S.sPut S.eH 1 (S.eShl (S.eL 0) 2),
  S.sSet 26 (S.eAdd (S.eAdd S.eH (S.eL 1)) (S.eC 2)),S.sVal (S.eRef (S.eSub (S.eSub S.eH (S.eL 1)) (S.eC 2)))] [e0,(ds.length:Int),e2,e3] s1 8 _ _
 refine Zo (Zp 1) (by decide) ?_
 show S.WS I 0 lk false _ [e0,(ds.length:Int),e2,1] s1 _ _ _
 refine Zfe (by decide) (λ env s C k=>s=s1/\∃(n:Nat)(f:Int),env=[e0,(n:Int),e2,f]/\n<=ds.length/\(∀j,n<=j->ds.getD j 0=0)/\((f=0/\k=0/\(n=0\/ds.getD (n-1) 0≠0)/\C<=80+50*(ds.length-n))\/(f=1/\k=n+1/\C<=20+50*(ds.length-n)))) (k0:=ds.length+1)
  ⟨rfl,ds.length,1,rfl,Yb _,λ j hj=>by rw[Ye,List.getElem?_eq_none hj];rfl,.inr ⟨rfl,rfl,by omega⟩⟩ ?_
 rintro env s C k ⟨rfl,n,f,rfl,hn,hz,hcase⟩;refine⟨f,1,hl3 _ _ _,λ hf=>?_,λ hf=>?_⟩
 .rcases hcase with⟨_,_,htop,hC⟩|⟨q,_,_⟩
  .have hT:S.Top ds n:=⟨hn,hz,htop⟩
   have hnb:(n:Int)<=1000:=by omega
   have rest0:∀(C:Nat)(m:Int)(Q:List Int->S.Vw->Nat->Prop),C<=250+60*ds.length->536870912+e0<=S.dval ds ->
    S.WS I 0 lk false [S.sPut S.eH 0 (S.eB 8 (S.eShl (S.eAdd (S.eL 1) (S.eC 1)) 5) (S.eC 31)),S.sPut S.eH 1 (S.eShl (S.eL 0) 2),S.sSet 26 (S.eAdd (S.eAdd S.eH (S.eL 1)) (S.eC 2)),S.sVal (S.eRef (S.eSub (S.eSub S.eH (S.eL 1)) (S.eC 2)))] [e0,(n:Int),m,f] s C Q (S.FinR st H e0 ds (300+60*ds.length)):=λ C m Q hC hbig=>by
    have yn:∀s,S.Yl I 0 lk [e0,(n:Int),m,f] s (S.eL 1) n 1:=λ s=>Zs 1
    have y0:∀s,S.Yl I 0 lk [e0,(n:Int),m,f] s (S.eL 0) e0 1:=λ s=>Zs 0
    have yhd:=(Zn (op:=8) (by decide) (Zn (op:=10) (by decide) (Zn (op:=1) (by decide) (yn s) (Zp 1)) (Zp 5)) (Zp 31)).to_ (y:=32*((n:Int)+1)+31) (by
     rw[Zat,Z7l,show S.u32m ((n:Int)+1%4294967296)=(n:Int)+1 by unfold S.u32m;omega];exact Z2o n ⟨by omega,by omega⟩) (Yb _)
    refine Zb3 (p:=H) (yh _) yhd (by decide) (by decide) (by unfold S.u32m;omega) hd0.2 ?_;have yh2:S.Yl I 0 lk [e0,(n:Int),m,f] (s.sto H (32*((n:Int)+1)+31)) S.eH H 1:=(Zxj (n:=26) (by decide)).to_ hr26 (Yb _);refine Zb3 (p:=H+1) yh2 ((Zn (op:=10) (by decide) (y0 _) (Zp 2)).to_ (y:=4*e0) (by rw[Z3b];unfold S.u32m;omega) (Yb _)) (by decide) (by decide) (by have:=hd1.2.1;unfold S.u32m;omega) hd1.2 ?_;have yh3:S.Yl I 0 lk [e0,(n:Int),m,f] ((s.sto H (32*((n:Int)+1)+31)).sto (H+1) (4*e0)) S.eH H 1:=(Zxj (n:=26) (by decide)).to_ hr26 (Yb _);refine Z39 ((Zn (op:=1) (by decide) (Zn (op:=1) (by decide) yh3 (yn _)) (Zp 2)).to_ (y:=H+n+2) (by rw[Zat,Zat];unfold S.u32m;omega) (Yb _)) (by decide) ?_;have yh4:S.Yl I 0 lk [e0,(n:Int),m,f] (((s.sto H (32*((n:Int)+1)+31)).sto (H+1) (4*e0)).set 26 (H+n+2)) S.eH (H+n+2) 1:=(Zxj (n:=26) (by decide)).to_ (Zj _ _ _) (Yb _);have yv:=(Zn (op:=8) (by decide) (Zn (op:=10) (by decide) (Zn (op:=2) (by decide) (Zn (op:=2) (by decide) yh4 (yn _)) (Zp 2)) (Zp 2)) (Zp 1)).to_ (y:=4*H+1) (by
     rw[Zjw,Zjw,Z3b,show S.u32m (S.u32m (H+n+2-n)-2%4294967296)=H by unfold S.u32m;omega,show S.u32m (H*4)=4*H by unfold S.u32m;omega];exact or1 (by omega) (by omega) (by omega)) (Yb _)
    refine Zha yv (by decide) λ st2 c2 h2 hc2=>⟨_,rfl,by omega,.inr ⟨hbig,n,hT,rfl,(S.Sim.trans ?_ h2).set4 _⟩⟩
    exact((hs.sto _ _).sto _ _).set _ _
   have rest1:∀(C:Nat)(m:Int)(Q:List Int->S.Vw->Nat->Prop),C<=180+50*ds.length->0<=m/\m<4294967296->(n<3->m=S.dval ds) ->
    S.WS I 0 lk false [S.sWhen (S.eLt (S.eL 1) (S.eC 3)) [S.sWhen (S.eLt (S.eL 2) (S.eAdd (S.eC 536870912) (S.eL 0))) [S.sWhen (S.eL 0) [S.sAs 2 (S.eSub (S.eC 0) (S.eL 2))],S.sVal (S.eShl (S.eL 2) 2)]],
     S.sPut S.eH 0 (S.eB 8 (S.eShl (S.eAdd (S.eL 1) (S.eC 1)) 5) (S.eC 31)),S.sPut S.eH 1 (S.eShl (S.eL 0) 2),S.sSet 26 (S.eAdd (S.eAdd S.eH (S.eL 1)) (S.eC 2)),S.sVal (S.eRef (S.eSub (S.eSub S.eH (S.eL 1)) (S.eC 2)))] [e0,(n:Int),m,f] s C Q (S.FinR st H e0 ds (300+60*ds.length)):=λ C m Q hC hmb hmv=>by
    have y3:=Zn (op:=14) (by decide) (hl1 (n:Int) m f) (Zp 3);rw[Zcg] at y3;refine Zv y3 (by decide) (λ hq=>rest0 _ m Q (by omega) ?_) (λ hq=>?_)
    .have hn3:¬(n:Int)<3%4294967296:=λ q=>by rw[if_pos q] at hq;cases hq
     have:=Zwd hdg (n:=n) (by omega) (htop.resolve_left (by omega));omega
    .have hn3:n<3:=Y_c λ q=>hq (if_neg (by omega))
     have hmE:=hmv hn3;have y4:=Zn (op:=14) (by decide) (hl2 (n:Int) m f) ((Zn (op:=1) (by decide) (Zp 536870912) (hl0 (n:Int) m f)).to_ (y:=536870912+e0) (by rw[Zat];unfold S.u32m;omega) (Yb _));rw[Zcg] at y4;refine Zv y4 (by decide) (λ hq=>Zbj 3 (rest0 _ m Q (by omega) ?_)) (λ hq=>?_)
     .have:¬m<536870912+e0:=λ q=>by rw[if_pos q] at hq;cases hq
      omega
     .have hlt:m<536870912+e0:=Y_c λ q=>hq (if_neg q)
      refine Zv (hl0 _ _ _) (by decide) (λ h0=>?_) (λ h0=>?_)
      .refine Zha (Zn (op:=10) (by decide) (hl2 _ _ _) (Zp 2)) (by decide) λ st2 c2 h2 hc2=>⟨_,rfl,by omega,.inl ⟨by omega,?_,(hs.trans h2).set4 _⟩⟩
       show S.alu 10 m (2%4294967296)=_
       unfold S.signed;rw[Z3b,if_pos h0,hmE,Int.mul_comm]
      .refine Zo (Zn (op:=2) (by decide) (Zp 0) (hl2 _ _ _)) (by decide) (Zbj 3 ?_)
       rw[Zjw]
       show S.WS I 0 lk false _ [e0,(n:Int),S.u32m (0-m),f] s _ _ _
       refine Zha (Zn (op:=10) (by decide) (hl2 _ _ _) (Zp 2)) (by decide) λ st2 c2 h2 hc2=>⟨_,rfl,by omega,.inl ⟨by omega,?_,(hs.trans h2).set4 _⟩⟩
       show S.alu 10 (S.u32m (0-m)) (2%4294967296)=_
       unfold S.signed;rw[Z3b,if_neg h0,<- hmE];unfold S.u32m;omega
   have b0:=Zz hdg 0;have b1:=Zz hdg 1;refine Zo (Zp 0) (by decide) ?_
   show S.WS I 0 lk false _ [e0,(n:Int),0,f] s _ _ _
   refine Zv (hl1 _ _ _) (by decide) (λ hn0=>?_) (λ hn0=>?_)
   .have hn0':n=0:=by omega
    have y2:=Zow (hl1 (n:Int) 0 f) (Zp 2);refine Zv y2 (by decide) (λ _=>rest1 _ 0 _ (by omega) (by decide) λ _=>?_) (λ hq=>absurd (if_neg (by omega)) hq);rw[Zda hT,hn0'];rfl
   .have hn1:0<n:=by omega
    refine Zo ((Zn (op:=11) (by decide) ((dg 0 (by omega) _).to_ rfl (Yb _)) (Zp 2)).to_ (y:=ds.getD 0 0) (by rw[Z3a];omega) (Yb _)) (by decide) (Zbj 3 ?_)
    show S.WS I 0 lk false _ [e0,(n:Int),ds.getD 0 0,f] s _ _ _
    have y2:=Zow (hl1 (n:Int) (ds.getD 0 0) f) (Zp 2);refine Zv y2 (by decide) (λ hq=>rest1 _ _ _ (by omega) ⟨by omega,by omega⟩ λ hn3=>?_) (λ hq=>?_)
    .have hn2:n≠2:=λ q=>by rw[if_pos (by rw[q];rfl)] at hq;cases hq
     rw[Zl8 n hdg hz (by omega),hz 1 (by omega)];omega
    .have hn2:n=2:=Y_c λ q=>hq (if_neg (by omega))
     refine Zo ((Zn (op:=8) (by decide) (hl2 (n:Int) (ds.getD 0 0) f) (Zn (op:=10) (by decide) ((dg 1 (by omega) _).to_ rfl (Yb _)) (Zp 14))).to_ (y:=S.dval ds) (by
      rw[Z6e,show S.u32m (4*ds.getD 1 0*16384)=ds.getD 1 0*65536 by unfold S.u32m;omega,Z6f b0 b1,Zl8 n hdg hz (by omega)];omega) (Yb _)) (by decide) (Zbj 3 ?_)
     show S.WS I 0 lk false _ [e0,(n:Int),S.dval ds,f] s _ _ _
     have:=Zl8 n hdg hz (by omega);exact rest1 _ _ _ (by omega) ⟨by omega,by omega⟩ λ _=>rfl
  .rw[q] at hf;cases hf
 .rcases hcase with⟨q,_⟩|⟨rfl,rfl,hC⟩
  .exact absurd q hf
  refine Zo (Zp 0) (by decide) ?_
  show S.WS I 0 lk false _ [e0,(n:Int),e2,0] s _ _ _
  refine Zv (hl1 _ _ _) (by decide) (λ hn0=>Z3 (k2:=0) (by omega) ⟨rfl,n,0,rfl,hn,hz,.inl ⟨rfl,rfl,.inl (by omega),by omega⟩⟩) (λ hn0=>?_);obtain⟨i,rfl⟩:∃i,n=i+1:=⟨n-1,by omega⟩
  have hdi:=hdat (i+2) (by omega);rw[show H+((i+2:Nat):Int)=H+2+i by omega] at hdi;have ya:=(Zn (op:=1) (by decide) (yh _) (hl1 ((i+1:Nat):Int) e2 0)).to_ (y:=H+i+1) (by rw[Zat];have:=hdi.2.1;unfold S.u32m;omega) (Yb _);have ym:=Zli (n:=1) (p:=H+2+i) ya (by have:=hdi.2.1;unfold S.u32m;omega) (Za7 hdi);rw[hm,hmem i (by omega)] at ym;refine Zv (Zow ym (Zp 0)) (by decide) (λ hq=>Zbj 3 ?_) (λ hq=>?_)
  .refine Z3 (k2:=0) (by omega) ⟨rfl,i+1,0,rfl,hn,hz,.inl ⟨rfl,rfl,.inr λ q=>?_,by omega⟩⟩
   rw[show i+1-1=i by omega] at q;rw[q] at hq
   cases hq
  .have hzero:ds.getD i 0=0:=by
    refine Y_c λ q=>hq (if_neg λ e=>q ?_)
    have e':4*ds.getD i 0=0:=e;omega
   refine Zo ((Zn (op:=2) (by decide) (hl1 _ _ _) (Zp 1)).to_ (y:=(i:Int)) (by rw[Zjw];unfold S.u32m;omega) (Yb _)) (by decide) ?_
   show S.WS I 0 lk false _ [e0,(i:Int),e2,0] s _ _ _
   refine Zo (Zp 1) (by decide) (Zbj 3 (Zbj 3 ?_))
   show S.WS I 0 lk false _ [e0,(i:Int),e2,1] s _ _ _
   refine Z3 (k2:=i+1) (by omega) ⟨rfl,i,1,rfl,by omega,λ j hj=>?_,.inr ⟨rfl,rfl,by omega⟩⟩;by_cases c:j=i
   .subst c;exact hzero
   .exact hz j (by omega)
end
end
section
namespace S
def psum (x:List Int):Nat->Int
 | 0=>0
 | i+1=>psum x i+x.getD i 0*65536^i
def NumIn (I:Img)(mem:Int->Int)(H v neg:Int)(ds:List Int):Prop:=NumAt I mem v neg ds/\∀p,v=4*p+1->p+ds.length+2<=H
structure HpS (st s:Vw)(H:Int)(acc:List Int):Prop where
 out_:∀a,a<H+2\/H+2+acc.length<=a->s.mem a=st.mem a
 dig:∀j:Nat,j<acc.length->s.mem (H+2+j)=4*acc.getD j 0
 reg:∀j,¬(4<=j/\j<=7)->s.reg j=st.reg j
 inp:s.inp=st.inp
 out:s.out=st.out
def NumR (I:Img)(st:Vw)(H neg val:Int)(M N:Nat)(o:BO)(k:Nat):Prop :=
 ∃s ds,HpAt I s H ds/\dval ds=val/\(∀a,a<H\/H+M<=a->s.mem a=st.mem a)/\(∀j,¬(4<=j/\j<=7)->s.reg j=st.reg j)/\s.inp=st.inp/\s.out=st.out/\FinR s H neg ds N o k
end S
theorem Zof (x:List Int):∀i:Nat,S.psum x (i+1)=x.getD 0 0+65536*S.psum x.tail i
 | 0=>by
  show 0+x.getD 0 0*65536^0=x.getD 0 0+65536*0
  simp
 | i+1=>by
  have h:=Zof x i
  show S.psum x (i+1)+x.getD (i+1) 0*65536^(i+1)=x.getD 0 0+65536*(S.psum x.tail i+x.tail.getD i 0*65536^i)
  rw[h,Zaz,Int.pow_succ]
  grind
theorem Zga:∀(n:Nat)(x:List Int),S.dval x=S.psum x n+65536^n*S.dval (x.drop n)
 | 0,x=>by
  show S.dval x=0+65536^0*S.dval x
  simp
 | n+1,x=>by
  have h:=Zga n x.tail;rw[Zof,Za3 x,h,List.drop_tail,Int.pow_succ]
  grind
theorem Zam {x:List Int}{n:Nat}(h:x.length<=n):S.psum x n=S.dval x:=by
 have:=Zga n x;rw[List.drop_eq_nil_of_le h] at this;have e:S.dval []=0:=rfl;rw[e] at this;omega
theorem Zdb {x y:List Int}:∀n:Nat,(∀j,j<n->x.getD j 0=y.getD j 0)->S.psum x n=S.psum y n
 | 0,_=>rfl
 | n+1,h=>by
  rw[S.psum,S.psum,Zdb n λ j hj=>h j (by omega),h n (by omega)]
theorem Zbe (acc:List Int)(d:Int):S.dval (acc++[d])=S.dval acc+d*65536^acc.length:=by
 have h:=Zam (x:=acc++[d]) (n:=acc.length+1) (by simp);have e0:(acc++[d]).getD acc.length 0=d:=by
  rw[Ye,Yo (Yb _),Nat.sub_self];rfl
 have e1:S.psum (acc++[d]) acc.length=S.dval acc:=by
  rw[<- Zam (x:=acc) (Yb _)];refine Zdb _ λ j hj=>?_
  rw[Ye,Ym hj,<- Ye]
 rw[<- h,S.psum,e1,e0]
theorem Zgz {acc:List Int}(h:S.Digs acc):S.dval acc<65536^acc.length:=by
 induction acc with
 | nil=>decide
 | cons d r ih =>
  obtain⟨h1,h2⟩:=Zoa h;have:=ih h2;rw[S.dval,Yi,Int.pow_succ];omega
theorem Zbf {acc:List Int}(h:S.Digs acc){d:Int}(hd:0<=d/\d<65536):S.Digs (acc++[d]):=λ x hx=>by
 rcases List.mem_append.1 hx with q|q
 .exact h x q
 .rw[List.mem_singleton] at q
  rw[q];exact hd
theorem Z2p {env:List Int}(h:(env.length:Int)=6):∃a b c d e f,env=[a,b,c,d,e,f]:=by
 match env,h with
 | [a,b,c,d,e,f],_=>exact⟨a,b,c,d,e,f,rfl⟩
 | [],h=>simp at h
 | [_],h=>simp at h
 | [_,_],h=>simp at h
 | [_,_,_],h=>simp at h
 | [_,_,_,_],h=>simp at h
 | [_,_,_,_,_],h=>simp at h
 | _::_::_::_::_::_::_::_,h=>simp only[Yi] at h;omega
theorem Zfj {x:Int}(h:0<=x/\x<4294967296):S.alu 10 (S.alu 7 x (65535%4294967296)) (2%4294967296)=4*(x%65536):=by
 rw[Zn9 h.1 h.2,Z3b];unfold S.u32m;omega
section
variable {st s:S.Vw}{H:Int}{acc:List Int}
theorem Zl9 (h:S.Sim st s):S.HpS st s H []:=⟨λ a _=>by rw[h.mem],λ j hj=>absurd hj (Nat.not_lt_zero _),h.reg,h.inp,h.out⟩
theorem Zgb (h:S.HpS st s H acc)(d:Int):S.HpS st (s.sto (H+2+acc.length) (4*d)) H (acc++[d]):=by
 have hm:∀a,(s.sto (H+2+acc.length) (4*d)).mem a=if a=H+2+acc.length then 4*d else s.mem a:=λ _=>rfl
 refine⟨λ a ha=>?_,λ j hj=>?_,h.reg,h.inp,h.out⟩
 .rw[Yd,Yi,Yad] at ha
  rw[hm,if_neg (by omega)];exact h.out_ a (by omega)
 .rw[Yd,Yi,Yad] at hj
  rw[hm,Ye];by_cases c:j=acc.length
  .subst c
   rw[if_pos rfl,Yo (Yb _),Nat.sub_self];rfl
  .rw[if_neg (by omega),Ym (by omega),<- Ye]
   exact h.dig j (by omega)
theorem Zar {I:S.Img}{v neg:Int}{ds:List Int}(h:S.NumIn I st.mem H v neg ds)(hs:S.HpS st s H acc):S.NumAt I s.mem v neg ds:=h.1.same λ p e j hj=>hs.out_ _ (by have:=h.2 p e;omega)
theorem Z0g {I:S.Img}(h:S.HpS st s H acc)(h26:st.reg 26=H)(hd:S.Digs acc)(hl:acc.length<=1000)(hdat:∀j:Nat,j<acc.length+2->S.Dat I (H+j)):S.HpAt I s H acc:=⟨by rw[h.reg 26 (by decide)];exact h26,hd,hl,hdat,h.dig⟩
end
theorem Zi5 {st st':S.Vw}{H neg:Int}{ds:List Int}{N k k':Nat}(h:S.FinR st H neg ds N (.ret st') k){N':Nat}(hk:k'<=N'):S.FinR st H neg ds N' (.ret (st'.set 4 (st'.reg 4))) k':=by
 obtain⟨s,e,hk0,hc⟩:=h
 cases e
 refine⟨_,rfl,hk,?_⟩;have e4:(st'.set 4 (st'.reg 4)).reg 4=st'.reg 4:=Zj _ _ _;rcases hc with⟨q1,q2,q3⟩|⟨q1,n,q2,q3,q4⟩
 .exact .inl ⟨q1,e4.trans q2,q3.set4 _⟩
 .exact .inr ⟨q1,n,q2,e4.trans q3,q4.set4 _⟩
section
variable {I:S.Img}(hN:S.NSegs I)
include hN
theorem Zwe {dep lk:Int}{env:List Int}{st s:S.Vw}{C:Nat}{Q:List Int->S.Vw->Nat->Prop}{r:List S.BS}{H neg val:Int}{acc:List Int}{M N:Nat}{en el:S.BE}{K:Nat}(hneg:neg=0\/neg=1)(hs:S.HpS st s H acc)(h26:st.reg 26=H)(hd:S.Digs acc)(hl:acc.length<=1000)(hdat:∀j:Nat,j<acc.length+2->S.Dat I (H+j))(hv:S.dval acc=val)(hM:acc.length+2<=M)
 (hy:S.Yls I dep lk env s [en,el] [neg,(acc.length:Int)] K) (hde:S.dEs [en,el]<=20) (hdep:19<=dep) (hC:C+K+(300+60*acc.length)+14<=N):S.WS I dep lk false (S.sVal (S.eF S.kNFin [en,el])::r) env s C Q (S.NumR I st H neg val M N):=by
 have hat:=Z0g (I:=I) hs h26 hd hl hdat;refine Zlj (T:=S.FinR s H neg acc (300+60*acc.length)) hy hde (by simp) (Zoe hN hneg hat) hdep λ o k hT=>?_
 have hT0:=hT;obtain⟨st',rfl,hk,_⟩:=hT;intro c hc;exact⟨s,acc,hat,hv,λ a ha=>hs.out_ a (by omega),hs.reg,hs.inp,hs.out,Zi5 hT0 (by omega)⟩
theorem Zog {st:S.Vw}{H v u nv nu neg:Int}{x y:List Int}(hx:S.NumIn I st.mem H v nv x)(hy:S.NumIn I st.mem H u nu y)(hneg:neg=0\/neg=1)(h26:st.reg 26=H)(hdat:∀j:Nat,j<max x.length y.length+3->S.Dat I (H+j))(hfew:max x.length y.length<=900) :
 ∀st1,S.Sim st st1->S.Real I S.kNAdd false (st1.args [v,u,neg]) 55 (λ _ o k=>S.NumR I st H neg (S.dval x+S.dval y) (max x.length y.length+3) (1000+800*max x.length y.length) o k):=λ st1 hs1=>by
 obtain⟨iF,hF⟩:=hN.add;obtain⟨L,hL⟩:=Yx (max x.length y.length);rw[<- hL] at hdat hfew⊢;have hr:=Zcw hN.ok S.rNAdd (by kernel_rfl) hF (dep:=34) (by decide) (st1.args [v,u,neg]) (S.NumR I st H neg (S.dval x+S.dval y) (L+3) (1000+800*L)) λ lk env hl hp=>?_
 .exact hr
 obtain⟨e0,e1,e2,e3,e4,e5,rfl⟩:=Z2p hl;have h0:e0=v:=hp 0 (show(0:Int)<3 by decide);have h1:e1=u:=hp 1 (show(1:Int)<3 by decide);have h2:e2=neg:=hp 2 (show(2:Int)<3 by decide);subst h0 h1 h2;have hs:S.Sim st (st1.args [e0,e1,e2]):=hs1.args (by simp);obtain⟨s1,hs1e⟩:∃s,s=st1.args [e0,e1,e2]:=⟨_,rfl⟩
 rw[<- hs1e] at hs⊢;have hsz:=hN.ok.size2;have hd0:=hdat 0 (by omega);have hdl:=hdat (L+2) (by omega);rw[show H+((0:Nat):Int)=H by omega] at hd0;have hH0:=hd0.1;have hHl:=hdl.2.1;have dx:S.Digs x:=hx.1.dig;have dy:S.Digs y:=hy.1.dig;have yh:∀(env:List Int)(s:S.Vw)(acc:List Int),S.HpS st s H acc->S.Yl I 34 lk env s S.eH H 1:=λ env s acc h=>(Zxj (n:=26) (by decide)).to_ (by rw[h.reg 26 (by decide)];exact h26) (Yb _)
 have n0:=Zl9 (H:=H) hs
 show S.WS I 34 lk false [S.sAs 3 (S.eC 0),S.sAs 4 (S.eF S.kNLen [S.eL 0]),S.sWhen (S.eLt (S.eL 4) (S.eF S.kNLen [S.eL 1])) [S.sAs 4 (S.eF S.kNLen [S.eL 1])],S.sAs 5 (S.eC 0),
  S.sWh (S.eLt (S.eL 3) (S.eL 4)) [S.sAs 5 (S.eAdd (S.eL 5) (S.eAdd (S.eF S.kNDig [S.eL 0,S.eL 3]) (S.eF S.kNDig [S.eL 1,S.eL 3]))),S.sPut (S.eAdd S.eH (S.eL 3)) 2 (S.eDg (S.eL 5)),S.sAs 5 (S.eShr (S.eL 5) 16),S.sInc 3],
  S.sPut (S.eAdd S.eH (S.eL 4)) 2 (S.eDg (S.eL 5)),S.sVal (S.eF S.kNFin [S.eL 2,S.eAdd (S.eL 4) (S.eC 1)])] [e0,e1,e2,e3,e4,e5] s1 8 _ _
 refine Zo (Zp 0) (by decide) ?_
 show S.WS I 34 lk false _ [e0,e1,e2,0,e4,e5] s1 _ _ _
 have ylx:∀a b c,S.Yl I 34 lk [e0,e1,e2,a,b,c] s1 (S.eF S.kNLen [S.eL 0]) x.length (1+0+60+48):=λ a b c=>Zd1 (Za ((Zs 0).to_ rfl (Yb _)) Zh) (by simp) (Za8 hN (Zar hx n0)) (by decide)
 have yly:∀a b c,S.Yl I 34 lk [e0,e1,e2,a,b,c] s1 (S.eF S.kNLen [S.eL 1]) y.length (1+0+60+48):=λ a b c=>Zd1 (Za ((Zs 1).to_ rfl (Yb _)) Zh) (by simp) (Za8 hN (Zar hy n0)) (by decide)
 refine Zo (ylx _ _ _) (by decide) ?_
 show S.WS I 34 lk false _ [e0,e1,e2,0,(x.length:Int),e5] s1 _ _ _
 have rest:∀(C:Nat)(Q:List Int->S.Vw->Nat->Prop),C<=400->S.WS I 34 lk false [S.sAs 5 (S.eC 0),
  S.sWh (S.eLt (S.eL 3) (S.eL 4)) [S.sAs 5 (S.eAdd (S.eL 5) (S.eAdd (S.eF S.kNDig [S.eL 0,S.eL 3]) (S.eF S.kNDig [S.eL 1,S.eL 3]))),S.sPut (S.eAdd S.eH (S.eL 3)) 2 (S.eDg (S.eL 5)),S.sAs 5 (S.eShr (S.eL 5) 16),S.sInc 3],
  S.sPut (S.eAdd S.eH (S.eL 4)) 2 (S.eDg (S.eL 5)),S.sVal (S.eF S.kNFin [S.eL 2,S.eAdd (S.eL 4) (S.eC 1)])] [e0,e1,e2,0,(L:Int),e5] s1 C Q (S.NumR I st H e2 (S.dval x+S.dval y) (L+3) (1000+800*L)):=λ C Q hC=>by
  refine Zo (Zp 0) (by decide) ?_
  show S.WS I 34 lk false _ [e0,e1,e2,0,(L:Int),0] s1 _ _ _
  refine Zfe (by decide) (λ env s C k=>∃(acc:List Int)(c:Int),env=[e0,e1,e2,(acc.length:Int),(L:Int),c]/\k=L-acc.length/\acc.length<=L/\S.Digs acc/\S.HpS st s H acc/\0<=c/\c<=1/\S.dval acc+c*65536^acc.length=S.psum x acc.length+S.psum y acc.length/\C<=410+730*acc.length) (k0:=L)
   ⟨[],0,rfl,rfl,Yag _,(λ d hd=>by cases hd),n0,by decide,by decide,rfl,by omega⟩ ?_
  rintro env s C k ⟨acc,c,rfl,rfl,hle,hda,hS,c0,c1,hinv,hC⟩;have y34:=Zn (op:=14) (by decide) (Zs (I:=I) (dep:=34) (lk:=lk) (env:=[e0,e1,e2,(acc.length:Int),(L:Int),c]) (st:=s) 3) (Zs 4);rw[Zcg] at y34;have e34:(if [e0,e1,e2,(acc.length:Int),(L:Int),c].getD (Ycd 3) 0<[e0,e1,e2,(acc.length:Int),(L:Int),c].getD (Ycd 4) 0 then(1:Int) else 0)=if (acc.length:Int)<(L:Int) then 1 else 0:=rfl
  rw[e34] at y34;refine⟨_,_,y34,λ hz=>?_,λ hnz=>?_⟩
  .have hlL:acc.length=L:=by
    refine Y_c λ q=>?_
    rw[if_pos (by omega)] at hz
    cases hz
   have hdi:=hdat (L+2) (by omega);rw[show H+((L+2:Nat):Int)=H+2+acc.length by omega] at hdi;refine Zb3 (x:=4*c) (p:=H+2+acc.length) ((Zn (op:=1) (by decide) (yh _ s acc hS) ((Zs 4).to_ (y:=(L:Int)) rfl (Yb _))).to_ (y:=H+L) (by rw[Zat];unfold S.u32m;omega) (Yb _))
    ((Zn (op:=10) (by decide) (Zn (op:=7) (by decide) ((Zs 5).to_ (y:=c) rfl (Yb _)) (Zp 65535)) (Zp 2)).to_ (by rw[Zfj ⟨by omega,by omega⟩];omega) (Yb _)) (by decide) (by decide) (by unfold S.u32m;omega) hdi.2 ?_
   have hS2:=Zgb hS c;have hv:S.dval (acc++[c])=S.dval x+S.dval y:=by
    rw[Zbe,hinv,Zam (by omega),Zam (by omega)]
   have hl2:(acc++[c]).length=L+1:=by simp[hlL]
   refine Zwe hN (acc:=acc++[c]) hneg hS2 h26 (Zbf hda ⟨c0,by omega⟩) (by omega) (λ j hj=>hdat j (by omega)) hv (by omega) (Za ((Zs 2).to_ (y:=e2) rfl (Yb _)) (Za ((Zn (op:=1) (by decide) ((Zs 4).to_ (y:=(L:Int)) rfl (Yb _)) (Zp 1)).to_ (y:=((acc++[c]).length:Int)) (by rw[Zat,hl2];unfold S.u32m;omega) (Yb _)) Zh)) (by decide) (by decide) ?_;rw[hl2];omega
  .have hlt:acc.length<L:=Y_c λ q=>hnz (if_neg (by omega))
   have hdi:=hdat (acc.length+2) (by omega);rw[show H+((acc.length+2:Nat):Int)=H+2+acc.length by omega] at hdi;have hx':=Zar hx hS;have hy':=Zar hy hS;have bx:=Zz dx acc.length;have by_:=Zz dy acc.length;have y1:=Zd1 (d:=34) (dep:=34) (lk:=lk) (env:=[e0,e1,e2,(acc.length:Int),(L:Int),c]) (Za ((Zs 0).to_ (y:=e0) rfl (Yb _)) (Za ((Zs 3).to_ (y:=(acc.length:Int)) rfl (Yb _)) Zh)) (by simp) (Za9 hN hx' ⟨by omega,by omega⟩) (by decide);have y2:=Zd1 (d:=34) (dep:=34) (lk:=lk) (env:=[e0,e1,e2,(acc.length:Int),(L:Int),c]) (Za ((Zs 1).to_ (y:=e1) rfl (Yb _)) (Za ((Zs 3).to_ (y:=(acc.length:Int)) rfl (Yb _)) Zh)) (by simp) (Za9 hN hy' ⟨by omega,by omega⟩) (by decide);rw[Yah] at y1 y2;obtain⟨tot,htot⟩:=Yx (c+(x.getD acc.length 0+y.getD acc.length 0));refine Zo ((Zn (op:=1) (by decide) ((Zs 5).to_ (y:=c) rfl (Yb _)) (Zn (op:=1) (by decide) y1 y2)).to_ (y:=tot) (by rw[Zat,Zat,htot];unfold S.u32m;omega) (Yb _)) (by decide) ?_
   show S.WS I 34 lk false _ [e0,e1,e2,(acc.length:Int),(L:Int),tot] s _ _ _
   refine Zb3 (x:=4*(tot%65536)) (p:=H+2+acc.length) ((Zn (op:=1) (by decide) (yh _ s acc hS) ((Zs 3).to_ (y:=(acc.length:Int)) rfl (Yb _))).to_ (y:=H+acc.length) (by rw[Zat];unfold S.u32m;omega) (Yb _))
    ((Zn (op:=10) (by decide) (Zn (op:=7) (by decide) ((Zs 5).to_ (y:=tot) rfl (Yb _)) (Zp 65535)) (Zp 2)).to_ (Zfj ⟨by omega,by omega⟩) (Yb _)) (by decide) (by decide) (by unfold S.u32m;omega) hdi.2 ?_
   have hS2:=Zgb hS (tot%65536);refine Zo ((Zn (op:=11) (by decide) ((Zs 5).to_ (y:=tot) rfl (Yb _)) (Zp 16)).to_ (y:=tot/65536) (by rw[Zj3]) (Yb _)) (by decide) ?_
   show S.WS I 34 lk false _ [e0,e1,e2,(acc.length:Int),(L:Int),tot/65536] _ _ _ _
   refine Zo ((Zn (op:=1) (by decide) ((Zs 3).to_ (y:=(acc.length:Int)) rfl (Yb _)) (Zp 1)).to_ (y:=((acc.length+1:Nat):Int)) (by rw[Zat];unfold S.u32m;omega) (Yb _)) (by decide) ?_
   show S.WS I 34 lk false _ [e0,e1,e2,((acc.length+1:Nat):Int),(L:Int),tot/65536] _ _ _ _
   have hl2:(acc++[tot%65536]).length=acc.length+1:=by simp
   refine Z3 (k2:=L-(acc.length+1)) (by omega) ⟨acc++[tot%65536],tot/65536,by rw[hl2],by rw[hl2],by omega,Zbf hda ⟨by omega,by omega⟩,hS2,by omega,by omega,?_,by rw[hl2];omega⟩;rw[hl2,Zbe,S.psum,S.psum,Int.pow_succ];have hq:tot=tot%65536+65536*(tot/65536):=by omega
   generalize (65536:Int)^acc.length=B at *;generalize tot%65536=d at *;generalize tot/65536=q at *;generalize x.getD acc.length 0=a at *;generalize y.getD acc.length 0=b at *
   grind
 have hif:=Zn (op:=14) (by decide) ((Zs (I:=I) (dep:=34) (lk:=lk) (env:=[e0,e1,e2,0,(x.length:Int),e5]) (st:=s1) 4).to_ (y:=(x.length:Int)) rfl (Yb _)) (yly 0 (x.length:Int) e5);rw[Zcg] at hif;refine Zv hif (by decide) (λ hz=>?_) (λ hnz=>?_)
 .have:¬(x.length:Int)<(y.length:Int):=λ q=>by rw[if_pos q] at hz;cases hz
  have e:x.length=L:=by omega
  rw[e];exact rest _ _ (by decide)
 .have:(x.length:Int)<(y.length:Int):=Y_c λ q=>hnz (if_neg q)
  refine Zo (yly _ _ _) (by decide) (Zbj 3 ?_)
  show S.WS I 34 lk false _ [e0,e1,e2,0,(y.length:Int),e5] s1 _ _ _
  have e:y.length=L:=by omega
  rw[e];exact rest _ _ (by decide)
end
end
section
theorem Zdc {y:List Int}(hy:S.Digs y){n:Nat}(h:S.dval y<65536^n):S.psum y n=S.dval y:=by
 have h1:=Zga n y;have h2:0<=S.dval (y.drop n):=Zk λ d hd=>hy d (List.mem_of_mem_drop hd)
 have h3:0<=S.psum y n:=by
  have:∀i:Nat,0<=S.psum y i:=λ i=>by
   induction i with
   | zero=>exact Int.le_refl _
   | succ i ih =>
    have hb:=Zz hy i;have hp:(0:Int)<65536^i:=Yar (by decide);have:=Yat hb.1 (Ya3 hp);rw[S.psum];omega
  exact this n
 have hp:(0:Int)<65536^n:=Yar (by decide);have h4:S.dval (y.drop n)=0:=by
  refine Y_c λ q=>?_
  have h5:1<=S.dval (y.drop n):=by omega
  have:=Int.mul_le_mul_of_nonneg_left h5 (Ya3 hp);rw[Int.mul_one] at this;omega
 rw[h4,Int.mul_zero] at h1;omega
section
variable {I:S.Img}(hN:S.NSegs I)
include hN
theorem Zoh {st:S.Vw}{H v u nv nu neg:Int}{x y:List Int}(hx:S.NumIn I st.mem H v nv x)(hy:S.NumIn I st.mem H u nu y)(hneg:neg=0\/neg=1)(hle:S.dval y<=S.dval x)(h26:st.reg 26=H)(hdat:∀j:Nat,j<x.length+2->S.Dat I (H+j))(hfew:x.length<=900) :
 ∀st1,S.Sim st st1->S.Real I S.kNSub false (st1.args [v,u,neg]) 55 (λ _ o k=>S.NumR I st H neg (S.dval x-S.dval y) (x.length+3) (1000+800*x.length) o k):=λ st1 hs1=>by
 obtain⟨iF,hF⟩:=hN.sub;obtain⟨L,hL⟩:=Yx x.length;rw[<- hL] at hdat hfew⊢;have hr:=Zcw hN.ok S.rNSub (by kernel_rfl) hF (dep:=34) (by decide) (st1.args [v,u,neg]) (S.NumR I st H neg (S.dval x-S.dval y) (L+3) (1000+800*L)) λ lk env hl hp=>?_
 .exact hr
 obtain⟨e0,e1,e2,e3,e4,e5,rfl⟩:=Z2p hl;have h0:e0=v:=hp 0 (show(0:Int)<3 by decide);have h1:e1=u:=hp 1 (show(1:Int)<3 by decide);have h2:e2=neg:=hp 2 (show(2:Int)<3 by decide);subst h0 h1 h2;have hs:S.Sim st (st1.args [e0,e1,e2]):=hs1.args (by simp);obtain⟨s1,hs1e⟩:∃s,s=st1.args [e0,e1,e2]:=⟨_,rfl⟩
 rw[<- hs1e] at hs⊢;have hsz:=hN.ok.size2;have hd0:=hdat 0 (by omega);have hdl:=hdat (L+1) (by omega);rw[show H+((0:Nat):Int)=H by omega] at hd0;have hH0:=hd0.1;have hHl:=hdl.2.1;have dx:S.Digs x:=hx.1.dig;have dy:S.Digs y:=hy.1.dig;have yh:∀(env:List Int)(s:S.Vw)(acc:List Int),S.HpS st s H acc->S.Yl I 34 lk env s S.eH H 1:=λ env s acc h=>(Zxj (n:=26) (by decide)).to_ (by rw[h.reg 26 (by decide)];exact h26) (Yb _)
 have n0:=Zl9 (H:=H) hs
 show S.WS I 34 lk false [S.sAs 3 (S.eC 0),S.sAs 4 (S.eF S.kNLen [S.eL 0]),S.sAs 5 (S.eC 0),
  S.sWh (S.eLt (S.eL 3) (S.eL 4)) [S.sAs 5 (S.eSub (S.eAdd (S.eC 65536) (S.eF S.kNDig [S.eL 0,S.eL 3])) (S.eAdd (S.eF S.kNDig [S.eL 1,S.eL 3]) (S.eL 5))),S.sPut (S.eAdd S.eH (S.eL 3)) 2 (S.eDg (S.eL 5)),S.sAs 5 (S.eSub (S.eC 1) (S.eShr (S.eL 5) 16)),S.sInc 3],
  S.sVal (S.eF S.kNFin [S.eL 2,S.eL 4])] [e0,e1,e2,e3,e4,e5] s1 8 _ _
 refine Zo (Zp 0) (by decide) ?_
 show S.WS I 34 lk false _ [e0,e1,e2,0,e4,e5] s1 _ _ _
 have ylx:∀a b c,S.Yl I 34 lk [e0,e1,e2,a,b,c] s1 (S.eF S.kNLen [S.eL 0]) (L:Int) (1+0+60+48):=λ a b c=>(Zd1 (Za ((Zs 0).to_ rfl (Yb _)) Zh) (by simp) (Za8 hN (Zar hx n0)) (by decide)).to_ (by rw[hL]) (Yb _)
 refine Zo (ylx _ _ _) (by decide) ?_
 show S.WS I 34 lk false _ [e0,e1,e2,0,(L:Int),e5] s1 _ _ _
 refine Zo (Zp 0) (by decide) ?_
 show S.WS I 34 lk false _ [e0,e1,e2,0,(L:Int),0] s1 _ _ _
 refine Zfe (by decide) (λ env s C k=>∃(acc:List Int)(c:Int),env=[e0,e1,e2,(acc.length:Int),(L:Int),c]/\k=L-acc.length/\acc.length<=L/\S.Digs acc/\S.HpS st s H acc/\0<=c/\c<=1/\S.dval acc+S.psum y acc.length=S.psum x acc.length+c*65536^acc.length/\C<=410+730*acc.length) (k0:=L)
  ⟨[],0,rfl,rfl,Yag _,(λ d hd=>by cases hd),n0,by decide,by decide,rfl,by decide⟩ ?_
 rintro env s C k ⟨acc,c,rfl,rfl,hle2,hda,hS,c0,c1,hinv,hC⟩;have y34:=Zn (op:=14) (by decide) (Zs (I:=I) (dep:=34) (lk:=lk) (env:=[e0,e1,e2,(acc.length:Int),(L:Int),c]) (st:=s) 3) (Zs 4);rw[Zcg] at y34;have e34:(if [e0,e1,e2,(acc.length:Int),(L:Int),c].getD (Ycd 3) 0<[e0,e1,e2,(acc.length:Int),(L:Int),c].getD (Ycd 4) 0 then(1:Int) else 0)=if (acc.length:Int)<(L:Int) then 1 else 0:=rfl
 rw[e34] at y34;refine⟨_,_,y34,λ hz=>?_,λ hnz=>?_⟩
 .have hlL:acc.length=L:=by
   refine Y_c λ q=>?_
   rw[if_pos (by omega)] at hz
   cases hz
  have bx:=Zgz dx;have ba:=Zgz hda;rw[<- hL] at bx;rw[hlL] at ba;have hv:S.dval acc=S.dval x-S.dval y:=by
   rw[hlL,Zam (x:=x) (by omega),Zdc dy (n:=L) (by omega)] at hinv;have hp:(0:Int)<65536^L:=Yar (by decide);rcases(show c=0\/c=1 by omega) with rfl|rfl
   .omega
   .omega
  refine Zwe hN (acc:=acc) hneg hS h26 hda (by omega) (λ j hj=>hdat j (by omega)) hv (by omega) (Za ((Zs 2).to_ (y:=e2) rfl (Yb _)) (Za ((Zs 4).to_ (y:=(acc.length:Int)) (by rw[hlL];rfl) (Yb _)) Zh)) (by decide) (by decide) ?_;rw[hlL] at hC⊢;omega
 .have hlt:acc.length<L:=Y_c λ q=>hnz (if_neg (by omega))
  have hdi:=hdat (acc.length+2) (by omega);rw[show H+((acc.length+2:Nat):Int)=H+2+acc.length by omega] at hdi;have hx':=Zar hx hS;have hy':=Zar hy hS;have bx:=Zz dx acc.length;have by_:=Zz dy acc.length;have y1:=Zd1 (d:=34) (dep:=34) (lk:=lk) (env:=[e0,e1,e2,(acc.length:Int),(L:Int),c]) (Za ((Zs 0).to_ (y:=e0) rfl (Yb _)) (Za ((Zs 3).to_ (y:=(acc.length:Int)) rfl (Yb _)) Zh)) (by simp) (Za9 hN hx' ⟨by omega,by omega⟩) (by decide);have y2:=Zd1 (d:=34) (dep:=34) (lk:=lk) (env:=[e0,e1,e2,(acc.length:Int),(L:Int),c]) (Za ((Zs 1).to_ (y:=e1) rfl (Yb _)) (Za ((Zs 3).to_ (y:=(acc.length:Int)) rfl (Yb _)) Zh)) (by simp) (Za9 hN hy' ⟨by omega,by omega⟩) (by decide);rw[Yah] at y1 y2;obtain⟨tot,htot⟩:=Yx (65536+x.getD acc.length 0-(y.getD acc.length 0+c));refine Zo ((Zn (op:=2) (by decide) (Zn (op:=1) (by decide) (Zp 65536) y1) (Zn (op:=1) (by decide) y2 ((Zs 5).to_ (y:=c) rfl (Yb _)))).to_ (y:=tot) (by rw[Zjw,Zat,Zat,htot];unfold S.u32m;omega) (Yb _)) (by decide) ?_
  show S.WS I 34 lk false _ [e0,e1,e2,(acc.length:Int),(L:Int),tot] s _ _ _
  refine Zb3 (x:=4*(tot%65536)) (p:=H+2+acc.length) ((Zn (op:=1) (by decide) (yh _ s acc hS) ((Zs 3).to_ (y:=(acc.length:Int)) rfl (Yb _))).to_ (y:=H+acc.length) (by rw[Zat];unfold S.u32m;omega) (Yb _))
   ((Zn (op:=10) (by decide) (Zn (op:=7) (by decide) ((Zs 5).to_ (y:=tot) rfl (Yb _)) (Zp 65535)) (Zp 2)).to_ (Zfj ⟨by omega,by omega⟩) (Yb _)) (by decide) (by decide) (by unfold S.u32m;omega) hdi.2 ?_
  have hS2:=Zgb hS (tot%65536);refine Zo ((Zn (op:=2) (by decide) (Zp 1) (Zn (op:=11) (by decide) ((Zs 5).to_ (y:=tot) rfl (Yb _)) (Zp 16))).to_ (y:=1-tot/65536) (by rw[Zj3,Zjw];unfold S.u32m;omega) (Yb _)) (by decide) ?_
  show S.WS I 34 lk false _ [e0,e1,e2,(acc.length:Int),(L:Int),1-tot/65536] _ _ _ _
  refine Zo ((Zn (op:=1) (by decide) ((Zs 3).to_ (y:=(acc.length:Int)) rfl (Yb _)) (Zp 1)).to_ (y:=((acc.length+1:Nat):Int)) (by rw[Zat];unfold S.u32m;omega) (Yb _)) (by decide) ?_
  show S.WS I 34 lk false _ [e0,e1,e2,((acc.length+1:Nat):Int),(L:Int),1-tot/65536] _ _ _ _
  have hl2:(acc++[tot%65536]).length=acc.length+1:=by simp
  refine Z3 (k2:=L-(acc.length+1)) (by omega) ⟨acc++[tot%65536],1-tot/65536,by rw[hl2],by rw[hl2],by omega,Zbf hda ⟨by omega,by omega⟩,hS2,by omega,by omega,?_,by rw[hl2];omega⟩;rw[hl2,Zbe,S.psum,S.psum,Int.pow_succ];have hq:tot=tot%65536+65536*(tot/65536):=by omega
  generalize (65536:Int)^acc.length=B at *;generalize tot%65536=d at *;generalize tot/65536=q at *;generalize x.getD acc.length 0=a at *;generalize y.getD acc.length 0=b at *
  grind
end
end
section
def S.ao (I:S.Img)(st:S.Vw)(H z:Int)(M N:Nat)(o:S.BO)(k:Nat):Prop:=∃neg val,(neg=0\/neg=1)/\0<=val/\S.signed neg val=z/\S.NumR I st H neg val M N o k
theorem Zy1 {I:S.Img}{st s:S.Vw}{H neg val:Int}{M N:Nat}{o:S.BO}{k:Nat}(hs:S.Sim st s)(h:S.NumR I s H neg val M N o k):S.NumR I st H neg val M N o k:=by
 obtain⟨s2,ds,h1,h2,h3,h4,h5,h6,h7⟩:=h;exact⟨s2,ds,h1,h2,λ a ha=>(h3 a ha).trans (by rw[hs.mem]),λ j hj=>(h4 j hj).trans (hs.reg j hj),h5.trans hs.inp,h6.trans hs.out,h7⟩
theorem Zwf {I:S.Img}{st st':S.Vw}{H neg val:Int}{M N k k' M' N':Nat}(h:S.NumR I st H neg val M N (.ret st') k)(hk:k'<=N')(hM:M<=M'):S.NumR I st H neg val M' N' (.ret (st'.set 4 (st'.reg 4))) k':=by
 obtain⟨s2,ds,h1,h2,h3,h4,h5,h6,h7⟩:=h;exact⟨s2,ds,h1,h2,λ a ha=>h3 a (by omega),h4,h5,h6,Zi5 h7 hk⟩
theorem Zy2 {I:S.Img}{st:S.Vw}{H neg val:Int}{M N k:Nat}{o:S.BO}(h:S.NumR I st H neg val M N o k):(∃st',o=.ret st')/\k<=N:=by
 obtain⟨s2,ds,h1,h2,h3,h4,h5,h6,st',e,hk,_⟩:=h;exact⟨⟨st',e⟩,hk⟩
theorem Z2q {a b:Int}(ha:a=0\/a=1)(hb:b=0\/b=1):S.alu 9 a b=if a=b then 0 else 1:=by
 rcases ha with rfl|rfl <;> rcases hb with rfl|rfl <;> decide
section
variable {I:S.Img}(hN:S.NSegs I)
include hN
theorem Zrd {dep lk:Int}{env:List Int}{st s:S.Vw}{C:Nat}{Q:List Int->S.Vw->Nat->Prop}{r:List S.BS}{H neg val z:Int}{M N M' N':Nat}{name:ByteArray}{l:List S.BE}{xs:List Int}{K:Nat}{d:Int}(hneg:neg=0\/neg=1)(hv:0<=val)(hz:S.signed neg val=z)(hs:S.Sim st s)
 (hy:S.Yls I dep lk env s l xs K) (hde:S.dEs l<=20) (hlen:xs.length<=4) (hr:∀st1,S.Sim s st1->S.Real I name false (st1.args xs) d (λ _ o k=>S.NumR I s H neg val M N o k)) (hdep:d<=dep) (hM:M<=M') (hC:C+K+N+14<=N'):S.WS I dep lk false (S.sVal (S.eF name l)::r) env s C Q (S.ao I st H z M' N'):=by
 refine Zlj (T:=S.NumR I s H neg val M N) hy hde hlen hr hdep λ o k hT=>?_
 obtain⟨⟨st',rfl⟩,hk⟩:=Zy2 hT;intro c hc;exact⟨neg,val,hneg,hv,hz,Zy1 hs (Zwf hT (by omega) hM)⟩
theorem Zwg {st:S.Vw}{H v u nv nu t:Int}{x y:List Int}(hx:S.NumIn I st.mem H v nv x)(hy:S.NumIn I st.mem H u nu y)(ht:t=0\/t=1)(h26:st.reg 26=H)(hdat:∀j:Nat,j<max x.length y.length+3->S.Dat I (H+j))(hfew:max x.length y.length<=900) :
 ∀st1,S.Sim st st1->S.Real I S.kNSum false (st1.args [v,u,t]) 75 (λ _ o k=>S.ao I st H (S.signed nv (S.dval x)+S.signed (if t=0 then nu else 1-nu) (S.dval y)) (max x.length y.length+3) (3000+2800*max x.length y.length) o k):=λ st1 hs1=>by
 obtain⟨iF,hF⟩:=hN.sum;obtain⟨L,hL⟩:=Yx (max x.length y.length);rw[<- hL] at hdat hfew⊢;obtain⟨ny,hny⟩:∃n,n=(if t=0 then nu else 1-nu):=⟨_,rfl⟩
 rw[<- hny];have hr:=Zcw hN.ok S.rNSum (by kernel_rfl) hF (dep:=55) (by decide) (st1.args [v,u,t]) (S.ao I st H (S.signed nv (S.dval x)+S.signed ny (S.dval y)) (L+3) (3000+2800*L)) λ lk env hl hp=>?_
 .exact hr
 obtain⟨e0,e1,e2,e3,e4,rfl⟩:=Z2g hl;have h0:e0=v:=hp 0 (show(0:Int)<3 by decide);have h1:e1=u:=hp 1 (show(1:Int)<3 by decide);have h2:e2=t:=hp 2 (show(2:Int)<3 by decide);subst h0 h1 h2;have hs:S.Sim st (st1.args [e0,e1,e2]):=hs1.args (by simp);obtain⟨s1,hs1e⟩:∃s,s=st1.args [e0,e1,e2]:=⟨_,rfl⟩
 rw[<- hs1e] at hs⊢;have hm:s1.mem=st.mem:=hs.mem;have hx':S.NumIn I s1.mem H e0 nv x:=by rw[hm];exact hx
 have hy':S.NumIn I s1.mem H e1 nu y:=by rw[hm];exact hy
 have h26':s1.reg 26=H:=by rw[hs.reg 26 (by decide)];exact h26
 have sx:=hx.1.sg;have sy:=hy.1.sg;have dx:=Zk (show S.Digs x from hx.1.dig);have dy:=Zk (show S.Digs y from hy.1.dig);have sny:ny=0\/ny=1:=by rw[hny];split <;> omega
 show S.WS I 55 lk false [S.sAs 3 (S.eF S.kNNeg [S.eL 0]),S.sAs 4 (S.eB 9 (S.eF S.kNNeg [S.eL 1]) (S.eL 2)),
  S.sWhen (S.eQ (S.eL 3) (S.eL 4)) [S.sVal (S.eF S.kNAdd [S.eL 0,S.eL 1,S.eL 3])],
  S.sWhen (S.eF S.kNCmp [S.eL 0,S.eL 1]) [S.sVal (S.eF S.kNSub [S.eL 0,S.eL 1,S.eL 3])],
  S.sVal (S.eF S.kNSub [S.eL 1,S.eL 0,S.eL 4])] [e0,e1,e2,e3,e4] s1 8 _ _
 have l0:∀a b,S.Yl I 55 lk [e0,e1,e2,a,b] s1 (S.eL 0) e0 1:=λ a b=>Zs 0
 have l1:∀a b,S.Yl I 55 lk [e0,e1,e2,a,b] s1 (S.eL 1) e1 1:=λ a b=>Zs 1
 have l2:∀a b,S.Yl I 55 lk [e0,e1,e2,a,b] s1 (S.eL 2) e2 1:=λ a b=>Zs 2
 have l3:∀a b,S.Yl I 55 lk [e0,e1,e2,a,b] s1 (S.eL 3) a 1:=λ a b=>Zs 3
 have l4:∀a b,S.Yl I 55 lk [e0,e1,e2,a,b] s1 (S.eL 4) b 1:=λ a b=>Zs 4
 refine Zo (Zd1 (Za (l0 _ _) Zh) (by simp) (Zb4 hN hx'.1) (by decide)) (by decide) ?_
 show S.WS I 55 lk false _ [e0,e1,e2,nv,e4] s1 _ _ _
 refine Zo ((Zn (op:=9) (by decide) (Zd1 (Za (l1 _ _) Zh) (by simp) (Zb4 hN hy'.1) (by decide)) (l2 _ _)).to_ (y:=ny) (by
  rw[Z2q sy ht,hny];rcases ht with rfl|rfl
  .rcases sy with rfl|rfl <;> decide
  .rcases sy with rfl|rfl <;> decide) (Yb _)) (by decide) ?_
 show S.WS I 55 lk false _ [e0,e1,e2,nv,ny] s1 _ _ _
 refine Zv (Zow (l3 _ _) (l4 _ _)) (by decide) (λ hz=>?_) (λ hnz=>?_)
 .have hne:nv≠ny:=λ q=>by rw[if_pos q] at hz;cases hz
  refine Zv (Zd1 (Za (l0 _ _) (Za (l1 _ _) Zh)) (by simp) (Zob hN hx'.1 hy'.1) (by decide)) (by decide) (λ hz=>?_) (λ hnz=>?_)
  .have hlt:S.dval x<S.dval y:=by
    unfold S.cmpV at hz
    split at hz
    .assumption
    .split at hz <;> cases hz
   refine Zrd hN (val:=S.dval y-S.dval x) sny (by omega) ?_ hs (Za (l1 _ _) (Za (l0 _ _) (Za (l4 _ _) Zh))) (by decide) (by simp) (Zoh hN hy' hx' sny (by omega) h26' (λ j hj=>hdat j (by omega)) (by omega)) (by decide) (by omega) (by omega);unfold S.signed;rcases sx with rfl|rfl <;> rcases sny with h|h
   .omega
   .rw[h];simp;omega
   .rw[h];simp;omega
   .omega
  .have hle:¬S.dval x<S.dval y:=λ q=>hnz (by unfold S.cmpV;rw[if_pos q])
   refine Zrd hN (val:=S.dval x-S.dval y) sx (by omega) ?_ hs (Za (l0 _ _) (Za (l1 _ _) (Za (l3 _ _) Zh))) (by decide) (by simp) (Zoh hN hx' hy' sx (by omega) h26' (λ j hj=>hdat j (by omega)) (by omega)) (by decide) (by omega) (by omega);unfold S.signed;rcases sx with rfl|rfl <;> rcases sny with h|h
   .omega
   .rw[h];simp;omega
   .rw[h];simp;omega
   .omega
 .have he:nv=ny:=Y_c λ q=>hnz (if_neg q)
  refine Zrd hN (val:=S.dval x+S.dval y) sx (by omega) ?_ hs (Za (l0 _ _) (Za (l1 _ _) (Za (l3 _ _) Zh))) (by decide) (by simp) (Zog hN hx' hy' sx h26' (λ j hj=>hdat j (by omega)) (by omega)) (by decide) (by omega) (by omega);rw[<- he];unfold S.signed
  split <;> omega
end
end
section
theorem Zei (acc:List Int)(k:Nat)(d:Int)(j:Nat)(hk:k<acc.length):(acc.set k d).getD j 0=if j=k then d else acc.getD j 0:=by
 rw[Ye,List.getElem?_set,Ye];by_cases c:j=k
 .subst c
  rw[if_pos rfl,if_pos hk,if_pos rfl];rfl
 .rw[if_neg (λ e=>c e.symm),if_neg c]
theorem Zma:∀(acc:List Int)(k:Nat)(d:Int),k<acc.length->S.dval (acc.set k d)=S.dval acc+(d-acc.getD k 0)*65536^k
 | [],k,d,h=>absurd h (Nat.not_lt_zero k)
 | x::r,0,d,_=>by
  show d+65536*S.dval r=(x+65536*S.dval r)+(d-x)*65536^0
  simp;omega
 | x::r,k+1,d,h=>by
  have ih:=Zma r k d (by simpa using h)
  show x+65536*S.dval (r.set k d)=(x+65536*S.dval r)+(d-r.getD k 0)*65536^(k+1)
  rw[ih,Int.pow_succ]
  grind
theorem Zre {acc:List Int}(h:S.Digs acc)(k:Nat){d:Int}(hd:0<=d/\d<65536):S.Digs (acc.set k d):=λ x hx=>by
 rcases List.mem_or_eq_of_mem_set hx with q|q
 .exact h x q
 .rw[q];exact hd
theorem Zwh {st s:S.Vw}{H:Int}{acc:List Int}(h:S.HpS st s H acc){k:Nat}(hk:k<acc.length)(d:Int):S.HpS st (s.sto (H+2+k) (4*d)) H (acc.set k d):=by
 have hm:∀a,(s.sto (H+2+k) (4*d)).mem a=if a=H+2+k then 4*d else s.mem a:=λ _=>rfl
 refine⟨λ a ha=>?_,λ j hj=>?_,h.reg,h.inp,h.out⟩
 .rw[Ybm] at ha
  rw[hm,if_neg (by omega)];exact h.out_ a ha
 .rw[Ybm] at hj
  rw[hm,Zei acc k d j hk];by_cases c:j=k
  .rw[if_pos (by omega),if_pos c]
  .rw[if_neg (by omega),if_neg c]
   exact h.dig j hj
theorem Z6g {env:List Int}(h:(env.length:Int)=7):∃a b c d e f g,env=[a,b,c,d,e,f,g]:=by
 match env,h with
 | [a,b,c,d,e,f,g],_=>exact⟨a,b,c,d,e,f,g,rfl⟩
 | [],h=>simp at h
 | [_],h=>simp at h
 | [_,_],h=>simp at h
 | [_,_,_],h=>simp at h
 | [_,_,_,_],h=>simp at h
 | [_,_,_,_,_],h=>simp at h
 | [_,_,_,_,_,_],h=>simp at h
 | _::_::_::_::_::_::_::_::_,h=>simp only[Yi] at h;omega
theorem Zy3 (n:Nat):S.dval (Ys n 0)=0:=Zeg λ j=>by
 rw[Ye,List.getElem?_replicate]
 split <;> rfl
section
variable {I:S.Img}(hN:S.NSegs I)
include hN
theorem Zwi {st:S.Vw}{H v u nv nu:Int}{x y:List Int}(hx:S.NumIn I st.mem H v nv x)(hy:S.NumIn I st.mem H u nu y)(h26:st.reg 26=H)(hdat:∀j:Nat,j<x.length+y.length+3->S.Dat I (H+j))(hfew:x.length+y.length<=900){W:Nat}(hW:W=800*y.length+900) :
 ∀st1,S.Sim st st1->S.Real I S.kNMul false (st1.args [v,u]) 56 (λ _ o k=>S.NumR I st H (if nv=nu then 0 else 1) (S.dval x*S.dval y) (x.length+y.length+3) (2000+200*(x.length+y.length)+x.length*W) o k):=λ st1 hs1=>by
 obtain⟨iF,hF⟩:=hN.mul;obtain⟨X,hX⟩:∃L,L=x.length:=⟨_,rfl⟩
 obtain⟨Y,hY⟩:∃L,L=y.length:=⟨_,rfl⟩
 rw[<- hX,<- hY] at hdat hfew⊢;rw[<- hY] at hW;obtain⟨sg,hsg⟩:∃n:Int,n=(if nv=nu then 0 else 1):=⟨_,rfl⟩
 rw[<- hsg];obtain⟨NN,hNN⟩:∃n,n=2000+200*(X+Y)+X*W:=⟨_,rfl⟩
 rw[<- hNN];have hr:=Zcw hN.ok S.rNMul (by kernel_rfl) hF (dep:=34) (by decide) (st1.args [v,u]) (S.NumR I st H sg (S.dval x*S.dval y) (X+Y+3) NN) λ lk env hl hp=>?_
 .exact hr
 obtain⟨e0,e1,e2,e3,e4,e5,e6,rfl⟩:=Z6g hl;have h0:e0=v:=hp 0 (show(0:Int)<2 by decide);have h1:e1=u:=hp 1 (show(1:Int)<2 by decide);subst h0 h1;have hs:S.Sim st (st1.args [e0,e1]):=hs1.args (by simp);obtain⟨s1,hs1e⟩:∃s,s=st1.args [e0,e1]:=⟨_,rfl⟩
 rw[<- hs1e] at hs⊢;have hsz:=hN.ok.size2;have hd0:=hdat 0 (by omega);have hdl:=hdat (X+Y+2) (by omega);rw[show H+((0:Nat):Int)=H by omega] at hd0;have hH0:=hd0.1;have hHl:=hdl.2.1;have dx:S.Digs x:=hx.1.dig;have dy:S.Digs y:=hy.1.dig;have n0:=Zl9 (H:=H) hs;have yh:∀(env:List Int)(s:S.Vw)(acc:List Int),S.HpS st s H acc->S.Yl I 34 lk env s S.eH H 1:=λ env s acc h=>(Zxj (n:=26) (by decide)).to_ (by rw[h.reg 26 (by decide)];exact h26) (Yb _)
 have l0:∀s b c d e f,S.Yl I 34 lk [e0,e1,b,c,d,e,f] s (S.eL 0) e0 1:=λ s b c d e f=>Zs 0
 have l1:∀s b c d e f,S.Yl I 34 lk [e0,e1,b,c,d,e,f] s (S.eL 1) e1 1:=λ s b c d e f=>Zs 1
 have l2:∀s b c d e f,S.Yl I 34 lk [e0,e1,b,c,d,e,f] s (S.eL 2) b 1:=λ s b c d e f=>Zs 2
 have l3:∀s b c d e f,S.Yl I 34 lk [e0,e1,b,c,d,e,f] s (S.eL 3) c 1:=λ s b c d e f=>Zs 3
 have l4:∀s b c d e f,S.Yl I 34 lk [e0,e1,b,c,d,e,f] s (S.eL 4) d 1:=λ s b c d e f=>Zs 4
 have l5:∀s b c d e f,S.Yl I 34 lk [e0,e1,b,c,d,e,f] s (S.eL 5) e 1:=λ s b c d e f=>Zs 5
 have l6:∀s b c d e f,S.Yl I 34 lk [e0,e1,b,c,d,e,f] s (S.eL 6) f 1:=λ s b c d e f=>Zs 6
 have lenX:∀(s:S.Vw)(acc:List Int),S.HpS st s H acc->∀b c d e f,S.Yl I 34 lk [e0,e1,b,c,d,e,f] s (S.eF S.kNLen [S.eL 0]) (X:Int) 109:=λ s acc h b c d e f=>(Zd1 (Za (l0 s b c d e f) Zh) (by simp) (Za8 hN (Zar hx h)) (by decide)).to_ (by rw[hX]) (Yb _)
 have lenY:∀(s:S.Vw)(acc:List Int),S.HpS st s H acc->∀b c d e f,S.Yl I 34 lk [e0,e1,b,c,d,e,f] s (S.eF S.kNLen [S.eL 1]) (Y:Int) 109:=λ s acc h b c d e f=>(Zd1 (Za (l1 s b c d e f) Zh) (by simp) (Za8 hN (Zar hy h)) (by decide)).to_ (by rw[hY]) (Yb _)
 show S.WS I 34 lk false [S.sAs 6 (S.eAdd (S.eF S.kNLen [S.eL 0]) (S.eF S.kNLen [S.eL 1])),S.sAs 2 (S.eC 0),
  S.sWh (S.eLt (S.eL 2) (S.eL 6)) [S.sPut (S.eAdd S.eH (S.eL 2)) 2 (S.eC 0),S.sInc 2],
  S.sAs 2 (S.eC 0),
  S.sWh (S.eLt (S.eL 2) (S.eF S.kNLen [S.eL 0]))
   [S.sAs 4 (S.eF S.kNDig [S.eL 0,S.eL 2]),S.sAs 5 (S.eC 0),S.sAs 3 (S.eC 0),
    S.sWh (S.eLt (S.eL 3) (S.eF S.kNLen [S.eL 1]))
     [S.sAs 5 (S.eAdd (S.eAdd (S.eL 5) (S.eShr (S.eM S.eCell 2) 2)) (S.eB 3 (S.eL 4) (S.eF S.kNDig [S.eL 1,S.eL 3]))),
      S.sPut S.eCell 2 (S.eDg (S.eL 5)),S.sAs 5 (S.eShr (S.eL 5) 16),S.sInc 3],
    S.sPut S.eCell 2 (S.eDg (S.eL 5)),S.sInc 2],
  S.sVal (S.eF S.kNFin [S.eB 9 (S.eF S.kNNeg [S.eL 0]) (S.eF S.kNNeg [S.eL 1]),S.eL 6])] [e0,e1,e2,e3,e4,e5,e6] s1 8 _ _
 refine Zo ((Zn (op:=1) (by decide) (lenX s1 _ n0 _ _ _ _ _) (lenY s1 _ n0 _ _ _ _ _)).to_ (y:=((X+Y:Nat):Int)) (by rw[Zat];unfold S.u32m;omega) (Yb _)) (by decide) ?_
 show S.WS I 34 lk false _ [e0,e1,e2,e3,e4,e5,((X+Y:Nat):Int)] s1 _ _ _
 refine Zo (Zp 0) (by decide) ?_
 show S.WS I 34 lk false _ [e0,e1,0,e3,e4,e5,((X+Y:Nat):Int)] s1 _ _ _
 refine Zfe (by decide) (λ env s C k=>∃i:Nat,env=[e0,e1,(i:Int),e3,e4,e5,((X+Y:Nat):Int)]/\k=X+Y-i/\i<=X+Y/\S.HpS st s H (Ys i 0)/\C<=300+40*i) (k0:=X+Y)
  ⟨0,rfl,rfl,Yag _,n0,by decide⟩ ?_
 rintro env s C k ⟨i,rfl,rfl,hi,hS,hC⟩;have y26:=Zn (op:=14) (by decide) (l2 s (i:Int) e3 e4 e5 ((X+Y:Nat):Int)) (l6 s _ _ _ _ _);rw[Zcg] at y26;refine⟨_,_,y26,λ hz=>?_,λ hnz=>?_⟩
 rotate_left
 .have hlt:i<X+Y:=Y_c λ q=>hnz (if_neg (by omega))
  have hdi:=hdat (i+2) (by omega);rw[show H+((i+2:Nat):Int)=H+2+i by omega] at hdi;refine Zb3 (x:=4*0) (p:=H+2+i) ((Zn (op:=1) (by decide) (yh _ s _ hS) (l2 s _ _ _ _ _)).to_ (y:=H+i) (by rw[Zat];unfold S.u32m;omega) (Yb _)) (Zp 0) (by decide) (by decide) (by unfold S.u32m;omega) hdi.2 ?_;have hS2:=Zgb hS 0;rw[Yco] at hS2;refine Zo ((Zn (op:=1) (by decide) (l2 _ _ _ _ _ _) (Zp 1)).to_ (y:=((i+1:Nat):Int)) (by rw[Zat];unfold S.u32m;omega) (Yb _)) (by decide) ?_
  show S.WS I 34 lk false _ [e0,e1,((i+1:Nat):Int),e3,e4,e5,((X+Y:Nat):Int)] _ _ _ _
  exact Z3 (k2:=X+Y-(i+1)) (by omega) ⟨i+1,rfl,rfl,by omega,by rw[List.replicate_succ'];exact hS2,by omega⟩
 have hiE:i=X+Y:=Y_c λ q=>by rw[if_pos (by omega)] at hz;cases hz
 subst hiE;refine Zo (Zp 0) (by decide) ?_
 show S.WS I 34 lk false _ [e0,e1,0,e3,e4,e5,((X+Y:Nat):Int)] s _ _ _
 refine Zfe (by decide) (λ env s C k=>∃(i:Nat)(b c d:Int)(acc:List Int),env=[e0,e1,(i:Int),b,c,d,((X+Y:Nat):Int)]/\k=X-i/\i<=X/\acc.length=X+Y/\S.Digs acc/\S.HpS st s H acc/\S.dval acc=S.psum x i*S.dval y/\(∀j,i+Y<=j->acc.getD j 0=0)/\C<=350+40*(X+Y)+i*W) (k0:=X)
  ⟨0,e3,e4,e5,Ys (X+Y) 0,rfl,rfl,Yag _,Yco,(λ d hd=>by rw[List.eq_of_mem_replicate hd];decide),hS,by rw[Zy3];show _=0*_;rw[Int.zero_mul],(λ j _=>by
   rw[Ye,List.getElem?_replicate]
   split <;> rfl),by omega⟩ ?_
 rintro env s C k ⟨i,b,c,d,acc,rfl,rfl,hi,hla,hda,hS,hinv,hzero,hC⟩;have y2X:=Zn (op:=14) (by decide) (l2 s (i:Int) b c d ((X+Y:Nat):Int)) (lenX s acc hS _ _ _ _ _);rw[Zcg] at y2X;refine⟨_,_,y2X,λ hz=>?_,λ hnz=>?_⟩
 .have hiE:i=X:=Y_c λ q=>by rw[if_pos (by omega)] at hz;cases hz
  have hv:S.dval acc=S.dval x*S.dval y:=by rw[hinv,Zam (by omega)]
  have sx:=hx.1.sg;have sy:=hy.1.sg;have hsg01:sg=0\/sg=1:=by rw[hsg];split <;> omega
  refine Zwe hN (acc:=acc) hsg01 hS h26 hda (by omega) (λ j hj=>hdat j (by omega)) hv (by omega)
   (Za ((Zn (op:=9) (by decide) (Zd1 (Za (l0 s _ _ _ _ _) Zh) (by simp) (Zb4 hN (Zar hx hS)) (by decide)) (Zd1 (Za (l1 s _ _ _ _ _) Zh) (by simp) (Zb4 hN (Zar hy hS)) (by decide))).to_ (y:=sg) (by rw[Z2q sx sy,hsg]) (Yb _)) (Za ((l6 s _ _ _ _ _).to_ (y:=(acc.length:Int)) (by rw[hla]) (Yb _)) Zh)) (by decide) (by decide) ?_
  rw[hla,hNN,<- hiE];omega
 .have hlt:i<X:=Y_c λ q=>hnz (if_neg (by omega))
  have bx:=Zz dx i;have y1:=Zd1 (d:=34) (dep:=34) (lk:=lk) (env:=[e0,e1,(i:Int),b,c,d,((X+Y:Nat):Int)]) (Za (l0 s _ _ _ _ _) (Za (l2 s _ _ _ _ _) Zh)) (by simp) (Za9 hN (Zar hx hS) ⟨by omega,by omega⟩) (by decide);rw[Yah] at y1;obtain⟨a,ha⟩:=Yx (x.getD i 0);rw[<- ha] at y1 bx;refine Zo y1 (by decide) ?_
  show S.WS I 34 lk false _ [e0,e1,(i:Int),b,a,d,((X+Y:Nat):Int)] s _ _ _
  refine Zo (Zp 0) (by decide) ?_
  show S.WS I 34 lk false _ [e0,e1,(i:Int),b,a,0,((X+Y:Nat):Int)] s _ _ _
  refine Zo (Zp 0) (by decide) ?_
  show S.WS I 34 lk false _ [e0,e1,(i:Int),0,a,0,((X+Y:Nat):Int)] s _ _ _
  refine Zfe (by decide) (λ env s C2 k=>∃(j:Nat)(cc:Int)(acc2:List Int),env=[e0,e1,(i:Int),(j:Int),a,cc,((X+Y:Nat):Int)]/\k=Y-j/\j<=Y/\acc2.length=X+Y/\S.Digs acc2/\S.HpS st s H acc2/\(0<=cc/\cc<65536)/\S.dval acc2+cc*65536^(i+j)=S.psum x i*S.dval y+a*65536^i*S.psum y j/\(∀j,i+Y<=j->acc2.getD j 0=0)/\C2<=C+500+760*j) (k0:=Y)
   ⟨0,0,acc,rfl,rfl,Yag _,hla,hda,hS,by decide,(by rw[hinv,S.psum];simp),hzero,by omega⟩ ?_
  rintro env s C2 k ⟨j,cc,acc2,rfl,rfl,hj,hla2,hda2,hS2,hcc,hinv2,hzero2,hC2⟩;have y3Y:=Zn (op:=14) (by decide) (l3 s (i:Int) (j:Int) a cc ((X+Y:Nat):Int)) (lenY s acc2 hS2 _ _ _ _ _);rw[Zcg] at y3Y;have hdi:S.Dat I (H+2+i+j):=by
   have:=hdat (i+j+2) (by omega);rw[show H+((i+j+2:Nat):Int)=H+2+i+j by omega] at this;exact this
  have ycell:∀(s:S.Vw)(acc:List Int)(cc:Int),S.HpS st s H acc->S.Yl I 34 lk [e0,e1,(i:Int),(j:Int),a,cc,((X+Y:Nat):Int)] s S.eCell (H+i+j) 5:=λ s acc cc h =>
   (Zn (op:=1) (by decide) (yh _ s _ h) (Zn (op:=1) (by decide) (l2 s _ _ _ _ _) (l3 s _ _ _ _ _))).to_ (by rw[Zat,Zat];unfold S.u32m;omega) (Yb _)
  have hpc:S.u32m (H+i+j+2)=H+2+i+j:=by unfold S.u32m;omega
  have eij:H+2+((i+j:Nat):Int)=H+2+i+j:=by omega
  refine⟨_,_,y3Y,λ hz=>?_,λ hnz=>?_⟩
  .have hjE:j=Y:=Y_c λ q=>by rw[if_pos (by omega)] at hz;cases hz
   subst hjE;refine Zb3 (x:=4*cc) (p:=H+2+i+j) (ycell s acc2 cc hS2) ((Zn (op:=10) (by decide) (Zn (op:=7) (by decide) (l5 s _ _ _ _ _) (Zp 65535)) (Zp 2)).to_ (by rw[Zfj ⟨by omega,by omega⟩];omega) (Yb _)) (by decide) (by decide) hpc hdi.2 ?_;have hS3:=Zwh hS2 (k:=i+j) (by omega) cc;rw[eij] at hS3;refine Zo ((Zn (op:=1) (by decide) (l2 _ _ _ _ _ _) (Zp 1)).to_ (y:=((i+1:Nat):Int)) (by rw[Zat];unfold S.u32m;omega) (Yb _)) (by decide) ?_
   show S.WS I 34 lk false _ [e0,e1,((i+1:Nat):Int),(j:Int),a,cc,((X+j:Nat):Int)] _ _ _ _
   refine Z3 (k2:=X-(i+1)) (by omega) ⟨i+1,_,_,_,acc2.set (i+j) cc,rfl,rfl,by omega,by rw[Ybm];exact hla2,Zre hda2 _ hcc,hS3,?_,λ q hq=>?_,?_⟩
   .rw[Zma _ _ _ (by omega),hzero2 (i+j) (Yb _),S.psum,Int.sub_zero,hinv2,Zam (x:=y) (by omega),<- ha]
    grind
   .rw[Zei _ _ _ _ (by omega),if_neg (by omega)]
    exact hzero2 q (by omega)
   .rw[show(i+1)*W=i*W+W from Nat.succ_mul i W]
    omega
  .have hlt2:j<Y:=Y_c λ q=>hnz (if_neg (by omega))
   have by_:=Zz dy j;have bc:=Zz hda2 (i+j);have y2:=Zd1 (d:=34) (dep:=34) (lk:=lk) (env:=[e0,e1,(i:Int),(j:Int),a,cc,((X+Y:Nat):Int)]) (Za (l1 s _ _ _ _ _) (Za (l3 s _ _ _ _ _) Zh)) (by simp) (Za9 hN (Zar hy hS2) ⟨by omega,by omega⟩) (by decide);rw[Yah] at y2;have hcellv:=hS2.dig (i+j) (by omega);rw[eij] at hcellv;have ym:=Zli (n:=2) (ycell s acc2 cc hS2) hpc (Za7 hdi);rw[hcellv] at ym;obtain⟨q0,hq0⟩:∃q,q=acc2.getD (i+j) 0:=⟨_,rfl⟩
   obtain⟨yj,hyj⟩:∃q,q=y.getD j 0:=⟨_,rfl⟩
   rw[<- hq0] at bc ym;rw[<- hyj] at by_ y2;have hm0:0<=a*yj:=Yat bx.1 by_.1;have hm1:a*yj<=65535*65535:=Int.mul_le_mul (by omega) (by omega) by_.1 (by decide);obtain⟨tot,htot⟩:=Yx (cc+q0+a*yj);have ht4:0<=tot/\tot<4294967296:=by omega
   refine Zo ((Zn (op:=1) (by decide) (Zn (op:=1) (by decide) (l5 s _ _ _ _ _) (Zn (op:=11) (by decide) ym (Zp 2))) (Zn (op:=3) (by decide) (l4 s _ _ _ _ _) y2)).to_ (y:=tot) (by
    rw[Zat,Zat,Z6u,Z3a,htot];generalize a*yj=ay at *;unfold S.u32m;omega) (Yb _)) (by decide) ?_
   show S.WS I 34 lk false _ [e0,e1,(i:Int),(j:Int),a,tot,((X+Y:Nat):Int)] s _ _ _
   refine Zb3 (x:=4*(tot%65536)) (p:=H+2+i+j) (ycell s acc2 tot hS2) ((Zn (op:=10) (by decide) (Zn (op:=7) (by decide) (l5 s _ _ _ _ _) (Zp 65535)) (Zp 2)).to_ (Zfj ht4) (Yb _)) (by decide) (by decide) hpc hdi.2 ?_;have hS3:=Zwh hS2 (k:=i+j) (by omega) (tot%65536);rw[eij] at hS3;refine Zo ((Zn (op:=11) (by decide) (l5 _ _ _ _ _ _) (Zp 16)).to_ (y:=tot/65536) (by rw[Zj3]) (Yb _)) (by decide) ?_
   show S.WS I 34 lk false _ [e0,e1,(i:Int),(j:Int),a,tot/65536,((X+Y:Nat):Int)] _ _ _ _
   refine Zo ((Zn (op:=1) (by decide) (l3 _ _ _ _ _ _) (Zp 1)).to_ (y:=((j+1:Nat):Int)) (by rw[Zat];unfold S.u32m;omega) (Yb _)) (by decide) ?_
   show S.WS I 34 lk false _ [e0,e1,(i:Int),((j+1:Nat):Int),a,tot/65536,((X+Y:Nat):Int)] _ _ _ _
   refine Z3 (k2:=Y-(j+1)) (by omega) ⟨j+1,tot/65536,acc2.set (i+j) (tot%65536),rfl,rfl,by omega,by rw[Ybm];exact hla2,Zre hda2 _ ⟨by omega,by omega⟩,hS3,⟨by omega,by omega⟩,?_,λ q hq=>?_,by omega⟩
   .rw[Zma _ _ _ (by omega),S.psum,<- hq0,<- hyj,show i+(j+1)=(i+j)+1 by omega,Int.pow_succ]
    have hqt:tot=tot%65536+65536*(tot/65536):=by omega
    have hp:(65536:Int)^(i+j)=65536^i*65536^j:=Int.pow_add _ _ _;rw[hp] at hinv2⊢;generalize (65536:Int)^i=Bi at *;generalize (65536:Int)^j=Bj at *;generalize tot%65536=dd at *;generalize tot/65536=qq at *;generalize S.dval acc2=D at *;generalize S.psum y j=Py at *;generalize S.psum x i*S.dval y=PX at *
    grind
   .rw[Zei _ _ _ _ (by omega),if_neg (by omega)]
    exact hzero2 q hq
end
end
