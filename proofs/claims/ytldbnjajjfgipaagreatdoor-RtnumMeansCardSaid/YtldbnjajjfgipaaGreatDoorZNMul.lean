/- Parts. -/
import Derived.Test.YtldbnjajjfgipaaGreatDoorZNCmp
set_option linter.all false
open Nat renaming le_refl->Yb,zero_le->Yae
open List renaming length_append->Yd,getD_eq_getElem?_getD->Ye,length_cons->Yj,getElem?_append_left->Yn,getElem?_append_right->Yo,replicate->Yt,length_nil->Yab,length_set->Ybq,length_replicate->Ybw
open Int renaming toNat_natCast->Yaj,mul_nonneg->Yas,le_of_lt->Yaz,pow_pos->Ya2,toNat->Ycg
namespace Go.Proofs.YtldbnjajjfgipaaGreatDoor
open S Go.RowKit
section
namespace S
def Top (ds:List Int)(n:Nat):Prop:=n<=ds.length/\(∀j,n<=j->ds.getD j 0=0)/\(n=0\/ds.getD (n-1) 0≠0)
def signed (neg:Int)(x:Int):Int:=if neg=0 then x else -x
def HpAt (I:Img)(st:Vw)(H:Int)(ds:List Int):Prop:=st.reg 26=H/\Digs ds/\ds.length<=1000/\(∀j:Nat,j<ds.length+2->Dat I (H+j))/\∀i:Nat,i<ds.length->st.mem (H+2+i)=4*ds.getD i 0
def FinR (st:Vw)(H neg:Int)(ds:List Int)(N:Nat)(o:BO)(k:Nat):Prop:=∃st',o=.ret st'/\k<=N /\
 ((dval ds<536870912+neg/\st'.reg 4=u32m (4*signed neg (dval ds))/\Sim st st')\/(536870912+neg<=dval ds/\∃n,Top ds n/\st'.reg 4=4*H+1/\Sim (((st.sto H (32*(n+1)+31)).sto (H+1) (4*neg)).set 26 (H+n+2)) st'))
end S
theorem Zdb {a:List Int}{n:Nat}(h:S.Top a n):S.dval a=S.dval (a.take n):=by
 refine Zib λ j=>?_
 by_cases c:j<n
 .rw[Ye,Ye,List.getElem?_take_of_lt c]
 .rw[h.2.1 j (by omega),Ye,List.getElem?_eq_none (by rw[List.length_take];omega)]
  rfl
theorem Zmw:∀(n:Nat) {a:List Int},S.Digs a->(∀j,n<=j->a.getD j 0=0)->n<=2->S.dval a=a.getD 0 0+65536*a.getD 1 0:=λ n a hd h hn=>by
 have h2:S.dval a.tail.tail=0:=Zen λ j=>by rw[Zaw,Zaw];exact h (j+1+1) (by omega)
 rw[Za2 a,Za2 a.tail,h2,Zaw]
 show _=a.getD 0 0+65536*a.getD (0+1) 0
 omega
theorem Zxf {b:List Int}(c:S.Digs b){n:Nat}(hn:3<=n)(h:b.getD (n-1) 0≠0):4294967296<=S.dval b:=by
 have d:∀(i:Nat) {l:List Int},S.Digs l->l.getD i 0≠0->1<=S.dval l:=by
  intro i
  induction i with
  | zero =>
   intro l a h0;have h1:=Zy a 0;have h2:=Zg (Zb4 a);rw[Za2 l];omega
  | succ i ih =>
   intro l a h0;have h1:=Zy a 0;have h2:=ih (Zb4 a) (by rw[Zaw];exact h0);rw[Za2 l];omega
 have h3:=d (n-3) (Zb4 (Zb4 c)) (by rw[Zaw,Zaw,show n-3+1+1=n-1 by omega];exact h);have b0:=Zy c 0;have b1:=Zy (Zb4 c) 0;rw[Za2 b,Za2 b.tail];omega
theorem Z7h (x:Int):alu 10 x (14%4294967296)=S.u32m (x*16384):=rfl
theorem Z81 (x:Int):alu 10 x (5%4294967296)=S.u32m (x*32):=rfl
theorem Z7i {a b:Int}(ha:0<=a/\a<65536)(hb:0<=b/\b<65536):alu 8 a (b*65536)=a+b*65536:=by
 show bits .or .u32 a (b*65536)=_
 rw[u32_or (by omega) (by omega) (by omega) (by omega),Nat.or_comm,<- u32_or (by omega) (by omega) (by omega) (by omega)];exact(Zu 16 (b*65536) a 65536 (by decide) (by omega) (by omega) (by omega) (by omega) (by omega) (by omega)).trans (by omega)
theorem Z33 (n:Int)(h:0<=n/\n<=100000):alu 8 (S.u32m ((n+1)*32)) (31%4294967296)=32*(n+1)+31:=by
 have e:S.u32m ((n+1)*32)=32*(n+1):=by unfold S.u32m;omega
 rw[e];exact Zu 5 (32*(n+1)) 31 32 (by decide) (by omega) (by omega) (by omega) (by omega) (by omega) (by omega)
section
variable {I:S.Img}(hN:NSegs I)
include hN
theorem Zo4 {st:S.Vw}{H neg:Int}{a:List Int}(a8:neg=0\/neg=1)(h:S.HpAt I st H a):∀w,S.Sim st w->Real I kNFin false (w.args [neg,(a.length:Int)]) 19 (λ _ o k=>S.FinR st H neg a (300+60*a.length) o k):=λ w Z=>by
 obtain⟨iF,hF⟩:=hN.fin;obtain⟨a4,x,a7,t,F⟩:=h;have hr:=Zcy hN.ok rNFin (by kernel_rfl) hF (dep:=0) (by decide) (w.args [neg,(a.length:Int)]) (S.FinR st H neg a (300+60*a.length)) λ lk env hl hp=>?_
 .exact hr
 obtain⟨g,e1,L,e3,rfl⟩:=Z74 hl;have h0:g=neg:=hp 0 (show(0:Int)<2 by decide);have h1:e1=(a.length:Int):=hp 1 (show(1:Int)<2 by decide);subst h0 h1;have O:S.Sim st (w.args [g,(a.length:Int)]):=Z.args (by simp);obtain⟨E,V⟩:∃s,s=w.args [g,(a.length:Int)]:=⟨_,rfl⟩
 rw[<- V] at O⊢;have hm:E.mem=st.mem:=O.mem;have D:E.reg 26=H:=by rw[O.reg 26 (by decide)];exact a4
 have a9:=hN.ok.size2;have J:=t 0 (by omega);have M:=t 1 (by omega);have a5:=t (a.length+1) (by omega);rw[show H+((0:Nat):Int)=H by omega] at J;rw[show H+((1:Nat):Int)=H+1 by omega] at M;have b2:=J.1;have b3:=a5.2.1;have yh:∀env,Yl I 0 lk env E eH H 1:=λ env=>(Zyl (n:=26) (by decide)).to_ D (Yb _)
 have R:∀b c d,Yl I 0 lk [g,b,c,d] E (eL 0) g 1:=λ b c d=>Zs 0
 have v:∀b c d,Yl I 0 lk [g,b,c,d] E (eL 1) b 1:=λ b c d=>Zs 1
 have z:∀b c d,Yl I 0 lk [g,b,c,d] E (eL 2) c 1:=λ b c d=>Zs 2
 have a3:∀b c d,Yl I 0 lk [g,b,c,d] E (eL 3) d 1:=λ b c d=>Zs 3
 have dg:∀i:Nat,i<a.length->∀env,Yl I 0 lk env E (eM eH (2+i)) (4*a.getD i 0) 2:=λ i hi env=>by
  have r:=t (i+2) (by omega);rw[show H+((i+2:Nat):Int)=H+2+i by omega] at r;refine(Zmn (n:=2+i) (p:=H+2+i) (yh env) (by have:=r.2.1;unfold S.u32m;omega) (Za7 r)).to_ ?_ (Yb _);rw[hm];exact F i hi
 show WS I 0 lk false [sAs 3 (eC 1),
  sWh (eL 3) [sAs 3 (eC 0),sWhen (eL 1) [sWhen (eNot (eM (eAdd eH (eL 1)) 1)) [sAs 1 (eSub (eL 1) (eC 1)),sAs 3 (eC 1)]]],
  sAs 2 (eC 0),sWhen (eL 1) [sAs 2 (eShr (eM eH 2) 2)],
  sWhen (eQ (eL 1) (eC 2)) [sAs 2 (eB 8 (eL 2) (eShl (eM eH 3) 14))],
  sWhen (eLt (eL 1) (eC 3)) [sWhen (eLt (eL 2) (eAdd (eC 536870912) (eL 0))) [sWhen (eL 0) [sAs 2 (eSub (eC 0) (eL 2))],S.sVal (eShl (eL 2) 2)]],
  sPut eH 0 (eB 8 (eShl (eAdd (eL 1) (eC 1)) 5) (eC 31)),sPut eH 1 (eShl (eL 0) 2),
  sSet 26 (eAdd (eAdd eH (eL 1)) (eC 2)),S.sVal (eRef (eSub (eSub eH (eL 1)) (eC 2)))] [g,(a.length:Int),L,e3] E 8 _ _
 refine Zq (Zp 1) (by decide) ?_
 show WS I 0 lk false _ [g,(a.length:Int),L,1] E _ _ _
 refine Zfp (by decide) (λ env s C k=>s=E/\∃(n:Nat)(f:Int),env=[g,(n:Int),L,f]/\n<=a.length/\(∀j,n<=j->a.getD j 0=0)/\((f=0/\k=0/\(n=0\/a.getD (n-1) 0≠0)/\C<=80+50*(a.length-n))\/(f=1/\k=n+1/\C<=20+50*(a.length-n)))) (k0:=a.length+1)
  ⟨rfl,a.length,1,rfl,Yb _,λ j hj=>by rw[Ye,List.getElem?_eq_none hj];rfl,.inr ⟨rfl,rfl,by omega⟩⟩ ?_
 rintro env s C k ⟨rfl,n,f,rfl,Y,G,B⟩;refine⟨f,1,a3 _ _ _,λ hf=>?_,λ hf=>?_⟩
 .rcases B with⟨_,_,htop,hC⟩|⟨q,_,_⟩
  .have hT:S.Top a n:=⟨Y,G,htop⟩
   have b5:(n:Int)<=1000:=by omega
   have A:∀(C:Nat)(m:Int)(Q:List Int->S.Vw->Nat->Prop),C<=250+60*a.length->536870912+g<=S.dval a ->
    WS I 0 lk false [sPut eH 0 (eB 8 (eShl (eAdd (eL 1) (eC 1)) 5) (eC 31)),sPut eH 1 (eShl (eL 0) 2),sSet 26 (eAdd (eAdd eH (eL 1)) (eC 2)),S.sVal (eRef (eSub (eSub eH (eL 1)) (eC 2)))] [g,(n:Int),m,f] s C Q (S.FinR st H g a (300+60*a.length)):=λ C m Q hC P=>by
    have yn:∀s,Yl I 0 lk [g,(n:Int),m,f] s (eL 1) n 1:=λ s=>Zs 1
    have y0:∀s,Yl I 0 lk [g,(n:Int),m,f] s (eL 0) g 1:=λ s=>Zs 0
    have a2:=(Zo (op:=8) (by decide) (Zo (op:=10) (by decide) (Zo (op:=1) (by decide) (yn s) (Zp 1)) (Zp 5)) (Zp 31)).to_ (y:=32*((n:Int)+1)+31) (by
     rw[Zar,Z81,show S.u32m ((n:Int)+1%4294967296)=(n:Int)+1 by unfold S.u32m;omega];exact Z33 n ⟨by omega,by omega⟩) (Yb _)
    refine Zb3 (p:=H) (yh _) a2 (by decide) (by decide) (by unfold S.u32m;omega) J.2 ?_;have a0:Yl I 0 lk [g,(n:Int),m,f] (s.sto H (32*((n:Int)+1)+31)) eH H 1:=(Zyl (n:=26) (by decide)).to_ D (Yb _);refine Zb3 (p:=H+1) a0 ((Zo (op:=10) (by decide) (y0 _) (Zp 2)).to_ (y:=4*g) (by rw[Z4n];unfold S.u32m;omega) (Yb _)) (by decide) (by decide) (by have:=M.2.1;unfold S.u32m;omega) M.2 ?_;have a6:Yl I 0 lk [g,(n:Int),m,f] ((s.sto H (32*((n:Int)+1)+31)).sto (H+1) (4*g)) eH H 1:=(Zyl (n:=26) (by decide)).to_ D (Yb _);refine Z5x ((Zo (op:=1) (by decide) (Zo (op:=1) (by decide) a6 (yn _)) (Zp 2)).to_ (y:=H+n+2) (by rw[Zar,Zar];unfold S.u32m;omega) (Yb _)) (by decide) ?_;have a1:Yl I 0 lk [g,(n:Int),m,f] (((s.sto H (32*((n:Int)+1)+31)).sto (H+1) (4*g)).set 26 (H+n+2)) eH (H+n+2) 1:=(Zyl (n:=26) (by decide)).to_ (Zj _ _ _) (Yb _);have yv:=(Zo (op:=8) (by decide) (Zo (op:=10) (by decide) (Zo (op:=2) (by decide) (Zo (op:=2) (by decide) a1 (yn _)) (Zp 2)) (Zp 2)) (Zp 1)).to_ (y:=4*H+1) (by
     rw[Zkc,Zkc,Z4n,show S.u32m (S.u32m (H+n+2-n)-2%4294967296)=H by unfold S.u32m;omega,show S.u32m (H*4)=4*H by unfold S.u32m;omega];exact or1 (by omega) (by omega) (by omega)) (Yb _)
    refine Zfh yv (by decide) λ T c2 h2 U=>⟨_,rfl,by omega,.inr ⟨P,n,hT,rfl,(S.Sim.trans ?_ h2).set4 _⟩⟩
    exact((O.sto _ _).sto _ _).set _ _
   have u:∀(C:Nat)(m:Int)(Q:List Int->S.Vw->Nat->Prop),C<=180+50*a.length->0<=m/\m<4294967296->(n<3->m=S.dval a) ->
    WS I 0 lk false [sWhen (eLt (eL 1) (eC 3)) [sWhen (eLt (eL 2) (eAdd (eC 536870912) (eL 0))) [sWhen (eL 0) [sAs 2 (eSub (eC 0) (eL 2))],S.sVal (eShl (eL 2) 2)]],
     sPut eH 0 (eB 8 (eShl (eAdd (eL 1) (eC 1)) 5) (eC 31)),sPut eH 1 (eShl (eL 0) 2),sSet 26 (eAdd (eAdd eH (eL 1)) (eC 2)),S.sVal (eRef (eSub (eSub eH (eL 1)) (eC 2)))] [g,(n:Int),m,f] s C Q (S.FinR st H g a (300+60*a.length)):=λ C m Q hC b4 X=>by
    have y3:=Zo (op:=14) (by decide) (v (n:Int) m f) (Zp 3);rw[Zcj] at y3;refine Zr y3 (by decide) (λ l=>A _ m Q (by omega) ?_) (λ l=>?_)
    .have K:¬(n:Int)<3%4294967296:=λ q=>by rw[if_pos q] at l;cases l
     have:=Zxf x (n:=n) (by omega) (htop.resolve_left (by omega));omega
    .have K:n<3:=Y_c λ q=>l (if_neg (by omega))
     have W:=X K;have y4:=Zo (op:=14) (by decide) (z (n:Int) m f) ((Zo (op:=1) (by decide) (Zp 536870912) (R (n:Int) m f)).to_ (y:=536870912+g) (by rw[Zar];unfold S.u32m;omega) (Yb _));rw[Zcj] at y4;refine Zr y4 (by decide) (λ l=>Zbi 3 (A _ m Q (by omega) ?_)) (λ l=>?_)
     .have:¬m<536870912+g:=λ q=>by rw[if_pos q] at l;cases l
      omega
     .have hlt:m<536870912+g:=Y_c λ q=>l (if_neg q)
      refine Zr (R _ _ _) (by decide) (λ h0=>?_) (λ h0=>?_)
      .refine Zfh (Zo (op:=10) (by decide) (z _ _ _) (Zp 2)) (by decide) λ T c2 h2 U=>⟨_,rfl,by omega,.inl ⟨by omega,?_,(O.trans h2).set4 _⟩⟩
       show alu 10 m (2%4294967296)=_
       unfold S.signed;rw[Z4n,if_pos h0,W,Int.mul_comm]
      .refine Zq (Zo (op:=2) (by decide) (Zp 0) (z _ _ _)) (by decide) (Zbi 3 ?_)
       rw[Zkc]
       show WS I 0 lk false _ [g,(n:Int),S.u32m (0-m),f] s _ _ _
       refine Zfh (Zo (op:=10) (by decide) (z _ _ _) (Zp 2)) (by decide) λ T c2 h2 U=>⟨_,rfl,by omega,.inl ⟨by omega,?_,(O.trans h2).set4 _⟩⟩
       show alu 10 (S.u32m (0-m)) (2%4294967296)=_
       unfold S.signed;rw[Z4n,if_neg h0,<- W];unfold S.u32m;omega
   have b0:=Zy x 0;have b1:=Zy x 1;refine Zq (Zp 0) (by decide) ?_
   show WS I 0 lk false _ [g,(n:Int),0,f] s _ _ _
   refine Zr (v _ _ _) (by decide) (λ N=>?_) (λ N=>?_)
   .have hn0':n=0:=by omega
    have y2:=Zgt (v (n:Int) 0 f) (Zp 2);refine Zr y2 (by decide) (λ _=>u _ 0 _ (by omega) (by decide) λ _=>?_) (λ l=>absurd (if_neg (by omega)) l);rw[Zdb hT,hn0'];rfl
   .have hn1:0<n:=by omega
    refine Zq ((Zo (op:=11) (by decide) ((dg 0 (by omega) _).to_ rfl (Yb _)) (Zp 2)).to_ (y:=a.getD 0 0) (by rw[Z4m];omega) (Yb _)) (by decide) (Zbi 3 ?_)
    show WS I 0 lk false _ [g,(n:Int),a.getD 0 0,f] s _ _ _
    have y2:=Zgt (v (n:Int) (a.getD 0 0) f) (Zp 2);refine Zr y2 (by decide) (λ l=>u _ _ _ (by omega) ⟨by omega,by omega⟩ λ K=>?_) (λ l=>?_)
    .have hn2:n≠2:=λ q=>by rw[if_pos (by rw[q];rfl)] at l;cases l
     rw[Zmw n x G (by omega),G 1 (by omega)];omega
    .have hn2:n=2:=Y_c λ q=>l (if_neg (by omega))
     refine Zq ((Zo (op:=8) (by decide) (z (n:Int) (a.getD 0 0) f) (Zo (op:=10) (by decide) ((dg 1 (by omega) _).to_ rfl (Yb _)) (Zp 14))).to_ (y:=S.dval a) (by
      rw[Z7h,show S.u32m (4*a.getD 1 0*16384)=a.getD 1 0*65536 by unfold S.u32m;omega,Z7i b0 b1,Zmw n x G (by omega)];omega) (Yb _)) (by decide) (Zbi 3 ?_)
     show WS I 0 lk false _ [g,(n:Int),S.dval a,f] s _ _ _
     have:=Zmw n x G (by omega);exact u _ _ _ (by omega) ⟨by omega,by omega⟩ λ _=>rfl
  .rw[q] at hf;cases hf
 .rcases B with⟨q,_⟩|⟨rfl,rfl,hC⟩
  .exact absurd q hf
  refine Zq (Zp 0) (by decide) ?_
  show WS I 0 lk false _ [g,(n:Int),L,0] s _ _ _
  refine Zr (v _ _ _) (by decide) (λ N=>Z2 (k2:=0) (by omega) ⟨rfl,n,0,rfl,Y,G,.inl ⟨rfl,rfl,.inl (by omega),by omega⟩⟩) (λ N=>?_);obtain⟨i,rfl⟩:∃i,n=i+1:=⟨n-1,by omega⟩
  have r:=t (i+2) (by omega);rw[show H+((i+2:Nat):Int)=H+2+i by omega] at r;have ya:=(Zo (op:=1) (by decide) (yh _) (v ((i+1:Nat):Int) L 0)).to_ (y:=H+i+1) (by rw[Zar];have:=r.2.1;unfold S.u32m;omega) (Yb _);have ym:=Zmn (n:=1) (p:=H+2+i) ya (by have:=r.2.1;unfold S.u32m;omega) (Za7 r);rw[hm,F i (by omega)] at ym;refine Zr (Zgt ym (Zp 0)) (by decide) (λ l=>Zbi 3 ?_) (λ l=>?_)
  .refine Z2 (k2:=0) (by omega) ⟨rfl,i+1,0,rfl,Y,G,.inl ⟨rfl,rfl,.inr λ q=>?_,by omega⟩⟩
   rw[show i+1-1=i by omega] at q;rw[q] at l
   cases l
  .have hzero:a.getD i 0=0:=by
    refine Y_c λ q=>l (if_neg λ e=>q ?_)
    have e':4*a.getD i 0=0:=e;omega
   refine Zq ((Zo (op:=2) (by decide) (v _ _ _) (Zp 1)).to_ (y:=(i:Int)) (by rw[Zkc];unfold S.u32m;omega) (Yb _)) (by decide) ?_
   show WS I 0 lk false _ [g,(i:Int),L,0] s _ _ _
   refine Zq (Zp 1) (by decide) (Zbi 3 (Zbi 3 ?_))
   show WS I 0 lk false _ [g,(i:Int),L,1] s _ _ _
   refine Z2 (k2:=i+1) (by omega) ⟨rfl,i,1,rfl,by omega,λ j hj=>?_,.inr ⟨rfl,rfl,by omega⟩⟩;by_cases c:j=i
   .subst c;exact hzero
   .exact G j (by omega)
end
end
section
namespace S
def psum (x:List Int):Nat->Int
 | 0=>0
 | i+1=>psum x i+x.getD i 0*65536^i
def NumIn (I:Img)(mem:Int->Int)(H v neg:Int)(ds:List Int):Prop:=NumAt I mem v neg ds/\∀p,v=4*p+1->p+ds.length+2<=H
structure HpS (st s:Vw)(H:Int)(acc:List Int):Prop where
 out_:∀a,a<H+2\/H+2+acc.length<=a->s.mem a=st.mem a
 dig:∀j:Nat,j<acc.length->s.mem (H+2+j)=4*acc.getD j 0
 reg:∀j,¬(4<=j/\j<=7)->s.reg j=st.reg j
 inp:s.inp=st.inp
 out:s.out=st.out
def NumR (I:Img)(st:Vw)(H neg val:Int)(M N:Nat)(o:BO)(k:Nat):Prop :=
 ∃s ds,HpAt I s H ds/\dval ds=val/\(∀a,a<H\/H+M<=a->s.mem a=st.mem a)/\(∀j,¬(4<=j/\j<=7)->s.reg j=st.reg j)/\s.inp=st.inp/\s.out=st.out/\FinR s H neg ds N o k
end S
theorem Zo5 (x:List Int):∀i:Nat,S.psum x (i+1)=x.getD 0 0+65536*S.psum x.tail i
 | 0=>by
  show 0+x.getD 0 0*65536^0=x.getD 0 0+65536*0
  simp
 | i+1=>by
  have h:=Zo5 x i
  show S.psum x (i+1)+x.getD (i+1) 0*65536^(i+1)=x.getD 0 0+65536*(S.psum x.tail i+x.tail.getD i 0*65536^i)
  rw[h,Zaw,Int.pow_succ]
  grind
theorem Zgh:∀(n:Nat)(x:List Int),S.dval x=S.psum x n+65536^n*S.dval (x.drop n)
 | 0,x=>by
  show S.dval x=0+65536^0*S.dval x
  simp
 | n+1,x=>by
  have h:=Zgh n x.tail;rw[Zo5,Za2 x,h,List.drop_tail,Int.pow_succ]
  grind
theorem Zaj {x:List Int}{n:Nat}(h:x.length<=n):S.psum x n=S.dval x:=by
 have:=Zgh n x;rw[List.drop_eq_nil_of_le h] at this;have e:S.dval []=0:=rfl;rw[e] at this;omega
theorem Zdc {x y:List Int}:∀n:Nat,(∀j,j<n->x.getD j 0=y.getD j 0)->S.psum x n=S.psum y n
 | 0,_=>rfl
 | n+1,h=>by
  rw[S.psum,S.psum,Zdc n λ j hj=>h j (by omega),h n (by omega)]
theorem Zbe (acc:List Int)(d:Int):S.dval (acc++[d])=S.dval acc+d*65536^acc.length:=by
 have h:=Zaj (x:=acc++[d]) (n:=acc.length+1) (by simp);have a:(acc++[d]).getD acc.length 0=d:=by
  rw[Ye,Yo (Yb _),Nat.sub_self];rfl
 have c:S.psum (acc++[d]) acc.length=S.dval acc:=by
  rw[<- Zaj (x:=acc) (Yb _)];refine Zdc _ λ j b=>?_
  rw[Ye,Yn b,<- Ye]
 rw[<- h,S.psum,c,a]
theorem Zg9 {acc:List Int}(h:S.Digs acc):S.dval acc<65536^acc.length:=by
 induction acc with
 | nil=>decide
 | cons d r ih =>
  obtain⟨h1,h2⟩:=Zor h;have:=ih h2;rw[S.dval,Yj,Int.pow_succ];omega
theorem Zbf {acc:List Int}(h:S.Digs acc){d:Int}(a:0<=d/\d<65536):S.Digs (acc++[d]):=λ x b=>by
 rcases List.mem_append.1 b with q|q
 .exact h x q
 .rw[List.mem_singleton] at q
  rw[q];exact a
theorem Z34 {env:List Int}(h:(env.length:Int)=6):∃a b c d e f,env=[a,b,c,d,e,f]:=by
 match env,h with
 | [a,b,c,d,e,f],_=>exact⟨a,b,c,d,e,f,rfl⟩
 | [],h=>simp at h
 | [_],h=>simp at h
 | [_,_],h=>simp at h
 | [_,_,_],h=>simp at h
 | [_,_,_,_],h=>simp at h
 | [_,_,_,_,_],h=>simp at h
 | _::_::_::_::_::_::_::_,h=>simp only[Yj] at h;omega
theorem Zfq {x:Int}(h:0<=x/\x<4294967296):alu 10 (alu 7 x (65535%4294967296)) (2%4294967296)=4*(x%65536):=by
 rw[Zoq h.1 h.2,Z4n];unfold S.u32m;omega
section
variable {st s:S.Vw}{H:Int}{acc:List Int}
theorem Zmx (h:S.Sim st s):S.HpS st s H []:=⟨λ a _=>by rw[h.mem],λ j b=>absurd b (Nat.not_lt_zero _),h.reg,h.inp,h.out⟩
theorem Zgi (h:S.HpS st s H acc)(d:Int):S.HpS st (s.sto (H+2+acc.length) (4*d)) H (acc++[d]):=by
 have hm:∀a,(s.sto (H+2+acc.length) (4*d)).mem a=if a=H+2+acc.length then 4*d else s.mem a:=λ _=>rfl
 refine⟨λ a e=>?_,λ j b=>?_,h.reg,h.inp,h.out⟩
 .rw[Yd,Yj,Yab] at e
  rw[hm,if_neg (by omega)];exact h.out_ a (by omega)
 .rw[Yd,Yj,Yab] at b
  rw[hm,Ye];by_cases c:j=acc.length
  .subst c
   rw[if_pos rfl,Yo (Yb _),Nat.sub_self];rfl
  .rw[if_neg (by omega),Yn (by omega),<- Ye]
   exact h.dig j (by omega)
theorem Zao {I:S.Img}{v neg:Int}{a:List Int}(h:S.NumIn I st.mem H v neg a)(b:S.HpS st s H acc):S.NumAt I s.mem v neg a:=h.1.same λ p e j hj=>b.out_ _ (by have:=h.2 p e;omega)
theorem Z1s {I:S.Img}(h:S.HpS st s H acc)(b:st.reg 26=H)(c:S.Digs acc)(d:acc.length<=1000)(a:∀j:Nat,j<acc.length+2->S.Dat I (H+j)):S.HpAt I s H acc:=⟨by rw[h.reg 26 (by decide)];exact b,c,d,a,h.dig⟩
end
theorem Zjq {st a:S.Vw}{H neg:Int}{j:List Int}{N k i:Nat}(h:S.FinR st H neg j N (.ret a) k){f:Nat}(l:i<=f):S.FinR st H neg j f (.ret (a.set 4 (a.reg 4))) i:=by
 obtain⟨s,e,m,o⟩:=h
 cases e
 refine⟨_,rfl,l,?_⟩;have g:(a.set 4 (a.reg 4)).reg 4=a.reg 4:=Zj _ _ _;rcases o with⟨b,c,d⟩|⟨b,n,c,d,p⟩
 .exact .inl ⟨b,g.trans c,d.set4 _⟩
 .exact .inr ⟨b,n,c,g.trans d,p.set4 _⟩
section
variable {I:S.Img}(hN:NSegs I)
include hN
theorem Zxg {dep lk:Int}{env:List Int}{st s:S.Vw}{C:Nat}{Q:List Int->S.Vw->Nat->Prop}{r:List BS}{H neg val:Int}{acc:List Int}{M N:Nat}{m el:BE}{K:Nat}(b:neg=0\/neg=1)(d:S.HpS st s H acc)(l:st.reg 26=H)(p:S.Digs acc)(u:acc.length<=1000)(f:∀j:Nat,j<acc.length+2->S.Dat I (H+j))(q:S.dval acc=val)(hM:acc.length+2<=M)
 (v:Yls I dep lk env s [m,el] [neg,(acc.length:Int)] K) (h:dEs [m,el]<=20) (g:19<=dep) (hC:C+K+(300+60*acc.length)+14<=N):WS I dep lk false (S.sVal (eF kNFin [m,el])::r) env s C Q (S.NumR I st H neg val M N):=by
 have e:=Z1s (I:=I) d l p u f;refine Zmo (T:=S.FinR s H neg acc (300+60*acc.length)) v h (by simp) (Zo4 hN b e) g λ o k n=>?_
 have i:=n;obtain⟨t,rfl,hk,_⟩:=n;intro c hc;exact⟨s,acc,e,q,λ a ha=>d.out_ a (by omega),d.reg,d.inp,d.out,Zjq i (by omega)⟩
theorem Zo6 {st:S.Vw}{H v u nv nu neg:Int}{x y:List Int}(Y:S.NumIn I st.mem H v nv x)(hy:S.NumIn I st.mem H u nu y)(U:neg=0\/neg=1)(T:st.reg 26=H)(l:∀j:Nat,j<max x.length y.length+3->S.Dat I (H+j))(O:max x.length y.length<=900) :
 ∀r,S.Sim st r->Real I kNAdd false (r.args [v,u,neg]) 55 (λ _ o k=>S.NumR I st H neg (S.dval x+S.dval y) (max x.length y.length+3) (1000+800*max x.length y.length) o k):=λ r W=>by
 obtain⟨iF,hF⟩:=hN.add;obtain⟨L,hL⟩:=Yx (max x.length y.length);rw[<- hL] at l O⊢;have hr:=Zcy hN.ok rNAdd (by kernel_rfl) hF (dep:=34) (by decide) (r.args [v,u,neg]) (S.NumR I st H neg (S.dval x+S.dval y) (L+3) (1000+800*L)) λ lk env hl hp=>?_
 .exact hr
 obtain⟨i,g,f,e3,e4,z,rfl⟩:=Z34 hl;have h0:i=v:=hp 0 (show(0:Int)<3 by decide);have h1:g=u:=hp 1 (show(1:Int)<3 by decide);have h2:f=neg:=hp 2 (show(2:Int)<3 by decide);subst h0 h1 h2;have hs:S.Sim st (r.args [i,g,f]):=W.args (by simp);obtain⟨w,R⟩:∃s,s=r.args [i,g,f]:=⟨_,rfl⟩
 rw[<- R] at hs⊢;have a4:=hN.ok.size2;have J:=l 0 (by omega);have a2:=l (L+2) (by omega);rw[show H+((0:Nat):Int)=H by omega] at J;have a6:=J.1;have a7:=a2.2.1;have dx:S.Digs x:=Y.1.dig;have dy:S.Digs y:=hy.1.dig;have yh:∀(env:List Int)(s:S.Vw)(acc:List Int),S.HpS st s H acc->Yl I 34 lk env s eH H 1:=λ env s acc h=>(Zyl (n:=26) (by decide)).to_ (by rw[h.reg 26 (by decide)];exact T) (Yb _)
 have Z:=Zmx (H:=H) hs
 show WS I 34 lk false [sAs 3 (eC 0),sAs 4 (eF kNLen [eL 0]),sWhen (eLt (eL 4) (eF kNLen [eL 1])) [sAs 4 (eF kNLen [eL 1])],sAs 5 (eC 0),
  sWh (eLt (eL 3) (eL 4)) [sAs 5 (eAdd (eL 5) (eAdd (eF kNDig [eL 0,eL 3]) (eF kNDig [eL 1,eL 3]))),sPut (eAdd eH (eL 3)) 2 (eDg (eL 5)),sAs 5 (eShr (eL 5) 16),sInc 3],
  sPut (eAdd eH (eL 4)) 2 (eDg (eL 5)),S.sVal (eF kNFin [eL 2,eAdd (eL 4) (eC 1)])] [i,g,f,e3,e4,z] w 8 _ _
 refine Zq (Zp 0) (by decide) ?_
 show WS I 34 lk false _ [i,g,f,0,e4,z] w _ _ _
 have a1:∀a b c,Yl I 34 lk [i,g,f,a,b,c] w (eF kNLen [eL 0]) x.length (1+0+60+48):=λ a b c=>Zct (Za ((Zs 0).to_ rfl (Yb _)) Zf) (by simp) (Za9 hN (Zao Y Z)) (by decide)
 have P:∀a b c,Yl I 34 lk [i,g,f,a,b,c] w (eF kNLen [eL 1]) y.length (1+0+60+48):=λ a b c=>Zct (Za ((Zs 1).to_ rfl (Yb _)) Zf) (by simp) (Za9 hN (Zao hy Z)) (by decide)
 refine Zq (a1 _ _ _) (by decide) ?_
 show WS I 34 lk false _ [i,g,f,0,(x.length:Int),z] w _ _ _
 have rest:∀(C:Nat)(Q:List Int->S.Vw->Nat->Prop),C<=400->WS I 34 lk false [sAs 5 (eC 0),
  sWh (eLt (eL 3) (eL 4)) [sAs 5 (eAdd (eL 5) (eAdd (eF kNDig [eL 0,eL 3]) (eF kNDig [eL 1,eL 3]))),sPut (eAdd eH (eL 3)) 2 (eDg (eL 5)),sAs 5 (eShr (eL 5) 16),sInc 3],
  sPut (eAdd eH (eL 4)) 2 (eDg (eL 5)),S.sVal (eF kNFin [eL 2,eAdd (eL 4) (eC 1)])] [i,g,f,0,(L:Int),z] w C Q (S.NumR I st H f (S.dval x+S.dval y) (L+3) (1000+800*L)):=λ C Q hC=>by
  refine Zq (Zp 0) (by decide) ?_
  show WS I 34 lk false _ [i,g,f,0,(L:Int),0] w _ _ _
  refine Zfp (by decide) (λ env s C k=>∃(acc:List Int)(c:Int),env=[i,g,f,(acc.length:Int),(L:Int),c]/\k=L-acc.length/\acc.length<=L/\S.Digs acc/\S.HpS st s H acc/\0<=c/\c<=1/\S.dval acc+c*65536^acc.length=S.psum x acc.length+S.psum y acc.length/\C<=410+730*acc.length) (k0:=L)
   ⟨[],0,rfl,rfl,Yae _,(λ d hd=>by cases hd),Z,by decide,by decide,rfl,by omega⟩ ?_
  rintro env s C k ⟨acc,c,rfl,rfl,a8,G,F,c0,c1,V,hC⟩;have D:=Zo (op:=14) (by decide) (Zs (I:=I) (dep:=34) (lk:=lk) (env:=[i,g,f,(acc.length:Int),(L:Int),c]) (st:=s) 3) (Zs 4);rw[Zcj] at D;have a3:(if [i,g,f,(acc.length:Int),(L:Int),c].getD (Ycg 3) 0<[i,g,f,(acc.length:Int),(L:Int),c].getD (Ycg 4) 0 then(1:Int) else 0)=if (acc.length:Int)<(L:Int) then 1 else 0:=rfl
  rw[a3] at D;refine⟨_,_,D,λ M=>?_,λ A=>?_⟩
  .have hlL:acc.length=L:=by
    refine Y_c λ q=>?_
    rw[if_pos (by omega)] at M
    cases M
   have t:=l (L+2) (by omega);rw[show H+((L+2:Nat):Int)=H+2+acc.length by omega] at t;refine Zb3 (x:=4*c) (p:=H+2+acc.length) ((Zo (op:=1) (by decide) (yh _ s acc F) ((Zs 4).to_ (y:=(L:Int)) rfl (Yb _))).to_ (y:=H+L) (by rw[Zar];unfold S.u32m;omega) (Yb _))
    ((Zo (op:=10) (by decide) (Zo (op:=7) (by decide) ((Zs 5).to_ (y:=c) rfl (Yb _)) (Zp 65535)) (Zp 2)).to_ (by rw[Zfq ⟨by omega,by omega⟩];omega) (Yb _)) (by decide) (by decide) (by unfold S.u32m;omega) t.2 ?_
   have E:=Zgi F c;have hv:S.dval (acc++[c])=S.dval x+S.dval y:=by
    rw[Zbe,V,Zaj (by omega),Zaj (by omega)]
   have m:(acc++[c]).length=L+1:=by simp[hlL]
   refine Zxg hN (acc:=acc++[c]) U E T (Zbf G ⟨c0,by omega⟩) (by omega) (λ j hj=>l j (by omega)) hv (by omega) (Za ((Zs 2).to_ (y:=f) rfl (Yb _)) (Za ((Zo (op:=1) (by decide) ((Zs 4).to_ (y:=(L:Int)) rfl (Yb _)) (Zp 1)).to_ (y:=((acc++[c]).length:Int)) (by rw[Zar,m];unfold S.u32m;omega) (Yb _)) Zf)) (by decide) (by decide) ?_;rw[m];omega
  .have hlt:acc.length<L:=Y_c λ q=>A (if_neg (by omega))
   have t:=l (acc.length+2) (by omega);rw[show H+((acc.length+2:Nat):Int)=H+2+acc.length by omega] at t;have X:=Zao Y F;have a0:=Zao hy F;have bx:=Zy dx acc.length;have a5:=Zy dy acc.length;have y1:=Zct (d:=34) (dep:=34) (lk:=lk) (env:=[i,g,f,(acc.length:Int),(L:Int),c]) (Za ((Zs 0).to_ (y:=i) rfl (Yb _)) (Za ((Zs 3).to_ (y:=(acc.length:Int)) rfl (Yb _)) Zf)) (by simp) (Zba hN X ⟨by omega,by omega⟩) (by decide);have y2:=Zct (d:=34) (dep:=34) (lk:=lk) (env:=[i,g,f,(acc.length:Int),(L:Int),c]) (Za ((Zs 1).to_ (y:=g) rfl (Yb _)) (Za ((Zs 3).to_ (y:=(acc.length:Int)) rfl (Yb _)) Zf)) (by simp) (Zba hN a0 ⟨by omega,by omega⟩) (by decide);rw[Yaj] at y1 y2;obtain⟨tot,K⟩:=Yx (c+(x.getD acc.length 0+y.getD acc.length 0));refine Zq ((Zo (op:=1) (by decide) ((Zs 5).to_ (y:=c) rfl (Yb _)) (Zo (op:=1) (by decide) y1 y2)).to_ (y:=tot) (by rw[Zar,Zar,K];unfold S.u32m;omega) (Yb _)) (by decide) ?_
   show WS I 34 lk false _ [i,g,f,(acc.length:Int),(L:Int),tot] s _ _ _
   refine Zb3 (x:=4*(tot%65536)) (p:=H+2+acc.length) ((Zo (op:=1) (by decide) (yh _ s acc F) ((Zs 3).to_ (y:=(acc.length:Int)) rfl (Yb _))).to_ (y:=H+acc.length) (by rw[Zar];unfold S.u32m;omega) (Yb _))
    ((Zo (op:=10) (by decide) (Zo (op:=7) (by decide) ((Zs 5).to_ (y:=tot) rfl (Yb _)) (Zp 65535)) (Zp 2)).to_ (Zfq ⟨by omega,by omega⟩) (Yb _)) (by decide) (by decide) (by unfold S.u32m;omega) t.2 ?_
   have E:=Zgi F (tot%65536);refine Zq ((Zo (op:=11) (by decide) ((Zs 5).to_ (y:=tot) rfl (Yb _)) (Zp 16)).to_ (y:=tot/65536) (by rw[Zkj]) (Yb _)) (by decide) ?_
   show WS I 34 lk false _ [i,g,f,(acc.length:Int),(L:Int),tot/65536] _ _ _ _
   refine Zq ((Zo (op:=1) (by decide) ((Zs 3).to_ (y:=(acc.length:Int)) rfl (Yb _)) (Zp 1)).to_ (y:=((acc.length+1:Nat):Int)) (by rw[Zar];unfold S.u32m;omega) (Yb _)) (by decide) ?_
   show WS I 34 lk false _ [i,g,f,((acc.length+1:Nat):Int),(L:Int),tot/65536] _ _ _ _
   have m:(acc++[tot%65536]).length=acc.length+1:=by simp
   refine Z2 (k2:=L-(acc.length+1)) (by omega) ⟨acc++[tot%65536],tot/65536,by rw[m],by rw[m],by omega,Zbf G ⟨by omega,by omega⟩,E,by omega,by omega,?_,by rw[m];omega⟩;rw[m,Zbe,S.psum,S.psum,Int.pow_succ];have hq:tot=tot%65536+65536*(tot/65536):=by omega
   generalize (65536:Int)^acc.length=B at *;generalize tot%65536=d at *;generalize tot/65536=q at *;generalize x.getD acc.length 0=a at *;generalize y.getD acc.length 0=b at *
   grind
 have N:=Zo (op:=14) (by decide) ((Zs (I:=I) (dep:=34) (lk:=lk) (env:=[i,g,f,0,(x.length:Int),z]) (st:=w) 4).to_ (y:=(x.length:Int)) rfl (Yb _)) (P 0 (x.length:Int) z);rw[Zcj] at N;refine Zr N (by decide) (λ M=>?_) (λ A=>?_)
 .have:¬(x.length:Int)<(y.length:Int):=λ q=>by rw[if_pos q] at M;cases M
  have e:x.length=L:=by omega
  rw[e];exact rest _ _ (by decide)
 .have:(x.length:Int)<(y.length:Int):=Y_c λ q=>A (if_neg q)
  refine Zq (P _ _ _) (by decide) (Zbi 3 ?_)
  show WS I 34 lk false _ [i,g,f,0,(y.length:Int),z] w _ _ _
  have e:y.length=L:=by omega
  rw[e];exact rest _ _ (by decide)
end
end
section
theorem Zdd {y:List Int}(a:S.Digs y){n:Nat}(h:S.dval y<65536^n):S.psum y n=S.dval y:=by
 have h1:=Zgh n y;have h2:0<=S.dval (y.drop n):=Zg λ d c=>a d (List.mem_of_mem_drop c)
 have h3:0<=S.psum y n:=by
  have:∀i:Nat,0<=S.psum y i:=λ i=>by
   induction i with
   | zero=>exact Int.le_refl _
   | succ i ih =>
    have e:=Zy a i;have hp:(0:Int)<65536^i:=Ya2 (by decide);have:=Yas e.1 (Yaz hp);rw[S.psum];omega
  exact this n
 have hp:(0:Int)<65536^n:=Ya2 (by decide);have f:S.dval (y.drop n)=0:=by
  refine Y_c λ q=>?_
  have b:1<=S.dval (y.drop n):=by omega
  have:=Int.mul_le_mul_of_nonneg_left b (Yaz hp);rw[Int.mul_one] at this;omega
 rw[f,Int.mul_zero] at h1;omega
section
variable {I:S.Img}(hN:NSegs I)
include hN
theorem Zo7 {st:S.Vw}{H v u nv nu neg:Int}{x y:List Int}(T:S.NumIn I st.mem H v nv x)(hy:S.NumIn I st.mem H u nu y)(J:neg=0\/neg=1)(a5:S.dval y<=S.dval x)(G:st.reg 26=H)(i:∀j:Nat,j<x.length+2->S.Dat I (H+j))(D:x.length<=900) :
 ∀l,S.Sim st l->Real I kNSub false (l.args [v,u,neg]) 55 (λ _ o k=>S.NumR I st H neg (S.dval x-S.dval y) (x.length+3) (1000+800*x.length) o k):=λ l N=>by
 obtain⟨iF,hF⟩:=hN.sub;obtain⟨L,O⟩:=Yx x.length;rw[<- O] at i D⊢;have hr:=Zcy hN.ok rNSub (by kernel_rfl) hF (dep:=34) (by decide) (l.args [v,u,neg]) (S.NumR I st H neg (S.dval x-S.dval y) (L+3) (1000+800*L)) λ lk env hl hp=>?_
 .exact hr
 obtain⟨g,f,e,e3,Z,Q,rfl⟩:=Z34 hl;have h0:g=v:=hp 0 (show(0:Int)<3 by decide);have h1:f=u:=hp 1 (show(1:Int)<3 by decide);have h2:e=neg:=hp 2 (show(2:Int)<3 by decide);subst h0 h1 h2;have hs:S.Sim st (l.args [g,f,e]):=N.args (by simp);obtain⟨M,F⟩:∃s,s=l.args [g,f,e]:=⟨_,rfl⟩
 rw[<- F] at hs⊢;have a1:=hN.ok.size2;have w:=i 0 (by omega);have W:=i (L+1) (by omega);rw[show H+((0:Nat):Int)=H by omega] at w;have a3:=w.1;have a4:=W.2.1;have dx:S.Digs x:=T.1.dig;have dy:S.Digs y:=hy.1.dig;have yh:∀(env:List Int)(s:S.Vw)(acc:List Int),S.HpS st s H acc->Yl I 34 lk env s eH H 1:=λ env s acc h=>(Zyl (n:=26) (by decide)).to_ (by rw[h.reg 26 (by decide)];exact G) (Yb _)
 have n0:=Zmx (H:=H) hs
 show WS I 34 lk false [sAs 3 (eC 0),sAs 4 (eF kNLen [eL 0]),sAs 5 (eC 0),
  sWh (eLt (eL 3) (eL 4)) [sAs 5 (eSub (eAdd (eC 65536) (eF kNDig [eL 0,eL 3])) (eAdd (eF kNDig [eL 1,eL 3]) (eL 5))),sPut (eAdd eH (eL 3)) 2 (eDg (eL 5)),sAs 5 (eSub (eC 1) (eShr (eL 5) 16)),sInc 3],
  S.sVal (eF kNFin [eL 2,eL 4])] [g,f,e,e3,Z,Q] M 8 _ _
 refine Zq (Zp 0) (by decide) ?_
 show WS I 34 lk false _ [g,f,e,0,Z,Q] M _ _ _
 have V:∀a b c,Yl I 34 lk [g,f,e,a,b,c] M (eF kNLen [eL 0]) (L:Int) (1+0+60+48):=λ a b c=>(Zct (Za ((Zs 0).to_ rfl (Yb _)) Zf) (by simp) (Za9 hN (Zao T n0)) (by decide)).to_ (by rw[O]) (Yb _)
 refine Zq (V _ _ _) (by decide) ?_
 show WS I 34 lk false _ [g,f,e,0,(L:Int),Q] M _ _ _
 refine Zq (Zp 0) (by decide) ?_
 show WS I 34 lk false _ [g,f,e,0,(L:Int),0] M _ _ _
 refine Zfp (by decide) (λ env s C k=>∃(acc:List Int)(c:Int),env=[g,f,e,(acc.length:Int),(L:Int),c]/\k=L-acc.length/\acc.length<=L/\S.Digs acc/\S.HpS st s H acc/\0<=c/\c<=1/\S.dval acc+S.psum y acc.length=S.psum x acc.length+c*65536^acc.length/\C<=410+730*acc.length) (k0:=L)
  ⟨[],0,rfl,rfl,Yae _,(λ d hd=>by cases hd),n0,by decide,by decide,rfl,by decide⟩ ?_
 rintro env s C k ⟨acc,c,rfl,rfl,a0,r,E,c0,c1,K,hC⟩;have t:=Zo (op:=14) (by decide) (Zs (I:=I) (dep:=34) (lk:=lk) (env:=[g,f,e,(acc.length:Int),(L:Int),c]) (st:=s) 3) (Zs 4);rw[Zcj] at t;have X:(if [g,f,e,(acc.length:Int),(L:Int),c].getD (Ycg 3) 0<[g,f,e,(acc.length:Int),(L:Int),c].getD (Ycg 4) 0 then(1:Int) else 0)=if (acc.length:Int)<(L:Int) then 1 else 0:=rfl
 rw[X] at t;refine⟨_,_,t,λ hz=>?_,λ R=>?_⟩
 .have hlL:acc.length=L:=by
   refine Y_c λ q=>?_
   rw[if_pos (by omega)] at hz
   cases hz
  have bx:=Zg9 dx;have ba:=Zg9 r;rw[<- O] at bx;rw[hlL] at ba;have hv:S.dval acc=S.dval x-S.dval y:=by
   rw[hlL,Zaj (x:=x) (by omega),Zdd dy (n:=L) (by omega)] at K;have hp:(0:Int)<65536^L:=Ya2 (by decide);rcases(show c=0\/c=1 by omega) with rfl|rfl
   .omega
   .omega
  refine Zxg hN (acc:=acc) J E G r (by omega) (λ j hj=>i j (by omega)) hv (by omega) (Za ((Zs 2).to_ (y:=e) rfl (Yb _)) (Za ((Zs 4).to_ (y:=(acc.length:Int)) (by rw[hlL];rfl) (Yb _)) Zf)) (by decide) (by decide) ?_;rw[hlL] at hC⊢;omega
 .have hlt:acc.length<L:=Y_c λ q=>R (if_neg (by omega))
  have z:=i (acc.length+2) (by omega);rw[show H+((acc.length+2:Nat):Int)=H+2+acc.length by omega] at z;have P:=Zao T E;have U:=Zao hy E;have bx:=Zy dx acc.length;have a2:=Zy dy acc.length;have y1:=Zct (d:=34) (dep:=34) (lk:=lk) (env:=[g,f,e,(acc.length:Int),(L:Int),c]) (Za ((Zs 0).to_ (y:=g) rfl (Yb _)) (Za ((Zs 3).to_ (y:=(acc.length:Int)) rfl (Yb _)) Zf)) (by simp) (Zba hN P ⟨by omega,by omega⟩) (by decide);have y2:=Zct (d:=34) (dep:=34) (lk:=lk) (env:=[g,f,e,(acc.length:Int),(L:Int),c]) (Za ((Zs 1).to_ (y:=f) rfl (Yb _)) (Za ((Zs 3).to_ (y:=(acc.length:Int)) rfl (Yb _)) Zf)) (by simp) (Zba hN U ⟨by omega,by omega⟩) (by decide);rw[Yaj] at y1 y2;obtain⟨tot,A⟩:=Yx (65536+x.getD acc.length 0-(y.getD acc.length 0+c));refine Zq ((Zo (op:=2) (by decide) (Zo (op:=1) (by decide) (Zp 65536) y1) (Zo (op:=1) (by decide) y2 ((Zs 5).to_ (y:=c) rfl (Yb _)))).to_ (y:=tot) (by rw[Zkc,Zar,Zar,A];unfold S.u32m;omega) (Yb _)) (by decide) ?_
  show WS I 34 lk false _ [g,f,e,(acc.length:Int),(L:Int),tot] s _ _ _
  refine Zb3 (x:=4*(tot%65536)) (p:=H+2+acc.length) ((Zo (op:=1) (by decide) (yh _ s acc E) ((Zs 3).to_ (y:=(acc.length:Int)) rfl (Yb _))).to_ (y:=H+acc.length) (by rw[Zar];unfold S.u32m;omega) (Yb _))
   ((Zo (op:=10) (by decide) (Zo (op:=7) (by decide) ((Zs 5).to_ (y:=tot) rfl (Yb _)) (Zp 65535)) (Zp 2)).to_ (Zfq ⟨by omega,by omega⟩) (Yb _)) (by decide) (by decide) (by unfold S.u32m;omega) z.2 ?_
  have Y:=Zgi E (tot%65536);refine Zq ((Zo (op:=2) (by decide) (Zp 1) (Zo (op:=11) (by decide) ((Zs 5).to_ (y:=tot) rfl (Yb _)) (Zp 16))).to_ (y:=1-tot/65536) (by rw[Zkj,Zkc];unfold S.u32m;omega) (Yb _)) (by decide) ?_
  show WS I 34 lk false _ [g,f,e,(acc.length:Int),(L:Int),1-tot/65536] _ _ _ _
  refine Zq ((Zo (op:=1) (by decide) ((Zs 3).to_ (y:=(acc.length:Int)) rfl (Yb _)) (Zp 1)).to_ (y:=((acc.length+1:Nat):Int)) (by rw[Zar];unfold S.u32m;omega) (Yb _)) (by decide) ?_
  show WS I 34 lk false _ [g,f,e,((acc.length+1:Nat):Int),(L:Int),1-tot/65536] _ _ _ _
  have m:(acc++[tot%65536]).length=acc.length+1:=by simp
  refine Z2 (k2:=L-(acc.length+1)) (by omega) ⟨acc++[tot%65536],1-tot/65536,by rw[m],by rw[m],by omega,Zbf r ⟨by omega,by omega⟩,Y,by omega,by omega,?_,by rw[m];omega⟩;rw[m,Zbe,S.psum,S.psum,Int.pow_succ];have hq:tot=tot%65536+65536*(tot/65536):=by omega
  generalize (65536:Int)^acc.length=B at *;generalize tot%65536=d at *;generalize tot/65536=q at *;generalize x.getD acc.length 0=a at *;generalize y.getD acc.length 0=b at *
  grind
end
end
section
def S.bd (I:S.Img)(st:S.Vw)(H z:Int)(M N:Nat)(o:S.BO)(k:Nat):Prop:=∃neg val,(neg=0\/neg=1)/\0<=val/\S.signed neg val=z/\S.NumR I st H neg val M N o k
theorem Z0m {I:S.Img}{st s:S.Vw}{H neg val:Int}{M N:Nat}{o:S.BO}{k:Nat}(b:S.Sim st s)(h:S.NumR I s H neg val M N o k):S.NumR I st H neg val M N o k:=by
 obtain⟨e,l,h1,h2,h3,g,m,d,i⟩:=h;exact⟨e,l,h1,h2,λ a f=>(h3 a f).trans (by rw[b.mem]),λ j c=>(g j c).trans (b.reg j c),m.trans b.inp,d.trans b.out,i⟩
theorem Zxh {I:S.Img}{st b:S.Vw}{H neg val:Int}{M N k d e c:Nat}(h:S.NumR I st H neg val M N (.ret b) k)(g:d<=c)(hM:M<=e):S.NumR I st H neg val e c (.ret (b.set 4 (b.reg 4))) d:=by
 obtain⟨i,m,h1,h2,h3,j,n,f,l⟩:=h;exact⟨i,m,h1,h2,λ a ha=>h3 a (by omega),j,n,f,Zjq l g⟩
theorem Z0n {I:S.Img}{st:S.Vw}{H neg val:Int}{M N k:Nat}{o:S.BO}(h:S.NumR I st H neg val M N o k):(∃a,o=.ret a)/\k<=N:=by
 obtain⟨s2,ds,h1,h2,h3,h4,h5,h6,a,e,b,_⟩:=h;exact⟨⟨a,e⟩,b⟩
theorem Z35 {a b:Int}(d:a=0\/a=1)(c:b=0\/b=1):alu 9 a b=if a=b then 0 else 1:=by
 rcases d with rfl|rfl <;> rcases c with rfl|rfl <;> decide
section
variable {I:S.Img}(hN:NSegs I)
include hN
theorem Zrx {dep lk:Int}{env:List Int}{st s:S.Vw}{C:Nat}{Q:List Int->S.Vw->Nat->Prop}{r:List BS}{H neg val z:Int}{M N j i:Nat}{name:ByteArray}{l:List BE}{xs:List Int}{K:Nat}{d:Int}(b:neg=0\/neg=1)(q:0<=val)(p:S.signed neg val=z)(n:S.Sim st s)
 (v:Yls I dep lk env s l xs K) (g:dEs l<=20) (e:xs.length<=4) (u:∀a,S.Sim s a->Real I name false (a.args xs) d (λ _ o k=>S.NumR I s H neg val M N o k)) (f:d<=dep) (m:M<=j) (hC:C+K+N+14<=i):WS I dep lk false (S.sVal (eF name l)::r) env s C Q (bd I st H z j i):=by
 refine Zmo (T:=S.NumR I s H neg val M N) v g e u f λ o k h=>?_
 obtain⟨⟨t,rfl⟩,hk⟩:=Z0n h;intro c hc;exact⟨neg,val,b,q,p,Z0m n (Zxh h (by omega) m)⟩
theorem Zxi {st:S.Vw}{H v u w C t:Int}{x y:List Int}(O:S.NumIn I st.mem H v w x)(N:S.NumIn I st.mem H u C y)(Q:t=0\/t=1)(K:st.reg 26=H)(c:∀j:Nat,j<max x.length y.length+3->S.Dat I (H+j))(G:max x.length y.length<=900) :
 ∀d,S.Sim st d->Real I kNSum false (d.args [v,u,t]) 75 (λ _ o k=>bd I st H (S.signed w (S.dval x)+S.signed (if t=0 then C else 1-C) (S.dval y)) (max x.length y.length+3) (3000+2800*max x.length y.length) o k):=λ d J=>by
 obtain⟨iF,hF⟩:=hN.sum;obtain⟨L,T⟩:=Yx (max x.length y.length);rw[<- T] at c G⊢;obtain⟨ny,B⟩:∃n,n=(if t=0 then C else 1-C):=⟨_,rfl⟩
 rw[<- B];have U:=Zcy hN.ok rNSum (by kernel_rfl) hF (dep:=55) (by decide) (d.args [v,u,t]) (bd I st H (S.signed w (S.dval x)+S.signed ny (S.dval y)) (L+3) (3000+2800*L)) λ lk env W hp=>?_
 .exact U
 obtain⟨e,f,g,V,P,rfl⟩:=Z3f W;have h0:e=v:=hp 0 (show(0:Int)<3 by decide);have h1:f=u:=hp 1 (show(1:Int)<3 by decide);have h2:g=t:=hp 2 (show(2:Int)<3 by decide);subst h0 h1 h2;have D:S.Sim st (d.args [e,f,g]):=J.args (by simp);obtain⟨i,F⟩:∃s,s=d.args [e,f,g]:=⟨_,rfl⟩
 rw[<- F] at D⊢;have hm:i.mem=st.mem:=D.mem;have m:S.NumIn I i.mem H e w x:=by rw[hm];exact O
 have p:S.NumIn I i.mem H f C y:=by rw[hm];exact N
 have l:i.reg 26=H:=by rw[D.reg 26 (by decide)];exact K
 have E:=O.1.sg;have M:=N.1.sg;have dx:=Zg (show S.Digs x from O.1.dig);have dy:=Zg (show S.Digs y from N.1.dig);have r:ny=0\/ny=1:=by rw[B];split <;> omega
 show WS I 55 lk false [sAs 3 (eF kNNeg [eL 0]),sAs 4 (eB 9 (eF kNNeg [eL 1]) (eL 2)),
  sWhen (eQ (eL 3) (eL 4)) [S.sVal (eF kNAdd [eL 0,eL 1,eL 3])],
  sWhen (eF kNCmp [eL 0,eL 1]) [S.sVal (eF kNSub [eL 0,eL 1,eL 3])],
  S.sVal (eF kNSub [eL 1,eL 0,eL 4])] [e,f,g,V,P] i 8 _ _
 have l0:∀a b,Yl I 55 lk [e,f,g,a,b] i (eL 0) e 1:=λ a b=>Zs 0
 have l1:∀a b,Yl I 55 lk [e,f,g,a,b] i (eL 1) f 1:=λ a b=>Zs 1
 have l2:∀a b,Yl I 55 lk [e,f,g,a,b] i (eL 2) g 1:=λ a b=>Zs 2
 have l3:∀a b,Yl I 55 lk [e,f,g,a,b] i (eL 3) a 1:=λ a b=>Zs 3
 have l4:∀a b,Yl I 55 lk [e,f,g,a,b] i (eL 4) b 1:=λ a b=>Zs 4
 refine Zq (Zct (Za (l0 _ _) Zf) (by simp) (Za1 hN m.1) (by decide)) (by decide) ?_
 show WS I 55 lk false _ [e,f,g,w,P] i _ _ _
 refine Zq ((Zo (op:=9) (by decide) (Zct (Za (l1 _ _) Zf) (by simp) (Za1 hN p.1) (by decide)) (l2 _ _)).to_ (y:=ny) (by
  rw[Z35 M Q,B];rcases Q with rfl|rfl
  .rcases M with rfl|rfl <;> decide
  .rcases M with rfl|rfl <;> decide) (Yb _)) (by decide) ?_
 show WS I 55 lk false _ [e,f,g,w,ny] i _ _ _
 refine Zr (Zgt (l3 _ _) (l4 _ _)) (by decide) (λ z=>?_) (λ A=>?_)
 .have hne:w≠ny:=λ q=>by rw[if_pos q] at z;cases z
  refine Zr (Zct (Za (l0 _ _) (Za (l1 _ _) Zf)) (by simp) (Zgd hN m.1 p.1) (by decide)) (by decide) (λ z=>?_) (λ A=>?_)
  .have hlt:S.dval x<S.dval y:=by
    unfold cmpV at z
    split at z
    .assumption
    .split at z <;> cases z
   refine Zrx hN (val:=S.dval y-S.dval x) r (by omega) ?_ D (Za (l1 _ _) (Za (l0 _ _) (Za (l4 _ _) Zf))) (by decide) (by simp) (Zo7 hN p m r (by omega) l (λ j R=>c j (by omega)) (by omega)) (by decide) (by omega) (by omega);unfold S.signed;rcases E with rfl|rfl <;> rcases r with h|h
   .omega
   .rw[h];simp;omega
   .rw[h];simp;omega
   .omega
  .have hle:¬S.dval x<S.dval y:=λ q=>A (by unfold cmpV;rw[if_pos q])
   refine Zrx hN (val:=S.dval x-S.dval y) E (by omega) ?_ D (Za (l0 _ _) (Za (l1 _ _) (Za (l3 _ _) Zf))) (by decide) (by simp) (Zo7 hN m p E (by omega) l (λ j R=>c j (by omega)) (by omega)) (by decide) (by omega) (by omega);unfold S.signed;rcases E with rfl|rfl <;> rcases r with h|h
   .omega
   .rw[h];simp;omega
   .rw[h];simp;omega
   .omega
 .have he:w=ny:=Y_c λ q=>A (if_neg q)
  refine Zrx hN (val:=S.dval x+S.dval y) E (by omega) ?_ D (Za (l0 _ _) (Za (l1 _ _) (Za (l3 _ _) Zf))) (by decide) (by simp) (Zo6 hN m p E l (λ j R=>c j (by omega)) (by omega)) (by decide) (by omega) (by omega);rw[<- he];unfold S.signed
  split <;> omega
end
end
section
theorem Zgj (acc:List Int)(k:Nat)(d:Int)(j:Nat)(a:k<acc.length):(acc.set k d).getD j 0=if j=k then d else acc.getD j 0:=by
 rw[Ye,List.getElem?_set,Ye];by_cases c:j=k
 .subst c
  rw[if_pos rfl,if_pos a,if_pos rfl];rfl
 .rw[if_neg (λ e=>c e.symm),if_neg c]
theorem Zmy:∀(acc:List Int)(k:Nat)(d:Int),k<acc.length->S.dval (acc.set k d)=S.dval acc+(d-acc.getD k 0)*65536^k
 | [],k,d,h=>absurd h (Nat.not_lt_zero k)
 | x::r,0,d,_=>by
  show d+65536*S.dval r=(x+65536*S.dval r)+(d-x)*65536^0
  simp;omega
 | x::r,k+1,d,h=>by
  have ih:=Zmy r k d (by simpa using h)
  show x+65536*S.dval (r.set k d)=(x+65536*S.dval r)+(d-r.getD k 0)*65536^(k+1)
  rw[ih,Int.pow_succ]
  grind
theorem Zry {acc:List Int}(h:S.Digs acc)(k:Nat){d:Int}(a:0<=d/\d<65536):S.Digs (acc.set k d):=λ x b=>by
 rcases List.mem_or_eq_of_mem_set b with q|q
 .exact h x q
 .rw[q];exact a
theorem Zxj {st s:S.Vw}{H:Int}{acc:List Int}(h:S.HpS st s H acc){k:Nat}(f:k<acc.length)(d:Int):S.HpS st (s.sto (H+2+k) (4*d)) H (acc.set k d):=by
 have hm:∀a,(s.sto (H+2+k) (4*d)).mem a=if a=H+2+k then 4*d else s.mem a:=λ _=>rfl
 refine⟨λ a b=>?_,λ j e=>?_,h.reg,h.inp,h.out⟩
 .rw[Ybq] at b
  rw[hm,if_neg (by omega)];exact h.out_ a b
 .rw[Ybq] at e
  rw[hm,Zgj acc k d j f];by_cases c:j=k
  .rw[if_pos (by omega),if_pos c]
  .rw[if_neg (by omega),if_neg c]
   exact h.dig j e
theorem Z7j {env:List Int}(h:(env.length:Int)=7):∃a b c d e f g,env=[a,b,c,d,e,f,g]:=by
 match env,h with
 | [a,b,c,d,e,f,g],_=>exact⟨a,b,c,d,e,f,g,rfl⟩
 | [],h=>simp at h
 | [_],h=>simp at h
 | [_,_],h=>simp at h
 | [_,_,_],h=>simp at h
 | [_,_,_,_],h=>simp at h
 | [_,_,_,_,_],h=>simp at h
 | [_,_,_,_,_,_],h=>simp at h
 | _::_::_::_::_::_::_::_::_,h=>simp only[Yj] at h;omega
theorem Z0o (n:Nat):S.dval (Yt n 0)=0:=Zen λ j=>by
 rw[Ye,List.getElem?_replicate]
 split <;> rfl
section
variable {I:S.Img}(hN:NSegs I)
include hN
theorem Zxk {st:S.Vw}{H v u nv nu:Int}{x y:List Int}(hx:S.NumIn I st.mem H v nv x)(hy:S.NumIn I st.mem H u nu y)(b6:st.reg 26=H)(t:∀j:Nat,j<x.length+y.length+3->S.Dat I (H+j))(b2:x.length+y.length<=900){W:Nat}(hW:W=800*y.length+900) :
 ∀F,S.Sim st F->Real I kNMul false (F.args [v,u]) 56 (λ _ o k=>S.NumR I st H (if nv=nu then 0 else 1) (S.dval x*S.dval y) (x.length+y.length+3) (2000+200*(x.length+y.length)+x.length*W) o k):=λ F c0=>by
 obtain⟨iF,hF⟩:=hN.mul;obtain⟨X,hX⟩:∃L,L=x.length:=⟨_,rfl⟩
 obtain⟨Y,hY⟩:∃L,L=y.length:=⟨_,rfl⟩
 rw[<- hX,<- hY] at t b2⊢;rw[<- hY] at hW;obtain⟨sg,a4⟩:∃n:Int,n=(if nv=nu then 0 else 1):=⟨_,rfl⟩
 rw[<- a4];obtain⟨NN,b8⟩:∃n,n=2000+200*(X+Y)+X*W:=⟨_,rfl⟩
 rw[<- b8];have hr:=Zcy hN.ok rNMul (by kernel_rfl) hF (dep:=34) (by decide) (F.args [v,u]) (S.NumR I st H sg (S.dval x*S.dval y) (X+Y+3) NN) λ lk env hl hp=>?_
 .exact hr
 obtain⟨m,l,e2,U,O,P,e6,rfl⟩:=Z7j hl;have h0:m=v:=hp 0 (show(0:Int)<2 by decide);have h1:l=u:=hp 1 (show(1:Int)<2 by decide);subst h0 h1;have hs:S.Sim st (F.args [m,l]):=c0.args (by simp);obtain⟨s1,b5⟩:∃s,s=F.args [m,l]:=⟨_,rfl⟩
 rw[<- b5] at hs⊢;have c6:=hN.ok.size2;have a9:=t 0 (by omega);have c3:=t (X+Y+2) (by omega);rw[show H+((0:Nat):Int)=H by omega] at a9;have c7:=a9.1;have c8:=c3.2.1;have dx:S.Digs x:=hx.1.dig;have dy:S.Digs y:=hy.1.dig;have n0:=Zmx (H:=H) hs;have yh:∀(env:List Int)(s:S.Vw)(acc:List Int),S.HpS st s H acc->Yl I 34 lk env s eH H 1:=λ env s acc h=>(Zyl (n:=26) (by decide)).to_ (by rw[h.reg 26 (by decide)];exact b6) (Yb _)
 have l0:∀s b c d e f,Yl I 34 lk [m,l,b,c,d,e,f] s (eL 0) m 1:=λ s b c d e f=>Zs 0
 have l1:∀s b c d e f,Yl I 34 lk [m,l,b,c,d,e,f] s (eL 1) l 1:=λ s b c d e f=>Zs 1
 have l2:∀s b c d e f,Yl I 34 lk [m,l,b,c,d,e,f] s (eL 2) b 1:=λ s b c d e f=>Zs 2
 have l3:∀s b c d e f,Yl I 34 lk [m,l,b,c,d,e,f] s (eL 3) c 1:=λ s b c d e f=>Zs 3
 have l4:∀s b c d e f,Yl I 34 lk [m,l,b,c,d,e,f] s (eL 4) d 1:=λ s b c d e f=>Zs 4
 have l5:∀s b c d e f,Yl I 34 lk [m,l,b,c,d,e,f] s (eL 5) e 1:=λ s b c d e f=>Zs 5
 have l6:∀s b c d e f,Yl I 34 lk [m,l,b,c,d,e,f] s (eL 6) f 1:=λ s b c d e f=>Zs 6
 have V:∀(s:S.Vw)(acc:List Int),S.HpS st s H acc->∀b c d e f,Yl I 34 lk [m,l,b,c,d,e,f] s (eF kNLen [eL 0]) (X:Int) 109:=λ s acc h b c d e f=>(Zct (Za (l0 s b c d e f) Zf) (by simp) (Za9 hN (Zao hx h)) (by decide)).to_ (by rw[hX]) (Yb _)
 have R:∀(s:S.Vw)(acc:List Int),S.HpS st s H acc->∀b c d e f,Yl I 34 lk [m,l,b,c,d,e,f] s (eF kNLen [eL 1]) (Y:Int) 109:=λ s acc h b c d e f=>(Zct (Za (l1 s b c d e f) Zf) (by simp) (Za9 hN (Zao hy h)) (by decide)).to_ (by rw[hY]) (Yb _)
 show WS I 34 lk false [sAs 6 (eAdd (eF kNLen [eL 0]) (eF kNLen [eL 1])),sAs 2 (eC 0),
  sWh (eLt (eL 2) (eL 6)) [sPut (eAdd eH (eL 2)) 2 (eC 0),sInc 2],
  sAs 2 (eC 0),
  sWh (eLt (eL 2) (eF kNLen [eL 0]))
   [sAs 4 (eF kNDig [eL 0,eL 2]),sAs 5 (eC 0),sAs 3 (eC 0),
    sWh (eLt (eL 3) (eF kNLen [eL 1]))
     [sAs 5 (eAdd (eAdd (eL 5) (eShr (eM eCell 2) 2)) (eB 3 (eL 4) (eF kNDig [eL 1,eL 3]))),
      sPut eCell 2 (eDg (eL 5)),sAs 5 (eShr (eL 5) 16),sInc 3],
    sPut eCell 2 (eDg (eL 5)),sInc 2],
  S.sVal (eF kNFin [eB 9 (eF kNNeg [eL 0]) (eF kNNeg [eL 1]),eL 6])] [m,l,e2,U,O,P,e6] s1 8 _ _
 refine Zq ((Zo (op:=1) (by decide) (V s1 _ n0 _ _ _ _ _) (R s1 _ n0 _ _ _ _ _)).to_ (y:=((X+Y:Nat):Int)) (by rw[Zar];unfold S.u32m;omega) (Yb _)) (by decide) ?_
 show WS I 34 lk false _ [m,l,e2,U,O,P,((X+Y:Nat):Int)] s1 _ _ _
 refine Zq (Zp 0) (by decide) ?_
 show WS I 34 lk false _ [m,l,0,U,O,P,((X+Y:Nat):Int)] s1 _ _ _
 refine Zfp (by decide) (λ env s C k=>∃i:Nat,env=[m,l,(i:Int),U,O,P,((X+Y:Nat):Int)]/\k=X+Y-i/\i<=X+Y/\S.HpS st s H (Yt i 0)/\C<=300+40*i) (k0:=X+Y)
  ⟨0,rfl,rfl,Yae _,n0,by decide⟩ ?_
 rintro env s C k ⟨i,rfl,rfl,hi,N,hC⟩;have b3:=Zo (op:=14) (by decide) (l2 s (i:Int) U O P ((X+Y:Nat):Int)) (l6 s _ _ _ _ _);rw[Zcj] at b3;refine⟨_,_,b3,λ T=>?_,λ J=>?_⟩
 rotate_left
 .have hlt:i<X+Y:=Y_c λ q=>J (if_neg (by omega))
  have E:=t (i+2) (by omega);rw[show H+((i+2:Nat):Int)=H+2+i by omega] at E;refine Zb3 (x:=4*0) (p:=H+2+i) ((Zo (op:=1) (by decide) (yh _ s _ N) (l2 s _ _ _ _ _)).to_ (y:=H+i) (by rw[Zar];unfold S.u32m;omega) (Yb _)) (Zp 0) (by decide) (by decide) (by unfold S.u32m;omega) E.2 ?_;have r:=Zgi N 0;rw[Ybw] at r;refine Zq ((Zo (op:=1) (by decide) (l2 _ _ _ _ _ _) (Zp 1)).to_ (y:=((i+1:Nat):Int)) (by rw[Zar];unfold S.u32m;omega) (Yb _)) (by decide) ?_
  show WS I 34 lk false _ [m,l,((i+1:Nat):Int),U,O,P,((X+Y:Nat):Int)] _ _ _ _
  exact Z2 (k2:=X+Y-(i+1)) (by omega) ⟨i+1,rfl,rfl,by omega,by rw[List.replicate_succ'];exact r,by omega⟩
 have a0:i=X+Y:=Y_c λ q=>by rw[if_pos (by omega)] at T;cases T
 subst a0;refine Zq (Zp 0) (by decide) ?_
 show WS I 34 lk false _ [m,l,0,U,O,P,((X+Y:Nat):Int)] s _ _ _
 refine Zfp (by decide) (λ env s C k=>∃(i:Nat)(b c d:Int)(acc:List Int),env=[m,l,(i:Int),b,c,d,((X+Y:Nat):Int)]/\k=X-i/\i<=X/\acc.length=X+Y/\S.Digs acc/\S.HpS st s H acc/\S.dval acc=S.psum x i*S.dval y/\(∀j,i+Y<=j->acc.getD j 0=0)/\C<=350+40*(X+Y)+i*W) (k0:=X)
  ⟨0,U,O,P,Yt (X+Y) 0,rfl,rfl,Yae _,Ybw,(λ d hd=>by rw[List.eq_of_mem_replicate hd];decide),N,by rw[Z0o];show _=0*_;rw[Int.zero_mul],(λ j _=>by
   rw[Ye,List.getElem?_replicate]
   split <;> rfl),by omega⟩ ?_
 rintro env s C k ⟨i,b,c,d,acc,rfl,rfl,hi,a6,a8,N,Z,a5,hC⟩;have b9:=Zo (op:=14) (by decide) (l2 s (i:Int) b c d ((X+Y:Nat):Int)) (V s acc N _ _ _ _ _);rw[Zcj] at b9;refine⟨_,_,b9,λ T=>?_,λ J=>?_⟩
 .have a0:i=X:=Y_c λ q=>by rw[if_pos (by omega)] at T;cases T
  have hv:S.dval acc=S.dval x*S.dval y:=by rw[Z,Zaj (by omega)]
  have sx:=hx.1.sg;have sy:=hy.1.sg;have a3:sg=0\/sg=1:=by rw[a4];split <;> omega
  refine Zxg hN (acc:=acc) a3 N b6 a8 (by omega) (λ j hj=>t j (by omega)) hv (by omega)
   (Za ((Zo (op:=9) (by decide) (Zct (Za (l0 s _ _ _ _ _) Zf) (by simp) (Za1 hN (Zao hx N)) (by decide)) (Zct (Za (l1 s _ _ _ _ _) Zf) (by simp) (Za1 hN (Zao hy N)) (by decide))).to_ (y:=sg) (by rw[Z35 sx sy,a4]) (Yb _)) (Za ((l6 s _ _ _ _ _).to_ (y:=(acc.length:Int)) (by rw[a6]) (Yb _)) Zf)) (by decide) (by decide) ?_
  rw[a6,b8,<- a0];omega
 .have hlt:i<X:=Y_c λ q=>J (if_neg (by omega))
  have bx:=Zy dx i;have y1:=Zct (d:=34) (dep:=34) (lk:=lk) (env:=[m,l,(i:Int),b,c,d,((X+Y:Nat):Int)]) (Za (l0 s _ _ _ _ _) (Za (l2 s _ _ _ _ _) Zf)) (by simp) (Zba hN (Zao hx N) ⟨by omega,by omega⟩) (by decide);rw[Yaj] at y1;obtain⟨a,ha⟩:=Yx (x.getD i 0);rw[<- ha] at y1 bx;refine Zq y1 (by decide) ?_
  show WS I 34 lk false _ [m,l,(i:Int),b,a,d,((X+Y:Nat):Int)] s _ _ _
  refine Zq (Zp 0) (by decide) ?_
  show WS I 34 lk false _ [m,l,(i:Int),b,a,0,((X+Y:Nat):Int)] s _ _ _
  refine Zq (Zp 0) (by decide) ?_
  show WS I 34 lk false _ [m,l,(i:Int),0,a,0,((X+Y:Nat):Int)] s _ _ _
  refine Zfp (by decide) (λ env s C2 k=>∃(j:Nat)(z:Int)(g:List Int),env=[m,l,(i:Int),(j:Int),a,z,((X+Y:Nat):Int)]/\k=Y-j/\j<=Y/\g.length=X+Y/\S.Digs g/\S.HpS st s H g/\(0<=z/\z<65536)/\S.dval g+z*65536^(i+j)=S.psum x i*S.dval y+a*65536^i*S.psum y j/\(∀j,i+Y<=j->g.getD j 0=0)/\C2<=C+500+760*j) (k0:=Y)
   ⟨0,0,acc,rfl,rfl,Yae _,a6,a8,N,by decide,(by rw[Z,S.psum];simp),a5,by omega⟩ ?_
  rintro env s C2 k ⟨j,z,g,rfl,rfl,hj,Q,G,r,c2,M,w,c4⟩;have b7:=Zo (op:=14) (by decide) (l3 s (i:Int) (j:Int) a z ((X+Y:Nat):Int)) (R s g r _ _ _ _ _);rw[Zcj] at b7;have E:S.Dat I (H+2+i+j):=by
   have:=t (i+j+2) (by omega);rw[show H+((i+j+2:Nat):Int)=H+2+i+j by omega] at this;exact this
  have A:∀(s:S.Vw)(acc:List Int)(z:Int),S.HpS st s H acc->Yl I 34 lk [m,l,(i:Int),(j:Int),a,z,((X+Y:Nat):Int)] s eCell (H+i+j) 5:=λ s acc z h =>
   (Zo (op:=1) (by decide) (yh _ s _ h) (Zo (op:=1) (by decide) (l2 s _ _ _ _ _) (l3 s _ _ _ _ _))).to_ (by rw[Zar,Zar];unfold S.u32m;omega) (Yb _)
  have a7:S.u32m (H+i+j+2)=H+2+i+j:=by unfold S.u32m;omega
  have a1:H+2+((i+j:Nat):Int)=H+2+i+j:=by omega
  refine⟨_,_,b7,λ T=>?_,λ J=>?_⟩
  .have hjE:j=Y:=Y_c λ q=>by rw[if_pos (by omega)] at T;cases T
   subst hjE;refine Zb3 (x:=4*z) (p:=H+2+i+j) (A s g z r) ((Zo (op:=10) (by decide) (Zo (op:=7) (by decide) (l5 s _ _ _ _ _) (Zp 65535)) (Zp 2)).to_ (by rw[Zfq ⟨by omega,by omega⟩];omega) (Yb _)) (by decide) (by decide) a7 E.2 ?_;have K:=Zxj r (k:=i+j) (by omega) z;rw[a1] at K;refine Zq ((Zo (op:=1) (by decide) (l2 _ _ _ _ _ _) (Zp 1)).to_ (y:=((i+1:Nat):Int)) (by rw[Zar];unfold S.u32m;omega) (Yb _)) (by decide) ?_
   show WS I 34 lk false _ [m,l,((i+1:Nat):Int),(j:Int),a,z,((X+j:Nat):Int)] _ _ _ _
   refine Z2 (k2:=X-(i+1)) (by omega) ⟨i+1,_,_,_,g.set (i+j) z,rfl,rfl,by omega,by rw[Ybq];exact Q,Zry G _ c2,K,?_,λ q hq=>?_,?_⟩
   .rw[Zmy _ _ _ (by omega),w (i+j) (Yb _),S.psum,Int.sub_zero,M,Zaj (x:=y) (by omega),<- ha]
    grind
   .rw[Zgj _ _ _ _ (by omega),if_neg (by omega)]
    exact w q (by omega)
   .rw[show(i+1)*W=i*W+W from Nat.succ_mul i W]
    omega
  .have hlt2:j<Y:=Y_c λ q=>J (if_neg (by omega))
   have a2:=Zy dy j;have bc:=Zy G (i+j);have y2:=Zct (d:=34) (dep:=34) (lk:=lk) (env:=[m,l,(i:Int),(j:Int),a,z,((X+Y:Nat):Int)]) (Za (l1 s _ _ _ _ _) (Za (l3 s _ _ _ _ _) Zf)) (by simp) (Zba hN (Zao hy r) ⟨by omega,by omega⟩) (by decide);rw[Yaj] at y2;have B:=r.dig (i+j) (by omega);rw[a1] at B;have ym:=Zmn (n:=2) (A s g z r) a7 (Za7 E);rw[B] at ym;obtain⟨q0,b4⟩:∃q,q=g.getD (i+j) 0:=⟨_,rfl⟩
   obtain⟨yj,b0⟩:∃q,q=y.getD j 0:=⟨_,rfl⟩
   rw[<- b4] at bc ym;rw[<- b0] at a2 y2;have c9:0<=a*yj:=Yas bx.1 a2.1;have d0:a*yj<=65535*65535:=Int.mul_le_mul (by omega) (by omega) a2.1 (by decide);obtain⟨tot,b1⟩:=Yx (z+q0+a*yj);have c1:0<=tot/\tot<4294967296:=by omega
   refine Zq ((Zo (op:=1) (by decide) (Zo (op:=1) (by decide) (l5 s _ _ _ _ _) (Zo (op:=11) (by decide) ym (Zp 2))) (Zo (op:=3) (by decide) (l4 s _ _ _ _ _) y2)).to_ (y:=tot) (by
    rw[Zar,Zar,Z77,Z4m,b1];generalize a*yj=ay at *;unfold S.u32m;omega) (Yb _)) (by decide) ?_
   show WS I 34 lk false _ [m,l,(i:Int),(j:Int),a,tot,((X+Y:Nat):Int)] s _ _ _
   refine Zb3 (x:=4*(tot%65536)) (p:=H+2+i+j) (A s g tot r) ((Zo (op:=10) (by decide) (Zo (op:=7) (by decide) (l5 s _ _ _ _ _) (Zp 65535)) (Zp 2)).to_ (Zfq c1) (Yb _)) (by decide) (by decide) a7 E.2 ?_;have K:=Zxj r (k:=i+j) (by omega) (tot%65536);rw[a1] at K;refine Zq ((Zo (op:=11) (by decide) (l5 _ _ _ _ _ _) (Zp 16)).to_ (y:=tot/65536) (by rw[Zkj]) (Yb _)) (by decide) ?_
   show WS I 34 lk false _ [m,l,(i:Int),(j:Int),a,tot/65536,((X+Y:Nat):Int)] _ _ _ _
   refine Zq ((Zo (op:=1) (by decide) (l3 _ _ _ _ _ _) (Zp 1)).to_ (y:=((j+1:Nat):Int)) (by rw[Zar];unfold S.u32m;omega) (Yb _)) (by decide) ?_
   show WS I 34 lk false _ [m,l,(i:Int),((j+1:Nat):Int),a,tot/65536,((X+Y:Nat):Int)] _ _ _ _
   refine Z2 (k2:=Y-(j+1)) (by omega) ⟨j+1,tot/65536,g.set (i+j) (tot%65536),rfl,rfl,by omega,by rw[Ybq];exact Q,Zry G _ ⟨by omega,by omega⟩,K,⟨by omega,by omega⟩,?_,λ q hq=>?_,by omega⟩
   .rw[Zmy _ _ _ (by omega),S.psum,<- b4,<- b0,show i+(j+1)=(i+j)+1 by omega,Int.pow_succ]
    have c5:tot=tot%65536+65536*(tot/65536):=by omega
    have hp:(65536:Int)^(i+j)=65536^i*65536^j:=Int.pow_add _ _ _;rw[hp] at M⊢;generalize (65536:Int)^i=Bi at *;generalize (65536:Int)^j=Bj at *;generalize tot%65536=dd at *;generalize tot/65536=qq at *;generalize S.dval g=D at *;generalize S.psum y j=Py at *;generalize S.psum x i*S.dval y=PX at *
    grind
   .rw[Zgj _ _ _ _ (by omega),if_neg (by omega)]
    exact w q hq
end
end
