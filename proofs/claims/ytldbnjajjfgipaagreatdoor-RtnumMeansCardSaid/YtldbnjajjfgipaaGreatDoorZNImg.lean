/- Parts. -/
import Derived.Test.YtldbnjajjfgipaaGreatDoorZNDiv
set_option linter.all false
open Nat renaming le_refl->Yb,zero_add->Yac
open List renaming length_append->Yd,getD_eq_getElem?_getD->Ye,getElem?_eq_some_iff->Yg,getElem?_append_right->Yo,length_take->Yr,mem_cons->Yz,mem_singleton->Y2,mem_append->Y4,not_mem_nil->Yaq,all_eq_true->Ya9,range->Ycb,nodup_nil->Yc4
open Int renaming le_refl->Y5,le_of_lt->Yaz,pow_pos->Ya2,add_zero->Ybc
namespace Go.Proofs.YtldbnjajjfgipaaGreatDoor
open S Go.RowKit
section
def S.ax (t nv nu X Y:Int):Int:=if t=0 then S.signed (if nv=nu then 0 else 1) (X/Y) else S.signed nv (X%Y)
theorem Zjm {I:S.Img}{st s:S.Vw}{H v neg:Int}{m n j:Nat}{d acc b a:List Int}(h:NumIn I st.mem H v neg a)(c:DvS st s H m n j d acc b):S.NumAt I s.mem v neg a:=h.1.same λ p e j hj=>c.out_ _ (by have:=h.2 p e;omega)
theorem Zz9 {y:List Int}{n n1 k:Nat}{P:Int}{d:List Int}(B:S.Digs y)(w:Top y n)(q:n=n1+1)(A:k<=15)(r:P=2^k)(h1:32768<=y.getD n1 0*P)(h2:y.getD n1 0*P<65536)(u:S.Digs d)(hl:d.length=n+1)(p:S.dval d=S.dval y*P) :
 S.dval (d.take n)=S.dval y*P/\S.dval y*P<65536^n/\32768<=d.getD n1 0:=by
 have v:S.dval y=psum y n1+y.getD n1 0*65536^n1:=by
  rw[Zdb w,<- Zaj (x:=y.take n) (n:=n1+1) (by rw[Yr];omega),psum,Zan (by omega)]
  congr 1
  exact Zdc _ λ j s=>Zan (by omega)
 have z:=Zjl B n1;have hp:(0:Int)<65536^n1:=Ya2 (by decide);have i:=Zla A;rw[<- r] at i;have b:(65536:Int)=P*2^(16-k):=by rw[r,<- Int.pow_add,show k+(16-k)=16 by omega];rfl
 generalize (2:Int)^(16-k)=K at b;obtain⟨g,hg⟩:=Yx (y.getD n1 0);rw[<- hg] at v h1 h2;have o:(g+1)*P<=65536:=by
  have h3:g<K:=by
   refine Y_c λ c=>?_
   have:=Int.mul_le_mul_of_nonneg_right (show K<=g by omega) (show 0<=P by omega);have e:K*P=65536:=by rw[b,Int.mul_comm]
   omega
  have m:=Int.mul_le_mul_of_nonneg_right (show g+1<=K by omega) (show 0<=P by omega);have e:K*P=65536:=by rw[b,Int.mul_comm]
  omega
 obtain⟨T,a⟩:=Yx ((65536:Int)^n1);have t:(65536:Int)^n=65536*T:=by rw[q,Int.pow_succ,<- a,Int.mul_comm]
 rw[<- a] at v z hp;have h:S.dval y*P<65536^n:=by
  have h3:S.dval y+1<=(g+1)*T:=by
   have e:(g+1)*T=g*T+T:=by grind
   omega
  have m:=Int.mul_le_mul_of_nonneg_right h3 (show 0<=P by omega);have e1:(S.dval y+1)*P=S.dval y*P+P:=by grind
  have e2:(g+1)*T*P=(g+1)*P*T:=by grind
  have D:=Int.mul_le_mul_of_nonneg_right o (show 0<=T by omega);omega
 have f:=Zdd u (n:=n) (by rw[p];exact h);refine⟨?_,h,?_⟩
 .rw[<- Zaj (x:=d.take n) (n:=n) (by rw[Yr];omega),<- p,<- f]
  exact Zdc _ λ j s=>Zan s
 .rw[q,psum,<- a,p] at f
  have l:=Zjl u n1;rw[<- a] at l;have h3:32768*T<=S.dval y*P:=by
   have m:=Int.mul_le_mul_of_nonneg_right h1 (show 0<=T by omega);have D:=Int.mul_le_mul_of_nonneg_right (show g*T<=S.dval y by omega) (show 0<=P by omega);have e:g*P*T=g*T*P:=by grind
   omega
  refine Y_c λ c=>?_
  have m:=Int.mul_le_mul_of_nonneg_right (show d.getD n1 0<=32767 by omega) (show 0<=T by omega);omega
section
variable {I:S.Img}(hN:NSegs I)
include hN
theorem Zwz {st:S.Vw}{H v u nv nu t:Int}{x y:List Int}(hx:NumIn I st.mem H v nv x)(hy:NumIn I st.mem H u nu y)(ht:t=0\/t=1)(a9:st.reg 26=H)(hY:0<S.dval y)(b:∀a,H<=a->a<H+2*x.length+y.length+7->S.Dat I a)(h6:x.length<=900)(h9:y.length<=900){W:Nat}(hW:W=850+250*y.length) :
 ∀a2,Sim st a2->Real I kNDiv false (a2.args [v,u,t]) 81 (λ _ o k=>bd I st H (ax t nv nu (S.dval x) (S.dval y)) (2*x.length+y.length+7) (5000+3000*(x.length+y.length)+(x.length+1)*W) o k):=λ a2 f3=>by
 obtain⟨iF,hF⟩:=hN.div;obtain⟨XL,a1⟩:∃L,L=x.length:=⟨_,rfl⟩
 obtain⟨YL,b6⟩:∃L,L=y.length:=⟨_,rfl⟩
 obtain⟨NN,b9⟩:∃N,N=5000+3000*(XL+YL)+(XL+1)*W:=⟨_,rfl⟩
 obtain⟨z,hz⟩:=Yx (ax t nv nu (S.dval x) (S.dval y));rw[<- a1,<- b6] at b⊢;rw[<- a1] at h6;rw[<- b6] at h9 hW;rw[<- b9,<- hz];have hr:=Zcy hN.ok rNDiv (by kernel_rfl) hF (dep:=55) (by decide) (a2.args [v,u,t]) (bd I st H z (2*XL+YL+7) NN) λ lk env hl hp=>?_
 .exact hr
 obtain⟨G,F,D,e3,e4,e5,e6,e7,e8,e9,w,rfl⟩:=Z7c hl;have h0:G=v:=hp 0 (show(0:Int)<3 by decide);have h1:F=u:=hp 1 (show(1:Int)<3 by decide);have h2:D=t:=hp 2 (show(2:Int)<3 by decide);subst h0 h1 h2;have hs:Sim st (a2.args [G,F,D]):=f3.args (by simp);obtain⟨J,d1⟩:∃s,s=a2.args [G,F,D]:=⟨_,rfl⟩
 rw[<- d1] at hs⊢;have hm:J.mem=st.mem:=hs.mem;have Z:NumIn I J.mem H G nv x:=by rw[hm];exact hx
 have a3:NumIn I J.mem H F nu y:=by rw[hm];exact hy
 have b1:J.reg 26=H:=by rw[hs.reg 26 (by decide)];exact a9
 have dx:S.Digs x:=hx.1.dig;have dy:S.Digs y:=hy.1.dig;have sx:=hx.1.sg;have sy:=hy.1.sg;have X0:=Zg dx;have i9:=hN.ok.size2;have j1:=(b H (Y5 _) (by omega)).1;have i5:=(b (H+2*XL+YL+6) (by omega) (by omega)).2.1
 show WS I 55 lk false (sWhen (eNot (eF kNCmp [eL 0,eL 1])) [sWhen (eL 2) [S.sVal (eF kNAdd [eL 0,eC 0,eF kNNeg [eL 0]])],S.sVal (eC 0)]::_) [G,F,D,e3,e4,e5,e6,e7,e8,e9,w] J 8 _ _
 refine Zr (Zgt (Zct (Za (Zs 0) (Za (Zs 1) Zf)) (by simp) (Zgd hN Z.1 a3.1) (by decide)) (Zp 0)) (by decide) (λ hc=>?_) (λ hc=>?_)
 rotate_left
 .-- the first one is less
  have d3:S.dval x<S.dval y:=by
   refine Y_c λ q=>hc (if_neg ?_)
   unfold cmpV;rw[if_neg q]
   split <;> decide
  refine Zr (x:=D) (Zs 2) (by decide) (λ b0=>?_) (λ b5=>?_)
  .refine Zfh (Zp 0) (by decide) λ a6 c2 h2 j0=>?_
   have g8:z=0:=by
    rw[hz,ax,if_pos b0,Int.ediv_eq_zero_of_lt X0 d3];unfold S.signed
    split <;> rfl
   refine⟨0,0,.inl rfl,Y5 _,by rw[g8];rfl,st,[],⟨a9,(λ d hd=>by cases hd),by simp,λ j E=>b _ (by omega) (by simp at E;omega),λ i hi=>absurd hi (Nat.not_lt_zero _)⟩,rfl,λ _ _=>rfl,λ _ _=>rfl,rfl,rfl,_,rfl,?_,.inl ⟨by show(0:Int)<536870912+0;decide,Zj _ _ _,?_⟩⟩
   .rw[b9];omega
   .exact((hs.trans h2).set4 _)
  .have g3:D=1:=by
    rcases ht with e|e
    .exact absurd e b5
    .exact e
   refine Zrx hN (d:=55) (N:=1000+800*max XL 2) (M:=max XL 2+3) (val:=S.dval x) sx X0 ?_ hs (Za (Zs 0) (Za (Zp 0) (Za (Zct (Za (Zs 0) Zf) (by simp) (Za1 hN Z.1) (by decide)) Zf))) (by decide) (by simp) (λ g1 g2=>?_) (by decide) (by omega) (by rw[b9];omega)
   .rw[hz,ax,if_neg (by omega),Int.emod_eq_of_lt X0 d3]
   .have hadd:=Zo6 hN Z (Zz8 (I:=I) (mem:=J.mem) (H:=H)) sx b1 (λ j E=>b _ (by omega) (by rw[<- a1] at E;simp at E;omega)) (by rw[<- a1];simp;omega) g1 g2
    rw[<- a1] at hadd;have ev:S.dval x+S.dval [0,0]=S.dval x:=by show S.dval x+0=_;omega
    rw[ev] at hadd;exact hadd
 have i8:S.dval y<=S.dval x:=by
  refine Y_c λ q=>?_
  rw[if_pos (by unfold cmpV;rw[if_pos (by omega)];rfl)] at hc
  cases hc
 obtain⟨m,a7⟩:=Zk9 x;obtain⟨n,a0⟩:=Zk9 y;have bx:=Z1m dx a7;have a8:=Z1m dy a0;have i6:m<=XL:=by rw[a1];exact a7.1
 have j5:n<=YL:=by rw[b6];exact a0.1
 have f2:0<n:=by
  refine Y_c λ q=>?_
  have:n=0:=by omega
  rw[this] at a8;have h1:S.dval y<1:=by have:=a8.1;simpa using this
  omega
 obtain⟨n1,c4⟩:∃n1,n=n1+1:=⟨n-1,by omega⟩
 have c1:n<=m:=by
  refine Y_c λ q=>?_
  have h1:=a8.2 f2;have h2:=Zrq (show m<=n-1 by omega);omega
 refine Zq (Zct (Za (Zs 0) Zf) (by simp) (Zos hN Z.1 a7) (by decide)) (by decide) ?_
 show WS I 55 lk false _ [G,F,D,(m:Int),e4,e5,e6,e7,e8,e9,w] J _ _ _
 refine Zq (Zct (Za (Zs 1) Zf) (by simp) (Zos hN a3.1 a0) (by decide)) (by decide) ?_
 show WS I 55 lk false _ [G,F,D,(m:Int),(n:Int),e5,e6,e7,e8,e9,w] J _ _ _
 refine Zq (Zp 0) (by decide) ?_
 show WS I 55 lk false _ [G,F,D,(m:Int),(n:Int),0,e6,e7,e8,e9,w] J _ _ _
 have bg:=Zy dy n1;have i1:y.getD n1 0≠0:=by
  have:=a0.2.2.resolve_left (by omega);rw[show n-1=n1 by omega] at this;exact this
 have c0:=Zct (I:=I) (d:=34) (dep:=55) (lk:=lk) (st:=J) (env:=[G,F,D,(m:Int),(n:Int),0,e6,e7,e8,e9,w]) (Za (Zs 1) (Za ((Zo (op:=2) (by decide) (Zs 4) (Zp 1)).to_ (y:=(n1:Int)) (by
  show alu 2 (n:Int) _=_
  rw[Zkc];unfold S.u32m;omega) (Yb _)) Zf)) (by simp) (Zba hN a3.1 (i:=(n1:Int)) ⟨by omega,by omega⟩) (by decide)
 rw[Int.toNat_natCast] at c0;refine Zq c0 (by decide) ?_
 show WS I 55 lk false _ [G,F,D,(m:Int),(n:Int),0,e6,e7,e8,y.getD n1 0,w] J _ _ _
 obtain⟨g,hg⟩:=Yx (y.getD n1 0);rw[<- hg] at bg i1⊢;clear c0;refine Z3j hN ⟨by omega,bg.2⟩ λ k hk f0 d8=>?_
 obtain⟨P,hP⟩:∃P:Int,P=2^k:=⟨_,rfl⟩
 rw[<- hP] at f0 d8;have f4:=Zla hk;rw[<- hP] at f4;refine Zq ((Zo (op:=1) (by decide) (Zo (op:=1) (by decide) ((Zyl (n:=26) (by decide)).to_ b1 (Yb _)) (Zs 3)) (Zp 4)).to_ (y:=H+m+4) (by
  show alu 1 (alu 1 H (m:Int)) _=_
  rw[Zar,Zar];unfold S.u32m;omega) (Yb _)) (by decide) ?_
 show WS I 55 lk false _ [G,F,D,(m:Int),(n:Int),(k:Int),H+m+4,e7,e8,g,w] J _ _ _
 refine Zq ((Zo (op:=1) (by decide) (Zo (op:=1) (by decide) (Zs 6) (Zs 3)) (Zp 1)).to_ (y:=H+m+4+m+1) (by
  show alu 1 (alu 1 (H+m+4) (m:Int)) _=_
  rw[Zar,Zar];unfold S.u32m;omega) (Yb _)) (by decide) ?_
 show WS I 55 lk false _ [G,F,D,(m:Int),(n:Int),(k:Int),H+m+4,H+m+4+m+1,e8,g,w] J _ _ _
 have g0:NumIn I J.mem (H+m+4) G nv x:=⟨Z.1,λ p e=>by have:=Z.2 p e;omega⟩
 have c5:NumIn I J.mem (H+m+4+m+1) F nu y:=⟨a3.1,λ p e=>by have:=a3.2 p e;omega⟩
 refine Z3d (d:=55) (T:=cr J (H+m+4) (m+1) (psum x m*P) (200+500*m)) (Za (Zs 0) (Za (Zs 3) (Za (Zs 5) (Za (Zs 6) Zf)))) (by decide) (by simp) (λ a6 b4=>Zot hN g0 (Y5 _) hk hP (by omega) (λ j E=>b _ (by omega) (by omega)) a6 b4) (by decide) λ o k1 hT=>?_
 obtain⟨s2,acc,rfl,K,d0,d2,b2,i2⟩:=hT
 show WS I 55 lk false _ _ s2 _ _ _
 have i0:NumIn I s2.mem (H+m+4+m+1) F nu y:=⟨c5.1.same λ p e j E=>K.out_ _ (by have:=a3.2 p e;omega),c5.2⟩
 refine Z3d (d:=55) (T:=cr s2 (H+m+4+m+1) (n+1) (psum y n*P) (200+500*n)) (Za (Zs 1) (Za (Zs 4) (Za (Zs 5) (Za (Zs 7) Zf)))) (by decide) (by simp) (λ a6 b4=>Zot hN i0 (Y5 _) hk hP (by omega) (λ j E=>b _ (by omega) (by omega)) a6 b4) (by decide) λ o k2 hT=>?_
 obtain⟨s3,vd,rfl,R,d6,d7,d9,i4⟩:=hT
 show WS I 55 lk false _ _ s3 _ _ _
 have c8:∀{z:List Int} {n:Nat},Top z n->psum z n=S.dval z:=λ {z n} h=>by
  rw[Zdb h,<- Zaj (x:=z.take n) (n:=n) (by rw[Yr];omega)];exact Zdc _ λ j E=>(Zan E).symm
 rw[c8 a7] at b2;rw[c8 a0] at d9;have hD:DvS st s3 H m n (m-n+1) [] acc vd:=by
  refine⟨λ a ha=>?_,λ i hi=>absurd hi (Nat.not_lt_zero _),λ i hi=>?_,λ i hi=>?_,λ j E=>?_,?_,?_⟩
  .rw[R.out_ a (by omega),K.out_ a (by omega),hm]
  .rw[R.out_ _ (by omega)]
   exact K.dig i (by omega)
  .exact R.dig i (by omega)
  .rw[R.reg j E,K.reg j E,hs.reg j E]
  .rw[R.inp,K.inp,hs.inp]
  .rw[R.out,K.out,hs.out]
 obtain⟨f7,i7,g9⟩:=Zz9 dy a0 c4 hk hP (by rw[<- hg];exact f0) (by rw[<- hg];exact d8) d6 d7 d9;have c6:S.dval acc<S.dval y*P*65536^(m-n+1):=by
  have h1:(65536:Int)^m=65536^(n-1)*65536^(m-n+1):=by rw[<- Int.pow_add];congr 1;omega
  have h2:=a8.2 f2;have h3:(0:Int)<65536^(m-n+1):=Ya2 (by decide);have h4:=Int.mul_le_mul_of_nonneg_right h2 (Yaz h3);have h5:(S.dval x+1)*P<=S.dval y*65536^(m-n+1)*P:=Int.mul_le_mul_of_nonneg_right (by omega) (by omega);have F:(S.dval x+1)*P=S.dval x*P+P:=by grind
  have D:S.dval y*65536^(m-n+1)*P=S.dval y*P*65536^(m-n+1):=by
   generalize (65536:Int)^(m-n+1)=B
   grind
  omega
 refine Zq ((Zo (op:=1) (by decide) (Zo (op:=2) (by decide) (Zs 3) (Zs 4)) (Zp 1)).to_ (y:=((m-n+1:Nat):Int)) (by
  show alu 1 (alu 2 (m:Int) (n:Int)) _=_
  rw[Zar,Zkc];unfold S.u32m;omega) (Yb _)) (by decide) ?_
 show WS I 55 lk false _ [G,F,D,(m:Int),(n:Int),(k:Int),H+m+4,H+m+4+m+1,((m-n+1:Nat):Int),g,w] s3 _ _ _
 have j6:(m-n+1)*(850+250*n)<=(XL+1)*W:=Nat.mul_le_mul (by omega) (by omega);refine Z3k hN (V:=S.dval y*P) (X:=S.dval x*P) (W:=850+250*n) a9 hD d2 d7 d0 d6 c4 c1 (by omega) (by omega) f7.symm g9 b2.symm c6 (λ a h1 h2=>b a h1 (by omega)) rfl λ g4 o4 s4 qs U l j4 d5 b7 a4 f1 i3=>?_
 have P0:0<P:=by omega
 have j3:=Zg a4;obtain⟨q,hq⟩:=Yx (S.dval qs);rw[<- hq] at f1;have c9:S.dval U=P*(S.dval x-q*S.dval y):=by
  generalize S.dval U=A at *;generalize S.dval x=X at *;generalize S.dval y=Y at *;clear hD l K R
  grind
 obtain⟨rr,g6⟩:=Yx (S.dval x-q*S.dval y);rw[<- g6] at c9;have b3:0<=rr:=by
  refine Y_c λ c=>?_
  have:=Int.mul_le_mul_of_nonneg_left (show rr<=-1 by omega) (Yaz P0);omega
 have c3:rr<S.dval y:=by
  refine Y_c λ c=>?_
  have:=Int.mul_le_mul_of_nonneg_left (show S.dval y<=rr by omega) (Yaz P0);have e:P*S.dval y=S.dval y*P:=Int.mul_comm _ _;omega
 obtain⟨f5,h7⟩:=Zwy hY (show S.dval x=rr+q*S.dval y by omega) b3 c3;have O:s4.reg 26=H:=by rw[l.reg 26 (by decide)];exact a9
 have d4:∀(neg val:Int)(N:Nat)(M:Nat),M<=2*XL+YL+7->(neg=0\/neg=1)->0<=val->S.signed neg val=z->∀o k,NumR I s4 H neg val M N o k->bd I st H z (2*XL+YL+7) N o k:=λ neg val N M hM hn hv g7 o k h=>⟨neg,val,hn,hv,g7,Zwx (λ a ha=>l.out_ a (by omega)) l.reg l.inp l.out hM h⟩
 refine Zr (x:=if D=0 then 1 else 0) (Zgt (Zs 2) (Zp 0)) (by decide) (λ b0=>?_) (λ b5=>?_)
 rotate_left
 .have e20:D=0:=Y_c λ c=>b5 (if_neg c)
  obtain⟨sg,b8⟩:∃n:Int,n=(if nv=nu then 0 else 1):=⟨_,rfl⟩
  have a5:sg=0\/sg=1:=by rw[b8];split <;> omega
  refine Zww hN (N:=NN) (M:=m-n+3) (acc:=qs) (val:=q) (neg:=sg) (st:=s4) a5 ⟨λ a _=>rfl,λ j E=>by have:=l.q j E;rw[show H+2+((0:Nat):Int)+j=H+2+j by omega] at this;exact this,λ _ _=>rfl,rfl,rfl⟩ O d5 (by omega) (λ j E=>b _ (by omega) (by omega)) hq.symm (by omega)
   (Za ((Zo (op:=9) (by decide) (Zct (Za (Zs 0) Zf) (by simp) (Za1 hN (Zjm hx l)) (by decide)) (Zct (Za (Zs 1) Zf) (by simp) (Za1 hN (Zjm hy l)) (by decide))).to_ (y:=sg) (by rw[Z35 sx sy,b8]) (Yb _)) (Za ((Zo (op:=1) (by decide) (Zo (op:=2) (by decide) (Zs 3) (Zs 4)) (Zp 1)).to_ (y:=(qs.length:Int)) (by
    show alu 1 (alu 2 (m:Int) (n:Int)) _=_
    rw[Zar,Zkc];unfold S.u32m;omega) (Yb _)) Zf)) (by decide) (by decide) ?_ (d4 _ _ _ _ (by omega) a5 (by rw[hq];exact Zg d5) ?_)
  .omega
  .rw[hz,ax,if_pos e20,<- b8,f5]
 have g3:D=1:=by
  rcases ht with e|e
  .rw[if_pos e] at b0;cases b0
  .exact e
 refine Zq (Zp 0) (by decide) ?_
 show WS I 55 lk false _ [G,F,D,(m:Int),(n:Int),(k:Int),H+m+4,H+m+4+m+1,0,g4,o4] s4 _ _ _
 refine Z3l hN O l.r b7 a4 c1 (by omega) hk hP (by omega) (λ a h1 h2=>b a h1 (by omega)) λ g5 s5 f c7 j2 h8 f8=>?_
 have f6:S.dval f=rr:=by
  have j7:0<=U.getD 0 0%P:=Int.emod_nonneg _ (by omega);have j8:U.getD 0 0%P<P:=Int.emod_lt_of_pos _ P0;rw[c9] at f8;refine Y_c λ c=>?_
  rcases Int.lt_or_gt_of_ne c with h|h
  .have h1:=Int.mul_le_mul_of_nonneg_left (show S.dval f+1<=rr by omega) (Yaz P0)
   have e:P*(S.dval f+1)=P*S.dval f+P:=by grind
   omega
  .have h1:=Int.mul_le_mul_of_nonneg_left (show rr+1<=S.dval f by omega) (Yaz P0)
   have e:P*(rr+1)=P*rr+P:=by grind
   omega
 have f9:S.NumAt I s5.mem G nv x:=(Zjm hx l).same λ p e j E=>c7.out_ _ (by have:=hx.2 p e;omega)
 refine Zww hN (N:=NN) (M:=n+2) (acc:=f) (val:=rr) (neg:=nv) (st:=s4) sx c7 O h8 (by omega) (λ j E=>b _ (by omega) (by omega)) f6 (by omega)
  (Za (Zct (Za (Zs 0) Zf) (by simp) (Za1 hN f9) (by decide)) (Za ((Zs 4).to_ (y:=(f.length:Int)) (by show(n:Int)=_;omega) (Yb _)) Zf)) (by decide) (by decide) ?_ (d4 _ _ _ _ (by omega) sx b3 ?_)
 .omega
 .rw[hz,ax,if_neg (by omega),h7]
end
end
def S.ae (I:S.Img)(name:ByteArray)(behind:Bool)(st:S.Vw)(d ret:Int)(R:S.BO->Nat->Prop):Prop :=
 ∀V top,Mt I V st->V.reg 28=top->V.reg 31=ret->0<=ret->ret<I.size->I.lo<=top->top+d<=I.hi->∃o k,R o k/\Done I V (I.lab name) k top ret behind o
theorem Z3m {I:S.Img}(p:I.Ok)(r:BR)(hc:chkB r=0){i:Nat}(t:S.Seg I r.name i (S.bItems r)){dep:Int}(D:0<=dep)(st:S.Vw)(ret:Int)(R:S.BO->Nat->Prop)
 (hw:∀(env:List Int),(env.length:Int)=r.locals->(∀k:Nat,(k:Int)<r.params->env.getD k 0=st.reg (4+k)) ->
  wpSs I dep ret r.behind r.body env st (r.params.toNat+2) (λ _ w A=>R (.ret w) (A+(if r.behind=true then 5 else 3))) R) :
 ae I r.name r.behind st (r.locals+15+dep) ret R:=by
 obtain⟨hn,p0,p4,pL,F,s⟩:=Zc5 hc;intro V top l v Y r0 r1 a2 a5;have K:Cx I r.locals dep ret top:=⟨p,a2,by omega,D,by omega,F,r0,r1⟩
 have q1:=p.lo0;have q2:=p.hisz;have q3:=p.size2;have M:frameB r=r.locals+15:=by unfold frameB;rw[if_neg (by simp[hc])]
 obtain⟨c,J⟩:=Yx r.params.toNat;unfold S.bItems bHead at t;rw[M,<- J] at t;have f:S.Seg I r.name i ([S.bL r.name,bI 25 0 28 31 0]:List S.Item):=t.left.left.left.left;have P:S.Seg I r.name (i+2) (bParams c):=t.left.left.left.right;have x:S.Seg I r.name (i+2+c) [bI 15 28 28 0 (r.locals+15)]:=by
  have h:=t.left.left.right;rw[Yd,Zbn] at h;have e:i+(([S.bL r.name,bI 25 0 28 31 0]:List S.Item).length+c)=i+2+c:=by simp;omega
  rw[e] at h;exact h
 have a3:S.Seg I r.name (i+2+c+1) (bStmts (r.locals+15) r.locals r.behind r.body 0).1:=by
  have h:=t.left.right;rw[Yd,Yd,Zbn] at h;have e:i+(([S.bL r.name,bI 25 0 28 31 0]:List S.Item).length+c+([bI 15 28 28 0 (r.locals+15)]:List S.Item).length)=i+2+c+1:=by simp;omega
  rw[e] at h;exact h
 have L:S.Seg I r.name (i+2+c+1+(bStmts (r.locals+15) r.locals r.behind r.body 0).1.length) (bBack (r.locals+15) r.behind):=by
  have h:=t.right;rw[Yd,Yd,Yd,Zbn] at h;have e:i+(([S.bL r.name,bI 25 0 28 31 0]:List S.Item).length+c+([bI 15 28 28 0 (r.locals+15)]:List S.Item).length+(bStmts (r.locals+15) r.locals r.behind r.body 0).1.length)=i+2+c+1+(bStmts (r.locals+15) r.locals r.behind r.body 0).1.length:=by simp;omega
  rw[e] at h;exact h
 have H:I.lab r.name=I.adr i:=by
  have:=Zkt K f;rw[Zey _ hn] at this;exact this
 have g0:=Zet p f.lo f.lt (V:=V) f.head;have et:top=S.u32m (V.reg 28+0):=by rw[v];unfold S.u32m;omega
 have W:¬I.code top:=by
  rintro⟨c0,c1⟩;rcases p.apart with h|h <;> omega
 have g1:=Zun p f.tail.lo f.tail.lt (V:=V) (a:=28) (b:=31) (n:=0) f.tail.head (by decide) (by decide) et (by omega) W;rw[Y] at g1;obtain⟨g,g2,B,X,G,Z,O⟩:=Zi8 K (V:=V.sto top ret) v c (by omega) P;have g3:=Zee p x.lo x.lt (V:=g) (d:=28) (a:=28) (n:=r.locals+15) x.head (by decide) (by decide) (by decide);have e3:S.u32m (g.reg 28+(r.locals+15))=top+r.locals+15:=by
  have:g.reg 28=top:=by rw[B];exact v
  rw[this];unfold S.u32m;omega
 rw[e3] at g3;have gg:S.Go I V (I.lab r.name) (c+2) (g.set 28 (top+r.locals+15)) (I.adr (i+2+c+1)):=by
  rw[H];exact(((g0.trans g1).trans g2).trans g3).more (by omega)
 have m:∀a:Int,a<top\/top+1+c<=a->(g.set 28 (top+r.locals+15)).mem a=V.mem a:=λ a U=>by
  show g.mem a=_
  rw[G a (by omega),Zaa _ _ (by omega)]
 obtain⟨env,q⟩:∃env:List Int,env=(Ycb r.locals.toNat).map λ k:Nat=>(g.set 28 (top+r.locals+15)).mem (top+1+(k:Int)):=⟨_,rfl⟩
 have N:env.length=r.locals.toNat:=by rw[q];simp
 have E:∀k:Nat,k<env.length->env.getD k 0=(g.set 28 (top+r.locals+15)).mem (top+1+(k:Int)):=λ k y=>by
  rw[q,Zcx _ _ _ (by rw[<- N];exact y)]
 have hF:Fm I (g.set 28 (top+r.locals+15)) st top ret env []:=by
  refine⟨⟨λ j hj=>?_,λ a a0 a1 U=>?_,?_,?_⟩,?_,?_,λ k y=>(E k y).symm,λ k y=>by simp at y⟩
  .have:=Zkw hj
   rw[Zh _ _ (by omega),B];exact l.vis j hj
  .by_cases hin:top<=a/\a<top+1+c
   .exact absurd ⟨by omega,by omega⟩ U
   .rw[m a (by omega)];exact l.mem a a0 a1 U
  .show g.inp=_;rw[Z];exact l.inp
  .show g.out=_;rw[O];exact l.out
  .rw[Zj];omega
  .show g.mem top=ret
   rw[G top (by omega),Zeh]
 have u:∀k:Nat,(k:Int)<r.params->env.getD k 0=st.reg (4+k):=λ k y=>by
  rw[E k (by omega)]
  show g.mem (top+1+(k:Int))=_
  rw[X k (by omega)];exact l.vis _ (by unfold visB;rw[decide_eq_true_eq];omega)
 have hL:(env.length:Int)=r.locals:=by omega
 have z:Kp I top V (g.set 28 (top+r.locals+15)):=λ a a0 a1=>m a (by omega)
 have hb:=hw env hL u;rw[<- J] at hb;have h:=Zev K (obj:=r.name) (behind:=r.behind) r.body 0 0 env _ st _ (c+2) _ _ hL s hb a3 hF;rcases h with⟨a4,w,A,V',h1,h2,h3,h4,h5,h6⟩|⟨o,A,h1,h2,h3⟩
 .have hbk:=Zpz K (obj:=r.name) (behind:=r.behind) (r:=[]) h3 (by rw[List.append_nil];exact L) h5
  have hd:=Zbk h4 h6 hbk (Yb _);refine⟨.ret w,A+(if r.behind=true then 5 else 3),h2,Zbk gg z hd ?_⟩;omega
 .exact⟨o,A,h2,Zbk gg z h3 (by omega)⟩
theorem Zb0 {I:S.Img}(c:I.Ok)(r:BR)(hc:chkB r=0){i:Nat}(d:S.Seg I r.name i (S.bItems r)){dep:Int}(a:0<=dep)(st:S.Vw)(ret:Int)(R:S.BO->Nat->Prop)
 (f:∀(env:List Int),(env.length:Int)=r.locals->(∀k:Nat,(k:Int)<r.params->env.getD k 0=st.reg (4+k))->WS I dep ret r.behind r.body env st 8 (λ _ b e=>R (.ret b) (e+(if r.behind=true then 5 else 3))) R) :
 ae I r.name r.behind st (r.locals+15+dep) ret R:=by
 have p4:=(Zc5 hc).2.2.1;exact Z3m c r hc d a st ret R λ env g hp=>f env g hp st _ (.refl st) (by omega)
section
namespace S
structure CSegs (I:Img):Prop where
 move:∃i,Seg I kMove i (bItems rMove)
 scan:∃i,Seg I kScan i (bItems rScan)
 frame:∃i,Seg I kFrame i (bItems rFrame)
 collect:∃i,Seg I kCollect i (bItems rCollect)
 reserve:∃i,Seg I kReserve i (bItems rReserve)
def NumO (I:Img)(cf:Cf)(T:Ob->Prop)(mem:Int->Int)(v neg:Int)(ds:List Int):Prop:=NumAt I mem v neg ds/\∀p,v=4*p+1->∃o∈cf.O,T o/\o.at_=p
structure Rdy (I:Img)(cf:Cf)(T:Ob->Prop)(H spare lk:Int)(st:Vw):Prop where
 r26:st.reg 26=H
 r27:st.reg 27=cf.fr+cf.hf
 H0:cf.fr<=H
 H1:H<=cf.fr+cf.hf
 m2:st.mem 2=cf.fr
 m3:st.mem 3=cf.to_
 m4:st.mem 4=cf.hf
 m5:st.mem 5%4≠1/\0<=st.mem 5/\st.mem 5<4294967296
 m7:st.mem 7=spare
 sp:0<=spare/\spare<1000000
 obj:∀o∈cf.O,∀(k:Nat)(w:Int),o.ws[k]?=some w->st.mem (o.at_+(k:Int))=w
 below:∀o∈cf.O,o.at_+o.ws.length<=H
 plain:∀o∈cf.O,T o->∀w∈o.ws,w%4≠1
 code:I.lab kCode=1312
 lk0:st.mem lk=0
 lk1:1312<=lk/\lk<I.size/\¬I.stk lk/\¬(cf.fr<=lk/\lk<cf.fr+cf.hf)/\¬(cf.to_<=lk/\lk<cf.to_+cf.hf)
end S
theorem Ze3 (st:S.Vw)(p x a:Int):(st.sto p x).mem a=if a=p then x else st.mem a:=rfl
theorem Zw0 {I:S.Img}{cf:S.Cf}(hc:S.Cf.Ok I cf){T:S.Ob->Prop}{mem:Int->Int}{v neg:Int}{b:List Int}(h:S.NumAt I mem v neg b)(a:∀o∈cf.O,∀(k:Nat)(w:Int),o.ws[k]?=some w->mem (o.at_+(k:Int))=w){o:S.Ob}(c:o∈cf.O)(hv:v=4*o.at_+1):o.ws.length=b.length+2:=by
 obtain⟨⟨hw,f,r,e,h3,d⟩,f0,f1⟩:=hc.obs o c;rcases h.cases with⟨q,_⟩|⟨p,e2,_,g,_⟩
 .omega
 .have ep:p=o.at_:=by omega
  have:=a o c 0 f (by rw[e];rfl);rw[show o.at_+((0:Nat):Int)=p by omega,g] at this;rw[e,List.length_cons];omega
theorem Zou {I:S.Img}{cf:S.Cf}(hc:S.Cf.Ok I cf){T:S.Ob->Prop}{H spare lk:Int}{st:S.Vw}(b:S.Rdy I cf T H spare lk st){v neg:Int}{a:List Int}(h:S.NumO I cf T st.mem v neg a):NumIn I st.mem H v neg a:=by
 refine⟨h.1,λ p e=>?_⟩;obtain⟨o,c,hT,d⟩:=h.2 p e;have:=Zw0 (T:=T) hc h.1 b.obj c (by rw[d];exact e);have:=b.below o c;omega
theorem Zov {I:S.Img}{cf:S.Cf}(hc:S.Cf.Ok I cf){T:S.Ob->Prop}{X:Int->Prop}{st c:S.Vw}{ρ:List S.Ob}(f:∀o∈cf.O,∀(k:Nat)(w:Int),o.ws[k]?=some w->st.mem (o.at_+(k:Int))=w)(r:∀o∈cf.O,T o->∀w∈o.ws,w%4≠1)(b:Cd cf T X st ρ c){a v neg:Int}{q:List Int}(G:X a)(B:st.mem a=v)(h:S.NumO I cf T st.mem v neg q):NumIn I c.mem (cf.to_+tot ρ) (c.mem a) neg q:=by
 obtain⟨l,m⟩:=b.root a G;rw[B] at l m;rw[l];rcases h.1.cases with⟨D,H,K⟩|⟨p,e,hd,E,m1,m2⟩
 .have e:mv cf.to_ ρ v=v:=by unfold mv;rw[if_neg (by omega)]
  rw[e];exact⟨⟨h.1.vb,h.1.sg,h.1.dig,h.1.few,.inl ⟨D,H,K⟩⟩,λ p e=>by omega⟩
 .obtain⟨o,ho,hT,e2⟩:=h.2 p e
  have x:v=4*o.at_+1:=by omega
  have d:=m o ho x;obtain⟨ν,n⟩:=Zfm (t:=cf.to_) d;have y:=Zw0 (T:=T) hc h.1 f ho x;obtain⟨_,n1,n2⟩:=Zl2 hc b.sub ho n;have J:mv cf.to_ ρ v=4*ν+1:=by
   unfold mv;rw[if_pos (by omega),show v/4=o.at_ by omega,n]
  rw[J];have A:=hc.toz;have s:=Zb6 ρ cf.O b.nd b.sub;have hs:=hc.sum;have u:=hc.to0;have g:∀j:Nat,j<q.length+2->c.mem (ν+j)=st.mem (p+j):=λ j F=>by
   have z:o.ws[j]?=some (o.ws[j]'(by omega)):=List.getElem?_eq_getElem _;have h1:=(b.new o d ν n j _ z).1;have h2:=f o ho j _ z;have h3:=r o ho hT _ (List.getElem_mem (by omega:j<o.ws.length));rw[h1,show p+(j:Int)=o.at_+j by omega,h2];unfold mv;rw[if_neg h3]
  refine⟨⟨by omega,h.1.sg,h.1.dig,h.1.few,.inr ⟨ν,rfl,λ j F=>hc.tod _ (by omega) (by omega),?_,?_,λ i hi=>?_⟩⟩,λ p' e'=>by omega⟩
  .have:=g 0 (by omega)
   simp only[Int.natCast_zero,Ybc] at this;rw[this];exact E
  .have:=g 1 (by omega)
   rw[show p+((1:Nat):Int)=p+1 by omega,show ν+((1:Nat):Int)=ν+1 by omega] at this;rw[this];exact m1
  .have:=g (i+2) (by omega)
   rw[show p+((i+2:Nat):Int)=p+2+i by omega,show ν+((i+2:Nat):Int)=ν+2+i by omega] at this;rw[this];exact m2 i hi
section
variable {I:S.Img}(hN:NSegs I)(hG:S.CSegs I){cf:S.Cf}(hc:S.Cf.Ok I cf){T:S.Ob->Prop}
include hN hG hc
theorem Z3n {dep lk:Int}{s:S.Vw}{C:Nat}{Q:List Int->S.Vw->Nat->Prop}{R:S.BO->Nat->Prop}{behind:Bool}{H spare p q e2 nv nu tT:Int}{x y:List Int}{rest:List BS}{KR:Nat}(a9:88<=dep)(b:S.Rdy I cf T H spare lk s)(hx:S.NumO I cf T s.mem p nv x)(hy:S.NumO I cf T s.mem q nu y)(d0:x.length+y.length<=1000)
 (hT:∀ρ:List S.Ob,ρ.Nodup->(∀o∈ρ,o∈cf.O/\T o)->tot ρ<=tT) (d3:1600+170*tT<=KR)
 (b0:∀(s':S.Vw)(B D z L:Int),s'.reg 26=z->NumIn I s'.mem z B nv x->NumIn I s'.mem z D nu y->(∀a,z<=a->a<z+3*(x.length+y.length)+20->S.Dat I a)->1312<=z->s'.mem 6=0->s'.mem 8=0->s'.inp=s.inp->s'.out=s.out ->
  WS I dep lk behind rest [B,D,L] s' (C+KR) Q R)
 (a2:∀s' c,cf.hf<tT+(3*(x.length+y.length)+20)+spare->c<=C+KR->R (.halt 255 s') c) :
 WS I dep lk behind (bNRoom++rest) [p,q,e2] s C Q R:=by
 obtain⟨iM,hM⟩:=hG.move;obtain⟨iS,hS⟩:=hG.scan;obtain⟨iF,hF⟩:=hG.frame;obtain⟨iC,hC⟩:=hG.collect;obtain⟨iR,hR⟩:=hG.reserve;have d9:0<=tT:=hT [] Yc4 (λ o f=>by cases f);have d6:=hN.ok.size2;have a4:=hc.fr0;have b3:=hc.to0;have d1:=hc.frz;have d2:=hc.toz;have d8:=hc.hf0;have xb:=hx.1.vb;have yb:=hy.1.vb;obtain⟨lk1,c3,c9,c5,c8⟩:=b.lk1;have low:∀n:Int,0<=n->n<1056->S.u32m (n%4294967296+0)=n/\S.Dat I n:=λ n h0 h1=>⟨by unfold S.u32m;omega,hc.low n h0 h1⟩
 have keep:∀(s:S.Vw)(n:Int)(e:BE)(v:Int)(env:List Int)(K C:Nat)(r:List BS),0<=n->n<1056->Yl I dep lk env s e v K->dE e<=19->WS I dep lk behind r env (s.sto n v) (C+2+K+1) Q R->WS I dep lk behind (sKeep n e::r) env s C Q R:=λ s n e v env K C r h0 h1 he hd h=>Zb3 (Zp n) he (by rw[eC,dE,dEs];omega) hd (low n h0 h1).1 (low n h0 h1).2.2 h
 show WS I dep lk behind (sKeep 16 (eL 0)::sKeep 17 (eL 1)::sKeep 8 (eC 2)::sKeep 6 eK::sAs 2 (eAdd (eF kNLen [eL 0]) (eF kNLen [eL 1]))::sDo (eF S.kReserve [eAdd (eAdd (eL 2) (eShl (eL 2) 1)) (eC 20)])::sAs 0 (eW 16)::sAs 1 (eW 17)::sKeep 8 (eC 0)::sKeep 6 (eC 0)::rest) [p,q,e2] s C Q R
 refine keep s 16 _ p _ 1 _ _ (by decide) (by decide) (Zs 0) (by decide) ?_;refine keep _ 17 _ q _ 1 _ _ (by decide) (by decide) (Zs 1) (by decide) ?_;refine keep _ 8 _ 2 _ 2 _ _ (by decide) (by decide) (Zp 2) (by decide) ?_;refine keep _ 6 _ lk _ 1 _ _ (by decide) (by decide) Z8v (by decide) ?_;obtain⟨A,F⟩:=Yx ((((s.sto 16 p).sto 17 q).sto 8 2).sto 6 lk);rw[<- F];have m4:∀a,A.mem a=if a=6 then lk else if a=8 then 2 else if a=17 then q else if a=16 then p else s.mem a:=λ a=>by
  rw[F,Ze3,Ze3,Ze3,Ze3]
 have Z:∀a,1312<=a->A.mem a=s.mem a:=λ a ha=>by
  rw[m4,if_neg (by omega),if_neg (by omega),if_neg (by omega),if_neg (by omega)]
 have r4:A.reg=s.reg:=by rw[F];rfl
 have i4:A.inp=s.inp:=by rw[F];rfl
 have o4:A.out=s.out:=by rw[F];rfl
 have W:∀{v neg:Int} {M:List Int},S.NumO I cf T s.mem v neg M->S.NumO I cf T A.mem v neg M:=λ {v neg M} h=>⟨h.1.same λ p e j J=>by
  obtain⟨o,f,_,e2⟩:=h.2 p e;have:=(hc.obs o f).2.1;exact Z _ (by omega),h.2⟩
 have Y:=W hx;have a1:=W hy;have V:∀o∈cf.O,∀(k:Nat)(w:Int),o.ws[k]?=some w->A.mem (o.at_+(k:Int))=w:=λ o f k w hw=>by
  rw[Z _ (by have:=(hc.obs o f).2.1;omega)];exact b.obj o f k w hw
 have b2:∀{v neg:Int} {M:List Int},S.NumO I cf T s.mem v neg M->WOk cf T v:=λ {v neg M} h=>⟨h.1.vb.1,h.1.vb.2,λ h1=>by
  obtain⟨o,f,hT,e2⟩:=h.2 (v/4) (by omega);exact .inl ⟨o,f,hT,by omega⟩⟩
 have b6:A.mem lk=0:=by rw[Z _ lk1];exact b.lk0
 have X:A.mem 6=lk:=by rw[m4,if_pos rfl]
 have a6:∀m:S.Vw,Sim A m->dm I cf T 2 0 m.mem:=λ m hA=>by
  rw[hA.mem];refine⟨by rw[m4,if_neg (by decide),if_neg (by decide),if_neg (by decide),if_neg (by decide)];exact b.m2,by rw[m4,if_neg (by decide),if_neg (by decide),if_neg (by decide),if_neg (by decide)];exact b.m3,by rw[m4,if_neg (by decide),if_neg (by decide),if_neg (by decide),if_neg (by decide)];exact b.m4,V,by rw[m4,if_neg (by decide),if_pos rfl];rfl,by decide,by rw[b.code];decide,by rw[b.code];exact a4,by rw[b.code];exact b3,λ x h1 h2=>by rw[b.code] at h2;omega,.inr ⟨by rw[X];omega,?_,?_⟩,?_,λ o f b5 w hw=>?_⟩
  .rw[X]
   refine⟨by omega,by decide,b6,λ j J=>?_,.inr (by omega),λ j J=>absurd J (Nat.not_lt_zero _),λ j i J=>absurd J (Nat.not_lt_zero _)⟩;have:(j:Int)=0:=by omega
   rw[this,Ybc];exact⟨c3,c9,⟨c5,c8,by omega,by omega⟩⟩
  .intro j J
   rw[X];omega
  .rintro x ((q|q) | q)
   .rcases q with rfl|⟨q1,q2⟩
    .rw[m4,if_neg (by decide),if_neg (by decide),if_neg (by decide),if_neg (by decide)]
     exact⟨b.m5.2.1,b.m5.2.2,λ h=>absurd h b.m5.1⟩
    .have:x=16\/x=17:=by omega
     rcases this with rfl|rfl
     .rw[m4,if_neg (by decide),if_neg (by decide),if_neg (by decide),if_pos rfl]
      exact b2 hx
     .rw[m4,if_neg (by decide),if_neg (by decide),if_pos rfl]
      exact b2 hy
   .obtain⟨j,J,_⟩:=q
    exact absurd J (Nat.not_lt_zero _)
   .rw[b.code] at q
    omega
  .obtain⟨⟨hwd,_⟩,_⟩:=hc.obs o f
   exact⟨(hwd w hw).1,(hwd w hw).2,λ h=>absurd h (b.plain o f b5 w hw)⟩
 obtain⟨L,hL⟩:∃L:Int,L=x.length+y.length:=⟨_,rfl⟩
 have L0:0<=L/\L<=1000:=by omega
 refine Zq ((Zo (op:=1) (by decide) (Zct (Za (Zs 0) Zf) (by simp) (Za9 hN Y.1) (by omega)) (Zct (Za (Zs 1) Zf) (by simp) (Za9 hN a1.1) (by omega))).to_ (y:=L) (by rw[Zar];unfold S.u32m;omega) (Yb _)) (by decide) ?_
 show WS I dep lk behind _ [p,q,L] A _ _ _
 obtain⟨need,c4⟩:∃n:Int,n=3*L+20:=⟨_,rfl⟩
 refine Z3d (d:=88) (xs:=[need]) (T:=λ o k=>∃m,Sim A m/\dj I cf T 2 0 (need+spare) m o k) (Za ((Zo (op:=1) (by decide) (Zo (op:=1) (by decide) (Zs 2) (Zo (op:=10) (by decide) (Zs 2) (Zp 1))) (Zp 20)).to_ (y:=need) (by
  show alu 1 (alu 1 L (alu 10 L (1%4294967296))) (20%4294967296)=need
  rw[Z8o,Zar,Zar];unfold S.u32m;omega) (Yb _)) Zf) (by decide) (by simp) (λ b1 b8=>?_) a9 λ o k b9=>?_
 .have hA:Sim A (b1.args [need]):=b8.args (by simp)
  have:=Zn3 hN.ok hc hM hS hF hC hR (st:=b1.args [need]) (cnt:=2) (n:=0) (a6 _ hA) (need:=need) (spare:=spare) (by rfl) (by rw[hA.mem,m4,if_neg (by decide),if_neg (by decide),if_neg (by decide),if_neg (by decide)];exact b.m7) ⟨by omega,b.sp.1,by have:=b.sp.2;omega⟩ (by
   rw[hA.reg 26 (by decide),hA.reg 27 (by decide),r4,b.r26,b.r27];have:=b.H0;have:=b.H1;omega)
  exact this.mono λ _ o k h=>⟨_,hA,h⟩
 obtain⟨m,hA,b4⟩:=b9;have G:=hA.mem;have fin:∀(u:S.Vw)(B D z:Int)(C5:Nat),u.mem 16=B->u.mem 17=D->u.reg 26=z->NumIn I u.mem z B nv x->NumIn I u.mem z D nu y->(∀a,z<=a->a<z+need->S.Dat I a)->1312<=z->(∀v l,(v=B\/v=D)->v=4*l+1->1312<=l)->u.inp=s.inp->u.out=s.out->C5<=C+KR-40 ->
  WS I dep lk behind (sAs 0 (eW 16)::sAs 1 (eW 17)::sKeep 8 (eC 0)::sKeep 6 (eC 0)::rest) [p,q,L] u C5 Q R:=λ u B D z C5 c1 b7 c6 n1 n2 hd c0 U hi f d5=>by
  have yW:∀(env:List Int)(n v:Int),0<=n->n<1056->u.mem n=v->Yl I dep lk env u (eW n) v 3:=λ env n v h0 h1 hv=>(Zmn (n:=0) (p:=n) (Zp n) (low n h0 h1).1 (Za7 (low n h0 h1).2)).to_ hv (Yb _)
  refine Zq (yW _ 16 B (by decide) (by decide) c1) (by decide) ?_
  show WS I dep lk behind _ [B,q,L] u _ _ _
  refine Zq (yW _ 17 D (by decide) (by decide) b7) (by decide) ?_
  show WS I dep lk behind _ [B,D,L] u _ _ _
  refine keep _ 8 _ 0 _ 2 _ _ (by decide) (by decide) (Zp 0) (by decide) ?_;refine keep _ 6 _ 0 _ 2 _ _ (by decide) (by decide) (Zp 0) (by decide) ?_;have m6:∀a,((u.sto 8 0).sto 6 0).mem a=if a=6 then 0 else if a=8 then 0 else u.mem a:=λ a=>by rw[Ze3,Ze3]
  refine(b0 ((u.sto 8 0).sto 6 0) B D z L c6 ⟨n1.1.same λ l e j J=>?_,n1.2⟩ ⟨n2.1.same λ l e j J=>?_,n2.2⟩ (λ a h0 h1=>hd a h0 (by omega)) c0 ?_ ?_ hi f).more (by omega)
  .have:=U B l (.inl rfl) e
   rw[m6,if_neg (by omega),if_neg (by omega)]
  .have:=U D l (.inr rfl) e
   rw[m6,if_neg (by omega),if_neg (by omega)]
  .rw[m6,if_pos rfl]
  .rw[m6,if_neg (by decide),if_pos rfl]
 rcases b4 with⟨w1,rfl,hk⟩|⟨w1,N,ρ,g,a0,hk⟩
 .-- there is Zty
  show WS I dep lk behind _ _ m _ _ _
  rw[hA.reg 26 (by decide),hA.reg 27 (by decide),r4,b.r26,b.r27] at w1;have n1:=Zou hc b hx;have n2:=Zou hc b hy;have c2:=b.sp.1;have d7:=b.H0;have c7:∀v l,(v=p\/v=q)->v=4*l+1->1312<=l:=λ v l h e=>by
   rcases h with rfl|rfl
   .obtain⟨o,f,_,e2⟩:=hx.2 l e
    have:=(hc.obs o f).2.1;omega
   .obtain⟨o,f,_,e2⟩:=hy.2 l e
    have:=(hc.obs o f).2.1;omega
  refine fin m p q H _ (by rw[G,m4,if_neg (by decide),if_neg (by decide),if_neg (by decide),if_pos rfl]) (by rw[G,m4,if_neg (by decide),if_neg (by decide),if_pos rfl]) (by rw[hA.reg 26 (by decide),r4];exact b.r26) ⟨by rw[G];exact Y.1,n1.2⟩ ⟨by rw[G];exact a1.1,n2.2⟩ (λ a h0 h1=>hc.frd a (by omega) (by omega)) (by omega) c7 (hA.inp.trans i4) (hA.out.trans o4) (by omega)
 .have htt:=hT ρ g.nd λ o f=>⟨g.sub o f,g.tin o f⟩
  have t0:=Zw ρ;have d4:k+500<=KR:=by
   rw[b.code] at hk;omega
  rcases a0 with⟨w2,rfl⟩|⟨w2,rfl⟩
  .show WS I dep lk behind _ _ N _ _ _
   have xO:S.NumO I cf T m.mem p nv x:=by rw[G];exact Y
   have yO:S.NumO I cf T m.mem q nu y:=by rw[G];exact a1
   have P:∀o∈cf.O,∀(k:Nat)(w:Int),o.ws[k]?=some w->m.mem (o.at_+(k:Int))=w:=by rw[G];exact V
   have a8:RX I m.mem 2 0 16:=.inl (.inl (.inr ⟨by decide,by decide⟩));have a7:RX I m.mem 2 0 17:=.inl (.inl (.inr ⟨by decide,by decide⟩));have n1:=Zov hc P b.plain g a8 (by rw[G,m4,if_neg (by decide),if_neg (by decide),if_neg (by decide),if_pos rfl]) xO;have n2:=Zov hc P b.plain g a7 (by rw[G,m4,if_neg (by decide),if_neg (by decide),if_pos rfl]) yO;have c2:=b.sp.1;have E:∀a l v neg M,RX I m.mem 2 0 a->m.mem a=v->S.NumO I cf T m.mem v neg M->N.mem a=4*l+1->1312<=l:=λ a l v neg M hX ha h e=>by
    obtain⟨a3,a5⟩:=g.root a hX;rw[ha] at a3 a5;rw[a3] at e;by_cases c:v%4=1
    .obtain⟨o,f,b5,e2⟩:=h.2 (v/4) (by omega)
     have hv:v=4*o.at_+1:=by omega
     obtain⟨ν,hν⟩:=Zfm (t:=cf.to_) (a5 o f hv);obtain⟨_,n1,_⟩:=Zl2 hc g.sub f hν;unfold mv at e;rw[if_pos c,show v/4=o.at_ by omega,hν] at e;have e':4*ν+1=4*l+1:=e;omega
    .unfold mv at e
     rw[if_neg c] at e;omega
   refine fin N _ _ (cf.to_+tot ρ) _ rfl rfl g.r26 n1 n2 (λ a h0 h1=>hc.tod a (by omega) (by omega)) (by omega) (λ v l h e=>?_) (g.inp.trans (hA.inp.trans i4)) (g.out.trans (hA.out.trans o4)) (by omega);rcases h with rfl|rfl
   .exact E 16 l p nv x a8 (by rw[G,m4,if_neg (by decide),if_neg (by decide),if_neg (by decide),if_pos rfl]) xO e
   .exact E 17 l q nu y a7 (by rw[G,m4,if_neg (by decide),if_neg (by decide),if_pos rfl]) yO e
  .intro c hc2
   exact a2 N c (by omega) (by omega)
end
end
section
namespace S
def MkR (I:Img)(st:Vw)(z:Int):Prop :=
 (-536870912<=z/\z<536870912/\st.reg 4=u32m (4*z)) \/
 ((z < -536870912\/536870912<=z)/\∃(H neg:Int)(ds:List Int),(neg=0\/neg=1)/\Digs ds/\0<ds.length/\ds.getD (ds.length-1) 0≠0/\signed neg (dval ds)=z/\st.reg 4=4*H+1/\st.reg 26=H+ds.length+2 /\
  st.mem H=32*(ds.length+1)+31/\st.mem (H+1)=4*neg/\(∀i:Nat,i<ds.length->st.mem (H+2+i)=4*ds.getD i 0)/\(∀j:Nat,j<ds.length+2->Dat I (H+j))/\1312<=H/\ds.length<=1000)
def PrmR (I:Img)(st:Vw)(z:Int)(short:Prop)(N:Nat)(o:BO)(k:Nat):Prop :=
 k<=N/\((∃st',o=.ret st'/\MkR I st' z/\st'.mem 6=0/\st'.mem 8=0/\st'.inp=st.inp/\st'.out=st.out)\/∃st',o=.halt 255 st'/\short)
end S
theorem Z0a {I:S.Img}{s:S.Vw}{H z:Int}{M N k:Nat}{o:S.BO}(h:bd I s H z M N o k)(J:1312<=H):∃b,o=.ret b/\S.MkR I (b.set 4 (b.reg 4)) z/\(∀a,a<1312->b.mem a=s.mem a)/\b.inp=s.inp/\b.out=s.out/\k<=N:=by
 obtain⟨neg,val,e,hv,p,B,v,⟨G,l,y,q,m⟩,f,hm,hr,hi,A,b,rfl,x,hc⟩:=h;have w:(b.set 4 (b.reg 4)).reg 4=b.reg 4:=Zj _ _ _;rcases hc with⟨E,L,r⟩|⟨E,n,g,r,u⟩
 .refine⟨b,rfl,.inl ⟨?_,?_,?_⟩,λ a D=>?_,r.inp.trans hi,r.out.trans A,x⟩
  .rw[<- p,<- f] at *
   have:=Zg l;unfold S.signed;rcases e with rfl|rfl
   .rw[if_pos rfl];omega
   .rw[if_neg (by decide)];omega
  .rw[<- p,<- f] at *
   have:=Zg l;unfold S.signed;rcases e with rfl|rfl
   .rw[if_pos rfl];omega
   .rw[if_neg (by decide)];omega
  .rw[w,L,f,p]
  .rw[r.mem];exact hm a (by omega)
 .have hdt:=Zam l n
  have t:(v.take n).length=n:=by rw[Yr];have:=g.1;omega
  have K:0<n:=by
   refine Y_c λ c=>?_
   have F:n=0:=by omega
   have:=Zdb g;rw[F] at this;have e1:S.dval (v.take 0)=0:=rfl;omega
  have m2:∀a,b.mem a=if a=H+1 then 4*neg else if a=H then 32*(n+1)+31 else B.mem a:=λ a=>by
   rw[u.mem];rfl
  refine⟨b,rfl,.inr ⟨?_,H,neg,v.take n,e,hdt,by omega,?_,?_,w.trans r,?_,?_,?_,λ i hi=>?_,λ j hj=>q j (by have:=g.1;omega),J,by have:=g.1;omega⟩,λ a D=>?_,u.inp.trans hi,u.out.trans A,x⟩
  .rw[<- p,<- f]
   unfold S.signed;rcases e with rfl|rfl
   .rw[if_pos rfl];omega
   .rw[if_neg (by decide)];omega
  .rw[t,Zan (by omega)]
   exact g.2.2.resolve_left (by omega)
  .rw[<- Zdb g,f];exact p
  .rw[t]
   exact(Zh b (d:=4) (j:=26) _ (by decide)).trans ((u.reg 26 (by decide)).trans (Zj _ _ _))
  .rw[t]
   show b.mem H=_
   rw[m2,if_neg (by omega),if_pos rfl]
  .show b.mem (H+1)=_
   rw[m2,if_pos rfl]
  .rw[t] at hi
   rw[Zan hi]
   show b.mem (H+2+i)=_
   rw[m2,if_neg (by omega),if_neg (by omega)];exact m i (by have:=g.1;omega)
  .rw[m2,if_neg (by omega),if_neg (by omega)]
   exact hm a (by omega)
section
variable {I:S.Img}(hN:NSegs I)
include hN
theorem Ze4 {dep lk:Int}{s:S.Vw}{C:Nat}{Q:List Int->S.Vw->Nat->Prop}{R:S.BO->Nat->Prop}{behind:Bool}{p q b c d:Int}{x y:List Int}{l:List BS}(a:16<=dep)(f:S.NumAt I s.mem p c x)(e:S.NumAt I s.mem q d y)(h:WS I dep lk behind l [p,q,b] s (C+300) Q R):WS I dep lk behind (bTypes++l) [p,q,b] s C Q R:=by
 show WS I dep lk behind (sWhen (eNot (eF kNInt [eL 0])) [sHlt (eC 2)]::sWhen (eNot (eF kNInt [eL 1])) [sHlt (eC 2)]::l) [p,q,b] s C Q R
 refine Zr (Zgt (Zct (Za (Zs 0) Zf) (by simp) (Zjk hN f) a) (Zp 0)) (by decide) (λ _=>?_) (λ h=>absurd rfl h);refine Zr (Zgt (Zct (Za (Zs 1) Zf) (by simp) (Zjk hN e) a) (Zp 0)) (by decide) (λ _=>?_) (λ h=>absurd rfl h);exact h.more (by omega)
theorem Zw1 {dep lk:Int}{s:S.Vw}{C:Nat}{Q:List Int->S.Vw->Nat->Prop}{R:S.BO->Nat->Prop}{behind:Bool}{p q d:Int}{l:List BS}(a:16<=dep)(hp:(0<=p/\p<4294967296)/\p%4=2)(h:∀s' c,c<=C+300->R (.halt 2 s') c):WS I dep lk behind (bTypes++l) [p,q,d] s C Q R:=by
 show WS I dep lk behind (sWhen (eNot (eF kNInt [eL 0])) [sHlt (eC 2)]::sWhen (eNot (eF kNInt [eL 1])) [sHlt (eC 2)]::l) [p,q,d] s C Q R
 refine Zr (Zgt (Zct (Za (Zs 0) Zf) (by simp) (Zk8 hN hp.1 hp.2) a) (Zp 0)) (by decide) (λ h=>by cases h) (λ _=>?_);exact Zws (Zp 2) (by decide) λ b c2 h2 e=>h b c2 (by omega)
theorem Zw2 {dep lk:Int}{s:S.Vw}{C:Nat}{Q:List Int->S.Vw->Nat->Prop}{R:S.BO->Nat->Prop}{behind:Bool}{p q d f:Int}{x:List Int}{l:List BS}(a:16<=dep)(i:S.NumAt I s.mem p f x)(e:(0<=q/\q<4294967296)/\q%4=2)(h:∀s' c,c<=C+500->R (.halt 2 s') c):WS I dep lk behind (bTypes++l) [p,q,d] s C Q R:=by
 show WS I dep lk behind (sWhen (eNot (eF kNInt [eL 0])) [sHlt (eC 2)]::sWhen (eNot (eF kNInt [eL 1])) [sHlt (eC 2)]::l) [p,q,d] s C Q R
 refine Zr (Zgt (Zct (Za (Zs 0) Zf) (by simp) (Zjk hN i) a) (Zp 0)) (by decide) (λ _=>?_) (λ h=>absurd rfl h);refine Zr (Zgt (Zct (Za (Zs 1) Zf) (by simp) (Zk8 hN e.1 e.2) a) (Zp 0)) (by decide) (λ h=>by cases h) (λ _=>?_);exact Zws (Zp 2) (by decide) λ b c2 h2 g=>h b c2 (by omega)
end
def S.ac (neg:Int)(ds:List Int):Int:=S.signed neg (S.dval ds)
section
variable {I:S.Img}(hN:NSegs I)(hG:S.CSegs I){cf:S.Cf}(hc:S.Cf.Ok I cf){T:S.Ob->Prop}
include hN hG hc
theorem Zqs {lk:Int}{s:S.Vw}{C:Nat}{Q:List Int->S.Vw->Nat->Prop}{H spare p q P E G tT z:Int}{x y:List Int}{name:ByteArray}{l:List BE}{d:Int}{M N:Nat}(X:S.Rdy I cf T H spare lk s)(hx:S.NumO I cf T s.mem p E x)(hy:S.NumO I cf T s.mem q G y)(J:x.length<=40/\y.length<=40)(R:d<=88)
 (F:∀ρ:List S.Ob,ρ.Nodup->(∀o∈ρ,o∈cf.O/\T o)->tot ρ<=tT) (Y:tT<=1000) (hC:C<=2000) (V:N<=1700000)
 (hl:∀s' j i L,∃xs K,Yls I 88 lk [j,i,L] s' l xs K/\xs.length<=4/\K<=20/\(∀b,s'.reg 26=b->NumIn I s'.mem b j E x->NumIn I s'.mem b i G y->(∀a,b<=a->a<b+3*(x.length+y.length)+20->S.Dat I a)->∀f,Sim s' f->Real I name false (f.args xs) d (λ _ o k=>bd I s' b z M N o k)))
 (D:dEs l<=20) :
 WS I 88 lk true (bNRoom++[S.sVal (eF name l)]) [p,q,P] s C Q (S.PrmR I s z (cf.hf<tT+(3*(x.length+y.length)+20)+spare) 2000000):=by
 have Z:0<=tT:=F [] Yc4 (λ o B=>by cases B);refine Z3n hN hG hc (by decide) X hx hy (by omega) F (KR:=171600) (by omega) (λ s' j i b L v n1 n2 h n m6 m8 hi B=>?_) (λ s' c w t=>⟨by omega,.inr ⟨s',rfl,w⟩⟩);obtain⟨xs,K,u,g,hK,e⟩:=hl s' j i L;refine Zmo (T:=λ o k=>bd I s' b z M N o k) u D g (e b v n1 n2 h) R λ o k U=>?_
 obtain⟨W,rfl,m,hm,r,A,hk⟩:=Z0a U n;intro c t;exact⟨by omega,.inl ⟨_,rfl,m,(hm 6 (by decide)).trans m6,(hm 8 (by decide)).trans m8,r.trans hi,A.trans B⟩⟩
theorem Zgf {st:S.Vw}{ret k:Int}{i:Nat}(l:k=0\/k=1)(A:S.Seg I (rPAdd k).name i (S.bItems (rPAdd k))){H spare p q b a tT:Int}{x y:List Int}(w:st.reg 4=p)(E:st.reg 5=q)(F:S.Rdy I cf T H spare ret st)(s:S.NumO I cf T st.mem p b x)(r:S.NumO I cf T st.mem q a y)(c:x.length<=40/\y.length<=40)
 (t:∀ρ:List S.Ob,ρ.Nodup->(∀o∈ρ,o∈cf.O/\T o)->tot ρ<=tT) (n:tT<=1000) :
 ae I (rPAdd k).name true st 106 ret (S.PrmR I st (if k=0 then ac b x+ac a y else ac b x-ac a y) (cf.hf<tT+(3*(x.length+y.length)+20)+spare) 2000000):=by
 have D:∀(z:Int),z=S.signed b (S.dval x)+S.signed (if k=0 then a else 1-a) (S.dval y)->z=(if k=0 then ac b x+ac a y else ac b x-ac a y):=λ z e=>by
  rw[e];unfold ac;rcases l with rfl|rfl
  .rw[if_pos rfl,if_pos rfl]
  .rw[if_neg (by decide),if_neg (by decide)]
   unfold S.signed;rcases r.1.sg with rfl|rfl
   .simp;omega
   .simp
 rw[<- D _ rfl];refine Zb0 hN.ok (rPAdd k) (by rcases l with rfl|rfl <;> kernel_rfl) A (dep:=88) (by decide) st ret (S.PrmR I st _ (cf.hf<tT+(3*(x.length+y.length)+20)+spare) 2000000) λ env J hp=>?_
 obtain⟨v,B,e2,rfl⟩:=Zmp J;have h0:v=p:=(hp 0 (show(0:Int)<2 by decide)).trans w;have h1:B=q:=(hp 1 (show(1:Int)<2 by decide)).trans E;subst h0 h1;refine Ze4 hN (by decide) s.1 r.1 ?_;refine Zqs hN hG hc F s r c (d:=75) (M:=max x.length y.length+3) (N:=3000+2800*max x.length y.length) (by decide) t n (by decide) (by omega) (λ s' G u L=>⟨[G,u,k],4,Za (Zs 0) (Za (Zs 1) (Za ((Zp k).to_ (y:=k) (by omega) (Yb _)) Zf)),by simp,by decide,λ H' m n1 n2 f g h=>?_⟩) (show(3:Nat)<=20 by decide);exact Zxi hN n1 n2 l m (λ j hj=>f _ (by omega) (by omega)) (by omega) g h
theorem Zw3 {st:S.Vw}{ret:Int}{i:Nat}(z:S.Seg I rPMul.name i (S.bItems rPMul)){H spare p q c e tT:Int}{x y:List Int}(w:st.reg 4=p)(D:st.reg 5=q)(E:S.Rdy I cf T H spare ret st)(r:S.NumO I cf T st.mem p c x)(n:S.NumO I cf T st.mem q e y)(a:x.length<=40/\y.length<=40)
 (t:∀ρ:List S.Ob,ρ.Nodup->(∀o∈ρ,o∈cf.O/\T o)->tot ρ<=tT) (m:tT<=1000) :
 ae I rPMul.name true st 106 ret (S.PrmR I st (ac c x*ac e y) (cf.hf<tT+(3*(x.length+y.length)+20)+spare) 2000000):=by
 have B:ac c x*ac e y=S.signed (if c=e then 0 else 1) (S.dval x*S.dval y):=by
  unfold ac S.signed;rcases r.1.sg with rfl|rfl <;> rcases n.1.sg with rfl|rfl <;> simp[Int.neg_mul,Int.mul_neg]
 rw[B];refine Zb0 hN.ok rPMul (by kernel_rfl) z (dep:=88) (by decide) st ret (S.PrmR I st _ (cf.hf<tT+(3*(x.length+y.length)+20)+spare) 2000000) λ env G hp=>?_
 obtain⟨v,A,e2,rfl⟩:=Zmp G;have h0:v=p:=(hp 0 (show(0:Int)<2 by decide)).trans w;have h1:A=q:=(hp 1 (show(1:Int)<2 by decide)).trans D;subst h0 h1;refine Ze4 hN (by decide) r.1 n.1 ?_;have s:x.length*(800*y.length+900)<=40*(800*40+900):=Nat.mul_le_mul a.1 (by omega);refine Zqs hN hG hc E r n a (d:=56) (M:=x.length+y.length+3) (N:=2000+200*(x.length+y.length)+x.length*(800*y.length+900)) (by decide) t m (by decide) (by omega) (λ s' F u L=>⟨[F,u],2,Za (Zs 0) (Za (Zs 1) Zf),by simp,by decide,λ H' l n1 n2 b f g=>?_⟩) (by decide);refine(Zxk hN n1 n2 l (λ j hj=>b _ (by omega) (by omega)) (by omega) rfl f g).mono λ _ o k h=>⟨_,_,?_,?_,rfl,h⟩
 .split <;> omega
 .exact Int.mul_nonneg (Zg n1.1.dig) (Zg n2.1.dig)
theorem Zow {st:S.Vw}{ret k:Int}{i:Nat}(m:k=0\/k=1)(F:S.Seg I (rPQuo k).name i (S.bItems (rPQuo k))){H spare p q l n tT:Int}{x y:List Int}(E:st.reg 4=p)(G:st.reg 5=q)(J:S.Rdy I cf T H spare ret st)(v:S.NumO I cf T st.mem p l x)(u:S.NumO I cf T st.mem q n y)(b:x.length<=40/\y.length<=40)(B:q≠0)(D:0<S.dval y)
 (w:∀ρ:List S.Ob,ρ.Nodup->(∀o∈ρ,o∈cf.O/\T o)->tot ρ<=tT) (j:tT<=1000) :
 ae I (rPQuo k).name true st 106 ret (S.PrmR I st (ax k l n (S.dval x) (S.dval y)) (cf.hf<tT+(3*(x.length+y.length)+20)+spare) 2000000):=by
 refine Zb0 hN.ok (rPQuo k) (by rcases m with rfl|rfl <;> kernel_rfl) F (dep:=88) (by decide) st ret (S.PrmR I st _ (cf.hf<tT+(3*(x.length+y.length)+20)+spare) 2000000) λ env P hp=>?_
 obtain⟨r,s,z,rfl⟩:=Zmp P;have h0:r=p:=(hp 0 (show(0:Int)<2 by decide)).trans E;have h1:s=q:=(hp 1 (show(1:Int)<2 by decide)).trans G;subst h0 h1;refine Ze4 hN (by decide) v.1 u.1 ?_
 show WS I 88 ret true (sWhen (eNot (eL 1)) [sHlt (eC 4)]::(bNRoom++[S.sVal (eF kNDiv [eL 0,eL 1,eC k])])) [r,s,z] st _ _ _
 refine Zr (x:=0) ((Zgt (Zs 1) (Zp 0)).to_ (if_neg B) (Yb _)) (by decide) (λ _=>?_) (λ h=>absurd rfl h);have t:(x.length+1)*(850+250*y.length)<=41*(850+250*40):=Nat.mul_le_mul (by omega) (by omega);refine Zqs hN hG hc J v u b (d:=81) (M:=2*x.length+y.length+7) (N:=5000+3000*(x.length+y.length)+(x.length+1)*(850+250*y.length)) (by decide) w j (by decide) (by omega) (λ s' K A L=>⟨[K,A,k],4,Za (Zs 0) (Za (Zs 1) (Za ((Zp k).to_ (y:=k) (by omega) (Yb _)) Zf)),by simp,by decide,λ H' g n1 n2 c e f=>?_⟩) (show(3:Nat)<=20 by decide);exact Zwz hN n1 n2 m g D (λ a h0 h1=>c a h0 (by omega)) (by omega) (by omega) rfl e f
end
end
section
def S.bq (st:S.Vw)(p:Prop)[Decidable p](o:S.BO)(k:Nat):Prop:=k<=2000000/\∃st',o=.ret st'/\st'.reg 4=if p then 22 else 6
def S.b7 (c:Int)(o:S.BO)(k:Nat):Prop:=k<=2000000/\∃st',o=.halt c st'
section
variable {I:S.Img}{dep lk:Int}{env:List Int}{st:S.Vw}{C:Nat}{Q:List Int->S.Vw->Nat->Prop}
theorem Zic {d:S.Vw}{e:BE}{r:List BS}{v:Int}{K:Nat}{p:Prop}[Decidable p](f:Yl I dep lk env st e v K)(c:dE e<=20)(hp:v≠0↔p)(hC:C+K+20<=2000000):WS I dep lk true (sTruth e::r) env st C Q (bq d p):=by
 refine Zz5 f c (λ h0=>?_) (λ h1=>?_)
 .refine Zfh (Zp 6) (by decide) λ b c2 h2 a=>⟨by omega,_,rfl,?_⟩
  rw[if_neg (λ q=>absurd h0 (hp.2 q))];exact Zj _ _ _
 .refine Zfh (Zp 22) (by decide) λ b c2 h2 a=>⟨by omega,_,rfl,?_⟩
  rw[if_pos (hp.1 h1)];exact Zj _ _ _
end
section
variable {I:S.Img}(hN:NSegs I)
include hN
theorem Z0b {st:S.Vw}{ret:Int}{i:Nat}(r:S.Seg I rPEq.name i (S.bItems rPEq)){p q b c:Int}{x y:List Int}(o:st.reg 4=p)(u:st.reg 5=q)(f:S.NumAt I st.mem p b x)(e:S.NumAt I st.mem q c y)(n:x.length<=40/\y.length<=40)(s:S.dval x=0->b=0)(v:S.dval y=0->c=0) :
 ae I rPEq.name true st 106 ret (bq st (ac b x=ac c y)):=by
 refine Zb0 hN.ok rPEq (by kernel_rfl) r (dep:=88) (by decide) st ret (bq st (ac b x=ac c y)) λ env z hp=>?_
 obtain⟨g,j,m,rfl⟩:=Zmp z;have h0:g=p:=(hp 0 (show(0:Int)<2 by decide)).trans o;have h1:j=q:=(hp 1 (show(1:Int)<2 by decide)).trans u;subst h0 h1;refine Ze4 hN (by decide) f e ?_;have k:=Zgt (I:=I) (dep:=88) (lk:=ret) (env:=[g,j,m]) (st:=st) (Zct (Za (Zs 0) Zf) (by simp) (Za1 hN f) (by decide)) (Zct (Za (Zs 1) Zf) (by simp) (Za1 hN e) (by decide));have l:=Zct (I:=I) (dep:=88) (lk:=ret) (env:=[g,j,m]) (st:=st) (Za (Zs 0) (Za (Zs 1) Zf)) (by simp) (Zgd hN f e) (by decide);refine Zic (Zo (op:=7) (by decide) k (Zgt l (Zp 1))) (by decide) ?_ (by omega);have t:=f.sg;have w:=e.sg;have dx:=Zg (show S.Digs x from f.dig);have dy:=Zg (show S.Digs y from e.dig);have a:cmpV x y=1%4294967296↔S.dval x=S.dval y:=by
  unfold cmpV
  constructor
  .intro h
   split at h
   .cases h
   .split at h
    .cases h
    .omega
  .intro h
   rw[if_neg (by omega),if_neg (by omega)];rfl
 have d:alu 7 (if b=c then 1 else 0) (if cmpV x y=1%4294967296 then 1 else 0)≠0↔(b=c/\S.dval x=S.dval y):=by
  by_cases c1:b=c
  .by_cases c2:S.dval x=S.dval y
   .rw[if_pos c1,if_pos (a.2 c2)]
    exact⟨λ _=>⟨c1,c2⟩,λ _=>by decide⟩
   .rw[if_pos c1,if_neg (λ h=>c2 (a.1 h))]
    exact⟨λ h=>absurd (by decide) h,λ h=>absurd h.2 c2⟩
  .by_cases c2:S.dval x=S.dval y
   .rw[if_neg c1,if_pos (a.2 c2)]
    exact⟨λ h=>absurd (by decide) h,λ h=>absurd h.1 c1⟩
   .rw[if_neg c1,if_neg (λ h=>c2 (a.1 h))]
    exact⟨λ h=>absurd (by decide) h,λ h=>absurd h.1 c1⟩
 rw[d];unfold ac S.signed;rcases t with rfl|rfl <;> rcases w with rfl|rfl <;> simp <;> omega
theorem Ztl {st:S.Vw}{ret:Int}{i:Nat}(B:S.Seg I rPLess.name i (S.bItems rPLess)){p q a b:Int}{x y:List Int}(A:st.reg 4=p)(D:st.reg 5=q)(j:S.NumAt I st.mem p a x)(g:S.NumAt I st.mem q b y)(z:x.length<=40/\y.length<=40)(n:S.dval x=0->a=0)(E:S.dval y=0->b=0) :
 ae I rPLess.name true st 106 ret (bq st (ac a x<ac b y)):=by
 refine Zb0 hN.ok rPLess (by kernel_rfl) B (dep:=88) (by decide) st ret (bq st (ac a x<ac b y)) λ env G hp=>?_
 obtain⟨d,e,k,rfl⟩:=Zmp G;have h0:d=p:=(hp 0 (show(0:Int)<2 by decide)).trans A;have h1:e=q:=(hp 1 (show(1:Int)<2 by decide)).trans D;subst h0 h1;refine Ze4 hN (by decide) j g ?_;have m:=Zct (I:=I) (dep:=88) (lk:=ret) (env:=[d,e,k]) (st:=st) (Za (Zs 0) Zf) (by simp) (Za1 hN j) (by decide);have o:=Zgt m (Zct (I:=I) (dep:=88) (lk:=ret) (env:=[d,e,k]) (st:=st) (Za (Zs 1) Zf) (by simp) (Za1 hN g) (by decide));have f:=Zct (I:=I) (dep:=88) (lk:=ret) (env:=[d,e,k]) (st:=st) (Za (Zs 0) (Za (Zs 1) Zf)) (by simp) (Zgd hN j g) (by decide);have w:=j.sg;have F:=g.sg;have dx:=Zg (show S.Digs x from j.dig);have dy:=Zg (show S.Digs y from g.dig)
 show WS I 88 ret true [sWhen (eNot eSigns) [sTruth (eF kNNeg [eL 0])],sWhen (eF kNNeg [eL 0]) [sTruth (eQ (eF kNCmp [eL 0,eL 1]) (eC 2))],sTruth (eNot (eF kNCmp [eL 0,eL 1]))] [d,e,k] st _ _ _
 refine Zr (Zgt o (Zp 0)) (by decide) (λ v=>?_) (λ s=>?_)
 .have he:a=b:=by
   refine Y_c λ c=>?_
   rw[if_neg c] at v
   cases v
  refine Zr m (by decide) (λ u=>?_) (λ l=>?_)
  .refine Zic (Zgt f (Zp 0)) (by decide) ?_ (by omega)
   have t:a=0:=u;rw[<- he,t];unfold ac S.signed cmpV;simp only[if_true]
   constructor
   .intro h
    refine Y_c λ c=>h ?_
    rw[if_neg c]
    split <;> rfl
   .intro h
    rw[if_pos h]
    decide
  .refine Zic (Zgt f (Zp 2)) (by decide) ?_ (by omega)
   have r:a=1:=w.resolve_left l;have h2:(if cmpV x y=2%4294967296 then(1:Int) else 0)≠0↔S.dval y<S.dval x:=by
    constructor
    .intro h
     have h3:cmpV x y=2%4294967296:=Y_c λ c=>h (if_neg c)
     unfold cmpV at h3
     split at h3
     .cases h3
     .split at h3
      .assumption
      .cases h3
    .intro h
     have h3:cmpV x y=2%4294967296:=by
      unfold cmpV;rw[if_neg (by omega),if_pos h];rfl
     rw[if_pos h3]
     decide
   rw[h2,<- he,r]
   show _↔-S.dval x < -S.dval y
   omega
 .have he:a≠b:=λ c=>s (by rw[if_pos c];rfl)
  refine Zic m (by decide) ?_ (by omega);unfold ac S.signed;rcases w with rfl|rfl <;> rcases F with rfl|rfl
  .exact absurd rfl he
  .simp;omega
  .have:S.dval x≠0:=λ c=>absurd (n c) (by decide)
   simp;omega
  .exact absurd rfl he
theorem Zlb {r:BR}(f:chkB r=0)(k:r.behind=true)(a:r.locals=3)(b:r.params=2){l:List BS}(d:r.body=bTypes++l){st:S.Vw}{ret:Int}{i:Nat}(s:S.Seg I r.name i (S.bItems r)){p q:Int}(o:st.reg 4=p)(u:st.reg 5=q)
 (h:((0<=p/\p<4294967296)/\p%4=2)\/((∃g x,S.NumAt I st.mem p g x)/\(0<=q/\q<4294967296)/\q%4=2)):ae I r.name true st 106 ret (b7 2):=by
 have e:=Zb0 hN.ok r f s (dep:=88) (by decide) st ret (b7 2) λ env j hp=>?_
 .rw[k,a] at e
  exact e
 rw[a] at j;obtain⟨m,t,e2,rfl⟩:=Zmp j;have h0:m=p:=(hp 0 (by rw[b];decide)).trans o;have h1:t=q:=(hp 1 (by rw[b];decide)).trans u;subst h0 h1;rw[d];rcases h with h|⟨⟨g,x,v⟩,n⟩
 .exact Zw1 hN (by decide) h λ s' c hc=>⟨by omega,s',rfl⟩
 .exact Zw2 hN (by decide) v n λ s' c hc=>⟨by omega,s',rfl⟩
theorem Zlc {k:Int}(e:k=0\/k=1){st:S.Vw}{ret:Int}{i:Nat}(l:S.Seg I (rPQuo k).name i (S.bItems (rPQuo k))){p c g:Int}{x y:List Int}(j:st.reg 4=p)(n:st.reg 5=0)(r:S.NumAt I st.mem p c x)(o:S.NumAt I st.mem 0 g y):ae I (rPQuo k).name true st 106 ret (b7 4):=by
 refine Zb0 hN.ok (rPQuo k) (by rcases e with rfl|rfl <;> kernel_rfl) l (dep:=88) (by decide) st ret (b7 4) λ env q hp=>?_
 obtain⟨b,m,d,rfl⟩:=Zmp q;have h0:b=p:=(hp 0 (show(0:Int)<2 by decide)).trans j;have h1:m=0:=(hp 1 (show(1:Int)<2 by decide)).trans n;subst h0 h1;refine Ze4 hN (by decide) r o ?_
 show WS I 88 ret true (sWhen (eNot (eL 1)) [sHlt (eC 4)]::(bNRoom++[S.sVal (eF kNDiv [eL 0,eL 1,eC k])])) [b,0,d] st _ _ _
 refine Zr (x:=1) ((Zgt (Zs 1) (Zp 0)).to_ rfl (Yb _)) (by decide) (λ h=>by cases h) (λ _=>?_);exact Zws (Zp 4) (by decide) λ a c2 h2 f=>⟨by omega,a,rfl⟩
end
end
section
namespace S
def kLow:ByteArray:=⟨#[108,111,119]⟩
def kCall:ByteArray:=⟨#[99,97,108,108]⟩
def lowItems:List Item:=[bJ 0 kStart,bSp 1311,bL kStatic,bL kMore,bL kCode]
def callItems (op:Int):List Item:=[bL kF0,bHalt,bL kCall,bJ 31 (kRt op),bW 0,bL kAfter,bHalt,bL kEnd]
def oLow:Obj:=⟨kLow,lowItems⟩
def oCall (op:Int):Obj:=⟨kCall,callItems op⟩
def nMidO:List Obj:=objs26++objs27
def nMid:List Item:=joined nMidO
def nObjs (op:Int):List Obj:=oLow::(nMidO++[oCall op])
def nTells:List ByteArray:=[kStatic,kMore,kCode]++tells nMid++[kF0,kCall,kAfter,kEnd]
def nB:Bool:=nodupB nTells && subB (names nMid) nTells && nMid.all (λ x=>decide (chkItem x=0)) && nMid.all (λ x=>decide (0<=x.word/\x.word<=4294967295)) && decide (bulk nMid<=20000) &&
 ([8,9,10,11,12,13,14]:List Int).all (λ op=>(tells nMid).any λ t=>decide (t=kRt op))
def isOp (op:Int):Prop:=8<=op/\op<=14
end S
theorem Z7d:S.nB=true:=by kernel_rfl
theorem nB_parts:S.nTells.Nodup/\(∀s∈S.names S.nMid,s∈S.nTells)/\allChk S.nMid/\(∀x∈S.nMid,0<=x.word/\x.word<=4294967295)/\S.bulk S.nMid<=20000/\∀op,S.isOp op->S.kRt op∈S.nTells:=by
 have h:=Z7d;unfold S.nB at h;simp only[Bool.and_eq_true] at h;obtain⟨⟨⟨⟨⟨h1,h2⟩,h3⟩,j⟩,f⟩,i⟩:=h;refine⟨Zl4 h1,Z1b h2,λ x d=>of_decide_eq_true (Ya9.1 h3 x d),λ x d=>of_decide_eq_true (Ya9.1 j x d),of_decide_eq_true f,λ op c=>?_⟩;have hm:op∈([8,9,10,11,12,13,14]:List Int):=by
  obtain⟨a,b⟩:=c;have:op=8\/op=9\/op=10\/op=11\/op=12\/op=13\/op=14:=by omega
  rcases this with rfl|rfl|rfl|rfl|rfl|rfl|rfl <;> simp
 obtain⟨t,g,e⟩:=List.any_eq_true.1 (Ya9.1 i op hm);rw[<- of_decide_eq_true e];exact List.mem_append_left _ (List.mem_append_right _ g)
theorem Z0c (op:Int)(s:ByteArray):owned s (S.kRt op)=S.kRt op:=Zey s (by
 have h1:(S.kRt op).size≠0:=by
  show([114,116]++S.itoa op).toArray.size≠0
  simp
 have h2:dotted (S.kRt op)=false:=by
  show(([114,116]++S.itoa op).toArray.toList.head?==some 46)=false
  simp
 unfold labB;rw[decide_eq_true h1,h2];rfl)
theorem Zcw (op:Int):S.joined (S.nObjs op)=S.lowItems++(S.nMid++S.callItems op):=by
 have e:S.nObjs op=[S.oLow]++(S.nMidO++[S.oCall op]):=rfl;have h1:S.joined [S.oLow]=S.lowItems:=rfl;have h2:S.joined [S.oCall op]=S.callItems op:=by
  have:S.joined [S.oCall op]=(S.callItems op).map (ownItem S.kCall):=by simp[S.joined,itemsOf,S.oCall]
  rw[this]
  show [S.bL S.kF0,S.bHalt,S.bL S.kCall,ownItem S.kCall (S.bJ 31 (S.kRt op)),S.bW 0,S.bL S.kAfter,S.bHalt,S.bL S.kEnd]=_
  have:ownItem S.kCall (S.bJ 31 (S.kRt op))=S.bJ 31 (S.kRt op):=by
   show(⟨4,⟨0,31,0,0,0⟩,owned S.kCall (S.kRt op),0⟩:S.Item)=_
   rw[Z0c];rfl
  rw[this];rfl
 rw[e,Zf5,Zf5,h1,h2];rfl
theorem Z80 {α:Type}(A B C:List α)(k:Nat):(A++(B++C))[A.length+B.length+k]?=C[k]?:=by
 rw[Yo (by omega),Yo (by omega)]
 congr 1
 omega
attribute [local irreducible] S.nMid
theorem Zht (op:Int)(k:Nat):(S.joined (S.nObjs op))[5+S.nMid.length+k]?=(S.callItems op)[k]?:=by
 have h:=Z80 S.lowItems S.nMid (S.callItems op) k;have e:S.lowItems.length=5:=rfl;rw[e] at h;rw[Zcw];exact h
theorem Z0d (op:Int):allChk (S.callItems op):=by
 have a:S.chkItem S.bHalt=0:=Z48 (Zvm (.inr rfl) (by decide));exact Z5 (Zi9 _) (Z5 a (Z5 (Zi9 _) (Z5 (Z1c _ (by decide)) (Z5 (by simp[S.chkItem,S.bW]) (Z5 (Zi9 _) (Z5 a (Zk0 (Zi9 _))))))))
theorem Z3o:allChk S.lowItems:=Z5 (Z1c _ (by decide)) (Z5 (by simp[S.chkItem,S.bSp]) (Z5 (Zi9 _) (Z5 (Zi9 _) (Zk0 (Zi9 _)))))
def S.aa (b:Bool)(op:Int)(F:List Int)(size:Int):S.Img:=⟨S.joined (S.nObjs op),F,size,5,if b=true then(S.joined (S.nObjs op)).length else 5+S.nMid.length,1056,1312⟩
theorem Zox (op:Int):(S.joined (S.nObjs op)).length=5+S.nMid.length+8:=by
 rw[Zcw,Yd,Yd,show S.lowItems.length=5 from rfl,show(S.callItems op).length=8 from rfl];omega
theorem Zw4 (op:Int):∀x∈S.joined (S.nObjs op),0<=x.word/\x.word<=4294967295:=by
 intro x a;rw[Zcw] at a;rcases Y4.1 a with h|h
 .unfold S.lowItems at h
  simp only[Yz,Yaq,or_false] at h;rcases h with rfl|rfl|rfl|rfl|rfl <;> decide
 .rcases Y4.1 h with h|h
  .exact nB_parts.2.2.2.1 x h
  .unfold S.callItems at h
   simp only[Yz,Yaq,or_false] at h;rcases h with rfl|rfl|rfl|rfl|rfl|rfl|rfl|rfl
   all_goals (show(0:Int)<=0/\(0:Int)<=4294967295;decide)
theorem Zrr {xs:List S.Item}{F:List Int}(h:FormsRes xs 0 0 F)(hc:allChk xs)(K:∀x∈xs,0<=x.word/\x.word<=4294967295)(hb:addr xs F 0 xs.length<=1000000){i:Nat}{x:S.Item}(E:xs[i]?=some x)(B:x.kind=4):F.getD i 0=1:=by
 rcases h with⟨h,_⟩|⟨_,h,_⟩|⟨L,_,u,r,_⟩
 .exact absurd rfl h
 .omega
 obtain⟨G,hG⟩:∃G,G=(Ycb xs.length).map λ j:Nat=>(match xs[j]? with|some y=>if y.kind=4 then(1:Int) else F.getD j 0|none=>0):=⟨_,rfl⟩
 have v:G.length=xs.length:=by rw[hG];simp
 have n:∀(j:Nat)(y:S.Item),xs[j]?=some y->G.getD j 0=if y.kind=4 then 1 else F.getD j 0:=λ j y g=>by
  have D:=(Yg.1 g).1;rw[hG,Zcx _ _ _ D,g]
 have b:=r.1;have l:FormOk xs G:=⟨v,λ j y g=>by
  obtain⟨H,q2,N⟩:=b.2 j y g;rw[n j y g];by_cases c:y.kind=4
  .rw[if_pos c]
   exact⟨λ e=>by omega,λ _=>by decide,λ _ e=>absurd c e⟩
  .rw[if_neg c]
   exact⟨H,λ e=>absurd e c,N⟩⟩
 have A:∀j,G.getD j 0<=F.getD j 0:=λ j=>by
  cases g:xs[j]? with
  | none =>
   rw[List.getElem?_eq_none_iff] at g;rw[Ye,List.getElem?_eq_none (by omega),Ye,List.getElem?_eq_none (by rw[b.1];exact g)];exact Y5 _
  | some y =>
   rw[n j y g]
   split
   .rename_i c;exact((b.2 j y g).2.1 c).1
   .exact Y5 _
 have f:∀p d:Nat,addr xs G 0 (p+d)-addr xs G 0 p<=addr xs F 0 (p+d)-addr xs F 0 p:=λ p d=>Zfu l b A p d
 have m:∀p d:Nat,addr xs G 0 p<=addr xs G 0 (p+d):=λ p d=>Zgw l K p d
 have M:addr xs G 0 xs.length<=1000000:=by
  have:=f 0 xs.length;rw[Yac] at this;have J:addr xs G 0 0=0:=rfl;have e2:addr xs F 0 0=0:=rfl;omega
 have a:∀p:Nat,p<=xs.length->0<=addr xs G 0 p/\addr xs G 0 p<=1000000:=λ p hp=>by
  have h1:=m 0 p;have h2:=m p (xs.length-p);rw[Yac] at h1;rw[show p+(xs.length-p)=xs.length by omega] at h2;have J:addr xs G 0 0=0:=rfl;omega
 have k:∀(s:ByteArray),(stands xs s).toNat<=xs.length:=λ s=>by
  rcases Zav xs s with⟨h1,_⟩|⟨j,y,h1,h2,_⟩
  .rw[h1];exact Nat.zero_le _
  .have:=(Yg.1 h2).1
   omega
 have t:Stable xs 0 G:=⟨l,λ j y g=>by
  have D:=(Yg.1 g).1;have w:=k y.label;generalize hse:(stands xs y.label).toNat=q at w;unfold fit;rw[hse];have o:=n j y g;by_cases c4:y.kind=4
  .rw[if_pos c4] at o
   rw[if_neg (by omega),if_neg (by omega)];have r1:=a q w;have r2:=a (j+1) (by omega);exact decide_eq_true ⟨by omega,by omega⟩
  .rw[if_neg c4] at o
   have hf:=r.2 j y g;unfold fit at hf;rw[hse] at hf;rw[o]
   split
   .rfl
   .rename_i n1
    rw[if_neg n1] at hf
    split
    .rename_i n2
     rw[if_pos n2] at hf;have O:=of_decide_eq_true hf;refine decide_eq_true ?_;rcases Nat.le_total q (j+1) with z|z
     .obtain⟨d,hd⟩:=Nat.le.dest z
      have h1:=f q d;have h2:=m q d;rw[hd] at h1 h2;omega
     .obtain⟨d,hd⟩:=Nat.le.dest z
      have h1:=f (j+1) d;have h2:=m (j+1) d;rw[hd] at h1 h2;omega
    .rename_i n2
     have r1:=a q w;have r2:=a (j+1) (by omega);exact decide_eq_true ⟨by omega,by omega⟩⟩
 have h1:=u.2 G t i;rw[n i x E,if_pos B] at h1;have:=((b.2 i x E).2.1 B).1;omega
theorem Z8a {op:Int}(p:S.isOp op){e:Int}{F:List Int}{size:Int}(h:FormsRes (S.joined (S.nObjs op)) 0 e F)(o:e=0->addr (S.joined (S.nObjs op)) F 0 (S.joined (S.nObjs op)).length<size)(g:size<=335544320) :
 e=0/\(∀b,(aa b op F size).Ok)/\addr (S.joined (S.nObjs op)) F 0 (S.joined (S.nObjs op)).length<=30000/\F.getD 0 0=1/\F.getD (5+S.nMid.length+3) 0=1:=by
 obtain⟨D,w,y,p4,p5,A⟩:=nB_parts;have d:=Zcw op;have j:=Zw4 op;have u:S.tells (S.joined (S.nObjs op))=S.nTells:=by
  rw[d,Zhp,Zhp]
  show [S.kStatic,S.kMore,S.kCode]++(S.tells S.nMid++[S.kF0,S.kCall,S.kAfter,S.kEnd])=_
  rw[<- List.append_assoc];rfl
 have k2:∀s∈S.names (S.joined (S.nObjs op)),s∈S.nTells:=λ s r=>by
  rw[d,Zhq,Zhq] at r;rcases Y4.1 r with q|q
  .have q':s∈[S.kStart]:=q
   rw[Y2] at q';rw[q'];exact Z1b (a:=[S.kStart]) (b:=S.nTells) (by kernel_rfl) _ List.mem_cons_self
  .rcases Y4.1 q with q|q
   .exact w s q
   .have q':s∈[S.kRt op]:=q
    rw[Y2] at q';rw[q'];exact A op p
 have m:allChk (S.joined (S.nObjs op)):=by
  rw[d];exact Zf6 Z3o (Zf6 y (Z0d op))
 have k4:S.bulk (S.joined (S.nObjs op))<=30000:=by
  rw[d,Zfn,Zfn];have e1:S.bulk S.lowItems=1327:=by decide
  have e2:S.bulk (S.callItems op)=32:=by
   show(4:Int)+(4+(4+(4+(4+(4+(4+(4+0)))))))=32
   decide
  omega
 obtain⟨B,hF,ha⟩:=Z47 h m (by rw[u];exact D) (by rw[u];exact k2) (by omega);subst B;have f:=o rfl;have hl:=Zox op;have t:=Zrr h m j (by omega) (i:=0) (x:=S.bJ 0 S.kStart) (by rw[d];rfl) rfl;have l:=Zrr h m j (by omega) (i:=5+S.nMid.length+3) (x:=S.bJ 31 (S.kRt op)) (by
  rw[Zht];rfl) rfl
 have a5:addr (S.joined (S.nObjs op)) F 0 5=1312:=by
  have c:∀k:Nat,k<5->(S.joined (S.nObjs op))[k]?=S.lowItems[k]?:=λ k z=>by rw[d,List.getElem?_append_left z]
  have G:sizeAt (S.joined (S.nObjs op)) F 0=1:=by
   unfold sizeAt;rw[c 0 (by decide)]
   show S.size (S.bJ 0 S.kStart) (F.getD 0 0)=1
   rw[t]
   decide
  have H:sizeAt (S.joined (S.nObjs op)) F 1=1311:=by
   unfold sizeAt;rw[c 1 (by decide)]
   show S.size (S.bSp 1311) (F.getD 1 0)=1311
   unfold S.size S.bSp;simp
  have sl:∀k:Nat,2<=k->k<5->sizeAt (S.joined (S.nObjs op)) F k=0:=λ k h2 v=>by
   unfold sizeAt;rw[c k v]
   match k,h2,v with
   | 2,_,_=>rfl
   | 3,_,_=>rfl
   | 4,_,_=>rfl
  show 0+sizeAt _ F 0+sizeAt _ F 1+sizeAt _ F 2+sizeAt _ F 3+sizeAt _ F 4=1312
  rw[G,H,sl 2 (by decide) (by decide),sl 3 (by decide) (by decide),sl 4 (by decide) (by decide)]
  decide
 have E:=Zec hF j (base:=0) (i:=5) (n:=(S.joined (S.nObjs op)).length) (by omega);refine⟨rfl,λ b=>⟨h,j,by show 5<=(if b=true then _ else _);split <;> omega,by show(if b=true then _ else _)<=(S.joined (S.nObjs op)).length;split <;> omega,f,g,by show(0:Int)<=1056;decide,by show(1056:Int)<=1312;decide,by show(1312:Int)<=size;omega,.inl ?_⟩,by omega,t,l⟩
 show(1312:Int)<=addr (S.joined (S.nObjs op)) F 0 5
 omega
end
