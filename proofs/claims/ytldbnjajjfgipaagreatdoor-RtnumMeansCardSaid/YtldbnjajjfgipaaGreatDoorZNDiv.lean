/- Parts. -/
import Derived.Test.YtldbnjajjfgipaaGreatDoorZNMul
set_option linter.all false
open Nat renaming le_refl->Yb,zero_le->Yae,add_mul->Yco
open List renaming length_append->Yd,getD_eq_getElem?_getD->Ye,length_cons->Yj,getElem?_append_left->Yn,getElem?_append_right->Yo,length_take->Yr,length_nil->Yab,nil_append->Yal,take_of_length_le->Yar,take_append_drop->Ya1,getElem?_drop->Ybx,mem_of_mem_take->Ydc
open Int renaming le_refl->Y5,toNat_natCast->Yaj,mul_nonneg->Yas,le_of_lt->Yaz,pow_pos->Ya2,add_zero->Ybc,ediv_nonneg->Yb5
namespace Go.Proofs.YtldbnjajjfgipaaGreatDoor
open S Go.RowKit
section
namespace S
structure RwS (st s:Vw)(A:Int)(acc:List Int):Prop where
 out_:∀a,a<A\/A+acc.length<=a->s.mem a=st.mem a
 dig:∀j:Nat,j<acc.length->s.mem (A+j)=acc.getD j 0
 reg:∀j,¬(4<=j/\j<=7)->s.reg j=st.reg j
 inp:s.inp=st.inp
 out:s.out=st.out
end S
theorem Zwu {a:List Int}{n m:Nat}(h:Top a n)(k:Top a m):n=m:=by
 refine Y_c λ c=>?_
 rcases Nat.lt_or_gt_of_ne c with q|q
 .exact k.2.2.elim (λ e=>by omega) λ e=>e (h.2.1 _ (by omega))
 .exact h.2.2.elim (λ e=>by omega) λ e=>e (k.2.1 _ (by omega))
theorem Zk9 (a:List Int):∃n,Top a n:=by
 have b:∀n:Nat,n<=a.length->(∀j,n<=j->a.getD j 0=0)->∃n,Top a n:=by
  intro n
  induction n with
  | zero=>exact λ h1 h2=>⟨0,h1,h2,.inl rfl⟩
  | succ n ih =>
   intro h1 h2;by_cases c:a.getD n 0=0
   .exact ih (by omega) λ j d=>if e:j=n then by rw[e];exact c else h2 j (by omega)
   .exact⟨n+1,h1,h2,.inr (by rw[Nat.add_sub_cancel];exact c)⟩
 exact b a.length (Yb _) λ j d=>by rw[Ye,List.getElem?_eq_none d];rfl
theorem Z1m {a:List Int}(b:S.Digs a){n:Nat}(h:Top a n):S.dval a<65536^n/\(0<n->65536^(n-1)<=S.dval a):=by
 have e:=Zdb h;have c:S.Digs (a.take n):=λ d q=>b d (Ydc q)
 have k:(a.take n).length=n:=by rw[Yr];have:=h.1;omega
 refine⟨?_,λ hn=>?_⟩
 .have:=Zg9 c
  rw[k] at this;omega
 .have h1:=Zgh (n-1) a
  have h2:1<=S.dval (a.drop (n-1)):=by
   have h3:=Za2 (a.drop (n-1));have f:(a.drop (n-1)).getD 0 0=a.getD (n-1) 0:=by
    rw[Ye,Ybx,Nat.add_zero,<- Ye]
   have h5:=Zy b (n-1);have h6:=h.2.2.resolve_left (by omega);have h7:=Zg (Zb4 (x:=a.drop (n-1)) λ d q=>b d (List.mem_of_mem_drop q));omega
  have h3:0<=psum a (n-1):=by
   have:∀i:Nat,0<=psum a i:=λ i=>by
    induction i with
    | zero=>exact Y5 _
    | succ i ih =>
     have g:=Zy b i;have hp:(0:Int)<65536^i:=Ya2 (by decide);have:=Yas g.1 (Yaz hp);rw[psum];omega
   exact this _
  have hp:(0:Int)<65536^(n-1):=Ya2 (by decide);have f:=Int.mul_le_mul_of_nonneg_left h2 (Yaz hp);rw[Int.mul_one] at f;omega
section
variable {st s:S.Vw}{A:Int}{acc:List Int}
theorem Zqo (h:Sim st s):S.RwS st s A []:=⟨λ a _=>by rw[h.mem],λ j b=>absurd b (Nat.not_lt_zero _),h.reg,h.inp,h.out⟩
theorem Ze1 (h:S.RwS st s A acc)(d:Int):S.RwS st (s.sto (A+acc.length) d) A (acc++[d]):=by
 have hm:∀a,(s.sto (A+acc.length) d).mem a=if a=A+acc.length then d else s.mem a:=λ _=>rfl
 refine⟨λ a e=>?_,λ j b=>?_,h.reg,h.inp,h.out⟩
 .rw[Yd,Yj,Yab] at e
  rw[hm,if_neg (by omega)];exact h.out_ a (by omega)
 .rw[Yd,Yj,Yab] at b
  rw[hm,Ye];by_cases c:j=acc.length
  .subst c
   rw[if_pos rfl,Yo (Yb _),Nat.sub_self];rfl
  .rw[if_neg (by omega),Yn (by omega),<- Ye]
   exact h.dig j (by omega)
theorem Zqp {s':S.Vw}(h:S.RwS st s A acc)(k:Sim s s'):S.RwS st s' A acc:=⟨λ a c=>by rw[k.mem];exact h.out_ a c,λ j b=>by rw[k.mem];exact h.dig j b,λ j b=>(k.reg j b).trans (h.reg j b),k.inp.trans h.inp,k.out.trans h.out⟩
end
section
variable {I:S.Img}(hN:NSegs I)
include hN
theorem Zos {st:S.Vw}{v neg:Int}{g:List Int}{n:Nat}(E:NumAt I st.mem v neg g)(F:Top g n):Tells I kNTop st [v] 52 n (800+500*g.length):=by
 obtain⟨iD,J⟩:=hN.top;refine Zdv hN.ok rNTop (by kernel_rfl) J (dep:=34) (by decide) rfl rfl λ lk env o K hp p Q=>?_
 obtain⟨h,G,x,rfl⟩:=Zmp K;have h0:h=v:=hp 0 (show 0<1 by decide);subst h0;have hm:o.mem=st.mem:=p.mem;have r:NumAt I o.mem h neg g:=by rw[hm];exact E
 have D:=E.few;have l0:∀a b,Yl I 34 lk [h,a,b] o (eL 0) h 1:=λ a b=>Zs 0
 have l1:∀a b,Yl I 34 lk [h,a,b] o (eL 1) a 1:=λ a b=>Zs 1
 have l2:∀a b,Yl I 34 lk [h,a,b] o (eL 2) b 1:=λ a b=>Zs 2
 show WS I 34 lk false [sAs 1 (eF kNLen [eL 0]),sAs 2 (eC 1),
  sWh (eL 2) [sAs 2 (eC 0),sWhen (eL 1) [sWhen (eNot (eF kNDig [eL 0,eSub (eL 1) (eC 1)])) [sAs 1 (eSub (eL 1) (eC 1)),sAs 2 (eC 1)]]],
  S.sVal (eL 1)] [h,G,x] o 8 Q _
 refine Zq (Zct (Za (l0 _ _) Zf) (by simp) (Za9 hN r) (by decide)) (by decide) ?_
 show WS I 34 lk false _ [h,(g.length:Int),x] o _ _ _
 refine Zq (Zp 1) (by decide) ?_
 show WS I 34 lk false _ [h,(g.length:Int),1] o _ _ _
 refine Zfp (by decide) (λ env s C k=>s=o/\∃(i:Nat)(f:Int),env=[h,(i:Int),f]/\i<=g.length/\(∀j,i<=j->g.getD j 0=0)/\((f=0/\k=0/\(i=0\/g.getD (i-1) 0≠0)/\C<=260+480*(g.length-i)+400)\/(f=1/\k=i+1/\C<=260+480*(g.length-i)))) (k0:=g.length+1)
  ⟨rfl,g.length,1,rfl,Yb _,λ j B=>by rw[Ye,List.getElem?_eq_none B];rfl,.inr ⟨rfl,rfl,by omega⟩⟩ ?_
 rintro env s C k ⟨rfl,i,f,rfl,hi,u,l⟩;refine⟨f,1,l2 _ _,λ hf=>?_,λ hf=>?_⟩
 .rcases l with⟨_,_,htop,hC⟩|⟨q,_,_⟩
  .have hTi:Top g i:=⟨hi,u,htop⟩
   have e:=Zwu F hTi;subst e;exact Zb7 (l1 _ _) (by decide) p (by omega)
  .rw[q] at hf;cases hf
 .rcases l with⟨q,_⟩|⟨rfl,rfl,hC⟩
  .exact absurd q hf
  refine Zq (Zp 0) (by decide) ?_
  show WS I 34 lk false _ [h,(i:Int),0] s _ _ _
  refine Zr (l1 _ _) (by decide) (λ w=>Z2 (k2:=0) (by omega) ⟨rfl,i,0,rfl,hi,u,.inl ⟨rfl,rfl,.inl (by omega),by omega⟩⟩) (λ w=>?_);obtain⟨q,rfl⟩:∃q,i=q+1:=⟨i-1,by omega⟩
  have z:=Zct (d:=34) (dep:=34) (lk:=lk) (env:=[h,((q+1:Nat):Int),0]) (Za (l0 _ _) (Za ((Zo (op:=2) (by decide) (l1 _ _) (Zp 1)).to_ (y:=(q:Int)) (by rw[Zkc];unfold u32m;omega) (Yb _)) Zf)) (by simp) (Zba hN r ⟨by omega,by omega⟩) (by decide);rw[Yaj] at z;refine Zr (Zgt z (Zp 0)) (by decide) (λ t=>Zbi 3 ?_) (λ t=>?_)
  .refine Z2 (k2:=0) (by omega) ⟨rfl,q+1,0,rfl,hi,u,.inl ⟨rfl,rfl,.inr λ e=>?_,by omega⟩⟩
   rw[Nat.add_sub_cancel] at e;rw[e] at t
   cases t
  .have hzero:g.getD q 0=0:=Y_c λ e=>t (if_neg e)
   refine Zq ((Zo (op:=2) (by decide) (l1 _ _) (Zp 1)).to_ (y:=(q:Int)) (by rw[Zkc];unfold u32m;omega) (Yb _)) (by decide) ?_
   show WS I 34 lk false _ [h,(q:Int),0] s _ _ _
   refine Zq (Zp 1) (by decide) (Zbi 3 (Zbi 3 ?_))
   show WS I 34 lk false _ [h,(q:Int),1] s _ _ _
   refine Z2 (k2:=q+1) (by omega) ⟨rfl,q,1,rfl,by omega,λ j B=>?_,.inr ⟨rfl,rfl,by omega⟩⟩;by_cases c:j=q
   .rw[c];exact hzero
   .exact u j (by omega)
end
end
section
theorem Zla {k:Nat}(h:k<=15):(1:Int)<=2^k/\(2:Int)^k<=32768:=by
 match k,h with
 | 0,_=>decide
 | 1,_=>decide
 | 2,_=>decide
 | 3,_=>decide
 | 4,_=>decide
 | 5,_=>decide
 | 6,_=>decide
 | 7,_=>decide
 | 8,_=>decide
 | 9,_=>decide
 | 10,_=>decide
 | 11,_=>decide
 | 12,_=>decide
 | 13,_=>decide
 | 14,_=>decide
 | 15,_=>decide
 | n+16,h=>omega
theorem Z78 {k:Nat}(c:k<=15){d P:Int}(a:P=2^k)(b:0<=d/\d<65536):alu 10 d (k:Int)=d*P:=by
 have h:=Zla c;rw[<- a] at h;have e:((k:Int)%32).toNat=k:=by omega
 show u32m (d*2^((k:Int)%32).toNat)=d*P
 rw[e,<- a];have h1:d*P<=65535*32768:=Int.mul_le_mul (by omega) h.2 (by omega) (by decide);have h0:0<=d*P:=Yas b.1 (by omega);unfold u32m;omega
theorem Z8y {k:Nat}(hk:k<=15){x P:Int}(a:P=2^k):alu 11 x (k:Int)=x/P:=by
 have e:((k:Int)%32).toNat=k:=by omega
 show x/2^((k:Int)%32).toNat=x/P
 rw[e,<- a]
theorem Z7a {k:Nat}(f:k<=15){c d P:Int}(b:P=2^k)(a:0<=c/\c<P)(e:0<=d/\d<65536):alu 8 c (d*P)=c+d*P:=by
 have h:=Zla f;rw[<- b] at h;have h1:d*P<=65535*32768:=Int.mul_le_mul (by omega) h.2 (by omega) (by decide);have h0:0<=d*P:=Yas e.1 (by omega)
 show bits .or .u32 c (d*P)=_
 rw[u32_or (by omega) (by omega) (by omega) (by omega),Nat.or_comm,<- u32_or (by omega) (by omega) (by omega) (by omega)];exact(Zu k (d*P) c P b h0 (Int.mul_emod_left d P) (by omega) a.1 a.2 (by omega)).trans (by omega)
theorem Zwv {I:S.Img}{st s:S.Vw}{H A v neg:Int}{a acc:List Int}(h:NumIn I st.mem H v neg a)(hA:H<=A)(b:S.RwS st s A acc):NumAt I s.mem v neg a:=h.1.same λ p e j hj=>b.out_ _ (by have:=h.2 p e;omega)
def S.cr (st:S.Vw)(A:Int)(n:Nat)(val:Int)(N:Nat)(o:S.BO)(k:Nat):Prop:=∃s acc,o=.ret s/\S.RwS st s A acc/\S.Digs acc/\acc.length=n/\S.dval acc=val/\k<=N
section
variable {I:S.Img}(hN:NSegs I)
include hN
theorem Zot {st:S.Vw}{H A v neg P:Int}{x:List Int}{n k:Nat}(hx:NumIn I st.mem H v neg x)(hA:H<=A)(U:k<=15)(V:P=2^k)(hn:n<=900)(h:∀j:Nat,j<n+1->S.Dat I (A+j)) :
 ∀f,Sim st f->Real I kNShl false (f.args [v,n,k,A]) 55 (λ _ o c=>cr st A (n+1) (psum x n*P) (200+500*n) o c):=λ f M=>by
 obtain⟨iF,hF⟩:=hN.shl;have hr:=Zcy hN.ok rNShl (by kernel_rfl) hF (dep:=34) (by decide) (f.args [v,n,k,A]) (cr st A (n+1) (psum x n*P) (200+500*n)) λ lk env hl hp=>?_
 .exact hr
 obtain⟨e,e1,e2,a,e4,Z,rfl⟩:=Z34 hl;have h0:e=v:=hp 0 (show(0:Int)<4 by decide);have h1:e1=(n:Int):=hp 1 (show(1:Int)<4 by decide);have h2:e2=(k:Int):=hp 2 (show(2:Int)<4 by decide);have h3:a=A:=hp 3 (show(3:Int)<4 by decide);subst h0 h1 h2 h3;have Y:Sim st (f.args [e,(n:Int),(k:Int),a]):=M.args (by simp);obtain⟨X,B⟩:∃s,s=f.args [e,(n:Int),(k:Int),a]:=⟨_,rfl⟩
 rw[<- B] at Y⊢;have a3:=hN.ok.size2;have u:=h 0 (by omega);have E:=h n (by omega);rw[show a+((0:Nat):Int)=a by omega] at u;have a5:=u.1;have a0:=E.2.1;have dx:S.Digs x:=hx.1.dig;have N:=Zla U;rw[<- V] at N;have n0:=Zqo (A:=a) Y;have l0:∀s b c,Yl I 34 lk [e,(n:Int),(k:Int),a,b,c] s (eL 0) e 1:=λ s b c=>Zs 0
 have l1:∀s b c,Yl I 34 lk [e,(n:Int),(k:Int),a,b,c] s (eL 1) n 1:=λ s b c=>Zs 1
 have l2:∀s b c,Yl I 34 lk [e,(n:Int),(k:Int),a,b,c] s (eL 2) k 1:=λ s b c=>Zs 2
 have l3:∀s b c,Yl I 34 lk [e,(n:Int),(k:Int),a,b,c] s (eL 3) a 1:=λ s b c=>Zs 3
 have l4:∀s b c,Yl I 34 lk [e,(n:Int),(k:Int),a,b,c] s (eL 4) b 1:=λ s b c=>Zs 4
 have J:∀s b c,Yl I 34 lk [e,(n:Int),(k:Int),a,b,c] s (eL 5) c 1:=λ s b c=>Zs 5
 show WS I 34 lk false [sAs 4 (eC 0),sAs 5 (eC 0),
  sWh (eLt (eL 4) (eL 1))
   [sAs 5 (eB 8 (eL 5) (eB 10 (eF kNDig [eL 0,eL 4]) (eL 2))),
    sPut (eAdd (eL 3) (eL 4)) 0 (eAnd (eL 5) (eC 65535)),sAs 5 (eShr (eL 5) 16),sInc 4],
  sPut (eAdd (eL 3) (eL 1)) 0 (eL 5),S.sVal (eC 0)] [e,(n:Int),(k:Int),a,e4,Z] X 8 _ _
 refine Zq (Zp 0) (by decide) ?_
 show WS I 34 lk false _ [e,(n:Int),(k:Int),a,0,Z] X _ _ _
 refine Zq (Zp 0) (by decide) ?_
 show WS I 34 lk false _ [e,(n:Int),(k:Int),a,0,0] X _ _ _
 refine Zfp (by decide) (λ env s C q=>∃(i:Nat)(c:Int)(acc:List Int),env=[e,(n:Int),(k:Int),a,(i:Int),c]/\q=n-i/\i<=n/\acc.length=i/\S.Digs acc/\S.RwS st s a acc/\(0<=c/\c<P)/\S.dval acc+c*65536^i=psum x i*P/\C<=50+450*i) (k0:=n)
  ⟨0,0,[],rfl,rfl,Yae _,rfl,(λ d K=>by cases K),n0,⟨by decide,by omega⟩,by show(0:Int)+0*1=0*P;simp,by decide⟩ ?_
 rintro env s C q ⟨i,c,acc,rfl,rfl,hi,g,t,W,hc,G,hC⟩;have F:=Zo (op:=14) (by decide) (l4 s (i:Int) c) (l1 s _ _);rw[Zcj] at F;refine⟨_,_,F,λ hz=>?_,λ T=>?_⟩
 .have hiE:i=n:=Y_c λ q=>by rw[if_pos (by omega)] at hz;cases hz
  subst hiE;refine Zb3 (x:=c) (p:=a+i) ((Zo (op:=1) (by decide) (l3 s _ _) (l1 s _ _)).to_ (y:=a+i) (by rw[Zar];unfold u32m;omega) (Yb _)) (J s _ _) (by decide) (by decide) (by unfold u32m;omega) E.2 ?_;have l:=Ze1 W c;rw[g] at l;refine Zfh (Zp 0) (by decide) λ a2 c2 h2 a4=>⟨_,acc++[c],rfl,Zqp l (h2.set4 _),Zbf t ⟨hc.1,by omega⟩,by rw[Yd,g];rfl,by rw[Zbe,g];exact G,by omega⟩
 .have hlt:i<n:=Y_c λ q=>T (if_neg (by omega))
  have r:=h i (by omega);have L:=Zy dx i;have O:=Zct (d:=34) (dep:=34) (lk:=lk) (env:=[e,(n:Int),(k:Int),a,(i:Int),c]) (Za (l0 s _ _) (Za (l4 s _ _) Zf)) (by simp) (Zba hN (Zwv hx hA W) ⟨by omega,by omega⟩) (by decide);rw[Yaj] at O;obtain⟨d,K⟩:=Yx (x.getD i 0);rw[<- K] at O L;have a6:0<=d*P:=Yas L.1 (by omega);have a7:d*P<=65535*P:=Int.mul_le_mul_of_nonneg_right (by omega) (by omega);obtain⟨tot,w⟩:=Yx (c+d*P);have z:0<=tot/\tot<4294967296:=by omega
  refine Zq ((Zo (op:=8) (by decide) (J s _ _) (Zo (op:=10) (by decide) O (l2 s _ _))).to_ (y:=tot) (by rw[Z78 U V L,Z7a U V hc L,w]) (Yb _)) (by decide) ?_
  show WS I 34 lk false _ [e,(n:Int),(k:Int),a,(i:Int),tot] s _ _ _
  refine Zb3 (x:=tot%65536) (p:=a+i) ((Zo (op:=1) (by decide) (l3 s _ _) (l4 s _ _)).to_ (y:=a+i) (by rw[Zar];have:=r.2.1;unfold u32m;omega) (Yb _)) ((Zo (op:=7) (by decide) (J s _ _) (Zp 65535)).to_ (Zoq z.1 z.2) (Yb _)) (by decide) (by decide) (by have:=r.2.1;unfold u32m;omega) r.2 ?_;have l:=Ze1 W (tot%65536);rw[g] at l;refine Zq ((Zo (op:=11) (by decide) (J _ _ _) (Zp 16)).to_ (y:=tot/65536) (by rw[Zkj]) (Yb _)) (by decide) ?_
  show WS I 34 lk false _ [e,(n:Int),(k:Int),a,(i:Int),tot/65536] _ _ _ _
  refine Zq ((Zo (op:=1) (by decide) (l4 _ _ _) (Zp 1)).to_ (y:=((i+1:Nat):Int)) (by rw[Zar];unfold u32m;omega) (Yb _)) (by decide) ?_
  show WS I 34 lk false _ [e,(n:Int),(k:Int),a,((i+1:Nat):Int),tot/65536] _ _ _ _
  refine Z2 (k2:=n-(i+1)) (by omega) ⟨i+1,tot/65536,acc++[tot%65536],rfl,rfl,by omega,by rw[Yd,g];rfl,Zbf t ⟨by omega,by omega⟩,l,⟨by omega,by omega⟩,?_,by omega⟩;rw[Zbe,g,psum,<- K,Int.pow_succ];have a1:tot=tot%65536+65536*(tot/65536):=by omega
  generalize (65536:Int)^i=Bi at *;generalize tot%65536=dd at *;generalize tot/65536=qq at *;generalize S.dval acc=D at *;generalize psum x i=Px at *
  grind
end
end
section
namespace S
def RwAt (I:Img)(mem:Int->Int)(A:Int)(ds:List Int):Prop:=(∀j:Nat,j<ds.length->Dat I (A+j))/\∀j:Nat,j<ds.length->mem (A+j)=ds.getD j 0
def BwR (st:Vw)(A:Int)(n:Nat)(val:Int->Int)(N:Nat)(o:BO)(k:Nat):Prop :=
 ∃s acc b,o=.ret s/\RwS st s A acc/\Digs acc/\acc.length=n/\(b=0\/b=1)/\s.reg 4=b/\dval acc=val b/\k<=N
end S
theorem Z79 {env:List Int}(h:(env.length:Int)=8):∃a b c d e f g i,env=[a,b,c,d,e,f,g,i]:=by
 match env,h with
 | [a,b,c,d,e,f,g,i],_=>exact⟨a,b,c,d,e,f,g,i,rfl⟩
 | [],h=>simp at h
 | [_],h=>simp at h
 | [_,_],h=>simp at h
 | [_,_,_],h=>simp at h
 | [_,_,_,_],h=>simp at h
 | [_,_,_,_,_],h=>simp at h
 | [_,_,_,_,_,_],h=>simp at h
 | [_,_,_,_,_,_,_],h=>simp at h
 | _::_::_::_::_::_::_::_::_::_,h=>simp only[Yj] at h;omega
section
variable {I:S.Img}(hN:NSegs I)
include hN
theorem Ztj {st:S.Vw}{A B g:Int}{u y:List Int}{n:Nat}(hu:S.RwAt I st.mem A u)(hy:S.RwAt I st.mem B y)(du:S.Digs u)(dy:S.Digs y)(b0:u.length=n+1)(a5:y.length=n)(hn:n<=900)(a6:A+n+1<=B)(hg:0<=g/\g<65536) :
 ∀v,Sim st v->Real I kNTake false (v.args [A,B,n,g]) 23 (λ _ o c=>S.BwR st A (n+1) (λ b=>S.dval u-g*S.dval y+b*65536^(n+1)) (100+90*n) o c):=λ v Y=>by
 obtain⟨iF,hF⟩:=hN.take;have hr:=Zcy hN.ok rNTake (by kernel_rfl) hF (dep:=0) (by decide) (v.args [A,B,n,g]) (S.BwR st A (n+1) (λ b=>S.dval u-g*S.dval y+b*65536^(n+1)) (100+90*n)) λ lk env hl hp=>?_
 .exact hr
 obtain⟨e,h,e2,f,e4,e5,e6,O,rfl⟩:=Z79 hl;have h0:e=A:=hp 0 (show(0:Int)<4 by decide);have h1:h=B:=hp 1 (show(1:Int)<4 by decide);have h2:e2=(n:Int):=hp 2 (show(2:Int)<4 by decide);have h3:f=g:=hp 3 (show(3:Int)<4 by decide);subst h0 h1 h2 h3;have hs:Sim st (v.args [e,h,(n:Int),f]):=Y.args (by simp);obtain⟨X,T⟩:∃s,s=v.args [e,h,(n:Int),f]:=⟨_,rfl⟩
 rw[<- T] at hs⊢;have a8:=hN.ok.size2;have n0:=Zqo (A:=e) hs;have ub:∀i:Nat,i<n+1->0<=e+i/\e+i<4294967296:=λ i hi=>by
  have:=hu.1 i (by omega);have h1:=this.1;have h2:=this.2.1;omega
 have vb:∀i:Nat,i<n->0<=h+i/\h+i<4294967296:=λ i hi=>by
  have:=hy.1 i (by omega);have h1:=this.1;have h2:=this.2.1;omega
 have l0:∀s a b c d,Yl I 0 lk [e,h,(n:Int),f,a,b,c,d] s (eL 0) e 1:=λ s a b c d=>Zs 0
 have l1:∀s a b c d,Yl I 0 lk [e,h,(n:Int),f,a,b,c,d] s (eL 1) h 1:=λ s a b c d=>Zs 1
 have l2:∀s a b c d,Yl I 0 lk [e,h,(n:Int),f,a,b,c,d] s (eL 2) n 1:=λ s a b c d=>Zs 2
 have l3:∀s a b c d,Yl I 0 lk [e,h,(n:Int),f,a,b,c,d] s (eL 3) f 1:=λ s a b c d=>Zs 3
 have l4:∀s a b c d,Yl I 0 lk [e,h,(n:Int),f,a,b,c,d] s (eL 4) a 1:=λ s a b c d=>Zs 4
 have l5:∀s a b c d,Yl I 0 lk [e,h,(n:Int),f,a,b,c,d] s (eL 5) b 1:=λ s a b c d=>Zs 5
 have l6:∀s a b c d,Yl I 0 lk [e,h,(n:Int),f,a,b,c,d] s (eL 6) c 1:=λ s a b c d=>Zs 6
 have M:∀s a b c d,Yl I 0 lk [e,h,(n:Int),f,a,b,c,d] s (eL 7) d 1:=λ s a b c d=>Zs 7
 show WS I 0 lk false [sAs 4 (eC 0),sAs 5 (eC 0),sAs 6 (eC 0),
  sWh (eLt (eL 4) (eL 2))
   [sAs 7 (eAdd (eL 5) (eB 3 (eL 3) (eM (eAdd (eL 1) (eL 4)) 0))),
    sAs 5 (eShr (eL 7) 16),
    sAs 7 (eSub (eAdd (eC 65536) (eM (eAdd (eL 0) (eL 4)) 0)) (eAdd (eAnd (eL 7) (eC 65535)) (eL 6))),
    sPut (eAdd (eL 0) (eL 4)) 0 (eAnd (eL 7) (eC 65535)),
    sAs 6 (eSub (eC 1) (eShr (eL 7) 16)),
    sInc 4],
  sAs 7 (eSub (eAdd (eC 65536) (eM (eAdd (eL 0) (eL 2)) 0)) (eAdd (eL 5) (eL 6))),
  sPut (eAdd (eL 0) (eL 2)) 0 (eAnd (eL 7) (eC 65535)),
  S.sVal (eSub (eC 1) (eShr (eL 7) 16))] [e,h,(n:Int),f,e4,e5,e6,O] X 8 _ _
 refine Zq (Zp 0) (by decide) ?_
 show WS I 0 lk false _ [e,h,(n:Int),f,0,e5,e6,O] X _ _ _
 refine Zq (Zp 0) (by decide) ?_
 show WS I 0 lk false _ [e,h,(n:Int),f,0,0,e6,O] X _ _ _
 refine Zq (Zp 0) (by decide) ?_
 show WS I 0 lk false _ [e,h,(n:Int),f,0,0,0,O] X _ _ _
 refine Zfp (by decide) (λ env s C q=>∃(i:Nat)(c b d:Int)(acc:List Int),env=[e,h,(n:Int),f,(i:Int),c,b,d]/\q=n-i/\i<=n/\acc.length=i/\S.Digs acc/\S.RwS st s e acc/\(0<=c/\c<65536)/\(b=0\/b=1)/\psum u i-f*psum y i=S.dval acc-(c+b)*65536^i/\C<=50+80*i) (k0:=n)
  ⟨0,0,0,O,[],rfl,rfl,Yae _,rfl,(λ d hd=>by cases hd),n0,by decide,.inl rfl,by show(0:Int)-f*0=0-(0+0)*1;simp,by decide⟩ ?_
 rintro env s C q ⟨i,c,b,d,acc,rfl,rfl,hi,w,N,L,hc,hb,U,hC⟩;have E:=Zo (op:=14) (by decide) (l4 s (i:Int) c b d) (l2 s _ _ _ _);rw[Zcj] at E;have bu:=Zy du i;have r:=hu.1 i (by omega);have k:s.mem (e+i)=u.getD i 0:=by
  rw[L.out_ _ (by omega)];exact hu.2 i (by omega)
 have u1:=ub i (by omega);refine⟨_,_,E,λ hz=>?_,λ a0=>?_⟩
 .have hiE:i=n:=Y_c λ q=>by rw[if_pos (by omega)] at hz;cases hz
  subst hiE;have K:=Zmn (n:=0) (p:=e+i) ((Zo (op:=1) (by decide) (l0 s (i:Int) c b d) (l2 s _ _ _ _)).to_ (y:=e+i) (by rw[Zar];unfold u32m;omega) (Yb _)) (by unfold u32m;omega) (Za7 r);rw[k] at K;obtain⟨t,ht⟩:=Yx (65536+u.getD i 0-(c+b));have tb:0<=t/\t<131072:=by omega
  refine Zq ((Zo (op:=2) (by decide) (Zo (op:=1) (by decide) (Zp 65536) K) (Zo (op:=1) (by decide) (l5 s _ _ _ _) (l6 s _ _ _ _))).to_ (y:=t) (by rw[Zar,Zar,Zkc];unfold u32m;omega) (Yb _)) (by decide) ?_
  show WS I 0 lk false _ [e,h,(i:Int),f,(i:Int),c,b,t] s _ _ _
  refine Zb3 (x:=t%65536) (p:=e+i) ((Zo (op:=1) (by decide) (l0 s _ _ _ _) (l2 s _ _ _ _)).to_ (y:=e+i) (by rw[Zar];unfold u32m;omega) (Yb _)) ((Zo (op:=7) (by decide) (M s _ _ _ _) (Zp 65535)).to_ (Zoq (by omega) (by omega)) (Yb _)) (by decide) (by decide) (by unfold u32m;omega) r.2 ?_;have l:=Ze1 L (t%65536);rw[w] at l;refine Zfh ((Zo (op:=2) (by decide) (Zp 1) (Zo (op:=11) (by decide) (M _ _ _ _ _) (Zp 16))).to_ (y:=1-t/65536) (by rw[Zkj,Zkc];unfold u32m;omega) (Yb _)) (by decide) λ a7 c2 h2 a9=>⟨_,acc++[t%65536],1-t/65536,rfl,Zqp l (h2.set4 _),Zbf N ⟨by omega,by omega⟩,by rw[Yd,w];rfl,by omega,Zj _ _ _,?_,by omega⟩
  rw[Zbe,w,Int.pow_succ];have hU:S.dval u=psum u i+u.getD i 0*65536^i:=by rw[<- Zaj (x:=u) (n:=i+1) (by omega)];rfl
  have hY:S.dval y=psum y i:=(Zaj (by omega)).symm;rw[hU,hY];have a1:t=t%65536+65536*(t/65536):=by omega
  have Z:psum u i-f*psum y i=S.dval acc-(c+b)*65536^i:=U;generalize (65536:Int)^i=Bi at *;generalize t%65536=dd at *;generalize t/65536=qq at *;generalize S.dval acc=D at *;generalize psum u i=Pu at *;generalize psum y i=Py at *;generalize u.getD i 0=ui at *;clear r k u1 E K L l hb hc tb
  grind
 .have hlt:i<n:=Y_c λ q=>a0 (if_neg (by omega))
  have z:=Zy dy i;have P:=hy.1 i (by omega);have F:s.mem (h+i)=y.getD i 0:=by
   rw[L.out_ _ (by omega)];exact hy.2 i (by omega)
  have v1:=vb i hlt;have W:=Zmn (n:=0) (p:=h+i) ((Zo (op:=1) (by decide) (l1 s (i:Int) c b d) (l4 s _ _ _ _)).to_ (y:=h+i) (by rw[Zar];unfold u32m;omega) (Yb _)) (by unfold u32m;omega) (Za7 P);rw[F] at W;obtain⟨V,G⟩:∃q,q=y.getD i 0:=⟨_,rfl⟩
  obtain⟨ui,J⟩:∃q,q=u.getD i 0:=⟨_,rfl⟩
  rw[<- G] at z W;rw[<- J] at bu k;have a3:0<=f*V:=Yas hg.1 z.1;have a4:f*V<=65535*65535:=Int.mul_le_mul (by omega) (by omega) z.1 (by decide);obtain⟨p,a2⟩:=Yx (c+f*V);have pb:0<=p/\p<4294967296:=by omega
  refine Zq ((Zo (op:=1) (by decide) (l5 s _ _ _ _) (Zo (op:=3) (by decide) (l3 s _ _ _ _) W)).to_ (y:=p) (by
   rw[Zar,Z77,a2];generalize f*V=ay at *;unfold u32m;omega) (Yb _)) (by decide) ?_
  show WS I 0 lk false _ [e,h,(n:Int),f,(i:Int),c,b,p] s _ _ _
  refine Zq ((Zo (op:=11) (by decide) (M s _ _ _ _) (Zp 16)).to_ (y:=p/65536) (by rw[Zkj]) (Yb _)) (by decide) ?_
  show WS I 0 lk false _ [e,h,(n:Int),f,(i:Int),p/65536,b,p] s _ _ _
  have K:=Zmn (n:=0) (p:=e+i) ((Zo (op:=1) (by decide) (l0 s (i:Int) (p/65536) b p) (l4 s _ _ _ _)).to_ (y:=e+i) (by rw[Zar];unfold u32m;omega) (Yb _)) (by unfold u32m;omega) (Za7 r);rw[k] at K;obtain⟨t,ht⟩:=Yx (65536+ui-(p%65536+b));have tb:0<=t/\t<131072:=by omega
  refine Zq ((Zo (op:=2) (by decide) (Zo (op:=1) (by decide) (Zp 65536) K) (Zo (op:=1) (by decide) (Zo (op:=7) (by decide) (M s _ _ _ _) (Zp 65535)) (l6 s _ _ _ _))).to_ (y:=t) (by rw[Zoq pb.1 pb.2,Zar,Zar,Zkc];unfold u32m;omega) (Yb _)) (by decide) ?_
  show WS I 0 lk false _ [e,h,(n:Int),f,(i:Int),p/65536,b,t] s _ _ _
  refine Zb3 (x:=t%65536) (p:=e+i) ((Zo (op:=1) (by decide) (l0 s _ _ _ _) (l4 s _ _ _ _)).to_ (y:=e+i) (by rw[Zar];unfold u32m;omega) (Yb _)) ((Zo (op:=7) (by decide) (M s _ _ _ _) (Zp 65535)).to_ (Zoq (by omega) (by omega)) (Yb _)) (by decide) (by decide) (by unfold u32m;omega) r.2 ?_;have l:=Ze1 L (t%65536);rw[w] at l;refine Zq ((Zo (op:=2) (by decide) (Zp 1) (Zo (op:=11) (by decide) (M _ _ _ _ _) (Zp 16))).to_ (y:=1-t/65536) (by rw[Zkj,Zkc];unfold u32m;omega) (Yb _)) (by decide) ?_
  show WS I 0 lk false _ [e,h,(n:Int),f,(i:Int),p/65536,1-t/65536,t] _ _ _ _
  refine Zq ((Zo (op:=1) (by decide) (l4 _ _ _ _ _) (Zp 1)).to_ (y:=((i+1:Nat):Int)) (by rw[Zar];unfold u32m;omega) (Yb _)) (by decide) ?_
  show WS I 0 lk false _ [e,h,(n:Int),f,((i+1:Nat):Int),p/65536,1-t/65536,t] _ _ _ _
  refine Z2 (k2:=n-(i+1)) (by omega) ⟨i+1,p/65536,1-t/65536,t,acc++[t%65536],rfl,rfl,by omega,by rw[Yd,w];rfl,Zbf N ⟨by omega,by omega⟩,l,⟨by omega,by omega⟩,by omega,?_,by omega⟩;rw[Zbe,w,psum,psum,<- G,<- J,Int.pow_succ];have a1:t=t%65536+65536*(t/65536):=by omega
  have b1:p=p%65536+65536*(p/65536):=by omega
  generalize (65536:Int)^i=Bi at *;generalize t%65536=dd at *;generalize t/65536=qq at *;generalize p%65536=pd at *;generalize p/65536=pq at *;generalize S.dval acc=D at *;generalize psum u i=Pu at *;generalize psum y i=Py at *;clear r k u1 E K W L l hb hc tb pb a3 a4 v1 F P z bu
  grind
theorem Ztk {st:S.Vw}{A B:Int}{u y:List Int}{n:Nat}(M:S.RwAt I st.mem A u)(P:S.RwAt I st.mem B y)(du:S.Digs u)(dy:S.Digs y)(a6:u.length=n+1)(a1:y.length=n)(hn:n<=900)(a2:A+n+1<=B) :
 ∀l,Sim st l->Real I kNBack false (l.args [A,B,n]) 20 (λ _ o c=>S.BwR st A (n+1) (λ b=>S.dval u+S.dval y-b*65536^(n+1)) (100+70*n) o c):=λ l K=>by
 obtain⟨iF,hF⟩:=hN.back;have hr:=Zcy hN.ok rNBack (by kernel_rfl) hF (dep:=0) (by decide) (l.args [A,B,n]) (S.BwR st A (n+1) (λ b=>S.dval u+S.dval y-b*65536^(n+1)) (100+70*n)) λ lk env hl hp=>?_
 .exact hr
 obtain⟨e,f,e2,e3,W,rfl⟩:=Z3f hl;have h0:e=A:=hp 0 (show(0:Int)<3 by decide);have h1:f=B:=hp 1 (show(1:Int)<3 by decide);have h2:e2=(n:Int):=hp 2 (show(2:Int)<3 by decide);subst h0 h1 h2;have X:Sim st (l.args [e,f,(n:Int)]):=K.args (by simp);obtain⟨V,J⟩:∃s,s=l.args [e,f,(n:Int)]:=⟨_,rfl⟩
 rw[<- J] at X⊢;have a4:=hN.ok.size2;have n0:=Zqo (A:=e) X;have ub:∀i:Nat,i<n+1->0<=e+i/\e+i<4294967296:=λ i hi=>by
  have:=M.1 i (by omega);have h1:=this.1;have h2:=this.2.1;omega
 have vb:∀i:Nat,i<n->0<=f+i/\f+i<4294967296:=λ i hi=>by
  have:=P.1 i (by omega);have h1:=this.1;have h2:=this.2.1;omega
 have l0:∀s a b,Yl I 0 lk [e,f,(n:Int),a,b] s (eL 0) e 1:=λ s a b=>Zs 0
 have l1:∀s a b,Yl I 0 lk [e,f,(n:Int),a,b] s (eL 1) f 1:=λ s a b=>Zs 1
 have l2:∀s a b,Yl I 0 lk [e,f,(n:Int),a,b] s (eL 2) n 1:=λ s a b=>Zs 2
 have l3:∀s a b,Yl I 0 lk [e,f,(n:Int),a,b] s (eL 3) a 1:=λ s a b=>Zs 3
 have l4:∀s a b,Yl I 0 lk [e,f,(n:Int),a,b] s (eL 4) b 1:=λ s a b=>Zs 4
 show WS I 0 lk false [sAs 3 (eC 0),sAs 4 (eC 0),
  sWh (eLt (eL 3) (eL 2))
   [sAs 4 (eAdd (eL 4) (eAdd (eM (eAdd (eL 0) (eL 3)) 0) (eM (eAdd (eL 1) (eL 3)) 0))),
    sPut (eAdd (eL 0) (eL 3)) 0 (eAnd (eL 4) (eC 65535)),
    sAs 4 (eShr (eL 4) 16),
    sInc 3],
  sAs 4 (eAdd (eL 4) (eM (eAdd (eL 0) (eL 2)) 0)),
  sPut (eAdd (eL 0) (eL 2)) 0 (eAnd (eL 4) (eC 65535)),
  S.sVal (eShr (eL 4) 16)] [e,f,(n:Int),e3,W] V 8 _ _
 refine Zq (Zp 0) (by decide) ?_
 show WS I 0 lk false _ [e,f,(n:Int),0,W] V _ _ _
 refine Zq (Zp 0) (by decide) ?_
 show WS I 0 lk false _ [e,f,(n:Int),0,0] V _ _ _
 refine Zfp (by decide) (λ env s C q=>∃(i:Nat)(c:Int)(acc:List Int),env=[e,f,(n:Int),(i:Int),c]/\q=n-i/\i<=n/\acc.length=i/\S.Digs acc/\S.RwS st s e acc/\(c=0\/c=1)/\psum u i+psum y i=S.dval acc+c*65536^i/\C<=40+60*i) (k0:=n)
  ⟨0,0,[],rfl,rfl,Yae _,rfl,(λ d hd=>by cases hd),n0,.inl rfl,by show(0:Int)+0=0+0*1;simp,by decide⟩ ?_
 rintro env s C q ⟨i,c,acc,rfl,rfl,hi,r,F,E,hc,a0,hC⟩;have v:=Zo (op:=14) (by decide) (l3 s (i:Int) c) (l2 s _ _);rw[Zcj] at v;have bu:=Zy du i;have k:=M.1 i (by omega);have h:s.mem (e+i)=u.getD i 0:=by
  rw[E.out_ _ (by omega)];exact M.2 i (by omega)
 have Y:=ub i (by omega);refine⟨_,_,v,λ Z=>?_,λ L=>?_⟩
 .have hiE:i=n:=Y_c λ q=>by rw[if_pos (by omega)] at Z;cases Z
  subst hiE;have z:=Zmn (n:=0) (p:=e+i) ((Zo (op:=1) (by decide) (l0 s (i:Int) c) (l2 s _ _)).to_ (y:=e+i) (by rw[Zar];unfold u32m;omega) (Yb _)) (by unfold u32m;omega) (Za7 k);rw[h] at z;obtain⟨t,ht⟩:=Yx (c+u.getD i 0);have U:0<=t/\t<131072:=by omega
  refine Zq ((Zo (op:=1) (by decide) (l4 s _ _) z).to_ (y:=t) (by rw[Zar];unfold u32m;omega) (Yb _)) (by decide) ?_
  show WS I 0 lk false _ [e,f,(i:Int),(i:Int),t] s _ _ _
  refine Zb3 (x:=t%65536) (p:=e+i) ((Zo (op:=1) (by decide) (l0 s _ _) (l2 s _ _)).to_ (y:=e+i) (by rw[Zar];unfold u32m;omega) (Yb _)) ((Zo (op:=7) (by decide) (l4 s _ _) (Zp 65535)).to_ (Zoq (by omega) (by omega)) (Yb _)) (by decide) (by decide) (by unfold u32m;omega) k.2 ?_;have g:=Ze1 E (t%65536);rw[r] at g;refine Zfh ((Zo (op:=11) (by decide) (l4 _ _ _) (Zp 16)).to_ (y:=t/65536) (by rw[Zkj]) (Yb _)) (by decide) λ a3 c2 h2 a5=>⟨_,acc++[t%65536],t/65536,rfl,Zqp g (h2.set4 _),Zbf F ⟨by omega,by omega⟩,by rw[Yd,r];rfl,by omega,Zj _ _ _,?_,by omega⟩
  rw[Zbe,r,Int.pow_succ];have hU:S.dval u=psum u i+u.getD i 0*65536^i:=by rw[<- Zaj (x:=u) (n:=i+1) (by omega)];rfl
  have hY:S.dval y=psum y i:=(Zaj (by omega)).symm;rw[hU,hY];have O:t=t%65536+65536*(t/65536):=by omega
  generalize (65536:Int)^i=Bi at *;generalize t%65536=dd at *;generalize t/65536=qq at *;generalize S.dval acc=D at *;generalize psum u i=Pu at *;generalize psum y i=Py at *;generalize u.getD i 0=ui at *;clear k h Y v z E g hc U
  grind
 .have hlt:i<n:=Y_c λ q=>L (if_neg (by omega))
  have T:=Zy dy i;have G:=P.1 i (by omega);have w:s.mem (f+i)=y.getD i 0:=by
   rw[E.out_ _ (by omega)];exact P.2 i (by omega)
  have v1:=vb i hlt;have z:=Zmn (n:=0) (p:=e+i) ((Zo (op:=1) (by decide) (l0 s (i:Int) c) (l3 s _ _)).to_ (y:=e+i) (by rw[Zar];unfold u32m;omega) (Yb _)) (by unfold u32m;omega) (Za7 k);have N:=Zmn (n:=0) (p:=f+i) ((Zo (op:=1) (by decide) (l1 s (i:Int) c) (l3 s _ _)).to_ (y:=f+i) (by rw[Zar];unfold u32m;omega) (Yb _)) (by unfold u32m;omega) (Za7 G);rw[h] at z;rw[w] at N;obtain⟨t,ht⟩:=Yx (c+(u.getD i 0+y.getD i 0));have U:0<=t/\t<131072:=by omega
  refine Zq ((Zo (op:=1) (by decide) (l4 s _ _) (Zo (op:=1) (by decide) z N)).to_ (y:=t) (by rw[Zar,Zar];unfold u32m;omega) (Yb _)) (by decide) ?_
  show WS I 0 lk false _ [e,f,(n:Int),(i:Int),t] s _ _ _
  refine Zb3 (x:=t%65536) (p:=e+i) ((Zo (op:=1) (by decide) (l0 s _ _) (l3 s _ _)).to_ (y:=e+i) (by rw[Zar];unfold u32m;omega) (Yb _)) ((Zo (op:=7) (by decide) (l4 s _ _) (Zp 65535)).to_ (Zoq (by omega) (by omega)) (Yb _)) (by decide) (by decide) (by unfold u32m;omega) k.2 ?_;have g:=Ze1 E (t%65536);rw[r] at g;refine Zq ((Zo (op:=11) (by decide) (l4 _ _ _) (Zp 16)).to_ (y:=t/65536) (by rw[Zkj]) (Yb _)) (by decide) ?_
  show WS I 0 lk false _ [e,f,(n:Int),(i:Int),t/65536] _ _ _ _
  refine Zq ((Zo (op:=1) (by decide) (l3 _ _ _) (Zp 1)).to_ (y:=((i+1:Nat):Int)) (by rw[Zar];unfold u32m;omega) (Yb _)) (by decide) ?_
  show WS I 0 lk false _ [e,f,(n:Int),((i+1:Nat):Int),t/65536] _ _ _ _
  refine Z2 (k2:=n-(i+1)) (by omega) ⟨i+1,t/65536,acc++[t%65536],rfl,rfl,by omega,by rw[Yd,r];rfl,Zbf F ⟨by omega,by omega⟩,g,by omega,?_,by omega⟩;rw[Zbe,r,psum,psum,Int.pow_succ];have O:t=t%65536+65536*(t/65536):=by omega
  generalize (65536:Int)^i=Bi at *;generalize t%65536=dd at *;generalize t/65536=qq at *;generalize S.dval acc=D at *;generalize psum u i=Pu at *;generalize psum y i=Py at *;generalize u.getD i 0=ui at *;generalize y.getD i 0=yi at *;clear k h Y v z N E g hc U v1 w G T bu
  grind
end
end
theorem Z7b {T w a V hi b U g:Int}(hT:0<T)(hw:32768<=w)(h:V=w*T+a)(h0:0<=a)(h1:a<T)(d:U=hi*T+b)(u0:0<=b)(u1:b<T)(l:0<=hi)(t:U<65536*V)(hg:g=if 65535<hi/w then 65535 else hi/w) :
 0<=g/\g<65536/\U<(g+1)*V/\g*V<=U+2*V:=by
 have q0:0<=hi/w:=Yb5 l (by omega);have f:w*(hi/w)+hi%w=hi:=Int.mul_ediv_add_emod hi w;have r0:0<=hi%w:=Int.emod_nonneg _ (by omega);have r1:hi%w<w:=Int.emod_lt_of_pos _ (by omega);generalize hi/w=q at *;generalize hi%w=r at *;have i:0<=g:=by rw[hg];split <;> omega
 have gq:g<=q:=by rw[hg];split <;> omega
 have p:g<=65535:=by rw[hg];split <;> omega
 refine⟨i,by omega,?_,?_⟩
 .by_cases c:65535<q
  .rw[hg,if_pos c]
   omega
  .rw[if_neg c] at hg
   subst hg;have e:(g+1)*V-U=(w-r-1)*T+(T-b)+(g+1)*a:=by rw[h,d,<- f];grind
   have o:0<=(w-r-1)*T:=Yas (by omega) (by omega);have k:0<=(g+1)*a:=Yas (by omega) h0;omega
 .have e:U+2*V-g*V=(w*(q-g)+r)*T+b+(2*w-65536)*T+65536*T+2*a-g*a:=by rw[h,d,<- f];grind
  have o:0<=(w*(q-g)+r)*T:=Yas (by have:=Yas (show 0<=w by omega) (show 0<=q-g by omega);omega) (by omega);have k:0<=(2*w-65536)*T:=Yas (by omega) (by omega);have a3:g*a<=65535*a:=Int.mul_le_mul_of_nonneg_right p h0;omega
theorem Zjl {x:List Int}(a:S.Digs x):∀i:Nat,0<=psum x i/\psum x i<65536^i
 | 0=>by show(0:Int)<=0/\(0:Int)<1;decide
 | i+1=>by
  obtain⟨h1,h2⟩:=Zjl a i;have b:=Zy a i;have hp:(0:Int)<65536^i:=Ya2 (by decide);have h3:=Yas b.1 (Yaz hp);have h4:x.getD i 0*65536^i<=65535*65536^i:=Int.mul_le_mul_of_nonneg_right (by omega) (Yaz hp);rw[psum,Int.pow_succ];generalize x.getD i 0*65536^i=t at *;generalize (65536:Int)^i=B at *;omega
theorem Zge:∀(a b:List Int),S.dval (a++b)=S.dval a+65536^a.length*S.dval b
 | [],b=>by show S.dval b=0+65536^0*S.dval b;simp
 | x::r,b=>by
  have h:=Zge r b
  show x+65536*S.dval (r++b)=x+65536*S.dval r+65536^(r.length+1)*S.dval b
  rw[h,Int.pow_succ];generalize (65536:Int)^r.length=B
  grind
theorem Ze2 {a b:List Int}(f:S.Digs a)(e:S.Digs b):S.Digs (a++b):=λ d c=>(List.mem_append.1 c).elim (f d) (e d)
theorem Zam {a:List Int}(c:S.Digs a)(n:Nat):S.Digs (a.take n):=λ d b=>c d (Ydc b)
theorem Zbd {a:List Int}(c:S.Digs a)(n:Nat):S.Digs (a.drop n):=λ d b=>c d (List.mem_of_mem_drop b)
theorem Zmq {a b:List Int}(i:Nat):(a++b).getD i 0=if i<a.length then a.getD i 0 else b.getD (i-a.length) 0:=by
 split
 .rename_i h
  rw[Ye,Yn h,<- Ye]
 .rename_i h
  rw[Ye,Yo (by omega),<- Ye]
theorem Zan {a:List Int}{n i:Nat}(h:i<n):(a.take n).getD i 0=a.getD i 0:=by
 rw[Ye,List.getElem?_take_of_lt h,<- Ye]
theorem Zeo {a:List Int}(n i:Nat):(a.drop n).getD i 0=a.getD (n+i) 0:=by
 rw[Ye,Ybx,<- Ye]
theorem Z3g {k:Nat}(d:k<=15){P a b:Int}(c:P=2^k)(ha:0<=a/\a<65536)(hb:0<=b/\b<65536):P*(((a*65536+b)/P)%65536)=(a%P)*65536+b-b%P:=by
 match k,d with
 | 0,_=>have:P=1:=c;subst this;omega
 | 1,_=>have:P=2:=c;subst this;omega
 | 2,_=>have:P=4:=c;subst this;omega
 | 3,_=>have:P=8:=c;subst this;omega
 | 4,_=>have:P=16:=c;subst this;omega
 | 5,_=>have:P=32:=c;subst this;omega
 | 6,_=>have:P=64:=c;subst this;omega
 | 7,_=>have:P=128:=c;subst this;omega
 | 8,_=>have:P=256:=c;subst this;omega
 | 9,_=>have:P=512:=c;subst this;omega
 | 10,_=>have:P=1024:=c;subst this;omega
 | 11,_=>have:P=2048:=c;subst this;omega
 | 12,_=>have:P=4096:=c;subst this;omega
 | 13,_=>have:P=8192:=c;subst this;omega
 | 14,_=>have:P=16384:=c;subst this;omega
 | 15,_=>have:P=32768:=c;subst this;omega
 | n+16,h=>omega
theorem Z5y {acc:List Int}(a:S.Digs acc){j n:Nat}{V:Int}(hl:j+(n+1)<=acc.length)(hV:0<=V/\V<65536^n)(b:S.dval acc<V*65536^(j+1)) :
 S.dval acc=S.dval (acc.take j)+65536^j*S.dval ((acc.drop j).take (n+1))/\S.dval ((acc.drop j).drop (n+1))=0/\S.dval ((acc.drop j).take (n+1))<65536*V/\0<=S.dval (acc.take j)/\S.dval (acc.take j)<65536^j:=by
 have e:acc=acc.take j++((acc.drop j).take (n+1)++(acc.drop j).drop (n+1)):=by rw[Ya1,Ya1]
 have d1:S.dval acc=S.dval (acc.take j++((acc.drop j).take (n+1)++(acc.drop j).drop (n+1))):=congrArg S.dval e;have l1:(acc.take j).length=j:=by rw[Yr];omega
 have l2:((acc.drop j).take (n+1)).length=n+1:=by rw[Yr,List.length_drop];omega
 rw[Zge,Zge,l1,l2] at d1;have b1:=Zg (Zam a j);have b2:=Zg9 (Zam a j);rw[l1] at b2;have h:=Zg (Zam (Zbd a j) (n+1));have b4:=Zg (Zbd (Zbd a j) (n+1));generalize S.dval (acc.take j)=lo at *;generalize S.dval ((acc.drop j).take (n+1))=U at *;generalize S.dval ((acc.drop j).drop (n+1))=hi at *;have hp:(0:Int)<65536^j:=Ya2 (by decide);have d:(0:Int)<65536^n:=Ya2 (by decide);rw[Int.pow_succ] at b;rw[Int.pow_succ] at d1;generalize (65536:Int)^j=Bj at *;generalize (65536:Int)^n=Bn at *;have f:hi=0:=by
  refine Y_c λ c=>?_
  have c1:1<=hi:=by omega
  have m1:Bj*(Bn*65536)*1<=Bj*(Bn*65536)*hi:=Int.mul_le_mul_of_nonneg_left c1 (Yas (by omega) (by omega));have m2:(V+1)*(Bj*65536)<=Bn*(Bj*65536):=Int.mul_le_mul_of_nonneg_right (by omega) (by omega);have m3:0<=Bj*U:=Yas (by omega) h;have e2:Bj*(U+Bn*65536*hi)=Bj*U+Bj*(Bn*65536)*hi:=by grind
  have e3:(V+1)*(Bj*65536)=V*(Bj*65536)+Bj*65536:=by grind
  have e4:Bj*(Bn*65536)*1=Bn*(Bj*65536):=by grind
  omega
 subst f;have g:S.dval acc=lo+Bj*U:=by rw[d1,Int.mul_zero,Ybc]
 refine⟨g,rfl,?_,b1,b2⟩;refine Y_c λ c=>?_
 have m1:Bj*(65536*V)<=Bj*U:=Int.mul_le_mul_of_nonneg_left (by omega) (by omega);have e6:Bj*(65536*V)=V*(Bj*65536):=by grind
 omega
section
namespace S
structure DvS (st s:Vw)(H:Int)(m n j:Nat)(qs acc vd:List Int):Prop where
 out_:∀a,a<H+2\/H+2*m+n+6<=a->s.mem a=st.mem a
 q:∀i:Nat,i<qs.length->s.mem (H+2+j+i)=4*qs.getD i 0
 r:∀i:Nat,i<m+1->s.mem (H+m+4+i)=acc.getD i 0
 v:∀i:Nat,i<n+1->s.mem (H+m+4+m+1+i)=vd.getD i 0
 reg:∀j,¬(4<=j/\j<=7)->s.reg j=st.reg j
 inp:s.inp=st.inp
 out:s.out=st.out
end S
theorem S.Real.mono {I:S.Img}{name:ByteArray}{b:Bool}{st:S.Vw}{d:Int}{R R':Int->S.BO->Nat->Prop}(h:Real I name b st d R)(hm:∀ret o k,R ret o k->R' ret o k):Real I name b st d R':=λ V top ret i g e p c a l=>by
 obtain⟨o,k,q,f⟩:=h V top ret i g e p c a l;exact⟨o,k,hm _ _ _ q,f⟩
section
variable {I:S.Img}{dep lk:Int}{behind:Bool}{env:List Int}{st:S.Vw}{C:Nat}{Q:List Int->S.Vw->Nat->Prop}{R:S.BO->Nat->Prop}
theorem Z5z {n:Int}{name:ByteArray}{l:List BE}{r:List BS}{xs:List Int}{K N:Nat}{d:Int}{T:S.Vw->Nat->Prop}(v:Yls I dep lk env st l xs K)(g:dEs l<=20)(e:xs.length<=4)(t:∀a,Sim st a->Real I name false (a.args xs) d (λ _ o k=>∃s,o=.ret s/\k<=N/\T s k))(p:d<=dep)
 (h:∀s k,T s k->WS I dep lk behind r (env.set n.toNat (s.reg 4)) s (C+K+N+10) Q R):WS I dep lk behind (sAs n (eF name l)::r) env st C Q R:=λ a c q hc=>by
 rw[Zbp,Zxm,Zqw];refine v 0 a c _ _ (by omega) q λ b c2 h2 i=>⟨d,_,t b h2,p,λ ret o k u=>?_⟩
 obtain⟨s,rfl,hk,f⟩:=u;exact h s k f s _ (.refl s) (by omega)
theorem Zz7 {name:ByteArray}{l:List BE}{b r:List BS}{xs:List Int}{K N:Nat}{d:Int}{T:S.Vw->Nat->Prop}(w:Yls I dep lk env st l xs K)(i:dEs l<=20)(g:xs.length<=4)(u:∀a,Sim st a->Real I name false (a.args xs) d (λ _ o k=>∃s,o=.ret s/\k<=N/\T s k))(q:d<=dep)
 (h0:∀s k,T s k->s.reg 4=0->WS I dep lk behind r env s (C+K+N+14) Q R)
 (h1:∀s k,T s k->s.reg 4≠0->WS I dep lk behind b env s (C+K+N+14) (λ env st c=>wpSs I dep lk behind r env st (c+3) Q R) R):WS I dep lk behind (sWhen (eF name l) b::r) env st C Q R:=λ a c t hc=>by
 rw[Zbp,sWhen,Zxn,Zqw];refine w 0 a c _ _ (by omega) t λ e c2 h2 p=>⟨d,_,u e h2,q,λ ret o k v=>?_⟩
 obtain⟨s,rfl,hk,f⟩:=v
 show(if s.reg 4=0 then _ else _)
 split
 .rename_i h
  rw[Zxl];exact h0 s k f h s _ (.refl s) (by omega)
 .rename_i h
  exact h1 s k f h s _ (.refl s) (by omega)
end
section
variable {st s:S.Vw}{H:Int}{m n j:Nat}{qs acc vd:List Int}
theorem Zqq {f:S.Vw}{b:List Int}{i:Nat}(h:S.DvS st s H m n j qs acc vd)(d:S.RwS s f (H+m+4+i) b)(hl:b.length=n+1)(hi:i+n<=m)(g:acc.length=m+1)(hq:j+qs.length<=m+1):S.DvS st f H m n j qs (acc.take i++(b++acc.drop (i+n+1))) vd:=by
 have l1:(acc.take i).length=i:=by rw[Yr];omega
 refine⟨λ a l=>?_,λ k e=>?_,λ k e=>?_,λ k e=>?_,λ k e=>(d.reg k e).trans (h.reg k e),d.inp.trans h.inp,d.out.trans h.out⟩
 .rw[d.out_ a (by omega)]
  exact h.out_ a l
 .rw[d.out_ _ (by omega)]
  exact h.q k e
 .rw[Zmq,l1]
  by_cases c:k<i
  .rw[if_pos c,Zan c,d.out_ _ (by omega)]
   exact h.r k e
  .rw[if_neg c,Zmq]
   by_cases c2:k-i<b.length
   .rw[if_pos c2]
    have:=d.dig (k-i) c2;rw[show H+m+4+(i:Int)+((k-i:Nat):Int)=H+m+4+k by omega] at this;exact this
   .rw[if_neg c2,Zeo,show i+n+1+(k-i-b.length)=k by omega,d.out_ _ (by omega)]
    exact h.r k e
 .rw[d.out_ _ (by omega)]
  exact h.v k e
theorem Z3h (h:S.DvS st s H m n (j+1) qs acc vd)(g:Int)(hj:j+1+qs.length<=m+1):S.DvS st (s.sto (H+2+j) (4*g)) H m n j (g::qs) acc vd:=by
 have hm:∀a,(s.sto (H+2+j) (4*g)).mem a=if a=H+2+j then 4*g else s.mem a:=λ _=>rfl
 refine⟨λ a c=>?_,λ k b=>?_,λ k b=>?_,λ k b=>?_,h.reg,h.inp,h.out⟩
 .rw[hm,if_neg (by omega)]
  exact h.out_ a c
 .cases k with
  | zero=>rw[hm,if_pos (by omega)];rfl
  | succ k =>
   rw[hm,if_neg (by omega)];have:=h.q k (by simpa using b);rw[show H+2+((j+1:Nat):Int)+k=H+2+j+((k+1:Nat):Int) by omega] at this;exact this
 .rw[hm,if_neg (by omega)]
  exact h.r k b
 .rw[hm,if_neg (by omega)]
  exact h.v k b
theorem Zqr {a:List Int}{i:Nat}(c:acc.length=m+1)(hi:i+n<=m)(b:a.length=n+1):(acc.take i++(a++acc.drop (i+n+1))).length=m+1/\(acc.take i++(a++acc.drop (i+n+1))).take i=acc.take i/\(acc.take i++(a++acc.drop (i+n+1))).drop (i+n+1)=acc.drop (i+n+1)/\((acc.take i++(a++acc.drop (i+n+1))).drop i).take (n+1)=a:=by
 have l1:(acc.take i).length=i:=by rw[Yr];omega
 refine⟨?_,?_,?_,?_⟩
 .rw[Yd,Yd,l1,b,List.length_drop];omega
 .rw[List.take_append_of_le_length (by omega),Yar (by omega)]
 .rw[List.drop_append,List.drop_eq_nil_of_le (by omega),l1,Yal,show i+n+1-i=a.length by omega,List.drop_append_of_le_length (Yb _),List.drop_length,Yal]
 .rw[List.drop_append_of_le_length (by omega),List.drop_eq_nil_of_le (by omega),Yal,List.take_append_of_le_length (by omega),Yar (by omega)]
end
section
variable {I:S.Img}(hN:NSegs I)
include hN
theorem Z1n {st s:S.Vw}{H:Int}{m n j i:Nat}{qs acc vd:List Int}(h:S.DvS st s H m n j qs acc vd)(d:acc.length=m+1)(e:vd.length=n+1)(hi:i+n<=m)(b:∀a,H<=a->a<H+2*m+n+6->S.Dat I a):S.RwAt I s.mem (H+m+4+i) ((acc.drop i).take (n+1))/\S.RwAt I s.mem (H+m+4+m+1) (vd.take n):=by
 have l1:((acc.drop i).take (n+1)).length=n+1:=by rw[Yr,List.length_drop];omega
 have l2:(vd.take n).length=n:=by rw[Yr];omega
 refine⟨⟨λ k c=>b _ (by omega) (by omega),λ k c=>?_⟩,⟨λ k c=>b _ (by omega) (by omega),λ k c=>?_⟩⟩
 .rw[l1] at c
  rw[Zan c,Zeo];have:=h.r (i+k) (by omega);rw[show H+m+4+((i+k:Nat):Int)=H+m+4+i+k by omega] at this;exact this
 .rw[l2] at c
  rw[Zan c];exact h.v k (by omega)
theorem Z3i {dep lk:Int}{st s:S.Vw}{C:Nat}{Q:List Int->S.Vw->Nat->Prop}{R:S.BO->Nat->Prop}{H x y t v g o U V:Int}{m n j:Nat}{qs acc vd:List Int}{rest:List BS}(a7:55<=dep)(hD:S.DvS st s H m n (j+1) qs acc vd)(a6:acc.length=m+1)(a3:vd.length=n+1)(da:S.Digs acc)(dv:S.Digs vd)(K:j+n<=m)(hn:n<=900)(hq:j+1+qs.length<=m+1)
 (hV:V=S.dval (vd.take n)) (a9:0<V) (hU:0<=U) (hg:0<=g/\g<65536) (ho:(o=0/\S.dval ((acc.drop j).take (n+1))=U-g*V)\/(o=1/\S.dval ((acc.drop j).take (n+1))=U-g*V+65536^(n+1))) (h1:U<(g+1)*V) (h2:g*V<=U+2*V) (r:∀a,H<=a->a<H+2*m+n+6->S.Dat I a)
 (D:∀E s' f,0<=E/\E<65536->S.DvS st s' H m n (j+1) qs f vd->f.length=m+1->S.Digs f->f.take j=acc.take j->f.drop (j+n+1)=acc.drop (j+n+1)->S.dval ((f.drop j).take (n+1))=U-E*V->0<=U-E*V->U-E*V<V ->
  WS I dep lk false rest [x,y,t,(m:Int),(n:Int),v,H+m+4,H+m+4+m+1,(j:Int),E,0] s' (C+500+150*n) Q R) :
 WS I dep lk false (sWh (eL 10) [sAs 9 (eSub (eL 9) (eC 1)),sWhen (eF kNBack [eAt,eL 7,eL 4]) [sAs 10 (eC 0)]]::rest) [x,y,t,(m:Int),(n:Int),v,H+m+4,H+m+4+m+1,(j:Int),g,o] s C Q R:=by
 have b0:=hN.ok.size2;have b1:=(r H (Y5 _) (by omega)).1;have a8:=(r (H+2*m+n+5) (by omega) (by omega)).2.1;have bw:∀f:List Int,S.Digs f->f.length=m+1->0<=S.dval ((f.drop j).take (n+1))/\S.dval ((f.drop j).take (n+1))<65536^(n+1):=λ f J b4=>by
  have h1:=Zg (Zam (Zbd J j) (n+1));have h2:=Zg9 (Zam (Zbd J j) (n+1));have h3:((f.drop j).take (n+1)).length=n+1:=by rw[Yr,List.length_drop];omega
  rw[h3] at h2;exact⟨h1,h2⟩
 refine Zfp (by decide) (λ env u C2 k=>∃(g2 F:Int)(i:List Int),env=[x,y,t,(m:Int),(n:Int),v,H+m+4,H+m+4+m+1,(j:Int),g2,F]/\S.DvS st u H m n (j+1) qs i vd/\i.length=m+1/\S.Digs i/\i.take j=acc.take j/\i.drop (j+n+1)=acc.drop (j+n+1)/\(0<=g2/\g2<65536)/\U-g2*V<V /\
  ((F=0/\k=0/\S.dval ((i.drop j).take (n+1))=U-g2*V)\/(F=1/\S.dval ((i.drop j).take (n+1))=U-g2*V+65536^(n+1)/\0<=U-g2*V+(k:Int)*V))/\k<=2/\C2<=C+(2-k)*(150+72*n)) (k0:=if o=0 then 0 else 2)
  ⟨g,o,acc,rfl,hD,a6,da,rfl,rfl,hg,by
   have e:(g+1)*V=g*V+V:=by grind
   omega,?_,by split <;> omega,by omega⟩ ?_
 .rcases ho with⟨rfl,h⟩|⟨rfl,h⟩
  .exact .inl ⟨rfl,rfl,h⟩
  .refine .inr ⟨rfl,h,?_⟩
   show 0<=U-g*V+2*V
   omega
 .rintro env u C2 k ⟨g2,F,i,rfl,hD2,hla2,da2,ht2,hd2,hg2,hlt2,ho2,hk2,hC2⟩
  have l6:∀s g o,Yl I dep lk [x,y,t,(m:Int),(n:Int),v,H+m+4,H+m+4+m+1,(j:Int),g,o] s (eL 6) (H+m+4) 1:=λ s g o=>Zs 6
  have l8:∀s g o,Yl I dep lk [x,y,t,(m:Int),(n:Int),v,H+m+4,H+m+4+m+1,(j:Int),g,o] s (eL 8) j 1:=λ s g o=>Zs 8
  have l7:∀s g o,Yl I dep lk [x,y,t,(m:Int),(n:Int),v,H+m+4,H+m+4+m+1,(j:Int),g,o] s (eL 7) (H+m+4+m+1) 1:=λ s g o=>Zs 7
  have l4:∀s g o,Yl I dep lk [x,y,t,(m:Int),(n:Int),v,H+m+4,H+m+4+m+1,(j:Int),g,o] s (eL 4) n 1:=λ s g o=>Zs 4
  have l9:∀s g o,Yl I dep lk [x,y,t,(m:Int),(n:Int),v,H+m+4,H+m+4+m+1,(j:Int),g,o] s (eL 9) g 1:=λ s g o=>Zs 9
  have b2:=bw i da2 hla2;refine⟨F,1,Zs 10,λ hz=>?_,λ a1=>?_⟩
  .rcases ho2 with⟨_,hk0,h⟩|⟨q,_⟩
   .have e0:F=0:=hz
    subst e0;refine(D g2 u i hg2 hD2 hla2 da2 ht2 hd2 h (by omega) hlt2).more ?_;subst hk0;omega
   .rw[q] at hz;cases hz
  .rcases ho2 with⟨q,_⟩|⟨rfl,h,hk⟩
   .exact absurd q a1
   have L:U-g2*V<0:=by omega
   have b3:1<=g2:=Y_c λ c=>by
    have:g2=0:=by omega
    rw[this,Int.zero_mul] at L;omega
   obtain⟨p,rfl⟩:∃p,k=p+1:=by
    cases k with
    | zero =>
     rw[show(((0:Nat):Int))*V=0 from Int.zero_mul V] at hk;omega
    | succ p=>exact⟨p,rfl⟩
   have eg:(g2-1)*V=g2*V-V:=by grind
   refine Zq ((Zo (op:=2) (by decide) (l9 u _ _) (Zp 1)).to_ (y:=g2-1) (by rw[Zkc];unfold u32m;omega) (Yb _)) (by decide) ?_
   show WS I dep lk false _ [x,y,t,(m:Int),(n:Int),v,H+m+4,H+m+4+m+1,(j:Int),g2-1,1] u _ _ _
   obtain⟨r1,r2⟩:=Z1n hN hD2 hla2 a3 K r;have lw:((i.drop j).take (n+1)).length=n+1:=by rw[Yr,List.length_drop];omega
   have lv:(vd.take n).length=n:=by rw[Yr];omega
   have w:=Ztk hN r1 r2 (Zam (Zbd da2 j) (n+1)) (Zam dv n) lw lv hn (by omega);refine Zz7 (N:=100+70*n) (T:=λ O k3=>∃l b,S.RwS u O (H+m+4+j) l/\S.Digs l/\l.length=n+1/\(b=0\/b=1)/\O.reg 4=b/\S.dval l=S.dval ((i.drop j).take (n+1))+S.dval (vd.take n)-b*65536^(n+1)) (d:=20)
    (Za ((Zo (op:=1) (by decide) (l6 u _ _) (l8 u _ _)).to_ (y:=H+m+4+j) (by rw[Zar];unfold u32m;omega) (Yb _)) (Za (l7 u _ _) (Za (l4 u _ _) Zf))) (by decide) (by simp) (λ a4 a0=>?_) (by omega) (λ O k3 hT z=>?_) (λ O k3 hT z=>?_)
   .exact(w a4 a0).mono λ _ o k hh=>by
     obtain⟨s,l,b,e,M,W,B,X,G,P,q7⟩:=hh;exact⟨s,e,q7,l,b,M,W,B,X,G,P⟩
   .obtain⟨l,b,M,W,B,X,G,P⟩:=hT
    have a2:b=0:=by rw[<- G];exact z
    subst a2;obtain⟨w1,w2,w3,Y⟩:=Zqr hla2 K B;have hw:=Zqq hD2 M B K hla2 hq;have Z:=Ze2 (Zam da2 j) (Ze2 W (Zbd da2 (j+n+1)));have bb:=bw _ Z w1;rw[Y] at bb;rw[<- hV,h,Int.zero_mul] at P;refine Z2 (k2:=p) (by omega) ⟨g2-1,1,_,rfl,hw,w1,Z,w2.trans ht2,w3.trans hd2,⟨by omega,by omega⟩,by omega,.inr ⟨rfl,by rw[Y];omega,?_⟩,by omega,?_⟩
    .have:((p+1:Nat):Int)*V=(p:Int)*V+V:=by grind
     omega
    .have e:(2-p)*(150+72*n)=(2-(p+1))*(150+72*n)+(150+72*n):=by
      rw[show 2-p=(2-(p+1))+1 by omega,Nat.succ_mul]
     omega
   .obtain⟨l,b,M,W,B,X,G,P⟩:=hT
    have a5:b=1:=X.resolve_left λ e=>z (by rw[G];exact e)
    subst a5;obtain⟨w1,w2,w3,Y⟩:=Zqr hla2 K B;have hw:=Zqq hD2 M B K hla2 hq;have Z:=Ze2 (Zam da2 j) (Ze2 W (Zbd da2 (j+n+1)));rw[<- hV,h,Int.one_mul] at P;refine Zq (Zp 0) (by decide) (Zbi 3 ?_)
    show WS I dep lk false _ [x,y,t,(m:Int),(n:Int),v,H+m+4,H+m+4+m+1,(j:Int),g2-1,0] O _ _ _
    refine Z2 (k2:=0) (by omega) ⟨g2-1,0,_,rfl,hw,w1,Z,w2.trans ht2,w3.trans hd2,⟨by omega,by omega⟩,by omega,.inl ⟨rfl,rfl,by rw[Y];omega⟩,by omega,?_⟩;have e:(2-0)*(150+72*n)=(2-(p+1))*(150+72*n)+(1+p)*(150+72*n):=by
     rw[<- Yco,show 2-(p+1)+(1+p)=2-0 by omega]
    have e2:(1+p)*(150+72*n)=(150+72*n)+p*(150+72*n):=by rw[Yco,Nat.one_mul]
    omega
end
end
section
theorem Z50 {a:Int}(ha:0<=a/\a<65536):alu 10 a (16%4294967296)=a*65536:=by
 show u32m (a*65536)=_
 unfold u32m;omega
theorem Z1o {a b:Int}(ha:0<=a/\a<65536)(hb:0<=b/\b<65536):alu 8 (a*65536) b=a*65536+b :=
 Zu 16 (a*65536) b 65536 (by decide) (by omega) (by omega) (by omega) (by omega) (by omega) (by omega)
theorem Z8z (x y:Int):alu 5 x y=x/y:=rfl
section
variable {I:S.Img}(hN:NSegs I)
include hN
theorem Z3j {dep lk:Int}{st:S.Vw}{C:Nat}{Q:List Int->S.Vw->Nat->Prop}{R:S.BO->Nat->Prop}{x y t m n r v j g o:Int}{rest:List BS}(hg:1<=g/\g<65536)
 (a:∀k:Nat,k<=15->32768<=g*2^k->g*2^k<65536->WS I dep lk false rest [x,y,t,m,n,(k:Int),r,v,j,g,o] st (C+400) Q R) :
 WS I dep lk false (sWh (eLt (eB 10 (eL 9) (eL 5)) (eC 32768)) [sInc 5]::rest) [x,y,t,m,n,0,r,v,j,g,o] st C Q R:=by
 refine Zfp (by decide) (λ env b u k=>∃i:Nat,env=[x,y,t,m,n,(i:Int),r,v,j,g,o]/\b=st/\g*2^i<65536/\i<=15/\k=16-i/\u<=C+20*i) (k0:=16) ⟨0,rfl,rfl,by simp;omega,by decide,rfl,by omega⟩ ?_;rintro env b u k ⟨i,rfl,rfl,h,hi,rfl,hC⟩;have l:=Zo (I:=I) (dep:=dep) (lk:=lk) (st:=b) (op:=14) (by decide) (Zo (op:=10) (by decide) (Zs 9) (Zs 5)) (Zp 32768) (env:=[x,y,t,m,n,(i:Int),r,v,j,g,o]);rw[Zcj] at l;have w:alu 10 g (i:Int)=g*2^i:=Z78 hi rfl ⟨by omega,by omega⟩;have z:=l.to_ (y:=if g*2^i<32768 then 1 else 0) (by
  show(if alu 10 g (i:Int)<_ then _ else _)=_
  rw[w];rfl) (Yb _)
 refine⟨_,_,z,λ p=>?_,λ f=>?_⟩
 .have hge:¬g*2^i<32768:=λ q=>by rw[if_pos q] at p;cases p
  exact(a i hi (by omega) h).more (by omega)
 .have hl2:g*2^i<32768:=Y_c λ q=>f (if_neg q)
  have h2:g*2^(i+1)<65536:=by rw[Int.pow_succ,<- Int.mul_assoc];omega
  have d:i+1<=15:=by
   refine Y_c λ c=>?_
   have:i=15:=by omega
   subst this;have e:(2:Int)^15=32768:=by decide
   rw[e] at hl2;omega
  refine Zq ((Zo (op:=1) (by decide) (Zs 5) (Zp 1)).to_ (y:=((i+1:Nat):Int)) (by
   show alu 1 (i:Int) _=_
   rw[Zar];unfold u32m;omega) (Yb _)) (by decide) ?_
  show WS I dep lk false _ [x,y,t,m,n,((i+1:Nat):Int),r,v,j,g,o] b _ _ _
  exact Z2 (k2:=16-(i+1)) (by omega) ⟨i+1,rfl,rfl,h2,d,rfl,by omega⟩
theorem Z3k {lk:Int}{st s:S.Vw}{C:Nat}{Q:List Int->S.Vw->Nat->Prop}{R:S.BO->Nat->Prop}{H x y t E g0 o0 V X:Int}{m n n1 W:Nat}{acc vd:List Int}{rest:List BS}(f6:st.reg 26=H)(hD:S.DvS st s H m n (m-n+1) [] acc vd)(g1:acc.length=m+1)(b8:vd.length=n+1)(da:S.Digs acc)(dv:S.Digs vd)(b4:n=n1+1)(g5:n<=m)(hn:n<=900)(hm:m<=900)
 (hV:V=S.dval (vd.take n)) (hw:32768<=vd.getD n1 0) (hX:X=S.dval acc) (f7:S.dval acc<V*65536^(m-n+1)) (i:∀a,H<=a->a<H+2*m+n+6->S.Dat I a) (hW:W=850+250*n)
 (b0:∀g o s' qs f,S.DvS st s' H m n 0 qs f vd->qs.length=m-n+1->S.Digs qs->f.length=m+1->S.Digs f->X=S.dval f+S.dval qs*V->S.dval f<V ->
  WS I 55 lk false rest [x,y,t,(m:Int),(n:Int),E,H+m+4,H+m+4+m+1,0,g,o] s' (C+5+(m-n+1)*W) Q R) :
 WS I 55 lk false (sWh (eL 8)
 [sAs 8 (eSub (eL 8) (eC 1)),
  sAs 9 (eB 5 eTop (eM (eAdd (eL 7) (eL 4)) (-1))),
  sWhen (eLt (eC 65535) (eL 9)) [sAs 9 (eC 65535)],
  sAs 10 (eF kNTake [eAt,eL 7,eL 4,eL 9]),
  sWh (eL 10) [sAs 9 (eSub (eL 9) (eC 1)),sWhen (eF kNBack [eAt,eL 7,eL 4]) [sAs 10 (eC 0)]],
  sPut (eAdd eH (eL 8)) 2 (eDg (eL 9))]::rest) [x,y,t,(m:Int),(n:Int),E,H+m+4,H+m+4+m+1,((m-n+1:Nat):Int),g0,o0] s C Q R:=by
 have h0:=hN.ok.size2;have h3:=(i H (Y5 _) (by omega)).1;have g4:=(i (H+2*m+n+5) (by omega) (by omega)).2.1;have L:=Zam dv n;have e2:(vd.take n).length=n:=by rw[Yr];omega
 have f9:0<=V/\V<65536^n:=by
  have h1:=Zg L;have h2:=Zg9 L;rw[e2] at h2;rw[hV];exact⟨h1,h2⟩
 have hT:(0:Int)<65536^n1:=Ya2 (by decide);obtain⟨w,a8⟩:=Yx (vd.getD n1 0);have bw:=Zy dv n1;rw[<- a8] at hw bw;have e7:V=w*65536^n1+psum (vd.take n) n1:=by
  rw[hV,<- Zaj (x:=vd.take n) (n:=n1+1) (by omega),psum,Zan (by omega),<- a8];omega
 have b3:=Zjl L n1;have e9:0<V:=by
  have:0<w*65536^n1:=Int.mul_pos (by omega) hT;omega
 refine Zfp (by decide) (λ env l C2 k=>∃(j:Nat)(g o:Int)(qs c:List Int),env=[x,y,t,(m:Int),(n:Int),E,H+m+4,H+m+4+m+1,(j:Int),g,o]/\j=k/\S.DvS st l H m n j qs c vd/\j+qs.length=m-n+1/\c.length=m+1/\S.Digs c/\S.Digs qs/\X=S.dval c+S.dval qs*65536^j*V/\S.dval c<V*65536^j/\C2<=C+qs.length*W) (k0:=m-n+1)
  ⟨m-n+1,g0,o0,[],acc,rfl,rfl,hD,rfl,g1,da,(λ d hd=>by cases hd),by show X=S.dval acc+0*_*V;rw[hX];simp,f7,by simp⟩ ?_
 rintro env l C2 k ⟨j,g,o,qs,c,rfl,rfl,D,g8,F,B,dq,d7,a2,g9⟩;refine⟨(j:Int),1,Zs 8,λ hz=>?_,λ b6=>?_⟩
 .have hj0:j=0:=by omega
  subst hj0;have c0:qs.length=m-n+1:=by omega
  refine(b0 g o l qs c D c0 dq F B (by rw[d7];simp) (by simpa using a2)).more ?_;rw[<- c0];omega
 obtain⟨j,rfl⟩:∃q,j=q+1:=⟨j-1,by omega⟩
 have hj:j+n<=m:=by omega
 have l4:∀s j g o,Yl I 55 lk [x,y,t,(m:Int),(n:Int),E,H+m+4,H+m+4+m+1,j,g,o] s (eL 4) n 1:=λ s j g o=>Zs 4
 have l6:∀s j g o,Yl I 55 lk [x,y,t,(m:Int),(n:Int),E,H+m+4,H+m+4+m+1,j,g,o] s (eL 6) (H+m+4) 1:=λ s j g o=>Zs 6
 have l7:∀s j g o,Yl I 55 lk [x,y,t,(m:Int),(n:Int),E,H+m+4,H+m+4+m+1,j,g,o] s (eL 7) (H+m+4+m+1) 1:=λ s j g o=>Zs 7
 have l8:∀s j g o,Yl I 55 lk [x,y,t,(m:Int),(n:Int),E,H+m+4,H+m+4+m+1,j,g,o] s (eL 8) j 1:=λ s j g o=>Zs 8
 have l9:∀s j g o,Yl I 55 lk [x,y,t,(m:Int),(n:Int),E,H+m+4,H+m+4+m+1,j,g,o] s (eL 9) g 1:=λ s j g o=>Zs 9
 obtain⟨d3,f1,d2,g7,h4⟩:=Z5y B (j:=j) (n:=n) (V:=V) (by omega) f9 a2;obtain⟨U,O⟩:=Yx (S.dval ((c.drop j).take (n+1)));rw[<- O] at d3 d2;have G:=Zam (Zbd B j) (n+1);have b9:((c.drop j).take (n+1)).length=n+1:=by rw[Yr,List.length_drop];omega
 have f2:0<=U:=by rw[O];exact Zg G
 obtain⟨M,a9⟩:∃q,q=c.getD (j+n) 0:=⟨_,rfl⟩
 obtain⟨K,a5⟩:∃q,q=c.getD (j+n1) 0:=⟨_,rfl⟩
 have a6:=Zy B (j+n);have e0:=Zy B (j+n1);rw[<- a9] at a6;rw[<- a5] at e0;have f3:U=(M*65536+K)*65536^n1+psum ((c.drop j).take (n+1)) n1:=by
  rw[O,<- Zaj (x:=(c.drop j).take (n+1)) (n:=n1+1+1) (by omega),psum,psum,Zan (by omega),Zan (by omega),Zeo,Zeo,<- a5,<- b4,<- a9,b4,Int.pow_succ];generalize (65536:Int)^n1=T;generalize psum ((c.drop j).take (n1+1+1)) n1=P
  grind
 have a0:=Zjl G n1;obtain⟨gg,J⟩:∃q,q=if 65535<(M*65536+K)/w then 65535 else(M*65536+K)/w:=⟨_,rfl⟩
 obtain⟨b7,d5,e5,f5⟩:=Z7b hT hw e7 b3.1 b3.2 f3 a0.1 a0.2 (by omega) d2 J;refine Zq ((Zo (op:=2) (by decide) (l8 l _ _ _) (Zp 1)).to_ (y:=(j:Int)) (by rw[Zkc];unfold u32m;omega) (Yb _)) (by decide) ?_
 show WS I 55 lk false _ [x,y,t,(m:Int),(n:Int),E,H+m+4,H+m+4+m+1,(j:Int),g,o] l _ _ _
 have b2:∀s g o,Yl I 55 lk [x,y,t,(m:Int),(n:Int),E,H+m+4,H+m+4+m+1,(j:Int),g,o] s eAt (H+m+4+j) 3:=λ s g o=>(Zo (op:=1) (by decide) (l6 s _ _ _) (l8 s _ _ _)).to_ (by rw[Zar];unfold u32m;omega) (Yb _)
 have a1:=λ s g o=>(Zo (op:=1) (by decide) (b2 s g o) (l4 s (j:Int) g o)).to_ (y:=H+m+4+j+n) (by rw[Zar];unfold u32m;omega) (Yb _)
 have m1:l.mem (H+m+4+j+n)=M:=by
  have:=D.r (j+n) (by omega);rw[show H+m+4+((j+n:Nat):Int)=H+m+4+j+n by omega] at this;rw[this,a9]
 have m2:l.mem (H+m+4+j+n-1)=K:=by
  have:=D.r (j+n1) (by omega);rw[show H+m+4+((j+n1:Nat):Int)=H+m+4+j+n-1 by omega] at this;rw[this,a5]
 have m3:l.mem (H+m+4+m+1+n-1)=w:=by
  have:=D.v n1 (by omega);rw[show H+m+4+m+1+((n1:Nat):Int)=H+m+4+m+1+n-1 by omega] at this;rw[this,a8]
 have y1:=Zmn (n:=0) (p:=H+m+4+j+n) (a1 l g o) (by unfold u32m;omega) (Za7 (i _ (by omega) (by omega)));have y2:=Zmn (n:=-1) (p:=H+m+4+j+n-1) (a1 l g o) (by unfold u32m;omega) (Za7 (i _ (by omega) (by omega)));have y3:=Zmn (n:=-1) (p:=H+m+4+m+1+n-1) ((Zo (op:=1) (by decide) (l7 l (j:Int) g o) (l4 l (j:Int) g o)).to_ (y:=H+m+4+m+1+n) (by rw[Zar];unfold u32m;omega) (Yb _)) (by unfold u32m;omega) (Za7 (i _ (by omega) (by omega)));rw[m1] at y1;rw[m2] at y2;rw[m3] at y3;refine Zq ((Z5w (op:=5) (λ e=>by omega) (Zo (op:=8) (by decide) (Zo (op:=10) (by decide) y1 (Zp 16)) y2) y3).to_ (y:=(M*65536+K)/w) (by rw[Z50 a6,Z1o a6 e0,Z8z]) (Yb _)) (by decide) ?_
 show WS I 55 lk false _ [x,y,t,(m:Int),(n:Int),E,H+m+4,H+m+4+m+1,(j:Int),(M*65536+K)/w,o] l _ _ _
 have Z:∀(C3:Nat)(Q:List Int->S.Vw->Nat->Prop),C3<=C2+60->(∀Y g3 o3 h u C4,C4<=C2+W->S.DvS st Y H m n j u h vd->j+u.length=m-n+1->u.length=qs.length+1->h.length=m+1->S.Digs h->S.Digs u->X=S.dval h+S.dval u*65536^j*V->S.dval h<V*65536^j ->
  WS I 55 lk false [] [x,y,t,(m:Int),(n:Int),E,H+m+4,H+m+4+m+1,(j:Int),g3,o3] Y (C4-3) Q R) ->
  WS I 55 lk false [sAs 10 (eF kNTake [eAt,eL 7,eL 4,eL 9]),sWh (eL 10) [sAs 9 (eSub (eL 9) (eC 1)),sWhen (eF kNBack [eAt,eL 7,eL 4]) [sAs 10 (eC 0)]],sPut (eAdd eH (eL 8)) 2 (eDg (eL 9))]
   [x,y,t,(m:Int),(n:Int),E,H+m+4,H+m+4+m+1,(j:Int),gg,o] l C3 Q R:=λ C3 Q h5 b1=>by
  obtain⟨r1,r2⟩:=Z1n hN D F b8 hj i;have a4:=Ztj hN r1 r2 G L b9 e2 hn (by omega) ⟨b7,d5⟩;refine Z5z (N:=100+90*n) (T:=λ Y k3=>∃z b,S.RwS l Y (H+m+4+j) z/\S.Digs z/\z.length=n+1/\(b=0\/b=1)/\Y.reg 4=b/\S.dval z=U-gg*V+b*65536^(n+1)) (d:=23)
   (Za (b2 l _ _) (Za (l7 l _ _ _) (Za (l4 l _ _ _) (Za (l9 l _ _ _) Zf)))) (by decide) (by simp) (λ f4 e4=>?_) (by decide) (λ Y k3 e6=>?_)
  .exact(a4 f4 e4).mono λ _ o k hh=>by
    obtain⟨s,z,b,e,q1,q2,q3,q4,q5,q6,q7⟩:=hh;exact⟨s,e,q7,z,b,q1,q2,q3,q4,q5,by rw[q6,O,hV]⟩
  obtain⟨z,b,q1,q2,q3,q4,q5,q6⟩:=e6;rw[q5]
  show WS I 55 lk false _ [x,y,t,(m:Int),(n:Int),E,H+m+4,H+m+4+m+1,(j:Int),gg,b] Y _ _ _
  obtain⟨w1,w2,w3,w4⟩:=Zqr F hj q3;have d8:=Zqq D q1 q3 hj F (by omega);have db:=Ze2 (Zam B j) (Ze2 q2 (Zbd B (j+n+1)));refine Z3i hN (by decide) d8 w1 b8 db dv hj hn (by omega) hV e9 f2 ⟨b7,d5⟩ (by
   rw[w4];rcases q4 with e|e
   .exact .inl ⟨e,by rw[q6,e];omega⟩
   .exact .inr ⟨e,by rw[q6,e,Int.one_mul]⟩) e5 f5 i λ g' s' f e8 a7 d6 f0 d9 d0 f8 g6 g2=>?_
  have a3:s'.reg 26=H:=by rw[a7.reg 26 (by decide)];exact f6
  have b5:=i (H+2+j) (by omega) (by omega);refine Zb3 (x:=4*g') (p:=H+2+j) ((Zo (op:=1) (by decide) ((Zyl (n:=26) (by decide)).to_ a3 (Yb _)) (l8 s' _ _ _)).to_ (y:=H+j) (by rw[Zar];unfold u32m;omega) (Yb _)) ((Zo (op:=10) (by decide) (Zo (op:=7) (by decide) (l9 s' _ _ _) (Zp 65535)) (Zp 2)).to_ (by rw[Zfq ⟨by omega,by omega⟩];omega) (Yb _)) (by decide) (by decide) (by unfold u32m;omega) b5.2 ?_;have d4:=Z3h a7 g' (by omega);have e1:f=c.take j++((f.drop j).take (n+1)++c.drop (j+n+1)):=by
   rw[w2] at d9;rw[w3] at d0;rw[<- d9,<- d0,show j+n+1=j+(n+1) by omega,<- List.drop_drop,Ya1,Ya1]
  have d1:=congrArg S.dval e1;have l1:(c.take j).length=j:=by rw[Yr];omega
  have l2:((f.drop j).take (n+1)).length=n+1:=by rw[Yr,List.length_drop];omega
  have e3:c.drop (j+n+1)=(c.drop j).drop (n+1):=by rw[List.drop_drop,show j+n+1=j+(n+1) by omega]
  rw[Zge,Zge,l1,l2,f8,e3,f1,Int.mul_zero,Ybc] at d1;have pj:(0:Int)<65536^j:=Ya2 (by decide);refine(b1 _ g' 0 f (g'::qs) (C2+W) (Yb _) d4 (by rw[Yj];omega) rfl d6 f0 (λ d hd=>(List.mem_cons.1 hd).elim (λ e=>by rw[e];exact e8) (dq d)) ?_ ?_).more (by omega)
  .rw[d7,d3,d1]
   show _=_+(g'+65536*S.dval qs)*65536^j*V
   rw[Int.pow_succ];generalize (65536:Int)^j=Bj at *;generalize S.dval qs=dqs at *;generalize S.dval (c.take j)=lo at *;clear D a7 d4 d8 q1 q6 b5 a3 e1 e3
   grind
  .rw[d1]
   have h1:65536^j*(U-g'*V)<=65536^j*(V-1):=Int.mul_le_mul_of_nonneg_left (by omega) (by omega);have h2:(65536:Int)^j*(V-1)=V*65536^j-65536^j:=by
    generalize (65536:Int)^j=Bj
    grind
   omega
 have yg:=Zo (op:=14) (by decide) (Zp 65535) (l9 l (j:Int) ((M*65536+K)/w) o);rw[Zcj,show(65535%4294967296:Int)=65535 from rfl] at yg;refine Zr yg (by decide) (λ hz=>?_) (λ b6=>?_)
 .have hle:¬65535<(M*65536+K)/w:=λ q=>by rw[if_pos q] at hz;cases hz
  rw[if_neg hle] at J;rw[<- J];refine Z _ _ (by omega) λ Y g3 o3 h u C4 c1 c2 c3 c4 c5 c6 c7 c8 c9=>?_
  refine Z2 (k2:=j) (by omega) ⟨j,g3,o3,u,h,rfl,rfl,c2,c3,c5,c6,c7,c8,c9,?_⟩;rw[c4,Yco,Nat.one_mul];omega
 .have hlt3:65535<(M*65536+K)/w:=Y_c λ q=>b6 (if_neg q)
  rw[if_pos hlt3] at J;refine Zq (Zp 65535) (by decide) (Zbi 3 ?_)
  show WS I 55 lk false _ [x,y,t,(m:Int),(n:Int),E,H+m+4,H+m+4+m+1,(j:Int),65535,o] l _ _ _
  rw[<- J];refine Z _ _ (by omega) λ Y g3 o3 h u C4 c1 c2 c3 c4 c5 c6 c7 c8 c9=>?_
  refine Z2 (k2:=j) (by omega) ⟨j,g3,o3,u,h,rfl,rfl,c2,c3,c5,c6,c7,c8,c9,?_⟩;rw[c4,Yco,Nat.one_mul];omega
end
end
section
theorem Z7c {env:List Int}(h:(env.length:Int)=11):∃a b c d e f g i j k l,env=[a,b,c,d,e,f,g,i,j,k,l]:=by
 obtain⟨a,r,rfl⟩:∃a r,env=a::r:=by cases env with|nil=>simp at h|cons a r=>exact⟨a,r,rfl⟩
 obtain⟨b,r,rfl⟩:∃a r',r=a::r':=by cases r with|nil=>simp at h|cons a r=>exact⟨a,r,rfl⟩
 obtain⟨c,r,rfl⟩:∃a r',r=a::r':=by cases r with|nil=>simp at h|cons a r=>exact⟨a,r,rfl⟩
 obtain⟨d,e,f,g,i,j,k,l,rfl⟩:=Z79 (env:=r) (by simp only[Yj] at h;omega);exact⟨a,b,c,d,e,f,g,i,j,k,l,rfl⟩
theorem Zrq {a b:Nat}(h:a<=b):(65536:Int)^a<=65536^b:=by
 obtain⟨c,rfl⟩:=Nat.le.dest h;rw[Int.pow_add];have h1:(0:Int)<65536^a:=Ya2 (by decide);have h2:(0:Int)<65536^c:=Ya2 (by decide);have:=Int.mul_le_mul_of_nonneg_left (show 1<=(65536:Int)^c by omega) (Yaz h1);omega
section
variable {I:S.Img}(hN:NSegs I)
include hN
theorem Zww {dep lk:Int}{env:List Int}{st s:S.Vw}{C:Nat}{Q:List Int->S.Vw->Nat->Prop}{R:S.BO->Nat->Prop}{r:List BS}{H neg val:Int}{acc:List Int}{M N:Nat}{p el:BE}{K:Nat}(b:neg=0\/neg=1)(d:HpS st s H acc)(l:st.reg 26=H)(t:S.Digs acc)(w:acc.length<=1000)(f:∀j:Nat,j<acc.length+2->S.Dat I (H+j))(u:S.dval acc=val)(hM:acc.length+2<=M)
 (x:Yls I dep lk env s [p,el] [neg,(acc.length:Int)] K) (h:dEs [p,el]<=20) (g:19<=dep) (hC:C+K+(300+60*acc.length)+14<=N) (y:∀o k,NumR I st H neg val M N o k->R o k):WS I dep lk false (S.sVal (eF kNFin [p,el])::r) env s C Q R:=by
 have e:=Z1s (I:=I) d l t w f;refine Zmo (T:=FinR s H neg acc (300+60*acc.length)) x h (by simp) (Zo4 hN b e) g λ o k q=>?_
 have i:=q;obtain⟨v,rfl,hk,_⟩:=q;intro c hc;exact y _ _ ⟨s,acc,e,u,λ a ha=>d.out_ a (by omega),d.reg,d.inp,d.out,Zjq i (by omega)⟩
theorem Z3l {lk:Int}{s:S.Vw}{C:Nat}{Q:List Int->S.Vw->Nat->Prop}{R:S.BO->Nat->Prop}{H x y t g o v P:Int}{m n k:Nat}{acc:List Int}{rest:List BS}(a2:s.reg 26=H)(hr:∀i:Nat,i<m+1->s.mem (H+m+4+i)=acc.getD i 0)(a8:acc.length=m+1)(J:S.Digs acc)(a5:n<=m)(hm:m<=900)(hk:k<=15)(hP:P=2^k)(E:S.dval acc<65536^n)(h:∀a,H<=a->a<H+2*m+n+6->S.Dat I a)
 (G:∀g f e,HpS s f H e->e.length=n->S.Digs e->P*S.dval e+acc.getD 0 0%P=S.dval acc->WS I 55 lk false rest [x,y,t,(m:Int),(n:Int),(k:Int),H+m+4,v,(n:Int),g,o] f (C+10+60*n) Q R) :
 WS I 55 lk false (sWh (eLt (eL 8) (eL 4))
 [sAs 9 (eB 8 (eShl (eM (eAdd eAt (eC 1)) 0) 16) (eM eAt 0)),
  sPut (eAdd eH (eL 8)) 2 (eDg (eB 11 (eL 9) (eL 5))),
  sInc 8]::rest) [x,y,t,(m:Int),(n:Int),(k:Int),H+m+4,v,0,g,o] s C Q R:=by
 have a6:=hN.ok.size2;have a7:=(h H (Y5 _) (by omega)).1;have a4:=(h (H+2*m+n+5) (by omega) (by omega)).2.1;have X:=Zla hk;rw[<- hP] at X;have W:acc.getD n 0=0:=by
  have h1:=Zdd J E;have h2:=Zdd J (n:=n+1) (Int.lt_of_lt_of_le E (Zrq (by omega)));rw[psum] at h2;have h3:=Zy J n;have hp:(0:Int)<65536^n:=Ya2 (by decide);refine Y_c λ c=>?_
  have:=Int.mul_le_mul_of_nonneg_right (show 1<=acc.getD n 0 by omega) (Yaz hp);omega
 refine Zfp (by decide) (λ env f C2 q=>∃(i:Nat)(g:Int)(e:List Int),env=[x,y,t,(m:Int),(n:Int),(k:Int),H+m+4,v,(i:Int),g,o]/\q=n-i/\i<=n/\e.length=i/\S.Digs e/\HpS s f H e/\P*S.dval e+acc.getD 0 0%P=psum acc i+(acc.getD i 0%P)*65536^i/\C2<=C+60*i) (k0:=n)
  ⟨0,g,[],rfl,rfl,Yae _,rfl,(λ d L=>by cases L),Zmx (.refl _),by show P*0+_=0+_*1;simp,by omega⟩ ?_
 rintro env f C2 q ⟨i,g,e,rfl,rfl,hi,r,M,K,z,hC⟩;have U:∀s i g,Yl I 55 lk [x,y,t,(m:Int),(n:Int),(k:Int),H+m+4,v,i,g,o] s (eL 8) i 1:=λ s i g=>Zs 8
 have l4:∀s i g,Yl I 55 lk [x,y,t,(m:Int),(n:Int),(k:Int),H+m+4,v,i,g,o] s (eL 4) n 1:=λ s i g=>Zs 4
 have l5:∀s i g,Yl I 55 lk [x,y,t,(m:Int),(n:Int),(k:Int),H+m+4,v,i,g,o] s (eL 5) k 1:=λ s i g=>Zs 5
 have l6:∀s i g,Yl I 55 lk [x,y,t,(m:Int),(n:Int),(k:Int),H+m+4,v,i,g,o] s (eL 6) (H+m+4) 1:=λ s i g=>Zs 6
 have l9:∀s i g,Yl I 55 lk [x,y,t,(m:Int),(n:Int),(k:Int),H+m+4,v,i,g,o] s (eL 9) g 1:=λ s i g=>Zs 9
 have Y:=Zo (op:=14) (by decide) (U f (i:Int) g) (l4 f (i:Int) g);rw[Zcj] at Y;refine⟨_,_,Y,λ hz=>?_,λ Z=>?_⟩
 .have hiE:i=n:=Y_c λ q=>by rw[if_pos (by omega)] at hz;cases hz
  subst hiE;refine(G g f e K r M ?_).more (by omega);rw[z,W,Zdd J E];simp
 .have hlt2:i<n:=Y_c λ q=>Z (if_neg (by omega))
  have m1:f.mem (H+m+4+i+1)=acc.getD (i+1) 0:=by
   rw[K.out_ _ (by omega)];have:=hr (i+1) (by omega);rw[show H+m+4+((i+1:Nat):Int)=H+m+4+i+1 by omega] at this;exact this
  have m0:f.mem (H+m+4+i)=acc.getD i 0:=by
   rw[K.out_ _ (by omega)];exact hr i (by omega)
  have V:=Zy J (i+1);have bb:=Zy J i;have B:=(Zo (op:=1) (by decide) (l6 f (i:Int) g) (U f (i:Int) g)).to_ (y:=H+m+4+i) (by rw[Zar];unfold u32m;omega) (Yb _);have u:=(Zo (op:=1) (by decide) B (Zp 1)).to_ (y:=H+m+4+i+1) (by rw[Zar];unfold u32m;omega) (Yb _);have O:=Zmn (n:=0) (p:=H+m+4+i+1) u (by unfold u32m;omega) (Za7 (h _ (by omega) (by omega)));have T:=Zmn (n:=0) (p:=H+m+4+i) B (by unfold u32m;omega) (Za7 (h _ (by omega) (by omega)));rw[m1] at O;rw[m0] at T;have l:=Z3g hk hP V bb;obtain⟨a,ha⟩:=Yx (acc.getD (i+1) 0);obtain⟨b,hb⟩:=Yx (acc.getD i 0);rw[<- ha] at V O l;rw[<- hb] at bb T l;refine Zq ((Zo (op:=8) (by decide) (Zo (op:=10) (by decide) O (Zp 16)) T).to_ (y:=a*65536+b) (by rw[Z50 V,Z1o V bb]) (Yb _)) (by decide) ?_
  show WS I 55 lk false _ [x,y,t,(m:Int),(n:Int),(k:Int),H+m+4,v,(i:Int),a*65536+b,o] f _ _ _
  have w:f.reg 26=H:=by rw[K.reg 26 (by decide)];exact a2
  obtain⟨d,L⟩:=Yx ((a*65536+b)/P);rw[<- L] at l;have a1:0<=d:=by rw[L];exact Yb5 (by omega) (by omega)
  have a3:d<4294967296:=by
   rw[L];exact Int.lt_of_le_of_lt (Int.ediv_le_self _ (by omega)) (by omega)
  have N:=h (H+2+i) (by omega) (by omega);refine Zb3 (x:=4*(d%65536)) (p:=H+2+i) ((Zo (op:=1) (by decide) ((Zyl (n:=26) (by decide)).to_ w (Yb _)) (U f _ _)).to_ (y:=H+i) (by rw[Zar];unfold u32m;omega) (Yb _)) ((Zo (op:=10) (by decide) (Zo (op:=7) (by decide) (Zo (op:=11) (by decide) (l9 f _ _) (l5 f _ _)) (Zp 65535)) (Zp 2)).to_ (by rw[Z8y hk hP,<- L,Zfq ⟨a1,a3⟩]) (Yb _)) (by decide) (by decide) (by unfold u32m;omega) N.2 ?_;have F:=Zgi K (d%65536);rw[r] at F;refine Zq ((Zo (op:=1) (by decide) (U _ _ _) (Zp 1)).to_ (y:=((i+1:Nat):Int)) (by rw[Zar];unfold u32m;omega) (Yb _)) (by decide) ?_
  show WS I 55 lk false _ [x,y,t,(m:Int),(n:Int),(k:Int),H+m+4,v,((i+1:Nat):Int),a*65536+b,o] _ _ _ _
  refine Z2 (k2:=n-(i+1)) (by omega) ⟨i+1,_,e++[d%65536],rfl,rfl,by omega,by rw[Yd,r];rfl,Zbf M ⟨by omega,by omega⟩,F,?_,by omega⟩;rw[Zbe,r,psum,<- ha,<- hb,Int.pow_succ];rw[<- hb] at z;generalize (65536:Int)^i=Bi at *;generalize d%65536=dd at *;generalize a%P=ap at *;generalize b%P=bp at *;generalize S.dval e=D at *;generalize psum acc i=Pa at *;generalize acc.getD 0 0%P=a0 at *;clear K F O T B u Y N m0 m1 w
  grind
end
theorem Zwx {I:S.Img}{st s:S.Vw}{H neg val:Int}{M b N k:Nat}{o:S.BO}(hm:∀a,a<H\/H+b<=a->s.mem a=st.mem a)(q:∀j,¬(4<=j/\j<=7)->s.reg j=st.reg j)(hi:s.inp=st.inp)(r:s.out=st.out)(hM:M<=b)(h:NumR I s H neg val M N o k):NumR I st H neg val b N o k:=by
 obtain⟨e,l,h1,h2,h3,g,p,d,i⟩:=h;exact⟨e,l,h1,h2,λ a f=>(h3 a (by omega)).trans (hm a f),λ j c=>(g j c).trans (q j c),p.trans hi,d.trans r,i⟩
theorem Zz8 {I:S.Img}{mem:Int->Int}{H:Int}:NumIn I mem H 0 0 [0,0]:=⟨⟨by decide,.inl rfl,(λ d a=>by simp at a;rw[a];decide),by simp,.inl ⟨rfl,rfl,rfl⟩⟩,λ p e=>by omega⟩
theorem Zwy {X Y q r:Int}(hY:0<Y)(h:X=r+q*Y)(h0:0<=r)(h1:r<Y):X/Y=q/\X%Y=r:=by
 have e:X=r+Y*q:=by rw[h,Int.mul_comm]
 constructor
 .rw[e,Int.add_mul_ediv_left _ _ (by omega),Int.ediv_eq_zero_of_lt h0 h1,Int.zero_add]
 .rw[e,Int.add_mul_emod_self_left,Int.emod_eq_of_lt h0 h1]
end
