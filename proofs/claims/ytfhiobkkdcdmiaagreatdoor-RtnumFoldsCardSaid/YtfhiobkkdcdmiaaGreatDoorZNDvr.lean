/- Parts. -/
import Derived.Test.YtfhiobkkdcdmiaaGreatDoorZNMul
set_option linter.all false
open Nat renaming le_refl->Yb,zero_le->Yag,add_mul->Yci
open List renaming length_append->Yd,getD_eq_getElem?_getD->Ye,length_cons->Yi,getElem?_append_left->Ym,getElem?_append_right->Yo,length_take->Yq,length_nil->Yad,nil_append->Yaj,take_append_drop->Yay,take_of_length_le->Ybl,getElem?_drop->Ybu,mem_of_mem_take->Ydd
open Int renaming le_refl->Y7,toNat_natCast->Yah,pow_pos->Yar,mul_nonneg->Yat,le_of_lt->Ya3
namespace Go.Proofs.YtfhiobkkdcdmiaaGreatDoor
open Go.RowKit
section
namespace S
structure RwS (st s:Vw)(A:Int)(acc:List Int):Prop where
 out_:∀a,a<A\/A+acc.length<=a->s.mem a=st.mem a
 dig:∀j:Nat,j<acc.length->s.mem (A+j)=acc.getD j 0
 reg:∀j,¬(4<=j/\j<=7)->s.reg j=st.reg j
 inp:s.inp=st.inp
 out:s.out=st.out
end S
theorem Z2k {ds:List Int}{n m:Nat}(h:S.Top ds n)(k:S.Top ds m):n=m:=by
 refine Y_c λ c=>?_
 rcases Nat.lt_or_gt_of_ne c with q|q
 .exact k.2.2.elim (λ e=>by omega) λ e=>e (h.2.1 _ (by omega))
 .exact h.2.2.elim (λ e=>by omega) λ e=>e (k.2.1 _ (by omega))
theorem Z0d (ds:List Int):∃n,S.Top ds n:=by
 have key:∀n:Nat,n<=ds.length->(∀j,n<=j->ds.getD j 0=0)->∃n,S.Top ds n:=by
  intro n
  induction n with
  | zero=>exact λ h1 h2=>⟨0,h1,h2,.inl rfl⟩
  | succ n ih =>
   intro h1 h2;by_cases c:ds.getD n 0=0
   .exact ih (by omega) λ j hj=>if e:j=n then by rw[e];exact c else h2 j (by omega)
   .exact⟨n+1,h1,h2,.inr (by rw[Nat.add_sub_cancel];exact c)⟩
 exact key ds.length (Yb _) λ j hj=>by rw[Ye,List.getElem?_eq_none hj];rfl
theorem Z0e {ds:List Int}(hd:S.Digs ds){n:Nat}(h:S.Top ds n):S.dval ds<65536^n/\(0<n->65536^(n-1)<=S.dval ds):=by
 have e:=Zda h;have hdt:S.Digs (ds.take n):=λ d q=>hd d (Ydd q)
 have hl:(ds.take n).length=n:=by rw[Yq];have:=h.1;omega
 refine⟨?_,λ hn=>?_⟩
 .have:=Zgz hdt
  rw[hl] at this;omega
 .have h1:=Zga (n-1) ds
  have h2:1<=S.dval (ds.drop (n-1)):=by
   have h3:=Za3 (ds.drop (n-1));have h4:(ds.drop (n-1)).getD 0 0=ds.getD (n-1) 0:=by
    rw[Ye,Ybu,Nat.add_zero,<- Ye]
   have h5:=Zz hd (n-1);have h6:=h.2.2.resolve_left (by omega);have h7:=Zk (Zb5 (x:=ds.drop (n-1)) λ d q=>hd d (List.mem_of_mem_drop q));omega
  have h3:0<=S.psum ds (n-1):=by
   have:∀i:Nat,0<=S.psum ds i:=λ i=>by
    induction i with
    | zero=>exact Y7 _
    | succ i ih =>
     have hb:=Zz hd i;have hp:(0:Int)<65536^i:=Yar (by decide);have:=Yat hb.1 (Ya3 hp);rw[S.psum];omega
   exact this _
  have hp:(0:Int)<65536^(n-1):=Yar (by decide);have h4:=Int.mul_le_mul_of_nonneg_left h2 (Ya3 hp);rw[Int.mul_one] at h4;omega
section
variable {st s:S.Vw}{A:Int}{acc:List Int}
theorem Zp5 (h:S.Sim st s):S.RwS st s A []:=⟨λ a _=>by rw[h.mem],λ j hj=>absurd hj (Nat.not_lt_zero _),h.reg,h.inp,h.out⟩
theorem Zew (h:S.RwS st s A acc)(d:Int):S.RwS st (s.sto (A+acc.length) d) A (acc++[d]):=by
 have hm:∀a,(s.sto (A+acc.length) d).mem a=if a=A+acc.length then d else s.mem a:=λ _=>rfl
 refine⟨λ a ha=>?_,λ j hj=>?_,h.reg,h.inp,h.out⟩
 .rw[Yd,Yi,Yad] at ha
  rw[hm,if_neg (by omega)];exact h.out_ a (by omega)
 .rw[Yd,Yi,Yad] at hj
  rw[hm,Ye];by_cases c:j=acc.length
  .subst c
   rw[if_pos rfl,Yo (Yb _),Nat.sub_self];rfl
  .rw[if_neg (by omega),Ym (by omega),<- Ye]
   exact h.dig j (by omega)
theorem Zp6 {s':S.Vw}(h:S.RwS st s A acc)(k:S.Sim s s'):S.RwS st s' A acc:=⟨λ a ha=>by rw[k.mem];exact h.out_ a ha,λ j hj=>by rw[k.mem];exact h.dig j hj,λ j hj=>(k.reg j hj).trans (h.reg j hj),k.inp.trans h.inp,k.out.trans h.out⟩
end
section
variable {I:S.Img}(hN:S.NSegs I)
include hN
theorem Zoc {st:S.Vw}{v neg:Int}{ds:List Int}{n:Nat}(hx:S.NumAt I st.mem v neg ds)(hT:S.Top ds n):S.Tells I S.kNTop st [v] 52 n (800+500*ds.length):=by
 obtain⟨iD,hD⟩:=hN.top;refine Zes hN.ok S.rNTop (by kernel_rfl) hD (dep:=34) (by decide) rfl rfl λ lk env s1 hl hp hs1 Q=>?_
 obtain⟨e0,e1,e2,rfl⟩:=Zv6 hl;have h0:e0=v:=hp 0 (show 0<1 by decide);subst h0;have hm:s1.mem=st.mem:=hs1.mem;have hx':S.NumAt I s1.mem e0 neg ds:=by rw[hm];exact hx
 have hfew:=hx.few;have l0:∀a b,S.Yl I 34 lk [e0,a,b] s1 (S.eL 0) e0 1:=λ a b=>Zs 0
 have l1:∀a b,S.Yl I 34 lk [e0,a,b] s1 (S.eL 1) a 1:=λ a b=>Zs 1
 have l2:∀a b,S.Yl I 34 lk [e0,a,b] s1 (S.eL 2) b 1:=λ a b=>Zs 2
 show S.WS I 34 lk false [S.sAs 1 (S.eF S.kNLen [S.eL 0]),S.sAs 2 (S.eC 1),
  S.sWh (S.eL 2) [S.sAs 2 (S.eC 0),S.sWhen (S.eL 1) [S.sWhen (S.eNot (S.eF S.kNDig [S.eL 0,S.eSub (S.eL 1) (S.eC 1)])) [S.sAs 1 (S.eSub (S.eL 1) (S.eC 1)),S.sAs 2 (S.eC 1)]]],
  S.sVal (S.eL 1)] [e0,e1,e2] s1 8 Q _
 refine Zo (Zd1 (Za (l0 _ _) Zh) (by simp) (Za8 hN hx') (by decide)) (by decide) ?_
 show S.WS I 34 lk false _ [e0,(ds.length:Int),e2] s1 _ _ _
 refine Zo (Zp 1) (by decide) ?_
 show S.WS I 34 lk false _ [e0,(ds.length:Int),1] s1 _ _ _
 refine Zfe (by decide) (λ env s C k=>s=s1/\∃(i:Nat)(f:Int),env=[e0,(i:Int),f]/\i<=ds.length/\(∀j,i<=j->ds.getD j 0=0)/\((f=0/\k=0/\(i=0\/ds.getD (i-1) 0≠0)/\C<=260+480*(ds.length-i)+400)\/(f=1/\k=i+1/\C<=260+480*(ds.length-i)))) (k0:=ds.length+1)
  ⟨rfl,ds.length,1,rfl,Yb _,λ j hj=>by rw[Ye,List.getElem?_eq_none hj];rfl,.inr ⟨rfl,rfl,by omega⟩⟩ ?_
 rintro env s C k ⟨rfl,i,f,rfl,hi,hz,hcase⟩;refine⟨f,1,l2 _ _,λ hf=>?_,λ hf=>?_⟩
 .rcases hcase with⟨_,_,htop,hC⟩|⟨q,_,_⟩
  .have hTi:S.Top ds i:=⟨hi,hz,htop⟩
   have e:=Z2k hT hTi;subst e;exact Zch (l1 _ _) (by decide) hs1 (by omega)
  .rw[q] at hf;cases hf
 .rcases hcase with⟨q,_⟩|⟨rfl,rfl,hC⟩
  .exact absurd q hf
  refine Zo (Zp 0) (by decide) ?_
  show S.WS I 34 lk false _ [e0,(i:Int),0] s _ _ _
  refine Zv (l1 _ _) (by decide) (λ hn0=>Z3 (k2:=0) (by omega) ⟨rfl,i,0,rfl,hi,hz,.inl ⟨rfl,rfl,.inl (by omega),by omega⟩⟩) (λ hn0=>?_);obtain⟨q,rfl⟩:∃q,i=q+1:=⟨i-1,by omega⟩
  have y1:=Zd1 (d:=34) (dep:=34) (lk:=lk) (env:=[e0,((q+1:Nat):Int),0]) (Za (l0 _ _) (Za ((Zn (op:=2) (by decide) (l1 _ _) (Zp 1)).to_ (y:=(q:Int)) (by rw[Zjw];unfold S.u32m;omega) (Yb _)) Zh)) (by simp) (Za9 hN hx' ⟨by omega,by omega⟩) (by decide);rw[Yah] at y1;refine Zv (Zow y1 (Zp 0)) (by decide) (λ hq=>Zbj 3 ?_) (λ hq=>?_)
  .refine Z3 (k2:=0) (by omega) ⟨rfl,q+1,0,rfl,hi,hz,.inl ⟨rfl,rfl,.inr λ e=>?_,by omega⟩⟩
   rw[Nat.add_sub_cancel] at e;rw[e] at hq
   cases hq
  .have hzero:ds.getD q 0=0:=Y_c λ e=>hq (if_neg e)
   refine Zo ((Zn (op:=2) (by decide) (l1 _ _) (Zp 1)).to_ (y:=(q:Int)) (by rw[Zjw];unfold S.u32m;omega) (Yb _)) (by decide) ?_
   show S.WS I 34 lk false _ [e0,(q:Int),0] s _ _ _
   refine Zo (Zp 1) (by decide) (Zbj 3 (Zbj 3 ?_))
   show S.WS I 34 lk false _ [e0,(q:Int),1] s _ _ _
   refine Z3 (k2:=q+1) (by omega) ⟨rfl,q,1,rfl,by omega,λ j hj=>?_,.inr ⟨rfl,rfl,by omega⟩⟩;by_cases c:j=q
   .rw[c];exact hzero
   .exact hz j (by omega)
end
end
section
theorem Zku {k:Nat}(h:k<=15):(1:Int)<=2^k/\(2:Int)^k<=32768:=by
 match k,h with
 | 0,_=>decide
 | 1,_=>decide
 | 2,_=>decide
 | 3,_=>decide
 | 4,_=>decide
 | 5,_=>decide
 | 6,_=>decide
 | 7,_=>decide
 | 8,_=>decide
 | 9,_=>decide
 | 10,_=>decide
 | 11,_=>decide
 | 12,_=>decide
 | 13,_=>decide
 | 14,_=>decide
 | 15,_=>decide
 | n+16,h=>omega
theorem Z6v {k:Nat}(hk:k<=15){d P:Int}(hP:P=2^k)(hd:0<=d/\d<65536):S.alu 10 d (k:Int)=d*P:=by
 have h:=Zku hk;rw[<- hP] at h;have e:((k:Int)%32).toNat=k:=by omega
 show S.u32m (d*2^((k:Int)%32).toNat)=d*P
 rw[e,<- hP];have h1:d*P<=65535*32768:=Int.mul_le_mul (by omega) h.2 (by omega) (by decide);have h0:0<=d*P:=Yat hd.1 (by omega);unfold S.u32m;omega
theorem Z7k {k:Nat}(hk:k<=15){x P:Int}(hP:P=2^k):S.alu 11 x (k:Int)=x/P:=by
 have e:((k:Int)%32).toNat=k:=by omega
 show x/2^((k:Int)%32).toNat=x/P
 rw[e,<- hP]
theorem Z6c {k:Nat}(hk:k<=15){c d P:Int}(hP:P=2^k)(hc:0<=c/\c<P)(hd:0<=d/\d<65536):S.alu 8 c (d*P)=c+d*P:=by
 have h:=Zku hk;rw[<- hP] at h;have h1:d*P<=65535*32768:=Int.mul_le_mul (by omega) h.2 (by omega) (by decide);have h0:0<=d*P:=Yat hd.1 (by omega)
 show bits .or .u32 c (d*P)=_
 rw[u32_or (by omega) (by omega) (by omega) (by omega),Nat.or_comm,<- u32_or (by omega) (by omega) (by omega) (by omega)];exact(Zw k (d*P) c P hP h0 (Int.mul_emod_left d P) (by omega) hc.1 hc.2 (by omega)).trans (by omega)
theorem Zwc {I:S.Img}{st s:S.Vw}{H A v neg:Int}{ds acc:List Int}(h:S.NumIn I st.mem H v neg ds)(hA:H<=A)(hs:S.RwS st s A acc):S.NumAt I s.mem v neg ds:=h.1.same λ p e j hj=>hs.out_ _ (by have:=h.2 p e;omega)
def S.bm (st:S.Vw)(A:Int)(n:Nat)(val:Int)(N:Nat)(o:S.BO)(k:Nat):Prop:=∃s acc,o=.ret s/\S.RwS st s A acc/\S.Digs acc/\acc.length=n/\S.dval acc=val/\k<=N
section
variable {I:S.Img}(hN:S.NSegs I)
include hN
theorem Zod {st:S.Vw}{H A v neg P:Int}{x:List Int}{n k:Nat}(hx:S.NumIn I st.mem H v neg x)(hA:H<=A)(hk:k<=15)(hP:P=2^k)(hn:n<=900)(hdat:∀j:Nat,j<n+1->S.Dat I (A+j)) :
 ∀st1,S.Sim st st1->S.Real I S.kNShl false (st1.args [v,n,k,A]) 55 (λ _ o c=>S.bm st A (n+1) (S.psum x n*P) (200+500*n) o c):=λ st1 hs1=>by
 obtain⟨iF,hF⟩:=hN.shl;have hr:=Zcw hN.ok S.rNShl (by kernel_rfl) hF (dep:=34) (by decide) (st1.args [v,n,k,A]) (S.bm st A (n+1) (S.psum x n*P) (200+500*n)) λ lk env hl hp=>?_
 .exact hr
 obtain⟨e0,e1,e2,e3,e4,e5,rfl⟩:=Z2p hl;have h0:e0=v:=hp 0 (show(0:Int)<4 by decide);have h1:e1=(n:Int):=hp 1 (show(1:Int)<4 by decide);have h2:e2=(k:Int):=hp 2 (show(2:Int)<4 by decide);have h3:e3=A:=hp 3 (show(3:Int)<4 by decide);subst h0 h1 h2 h3;have hs:S.Sim st (st1.args [e0,(n:Int),(k:Int),e3]):=hs1.args (by simp);obtain⟨s1,hs1e⟩:∃s,s=st1.args [e0,(n:Int),(k:Int),e3]:=⟨_,rfl⟩
 rw[<- hs1e] at hs⊢;have hsz:=hN.ok.size2;have hd0:=hdat 0 (by omega);have hdl:=hdat n (by omega);rw[show e3+((0:Nat):Int)=e3 by omega] at hd0;have hA0:=hd0.1;have hAl:=hdl.2.1;have dx:S.Digs x:=hx.1.dig;have hPb:=Zku hk;rw[<- hP] at hPb;have n0:=Zp5 (A:=e3) hs;have l0:∀s b c,S.Yl I 34 lk [e0,(n:Int),(k:Int),e3,b,c] s (S.eL 0) e0 1:=λ s b c=>Zs 0
 have l1:∀s b c,S.Yl I 34 lk [e0,(n:Int),(k:Int),e3,b,c] s (S.eL 1) n 1:=λ s b c=>Zs 1
 have l2:∀s b c,S.Yl I 34 lk [e0,(n:Int),(k:Int),e3,b,c] s (S.eL 2) k 1:=λ s b c=>Zs 2
 have l3:∀s b c,S.Yl I 34 lk [e0,(n:Int),(k:Int),e3,b,c] s (S.eL 3) e3 1:=λ s b c=>Zs 3
 have l4:∀s b c,S.Yl I 34 lk [e0,(n:Int),(k:Int),e3,b,c] s (S.eL 4) b 1:=λ s b c=>Zs 4
 have l5:∀s b c,S.Yl I 34 lk [e0,(n:Int),(k:Int),e3,b,c] s (S.eL 5) c 1:=λ s b c=>Zs 5
 show S.WS I 34 lk false [S.sAs 4 (S.eC 0),S.sAs 5 (S.eC 0),
  S.sWh (S.eLt (S.eL 4) (S.eL 1))
   [S.sAs 5 (S.eB 8 (S.eL 5) (S.eB 10 (S.eF S.kNDig [S.eL 0,S.eL 4]) (S.eL 2))),
    S.sPut (S.eAdd (S.eL 3) (S.eL 4)) 0 (S.eAnd (S.eL 5) (S.eC 65535)),S.sAs 5 (S.eShr (S.eL 5) 16),S.sInc 4],
  S.sPut (S.eAdd (S.eL 3) (S.eL 1)) 0 (S.eL 5),S.sVal (S.eC 0)] [e0,(n:Int),(k:Int),e3,e4,e5] s1 8 _ _
 refine Zo (Zp 0) (by decide) ?_
 show S.WS I 34 lk false _ [e0,(n:Int),(k:Int),e3,0,e5] s1 _ _ _
 refine Zo (Zp 0) (by decide) ?_
 show S.WS I 34 lk false _ [e0,(n:Int),(k:Int),e3,0,0] s1 _ _ _
 refine Zfe (by decide) (λ env s C q=>∃(i:Nat)(c:Int)(acc:List Int),env=[e0,(n:Int),(k:Int),e3,(i:Int),c]/\q=n-i/\i<=n/\acc.length=i/\S.Digs acc/\S.RwS st s e3 acc/\(0<=c/\c<P)/\S.dval acc+c*65536^i=S.psum x i*P/\C<=50+450*i) (k0:=n)
  ⟨0,0,[],rfl,rfl,Yag _,rfl,(λ d hd=>by cases hd),n0,⟨by decide,by omega⟩,by show(0:Int)+0*1=0*P;simp,by decide⟩ ?_
 rintro env s C q ⟨i,c,acc,rfl,rfl,hi,hla,hda,hS,hc,hinv,hC⟩;have y41:=Zn (op:=14) (by decide) (l4 s (i:Int) c) (l1 s _ _);rw[Zcg] at y41;refine⟨_,_,y41,λ hz=>?_,λ hnz=>?_⟩
 .have hiE:i=n:=Y_c λ q=>by rw[if_pos (by omega)] at hz;cases hz
  subst hiE;refine Zb3 (x:=c) (p:=e3+i) ((Zn (op:=1) (by decide) (l3 s _ _) (l1 s _ _)).to_ (y:=e3+i) (by rw[Zat];unfold S.u32m;omega) (Yb _)) (l5 s _ _) (by decide) (by decide) (by unfold S.u32m;omega) hdl.2 ?_;have hS2:=Zew hS c;rw[hla] at hS2;refine Zha (Zp 0) (by decide) λ st2 c2 h2 hc2=>⟨_,acc++[c],rfl,Zp6 hS2 (h2.set4 _),Zbf hda ⟨hc.1,by omega⟩,by rw[Yd,hla];rfl,by rw[Zbe,hla];exact hinv,by omega⟩
 .have hlt:i<n:=Y_c λ q=>hnz (if_neg (by omega))
  have hdi:=hdat i (by omega);have bx:=Zz dx i;have y1:=Zd1 (d:=34) (dep:=34) (lk:=lk) (env:=[e0,(n:Int),(k:Int),e3,(i:Int),c]) (Za (l0 s _ _) (Za (l4 s _ _) Zh)) (by simp) (Za9 hN (Zwc hx hA hS) ⟨by omega,by omega⟩) (by decide);rw[Yah] at y1;obtain⟨d,hd⟩:=Yx (x.getD i 0);rw[<- hd] at y1 bx;have hm0:0<=d*P:=Yat bx.1 (by omega);have hm1:d*P<=65535*P:=Int.mul_le_mul_of_nonneg_right (by omega) (by omega);obtain⟨tot,htot⟩:=Yx (c+d*P);have ht4:0<=tot/\tot<4294967296:=by omega
  refine Zo ((Zn (op:=8) (by decide) (l5 s _ _) (Zn (op:=10) (by decide) y1 (l2 s _ _))).to_ (y:=tot) (by rw[Z6v hk hP bx,Z6c hk hP hc bx,htot]) (Yb _)) (by decide) ?_
  show S.WS I 34 lk false _ [e0,(n:Int),(k:Int),e3,(i:Int),tot] s _ _ _
  refine Zb3 (x:=tot%65536) (p:=e3+i) ((Zn (op:=1) (by decide) (l3 s _ _) (l4 s _ _)).to_ (y:=e3+i) (by rw[Zat];have:=hdi.2.1;unfold S.u32m;omega) (Yb _)) ((Zn (op:=7) (by decide) (l5 s _ _) (Zp 65535)).to_ (Zn9 ht4.1 ht4.2) (Yb _)) (by decide) (by decide) (by have:=hdi.2.1;unfold S.u32m;omega) hdi.2 ?_;have hS2:=Zew hS (tot%65536);rw[hla] at hS2;refine Zo ((Zn (op:=11) (by decide) (l5 _ _ _) (Zp 16)).to_ (y:=tot/65536) (by rw[Zj3]) (Yb _)) (by decide) ?_
  show S.WS I 34 lk false _ [e0,(n:Int),(k:Int),e3,(i:Int),tot/65536] _ _ _ _
  refine Zo ((Zn (op:=1) (by decide) (l4 _ _ _) (Zp 1)).to_ (y:=((i+1:Nat):Int)) (by rw[Zat];unfold S.u32m;omega) (Yb _)) (by decide) ?_
  show S.WS I 34 lk false _ [e0,(n:Int),(k:Int),e3,((i+1:Nat):Int),tot/65536] _ _ _ _
  refine Z3 (k2:=n-(i+1)) (by omega) ⟨i+1,tot/65536,acc++[tot%65536],rfl,rfl,by omega,by rw[Yd,hla];rfl,Zbf hda ⟨by omega,by omega⟩,hS2,⟨by omega,by omega⟩,?_,by omega⟩;rw[Zbe,hla,S.psum,<- hd,Int.pow_succ];have hqt:tot=tot%65536+65536*(tot/65536):=by omega
  generalize (65536:Int)^i=Bi at *;generalize tot%65536=dd at *;generalize tot/65536=qq at *;generalize S.dval acc=D at *;generalize S.psum x i=Px at *
  grind
end
end
section
namespace S
def RwAt (I:Img)(mem:Int->Int)(A:Int)(ds:List Int):Prop:=(∀j:Nat,j<ds.length->Dat I (A+j))/\∀j:Nat,j<ds.length->mem (A+j)=ds.getD j 0
def BwR (st:Vw)(A:Int)(n:Nat)(val:Int->Int)(N:Nat)(o:BO)(k:Nat):Prop :=
 ∃s acc b,o=.ret s/\RwS st s A acc/\Digs acc/\acc.length=n/\(b=0\/b=1)/\s.reg 4=b/\dval acc=val b/\k<=N
end S
theorem Z6w {env:List Int}(h:(env.length:Int)=8):∃a b c d e f g i,env=[a,b,c,d,e,f,g,i]:=by
 match env,h with
 | [a,b,c,d,e,f,g,i],_=>exact⟨a,b,c,d,e,f,g,i,rfl⟩
 | [],h=>simp at h
 | [_],h=>simp at h
 | [_,_],h=>simp at h
 | [_,_,_],h=>simp at h
 | [_,_,_,_],h=>simp at h
 | [_,_,_,_,_],h=>simp at h
 | [_,_,_,_,_,_],h=>simp at h
 | [_,_,_,_,_,_,_],h=>simp at h
 | _::_::_::_::_::_::_::_::_::_,h=>simp only[Yi] at h;omega
section
variable {I:S.Img}(hN:S.NSegs I)
include hN
theorem Zss {st:S.Vw}{A B g:Int}{u y:List Int}{n:Nat}(hu:S.RwAt I st.mem A u)(hy:S.RwAt I st.mem B y)(du:S.Digs u)(dy:S.Digs y)(hul:u.length=n+1)(hyl:y.length=n)(hn:n<=900)(hAB:A+n+1<=B)(hg:0<=g/\g<65536) :
 ∀st1,S.Sim st st1->S.Real I S.kNTake false (st1.args [A,B,n,g]) 23 (λ _ o c=>S.BwR st A (n+1) (λ b=>S.dval u-g*S.dval y+b*65536^(n+1)) (100+90*n) o c):=λ st1 hs1=>by
 obtain⟨iF,hF⟩:=hN.take;have hr:=Zcw hN.ok S.rNTake (by kernel_rfl) hF (dep:=0) (by decide) (st1.args [A,B,n,g]) (S.BwR st A (n+1) (λ b=>S.dval u-g*S.dval y+b*65536^(n+1)) (100+90*n)) λ lk env hl hp=>?_
 .exact hr
 obtain⟨e0,e1,e2,e3,e4,e5,e6,e7,rfl⟩:=Z6w hl;have h0:e0=A:=hp 0 (show(0:Int)<4 by decide);have h1:e1=B:=hp 1 (show(1:Int)<4 by decide);have h2:e2=(n:Int):=hp 2 (show(2:Int)<4 by decide);have h3:e3=g:=hp 3 (show(3:Int)<4 by decide);subst h0 h1 h2 h3;have hs:S.Sim st (st1.args [e0,e1,(n:Int),e3]):=hs1.args (by simp);obtain⟨s1,hs1e⟩:∃s,s=st1.args [e0,e1,(n:Int),e3]:=⟨_,rfl⟩
 rw[<- hs1e] at hs⊢;have hsz:=hN.ok.size2;have n0:=Zp5 (A:=e0) hs;have ub:∀i:Nat,i<n+1->0<=e0+i/\e0+i<4294967296:=λ i hi=>by
  have:=hu.1 i (by omega);have h1:=this.1;have h2:=this.2.1;omega
 have vb:∀i:Nat,i<n->0<=e1+i/\e1+i<4294967296:=λ i hi=>by
  have:=hy.1 i (by omega);have h1:=this.1;have h2:=this.2.1;omega
 have l0:∀s a b c d,S.Yl I 0 lk [e0,e1,(n:Int),e3,a,b,c,d] s (S.eL 0) e0 1:=λ s a b c d=>Zs 0
 have l1:∀s a b c d,S.Yl I 0 lk [e0,e1,(n:Int),e3,a,b,c,d] s (S.eL 1) e1 1:=λ s a b c d=>Zs 1
 have l2:∀s a b c d,S.Yl I 0 lk [e0,e1,(n:Int),e3,a,b,c,d] s (S.eL 2) n 1:=λ s a b c d=>Zs 2
 have l3:∀s a b c d,S.Yl I 0 lk [e0,e1,(n:Int),e3,a,b,c,d] s (S.eL 3) e3 1:=λ s a b c d=>Zs 3
 have l4:∀s a b c d,S.Yl I 0 lk [e0,e1,(n:Int),e3,a,b,c,d] s (S.eL 4) a 1:=λ s a b c d=>Zs 4
 have l5:∀s a b c d,S.Yl I 0 lk [e0,e1,(n:Int),e3,a,b,c,d] s (S.eL 5) b 1:=λ s a b c d=>Zs 5
 have l6:∀s a b c d,S.Yl I 0 lk [e0,e1,(n:Int),e3,a,b,c,d] s (S.eL 6) c 1:=λ s a b c d=>Zs 6
 have l7:∀s a b c d,S.Yl I 0 lk [e0,e1,(n:Int),e3,a,b,c,d] s (S.eL 7) d 1:=λ s a b c d=>Zs 7
 show S.WS I 0 lk false [S.sAs 4 (S.eC 0),S.sAs 5 (S.eC 0),S.sAs 6 (S.eC 0),
  S.sWh (S.eLt (S.eL 4) (S.eL 2))
   [S.sAs 7 (S.eAdd (S.eL 5) (S.eB 3 (S.eL 3) (S.eM (S.eAdd (S.eL 1) (S.eL 4)) 0))),
    S.sAs 5 (S.eShr (S.eL 7) 16),
    S.sAs 7 (S.eSub (S.eAdd (S.eC 65536) (S.eM (S.eAdd (S.eL 0) (S.eL 4)) 0)) (S.eAdd (S.eAnd (S.eL 7) (S.eC 65535)) (S.eL 6))),
    S.sPut (S.eAdd (S.eL 0) (S.eL 4)) 0 (S.eAnd (S.eL 7) (S.eC 65535)),
    S.sAs 6 (S.eSub (S.eC 1) (S.eShr (S.eL 7) 16)),
    S.sInc 4],
  S.sAs 7 (S.eSub (S.eAdd (S.eC 65536) (S.eM (S.eAdd (S.eL 0) (S.eL 2)) 0)) (S.eAdd (S.eL 5) (S.eL 6))),
  S.sPut (S.eAdd (S.eL 0) (S.eL 2)) 0 (S.eAnd (S.eL 7) (S.eC 65535)),
  S.sVal (S.eSub (S.eC 1) (S.eShr (S.eL 7) 16))] [e0,e1,(n:Int),e3,e4,e5,e6,e7] s1 8 _ _
 refine Zo (Zp 0) (by decide) ?_
 show S.WS I 0 lk false _ [e0,e1,(n:Int),e3,0,e5,e6,e7] s1 _ _ _
 refine Zo (Zp 0) (by decide) ?_
 show S.WS I 0 lk false _ [e0,e1,(n:Int),e3,0,0,e6,e7] s1 _ _ _
 refine Zo (Zp 0) (by decide) ?_
 show S.WS I 0 lk false _ [e0,e1,(n:Int),e3,0,0,0,e7] s1 _ _ _
 refine Zfe (by decide) (λ env s C q=>∃(i:Nat)(c b d:Int)(acc:List Int),env=[e0,e1,(n:Int),e3,(i:Int),c,b,d]/\q=n-i/\i<=n/\acc.length=i/\S.Digs acc/\S.RwS st s e0 acc/\(0<=c/\c<65536)/\(b=0\/b=1)/\S.psum u i-e3*S.psum y i=S.dval acc-(c+b)*65536^i/\C<=50+80*i) (k0:=n)
  ⟨0,0,0,e7,[],rfl,rfl,Yag _,rfl,(λ d hd=>by cases hd),n0,by decide,.inl rfl,by show(0:Int)-e3*0=0-(0+0)*1;simp,by decide⟩ ?_
 rintro env s C q ⟨i,c,b,d,acc,rfl,rfl,hi,hla,hda,hS,hc,hb,hinv,hC⟩;have y42:=Zn (op:=14) (by decide) (l4 s (i:Int) c b d) (l2 s _ _ _ _);rw[Zcg] at y42;have bu:=Zz du i;have hui:=hu.1 i (by omega);have humi:s.mem (e0+i)=u.getD i 0:=by
  rw[hS.out_ _ (by omega)];exact hu.2 i (by omega)
 have u1:=ub i (by omega);refine⟨_,_,y42,λ hz=>?_,λ hnz=>?_⟩
 .have hiE:i=n:=Y_c λ q=>by rw[if_pos (by omega)] at hz;cases hz
  subst hiE;have yu:=Zli (n:=0) (p:=e0+i) ((Zn (op:=1) (by decide) (l0 s (i:Int) c b d) (l2 s _ _ _ _)).to_ (y:=e0+i) (by rw[Zat];unfold S.u32m;omega) (Yb _)) (by unfold S.u32m;omega) (Za7 hui);rw[humi] at yu;obtain⟨t,ht⟩:=Yx (65536+u.getD i 0-(c+b));have tb:0<=t/\t<131072:=by omega
  refine Zo ((Zn (op:=2) (by decide) (Zn (op:=1) (by decide) (Zp 65536) yu) (Zn (op:=1) (by decide) (l5 s _ _ _ _) (l6 s _ _ _ _))).to_ (y:=t) (by rw[Zat,Zat,Zjw];unfold S.u32m;omega) (Yb _)) (by decide) ?_
  show S.WS I 0 lk false _ [e0,e1,(i:Int),e3,(i:Int),c,b,t] s _ _ _
  refine Zb3 (x:=t%65536) (p:=e0+i) ((Zn (op:=1) (by decide) (l0 s _ _ _ _) (l2 s _ _ _ _)).to_ (y:=e0+i) (by rw[Zat];unfold S.u32m;omega) (Yb _)) ((Zn (op:=7) (by decide) (l7 s _ _ _ _) (Zp 65535)).to_ (Zn9 (by omega) (by omega)) (Yb _)) (by decide) (by decide) (by unfold S.u32m;omega) hui.2 ?_;have hS2:=Zew hS (t%65536);rw[hla] at hS2;refine Zha ((Zn (op:=2) (by decide) (Zp 1) (Zn (op:=11) (by decide) (l7 _ _ _ _ _) (Zp 16))).to_ (y:=1-t/65536) (by rw[Zj3,Zjw];unfold S.u32m;omega) (Yb _)) (by decide) λ st2 c2 h2 hc2=>⟨_,acc++[t%65536],1-t/65536,rfl,Zp6 hS2 (h2.set4 _),Zbf hda ⟨by omega,by omega⟩,by rw[Yd,hla];rfl,by omega,Zj _ _ _,?_,by omega⟩
  rw[Zbe,hla,Int.pow_succ];have hU:S.dval u=S.psum u i+u.getD i 0*65536^i:=by rw[<- Zam (x:=u) (n:=i+1) (by omega)];rfl
  have hY:S.dval y=S.psum y i:=(Zam (by omega)).symm;rw[hU,hY];have hqt:t=t%65536+65536*(t/65536):=by omega
  have hinv':S.psum u i-e3*S.psum y i=S.dval acc-(c+b)*65536^i:=hinv;generalize (65536:Int)^i=Bi at *;generalize t%65536=dd at *;generalize t/65536=qq at *;generalize S.dval acc=D at *;generalize S.psum u i=Pu at *;generalize S.psum y i=Py at *;generalize u.getD i 0=ui at *;clear hui humi u1 y42 yu hS hS2 hb hc tb
  grind
 .have hlt:i<n:=Y_c λ q=>hnz (if_neg (by omega))
  have by_:=Zz dy i;have hyi:=hy.1 i (by omega);have hymi:s.mem (e1+i)=y.getD i 0:=by
   rw[hS.out_ _ (by omega)];exact hy.2 i (by omega)
  have v1:=vb i hlt;have yy:=Zli (n:=0) (p:=e1+i) ((Zn (op:=1) (by decide) (l1 s (i:Int) c b d) (l4 s _ _ _ _)).to_ (y:=e1+i) (by rw[Zat];unfold S.u32m;omega) (Yb _)) (by unfold S.u32m;omega) (Za7 hyi);rw[hymi] at yy;obtain⟨yi,hyi2⟩:∃q,q=y.getD i 0:=⟨_,rfl⟩
  obtain⟨ui,hui2⟩:∃q,q=u.getD i 0:=⟨_,rfl⟩
  rw[<- hyi2] at by_ yy;rw[<- hui2] at bu humi;have hm0:0<=e3*yi:=Yat hg.1 by_.1;have hm1:e3*yi<=65535*65535:=Int.mul_le_mul (by omega) (by omega) by_.1 (by decide);obtain⟨p,hp_⟩:=Yx (c+e3*yi);have pb:0<=p/\p<4294967296:=by omega
  refine Zo ((Zn (op:=1) (by decide) (l5 s _ _ _ _) (Zn (op:=3) (by decide) (l3 s _ _ _ _) yy)).to_ (y:=p) (by
   rw[Zat,Z6u,hp_];generalize e3*yi=ay at *;unfold S.u32m;omega) (Yb _)) (by decide) ?_
  show S.WS I 0 lk false _ [e0,e1,(n:Int),e3,(i:Int),c,b,p] s _ _ _
  refine Zo ((Zn (op:=11) (by decide) (l7 s _ _ _ _) (Zp 16)).to_ (y:=p/65536) (by rw[Zj3]) (Yb _)) (by decide) ?_
  show S.WS I 0 lk false _ [e0,e1,(n:Int),e3,(i:Int),p/65536,b,p] s _ _ _
  have yu:=Zli (n:=0) (p:=e0+i) ((Zn (op:=1) (by decide) (l0 s (i:Int) (p/65536) b p) (l4 s _ _ _ _)).to_ (y:=e0+i) (by rw[Zat];unfold S.u32m;omega) (Yb _)) (by unfold S.u32m;omega) (Za7 hui);rw[humi] at yu;obtain⟨t,ht⟩:=Yx (65536+ui-(p%65536+b));have tb:0<=t/\t<131072:=by omega
  refine Zo ((Zn (op:=2) (by decide) (Zn (op:=1) (by decide) (Zp 65536) yu) (Zn (op:=1) (by decide) (Zn (op:=7) (by decide) (l7 s _ _ _ _) (Zp 65535)) (l6 s _ _ _ _))).to_ (y:=t) (by rw[Zn9 pb.1 pb.2,Zat,Zat,Zjw];unfold S.u32m;omega) (Yb _)) (by decide) ?_
  show S.WS I 0 lk false _ [e0,e1,(n:Int),e3,(i:Int),p/65536,b,t] s _ _ _
  refine Zb3 (x:=t%65536) (p:=e0+i) ((Zn (op:=1) (by decide) (l0 s _ _ _ _) (l4 s _ _ _ _)).to_ (y:=e0+i) (by rw[Zat];unfold S.u32m;omega) (Yb _)) ((Zn (op:=7) (by decide) (l7 s _ _ _ _) (Zp 65535)).to_ (Zn9 (by omega) (by omega)) (Yb _)) (by decide) (by decide) (by unfold S.u32m;omega) hui.2 ?_;have hS2:=Zew hS (t%65536);rw[hla] at hS2;refine Zo ((Zn (op:=2) (by decide) (Zp 1) (Zn (op:=11) (by decide) (l7 _ _ _ _ _) (Zp 16))).to_ (y:=1-t/65536) (by rw[Zj3,Zjw];unfold S.u32m;omega) (Yb _)) (by decide) ?_
  show S.WS I 0 lk false _ [e0,e1,(n:Int),e3,(i:Int),p/65536,1-t/65536,t] _ _ _ _
  refine Zo ((Zn (op:=1) (by decide) (l4 _ _ _ _ _) (Zp 1)).to_ (y:=((i+1:Nat):Int)) (by rw[Zat];unfold S.u32m;omega) (Yb _)) (by decide) ?_
  show S.WS I 0 lk false _ [e0,e1,(n:Int),e3,((i+1:Nat):Int),p/65536,1-t/65536,t] _ _ _ _
  refine Z3 (k2:=n-(i+1)) (by omega) ⟨i+1,p/65536,1-t/65536,t,acc++[t%65536],rfl,rfl,by omega,by rw[Yd,hla];rfl,Zbf hda ⟨by omega,by omega⟩,hS2,⟨by omega,by omega⟩,by omega,?_,by omega⟩;rw[Zbe,hla,S.psum,S.psum,<- hyi2,<- hui2,Int.pow_succ];have hqt:t=t%65536+65536*(t/65536):=by omega
  have hqp:p=p%65536+65536*(p/65536):=by omega
  generalize (65536:Int)^i=Bi at *;generalize t%65536=dd at *;generalize t/65536=qq at *;generalize p%65536=pd at *;generalize p/65536=pq at *;generalize S.dval acc=D at *;generalize S.psum u i=Pu at *;generalize S.psum y i=Py at *;clear hui humi u1 y42 yu yy hS hS2 hb hc tb pb hm0 hm1 v1 hymi hyi by_ bu
  grind
theorem Zst {st:S.Vw}{A B:Int}{u y:List Int}{n:Nat}(hu:S.RwAt I st.mem A u)(hy:S.RwAt I st.mem B y)(du:S.Digs u)(dy:S.Digs y)(hul:u.length=n+1)(hyl:y.length=n)(hn:n<=900)(hAB:A+n+1<=B) :
 ∀st1,S.Sim st st1->S.Real I S.kNBack false (st1.args [A,B,n]) 20 (λ _ o c=>S.BwR st A (n+1) (λ b=>S.dval u+S.dval y-b*65536^(n+1)) (100+70*n) o c):=λ st1 hs1=>by
 obtain⟨iF,hF⟩:=hN.back;have hr:=Zcw hN.ok S.rNBack (by kernel_rfl) hF (dep:=0) (by decide) (st1.args [A,B,n]) (S.BwR st A (n+1) (λ b=>S.dval u+S.dval y-b*65536^(n+1)) (100+70*n)) λ lk env hl hp=>?_
 .exact hr
 obtain⟨e0,e1,e2,e3,e4,rfl⟩:=Z2g hl;have h0:e0=A:=hp 0 (show(0:Int)<3 by decide);have h1:e1=B:=hp 1 (show(1:Int)<3 by decide);have h2:e2=(n:Int):=hp 2 (show(2:Int)<3 by decide);subst h0 h1 h2;have hs:S.Sim st (st1.args [e0,e1,(n:Int)]):=hs1.args (by simp);obtain⟨s1,hs1e⟩:∃s,s=st1.args [e0,e1,(n:Int)]:=⟨_,rfl⟩
 rw[<- hs1e] at hs⊢;have hsz:=hN.ok.size2;have n0:=Zp5 (A:=e0) hs;have ub:∀i:Nat,i<n+1->0<=e0+i/\e0+i<4294967296:=λ i hi=>by
  have:=hu.1 i (by omega);have h1:=this.1;have h2:=this.2.1;omega
 have vb:∀i:Nat,i<n->0<=e1+i/\e1+i<4294967296:=λ i hi=>by
  have:=hy.1 i (by omega);have h1:=this.1;have h2:=this.2.1;omega
 have l0:∀s a b,S.Yl I 0 lk [e0,e1,(n:Int),a,b] s (S.eL 0) e0 1:=λ s a b=>Zs 0
 have l1:∀s a b,S.Yl I 0 lk [e0,e1,(n:Int),a,b] s (S.eL 1) e1 1:=λ s a b=>Zs 1
 have l2:∀s a b,S.Yl I 0 lk [e0,e1,(n:Int),a,b] s (S.eL 2) n 1:=λ s a b=>Zs 2
 have l3:∀s a b,S.Yl I 0 lk [e0,e1,(n:Int),a,b] s (S.eL 3) a 1:=λ s a b=>Zs 3
 have l4:∀s a b,S.Yl I 0 lk [e0,e1,(n:Int),a,b] s (S.eL 4) b 1:=λ s a b=>Zs 4
 show S.WS I 0 lk false [S.sAs 3 (S.eC 0),S.sAs 4 (S.eC 0),
  S.sWh (S.eLt (S.eL 3) (S.eL 2))
   [S.sAs 4 (S.eAdd (S.eL 4) (S.eAdd (S.eM (S.eAdd (S.eL 0) (S.eL 3)) 0) (S.eM (S.eAdd (S.eL 1) (S.eL 3)) 0))),
    S.sPut (S.eAdd (S.eL 0) (S.eL 3)) 0 (S.eAnd (S.eL 4) (S.eC 65535)),
    S.sAs 4 (S.eShr (S.eL 4) 16),
    S.sInc 3],
  S.sAs 4 (S.eAdd (S.eL 4) (S.eM (S.eAdd (S.eL 0) (S.eL 2)) 0)),
  S.sPut (S.eAdd (S.eL 0) (S.eL 2)) 0 (S.eAnd (S.eL 4) (S.eC 65535)),
  S.sVal (S.eShr (S.eL 4) 16)] [e0,e1,(n:Int),e3,e4] s1 8 _ _
 refine Zo (Zp 0) (by decide) ?_
 show S.WS I 0 lk false _ [e0,e1,(n:Int),0,e4] s1 _ _ _
 refine Zo (Zp 0) (by decide) ?_
 show S.WS I 0 lk false _ [e0,e1,(n:Int),0,0] s1 _ _ _
 refine Zfe (by decide) (λ env s C q=>∃(i:Nat)(c:Int)(acc:List Int),env=[e0,e1,(n:Int),(i:Int),c]/\q=n-i/\i<=n/\acc.length=i/\S.Digs acc/\S.RwS st s e0 acc/\(c=0\/c=1)/\S.psum u i+S.psum y i=S.dval acc+c*65536^i/\C<=40+60*i) (k0:=n)
  ⟨0,0,[],rfl,rfl,Yag _,rfl,(λ d hd=>by cases hd),n0,.inl rfl,by show(0:Int)+0=0+0*1;simp,by decide⟩ ?_
 rintro env s C q ⟨i,c,acc,rfl,rfl,hi,hla,hda,hS,hc,hinv,hC⟩;have y32:=Zn (op:=14) (by decide) (l3 s (i:Int) c) (l2 s _ _);rw[Zcg] at y32;have bu:=Zz du i;have hui:=hu.1 i (by omega);have humi:s.mem (e0+i)=u.getD i 0:=by
  rw[hS.out_ _ (by omega)];exact hu.2 i (by omega)
 have u1:=ub i (by omega);refine⟨_,_,y32,λ hz=>?_,λ hnz=>?_⟩
 .have hiE:i=n:=Y_c λ q=>by rw[if_pos (by omega)] at hz;cases hz
  subst hiE;have yu:=Zli (n:=0) (p:=e0+i) ((Zn (op:=1) (by decide) (l0 s (i:Int) c) (l2 s _ _)).to_ (y:=e0+i) (by rw[Zat];unfold S.u32m;omega) (Yb _)) (by unfold S.u32m;omega) (Za7 hui);rw[humi] at yu;obtain⟨t,ht⟩:=Yx (c+u.getD i 0);have tb:0<=t/\t<131072:=by omega
  refine Zo ((Zn (op:=1) (by decide) (l4 s _ _) yu).to_ (y:=t) (by rw[Zat];unfold S.u32m;omega) (Yb _)) (by decide) ?_
  show S.WS I 0 lk false _ [e0,e1,(i:Int),(i:Int),t] s _ _ _
  refine Zb3 (x:=t%65536) (p:=e0+i) ((Zn (op:=1) (by decide) (l0 s _ _) (l2 s _ _)).to_ (y:=e0+i) (by rw[Zat];unfold S.u32m;omega) (Yb _)) ((Zn (op:=7) (by decide) (l4 s _ _) (Zp 65535)).to_ (Zn9 (by omega) (by omega)) (Yb _)) (by decide) (by decide) (by unfold S.u32m;omega) hui.2 ?_;have hS2:=Zew hS (t%65536);rw[hla] at hS2;refine Zha ((Zn (op:=11) (by decide) (l4 _ _ _) (Zp 16)).to_ (y:=t/65536) (by rw[Zj3]) (Yb _)) (by decide) λ st2 c2 h2 hc2=>⟨_,acc++[t%65536],t/65536,rfl,Zp6 hS2 (h2.set4 _),Zbf hda ⟨by omega,by omega⟩,by rw[Yd,hla];rfl,by omega,Zj _ _ _,?_,by omega⟩
  rw[Zbe,hla,Int.pow_succ];have hU:S.dval u=S.psum u i+u.getD i 0*65536^i:=by rw[<- Zam (x:=u) (n:=i+1) (by omega)];rfl
  have hY:S.dval y=S.psum y i:=(Zam (by omega)).symm;rw[hU,hY];have hqt:t=t%65536+65536*(t/65536):=by omega
  generalize (65536:Int)^i=Bi at *;generalize t%65536=dd at *;generalize t/65536=qq at *;generalize S.dval acc=D at *;generalize S.psum u i=Pu at *;generalize S.psum y i=Py at *;generalize u.getD i 0=ui at *;clear hui humi u1 y32 yu hS hS2 hc tb
  grind
 .have hlt:i<n:=Y_c λ q=>hnz (if_neg (by omega))
  have by_:=Zz dy i;have hyi:=hy.1 i (by omega);have hymi:s.mem (e1+i)=y.getD i 0:=by
   rw[hS.out_ _ (by omega)];exact hy.2 i (by omega)
  have v1:=vb i hlt;have yu:=Zli (n:=0) (p:=e0+i) ((Zn (op:=1) (by decide) (l0 s (i:Int) c) (l3 s _ _)).to_ (y:=e0+i) (by rw[Zat];unfold S.u32m;omega) (Yb _)) (by unfold S.u32m;omega) (Za7 hui);have yy:=Zli (n:=0) (p:=e1+i) ((Zn (op:=1) (by decide) (l1 s (i:Int) c) (l3 s _ _)).to_ (y:=e1+i) (by rw[Zat];unfold S.u32m;omega) (Yb _)) (by unfold S.u32m;omega) (Za7 hyi);rw[humi] at yu;rw[hymi] at yy;obtain⟨t,ht⟩:=Yx (c+(u.getD i 0+y.getD i 0));have tb:0<=t/\t<131072:=by omega
  refine Zo ((Zn (op:=1) (by decide) (l4 s _ _) (Zn (op:=1) (by decide) yu yy)).to_ (y:=t) (by rw[Zat,Zat];unfold S.u32m;omega) (Yb _)) (by decide) ?_
  show S.WS I 0 lk false _ [e0,e1,(n:Int),(i:Int),t] s _ _ _
  refine Zb3 (x:=t%65536) (p:=e0+i) ((Zn (op:=1) (by decide) (l0 s _ _) (l3 s _ _)).to_ (y:=e0+i) (by rw[Zat];unfold S.u32m;omega) (Yb _)) ((Zn (op:=7) (by decide) (l4 s _ _) (Zp 65535)).to_ (Zn9 (by omega) (by omega)) (Yb _)) (by decide) (by decide) (by unfold S.u32m;omega) hui.2 ?_;have hS2:=Zew hS (t%65536);rw[hla] at hS2;refine Zo ((Zn (op:=11) (by decide) (l4 _ _ _) (Zp 16)).to_ (y:=t/65536) (by rw[Zj3]) (Yb _)) (by decide) ?_
  show S.WS I 0 lk false _ [e0,e1,(n:Int),(i:Int),t/65536] _ _ _ _
  refine Zo ((Zn (op:=1) (by decide) (l3 _ _ _) (Zp 1)).to_ (y:=((i+1:Nat):Int)) (by rw[Zat];unfold S.u32m;omega) (Yb _)) (by decide) ?_
  show S.WS I 0 lk false _ [e0,e1,(n:Int),((i+1:Nat):Int),t/65536] _ _ _ _
  refine Z3 (k2:=n-(i+1)) (by omega) ⟨i+1,t/65536,acc++[t%65536],rfl,rfl,by omega,by rw[Yd,hla];rfl,Zbf hda ⟨by omega,by omega⟩,hS2,by omega,?_,by omega⟩;rw[Zbe,hla,S.psum,S.psum,Int.pow_succ];have hqt:t=t%65536+65536*(t/65536):=by omega
  generalize (65536:Int)^i=Bi at *;generalize t%65536=dd at *;generalize t/65536=qq at *;generalize S.dval acc=D at *;generalize S.psum u i=Pu at *;generalize S.psum y i=Py at *;generalize u.getD i 0=ui at *;generalize y.getD i 0=yi at *;clear hui humi u1 y32 yu yy hS hS2 hc tb v1 hymi hyi by_ bu
  grind
end
end
theorem Z6d {T w V0 V hi U0 U g:Int}(hT:0<T)(hw:32768<=w)(hV:V=w*T+V0)(h0:0<=V0)(h1:V0<T)(hU:U=hi*T+U0)(u0:0<=U0)(u1:U0<T)(hh:0<=hi)(hUV:U<65536*V)(hg:g=if 65535<hi/w then 65535 else hi/w) :
 0<=g/\g<65536/\U<(g+1)*V/\g*V<=U+2*V:=by
 have q0:0<=hi/w:=Int.ediv_nonneg hh (by omega);have qm:w*(hi/w)+hi%w=hi:=Int.mul_ediv_add_emod hi w;have r0:0<=hi%w:=Int.emod_nonneg _ (by omega);have r1:hi%w<w:=Int.emod_lt_of_pos _ (by omega);generalize hi/w=q at *;generalize hi%w=r at *;have g0:0<=g:=by rw[hg];split <;> omega
 have gq:g<=q:=by rw[hg];split <;> omega
 have gB:g<=65535:=by rw[hg];split <;> omega
 refine⟨g0,by omega,?_,?_⟩
 .by_cases c:65535<q
  .rw[hg,if_pos c]
   omega
  .rw[if_neg c] at hg
   subst hg;have e:(g+1)*V-U=(w-r-1)*T+(T-U0)+(g+1)*V0:=by rw[hV,hU,<- qm];grind
   have a1:0<=(w-r-1)*T:=Yat (by omega) (by omega);have a2:0<=(g+1)*V0:=Yat (by omega) h0;omega
 .have e:U+2*V-g*V=(w*(q-g)+r)*T+U0+(2*w-65536)*T+65536*T+2*V0-g*V0:=by rw[hV,hU,<- qm];grind
  have a1:0<=(w*(q-g)+r)*T:=Yat (by have:=Yat (show 0<=w by omega) (show 0<=q-g by omega);omega) (by omega);have a2:0<=(2*w-65536)*T:=Yat (by omega) (by omega);have a3:g*V0<=65535*V0:=Int.mul_le_mul_of_nonneg_right gB h0;omega
theorem Zi4 {x:List Int}(hx:S.Digs x):∀i:Nat,0<=S.psum x i/\S.psum x i<65536^i
 | 0=>by show(0:Int)<=0/\(0:Int)<1;decide
 | i+1=>by
  obtain⟨h1,h2⟩:=Zi4 hx i;have hb:=Zz hx i;have hp:(0:Int)<65536^i:=Yar (by decide);have h3:=Yat hb.1 (Ya3 hp);have h4:x.getD i 0*65536^i<=65535*65536^i:=Int.mul_le_mul_of_nonneg_right (by omega) (Ya3 hp);rw[S.psum,Int.pow_succ];generalize x.getD i 0*65536^i=t at *;generalize (65536:Int)^i=B at *;omega
theorem Zf9:∀(a b:List Int),S.dval (a++b)=S.dval a+65536^a.length*S.dval b
 | [],b=>by show S.dval b=0+65536^0*S.dval b;simp
 | x::r,b=>by
  have h:=Zf9 r b
  show x+65536*S.dval (r++b)=x+65536*S.dval r+65536^(r.length+1)*S.dval b
  rw[h,Int.pow_succ];generalize (65536:Int)^r.length=B
  grind
theorem Zex {a b:List Int}(ha:S.Digs a)(hb:S.Digs b):S.Digs (a++b):=λ d hd=>(List.mem_append.1 hd).elim (ha d) (hb d)
theorem Zap {a:List Int}(ha:S.Digs a)(n:Nat):S.Digs (a.take n):=λ d hd=>ha d (Ydd hd)
theorem Zbd {a:List Int}(ha:S.Digs a)(n:Nat):S.Digs (a.drop n):=λ d hd=>ha d (List.mem_of_mem_drop hd)
theorem Zl7 {a b:List Int}(i:Nat):(a++b).getD i 0=if i<a.length then a.getD i 0 else b.getD (i-a.length) 0:=by
 split
 .rename_i h
  rw[Ye,Ym h,<- Ye]
 .rename_i h
  rw[Ye,Yo (by omega),<- Ye]
theorem Zaq {a:List Int}{n i:Nat}(h:i<n):(a.take n).getD i 0=a.getD i 0:=by
 rw[Ye,List.getElem?_take_of_lt h,<- Ye]
theorem Zeh {a:List Int}(n i:Nat):(a.drop n).getD i 0=a.getD (n+i) 0:=by
 rw[Ye,Ybu,<- Ye]
theorem Z2l {k:Nat}(hk:k<=15){P a b:Int}(hP:P=2^k)(ha:0<=a/\a<65536)(hb:0<=b/\b<65536):P*(((a*65536+b)/P)%65536)=(a%P)*65536+b-b%P:=by
 match k,hk with
 | 0,_=>have:P=1:=hP;subst this;omega
 | 1,_=>have:P=2:=hP;subst this;omega
 | 2,_=>have:P=4:=hP;subst this;omega
 | 3,_=>have:P=8:=hP;subst this;omega
 | 4,_=>have:P=16:=hP;subst this;omega
 | 5,_=>have:P=32:=hP;subst this;omega
 | 6,_=>have:P=64:=hP;subst this;omega
 | 7,_=>have:P=128:=hP;subst this;omega
 | 8,_=>have:P=256:=hP;subst this;omega
 | 9,_=>have:P=512:=hP;subst this;omega
 | 10,_=>have:P=1024:=hP;subst this;omega
 | 11,_=>have:P=2048:=hP;subst this;omega
 | 12,_=>have:P=4096:=hP;subst this;omega
 | 13,_=>have:P=8192:=hP;subst this;omega
 | 14,_=>have:P=16384:=hP;subst this;omega
 | 15,_=>have:P=32768:=hP;subst this;omega
 | n+16,h=>omega
theorem Z41 {acc:List Int}(ha:S.Digs acc){j n:Nat}{V:Int}(hl:j+(n+1)<=acc.length)(hV:0<=V/\V<65536^n)(hlt:S.dval acc<V*65536^(j+1)) :
 S.dval acc=S.dval (acc.take j)+65536^j*S.dval ((acc.drop j).take (n+1))/\S.dval ((acc.drop j).drop (n+1))=0/\S.dval ((acc.drop j).take (n+1))<65536*V/\0<=S.dval (acc.take j)/\S.dval (acc.take j)<65536^j:=by
 have e1:acc=acc.take j++((acc.drop j).take (n+1)++(acc.drop j).drop (n+1)):=by rw[Yay,Yay]
 have d1:S.dval acc=S.dval (acc.take j++((acc.drop j).take (n+1)++(acc.drop j).drop (n+1))):=congrArg S.dval e1;have l1:(acc.take j).length=j:=by rw[Yq];omega
 have l2:((acc.drop j).take (n+1)).length=n+1:=by rw[Yq,List.length_drop];omega
 rw[Zf9,Zf9,l1,l2] at d1;have b1:=Zk (Zap ha j);have b2:=Zgz (Zap ha j);rw[l1] at b2;have b3:=Zk (Zap (Zbd ha j) (n+1));have b4:=Zk (Zbd (Zbd ha j) (n+1));generalize S.dval (acc.take j)=lo at *;generalize S.dval ((acc.drop j).take (n+1))=U at *;generalize S.dval ((acc.drop j).drop (n+1))=hi at *;have hp:(0:Int)<65536^j:=Yar (by decide);have hpn:(0:Int)<65536^n:=Yar (by decide);rw[Int.pow_succ] at hlt;rw[Int.pow_succ] at d1;generalize (65536:Int)^j=Bj at *;generalize (65536:Int)^n=Bn at *;have hz:hi=0:=by
  refine Y_c λ c=>?_
  have c1:1<=hi:=by omega
  have m1:Bj*(Bn*65536)*1<=Bj*(Bn*65536)*hi:=Int.mul_le_mul_of_nonneg_left c1 (Yat (by omega) (by omega));have m2:(V+1)*(Bj*65536)<=Bn*(Bj*65536):=Int.mul_le_mul_of_nonneg_right (by omega) (by omega);have m3:0<=Bj*U:=Yat (by omega) b3;have e2:Bj*(U+Bn*65536*hi)=Bj*U+Bj*(Bn*65536)*hi:=by grind
  have e3:(V+1)*(Bj*65536)=V*(Bj*65536)+Bj*65536:=by grind
  have e4:Bj*(Bn*65536)*1=Bn*(Bj*65536):=by grind
  omega
 subst hz;have e5:S.dval acc=lo+Bj*U:=by rw[d1,Int.mul_zero,Int.add_zero]
 refine⟨e5,rfl,?_,b1,b2⟩;refine Y_c λ c=>?_
 have m1:Bj*(65536*V)<=Bj*U:=Int.mul_le_mul_of_nonneg_left (by omega) (by omega);have e6:Bj*(65536*V)=V*(Bj*65536):=by grind
 omega
section
namespace S
structure DvS (st s:Vw)(H:Int)(m n j:Nat)(qs acc vd:List Int):Prop where
 out_:∀a,a<H+2\/H+2*m+n+6<=a->s.mem a=st.mem a
 q:∀i:Nat,i<qs.length->s.mem (H+2+j+i)=4*qs.getD i 0
 r:∀i:Nat,i<m+1->s.mem (H+m+4+i)=acc.getD i 0
 v:∀i:Nat,i<n+1->s.mem (H+m+4+m+1+i)=vd.getD i 0
 reg:∀j,¬(4<=j/\j<=7)->s.reg j=st.reg j
 inp:s.inp=st.inp
 out:s.out=st.out
end S
theorem S.Real.mono {I:S.Img}{name:ByteArray}{b:Bool}{st:S.Vw}{d:Int}{R R':Int->S.BO->Nat->Prop}(h:S.Real I name b st d R)(hm:∀ret o k,R ret o k->R' ret o k):S.Real I name b st d R':=λ V top ret a1 a2 a3 a4 a5 a6 a7=>by
 obtain⟨o,k,hR,hd⟩:=h V top ret a1 a2 a3 a4 a5 a6 a7;exact⟨o,k,hm _ _ _ hR,hd⟩
section
variable {I:S.Img}{dep lk:Int}{behind:Bool}{env:List Int}{st:S.Vw}{C:Nat}{Q:List Int->S.Vw->Nat->Prop}{R:S.BO->Nat->Prop}
theorem Z42 {n:Int}{name:ByteArray}{l:List S.BE}{r:List S.BS}{xs:List Int}{K N:Nat}{d:Int}{T:S.Vw->Nat->Prop}(hl:S.Yls I dep lk env st l xs K)(hdl:S.dEs l<=20)(hlen:xs.length<=4)(hr:∀st1,S.Sim st st1->S.Real I name false (st1.args xs) d (λ _ o k=>∃s,o=.ret s/\k<=N/\T s k))(hd:d<=dep)
 (h:∀s k,T s k->S.WS I dep lk behind r (env.set n.toNat (s.reg 4)) s (C+K+N+10) Q R):S.WS I dep lk behind (S.sAs n (S.eF name l)::r) env st C Q R:=λ st1 c hs hc=>by
 rw[Zbs,Zuh,Zpk];refine hl 0 st1 c _ _ (by omega) hs λ st2 c2 h2 hc2=>⟨d,_,hr st2 h2,hd,λ ret o k ho=>?_⟩
 obtain⟨s,rfl,hk,hT⟩:=ho;exact h s k hT s _ (.refl s) (by omega)
theorem Zy0 {name:ByteArray}{l:List S.BE}{b r:List S.BS}{xs:List Int}{K N:Nat}{d:Int}{T:S.Vw->Nat->Prop}(hl:S.Yls I dep lk env st l xs K)(hdl:S.dEs l<=20)(hlen:xs.length<=4)(hr:∀st1,S.Sim st st1->S.Real I name false (st1.args xs) d (λ _ o k=>∃s,o=.ret s/\k<=N/\T s k))(hd:d<=dep)
 (h0:∀s k,T s k->s.reg 4=0->S.WS I dep lk behind r env s (C+K+N+14) Q R)
 (h1:∀s k,T s k->s.reg 4≠0->S.WS I dep lk behind b env s (C+K+N+14) (λ env st c=>S.wpSs I dep lk behind r env st (c+3) Q R) R):S.WS I dep lk behind (S.sWhen (S.eF name l) b::r) env st C Q R:=λ st1 c hs hc=>by
 rw[Zbs,S.sWhen,Zui,Zpk];refine hl 0 st1 c _ _ (by omega) hs λ st2 c2 h2 hc2=>⟨d,_,hr st2 h2,hd,λ ret o k ho=>?_⟩
 obtain⟨s,rfl,hk,hT⟩:=ho
 show(if s.reg 4=0 then _ else _)
 split
 .rename_i h
  rw[Zug];exact h0 s k hT h s _ (.refl s) (by omega)
 .rename_i h
  exact h1 s k hT h s _ (.refl s) (by omega)
end
section
variable {st s:S.Vw}{H:Int}{m n j:Nat}{qs acc vd:List Int}
theorem Zp7 {s2:S.Vw}{win:List Int}{i:Nat}(h:S.DvS st s H m n j qs acc vd)(hw:S.RwS s s2 (H+m+4+i) win)(hl:win.length=n+1)(hi:i+n<=m)(hla:acc.length=m+1)(hq:j+qs.length<=m+1):S.DvS st s2 H m n j qs (acc.take i++(win++acc.drop (i+n+1))) vd:=by
 have l1:(acc.take i).length=i:=by rw[Yq];omega
 refine⟨λ a ha=>?_,λ k hk=>?_,λ k hk=>?_,λ k hk=>?_,λ k hk=>(hw.reg k hk).trans (h.reg k hk),hw.inp.trans h.inp,hw.out.trans h.out⟩
 .rw[hw.out_ a (by omega)]
  exact h.out_ a ha
 .rw[hw.out_ _ (by omega)]
  exact h.q k hk
 .rw[Zl7,l1]
  by_cases c:k<i
  .rw[if_pos c,Zaq c,hw.out_ _ (by omega)]
   exact h.r k hk
  .rw[if_neg c,Zl7]
   by_cases c2:k-i<win.length
   .rw[if_pos c2]
    have:=hw.dig (k-i) c2;rw[show H+m+4+(i:Int)+((k-i:Nat):Int)=H+m+4+k by omega] at this;exact this
   .rw[if_neg c2,Zeh,show i+n+1+(k-i-win.length)=k by omega,hw.out_ _ (by omega)]
    exact h.r k hk
 .rw[hw.out_ _ (by omega)]
  exact h.v k hk
theorem Z2m (h:S.DvS st s H m n (j+1) qs acc vd)(g:Int)(hj:j+1+qs.length<=m+1):S.DvS st (s.sto (H+2+j) (4*g)) H m n j (g::qs) acc vd:=by
 have hm:∀a,(s.sto (H+2+j) (4*g)).mem a=if a=H+2+j then 4*g else s.mem a:=λ _=>rfl
 refine⟨λ a ha=>?_,λ k hk=>?_,λ k hk=>?_,λ k hk=>?_,h.reg,h.inp,h.out⟩
 .rw[hm,if_neg (by omega)]
  exact h.out_ a ha
 .cases k with
  | zero=>rw[hm,if_pos (by omega)];rfl
  | succ k =>
   rw[hm,if_neg (by omega)];have:=h.q k (by simpa using hk);rw[show H+2+((j+1:Nat):Int)+k=H+2+j+((k+1:Nat):Int) by omega] at this;exact this
 .rw[hm,if_neg (by omega)]
  exact h.r k hk
 .rw[hm,if_neg (by omega)]
  exact h.v k hk
theorem Zp8 {win:List Int}{i:Nat}(hla:acc.length=m+1)(hi:i+n<=m)(hl:win.length=n+1):(acc.take i++(win++acc.drop (i+n+1))).length=m+1/\(acc.take i++(win++acc.drop (i+n+1))).take i=acc.take i/\(acc.take i++(win++acc.drop (i+n+1))).drop (i+n+1)=acc.drop (i+n+1)/\((acc.take i++(win++acc.drop (i+n+1))).drop i).take (n+1)=win:=by
 have l1:(acc.take i).length=i:=by rw[Yq];omega
 refine⟨?_,?_,?_,?_⟩
 .rw[Yd,Yd,l1,hl,List.length_drop];omega
 .rw[List.take_append_of_le_length (by omega),Ybl (by omega)]
 .rw[List.drop_append,List.drop_eq_nil_of_le (by omega),l1,Yaj,show i+n+1-i=win.length by omega,List.drop_append_of_le_length (Yb _),List.drop_length,Yaj]
 .rw[List.drop_append_of_le_length (by omega),List.drop_eq_nil_of_le (by omega),Yaj,List.take_append_of_le_length (by omega),Ybl (by omega)]
end
section
variable {I:S.Img}(hN:S.NSegs I)
include hN
theorem Z0f {st s:S.Vw}{H:Int}{m n j i:Nat}{qs acc vd:List Int}(h:S.DvS st s H m n j qs acc vd)(hla:acc.length=m+1)(hlv:vd.length=n+1)(hi:i+n<=m)(hdat:∀a,H<=a->a<H+2*m+n+6->S.Dat I a):S.RwAt I s.mem (H+m+4+i) ((acc.drop i).take (n+1))/\S.RwAt I s.mem (H+m+4+m+1) (vd.take n):=by
 have l1:((acc.drop i).take (n+1)).length=n+1:=by rw[Yq,List.length_drop];omega
 have l2:(vd.take n).length=n:=by rw[Yq];omega
 refine⟨⟨λ k hk=>hdat _ (by omega) (by omega),λ k hk=>?_⟩,⟨λ k hk=>hdat _ (by omega) (by omega),λ k hk=>?_⟩⟩
 .rw[l1] at hk
  rw[Zaq hk,Zeh];have:=h.r (i+k) (by omega);rw[show H+m+4+((i+k:Nat):Int)=H+m+4+i+k by omega] at this;exact this
 .rw[l2] at hk
  rw[Zaq hk];exact h.v k (by omega)
theorem Z2n {dep lk:Int}{st s:S.Vw}{C:Nat}{Q:List Int->S.Vw->Nat->Prop}{R:S.BO->Nat->Prop}{H x y t sh g o U V:Int}{m n j:Nat}{qs acc vd:List Int}{rest:List S.BS}(hdep:55<=dep)(hD:S.DvS st s H m n (j+1) qs acc vd)(hla:acc.length=m+1)(hlv:vd.length=n+1)(da:S.Digs acc)(dv:S.Digs vd)(hj:j+n<=m)(hn:n<=900)(hq:j+1+qs.length<=m+1)
 (hV:V=S.dval (vd.take n)) (hVp:0<V) (hU:0<=U) (hg:0<=g/\g<65536) (ho:(o=0/\S.dval ((acc.drop j).take (n+1))=U-g*V)\/(o=1/\S.dval ((acc.drop j).take (n+1))=U-g*V+65536^(n+1))) (h1:U<(g+1)*V) (h2:g*V<=U+2*V) (hdat:∀a,H<=a->a<H+2*m+n+6->S.Dat I a)
 (hrest:∀g' s' acc',0<=g'/\g'<65536->S.DvS st s' H m n (j+1) qs acc' vd->acc'.length=m+1->S.Digs acc'->acc'.take j=acc.take j->acc'.drop (j+n+1)=acc.drop (j+n+1)->S.dval ((acc'.drop j).take (n+1))=U-g'*V->0<=U-g'*V->U-g'*V<V ->
  S.WS I dep lk false rest [x,y,t,(m:Int),(n:Int),sh,H+m+4,H+m+4+m+1,(j:Int),g',0] s' (C+500+150*n) Q R) :
 S.WS I dep lk false (S.sWh (S.eL 10) [S.sAs 9 (S.eSub (S.eL 9) (S.eC 1)),S.sWhen (S.eF S.kNBack [S.eAt,S.eL 7,S.eL 4]) [S.sAs 10 (S.eC 0)]]::rest) [x,y,t,(m:Int),(n:Int),sh,H+m+4,H+m+4+m+1,(j:Int),g,o] s C Q R:=by
 have hsz:=hN.ok.size2;have hA0:=(hdat H (Y7 _) (by omega)).1;have hAl:=(hdat (H+2*m+n+5) (by omega) (by omega)).2.1;have bw:∀acc':List Int,S.Digs acc'->acc'.length=m+1->0<=S.dval ((acc'.drop j).take (n+1))/\S.dval ((acc'.drop j).take (n+1))<65536^(n+1):=λ acc' da' hl'=>by
  have h1:=Zk (Zap (Zbd da' j) (n+1));have h2:=Zgz (Zap (Zbd da' j) (n+1));have h3:((acc'.drop j).take (n+1)).length=n+1:=by rw[Yq,List.length_drop];omega
  rw[h3] at h2;exact⟨h1,h2⟩
 refine Zfe (by decide) (λ env s2 C2 k=>∃(g2 o2:Int)(acc2:List Int),env=[x,y,t,(m:Int),(n:Int),sh,H+m+4,H+m+4+m+1,(j:Int),g2,o2]/\S.DvS st s2 H m n (j+1) qs acc2 vd/\acc2.length=m+1/\S.Digs acc2/\acc2.take j=acc.take j/\acc2.drop (j+n+1)=acc.drop (j+n+1)/\(0<=g2/\g2<65536)/\U-g2*V<V /\
  ((o2=0/\k=0/\S.dval ((acc2.drop j).take (n+1))=U-g2*V)\/(o2=1/\S.dval ((acc2.drop j).take (n+1))=U-g2*V+65536^(n+1)/\0<=U-g2*V+(k:Int)*V))/\k<=2/\C2<=C+(2-k)*(150+72*n)) (k0:=if o=0 then 0 else 2)
  ⟨g,o,acc,rfl,hD,hla,da,rfl,rfl,hg,by
   have e:(g+1)*V=g*V+V:=by grind
   omega,?_,by split <;> omega,by omega⟩ ?_
 .rcases ho with⟨rfl,h⟩|⟨rfl,h⟩
  .exact .inl ⟨rfl,rfl,h⟩
  .refine .inr ⟨rfl,h,?_⟩
   show 0<=U-g*V+2*V
   omega
 .rintro env s2 C2 k ⟨g2,o2,acc2,rfl,hD2,hla2,da2,ht2,hd2,hg2,hlt2,ho2,hk2,hC2⟩
  have l6:∀s g o,S.Yl I dep lk [x,y,t,(m:Int),(n:Int),sh,H+m+4,H+m+4+m+1,(j:Int),g,o] s (S.eL 6) (H+m+4) 1:=λ s g o=>Zs 6
  have l8:∀s g o,S.Yl I dep lk [x,y,t,(m:Int),(n:Int),sh,H+m+4,H+m+4+m+1,(j:Int),g,o] s (S.eL 8) j 1:=λ s g o=>Zs 8
  have l7:∀s g o,S.Yl I dep lk [x,y,t,(m:Int),(n:Int),sh,H+m+4,H+m+4+m+1,(j:Int),g,o] s (S.eL 7) (H+m+4+m+1) 1:=λ s g o=>Zs 7
  have l4:∀s g o,S.Yl I dep lk [x,y,t,(m:Int),(n:Int),sh,H+m+4,H+m+4+m+1,(j:Int),g,o] s (S.eL 4) n 1:=λ s g o=>Zs 4
  have l9:∀s g o,S.Yl I dep lk [x,y,t,(m:Int),(n:Int),sh,H+m+4,H+m+4+m+1,(j:Int),g,o] s (S.eL 9) g 1:=λ s g o=>Zs 9
  have b2:=bw acc2 da2 hla2;refine⟨o2,1,Zs 10,λ hz=>?_,λ hnz=>?_⟩
  .rcases ho2 with⟨_,hk0,h⟩|⟨q,_⟩
   .have e0:o2=0:=hz
    subst e0;refine(hrest g2 s2 acc2 hg2 hD2 hla2 da2 ht2 hd2 h (by omega) hlt2).more ?_;subst hk0;omega
   .rw[q] at hz;cases hz
  .rcases ho2 with⟨q,_⟩|⟨rfl,h,hk⟩
   .exact absurd q hnz
   have hneg:U-g2*V<0:=by omega
   have hg1:1<=g2:=Y_c λ c=>by
    have:g2=0:=by omega
    rw[this,Int.zero_mul] at hneg;omega
   obtain⟨k',rfl⟩:∃k',k=k'+1:=by
    cases k with
    | zero =>
     rw[show(((0:Nat):Int))*V=0 from Int.zero_mul V] at hk;omega
    | succ k'=>exact⟨k',rfl⟩
   have eg:(g2-1)*V=g2*V-V:=by grind
   refine Zo ((Zn (op:=2) (by decide) (l9 s2 _ _) (Zp 1)).to_ (y:=g2-1) (by rw[Zjw];unfold S.u32m;omega) (Yb _)) (by decide) ?_
   show S.WS I dep lk false _ [x,y,t,(m:Int),(n:Int),sh,H+m+4,H+m+4+m+1,(j:Int),g2-1,1] s2 _ _ _
   obtain⟨r1,r2⟩:=Z0f hN hD2 hla2 hlv hj hdat;have lw:((acc2.drop j).take (n+1)).length=n+1:=by rw[Yq,List.length_drop];omega
   have lv:(vd.take n).length=n:=by rw[Yq];omega
   have hreal:=Zst hN r1 r2 (Zap (Zbd da2 j) (n+1)) (Zap dv n) lw lv hn (by omega);refine Zy0 (N:=100+70*n) (T:=λ s3 k3=>∃win b,S.RwS s2 s3 (H+m+4+j) win/\S.Digs win/\win.length=n+1/\(b=0\/b=1)/\s3.reg 4=b/\S.dval win=S.dval ((acc2.drop j).take (n+1))+S.dval (vd.take n)-b*65536^(n+1)) (d:=20)
    (Za ((Zn (op:=1) (by decide) (l6 s2 _ _) (l8 s2 _ _)).to_ (y:=H+m+4+j) (by rw[Zat];unfold S.u32m;omega) (Yb _)) (Za (l7 s2 _ _) (Za (l4 s2 _ _) Zh))) (by decide) (by simp) (λ st1 hs1=>?_) (by omega) (λ s3 k3 hT h40=>?_) (λ s3 k3 hT h40=>?_)
   .exact(hreal st1 hs1).mono λ _ o k hh=>by
     obtain⟨s,win,b,e,q1,q2,q3,q4,q5,q6,q7⟩:=hh;exact⟨s,e,q7,win,b,q1,q2,q3,q4,q5,q6⟩
   .obtain⟨win,b,q1,q2,q3,q4,q5,q6⟩:=hT
    have hb0:b=0:=by rw[<- q5];exact h40
    subst hb0;obtain⟨w1,w2,w3,w4⟩:=Zp8 hla2 hj q3;have hw:=Zp7 hD2 q1 q3 hj hla2 hq;have db:=Zex (Zap da2 j) (Zex q2 (Zbd da2 (j+n+1)));have bb:=bw _ db w1;rw[w4] at bb;rw[<- hV,h,Int.zero_mul] at q6;refine Z3 (k2:=k') (by omega) ⟨g2-1,1,_,rfl,hw,w1,db,w2.trans ht2,w3.trans hd2,⟨by omega,by omega⟩,by omega,.inr ⟨rfl,by rw[w4];omega,?_⟩,by omega,?_⟩
    .have:((k'+1:Nat):Int)*V=(k':Int)*V+V:=by grind
     omega
    .have e:(2-k')*(150+72*n)=(2-(k'+1))*(150+72*n)+(150+72*n):=by
      rw[show 2-k'=(2-(k'+1))+1 by omega,Nat.succ_mul]
     omega
   .obtain⟨win,b,q1,q2,q3,q4,q5,q6⟩:=hT
    have hb1:b=1:=q4.resolve_left λ e=>h40 (by rw[q5];exact e)
    subst hb1;obtain⟨w1,w2,w3,w4⟩:=Zp8 hla2 hj q3;have hw:=Zp7 hD2 q1 q3 hj hla2 hq;have db:=Zex (Zap da2 j) (Zex q2 (Zbd da2 (j+n+1)));rw[<- hV,h,Int.one_mul] at q6;refine Zo (Zp 0) (by decide) (Zbj 3 ?_)
    show S.WS I dep lk false _ [x,y,t,(m:Int),(n:Int),sh,H+m+4,H+m+4+m+1,(j:Int),g2-1,0] s3 _ _ _
    refine Z3 (k2:=0) (by omega) ⟨g2-1,0,_,rfl,hw,w1,db,w2.trans ht2,w3.trans hd2,⟨by omega,by omega⟩,by omega,.inl ⟨rfl,rfl,by rw[w4];omega⟩,by omega,?_⟩;have e:(2-0)*(150+72*n)=(2-(k'+1))*(150+72*n)+(1+k')*(150+72*n):=by
     rw[<- Yci,show 2-(k'+1)+(1+k')=2-0 by omega]
    have e2:(1+k')*(150+72*n)=(150+72*n)+k'*(150+72*n):=by rw[Yci,Nat.one_mul]
    omega
end
end
