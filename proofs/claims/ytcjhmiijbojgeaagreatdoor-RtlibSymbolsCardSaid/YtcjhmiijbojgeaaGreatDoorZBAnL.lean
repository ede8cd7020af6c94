/- Parts. -/
import Derived.Test.YtcjhmiijbojgeaaGreatDoorZQe
set_option linter.all false
open List renaming getElem?_eq_some_iff->Yg,length_cons->Yk,mem_cons->Yr,not_mem_nil->Yv,mem_cons_self->Yw,mem_cons_of_mem->Y0,mem_of_getElem?->Y1,length_nil->Yad,mem_append->Yag,append_nil->Yax,mem_singleton->Ya8,mem_append_left->Ybh,nodup_cons->Ybs,mem_append_right->Ycf
open Int renaming le_refl->Yar,add_zero->Yce,le_of_lt->Ycg,pow_pos->Ych,toNat->Yc3
open Bool renaming false_eq_true->Ybq
namespace Go.Proofs.YtcjhmiijbojgeaaGreatDoor
open S Go.RowKit
section
theorem Zs9:chkB rMove=0:=by kernel_rfl
theorem Z8u {env:List Int}(h:(env.length:Int)=4):∃a b c d,env=[a,b,c,d]:=by
 match env,h with
 | [a,b,c,d],_=>exact⟨a,b,c,d,rfl⟩
 | [],h=>simp at h
 | [_],h=>simp at h
 | [_,_],h=>simp at h
 | [_,_,_],h=>simp at h
 | _::_::_::_::_::_,h=>simp at h;omega
def S.cr (cf:Cf)(T:Ob->Prop)(ρ:List Ob)(st:Vw)(w:Int)(o:BO)(k:Nat):Prop :=
 ∃st' ρ',o=.ret st'/\Tr cf T ρ st ρ' st'/\st'.reg 4=mv cf.to_ ρ' w/\Cl cf ρ' w/\(k:Int)<=100+40*(tot ρ'-tot ρ)
theorem Za1 {I:Img}{a:Int}(h:Dat I a):a<I.size/\¬I.stk a:=⟨h.2.1,h.2.2.1⟩
section
variable {I:Img}(hI:I.Ok){cf:Cf}(hc:Cf.Ok I cf){T:Ob->Prop}
include hI hc
theorem Z08 {ρ:List Ob}{st:Vw}(h:Ch cf ρ st)(v:Int):Ch cf ρ (st.set 4 v):=⟨h.sub,h.nd,h.r29,h.m2,h.m4,h.unc,h.cop⟩
theorem Z09 {ρ:List Ob}{st:Vw}(h:Ch cf ρ st)(v:Int):Tr cf T ρ st ρ (st.set 4 v) :=
 ⟨⟨[],(Yax _).symm,λ o b=>by cases b⟩,Z08 hI hc h v,λ j c _ _=>by show(if j=4 then v else st.reg j)=_;rw[if_neg c],λ _ _ _=>rfl,λ o b a=>absurd b a,rfl,rfl⟩
theorem Zxe {lk:Int}{env:List Int}{st:Vw}{n:Int}(h0:0<=n)(a:n<1056):okE I lk env st (eW n)/\evE I lk env st (eW n)=st.mem n:=by
 have e:u32m (n%4294967296+0)=n:=by unfold u32m;omega
 refine⟨Z3t (Zdr n) ?_,?_⟩
 .rw[Z8q,e];exact Za1 (hc.low n h0 a)
 .show st.mem (u32m (evE I lk env st (eC n)+0))=_
  rw[Z8q,e]
structure Z8v (cf:Cf)(st:Vw)(f:Int)(ws:List Int)(i:Nat)(st':Vw):Prop where
 reg:st'.reg=st.reg
 inp:st'.inp=st.inp
 out:st'.out=st.out
 mem:∀a,¬(f<=a/\a<f+i)->st'.mem a=st.mem a
 new:∀(j:Nat)(w:Int),j<i->ws[j]?=some w->st'.mem (f+(j:Int))=w
theorem Zta {i:Nat}(hs:Seg I kMove i (bItems rMove)){ρ:List Ob}{st:Vw}(l:Ch cf ρ st){w:Int}(hw:st.reg 4=w)(d3:WOk cf T w) :
 Real I kMove false st 19 (λ _ o k=>cr cf T ρ st w o k):=by
 refine Zgc hI rMove Zs9 hs (dep:=0) (Yar _) st _ λ lk env _ _ hl hp=>?_
 obtain⟨d,e1,B,s,rfl⟩:=Z8u hl;have h0:d=st.reg 4:=hp 0 (show(0:Int)<1 by decide);rw[hw] at h0;subst h0;obtain⟨w0,w1,b5⟩:=d3;have a3:∀(v:Int)(c:Nat),v=mv cf.to_ ρ d->Cl cf ρ d->c<=100->cr cf T ρ st d (.ret (st.set 4 v)) c:=λ v c hv d8 d4 =>
  ⟨_,ρ,rfl,Z09 hI hc l v,by rw[<- hv];exact Zg _ _ _,d8,by omega⟩
 have b4:evE I lk [d,e1,B,s] st (eAnd (eL 0) (eC 3))=d%4:=by
  show alu 7 d (3%4294967296)=_
  exact Z3u w0 w1
 have a4:∀env,okE I lk env st (isRef (eL 0)):=λ env=>Z2e (Zet (by decide) (Zcs 0) (Zdr 3)) (Zdr 1)
 have P:evE I lk [d,e1,B,s] st (isRef (eL 0))=if d%4=1 then 1 else 0:=by
  show(if evE I lk [d,e1,B,s] st (eAnd (eL 0) (eC 3))=_ then(1:Int) else 0)=_
  rw[b4];rfl
 unfold rMove;simp only;refine Zo9 rfl (Z2e (a4 _) (Zdr 0)) (λ hz=>?_) (λ d2=>?_)
 rotate_left
 .-- no pointer
  have a7:¬d%4=1:=λ hp=>d2 (by
   show(if evE I lk [d,e1,B,s] st (isRef (eL 0))=(0:Int)%4294967296 then(1:Int) else 0)=0
   rw[P,if_pos hp];rfl)
  refine Znf rfl (Zcs 0) (a3 _ _ ?_ ?_ (by decide))
  .show d=mv cf.to_ ρ d
   unfold mv;rw[if_neg a7]
  .intro o m he
   omega
 have hp:d%4=1:=Y_c λ a7=>by
  have:evE I lk [d,e1,B,s] st (eNot (isRef (eL 0)))=1:=by
   show(if evE I lk [d,e1,B,s] st (isRef (eL 0))=(0:Int)%4294967296 then(1:Int) else 0)=1
   rw[P,if_neg a7];rfl
  rw[hz] at this
  cases this
 refine Zb8 ?_;refine Ze6 rfl (Zet (by decide) (Zcs 0) (Zdr 2)) ?_;have ea:evE I lk [d,e1,B,s] st (eAdr (eL 0))=d/4:=by show alu 11 d (2%4294967296)=_;exact Z6t _
 rw[ea]
 show wpSs I 0 lk false _ [d,d/4,B,s] st _ _ _
 obtain⟨a,ha⟩:=Yx (d/4);rw[<- ha];rw[<- ha] at b5;have a0:0<=a/\a<1073741824:=by omega
 have g1:d=4*a+1:=by omega
 obtain⟨b9,X⟩:=Zxe hI hc (lk:=lk) (env:=[d,a,B,s]) (st:=st) (n:=2) (by decide) (by decide);obtain⟨b3,U⟩:=Zxe hI hc (lk:=lk) (env:=[d,a,B,s]) (st:=st) (n:=4) (by decide) (by decide);rw[l.m2] at X;rw[l.m4] at U;have f7:=hc.fr0;have f0:=hc.hf0;have f6:=hc.frz;have V:evE I lk [d,a,B,s] st (eLt (eSub (eL 1) (eW 2)) (eW 4))=if u32m (a-cf.fr)<cf.hf then 1 else 0:=by
  show alu 14 (alu 2 a (evE I lk [d,a,B,s] st (eW 2))) (evE I lk [d,a,B,s] st (eW 4))=_
  rw[X,U,Zjs,Z3v]
 have c4:u32m (a-cf.fr)<cf.hf↔cf.fr<=a/\a<cf.fr+cf.hf:=by
  unfold u32m
  constructor
  .intro h;omega
  .intro h;omega
 refine Zo9 rfl (Z2e (Zet (by decide) (Zet (by decide) (Zcs 1) b9) b3) (Zdr 0)) (λ d7=>?_) (λ b1=>?_)
 rotate_left
 .-- elsewhere
  have J:¬(cf.fr<=a/\a<cf.fr+cf.hf):=λ hq=>b1 (by
   show(if evE I lk [d,a,B,s] st (eLt (eSub (eL 1) (eW 2)) (eW 4))=(0:Int)%4294967296 then(1:Int) else 0)=0
   rw[V,if_pos (c4.2 hq)];rfl)
  have a6:nw cf.to_ ρ a=none:=by
   cases hq:nw cf.to_ ρ a with
   | none=>rfl
   | some ν =>
    exfalso
    obtain⟨o,m,eo,_⟩:=Zft hq;have:=hc.obs o (l.sub o m);have hl:=Zgy hc (l.sub o m);omega
  refine Znf rfl (Zcs 0) (a3 _ _ ?_ ?_ (by decide))
  .show d=mv cf.to_ ρ d
   unfold mv;rw[if_pos hp,<- ha,a6]
  .intro o m he
   have:=hc.obs o m;have hl:=Zgy hc m;omega
 have c0:cf.fr<=a/\a<cf.fr+cf.hf:=Y_c λ hq=>by
  have:evE I lk [d,a,B,s] st (eNot (eLt (eSub (eL 1) (eW 2)) (eW 4)))=1:=by
   show(if evE I lk [d,a,B,s] st (eLt (eSub (eL 1) (eW 2)) (eW 4))=(0:Int)%4294967296 then(1:Int) else 0)=1
   rw[V,if_neg (λ h=>hq (c4.1 h))];rfl
  rw[d7] at this
  cases this
 refine Zb8 ?_;obtain⟨b,u,hT,f1⟩:∃o∈cf.O,T o/\d=4*o.at_+1:=by
  rcases b5 hp with h|h|h
  .exact h
  .omega
  .omega
 have c8:a=b.at_:=by omega
 subst c8;obtain⟨K,f2,f3⟩:=hc.obs b u;obtain⟨hd,ws,a5,f8,c9⟩:=K.head;have f4:(b.ws.length:Int)=hd/32+1:=by rw[a5,c9];simp
 have b7:=K.word hd (by rw[a5];exact Yw);have d0:b.ws[0]?=some hd:=by rw[a5];rfl
 have u1:u32m (b.at_+0)=b.at_:=by unfold u32m;omega
 have G:Dat I b.at_:=hc.frd _ c0.1 c0.2;have a9:∀(env:List Int)(st:Vw),evE I lk env st (eL 1)=b.at_->okE I lk env st (eM (eL 1) 0):=λ env st he=>Z3t (Zcs 1) (by rw[he,u1];exact Za1 G)
 refine Ze6 rfl (a9 _ _ rfl) ?_;have em:evE I lk [d,b.at_,B,s] st (eM (eL 1) 0)=st.mem b.at_:=by
  show st.mem (u32m (b.at_+0))=_
  rw[u1]
 rw[em]
 show wpSs I 0 lk false _ [d,b.at_,st.mem b.at_,s] st _ _ _
 by_cases r:b∈ρ
 .-- it has been copied
  obtain⟨ν,L⟩:=Zgg (t:=cf.to_) r;have b2:=l.cop b r ν L;obtain⟨_,f9,g0⟩:=Zng hc l.sub u L;have c7:=hc.to0;have b6:=hc.toz;have f5:=Zb9 ρ cf.O l.nd l.sub;have a1:=hc.sum;rw[b2];have F:evE I lk [d,b.at_,4*ν+1,s] st (isRef (eL 2))=1:=by
   show(if alu 7 (4*ν+1) (3%4294967296)=(1:Int)%4294967296 then(1:Int) else 0)=1
   rw[Z3u (by omega) (by omega),if_pos (by omega)]
  refine Zo9 rfl (Z2e (Zet (by decide) (Zcs 2) (Zdr 3)) (Zdr 1)) (λ h=>by rw[F] at h;cases h) (λ _=>?_);refine Znf rfl (Zcs 2) (a3 _ _ ?_ ?_ (by decide))
  .show 4*ν+1=mv cf.to_ ρ d
   unfold mv;rw[if_pos hp,show d/4=b.at_ by omega,L]
  .intro o m he
   have:=Zvu hc m u (by omega);rw[this];exact r
 have d9:st.mem b.at_=hd:=by
  have:=l.unc b u r 0 hd d0;rw[show b.at_+((0:Nat):Int)=b.at_ by omega] at this;exact this
 rw[d9];have F:evE I lk [d,b.at_,hd,s] st (isRef (eL 2))=0:=by
  show(if alu 7 hd (3%4294967296)=(1:Int)%4294967296 then(1:Int) else 0)=0
  rw[Z3u b7.1 b7.2,if_neg (by omega)]
 refine Zo9 rfl (Z2e (Zet (by decide) (Zcs 2) (Zdr 3)) (Zdr 1)) (λ _=>?_) (λ h=>absurd F h);refine Zb8 ?_;refine Ze6 rfl (Zet (by decide) (Zcs 2) (Zdr 5)) ?_;have es:evE I lk [d,b.at_,hd,s] st (eShr (eL 2) 5)=hd/32:=by show alu 11 hd (5%4294967296)=_;exact Z7r _
 rw[es];refine Ze6 rfl (Zdr 0) ?_
 show wpSs I 0 lk false _ [d,b.at_,hd/32,0] st _ _ _
 obtain⟨f,hf⟩:=Yx (cf.to_+tot ρ);have Y:st.reg 29=f:=by rw[l.r29,hf]
 have d1:=Zyx l.nd l.sub u r;have a1:=hc.sum;have c7:=hc.to0;have b6:=hc.toz;have d6:=Zp ρ;have b0:∀x,f<=x->x<f+b.ws.length->Dat I x:=λ x h1 h2=>hc.tod x (by omega) (by omega)
 have c3:∀x,b.at_<=x->x<b.at_+b.ws.length->Dat I x:=λ x h1 h2=>hc.frd x (by omega) (by omega)
 have Q:∀x y,b.at_<=x->x<b.at_+b.ws.length->f<=y->y<f+b.ws.length->x≠y:=λ x y h1 h2 h3 h4=>by
  rcases hc.apart with ap|ap <;> omega
 refine Zvr rfl (λ env g c k=>∃i:Nat,i<=b.ws.length/\k=b.ws.length-i/\env=[d,b.at_,hd/32,(i:Int)]/\Z8v cf st f b.ws i g/\c<=70+36*i)
  (k0:=b.ws.length) ⟨0,Nat.zero_le _,rfl,rfl,⟨rfl,rfl,rfl,λ _ _=>rfl,λ j w hj=>by omega⟩,by decide⟩ ?_
 rintro env g c k ⟨n,hn,rfl,rfl,D,d4⟩;have e7:evE I lk [d,b.at_,hd/32,(n:Int)] g (eLt (eL 2) (eL 3))=if hd/32<(n:Int) then 1 else 0:=by
  show alu 14 (hd/32) (n:Int)=_
  exact Zjs _ _
 have W:evE I lk [d,b.at_,hd/32,(n:Int)] g (eNot (eLt (eL 2) (eL 3)))=if hd/32<(n:Int) then 0 else 1:=by
  show(if evE I lk [d,b.at_,hd/32,(n:Int)] g (eLt (eL 2) (eL 3))=(0:Int)%4294967296 then(1:Int) else 0)=_
  rw[e7]
  split <;> rfl
 refine⟨Z2e (Zet (by decide) (Zcs 2) (Zcs 3)) (Zdr 0),λ c6=>?_,λ N=>?_⟩
 rotate_left
 .-- one word more
  have e8:n<b.ws.length:=by
   rcases Nat.lt_or_ge n b.ws.length with h|h
   .exact h
   .exfalso
    rw[W,if_pos (by omega)] at N;exact N rfl
  have A:g.reg 29=f:=by rw[D.reg];exact Y
  have ep:u32m (evE I lk [d,b.at_,hd/32,(n:Int)] g (eAdd (eR 29) (eL 3))+0)=f+n:=by
   show u32m (alu 1 (g.reg 29) (n:Int)+0)=_
   rw[A,Zgf];unfold u32m;omega
  have c5:u32m (evE I lk [d,b.at_,hd/32,(n:Int)] g (eAdd (eL 1) (eL 3))+0)=b.at_+n:=by
   show u32m (alu 1 b.at_ (n:Int)+0)=_
   rw[Zgf];unfold u32m;omega
  have E:=b0 (f+n) (by omega) (by omega);have Z:=c3 (b.at_+n) (by omega) (by omega);refine Ziy rfl (Zet (by decide) (Zxh 29) (Zcs 3)) rfl (Z3t (Zet (by decide) (Zcs 1) (Zcs 3)) (by rw[c5];exact Za1 Z)) ep ⟨E.2.1,E.2.2.1,E.2.2.2⟩ ?_;have ev:evE I lk [d,b.at_,hd/32,(n:Int)] g (eM (eAdd (eL 1) (eL 3)) 0)=st.mem (b.at_+n):=by
   rw[Z88,c5];exact D.mem _ (λ q=>Q (b.at_+n) (b.at_+n) (by omega) (by omega) q.1 (by omega) rfl)
  rw[ev];refine Ze6 rfl (Zet (by decide) (Zcs 3) (Zdr 1)) ?_;have ei:evE I lk [d,b.at_,hd/32,(n:Int)] (g.sto (f+n) (st.mem (b.at_+n))) (eAdd (eL 3) (eC 1))=((n+1:Nat):Int):=by
   show alu 1 (n:Int) (1%4294967296)=_
   rw[Zgf];unfold u32m;omega
  rw[ei];refine Zb8 ⟨b.ws.length-(n+1),by omega,n+1,e8,rfl,rfl,⟨D.reg,D.inp,D.out,λ x M=>?_,λ j w hj C=>?_⟩,?_⟩
  .show(if x=f+n then _ else g.mem x)=_
   rw[if_neg (λ e=>M (by omega)),D.mem x (λ q=>M (by omega))]
  .show(if f+(j:Int)=f+n then _ else g.mem (f+(j:Int)))=w
   by_cases c2:j=n
   .subst c2
    rw[if_pos rfl];exact l.unc b u r j w C
   .rw[if_neg (by omega)]
    exact D.new j w (by omega) C
  .have q1:coE (eNot (eLt (eL 2) (eL 3)))=8:=rfl
   have q2:coE (eAdd (eR 29) (eL 3))=3:=rfl;have q3:coE (eM (eAdd (eL 1) (eL 3)) 0)=4:=rfl;have q4:coE (eAdd (eL 3) (eC 1))=4:=rfl;omega
 have e6:n=b.ws.length:=by
  rcases Nat.lt_or_ge n b.ws.length with h|h
  .exfalso
   rw[W,if_neg (by omega)] at c6
   cases c6
  .omega
 subst e6;have A:g.reg 29=f:=by rw[D.reg];exact Y
 have d5:evE I lk [d,b.at_,hd/32,(b.ws.length:Int)] g (eRef (eR 29))=4*f+1:=by
  show alu 8 (alu 10 (g.reg 29) (2%4294967296)) (1%4294967296)=_
  rw[A,Z5j];have e4:u32m (f*4)=f*4:=by unfold u32m;omega
  rw[e4,or1 (by omega) (by omega) (by omega)];omega
 refine Ziy rfl (Zcs 1) rfl (Zet (by decide) (Zet (by decide) (Zxh 29) (Zdr 2)) (Zdr 1)) u1 ⟨G.2.1,G.2.2.1,G.2.2.2⟩ ?_;rw[d5];refine Zne rfl (Zet (by decide) (Zxh 29) (Zcs 3)) ?_;have e5:evE I lk [d,b.at_,hd/32,(b.ws.length:Int)] (g.sto b.at_ (4*f+1)) (eAdd (eR 29) (eL 3))=f+b.ws.length:=by
  show alu 1 (g.reg 29) (b.ws.length:Int)=_
  rw[A,Zgf];unfold u32m;omega
 rw[e5];refine Znf rfl (a9 _ _ rfl) ?_;have b8:evE I lk [d,b.at_,hd/32,(b.ws.length:Int)] ((g.sto b.at_ (4*f+1)).set 29 (f+b.ws.length)) (eM (eL 1) 0)=4*f+1:=by
  show(if u32m (b.at_+0)=b.at_ then 4*f+1 else g.mem (u32m (b.at_+0)))=_
  rw[u1,if_pos rfl]
 rw[b8];have a2:nw cf.to_ (ρ++[b]) b.at_=some f:=by rw[hf];exact Zvt (λ x M e=>r (Zvu hc (l.sub x M) u e ▸ M)) rfl
 have H:tot (ρ++[b])=tot ρ+b.ws.length:=by rw[Zay,tot,tot,Yce]
 have p:∀x,(((g.sto b.at_ (4*f+1)).set 29 (f+b.ws.length)).set 4 (4*f+1)).mem x=if x=b.at_ then 4*f+1 else g.mem x:=λ _=>rfl
 have R:∀o∈cf.O,o≠b->∀k:Nat,k<o.ws.length->o.at_+(k:Int)≠b.at_/\¬(f<=o.at_+(k:Int)/\o.at_+(k:Int)<f+b.ws.length):=λ o m z k hk=>by
  have h1:=hc.dis o m b u z;have h2:=(hc.obs o m).2;refine⟨by omega,λ q=>?_⟩;rcases hc.apart with ap|ap <;> omega
 refine⟨_,ρ++[b],rfl,⟨⟨[b],rfl,λ o m=>?_⟩,⟨λ o m=>?_,?_,?_,?_,?_,λ o m J k w C=>?_,λ o m ν L=>?_⟩,λ j h4 h5 e9=>?_,λ x M c1=>?_,λ o m J ν L k w C=>?_,D.inp,D.out⟩,?_,λ o m he=>?_,?_⟩
 .simp only[Yr,Yv,or_false] at m
  subst m;exact hT
 .rcases Yag.1 m with m|m
  .exact l.sub o m
  .simp only[Yr,Yv,or_false] at m
   subst m;exact u
 .rw[List.nodup_append]
  refine⟨l.nd,by simp,λ x M y hy=>?_⟩;simp only[Yr,Yv,or_false] at hy;subst hy;intro e;subst e;exact r M
 .show(f+b.ws.length:Int)=_
  rw[H];omega
 .rw[p,if_neg (by omega),D.mem 2 (by omega)]
  exact l.m2
 .rw[p,if_neg (by omega),D.mem 4 (by omega)]
  exact l.m4
 .have hno1:o ∉ ρ:=λ q=>J (Ybh _ q)
  have z:o≠b:=λ e=>J (by rw[e];exact Ycf _ Yw)
  obtain⟨q1,q2⟩:=R o m z k (Yg.1 C).1;rw[p,if_neg q1,D.mem _ q2];exact l.unc o m hno1 k w C
 .by_cases z:o=b
  .subst z
   rw[a2] at L
   cases L
   rw[p,if_pos rfl]
  .have hoρ:o∈ρ:=by
    rcases Yag.1 m with m|m
    .exact m
    .simp only[Yr,Yv,or_false] at m
     exact absurd m z
   obtain⟨ν',a8⟩:=Zgg (t:=cf.to_) hoρ;have:=Zd5 [b] a8;rw[L] at this
   cases this
   have hl:=Zgy hc (l.sub o hoρ);obtain⟨q1,q2⟩:=R o (l.sub o hoρ) z 0 (by omega);rw[show o.at_+((0:Nat):Int)=o.at_ by omega] at q1 q2;rw[p,if_neg q1,D.mem _ q2];exact l.cop o hoρ ν a8
 .show(if j=4 then _ else if j=29 then _ else g.reg j)=_
  rw[if_neg h4,if_neg e9,D.reg]
 .rw[H] at c1
  rw[p,if_neg (λ e=>M (by omega)),D.mem x (λ q=>c1 (by omega))]
 .have z:o=b:=by
   rcases Yag.1 m with m|m
   .exact absurd m J
   .simpa using m
  subst z;rw[a2] at L
  cases L
  have hk:=(Yg.1 C).1;rw[p,if_neg (λ e=>Q o.at_ (f+(k:Int)) (Yar _) (by omega) (by omega) (by omega) e.symm)];exact D.new k w hk C
 .rw[Zg]
  unfold mv;rw[if_pos hp,show d/4=b.at_ by omega,a2]
 .have:=Zvu hc m u (by omega)
  rw[this];exact Ycf _ Yw
 .rw[H]
  have q1:coE (eNot (eLt (eL 2) (eL 3)))=8:=rfl;have q2:coE (eL 1)=1:=rfl;have q3:coE (eRef (eR 29))=7:=rfl;have q4:coE (eAdd (eR 29) (eL 3))=3:=rfl;have q5:coE (eM (eL 1) 0)=2:=rfl;simp only[Ybq,if_false];omega
end
end
section
structure S.Sc (cf:Cf)(T:Ob->Prop)(X:Int->Prop)(ρ:List Ob)(st:Vw)(ρ':List Ob)(st':Vw):Prop where
 ext:∃δ,ρ'=ρ++δ/\∀o∈δ,T o
 ch:Ch cf ρ' st'
 reg:∀j,j≠4->j≠5->j≠29->st'.reg j=st.reg j
 mem:∀a,¬X a->¬(cf.fr<=a/\a<cf.fr+cf.hf)->¬(cf.to_+tot ρ<=a/\a<cf.to_+tot ρ')->st'.mem a=st.mem a
 root:∀a,X a->st'.mem a=mv cf.to_ ρ' (st.mem a)/\Cl cf ρ' (st.mem a)
 new:∀o∈ρ',o ∉ ρ->∀ν,nw cf.to_ ρ' o.at_=some ν->∀(k:Nat)(w:Int),o.ws[k]?=some w->st'.mem (ν+(k:Int))=w
 inp:st'.inp=st.inp
 out:st'.out=st.out
def S.a9 (cf:Cf)(a:Int):Prop:=¬(cf.fr<=a/\a<cf.fr+cf.hf)/\¬(cf.to_<=a/\a<cf.to_+cf.hf)/\a≠2/\a≠4
theorem Zhs {env:List Int}(h:(env.length:Int)=2):∃a b,env=[a,b]:=by
 match env,h with
 | [a,b],_=>exact⟨a,b,rfl⟩
 | [],h=>simp at h
 | [_],h=>simp at h
 | _::_::_::_,h=>simp only[Yk] at h;omega
theorem Ztb:chkB rScan=0:=by kernel_rfl
section
variable {I:Img}(hI:I.Ok){cf:Cf}(hc:Cf.Ok I cf){T:Ob->Prop}
include hI hc
theorem Ztc {ρ:List Ob}{st a:Vw}(h:Ch cf ρ st)(b:a.reg 29=st.reg 29)(hm:a.mem=st.mem):Ch cf ρ a :=
 ⟨h.sub,h.nd,by rw[b];exact h.r29,by rw[hm];exact h.m2,by rw[hm];exact h.m4,λ o d c k w e=>by rw[hm];exact h.unc o d c k w e,λ o d ν f=>by rw[hm];exact h.cop o d ν f⟩
theorem S.Sc.refl {X:Int->Prop}(e:∀a,¬X a){ρ:List Ob}{st:Vw}(h:Ch cf ρ st):Sc cf T X ρ st ρ st :=
 ⟨⟨[],(Yax _).symm,λ o c=>by cases c⟩,h,λ _ _ _ _=>rfl,λ _ _ _ _=>rfl,λ a d=>absurd d (e a),λ o c b=>absurd c b,rfl,rfl⟩
theorem Zoa {ρ ρ' δ:List Ob}(e:ρ'=ρ++δ){w:Int}(g:WOk cf T w)(d:Cl cf ρ w)(c:∀o∈ρ',o∈cf.O):mv cf.to_ ρ' w=mv cf.to_ ρ w:=by
 unfold mv
 split
 .rename_i hp
  rcases g.2.2 hp with⟨o,a,_,rfl⟩|b
  .obtain⟨ν,hν⟩:=Zgg (t:=cf.to_) (d o a rfl)
   have f:(4*o.at_+1)/4=o.at_:=by omega
   rw[f,hν,e,Zd5 δ hν]
  .have none_of:∀ρ:List Ob,(∀o∈ρ,o∈cf.O)->nw cf.to_ ρ (w/4)=none:=λ ρ c=>by
    cases hq:nw cf.to_ ρ (w/4) with
    | none=>rfl
    | some ν =>
     exfalso
     obtain⟨o,a,ea,_⟩:=Zft hq;have:=hc.obs o (c o a);have hl:=Zgy hc (c o a);rcases b with q|q <;> omega
   rw[none_of ρ' c,none_of ρ λ o a=>c o (by rw[e];exact Ybh _ a)]
 .rfl
theorem S.Sc.trans {X Y:Int->Prop}{ρ ρ' ρ2:List Ob}{st d n:Vw}(h:Sc cf T X ρ st ρ' d)(k:Sc cf T Y ρ' d ρ2 n)(s:∀a,X a->¬Y a)(J:∀a,X a->a9 cf a)(A:∀a,Y a->a9 cf a)
 (m:∀a,X a->WOk cf T (st.mem a)):Sc cf T (λ a=>X a\/Y a) ρ st ρ2 n:=by
 obtain⟨δ,e,F⟩:=h.ext;obtain⟨δ2,l,u⟩:=k.ext;have t1:tot ρ'=tot ρ+tot δ:=by rw[e,Zay]
 have t2:tot ρ2=tot ρ'+tot δ2:=by rw[l,Zay]
 have p1:=Zp δ;have p2:=Zp δ2;have p0:=Zp ρ;have C:=Zb9 ρ2 cf.O k.ch.nd k.ch.sub;have hs:=hc.sum;refine⟨⟨δ++δ2,by rw[l,e,List.append_assoc],λ o b=>(Yag.1 b).elim (F o) (u o)⟩,k.ch,λ j z y p=>(k.reg j z y p).trans (h.reg j z y p),λ a r B D=>?_,λ a r=>?_,λ o b x ν E i w m=>?_,k.inp.trans h.inp,k.out.trans h.out⟩
 .rw[k.mem a (λ q=>r (.inr q)) B (λ q=>D ⟨by omega,q.2⟩),h.mem a (λ q=>r (.inl q)) B (λ q=>D ⟨q.1,by omega⟩)]
 .by_cases cx:X a
  .obtain⟨g,f⟩:=h.root a cx
   have b:=J a cx;rw[k.mem a (s a cx) b.1 (λ q=>b.2.1 ⟨by omega,by omega⟩),g];exact⟨(Zoa hI hc l (m a cx) f k.ch.sub).symm,λ o v K=>by rw[l];exact Ybh _ (f o v K)⟩
  .have cy:Y a:=r.resolve_left cx
   have b:=A a cy;obtain⟨g,f⟩:=k.root a cy;have G:d.mem a=st.mem a:=h.mem a cx b.1 (λ q=>b.2.1 ⟨by omega,by omega⟩);rw[G] at g f;exact⟨g,f⟩
 .by_cases c:o∈ρ'
  .obtain⟨ν',hν'⟩:=Zgg (t:=cf.to_) c
   have:=Zd5 δ2 hν';rw[<- l,E] at this
   cases this
   obtain⟨_,g,f⟩:=Zng hc h.ch.sub (h.ch.sub o c) hν';have hi:=(Yg.1 m).1;rw[k.mem (ν+(i:Int)) (λ q=>(A _ q).2.1 ⟨by omega,by omega⟩) (λ q=>by rcases hc.apart with H|H <;> omega) (λ q=>by omega)];exact h.new o c x _ hν' i w m
  .exact k.new o b c ν E i w m
theorem Zmc {m:Nat}(j:Seg I kMove m (bItems rMove)){dep lk:Int}{behind:Bool}(hd:19<=dep){ρ:List Ob}{st:Vw}(f:Ch cf ρ st){p:Int}(hp:Dat I p)(q:WOk cf T (st.mem p))
 {r:List Int} {c:Nat} {Q:List Int->Vw->Nat->Prop} {R:BO->Nat->Prop}
 (n:∀ρ' a (h:Nat),Tr cf T ρ (st.args [st.mem p]) ρ' a->Cl cf ρ' (st.mem p)->(h:Int)<=c+116+40*(tot ρ'-tot ρ)->Q ((p+1)::r) (a.sto p (mv cf.to_ ρ' (st.mem p))) h) :
 wpSs I dep lk behind bScan (p::r) st c Q R:=by
 have hsz:=hI.size2;have h0:=hp.1;have h1:=hp.2.1;have d:u32m (p+0)=p:=by unfold u32m;omega
 unfold bScan;rw[Zba,Zls];refine Zbg rfl (Zcs 0) ?_;rw[Z5a];refine Zbg rfl (Z3t (Zcs 0) (by show u32m (p+0)<_/\¬I.stk (u32m (p+0));rw[d];exact Za1 hp)) ?_;have t:evE I lk (p::r) st (eM (eL 0) 0)=st.mem p:=by
  show st.mem (u32m (p+0))=_
  rw[d]
 rw[t];have b:Ch cf ρ (st.args [st.mem p]):=Ztc hI hc f rfl rfl;refine⟨19,_,Zta hI hc j b (w:=st.mem p) rfl q,hd,λ ret o k i=>?_⟩;obtain⟨a,ρ',rfl,g,l,e,hk⟩:=i
 show u32m (p+0)<I.size/\¬I.stk (u32m (p+0))/\¬I.code (u32m (p+0))/\_
 rw[d];refine⟨hp.2.1,hp.2.2.1,hp.2.2.2,?_⟩;rw[l,show u32m (evE I lk (p::r) st (eL 0)+0)=p from d];refine Ze6 rfl (Zet (by decide) (Zcs 0) (Zdr 1)) (Zb8 ?_);have s:evE I lk (p::r) (a.sto p (mv cf.to_ ρ' (st.mem p))) (eAdd (eL 0) (eC 1))=p+1:=by
  show alu 1 p (1%4294967296)=_
  rw[Zgf];unfold u32m;omega
 rw[s];refine n ρ' a _ g e ?_;have q1:coE (eL 0)=1:=rfl;have q2:coE (eM (eL 0) 0)=2:=rfl;have q3:coE (eAdd (eL 0) (eC 1))=4:=rfl;simp only[Yk,Yad];omega
theorem Z3w {ρ ρ':List Ob}{st c:Vw}{p:Int}(hp:a9 cf p)(d:∀o∈cf.O,True)(b:Tr cf T ρ (st.args [st.mem p]) ρ' c)(i:Cl cf ρ' (st.mem p)) :
 Sc cf T (λ a=>a=p) ρ st ρ' (c.sto p (mv cf.to_ ρ' (st.mem p))):=by
 have hm:∀a,(c.sto p (mv cf.to_ ρ' (st.mem p))).mem a=if a=p then mv cf.to_ ρ' (st.mem p) else c.mem a:=λ _=>rfl
 have n:=Zb9 ρ' cf.O b.ch.nd b.ch.sub;have hs:=hc.sum;have h0:=Zp ρ';refine⟨b.ext,⟨b.ch.sub,b.ch.nd,b.ch.r29,?_,?_,λ o d f k w g=>?_,λ o d ν h=>?_⟩,λ j r q m=>?_,λ a l s t=>?_,λ a l=>?_,λ o d f ν h k w g=>?_,b.inp,b.out⟩
 .rw[hm,if_neg (Ne.symm hp.2.2.1)];exact b.ch.m2
 .rw[hm,if_neg (Ne.symm hp.2.2.2)];exact b.ch.m4
 .have:=hc.obs o d
  have u:=(Yg.1 g).1;rw[hm,if_neg (λ e=>hp.1 ⟨by omega,by omega⟩)];exact b.ch.unc o d f k w g
 .have:=hc.obs o (b.ch.sub o d)
  have hl:=Zgy hc (b.ch.sub o d);rw[hm,if_neg (λ e=>hp.1 ⟨by omega,by omega⟩)];exact b.ch.cop o d ν h
 .show c.reg j=st.reg j
  rw[b.reg j r q m]
  show(if 4<=j/\j<4+(1:Nat) then _ else st.reg j)=_
  rw[if_neg (by omega)]
 .rw[hm,if_neg l]
  exact b.mem a s t
 .subst l
  rw[hm,if_pos rfl];exact⟨rfl,i⟩
 .obtain⟨_,q1,q2⟩:=Zng hc b.ch.sub (b.ch.sub o d) h
  have u:=(Yg.1 g).1;rw[hm,if_neg (λ e=>hp.2.1 ⟨by omega,by omega⟩)];exact b.new o d f ν h k w g
def S.ct (cf:Cf)(T:Ob->Prop)(a b:Int)(ρ:List Ob)(st:Vw)(o:BO)(k:Nat):Prop :=
 ∃st' ρ',o=.ret st'/\Sc cf T (λ x=>a<=x/\x<b) ρ st ρ' st'/\(k:Int)<=30+130*(if a<b then b-a else 0)+40*(tot ρ'-tot ρ)
theorem Ztd {H J:Nat}(F:Seg I kMove H (bItems rMove))(Q:Seg I kScan J (bItems rScan)){ρ:List Ob}{st:Vw}(w:Ch cf ρ st){a b:Int}(L:st.reg 4=a)(M:st.reg 5=b)(K:0<=a/\0<=b/\b<=335544320)
 (n:∀x,a<=x->x<b->Dat I x/\a9 cf x) (z:∀x,a<=x->x<b->WOk cf T (st.mem x)) :
 Real I kScan false st 36 (λ _ o k=>ct cf T a b ρ st o k):=by
 have G:(1:Nat)=1:=rfl;refine Zgc hI rScan Ztb Q (dep:=19) (by decide) st _ λ lk env _ _ N hp=>?_
 obtain⟨d,j,rfl⟩:=Zhs N;have h0:d=st.reg 4:=hp 0 (show(0:Int)<2 by decide);have A:j=st.reg 5:=hp 1 (show(1:Int)<2 by decide);rw[L] at h0;rw[M] at A;subst h0 A;unfold rScan;simp only;refine Zvr rfl (λ env l c k=>∃(i:Nat)(ρ':List Ob),(i=0\/d+i<=j)/\k=(j-d).toNat-i/\env=[d+i,j]/\Sc cf T (λ x=>d<=x/\x<d+i) ρ st ρ' l/\(c:Int)<=6+127*i+40*(tot ρ'-tot ρ))
  (k0:=(j-d).toNat) ⟨0,ρ,.inl rfl,by omega,by simp,Sc.refl hI hc (λ x p=>by omega) w,by simp⟩ ?_
 rintro env l c k ⟨i,ρ',hi,rfl,rfl,g,E⟩;have t:evE I lk [d+(i:Int),j] l (eLt (eL 0) (eL 1))=if d+(i:Int)<j then 1 else 0:=by
  show alu 14 (d+(i:Int)) j=_
  exact Zjs _ _
 refine⟨Zet (by decide) (Zcs 0) (Zcs 1),λ D=>?_,λ u=>?_⟩
 .have hnlt:¬d+(i:Int)<j:=λ h=>by rw[t,if_pos h] at D;cases D
  refine Zb8 ⟨l,ρ',rfl,?_,?_⟩
  .have heq:(λ x=>d<=x/\x<d+(i:Int))=λ x=>d<=x/\x<j:=by
    funext x
    refine propext ⟨λ q=>?_,λ q=>?_⟩
    .rcases hi with rfl|hi
     .exact absurd q (by omega)
     .omega
    .rcases hi with rfl|hi
     .omega
     .omega
   rw[<- heq];exact g
  .have q1:coE (eLt (eL 0) (eL 1))=3:=rfl
   simp only[Ybq,if_false];rcases hi with rfl|hi
   .rw[if_neg (by omega)]
    omega
   .by_cases h:d<j
    .rw[if_pos h];omega
    .rw[if_neg h];omega
 .have hlt:d+(i:Int)<j:=Y_c λ h=>by
   rw[t,if_neg h] at u;exact u rfl
  obtain⟨hd,f⟩:=n (d+i) (by omega) hlt;have B:=Zb9 ρ' cf.O g.ch.nd g.ch.sub;have hs:=hc.sum;have t0:=Zp ρ;have r:l.mem (d+i)=st.mem (d+i):=g.mem _ (by omega) f.1 (λ q=>f.2.1 ⟨by omega,by omega⟩);refine Zmc hI hc F (Yar _) g.ch hd (T:=T) (by rw[r];exact z _ (by omega) hlt) λ ρ2 P c' y v C=>?_
  have s:=Z3w hI hc f (λ _ _=>trivial) y v;have m:=Sc.trans hI hc g s (λ x p e=>by omega) (λ x p=>(n x p.1 (by omega)).2) (λ x p=>by rw[p];exact f) (λ x p=>z x p.1 (by omega));refine⟨(j-d).toNat-(i+1),by omega,i+1,ρ2,.inr (by omega),rfl,by congr 1;omega,?_,?_⟩
  .have heq:(λ x=>(d<=x/\x<d+(i:Int))\/x=d+(i:Int))=λ x=>d<=x/\x<d+((i+1:Nat):Int):=by
    funext x
    refine propext ⟨λ q=>by omega,λ q=>by omega⟩
   rw[<- heq];exact m
  .have q1:coE (eLt (eL 0) (eL 1))=3:=rfl
   omega
end
end
section
theorem Zq6:chkB rFrame=0:=by kernel_rfl
theorem Z8w {env:List Int}(h:(env.length:Int)=5):∃a b c d e,env=[a,b,c,d,e]:=by
 match env,h with
 | [a,b,c,d,e],_=>exact⟨a,b,c,d,e,rfl⟩
 | [],h=>simp at h
 | [_],h=>simp at h
 | [_,_],h=>simp at h
 | [_,_,_],h=>simp at h
 | [_,_,_,_],h=>simp at h
 | _::_::_::_::_::_::_,h=>simp only[Yk] at h;omega
def S.cn (w:Int)(i:Nat):Bool:=w/2^i%2==1
def S.Sl (s w:Int)(i:Nat)(x:Int):Prop:=∃j:Nat,j<i/\x=s+j/\cn w j=true
theorem Z1a (s w:Int)(x:Int):¬Sl s w 0 x:=λ⟨j,h,_⟩=>by omega
theorem sl_step {s w:Int}{i:Nat}{x:Int}:Sl s w (i+1) x↔Sl s w i x\/(x=s+i/\cn w i=true):=by
 constructor
 .rintro⟨j,h,rfl,hb⟩
  by_cases c:j=i
  .subst c;exact .inr ⟨rfl,hb⟩
  .exact .inl ⟨j,by omega,rfl,hb⟩
 .rintro(⟨j,h,rfl,hb⟩|⟨rfl,hb⟩)
  .exact⟨j,by omega,rfl,hb⟩
  .exact⟨i,by omega,rfl,hb⟩
theorem Zte (w:Int)(i:Nat):w/2^i/2=w/2^(i+1):=by
 rw[Int.ediv_ediv_of_nonneg (Ycg (Ych (by decide))),Int.pow_succ]
section
variable {I:Img}(hI:I.Ok){cf:Cf}(hc:Cf.Ok I cf){T:Ob->Prop}
include hI hc
theorem Ztf {X:Int->Prop}{ρ ρ':List Ob}{st a:Vw}{l:List Int}(hl:l.length<=2)(h:Sc cf T X ρ (st.args l) ρ' a):Sc cf T X ρ st ρ' a :=
 ⟨h.ext,h.ch,λ j d c b=>by
  rw[h.reg j d c b]
  show(if 4<=j/\j<4+(l.length:Int) then _ else st.reg j)=_
  rw[if_neg (by omega)],h.mem,h.root,h.new,h.inp,h.out⟩
theorem Zgp {X Y:Int->Prop}(e:∀x,X x↔Y x){ρ ρ':List Ob}{st a:Vw}(h:Sc cf T X ρ st ρ' a):Sc cf T Y ρ st ρ' a:=by
 have:X=Y:=funext λ x=>propext (e x)
 subst this;exact h
theorem Zk1 {C E:Nat}(B:Seg I kMove C (bItems rMove))(G:Seg I kScan E (bItems rScan)){dep lk:Int}{behind:Bool}(hd:36<=dep){X:Int->Prop}{ρ0 ρ:List Ob}{st0 st:Vw}(g:Sc cf T X ρ0 st0 ρ st)
 {a b:Int} {l:List BE} {env:List Int} (hp:pureEs l=true) (u:okEs I lk env st l) (z:evEs I lk env st l=[a,b]) (t:0<=a/\0<=b/\b<=335544320)
 (f:∀x,a<=x->x<b->Dat I x/\a9 cf x) (F:∀x,a<=x->x<b->WOk cf T (st0.mem x)) (s:∀x,X x->a9 cf x/\WOk cf T (st0.mem x)/\¬(a<=x/\x<b))
 {r:List BS} {c:Nat} {Q:List Int->Vw->Nat->Prop} {R:BO->Nat->Prop}
 (D:∀ρ' h (y:Nat),Sc cf T (λ x=>X x\/(a<=x/\x<b)) ρ0 st0 ρ' h->0<=tot ρ'-tot ρ->(y:Int)<=c+coEs l+36+130*(if a<b then b-a else 0)+40*(tot ρ'-tot ρ)->wpSs I dep lk behind r env h y Q R) :
 wpSs I dep lk behind (sDo (eF kScan l)::r) env st c Q R:=by
 have w:=Zb9 ρ cf.O g.ch.nd g.ch.sub;have hs:=hc.sum;have t0:=Zp ρ0;have p:Ch cf ρ (st.args [a,b]):=Ztc hI hc g.ch rfl rfl;have n:∀x,a<=x->x<b->st.mem x=st0.mem x:=λ x m i=>by
  obtain⟨_,v⟩:=f x m i;exact g.mem x (λ q=>(s x q).2.2 ⟨m,i⟩) v.1 (λ q=>v.2.1 ⟨by omega,by omega⟩)
 refine Z5i hp u (d:=36) (T:=λ _ o k=>ct cf T a b ρ (st.args [a,b]) o k) (by rw[z];exact Ztd hI hc B G p rfl rfl t f λ x m i=>by show WOk cf T (st.mem x);rw[n x m i];exact F x m i) hd λ ret o k A=>?_
 obtain⟨h,ρ',rfl,m,hk⟩:=A;have i:=Ztf hI hc (by simp) m;obtain⟨δ,e,_⟩:=i.ext;have:=Zp δ;refine D ρ' h _ (Sc.trans hI hc g i (λ x j q=>(s x j).2.2 q) (λ x j=>(s x j).1) (λ x j=>(f x j.1 j.2).2) (λ x j=>(s x j).2.1)) (by rw[e,Zay];omega) ?_;rw[z];simp only[Yk,Yad];omega
theorem Zob {P W:Nat}(O:Seg I kMove P (bItems rMove))(hS:Seg I kScan W (bItems rScan)){dep lk:Int}{behind:Bool}(hd:36<=dep){X:Int->Prop}{ρ0 ρ:List Ob}{st0 st:Vw}(L:Sc cf T X ρ0 st0 ρ st)
 {a g s w:Int} (t:0<=w/\w<4294967296) (U:0<=s/\s+32<=335544320) (n:∀j:Nat,j<32->cn w j=true->Dat I (s+j)/\a9 cf (s+j)/\WOk cf T (st0.mem (s+j)))
 (H:∀x,X x->a9 cf x/\WOk cf T (st0.mem x)/\¬(s<=x/\x<s+32))
 {r:List BS} {c:Nat} {Q:List Int->Vw->Nat->Prop} {R:BO->Nat->Prop}
 (V:∀ρ' d w' (C:Nat),Sc cf T (λ x=>X x\/Sl s w 32 x) ρ0 st0 ρ' d->0<=tot ρ'-tot ρ->(C:Int)<=c+10000+40*(tot ρ'-tot ρ)->wpSs I dep lk behind r [a,g,s+32,w',s+32] d C Q R) :
 wpSs I dep lk behind (sWh (eLt (eL 2) (eL 4))
  [sWhen (eAnd (eL 3) (eC 1)) [sDo (eF kScan [eL 2,eAdd (eL 2) (eC 1)])],
   sAs 3 (eShr (eL 3) 1),sAs 2 (eAdd (eL 2) (eC 1))]::r) [a,g,s,w,s+32] st c Q R:=by
 have hs:=hc.sum;refine Zvr rfl (λ env d C k=>∃(i:Nat)(ρ':List Ob),i<=32/\k=32-i/\env=[a,g,s+i,w/2^i,s+32]/\Sc cf T (λ x=>X x\/Sl s w i x) ρ0 st0 ρ' d/\0<=tot ρ'-tot ρ/\(C:Int)<=c+250*i+40*(tot ρ'-tot ρ))
  (k0:=32) ⟨0,ρ,by omega,rfl,by simp,Zgp hI hc (λ x=>⟨.inl,λ h=>h.resolve_right (Z1a s w x)⟩) L,by omega,by simp⟩ ?_
 rintro env d C k ⟨i,ρ',hi,rfl,rfl,f,hg,N⟩;have v:evE I lk [a,g,s+(i:Int),w/2^i,s+32] d (eLt (eL 2) (eL 4))=if s+(i:Int)<s+32 then 1 else 0:=by
  show alu 14 (s+(i:Int)) (s+32)=_
  exact Zjs _ _
 have G:coE (eLt (eL 2) (eL 4))=3:=rfl;refine⟨Zet (by decide) (Zcs 2) (Zcs 4),λ D=>?_,λ m=>?_⟩
 .have h32:i=32:=by
   refine Y_c λ h=>?_
   rw[v,if_pos (by omega)] at D
   cases D
  subst h32;exact V ρ' d _ _ f hg (by rw[G];omega)
 .have hlt:i<32:=Y_c λ h=>by
   rw[v,if_neg (by omega)] at m;exact m rfl
  have u:0<=w/2^i:=Int.ediv_nonneg t.1 (Ycg (Ych (by decide)));have A:w/2^i<4294967296:=Int.lt_of_le_of_lt (Int.ediv_le_self _ t.1) t.2;have p:evE I lk [a,g,s+(i:Int),w/2^i,s+32] d (eAnd (eL 3) (eC 1))=w/2^i%2:=by
   show alu 7 (w/2^i) (1%4294967296)=_
   exact Z9a u A
  have Z:∀st,evE I lk [a,g,s+(i:Int),w/2^(i+1),s+32] st (eAdd (eL 2) (eC 1))=s+((i+1:Nat):Int):=λ st=>by
   show alu 1 (s+(i:Int)) (1%4294967296)=_
   rw[Zgf];unfold u32m;omega
  have eb:∀st,evE I lk [a,g,s+(i:Int),w/2^i,s+32] st (eAdd (eL 2) (eC 1))=s+((i+1:Nat):Int):=λ st=>by
   show alu 1 (s+(i:Int)) (1%4294967296)=_
   rw[Zgf];unfold u32m;omega
  have K:∀st,evE I lk [a,g,s+(i:Int),w/2^i,s+32] st (eShr (eL 3) 1)=w/2^(i+1):=λ st=>by
   show alu 11 (w/2^i) (1%4294967296)=_
   rw[Z9b,Zte]
  have Y:coE (eShr (eL 3) 1)=4:=rfl;have q3:coE (eAdd (eL 2) (eC 1))=4:=rfl;have M:coE (eAnd (eL 3) (eC 1))=4:=rfl;have E:∀(ρ2:List Ob)(e:Vw)(c2:Nat),Sc cf T (λ x=>X x\/Sl s w (i+1) x) ρ0 st0 ρ2 e->0<=tot ρ2-tot ρ->(c2:Int)<=c+250*i+220+40*(tot ρ2-tot ρ) ->
   wpSs I dep lk behind [sAs 3 (eShr (eL 3) 1),sAs 2 (eAdd (eL 2) (eC 1))] [a,g,s+(i:Int),w/2^i,s+32] e c2 (λ Zhs e c2=>∃k2,k2<32-i/\∃(i:Nat)(ρ':List Ob),i<=32/\k2=32-i/\Zhs=[a,g,s+i,w/2^i,s+32]/\Sc cf T (λ x=>X x\/Sl s w i x) ρ0 st0 ρ' e/\0<=tot ρ'-tot ρ/\((c2+3:Nat):Int)<=c+250*i+40*(tot ρ'-tot ρ)) R:=by
   intro ρ2 e c2 B F J;refine Ze6 rfl (Zet (by decide) (Zcs 3) (Zdr 1)) ?_;rw[K];refine Ze6 rfl (Zet (by decide) (Zcs 2) (Zdr 1)) (Zb8 ?_);refine⟨32-(i+1),by omega,i+1,ρ2,by omega,rfl,?_,B,F,by rw[Y,q3];omega⟩;exact congrArg (λ z=>[a,g,z,w/2^(i+1),s+32]) (Z e)
  refine Zo9 rfl (Zet (by decide) (Zcs 3) (Zdr 1)) (λ D=>?_) (λ m=>?_)
  .rw[p] at D
   refine Zb8 (E ρ' d _ (Zgp hI hc (λ x=>⟨λ h=>h.imp id λ q=>sl_step.2 (.inl q),λ h=>h.imp id λ q=>(sl_step.1 q).resolve_right λ q=>?_⟩) f) hg (by rw[G,M];omega));have:=q.2;unfold cn at this;rw[D] at this
   cases this
  .rw[p] at m
   have o:cn w i=true:=by
    unfold cn;rw[show w/2^i%2=1 from by omega];rfl
   obtain⟨d1,d2,d3⟩:=n i hlt o;refine Zk1 hI hc O hS hd f (a:=s+i) (b:=s+((i+1:Nat):Int)) (l:=[eL 2,eAdd (eL 2) (eC 1)]) rfl ⟨Zcs 2,Zet (by decide) (Zcs 2) (Zdr 1),trivial⟩ (by show [_,_]=_;rw[eb];rfl) (by omega)
    (λ x B F=>by
     have:x=s+i:=by omega
     rw[this];exact⟨d1,d2⟩) (λ x B F=>by
     have:x=s+i:=by omega
     rw[this];exact d3) (λ x y=>?_) λ ρ2 e c2 B F J=>Zb8 (E ρ2 e _ (Zgp hI hc (λ x=>?_) B) (by omega) ?_)
   .rcases y with y|⟨j,hj,rfl,hb⟩
    .exact⟨(H x y).1,(H x y).2.1,λ q=>(H x y).2.2 ⟨by omega,by omega⟩⟩
    .obtain⟨_,g2,g3⟩:=n j (by omega) hb
     exact⟨g2,g3,λ q=>by omega⟩
   .rw[or_assoc]
    refine or_congr Iff.rfl (Iff.trans ?_ sl_step.symm);exact or_congr Iff.rfl ⟨λ q=>⟨by omega,o⟩,λ q=>⟨by omega,by omega⟩⟩
   .have q5:coEs [eL 2,eAdd (eL 2) (eC 1)]=5:=rfl
    rw[q5,if_pos (by omega)] at J;rw[G,M] at J;omega
structure S.df (I:Img)(cf:Cf)(T:Ob->Prop)(mem:Int->Int)(a:Int)(n:Nat):Prop where
 a0:0<=a
 n31:n<=31
 len:mem a=n
 rd:∀j:Nat,j<=n->a+j<I.size/\¬I.stk (a+j)/\a9 cf (a+j)
 off:a+n<32\/32+32*n<=a
 word:∀j:Nat,j<n->0<=mem (a+1+j)/\mem (a+1+j)<4294967296
 slot:∀j i:Nat,j<n->i<32->cn (mem (a+1+j)) i=true->WOk cf T (mem (32+32*j+i))
def S.FX (mem:Int->Int)(a:Int)(n:Nat)(x:Int):Prop:=∃j:Nat,j<n/\Sl (32+32*j) (mem (a+1+j)) 32 x
def S.cz (cf:Cf)(T:Ob->Prop)(a:Int)(n:Nat)(ρ:List Ob)(st:Vw)(o:BO)(k:Nat):Prop :=
 ∃st' ρ',o=.ret st'/\Sc cf T (FX st.mem a n) ρ st ρ' st'/\(k:Int)<=60+10100*n+40*(tot ρ'-tot ρ)
theorem Zdb {mem:Int->Int}{a:Int}{n:Nat}{x:Int}(h:FX mem a n x):32<=x/\x<32+32*n:=by
 obtain⟨j,hj,i,hi,rfl,_⟩:=h;omega
theorem Zq7 {iM iS iF:Nat}(hM:Seg I kMove iM (bItems rMove))(hS:Seg I kScan iS (bItems rScan))(hF:Seg I kFrame iF (bItems rFrame)){ρ:List Ob}{st:Vw}(N:Ch cf ρ st){a:Int}{n:Nat}(ha:st.reg 4=a)(hm:df I cf T st.mem a n) :
 Real I kFrame false st 56 (λ _ o k=>cz cf T a n ρ st o k):=by
 refine Zgc hI rFrame Zq6 hF (dep:=36) (by decide) st _ λ lk env _ _ hl hp=>?_
 obtain⟨b,K,J,l,f,rfl⟩:=Z8w hl;have h0:b=st.reg 4:=hp 0 (show(0:Int)<1 by decide);rw[ha] at h0;subst h0;have hs:=hc.sum;have hsz:=hI.size2;have a2:=hm.a0;have hn:=hm.n31;have m:∀x,32<=x->x<1056->a9 cf x:=λ x Z h2=>⟨λ q=>by have:=hc.fr0;omega,λ q=>by have:=hc.to0;omega,by omega,by omega⟩
 have r:∀j:Nat,j<=n->b+j<I.size/\¬I.stk (b+j):=λ j V=>⟨(hm.rd j V).1,(hm.rd j V).2.1⟩
 unfold rFrame;simp only;have u:u32m (b+0)=b:=by have:=(r 0 (by omega)).1;unfold u32m;omega
 have G:∀env st,u32m (evE I lk env st (eL 0)+0)=b->okE I lk env st (eM (eL 0) 0):=λ env st h=>Z3t (Zcs 0) (by rw[h];have:=r 0 (by omega);simpa using this)
 refine Ze6 rfl (Zet (by decide) (Zcs 0) (G _ _ u)) ?_;have P:evE I lk [b,K,J,l,f] st (eAdd (eL 0) (eM (eL 0) 0))=b+n:=by
  show alu 1 b (st.mem (u32m (b+0)))=_
  rw[u,hm.len,Zgf];have:=(r n (by omega)).1;unfold u32m;omega
 rw[P];refine Ze6 rfl (Zdr 32) ?_;have B:([b,K,J,l,f].set (Yc3 1) (b+n)).set (Yc3 2) (evE I lk ([b,K,J,l,f].set (Yc3 1) (b+n)) st (eC 32))=[b,b+n,32,l,f]:=rfl;rw[B];refine Zvr rfl (λ env d W k=>∃(j:Nat)(ρ':List Ob)(l f:Int),j<=n/\k=n-j/\env=[b+j,b+n,32+32*j,l,f]/\Sc cf T (FX st.mem b j) ρ st ρ' d/\0<=tot ρ'-tot ρ/\(W:Int)<=30+10100*j+40*(tot ρ'-tot ρ))
  (k0:=n) ⟨0,ρ,l,f,by omega,by omega,by simp,Sc.refl hI hc (λ x ⟨j,h,_⟩=>by omega) N,by omega,by
   have E:coE (eAdd (eL 0) (eM (eL 0) 0))=4:=rfl;have M:coE (eC 32)=2:=rfl;rw[E,M]
   show((3+4+1+2+1:Nat):Int)<=_
   omega⟩ ?_
 rintro env d W k ⟨j,ρ',l,f,V,rfl,rfl,p,hg,a1⟩;have E:coE (eLt (eL 0) (eL 1))=3:=rfl;have C:evE I lk [b+(j:Int),b+n,32+32*(j:Int),l,f] d (eLt (eL 0) (eL 1))=if b+(j:Int)<b+n then 1 else 0:=by
  show alu 14 (b+(j:Int)) (b+n)=_
  exact Zjs _ _
 refine⟨Zet (by decide) (Zcs 0) (Zcs 1),λ hz=>?_,λ A=>?_⟩
 .have he:j=n:=by
   refine Y_c λ h=>?_
   rw[C,if_pos (by omega)] at hz
   cases hz
  subst he;exact Zb8 ⟨d,ρ',rfl,p,by rw[E];simp only[Ybq,if_false];omega⟩
 .have hlt:j<n:=Y_c λ h=>by
   rw[C,if_neg (by omega)] at A;exact A rfl
  have X:=Zb9 ρ' cf.O p.ch.nd p.ch.sub;have t0:=Zp ρ;have L:=r (j+1) (by omega);refine Ze6 rfl (Zet (by decide) (Zcs 0) (Zdr 1)) ?_;have H:evE I lk [b+(j:Int),b+n,32+32*(j:Int),l,f] d (eAdd (eL 0) (eC 1))=b+((j+1:Nat):Int):=by
   show alu 1 (b+(j:Int)) (1%4294967296)=_
   rw[Zgf];unfold u32m;omega
  rw[H];have y:u32m (b+((j+1:Nat):Int)+0)=b+((j+1:Nat):Int):=by unfold u32m;omega
  refine Ze6 (e:=eM (eL 0) 0) rfl (Z3t (Zcs 0) (by show u32m (b+((j+1:Nat):Int)+0)<_/\¬I.stk (u32m (b+((j+1:Nat):Int)+0));rw[y];exact L)) ?_;obtain⟨w,v⟩:=Yx (st.mem (b+1+j));have Q:evE I lk ([b+(j:Int),b+n,32+32*(j:Int),l,f].set (Yc3 0) (b+((j+1:Nat):Int))) d (eM (eL 0) 0)=w:=by
   show d.mem (u32m (b+((j+1:Nat):Int)+0))=_
   have Y:=(hm.rd (j+1) (by omega)).2.2;rw[y,p.mem _ (λ q=>by have:=Zdb hI hc q;have:=hm.off;omega) Y.1 (λ q=>Y.2.1 ⟨by omega,by omega⟩),v]
   congr 1
   omega
  rw[Q];have s:([b+(j:Int),b+n,32+32*(j:Int),l,f].set (Yc3 0) (b+((j+1:Nat):Int))).set (Yc3 3) w=[b+((j+1:Nat):Int),b+n,32+32*(j:Int),w,f]:=rfl;rw[s];have q5:coE (eQ (eL 2) (eC 1056))=3+3:=by decide
  refine Zo9 rfl (Z2e (Zcs 2) (Zdr 1056)) (λ _=>Zb8 ?_) (λ F=>?_)
  .refine Ze6 rfl (Zet (by decide) (Zcs 2) (Zdr 32)) ?_
   have U:evE I lk [b+((j+1:Nat):Int),b+n,32+32*(j:Int),w,f] d (eAdd (eL 2) (eC 32))=32+32*(j:Int)+32:=by
    show alu 1 (32+32*(j:Int)) (32%4294967296)=_
    rw[Zgf];unfold u32m;omega
   rw[U];have t:[b+((j+1:Nat):Int),b+n,32+32*(j:Int),w,f].set (Yc3 4) (32+32*(j:Int)+32)=[b+((j+1:Nat):Int),b+n,32+32*(j:Int),w,32+32*(j:Int)+32]:=rfl;rw[t];have M:coE (eAdd (eL 0) (eC 1))=4:=rfl;have q3:coE (eM (eL 0) 0)=2:=rfl;have q4:coE (eAdd (eL 2) (eC 32))=4:=rfl;refine Zob hI hc hM hS (Yar _) p (v ▸ hm.word j hlt) (by omega) (λ i hi R=>⟨hc.low _ (by omega) (by omega),m _ (by omega) (by omega),hm.slot j i hlt hi (v ▸ R)⟩)
    (λ x D=>⟨m x (by have:=Zdb hI hc D;omega) (by have:=Zdb hI hc D;omega),?_,by have:=Zdb hI hc D;omega⟩) λ ρ2 a3 w' c2 Z h2 h3=>Zb8 ?_
   .obtain⟨q,F,i,hi,rfl,R⟩:=D
    exact hm.slot q i (by omega) hi R
   .refine⟨n-(j+1),by omega,j+1,ρ2,w',32+32*(j:Int)+32,hlt,rfl,?_,Zgp hI hc (λ x=>?_) Z,by omega,by rw[E,M,q3,q4,q5] at h3;omega⟩
    .exact congrArg (λ z=>[b+((j+1:Nat):Int),b+n,z,w',32+32*(j:Int)+32]) (by omega)
    .constructor
     .rintro(⟨q,F,g⟩|g)
      .exact⟨q,by omega,g⟩
      .exact⟨j,by omega,v ▸ g⟩
     .rintro⟨q,F,g⟩
      by_cases c:q=j
      .subst c;exact .inr (v ▸ g)
      .exact .inl ⟨q,by omega,g⟩
  .exfalso
   refine F ?_
   show(if 32+32*(j:Int)=1056%4294967296 then(1:Int) else 0)=0
   rw[if_neg (by omega)]
end
end
section
structure S.Lo (cf:Cf)(T:Ob->Prop)(X:Int->Prop)(st0:Vw)(p:Int)(ρ:List Ob)(st:Vw):Prop where
 tin:∀o∈ρ,T o
 ch:Ch cf ρ st
 reg:∀j,j≠4->j≠5->j≠29->st.reg j=st0.reg j
 mem:∀a,¬X a->¬(cf.fr<=a/\a<cf.fr+cf.hf)->¬(cf.to_<=a/\a<cf.to_+tot ρ)->st.mem a=st0.mem a
 root:∀a,X a->st.mem a=mv cf.to_ ρ (st0.mem a)/\Cl cf ρ (st0.mem a)
 old:∀o∈ρ,∀ν,nw cf.to_ ρ o.at_=some ν->∀(k:Nat)(w:Int),o.ws[k]?=some w->(ν+(k:Int)<p->st.mem (ν+(k:Int))=mv cf.to_ ρ w/\Cl cf ρ w)/\(p<=ν+(k:Int)->st.mem (ν+(k:Int))=w)
 inp:st.inp=st0.inp
 out:st.out=st0.out
section
variable {I:Img}(hI:I.Ok){cf:Cf}(hc:Cf.Ok I cf){T:Ob->Prop}
include hc
theorem Zq8 {o:Ob}{r:List Ob}(a:∀x∈o::r,x∈cf.O)(c:(o::r).Nodup){x:Ob}(b:x∈r):o.at_≠x.at_:=λ e=>by
 have:=Zvu hc (a o Yw) (a x (Y0 _ b)) e;subst this;exact(Ybs.1 c).1 b
theorem Zpu:∀{ρ:List Ob} {t a:Int},(∀o∈ρ,o∈cf.O)->ρ.Nodup->t<=a->a<t+tot ρ->∃o∈ρ,∃(ν:Int)(k:Nat)(w:Int),nw t ρ o.at_=some ν/\a=ν+k/\o.ws[k]?=some w
 | [],t,a,_,_,h1,h2=>by rw[tot] at h2;omega
 | o::r,t,a,hs,hn,h1,h2=>by
  rw[tot] at h2;by_cases c:a<t+o.ws.length
  .obtain⟨k,hk⟩:∃k:Nat,a=t+k:=⟨(a-t).toNat,by omega⟩
   have d:k<o.ws.length:=by omega
   exact⟨o,Yw,t,k,o.ws[k],by rw[nw,if_pos rfl],hk,List.getElem?_eq_getElem d⟩
  .obtain⟨x,b,ν,k,w,e1,e2,e3⟩:=Zpu (ρ:=r) (t:=t+o.ws.length) (a:=a) (λ x b=>hs x (Y0 _ b)) (Ybs.1 hn).2 (by omega) (by omega)
   exact⟨x,Y0 _ b,ν,k,w,by rw[nw,if_neg (Zq8 hc hs hn b)];exact e1,e2,e3⟩
theorem Zmd {a:Int}:∀{ρ:List Ob} {t ν:Int} {δ:List Ob},nw t ρ a=none->nw t (ρ++δ) a=some ν->t+tot ρ<=ν
 | [],t,ν,δ,_,h=>by
  obtain⟨_,_,_,h1,_⟩:=Zft h;rw[tot];omega
 | o::r,t,ν,δ,hn,h=>by
  rw[nw] at hn;rw[List.cons_append,nw] at h
  split at hn
  .cases hn
  .rename_i c
   rw[if_neg c] at h;have:=Zmd hn h;rw[tot];omega
theorem Z6w {t:Int}{ρ:List Ob}(b:∀o∈ρ,o∈cf.O){o:Ob}(c:o∈cf.O)(a:o ∉ ρ):nw t ρ o.at_=none:=by
 cases h:nw t ρ o.at_ with
 | none=>rfl
 | some ν=>exact absurd (Zng hc b c h).1 a
include hI
theorem Z1b {X:Int->Prop}(M:∀a,X a->a9 cf a){st0:Vw}(z:∀a,X a->WOk cf T (st0.mem a)){p:Int}{ρ:List Ob}{st:Vw}(g:Lo cf T X st0 p ρ st)(h0:cf.to_<=p)(h1:p<cf.to_+tot ρ)(hw:WOk cf T (st.mem p))
 {ρ':List Ob} {d:Vw} (b:Tr cf T ρ (st.args [st.mem p]) ρ' d) (v:Cl cf ρ' (st.mem p)) (x:∀o∈ρ,∀w∈o.ws,WOk cf T w) :
 Lo cf T X st0 (p+1) ρ' (d.sto p (mv cf.to_ ρ' (st.mem p))):=by
 obtain⟨δ,e,L⟩:=b.ext;have t1:tot ρ'=tot ρ+tot δ:=by rw[e,Zay]
 have p1:=Zp δ;have G:=Zb9 ρ' cf.O b.ch.nd b.ch.sub;have hs:=hc.sum;have H:=hc.to0;have hm:∀a,(d.sto p (mv cf.to_ ρ' (st.mem p))).mem a=if a=p then mv cf.to_ ρ' (st.mem p) else d.mem a:=λ _=>rfl
 have l:∀a,cf.to_<=a->a<cf.to_+cf.hf->¬(cf.fr<=a/\a<cf.fr+cf.hf):=λ a u s q3=>by rcases hc.apart with l|l <;> omega
 refine⟨λ o f=>?_,⟨b.ch.sub,b.ch.nd,b.ch.r29,?_,?_,λ o f A k w h=>?_,λ o f ν n=>?_⟩,λ j D C r=>?_,λ a m F N=>?_,λ a m=>?_,λ o f ν n k w h=>?_,b.inp.trans g.inp,b.out.trans g.out⟩
 .rw[e] at f
  exact(Yag.1 f).elim (g.tin o) (L o)
 .rw[hm,if_neg (by omega)];exact b.ch.m2
 .rw[hm,if_neg (by omega)];exact b.ch.m4
 .have:=hc.obs o f
  have y:=(Yg.1 h).1;rw[hm,if_neg (λ q=>l p h0 (by omega) ⟨by omega,by omega⟩)];exact b.ch.unc o f A k w h
 .have:=hc.obs o (b.ch.sub o f)
  have hl:=Zgy hc (b.ch.sub o f);rw[hm,if_neg (λ q=>l p h0 (by omega) ⟨by omega,by omega⟩)];exact b.ch.cop o f ν n
 .show d.reg j=st0.reg j
  rw[b.reg j D C r,<- g.reg j D C r]
  show(if 4<=j/\j<4+(1:Nat) then _ else st.reg j)=_
  rw[if_neg (by omega)]
 .rw[hm,if_neg (by omega),b.mem a F (by omega)]
  exact g.mem a m F (by omega)
 .have hO:=M a m
  obtain⟨u,s⟩:=g.root a m;rw[hm,if_neg (λ q=>hO.2.1 ⟨by omega,by omega⟩),b.mem a hO.1 (λ q=>hO.2.1 ⟨by omega,by omega⟩)]
  show st.mem a=_/\_
  rw[u];exact⟨(Zoa hI hc e (z a m) s b.ch.sub).symm,λ o i B=>b.sub hc (s o i B)⟩
 .by_cases c:o∈ρ
  .obtain⟨ν',hν'⟩:=Zgg (t:=cf.to_) c
   have K:=Zd5 δ hν';rw[<- e,n] at K
   cases K
   obtain⟨_,u,s⟩:=Zng hc g.ch.sub (g.ch.sub o c) hν';have y:=(Yg.1 h).1;obtain⟨Q,E⟩:=g.old o c _ hν' k w h;by_cases cp:ν+(k:Int)=p
   .have hwe:w=st.mem p:=by rw[<- cp];exact(E (by omega)).symm
    refine⟨λ _=>?_,λ q=>by omega⟩;rw[hm,if_pos cp,hwe];exact⟨rfl,v⟩
   .have hsame:(d.sto p (mv cf.to_ ρ' (st.mem p))).mem (ν+(k:Int))=st.mem (ν+(k:Int)):=by
     rw[hm,if_neg cp,b.mem _ (l _ (by omega) (by omega)) (by omega)];rfl
    rw[hsame];refine⟨λ q=>?_,λ q=>E (by omega)⟩;obtain⟨P,J⟩:=Q (by omega);rw[P];exact⟨(Zoa hI hc e (x o c w (Y1 h)) J b.ch.sub).symm,λ o i B=>b.sub hc (J o i B)⟩
  .have N:=Zmd hc (Z6w hc (t:=cf.to_) g.ch.sub (b.ch.sub o f) c) (e ▸ n)
   refine⟨λ q=>by omega,λ q=>?_⟩;rw[hm,if_neg (by omega)];exact b.new o f c ν n k w h
theorem Zxn {J:Nat}(H:Seg I kMove J (bItems rMove)){dep lk:Int}{behind:Bool}(hd:19<=dep){X:Int->Prop}(N:∀a,X a->a9 cf a){st0:Vw}(x:∀a,X a->WOk cf T (st0.mem a))
 (z:∀o∈cf.O,T o->∀w∈o.ws,WOk cf T w) {ρ:List Ob} {st:Vw} (K:Lo cf T X st0 cf.to_ ρ st)
 {r:List BS} {c:Nat} {Q:List Int->Vw->Nat->Prop} {R:BO->Nat->Prop}
 (L:∀ρ' d (f:Nat),Lo cf T X st0 (cf.to_+tot ρ') ρ' d->0<=tot ρ'-tot ρ->(f:Int)<=c+10+130*tot ρ'+40*(tot ρ'-tot ρ)->wpSs I dep lk behind r [cf.to_+tot ρ'] d f Q R) :
 wpSs I dep lk behind (sWh (eLt (eL 0) (eR 29)) bScan::r) [cf.to_] st c Q R:=by
 have hs:=hc.sum;refine Zvr rfl (λ env d f k=>∃(i:Nat)(ρ':List Ob),(i:Int)<=tot ρ'/\(k:Int)=cf.hf-i/\env=[cf.to_+i]/\Lo cf T X st0 (cf.to_+i) ρ' d/\0<=tot ρ'-tot ρ/\(f:Int)<=c+130*i+40*(tot ρ'-tot ρ))
  (k0:=cf.hf.toNat) ⟨0,ρ,Zp ρ,by have:=hc.hf0;omega,by simp,by simpa using K,by omega,by simp⟩ ?_
 rintro env d f k ⟨i,ρ',hi,hk,rfl,b,hg,G⟩;have D:=Zb9 ρ' cf.O b.ch.nd b.ch.sub;have A:=hc.toz;have E:=hc.to0;have B:coE (eLt (eL 0) (eR 29))=3:=rfl;have l:evE I lk [cf.to_+(i:Int)] d (eLt (eL 0) (eR 29))=if cf.to_+(i:Int)<cf.to_+tot ρ' then 1 else 0:=by
  show alu 14 (cf.to_+(i:Int)) (d.reg 29)=_
  rw[b.ch.r29];exact Zjs _ _
 refine⟨Zet (by decide) (Zcs 0) (Zxh 29),λ F=>?_,λ p=>?_⟩
 .have he:(i:Int)=tot ρ':=by
   refine Y_c λ h=>?_
   rw[l,if_pos (by omega)] at F
   cases F
  have:=L ρ' d (f+coE (eLt (eL 0) (eR 29))+4) (he ▸ b) hg (by rw[B];omega);rw[he];exact this
 .have hlt:(i:Int)<tot ρ':=Y_c λ h=>by
   rw[l,if_neg (by omega)] at p;exact p rfl
  obtain⟨o,m,ν,j,w,U,M,C⟩:=Zpu hc (t:=cf.to_) (a:=cf.to_+i) b.ch.sub b.ch.nd (by omega) (by omega);have v:d.mem (cf.to_+i)=w:=by
   have:=(b.old o m ν U j w C).2 (by omega);rw[M];exact this
  have n:∀o∈ρ',∀w∈o.ws,WOk cf T w:=λ o m=>z o (b.ch.sub o m) (b.tin o m)
  have g:WOk cf T (d.mem (cf.to_+i)):=by
   rw[v];exact n o m w (Y1 C)
  refine Zmc hI hc H hd b.ch (hc.tod _ (by omega) (by omega)) g λ ρ2 P c2 q u s=>?_
  have y:=Z1b hI hc N x b (by omega) (by omega) g q u n;obtain⟨δ,e,_⟩:=q.ext;have t1:tot ρ2=tot ρ'+tot δ:=by rw[e,Zay]
  have p1:=Zp δ;refine⟨k-1,by omega,i+1,ρ2,by omega,by omega,?_,?_,by omega,by rw[B] at s;omega⟩
  .rw[show cf.to_+((i+1:Nat):Int)=cf.to_+i+1 from by omega]
  .rw[show cf.to_+((i+1:Nat):Int)=cf.to_+i+1 from by omega]
   exact y
end
end
section
theorem Zme:chkB rCollect=0:=by kernel_rfl
theorem Z1c {env:List Int}(h:(env.length:Int)=1):∃a,env=[a]:=by
 match env,h with
 | [a],_=>exact⟨a,rfl⟩
 | [],h=>simp at h
 | _::_::_,h=>simp only[Yk] at h;omega
def S.RX (I:Img)(mem:Int->Int)(cnt n:Nat)(x:Int):Prop:=((x=5\/(16<=x/\x<16+cnt))\/FX mem (mem 6) n x)\/(1312<=x/\x<I.lab kCode)
structure S.dh (I:Img)(cf:Cf)(T:Ob->Prop)(cnt n:Nat)(mem:Int->Int):Prop where
 m2:mem 2=cf.fr
 m3:mem 3=cf.to_
 m4:mem 4=cf.hf
 obj:∀o∈cf.O,∀(k:Nat)(w:Int),o.ws[k]?=some w->mem (o.at_+(k:Int))=w
 m8:mem 8=cnt
 c16:cnt<=16
 code1:1312<=I.lab kCode
 codef:I.lab kCode<=cf.fr
 codet:I.lab kCode<=cf.to_
 dat:∀x,1312<=x->x<I.lab kCode->Dat I x
 fm:(mem 6=0/\n=0)\/(mem 6≠0/\df I cf T mem (mem 6) n/\∀j:Nat,j<=n->mem 6+j≠5/\¬(16<=mem 6+j/\mem 6+j<16+cnt))
 root:∀x,RX I mem cnt n x->WOk cf T (mem x)
 tobj:∀o∈cf.O,T o->∀w∈o.ws,WOk cf T w
structure S.Cd (cf:Cf)(T:Ob->Prop)(X:Int->Prop)(st:Vw)(ρ:List Ob)(st':Vw):Prop where
 tin:∀o∈ρ,T o
 sub:∀o∈ρ,o∈cf.O
 nd:ρ.Nodup
 m2:st'.mem 2=cf.to_
 m3:st'.mem 3=cf.fr
 r26:st'.reg 26=cf.to_+tot ρ
 r27:st'.reg 27=cf.to_+cf.hf
 reg:∀j,j≠4->j≠5->j≠26->j≠27->j≠29->st'.reg j=st.reg j
 mem:∀a,a≠2->a≠3->¬X a->¬(cf.fr<=a/\a<cf.fr+cf.hf)->¬(cf.to_<=a/\a<cf.to_+tot ρ)->st'.mem a=st.mem a
 root:∀a,X a->st'.mem a=mv cf.to_ ρ (st.mem a)/\Cl cf ρ (st.mem a)
 new:∀o∈ρ,∀ν,nw cf.to_ ρ o.at_=some ν->∀(k:Nat)(w:Int),o.ws[k]?=some w->st'.mem (ν+(k:Int))=mv cf.to_ ρ w/\Cl cf ρ w
 inp:st'.inp=st.inp
 out:st'.out=st.out
def S.cq (I:Img)(cf:Cf)(T:Ob->Prop)(cnt n:Nat)(st:Vw)(o:BO)(k:Nat):Prop :=
 ∃st' ρ,o=.ret st'/\Cd cf T (RX I st.mem cnt n) st ρ st'/\(k:Int)<=700+130*(cnt+(I.lab kCode-1312))+10100*n+170*tot ρ
section
variable {I:Img}(hI:I.Ok){cf:Cf}(hc:Cf.Ok I cf){T:Ob->Prop}
include hI hc
theorem Zbw {x:Int}(h0:4<x)(h1:x<1312):a9 cf x:=⟨λ q=>by have:=hc.fr0;omega,λ q=>by have:=hc.to0;omega,by omega,by omega⟩
theorem Z6x {m b:Int->Int}{a:Int}{n:Nat}(h:∀j:Nat,j<n->b (a+1+j)=m (a+1+j))(x:Int):FX b a n x↔FX m a n x:=by
 constructor
 .rintro⟨j,hj,g⟩
  exact⟨j,hj,h j hj ▸ g⟩
 .rintro⟨j,hj,g⟩
  exact⟨j,hj,(h j hj).symm ▸ g⟩
theorem Zmf {iM iS iF iC:Nat}(hM:Seg I kMove iM (bItems rMove))(hS:Seg I kScan iS (bItems rScan))(hF:Seg I kFrame iF (bItems rFrame))(hC:Seg I kCollect iC (bItems rCollect)){st:Vw}{c n:Nat}(h:dh I cf T c n st.mem) :
 Real I kCollect false st 72 (λ _ o k=>cq I cf T c n st o k):=by
 refine Zgc hI rCollect Zme hC (dep:=56) (by decide) st _ λ lk env _ _ hl hp=>?_
 obtain⟨F,rfl⟩:=Z1c hl;have hs:=hc.sum;have hsz:=hI.size2;have f5:=hc.fr0;have f6:=hc.to0;have hhf:=hc.hf0;have f2:=hc.frz;have f3:=hc.toz;have b5:=h.code1;have b6:=h.codef;have f4:=h.c16;unfold rCollect;simp only;obtain⟨o3,v3⟩:=Zxe hI hc (lk:=lk) (env:=[F]) (st:=st) (n:=3) (by decide) (by decide);refine Zne rfl o3 ?_;rw[v3,h.m3];have a6:Ch cf [] (st.set 29 cf.to_):=⟨(λ o s=>by cases s),List.nodup_nil,(Zg _ _ _).trans (by rw[tot,Yce]),h.m2,h.m4,λ o s _ k w U=>h.obj o s k w U,λ o s=>by cases s⟩
 have a1:Sc cf T (λ _=>False) [] (st.set 29 cf.to_) [] (st.set 29 cf.to_):=Sc.refl hI hc (λ _ q=>q) a6;refine Zk1 hI hc hM hS (dep:=56) (by decide) a1 (a:=5) (b:=6) (l:=[eC 5,eC 6]) rfl ⟨Zdr 5,Zdr 6,trivial⟩ rfl (by decide) (λ x G C=>⟨hc.low x (by omega) (by omega),Zbw hI hc (by omega) (by omega)⟩)
  (λ x G C=>h.root x (.inl (.inl (.inl (by omega))))) (λ x m=>m.elim) λ ρ1 P c1 z g5 L=>?_
 replace z:=Zgp hI hc (Y:=λ x=>x=5) (λ x=>⟨λ q=>by rcases q with q|q;exact q.elim;omega,λ q=>.inr (by omega)⟩) z
 have b0:∀x:Int,0<=x->x<1312->x≠5->P.mem x=st.mem x:=λ x G C h3=>z.mem x h3 (λ q=>by omega) (λ q=>by simp only[tot] at q;omega)
 obtain⟨o8,v8⟩:=Zxe hI hc (lk:=lk) (env:=[F]) (st:=P) (n:=8) (by decide) (by decide);rw[b0 8 (by decide) (by decide) (by decide),h.m8] at v8;have b9:evEs I lk [F] P [eC 16,eAdd (eC 16) (eW 8)]=[16,16+(c:Int)]:=by
  show [16%4294967296,alu 1 (16%4294967296) (evE I lk [F] P (eW 8))]=_
  rw[v8,Zgf];unfold u32m
  congr 2
  omega
 refine Zk1 hI hc hM hS (dep:=56) (by decide) z (a:=16) (b:=16+c) (l:=[eC 16,eAdd (eC 16) (eW 8)]) rfl ⟨Zdr 16,Zet (by decide) (Zdr 16) o8,trivial⟩ b9 (by omega)
  (λ x G C=>⟨hc.low x (by omega) (by omega),Zbw hI hc (by omega) (by omega)⟩) (λ x G C=>h.root x (.inl (.inl (.inr ⟨G,C⟩)))) (λ x m=>⟨Zbw hI hc (by omega) (by omega),h.root x (.inl (.inl (.inl m))),by omega⟩) λ ρ2 g c2 r g3 M=>?_
 have E:∀x:Int,0<=x->x≠5->¬(16<=x/\x<16+c)->¬(cf.fr<=x/\x<cf.fr+cf.hf)->¬(cf.to_<=x/\x<cf.to_+cf.hf)->g.mem x=st.mem x:=λ x G C h3 h4 h5=>r.mem x (λ q=>q.elim C h3) h4 (λ q=>by
  have:=Zb9 ρ2 cf.O r.ch.nd r.ch.sub;simp only[tot] at q;exact h5 ⟨by omega,by omega⟩)
 obtain⟨o6,v6⟩:=Zxe hI hc (lk:=lk) (env:=[F]) (st:=g) (n:=6) (by decide) (by decide);rw[E 6 (by decide) (by decide) (by omega) (by omega) (by omega)] at v6;have q1:coEs [eC 5,eC 6]=4:=rfl;have q2:coEs [eC 16,eAdd (eC 16) (eW 8)]=8:=rfl;have q3:coE (eW 3)=3:=rfl;have q6:coE (eW 6)=3:=rfl;have q7:coEs [eW 6]=3:=rfl;have q8:coEs [eC 1312,eA kCode]=4:=rfl;have q9:coE (eW 2)=3:=rfl;have rest:∀(ρ3:List Ob)(D:Vw)(c3:Nat),Sc cf T (λ x=>(x=5\/(16<=x/\x<16+c))\/FX st.mem (st.mem 6) n x) [] (st.set 29 cf.to_) ρ3 D->(c3:Int)<=300+130*c+10100*n+40*tot ρ3 ->
  wpSs I 56 lk false [sDo (eF kScan [eC 1312,eA kCode]),sAs 0 (eW 3),sWh (eLt (eL 0) (eR 29)) bScan,sAs 0 (eW 2),sKeep 2 (eW 3),sKeep 3 (eL 0),sSet 26 (eR 29),sSet 27 (eAdd (eW 2) (eW 4))] [F] D c3
   (λ _ d6 c'=>cq I cf T c n st (.ret d6) (c'+(if false=true then 5 else 3))) (λ o k=>cq I cf T c n st o k):=by
  intro ρ3 D c3 K f8;have B:∀x,FX st.mem (st.mem 6) n x->32<=x/\x<1056:=λ x q=>by
   have:=Zdb hI hc q;have hn:n<=31:=by
    rcases h.fm with⟨_,rfl⟩|⟨_,hf,_⟩
    .omega
    .exact hf.n31
   omega
  refine Zk1 hI hc hM hS (dep:=56) (by decide) K (a:=1312) (b:=I.lab kCode) (l:=[eC 1312,eA kCode]) rfl ⟨Zdr 1312,Z89 _,trivial⟩ rfl (by omega)
   (λ x G C=>⟨h.dat x G C,⟨λ q=>by omega,λ q=>by have:=h.codet;omega,by omega,by omega⟩⟩) (λ x G C=>h.root x (.inr ⟨G,C⟩))
   (λ x m=>⟨?_,h.root x (.inl m),?_⟩) λ ρ4 V c4 f f9 a5=>?_
  .rcases m with(rfl|q) | q
   .exact Zbw hI hc (by decide) (by decide)
   .exact Zbw hI hc (by omega) (by omega)
   .have:=B x q
    exact Zbw hI hc (by omega) (by omega)
  .rcases m with(rfl|q) | q
   .omega
   .omega
   .have:=B x q
    omega
  have b2:∀a,RX I st.mem c n a->a9 cf a:=λ a m=>by
   rcases m with((rfl|q) | q) | q
   .exact Zbw hI hc (by decide) (by decide)
   .exact Zbw hI hc (by omega) (by omega)
   .have:=B a q
    exact Zbw hI hc (by omega) (by omega)
   .exact⟨λ q2=>by omega,λ q2=>by have:=h.codet;omega,by omega,by omega⟩
  have f1:V.mem 3=cf.to_:=by
   rw[f.mem 3 (λ q=>by
    rcases q with((q|q) | q) | q
    .omega
    .omega
    .have:=B 3 q;omega
    .omega) (λ q=>by omega) (λ q=>by simp only[tot] at q;omega)]
   exact h.m3
  obtain⟨e8,a4⟩:=Zxe hI hc (lk:=lk) (env:=[F]) (st:=V) (n:=3) (by decide) (by decide);rw[f1] at a4;refine Ze6 rfl e8 ?_;rw[a4];have b1:[F].set (Yc3 0) cf.to_=[cf.to_]:=rfl;rw[b1];obtain⟨δ,eδ,hδ⟩:=f.ext;rw[List.nil_append] at eδ;have hL:Lo cf T (RX I st.mem c n) (st.set 29 cf.to_) cf.to_ ρ4 V:=⟨λ o s=>hδ o (eδ ▸ s),f.ch,f.reg,λ a m X hb=>f.mem a m X (λ q=>hb (by simp only[tot] at q;omega)),f.root,
   λ o s ν hν k w U=>⟨λ q=>by
    have:=(Zng hc f.ch.sub (f.ch.sub o s) hν).2.1;omega,λ _=>f.new o s (λ q=>by cases q) ν hν k w U⟩,f.inp,f.out⟩
  refine Zxn hI hc hM (by decide) b2 (st0:=st.set 29 cf.to_) (λ a X=>h.root a X) h.tobj hL λ ρ5 y c5 e g0 d5=>?_
  have e6:=Zb9 ρ5 cf.O e.ch.nd e.ch.sub;have t5:=Zp ρ5;have a2:y.mem 3=cf.to_:=by
   rw[e.mem 3 (λ q=>by
    rcases q with((q|q) | q) | q
    .omega
    .omega
    .have:=B 3 q;omega
    .omega) (λ q=>by omega) (λ q=>by omega)]
   exact h.m3
  obtain⟨o2,v2⟩:=Zxe hI hc (lk:=lk) (env:=[cf.to_+tot ρ5]) (st:=y) (n:=2) (by decide) (by decide);refine Ze6 rfl o2 ?_;rw[v2,e.ch.m2];have R:[cf.to_+tot ρ5].set (Yc3 0) cf.fr=[cf.fr]:=rfl;rw[R];obtain⟨f0,d8⟩:=Zxe hI hc (lk:=lk) (env:=[cf.fr]) (st:=y) (n:=3) (by decide) (by decide);have d2:=hc.low 2 (by decide) (by decide);have d3:=hc.low 3 (by decide) (by decide);refine Ziy (a:=eC 2) rfl (Zdr 2) rfl f0 (p:=2) rfl d2.2 ?_;rw[d8,a2];refine Ziy (a:=eC 3) rfl (Zdr 3) rfl (Zcs 0) (p:=3) rfl d3.2 ?_;have e2:∀st,evE I lk [cf.fr] st (eL 0)=cf.fr:=λ _=>rfl
  rw[e2];refine Zne rfl (Zxh 29) ?_;have b3:evE I lk [cf.fr] ((y.sto 2 cf.to_).sto 3 cf.fr) (eR 29)=cf.to_+tot ρ5:=e.ch.r29;rw[b3];obtain⟨A,Z⟩:=Yx (((y.sto 2 cf.to_).sto 3 cf.fr).set 26 (cf.to_+tot ρ5));have u:∀a,A.mem a=if a=3 then cf.fr else if a=2 then cf.to_ else y.mem a:=λ a=>by rw[Z];rfl
  rw[<- Z];obtain⟨d4,e9⟩:=Zxe hI hc (lk:=lk) (env:=[cf.fr]) (st:=A) (n:=2) (by decide) (by decide);obtain⟨c7,e3⟩:=Zxe hI hc (lk:=lk) (env:=[cf.fr]) (st:=A) (n:=4) (by decide) (by decide);refine Zne rfl (Zet (by decide) d4 c7) (Zb8 ?_);have a8:evE I lk [cf.fr] A (eAdd (eW 2) (eW 4))=cf.to_+cf.hf:=by
   show alu 1 (evE I lk [cf.fr] A (eW 2)) (evE I lk [cf.fr] A (eW 4))=_
   rw[e9,e3,u,u,if_neg (by decide),if_pos rfl,if_neg (by decide),if_neg (by decide),e.ch.m4,Zgf];unfold u32m;omega
  rw[a8];have c9:coE (eC 2)=2:=rfl;have d7:coE (eC 3)=2:=rfl;have c8:coE (eL 0)=1:=rfl;have c6:coE (eR 29)=1:=rfl;have e1:coE (eAdd (eW 2) (eW 4))=7:=rfl;have H:∀(st:Vw)(j v:Int),(st.set j v).mem=st.mem:=λ _ _ _=>rfl
  have N:∀a,RX I st.mem c n a->a≠2/\a≠3:=λ a m=>by
   rcases m with((rfl|q) | q) | q
   .omega
   .omega
   .have:=B a q;omega
   .omega
  refine⟨_,ρ5,rfl,⟨e.tin,e.ch.sub,e.ch.nd,?_,?_,?_,?_,λ j h4 h5 b7 d1 b4=>?_,λ a e5 e4 m b8 c0=>?_,λ a m=>?_,λ o s ν hν k w U=>?_,by rw[Z];exact e.inp,by rw[Z];exact e.out⟩,?_⟩
  .rw[H,u];rfl
  .rw[H,u];rfl
  .rw[Z];rfl
  .rfl
  .rw[Z]
   show(if j=27 then _ else if j=26 then _ else y.reg j)=_
   rw[if_neg d1,if_neg b7,e.reg j h4 h5 b4]
   show(if j=29 then _ else st.reg j)=_
   rw[if_neg b4]
  .rw[H,u,if_neg e4,if_neg e5]
   exact e.mem a m b8 c0
  .obtain⟨n2,n3⟩:=N a m
   rw[H,u,if_neg n3,if_neg n2];exact e.root a m
  .obtain⟨_,g1,g2⟩:=Zng hc e.ch.sub (e.ch.sub o s) hν
   have g4:=(Yg.1 U).1;rw[H,u,if_neg (by omega),if_neg (by omega)];exact(e.old o s ν hν k w U).1 (by omega)
  .rw[q3] at d5
   rw[q8] at a5;rw[q9,c9,d7,c8,c6,e1];simp only[Ybq,if_false];have hd:(if (1312:Int)<I.lab kCode then I.lab kCode-1312 else 0)=I.lab kCode-1312:=by split <;> omega
   rw[hd] at a5;have e7:coE (eW 3)=3:=rfl;rw[e7];omega
 refine Zo9 rfl o6 (λ hz=>Zb8 ?_) (λ a3=>?_)
 .rw[v6] at hz
  have d9:n=0:=by
   rcases h.fm with⟨_,q⟩|⟨q,_⟩
   .exact q
   .exact absurd hz q
  subst d9;refine rest ρ2 g _ (Zgp hI hc (λ x=>⟨.inl,λ q=>q.resolve_right λ⟨j,J,_⟩=>by omega⟩) (Zgp hI hc (λ x=>Iff.rfl) r)) ?_;rw[q1,q3] at L;rw[q2] at M;rw[q6];simp only[tot] at *;have hd:(if (16:Int)<16+c then 16+(c:Int)-16 else 0)=c:=by split <;> omega
  rw[hd] at M;rw[if_pos (by decide)] at L;omega
 .rw[v6] at a3
  obtain⟨_,hf,W⟩:=h.fm.resolve_left λ q=>a3 q.1
  have hf0:=hf.a0;have f7:=hf.n31;obtain⟨a,X⟩:=Yx (st.mem 6);rw[<- X] at hf W hf0 v6;have same:∀j:Nat,j<=n->g.mem (a+j)=st.mem (a+j):=λ j J=>by
   obtain⟨_,_,s⟩:=hf.rd j J;exact E _ (by omega) (W j J).1 (W j J).2 s.1 s.2.1
  have t:∀j:Nat,j<n->g.mem (a+1+j)=st.mem (a+1+j):=λ j J=>by
   have:=same (j+1) (by omega);rw[show a+((j+1:Nat):Int)=a+1+j from by omega] at this;exact this
  have Q:∀x:Int,32<=x->x<1056->g.mem x=st.mem x:=λ x G C=>E x (by omega) (by omega) (by omega) (by omega) (by omega)
  have d0:df I cf T g.mem a n:=⟨hf.a0,hf.n31,by rw[<- hf.len];simpa using same 0 (by omega),hf.rd,hf.off,λ j J=>by rw[t j J];exact hf.word j J,
   λ j i J hi hb=>by rw[Q _ (by omega) (by omega)];rw[t j J] at hb;exact hf.slot j i J hi hb⟩
  refine Z5i (l:=[eW 6]) rfl ⟨o6,trivial⟩ (d:=56) (T:=λ _ o k=>cz cf T a n ρ2 (g.args [a]) o k) (by
   rw[show evEs I lk [F] g [eW 6]=[a] from by show [evE I lk [F] g (eW 6)]=_;rw[v6]];exact Zq7 hI hc hM hS hF (st:=g.args [a]) (a:=a) (Ztc hI hc r.ch rfl rfl) rfl d0) (by decide) λ ret o k hR=>?_
  obtain⟨D,ρ3,rfl,K,U⟩:=hR;have h3:=Ztf hI hc (by simp) K;refine Zb8 (rest ρ3 D _ (Zgp hI hc (λ x=>?_) (Sc.trans hI hc r h3 (λ x m q=>?_) (λ x m=>Zbw hI hc (by omega) (by omega)) (λ x m=>?_) (λ x m=>h.root x (.inl (.inl ?_))))) ?_)
  .rw[<- X]
   exact or_congr Iff.rfl (Z6x hI hc t x)
  .have:=Zdb hI hc q
   omega
  .have:=Zdb hI hc m
   exact Zbw hI hc (by omega) (by omega)
  .exact m
  .rw[q1,q3] at L
   rw[q2] at M;rw[q6,q7];have hd:(if (16:Int)<16+c then 16+(c:Int)-16 else 0)=c:=by split <;> omega
   rw[hd] at M;rw[if_pos (by decide)] at L;simp only[tot] at *;have a7:(evEs I lk [F] g [eW 6]).length=1:=rfl;rw[a7];omega
end
end
section
theorem Ztg:chkB rCons=0:=by kernel_rfl
section
end
section
variable {I:Img}(hI:I.Ok)
include hI
def S.ao (st:Vw)(p a b:Int):Vw:=(((st.sto p 67).sto (p+1) a).sto (p+2) b).set 26 (p+3)
theorem Zth {t:Nat}(s:Seg I kCons t (bItems rCons)){st:Vw}{p:Int}(a:st.reg 26=p)(hd:∀j:Nat,j<3->Dat I (p+j)) :
 Real I kCons false st 17 (λ _ o k=>o=.ret ((ao st p (st.reg 4) (st.reg 5)).set 4 (4*p+1))/\k<=60):=by
 refine Zgc hI rCons Ztg s (dep:=0) (by decide) st _ λ lk env _ _ i hp=>?_
 obtain⟨c,b,rfl⟩:=Zhs i;have h0:c=st.reg 4:=hp 0 (show(0:Int)<2 by decide);have l:b=st.reg 5:=hp 1 (show(1:Int)<2 by decide);subst h0 l;have hsz:=hI.size2;have d0:=hd 0 (by decide);have d1:=hd 1 (by decide);have d2:=hd 2 (by decide);rw[show p+((0:Nat):Int)=p from by omega] at d0;rw[show p+((1:Nat):Int)=p+1 from by omega] at d1;rw[show p+((2:Nat):Int)=p+2 from by omega] at d2;obtain⟨b0,b1,_⟩:=d0;obtain⟨_,b3,_⟩:=d2;have hr:∀st:Vw,evE I lk [st.reg 4,st.reg 5] st (eR 26)=st.reg 26:=λ _=>rfl
 unfold rCons;simp only;refine Ziy (p:=p) rfl (Zxh 26) rfl (Zdr 67) (by rw[Z7p,a];unfold u32m;omega) (hd 0 (by decide) |>.2 |> λ q=>by simpa using q) ?_;refine Ziy (p:=p+1) rfl (Zxh 26) rfl (Zcs 0) (by rw[Z7p];show u32m (st.reg 26+1)=_;rw[a];unfold u32m;omega) d1.2 ?_;refine Ziy (p:=p+2) rfl (Zxh 26) rfl (Zcs 1) (by rw[Z7p];show u32m (st.reg 26+2)=_;rw[a];unfold u32m;omega) (hd 2 (by decide) |>.2 |> λ q=>by simpa using q) ?_;refine Zne rfl (Zet (by decide) (Zxh 26) (Zdr 3)) ?_;refine Znf rfl (Zet (by decide) (Zet (by decide) (Zet (by decide) (Zxh 26) (Zdr 3)) (Zdr 2)) (Zdr 1)) ?_;have b:∀(env:List Int)(st:Vw),st.reg 26=p->evE I lk env st (eAdd (eR 26) (eC 3))=p+3:=λ env st h=>by
  show alu 1 (st.reg 26) (3%4294967296)=_
  rw[h,Zgf];unfold u32m;omega
 have f:∀(env:List Int)(st:Vw),st.reg 26=p+3->evE I lk env st (eRef (eSub (eR 26) (eC 3)))=4*p+1:=λ env st h=>by
  show alu 8 (alu 10 (alu 2 (st.reg 26) (3%4294967296)) (2%4294967296)) (1%4294967296)=_
  rw[h,Z3v,Z5j];have:u32m (u32m (p+3-3%4294967296)*4)=4*p:=by unfold u32m;omega
  rw[this,or1 (by omega) (by omega) (by omega)]
 rw[b,f]
 rotate_left
 .exact Zg _ _ _
 .exact a
 refine⟨rfl,?_⟩;have d:coE (eR 26)=1:=rfl;have g:coE (eC 67)=2:=rfl;have m:coE (eL 0)=1:=rfl;have n:coE (eL 1)=1:=rfl;have e:coE (eAdd (eR 26) (eC 3))=4:=rfl;have r:coE (eRef (eSub (eR 26) (eC 3)))=10:=rfl;rw[d,g,m,n,e,r]
 decide
end
end
theorem Zbx (y:Inst):0<=wordOf y/\wordOf y<=4294967295:=by
 unfold wordOf
 split
 .rename_i h;exact Z4t h
 .omega
theorem Zxo {x:S.Item}(b:0<=x.word/\x.word<=4294967295)(form at_ c:Int):∀v∈wordsOf x form at_ c,0<=v/\v<=4294967295:=by
 unfold wordsOf lui ori;intro v a
 split at a
 .simp only[Ya8] at a;subst a;exact Zbx _
 split at a
 .simp only[Ya8] at a;subst a;exact Zbx _
 split at a
 .simp only[Yr,Yv,or_false] at a
  rcases a with rfl|rfl <;> exact Zbx _
 split at a
 .simp only[Yr,Yv,or_false] at a
  rcases a with rfl|rfl|rfl|rfl <;> exact Zbx _
 split at a
 .simp only[Ya8] at a;subst a;exact Zbx _
 split at a
 .simp only[Yr,Yv,or_false] at a
  rcases a with rfl|rfl|rfl <;> exact Zbx _
 split at a
 .simp only[Yr,Yv,or_false] at a
  rcases a with rfl|rfl <;> exact Zbx _
 split at a
 .simp only[Ya8] at a;subst a;exact b
 split at a
 .simp only[Ya8] at a;subst a;omega
 split at a
 .have:=List.eq_of_mem_replicate a;subst this;omega
 .cases a
theorem Zht {xs:List S.Item}{F:List Int}{base:Int}(b:∀x∈xs,0<=x.word/\x.word<=4294967295):∀i:Nat,∀v∈outTo xs F base i,0<=v/\v<=4294967295
 | 0=>λ v a=>by cases a
 | i+1=>λ v a=>by
  rw[outTo] at a;rcases Yag.1 a with a|a
  .exact Zht b i v a
  .unfold wordsAt at a
   split at a
   .cases a
   .rename_i x hx
    exact Zxo (b x (Y1 hx)) _ _ _ v a
