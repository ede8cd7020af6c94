/- Parts. -/
import Derived.Test.YtldbnjajjfgipaaGreatDoorZGCh
set_option linter.all false
open List renaming getElem?_eq_some_iff->Yg,length_cons->Yj,mem_cons_self->Yv,mem_cons->Yz,mem_append->Y4,length_nil->Yab,not_mem_nil->Yaq,mem_append_left->Ya6,append_nil->Ybe,mem_append_right->Ybj
open Int renaming le_refl->Y5,le_of_lt->Yaz,pow_pos->Ya2,toNat->Ycg
open Bool renaming false_eq_true->Ybn
namespace Go.Proofs.YtldbnjajjfgipaaGreatDoor
open S Go.RowKit
section
theorem Zu5:chkB rMove=0:=by kernel_rfl
theorem Z74 {env:List Int}(h:(env.length:Int)=4):∃a b c d,env=[a,b,c,d]:=by
 match env,h with
 | [a,b,c,d],_=>exact⟨a,b,c,d,rfl⟩
 | [],h=>simp at h
 | [_],h=>simp at h
 | [_,_],h=>simp at h
 | [_,_,_],h=>simp at h
 | _::_::_::_::_::_,h=>simp at h;omega
def S.df (cf:Cf)(T:Ob->Prop)(ρ:List Ob)(st:Vw)(w:Int)(o:BO)(k:Nat):Prop :=
 ∃st' ρ',o=.ret st'/\Tr cf T ρ st ρ' st'/\st'.reg 4=mv cf.to_ ρ' w/\Cl cf ρ' w/\(k:Int)<=100+40*(tot ρ'-tot ρ)
theorem Za7 {I:Img}{a:Int}(h:Dat I a):a<I.size/\¬I.stk a:=⟨h.2.1,h.2.2.1⟩
section
variable {I:Img}(hI:I.Ok){cf:Cf}(hc:Cf.Ok I cf){T:Ob->Prop}
include hI hc
theorem Z2t {ρ:List Ob}{st:Vw}(h:Ch cf ρ st)(v:Int):Ch cf ρ (st.set 4 v):=⟨h.sub,h.nd,h.r29,h.m2,h.m4,h.unc,h.cop⟩
theorem Z2u {ρ:List Ob}{st:Vw}(h:Ch cf ρ st)(v:Int):Tr cf T ρ st ρ (st.set 4 v) :=
 ⟨⟨[],(Ybe _).symm,λ o b=>by cases b⟩,Z2t hI hc h v,λ j c _ _=>by show(if j=4 then v else st.reg j)=_;rw[if_neg c],λ _ _ _=>rfl,λ o b a=>absurd b a,rfl,rfl⟩
theorem Zu6 {lk:Int}{env:List Int}{st:Vw}{n:Int}(h0:0<=n)(h1:n<1056):okE I lk env st (eW n)/\evE I lk env st (eW n)=st.mem n:=by
 have e:u32m (n%4294967296+0)=n:=by unfold u32m;omega
 refine⟨Z4k (Zfa n) ?_,?_⟩
 .rw[Z72,e];exact Za7 (hc.low n h0 h1)
 .show st.mem (u32m (evE I lk env st (eC n)+0))=_
  rw[Z72,e]
structure Z8p (cf:Cf)(st:Vw)(f:Int)(ws:List Int)(i:Nat)(st':Vw):Prop where
 reg:st'.reg=st.reg
 inp:st'.inp=st.inp
 out:st'.out=st.out
 mem:∀a,¬(f<=a/\a<f+i)->st'.mem a=st.mem a
 new:∀(j:Nat)(w:Int),j<i->ws[j]?=some w->st'.mem (f+(j:Int))=w
theorem Zu7 {i:Nat}(hs:Seg I kMove i (bItems rMove)){ρ:List Ob}{st:Vw}(d:Ch cf ρ st){w:Int}(hw:st.reg 4=w)(d6:WOk cf T w) :
 Real I kMove false st 19 (λ _ o k=>df cf T ρ st w o k):=by
 refine Zg4 hI rMove Zu5 hs (dep:=0) (Y5 _) st _ λ lk env _ _ hl hp=>?_
 obtain⟨b,e1,D,s,rfl⟩:=Z74 hl;have h0:b=st.reg 4:=hp 0 (show(0:Int)<1 by decide);rw[hw] at h0;subst h0;obtain⟨w0,w1,c8⟩:=d6;have a2:∀(v:Int)(c:Nat),v=mv cf.to_ ρ b->Cl cf ρ b->c<=100->df cf T ρ st b (.ret (st.set 4 v)) c:=λ v c hv d0 e6 =>
  ⟨_,ρ,rfl,Z2u hI hc d v,by rw[<- hv];exact Zj _ _ _,d0,by omega⟩
 have b5:evE I lk [b,e1,D,s] st (eAnd (eL 0) (eC 3))=b%4:=by
  show alu 7 b (3%4294967296)=_
  exact Z4l w0 w1
 have a4:∀env,okE I lk env st (isRef (eL 0)):=λ env=>Z2r (Zfl (by decide) (Zcz 0) (Zfa 3)) (Zfa 1)
 have Q:evE I lk [b,e1,D,s] st (isRef (eL 0))=if b%4=1 then 1 else 0:=by
  show(if evE I lk [b,e1,D,s] st (eAnd (eL 0) (eC 3))=_ then(1:Int) else 0)=_
  rw[b5];rfl
 unfold rMove;simp only;refine Zl1 rfl (Z2r (a4 _) (Zfa 0)) (λ hz=>?_) (λ d2=>?_)
 rotate_left
 .-- no pointer
  have a7:¬b%4=1:=λ hp=>d2 (by
   show(if evE I lk [b,e1,D,s] st (isRef (eL 0))=(0:Int)%4294967296 then(1:Int) else 0)=0
   rw[Q,if_pos hp];rfl)
  refine Zrf rfl (Zcz 0) (a2 _ _ ?_ ?_ (by decide))
  .show b=mv cf.to_ ρ b
   unfold mv;rw[if_neg a7]
  .intro o l he
   omega
 have hp:b%4=1:=Y_c λ a7=>by
  have:evE I lk [b,e1,D,s] st (eNot (isRef (eL 0)))=1:=by
   show(if evE I lk [b,e1,D,s] st (isRef (eL 0))=(0:Int)%4294967296 then(1:Int) else 0)=1
   rw[Q,if_neg a7];rfl
  rw[hz] at this
  cases this
 refine Zbl ?_;refine Zfb rfl (Zfl (by decide) (Zcz 0) (Zfa 2)) ?_;have ea:evE I lk [b,e1,D,s] st (eAdr (eL 0))=b/4:=by show alu 11 b (2%4294967296)=_;exact Z4m _
 rw[ea]
 show wpSs I 0 lk false _ [b,b/4,D,s] st _ _ _
 obtain⟨a,ha⟩:=Yx (b/4);rw[<- ha];rw[<- ha] at c8;have a0:0<=a/\a<1073741824:=by omega
 have f9:b=4*a+1:=by omega
 obtain⟨b1,W⟩:=Zu6 hI hc (lk:=lk) (env:=[b,a,D,s]) (st:=st) (n:=2) (by decide) (by decide);obtain⟨b3,V⟩:=Zu6 hI hc (lk:=lk) (env:=[b,a,D,s]) (st:=st) (n:=4) (by decide) (by decide);rw[d.m2] at W;rw[d.m4] at V;have f0:=hc.fr0;have f2:=hc.hf0;have f4:=hc.frz;have U:evE I lk [b,a,D,s] st (eLt (eSub (eL 1) (eW 2)) (eW 4))=if u32m (a-cf.fr)<cf.hf then 1 else 0:=by
  show alu 14 (alu 2 a (evE I lk [b,a,D,s] st (eW 2))) (evE I lk [b,a,D,s] st (eW 4))=_
  rw[W,V,Zcj,Zkc]
 have b7:u32m (a-cf.fr)<cf.hf↔cf.fr<=a/\a<cf.fr+cf.hf:=by
  unfold u32m
  constructor
  .intro h;omega
  .intro h;omega
 refine Zl1 rfl (Z2r (Zfl (by decide) (Zfl (by decide) (Zcz 1) b1) b3) (Zfa 0)) (λ d5=>?_) (λ b0=>?_)
 rotate_left
 .-- elsewhere
  have J:¬(cf.fr<=a/\a<cf.fr+cf.hf):=λ hq=>b0 (by
   show(if evE I lk [b,a,D,s] st (eLt (eSub (eL 1) (eW 2)) (eW 4))=(0:Int)%4294967296 then(1:Int) else 0)=0
   rw[U,if_pos (b7.2 hq)];rfl)
  have a3:nw cf.to_ ρ a=none:=by
   cases hq:nw cf.to_ ρ a with
   | none=>rfl
   | some ν =>
    exfalso
    obtain⟨o,l,eo,_⟩:=Zf4 hq;have:=hc.obs o (d.sub o l);have hl:=Zhm hc (d.sub o l);omega
  refine Zrf rfl (Zcz 0) (a2 _ _ ?_ ?_ (by decide))
  .show b=mv cf.to_ ρ b
   unfold mv;rw[if_pos hp,<- ha,a3]
  .intro o l he
   have:=hc.obs o l;have hl:=Zhm hc l;omega
 have b9:cf.fr<=a/\a<cf.fr+cf.hf:=Y_c λ hq=>by
  have:evE I lk [b,a,D,s] st (eNot (eLt (eSub (eL 1) (eW 2)) (eW 4)))=1:=by
   show(if evE I lk [b,a,D,s] st (eLt (eSub (eL 1) (eW 2)) (eW 4))=(0:Int)%4294967296 then(1:Int) else 0)=1
   rw[U,if_neg (λ h=>hq (b7.1 h))];rfl
  rw[d5] at this
  cases this
 refine Zbl ?_;obtain⟨ob,u,hT,f5⟩:∃o∈cf.O,T o/\b=4*o.at_+1:=by
  rcases c8 hp with h|h|h
  .exact h
  .omega
  .omega
 have c3:a=ob.at_:=by omega
 subst c3;obtain⟨K,f1,f6⟩:=hc.obs ob u;obtain⟨r,ws,a1,g0,e7⟩:=K.head;have f3:(ob.ws.length:Int)=r/32+1:=by rw[a1,e7];simp
 have b4:=K.word r (by rw[a1];exact Yv);have e9:ob.ws[0]?=some r:=by rw[a1];rfl
 have u1:u32m (ob.at_+0)=ob.at_:=by unfold u32m;omega
 have G:Dat I ob.at_:=hc.frd _ b9.1 b9.2;have a9:∀(env:List Int)(st:Vw),evE I lk env st (eL 1)=ob.at_->okE I lk env st (eM (eL 1) 0):=λ env st he=>Z4k (Zcz 1) (by rw[he,u1];exact Za7 G)
 refine Zfb rfl (a9 _ _ rfl) ?_;have em:evE I lk [b,ob.at_,D,s] st (eM (eL 1) 0)=st.mem ob.at_:=by
  show st.mem (u32m (ob.at_+0))=_
  rw[u1]
 rw[em]
 show wpSs I 0 lk false _ [b,ob.at_,st.mem ob.at_,s] st _ _ _
 by_cases p:ob∈ρ
 .-- it has been copied
  obtain⟨ν,L⟩:=Zfm (t:=cf.to_) p;have c4:=d.cop ob p ν L;obtain⟨_,g1,f8⟩:=Zl2 hc d.sub u L;have c0:=hc.to0;have c7:=hc.toz;have f7:=Zb6 ρ cf.O d.nd d.sub;have a5:=hc.sum;rw[c4];have F:evE I lk [b,ob.at_,4*ν+1,s] st (isRef (eL 2))=1:=by
   show(if alu 7 (4*ν+1) (3%4294967296)=(1:Int)%4294967296 then(1:Int) else 0)=1
   rw[Z4l (by omega) (by omega),if_pos (by omega)]
  refine Zl1 rfl (Z2r (Zfl (by decide) (Zcz 2) (Zfa 3)) (Zfa 1)) (λ h=>by rw[F] at h;cases h) (λ _=>?_);refine Zrf rfl (Zcz 2) (a2 _ _ ?_ ?_ (by decide))
  .show 4*ν+1=mv cf.to_ ρ b
   unfold mv;rw[if_pos hp,show b/4=ob.at_ by omega,L]
  .intro o l he
   have:=Zu4 hc l u (by omega);rw[this];exact p
 have c9:st.mem ob.at_=r:=by
  have:=d.unc ob u p 0 r e9;rw[show ob.at_+((0:Nat):Int)=ob.at_ by omega] at this;exact this
 rw[c9];have F:evE I lk [b,ob.at_,r,s] st (isRef (eL 2))=0:=by
  show(if alu 7 r (3%4294967296)=(1:Int)%4294967296 then(1:Int) else 0)=0
  rw[Z4l b4.1 b4.2,if_neg (by omega)]
 refine Zl1 rfl (Z2r (Zfl (by decide) (Zcz 2) (Zfa 3)) (Zfa 1)) (λ _=>?_) (λ h=>absurd F h);refine Zbl ?_;refine Zfb rfl (Zfl (by decide) (Zcz 2) (Zfa 5)) ?_;have es:evE I lk [b,ob.at_,r,s] st (eShr (eL 2) 5)=r/32:=by show alu 11 r (5%4294967296)=_;exact Z73 _
 rw[es];refine Zfb rfl (Zfa 0) ?_
 show wpSs I 0 lk false _ [b,ob.at_,r/32,0] st _ _ _
 obtain⟨f,hf⟩:=Yx (cf.to_+tot ρ);have N:st.reg 29=f:=by rw[d.r29,hf]
 have d3:=Zzb d.nd d.sub u p;have a5:=hc.sum;have c0:=hc.to0;have c7:=hc.toz;have d9:=Zw ρ;have c6:∀x,f<=x->x<f+ob.ws.length->Dat I x:=λ x h1 h2=>hc.tod x (by omega) (by omega)
 have c5:∀x,ob.at_<=x->x<ob.at_+ob.ws.length->Dat I x:=λ x h1 h2=>hc.frd x (by omega) (by omega)
 have P:∀x y,ob.at_<=x->x<ob.at_+ob.ws.length->f<=y->y<f+ob.ws.length->x≠y:=λ x y h1 h2 h3 h4=>by
  rcases hc.apart with ap|ap <;> omega
 refine Zu1 rfl (λ env g c k=>∃i:Nat,i<=ob.ws.length/\k=ob.ws.length-i/\env=[b,ob.at_,r/32,(i:Int)]/\Z8p cf st f ob.ws i g/\c<=70+36*i)
  (k0:=ob.ws.length) ⟨0,Nat.zero_le _,rfl,rfl,⟨rfl,rfl,rfl,λ _ _=>rfl,λ j w hj=>by omega⟩,by decide⟩ ?_
 rintro env g c k ⟨n,hn,rfl,rfl,C,e6⟩;have d1:evE I lk [b,ob.at_,r/32,(n:Int)] g (eLt (eL 2) (eL 3))=if r/32<(n:Int) then 1 else 0:=by
  show alu 14 (r/32) (n:Int)=_
  exact Zcj _ _
 have X:evE I lk [b,ob.at_,r/32,(n:Int)] g (eNot (eLt (eL 2) (eL 3)))=if r/32<(n:Int) then 0 else 1:=by
  show(if evE I lk [b,ob.at_,r/32,(n:Int)] g (eLt (eL 2) (eL 3))=(0:Int)%4294967296 then(1:Int) else 0)=_
  rw[d1]
  split <;> rfl
 refine⟨Z2r (Zfl (by decide) (Zcz 2) (Zcz 3)) (Zfa 0),λ c1=>?_,λ R=>?_⟩
 rotate_left
 .-- one word more
  have e5:n<ob.ws.length:=by
   rcases Nat.lt_or_ge n ob.ws.length with h|h
   .exact h
   .exfalso
    rw[X,if_pos (by omega)] at R;exact R rfl
  have A:g.reg 29=f:=by rw[C.reg];exact N
  have ep:u32m (evE I lk [b,ob.at_,r/32,(n:Int)] g (eAdd (eR 29) (eL 3))+0)=f+n:=by
   show u32m (alu 1 (g.reg 29) (n:Int)+0)=_
   rw[A,Zar];unfold u32m;omega
  have a8:u32m (evE I lk [b,ob.at_,r/32,(n:Int)] g (eAdd (eL 1) (eL 3))+0)=ob.at_+n:=by
   show u32m (alu 1 ob.at_ (n:Int)+0)=_
   rw[Zar];unfold u32m;omega
  have E:=c6 (f+n) (by omega) (by omega);have a6:=c5 (ob.at_+n) (by omega) (by omega);refine Zre rfl (Zfl (by decide) (Z2q 29) (Zcz 3)) rfl (Z4k (Zfl (by decide) (Zcz 1) (Zcz 3)) (by rw[a8];exact Za7 a6)) ep ⟨E.2.1,E.2.2.1,E.2.2.2⟩ ?_;have ev:evE I lk [b,ob.at_,r/32,(n:Int)] g (eM (eAdd (eL 1) (eL 3)) 0)=st.mem (ob.at_+n):=by
   rw[Z8k,a8];exact C.mem _ (λ q=>P (ob.at_+n) (ob.at_+n) (by omega) (by omega) q.1 (by omega) rfl)
  rw[ev];refine Zfb rfl (Zfl (by decide) (Zcz 3) (Zfa 1)) ?_;have ei:evE I lk [b,ob.at_,r/32,(n:Int)] (g.sto (f+n) (st.mem (ob.at_+n))) (eAdd (eL 3) (eC 1))=((n+1:Nat):Int):=by
   show alu 1 (n:Int) (1%4294967296)=_
   rw[Zar];unfold u32m;omega
  rw[ei];refine Zbl ⟨ob.ws.length-(n+1),by omega,n+1,e5,rfl,rfl,⟨C.reg,C.inp,C.out,λ x M=>?_,λ j w hj B=>?_⟩,?_⟩
  .show(if x=f+n then _ else g.mem x)=_
   rw[if_neg (λ e=>M (by omega)),C.mem x (λ q=>M (by omega))]
  .show(if f+(j:Int)=f+n then _ else g.mem (f+(j:Int)))=w
   by_cases c2:j=n
   .subst c2
    rw[if_pos rfl];exact d.unc ob u p j w B
   .rw[if_neg (by omega)]
    exact C.new j w (by omega) B
  .have q1:coE (eNot (eLt (eL 2) (eL 3)))=8:=rfl
   have q2:coE (eAdd (eR 29) (eL 3))=3:=rfl;have q3:coE (eM (eAdd (eL 1) (eL 3)) 0)=4:=rfl;have q4:coE (eAdd (eL 3) (eC 1))=4:=rfl;omega
 have d8:n=ob.ws.length:=by
  rcases Nat.lt_or_ge n ob.ws.length with h|h
  .exfalso
   rw[X,if_neg (by omega)] at c1
   cases c1
  .omega
 subst d8;have A:g.reg 29=f:=by rw[C.reg];exact N
 have e8:evE I lk [b,ob.at_,r/32,(ob.ws.length:Int)] g (eRef (eR 29))=4*f+1:=by
  show alu 8 (alu 10 (g.reg 29) (2%4294967296)) (1%4294967296)=_
  rw[A,Z4n];have e4:u32m (f*4)=f*4:=by unfold u32m;omega
  rw[e4,or1 (by omega) (by omega) (by omega)];omega
 refine Zre rfl (Zcz 1) rfl (Zfl (by decide) (Zfl (by decide) (Z2q 29) (Zfa 2)) (Zfa 1)) u1 ⟨G.2.1,G.2.2.1,G.2.2.2⟩ ?_;rw[e8];refine Zrd rfl (Zfl (by decide) (Z2q 29) (Zcz 3)) ?_;have d4:evE I lk [b,ob.at_,r/32,(ob.ws.length:Int)] (g.sto ob.at_ (4*f+1)) (eAdd (eR 29) (eL 3))=f+ob.ws.length:=by
  show alu 1 (g.reg 29) (ob.ws.length:Int)=_
  rw[A,Zar];unfold u32m;omega
 rw[d4];refine Zrf rfl (a9 _ _ rfl) ?_;have b6:evE I lk [b,ob.at_,r/32,(ob.ws.length:Int)] ((g.sto ob.at_ (4*f+1)).set 29 (f+ob.ws.length)) (eM (eL 1) 0)=4*f+1:=by
  show(if u32m (ob.at_+0)=ob.at_ then 4*f+1 else g.mem (u32m (ob.at_+0)))=_
  rw[u1,if_pos rfl]
 rw[b6];have Z:nw cf.to_ (ρ++[ob]) ob.at_=some f:=by rw[hf];exact Zu3 (λ x M e=>p (Zu4 hc (d.sub x M) u e ▸ M)) rfl
 have H:tot (ρ++[ob])=tot ρ+ob.ws.length:=by rw[Zbm,tot,tot,Int.add_zero]
 have m:∀x,(((g.sto ob.at_ (4*f+1)).set 29 (f+ob.ws.length)).set 4 (4*f+1)).mem x=if x=ob.at_ then 4*f+1 else g.mem x:=λ _=>rfl
 have Y:∀o∈cf.O,o≠ob->∀k:Nat,k<o.ws.length->o.at_+(k:Int)≠ob.at_/\¬(f<=o.at_+(k:Int)/\o.at_+(k:Int)<f+ob.ws.length):=λ o l z k hk=>by
  have h1:=hc.dis o l ob u z;have h2:=(hc.obs o l).2;refine⟨by omega,λ q=>?_⟩;rcases hc.apart with ap|ap <;> omega
 refine⟨_,ρ++[ob],rfl,⟨⟨[ob],rfl,λ o l=>?_⟩,⟨λ o l=>?_,?_,?_,?_,?_,λ o l J k w B=>?_,λ o l ν L=>?_⟩,λ j h4 h5 d7=>?_,λ x M b8=>?_,λ o l J ν L k w B=>?_,C.inp,C.out⟩,?_,λ o l he=>?_,?_⟩
 .simp only[Yz,Yaq,or_false] at l
  subst l;exact hT
 .rcases Y4.1 l with l|l
  .exact d.sub o l
  .simp only[Yz,Yaq,or_false] at l
   subst l;exact u
 .rw[List.nodup_append]
  refine⟨d.nd,by simp,λ x M y hy=>?_⟩;simp only[Yz,Yaq,or_false] at hy;subst hy;intro e;subst e;exact p M
 .show(f+ob.ws.length:Int)=_
  rw[H];omega
 .rw[m,if_neg (by omega),C.mem 2 (by omega)]
  exact d.m2
 .rw[m,if_neg (by omega),C.mem 4 (by omega)]
  exact d.m4
 .have hno1:o ∉ ρ:=λ q=>J (Ya6 _ q)
  have z:o≠ob:=λ e=>J (by rw[e];exact Ybj _ Yv)
  obtain⟨q1,q2⟩:=Y o l z k (Yg.1 B).1;rw[m,if_neg q1,C.mem _ q2];exact d.unc o l hno1 k w B
 .by_cases z:o=ob
  .subst z
   rw[Z] at L
   cases L
   rw[m,if_pos rfl]
  .have hoρ:o∈ρ:=by
    rcases Y4.1 l with l|l
    .exact l
    .simp only[Yz,Yaq,or_false] at l
     exact absurd l z
   obtain⟨ν',b2⟩:=Zfm (t:=cf.to_) hoρ;have:=Zei [ob] b2;rw[L] at this
   cases this
   have hl:=Zhm hc (d.sub o hoρ);obtain⟨q1,q2⟩:=Y o (d.sub o hoρ) z 0 (by omega);rw[show o.at_+((0:Nat):Int)=o.at_ by omega] at q1 q2;rw[m,if_neg q1,C.mem _ q2];exact d.cop o hoρ ν b2
 .show(if j=4 then _ else if j=29 then _ else g.reg j)=_
  rw[if_neg h4,if_neg d7,C.reg]
 .rw[H] at b8
  rw[m,if_neg (λ e=>M (by omega)),C.mem x (λ q=>b8 (by omega))]
 .have z:o=ob:=by
   rcases Y4.1 l with l|l
   .exact absurd l J
   .simpa using l
  subst z;rw[Z] at L
  cases L
  have hk:=(Yg.1 B).1;rw[m,if_neg (λ e=>P o.at_ (f+(k:Int)) (Y5 _) (by omega) (by omega) (by omega) e.symm)];exact C.new k w hk B
 .rw[Zj]
  unfold mv;rw[if_pos hp,show b/4=ob.at_ by omega,Z]
 .have:=Zu4 hc l u (by omega)
  rw[this];exact Ybj _ Yv
 .rw[H]
  have q1:coE (eNot (eLt (eL 2) (eL 3)))=8:=rfl;have q2:coE (eL 1)=1:=rfl;have q3:coE (eRef (eR 29))=7:=rfl;have q4:coE (eAdd (eR 29) (eL 3))=3:=rfl;have q5:coE (eM (eL 1) 0)=2:=rfl;simp only[Ybn,if_false];omega
end
end
section
structure S.Sc (cf:Cf)(T:Ob->Prop)(X:Int->Prop)(ρ:List Ob)(st:Vw)(ρ':List Ob)(st':Vw):Prop where
 ext:∃δ,ρ'=ρ++δ/\∀o∈δ,T o
 ch:Ch cf ρ' st'
 reg:∀j,j≠4->j≠5->j≠29->st'.reg j=st.reg j
 mem:∀a,¬X a->¬(cf.fr<=a/\a<cf.fr+cf.hf)->¬(cf.to_+tot ρ<=a/\a<cf.to_+tot ρ')->st'.mem a=st.mem a
 root:∀a,X a->st'.mem a=mv cf.to_ ρ' (st.mem a)/\Cl cf ρ' (st.mem a)
 new:∀o∈ρ',o ∉ ρ->∀ν,nw cf.to_ ρ' o.at_=some ν->∀(k:Nat)(w:Int),o.ws[k]?=some w->st'.mem (ν+(k:Int))=w
 inp:st'.inp=st.inp
 out:st'.out=st.out
def S.bn (cf:Cf)(a:Int):Prop:=¬(cf.fr<=a/\a<cf.fr+cf.hf)/\¬(cf.to_<=a/\a<cf.to_+cf.hf)/\a≠2/\a≠4
theorem Zkd {env:List Int}(h:(env.length:Int)=2):∃a b,env=[a,b]:=by
 match env,h with
 | [a,b],_=>exact⟨a,b,rfl⟩
 | [],h=>simp at h
 | [_],h=>simp at h
 | _::_::_::_,h=>simp only[Yj] at h;omega
theorem Zu8:chkB rScan=0:=by kernel_rfl
section
variable {I:Img}(hI:I.Ok){cf:Cf}(hc:Cf.Ok I cf){T:Ob->Prop}
include hI hc
theorem Zu9 {ρ:List Ob}{st a:Vw}(h:Ch cf ρ st)(d:a.reg 29=st.reg 29)(hm:a.mem=st.mem):Ch cf ρ a :=
 ⟨h.sub,h.nd,by rw[d];exact h.r29,by rw[hm];exact h.m2,by rw[hm];exact h.m4,λ o c b k w e=>by rw[hm];exact h.unc o c b k w e,λ o c ν f=>by rw[hm];exact h.cop o c ν f⟩
theorem S.Sc.refl {X:Int->Prop}(d:∀a,¬X a){ρ:List Ob}{st:Vw}(h:Ch cf ρ st):Sc cf T X ρ st ρ st :=
 ⟨⟨[],(Ybe _).symm,λ o c=>by cases c⟩,h,λ _ _ _ _=>rfl,λ _ _ _ _=>rfl,λ a e=>absurd e (d a),λ o c b=>absurd c b,rfl,rfl⟩
theorem Zp7 {ρ ρ' δ:List Ob}(e:ρ'=ρ++δ){w:Int}(g:WOk cf T w)(d:Cl cf ρ w)(c:∀o∈ρ',o∈cf.O):mv cf.to_ ρ' w=mv cf.to_ ρ w:=by
 unfold mv
 split
 .rename_i hp
  rcases g.2.2 hp with⟨o,a,_,rfl⟩|b
  .obtain⟨ν,hν⟩:=Zfm (t:=cf.to_) (d o a rfl)
   have f:(4*o.at_+1)/4=o.at_:=by omega
   rw[f,hν,e,Zei δ hν]
  .have none_of:∀ρ:List Ob,(∀o∈ρ,o∈cf.O)->nw cf.to_ ρ (w/4)=none:=λ ρ c=>by
    cases hq:nw cf.to_ ρ (w/4) with
    | none=>rfl
    | some ν =>
     exfalso
     obtain⟨o,a,ea,_⟩:=Zf4 hq;have:=hc.obs o (c o a);have hl:=Zhm hc (c o a);rcases b with q|q <;> omega
   rw[none_of ρ' c,none_of ρ λ o a=>c o (by rw[e];exact Ya6 _ a)]
 .rfl
theorem S.Sc.trans {X Y:Int->Prop}{ρ ρ' ρ2:List Ob}{st d n:Vw}(h:Sc cf T X ρ st ρ' d)(k:Sc cf T Y ρ' d ρ2 n)(v:∀a,X a->¬Y a)(G:∀a,X a->bn cf a)(B:∀a,Y a->bn cf a)
 (p:∀a,X a->WOk cf T (st.mem a)):Sc cf T (λ a=>X a\/Y a) ρ st ρ2 n:=by
 obtain⟨δ,e,K⟩:=h.ext;obtain⟨δ2,g,x⟩:=k.ext;have t1:tot ρ'=tot ρ+tot δ:=by rw[e,Zbm]
 have t2:tot ρ2=tot ρ'+tot δ2:=by rw[g,Zbm]
 have p1:=Zw δ;have p2:=Zw δ2;have p0:=Zw ρ;have D:=Zb6 ρ2 cf.O k.ch.nd k.ch.sub;have hs:=hc.sum;refine⟨⟨δ++δ2,by rw[g,e,List.append_assoc],λ o b=>(Y4.1 b).elim (K o) (x o)⟩,k.ch,λ j C E l=>(k.reg j C E l).trans (h.reg j C E l),λ a r z y=>?_,λ a r=>?_,λ o b u ν A i w p=>?_,k.inp.trans h.inp,k.out.trans h.out⟩
 .rw[k.mem a (λ q=>r (.inr q)) z (λ q=>y ⟨by omega,q.2⟩),h.mem a (λ q=>r (.inl q)) z (λ q=>y ⟨q.1,by omega⟩)]
 .by_cases cx:X a
  .obtain⟨m,f⟩:=h.root a cx
   have b:=G a cx;rw[k.mem a (v a cx) b.1 (λ q=>b.2.1 ⟨by omega,by omega⟩),m];exact⟨(Zp7 hI hc g (p a cx) f k.ch.sub).symm,λ o s F=>by rw[g];exact Ya6 _ (f o s F)⟩
  .have cy:Y a:=r.resolve_left cx
   have b:=B a cy;obtain⟨m,f⟩:=k.root a cy;have H:d.mem a=st.mem a:=h.mem a cx b.1 (λ q=>b.2.1 ⟨by omega,by omega⟩);rw[H] at m f;exact⟨m,f⟩
 .by_cases c:o∈ρ'
  .obtain⟨ν',hν'⟩:=Zfm (t:=cf.to_) c
   have:=Zei δ2 hν';rw[<- g,A] at this
   cases this
   obtain⟨_,m,f⟩:=Zl2 hc h.ch.sub (h.ch.sub o c) hν';have hi:=(Yg.1 p).1;rw[k.mem (ν+(i:Int)) (λ q=>(B _ q).2.1 ⟨by omega,by omega⟩) (λ q=>by rcases hc.apart with J|J <;> omega) (λ q=>by omega)];exact h.new o c u _ hν' i w p
  .exact k.new o b c ν A i w p
theorem Zny {v:Nat}(i:Seg I kMove v (bItems rMove)){dep lk:Int}{behind:Bool}(l:19<=dep){ρ:List Ob}{st:Vw}(g:Ch cf ρ st){p:Int}(hp:Dat I p)(q:WOk cf T (st.mem p))
 {r:List Int} {c:Nat} {Q:List Int->Vw->Nat->Prop} {R:BO->Nat->Prop}
 (t:∀ρ' a (h:Nat),Tr cf T ρ (st.args [st.mem p]) ρ' a->Cl cf ρ' (st.mem p)->(h:Int)<=c+116+40*(tot ρ'-tot ρ)->Q ((p+1)::r) (a.sto p (mv cf.to_ ρ' (st.mem p))) h) :
 wpSs I dep lk behind bScan (p::r) st c Q R:=by
 have j:=hI.size2;have h0:=hp.1;have h1:=hp.2.1;have d:u32m (p+0)=p:=by unfold u32m;omega
 unfold bScan;rw[Zbp,Zqx];refine Zbs rfl (Zcz 0) ?_;rw[Z58];refine Zbs rfl (Z4k (Zcz 0) (by show u32m (p+0)<_/\¬I.stk (u32m (p+0));rw[d];exact Za7 hp)) ?_;have s:evE I lk (p::r) st (eM (eL 0) 0)=st.mem p:=by
  show st.mem (u32m (p+0))=_
  rw[d]
 rw[s];have b:Ch cf ρ (st.args [st.mem p]):=Zu9 hI hc g rfl rfl;refine⟨19,_,Zu7 hI hc i b (w:=st.mem p) rfl q,l,λ ret o k u=>?_⟩;obtain⟨a,ρ',rfl,f,m,e,hk⟩:=u
 show u32m (p+0)<I.size/\¬I.stk (u32m (p+0))/\¬I.code (u32m (p+0))/\_
 rw[d];refine⟨hp.2.1,hp.2.2.1,hp.2.2.2,?_⟩;rw[m,show u32m (evE I lk (p::r) st (eL 0)+0)=p from d];refine Zfb rfl (Zfl (by decide) (Zcz 0) (Zfa 1)) (Zbl ?_);have n:evE I lk (p::r) (a.sto p (mv cf.to_ ρ' (st.mem p))) (eAdd (eL 0) (eC 1))=p+1:=by
  show alu 1 p (1%4294967296)=_
  rw[Zar];unfold u32m;omega
 rw[n];refine t ρ' a _ f e ?_;have q1:coE (eL 0)=1:=rfl;have q2:coE (eM (eL 0) 0)=2:=rfl;have q3:coE (eAdd (eL 0) (eC 1))=4:=rfl;simp only[Yj,Yab];omega
theorem Z45 {ρ ρ':List Ob}{st c:Vw}{p:Int}(hp:bn cf p)(d:∀o∈cf.O,True)(b:Tr cf T ρ (st.args [st.mem p]) ρ' c)(l:Cl cf ρ' (st.mem p)) :
 Sc cf T (λ a=>a=p) ρ st ρ' (c.sto p (mv cf.to_ ρ' (st.mem p))):=by
 have hm:∀a,(c.sto p (mv cf.to_ ρ' (st.mem p))).mem a=if a=p then mv cf.to_ ρ' (st.mem p) else c.mem a:=λ _=>rfl
 have n:=Zb6 ρ' cf.O b.ch.nd b.ch.sub;have hs:=hc.sum;have h0:=Zw ρ';refine⟨b.ext,⟨b.ch.sub,b.ch.nd,b.ch.r29,?_,?_,λ o d f k w g=>?_,λ o d ν h=>?_⟩,λ j t u i=>?_,λ a m s q=>?_,λ a m=>?_,λ o d f ν h k w g=>?_,b.inp,b.out⟩
 .rw[hm,if_neg (Ne.symm hp.2.2.1)];exact b.ch.m2
 .rw[hm,if_neg (Ne.symm hp.2.2.2)];exact b.ch.m4
 .have:=hc.obs o d
  have r:=(Yg.1 g).1;rw[hm,if_neg (λ e=>hp.1 ⟨by omega,by omega⟩)];exact b.ch.unc o d f k w g
 .have:=hc.obs o (b.ch.sub o d)
  have hl:=Zhm hc (b.ch.sub o d);rw[hm,if_neg (λ e=>hp.1 ⟨by omega,by omega⟩)];exact b.ch.cop o d ν h
 .show c.reg j=st.reg j
  rw[b.reg j t u i]
  show(if 4<=j/\j<4+(1:Nat) then _ else st.reg j)=_
  rw[if_neg (by omega)]
 .rw[hm,if_neg m]
  exact b.mem a s q
 .subst m
  rw[hm,if_pos rfl];exact⟨rfl,l⟩
 .obtain⟨_,q1,q2⟩:=Zl2 hc b.ch.sub (b.ch.sub o d) h
  have r:=(Yg.1 g).1;rw[hm,if_neg (λ e=>hp.2.1 ⟨by omega,by omega⟩)];exact b.new o d f ν h k w g
def S.dh (cf:Cf)(T:Ob->Prop)(a b:Int)(ρ:List Ob)(st:Vw)(o:BO)(k:Nat):Prop :=
 ∃st' ρ',o=.ret st'/\Sc cf T (λ x=>a<=x/\x<b) ρ st ρ' st'/\(k:Int)<=30+130*(if a<b then b-a else 0)+40*(tot ρ'-tot ρ)
theorem Zva {P J:Nat}(E:Seg I kMove P (bItems rMove))(K:Seg I kScan J (bItems rScan)){ρ:List Ob}{st:Vw}(y:Ch cf ρ st){a b:Int}(G:st.reg 4=a)(F:st.reg 5=b)(L:0<=a/\0<=b/\b<=335544320)
 (n:∀x,a<=x->x<b->Dat I x/\bn cf x) (C:∀x,a<=x->x<b->WOk cf T (st.mem x)) :
 Real I kScan false st 36 (λ _ o k=>dh cf T a b ρ st o k):=by
 have D:(1:Nat)=1:=rfl;refine Zg4 hI rScan Zu8 K (dep:=19) (by decide) st _ λ lk env _ _ M hp=>?_
 obtain⟨d,g,rfl⟩:=Zkd M;have h0:d=st.reg 4:=hp 0 (show(0:Int)<2 by decide);have h1:g=st.reg 5:=hp 1 (show(1:Int)<2 by decide);rw[G] at h0;rw[F] at h1;subst h0 h1;unfold rScan;simp only;refine Zu1 rfl (λ env l c k=>∃(i:Nat)(ρ':List Ob),(i=0\/d+i<=g)/\k=(g-d).toNat-i/\env=[d+i,g]/\Sc cf T (λ x=>d<=x/\x<d+i) ρ st ρ' l/\(c:Int)<=6+127*i+40*(tot ρ'-tot ρ))
  (k0:=(g-d).toNat) ⟨0,ρ,.inl rfl,by omega,by simp,Sc.refl hI hc (λ x r=>by omega) y,by simp⟩ ?_
 rintro env l c k ⟨i,ρ',hi,rfl,rfl,j,N⟩;have t:evE I lk [d+(i:Int),g] l (eLt (eL 0) (eL 1))=if d+(i:Int)<g then 1 else 0:=by
  show alu 14 (d+(i:Int)) g=_
  exact Zcj _ _
 refine⟨Zfl (by decide) (Zcz 0) (Zcz 1),λ A=>?_,λ u=>?_⟩
 .have hnlt:¬d+(i:Int)<g:=λ h=>by rw[t,if_pos h] at A;cases A
  refine Zbl ⟨l,ρ',rfl,?_,?_⟩
  .have heq:(λ x=>d<=x/\x<d+(i:Int))=λ x=>d<=x/\x<g:=by
    funext x
    refine propext ⟨λ q=>?_,λ q=>?_⟩
    .rcases hi with rfl|hi
     .exact absurd q (by omega)
     .omega
    .rcases hi with rfl|hi
     .omega
     .omega
   rw[<- heq];exact j
  .have q1:coE (eLt (eL 0) (eL 1))=3:=rfl
   simp only[Ybn,if_false];rcases hi with rfl|hi
   .rw[if_neg (by omega)]
    omega
   .by_cases h:d<g
    .rw[if_pos h];omega
    .rw[if_neg h];omega
 .have hlt:d+(i:Int)<g:=Y_c λ h=>by
   rw[t,if_neg h] at u;exact u rfl
  obtain⟨H,f⟩:=n (d+i) (by omega) hlt;have B:=Zb6 ρ' cf.O j.ch.nd j.ch.sub;have hs:=hc.sum;have t0:=Zw ρ;have p:l.mem (d+i)=st.mem (d+i):=j.mem _ (by omega) f.1 (λ q=>f.2.1 ⟨by omega,by omega⟩);refine Zny hI hc E (Y5 _) j.ch H (T:=T) (by rw[p];exact C _ (by omega) hlt) λ ρ2 Q c' w v z=>?_
  have s:=Z45 hI hc f (λ _ _=>trivial) w v;have m:=Sc.trans hI hc j s (λ x r e=>by omega) (λ x r=>(n x r.1 (by omega)).2) (λ x r=>by rw[r];exact f) (λ x r=>C x r.1 (by omega));refine⟨(g-d).toNat-(i+1),by omega,i+1,ρ2,.inr (by omega),rfl,by congr 1;omega,?_,?_⟩
  .have heq:(λ x=>(d<=x/\x<d+(i:Int))\/x=d+(i:Int))=λ x=>d<=x/\x<d+((i+1:Nat):Int):=by
    funext x
    refine propext ⟨λ q=>by omega,λ q=>by omega⟩
   rw[<- heq];exact m
  .have q1:coE (eLt (eL 0) (eL 1))=3:=rfl
   omega
end
end
section
theorem Zsv:chkB rFrame=0:=by kernel_rfl
theorem Z8q {env:List Int}(h:(env.length:Int)=5):∃a b c d e,env=[a,b,c,d,e]:=by
 match env,h with
 | [a,b,c,d,e],_=>exact⟨a,b,c,d,e,rfl⟩
 | [],h=>simp at h
 | [_],h=>simp at h
 | [_,_],h=>simp at h
 | [_,_,_],h=>simp at h
 | [_,_,_,_],h=>simp at h
 | _::_::_::_::_::_::_,h=>simp only[Yj] at h;omega
def S.dc (w:Int)(i:Nat):Bool:=w/2^i%2==1
def S.Sl (s w:Int)(i:Nat)(x:Int):Prop:=∃j:Nat,j<i/\x=s+j/\dc w j=true
theorem Z2v (s w:Int)(x:Int):¬Sl s w 0 x:=λ⟨j,h,_⟩=>by omega
theorem sl_step {s w:Int}{i:Nat}{x:Int}:Sl s w (i+1) x↔Sl s w i x\/(x=s+i/\dc w i=true):=by
 constructor
 .rintro⟨j,h,rfl,hb⟩
  by_cases c:j=i
  .subst c;exact .inr ⟨rfl,hb⟩
  .exact .inl ⟨j,by omega,rfl,hb⟩
 .rintro(⟨j,h,rfl,hb⟩|⟨rfl,hb⟩)
  .exact⟨j,by omega,rfl,hb⟩
  .exact⟨i,by omega,rfl,hb⟩
theorem Zvb (w:Int)(i:Nat):w/2^i/2=w/2^(i+1):=by
 rw[Int.ediv_ediv_of_nonneg (Yaz (Ya2 (by decide))),Int.pow_succ]
section
variable {I:Img}(hI:I.Ok){cf:Cf}(hc:Cf.Ok I cf){T:Ob->Prop}
include hI hc
theorem Zvc {X:Int->Prop}{ρ ρ':List Ob}{st a:Vw}{l:List Int}(hl:l.length<=2)(h:Sc cf T X ρ (st.args l) ρ' a):Sc cf T X ρ st ρ' a :=
 ⟨h.ext,h.ch,λ j d c b=>by
  rw[h.reg j d c b]
  show(if 4<=j/\j<4+(l.length:Int) then _ else st.reg j)=_
  rw[if_neg (by omega)],h.mem,h.root,h.new,h.inp,h.out⟩
theorem Zhn {X Y:Int->Prop}(e:∀x,X x↔Y x){ρ ρ':List Ob}{st a:Vw}(h:Sc cf T X ρ st ρ' a):Sc cf T Y ρ st ρ' a:=by
 have:X=Y:=funext λ x=>propext (e x)
 subst this;exact h
theorem Zl3 {F A:Nat}(y:Seg I kMove F (bItems rMove))(B:Seg I kScan A (bItems rScan)){dep lk:Int}{behind:Bool}(z:36<=dep){X:Int->Prop}{ρ0 ρ:List Ob}{st0 st:Vw}(f:Sc cf T X ρ0 st0 ρ st)
 {a b:Int} {l:List BE} {env:List Int} (hp:pureEs l=true) (s:okEs I lk env st l) (v:evEs I lk env st l=[a,b]) (p:0<=a/\0<=b/\b<=335544320)
 (g:∀x,a<=x->x<b->Dat I x/\bn cf x) (C:∀x,a<=x->x<b->WOk cf T (st0.mem x)) (n:∀x,X x->bn cf x/\WOk cf T (st0.mem x)/\¬(a<=x/\x<b))
 {r:List BS} {c:Nat} {Q:List Int->Vw->Nat->Prop} {R:BO->Nat->Prop}
 (D:∀ρ' h (u:Nat),Sc cf T (λ x=>X x\/(a<=x/\x<b)) ρ0 st0 ρ' h->0<=tot ρ'-tot ρ->(u:Int)<=c+coEs l+36+130*(if a<b then b-a else 0)+40*(tot ρ'-tot ρ)->wpSs I dep lk behind r env h u Q R) :
 wpSs I dep lk behind (sDo (eF kScan l)::r) env st c Q R:=by
 have t:=Zb6 ρ cf.O f.ch.nd f.ch.sub;have hs:=hc.sum;have t0:=Zw ρ0;have m:Ch cf ρ (st.args [a,b]):=Zu9 hI hc f.ch rfl rfl;have j:∀x,a<=x->x<b->st.mem x=st0.mem x:=λ x h1 h2=>by
  obtain⟨_,w⟩:=g x h1 h2;exact f.mem x (λ q=>(n x q).2.2 ⟨h1,h2⟩) w.1 (λ q=>w.2.1 ⟨by omega,by omega⟩)
 refine Z2s hp s (d:=36) (T:=λ _ o k=>dh cf T a b ρ (st.args [a,b]) o k) (by rw[v];exact Zva hI hc y B m rfl rfl p g λ x h1 h2=>by show WOk cf T (st.mem x);rw[j x h1 h2];exact C x h1 h2) z λ ret o k E=>?_
 obtain⟨h,ρ',rfl,h1,hk⟩:=E;have h2:=Zvc hI hc (by simp) h1;obtain⟨δ,e,_⟩:=h2.ext;have:=Zw δ;refine D ρ' h _ (Sc.trans hI hc f h2 (λ x i q=>(n x i).2.2 q) (λ x i=>(n x i).1) (λ x i=>(g x i.1 i.2).2) (λ x i=>(n x i).2.1)) (by rw[e,Zbm];omega) ?_;rw[v];simp only[Yj,Yab];omega
theorem Zp8 {Z O:Nat}(J:Seg I kMove Z (bItems rMove))(P:Seg I kScan O (bItems rScan)){dep lk:Int}{behind:Bool}(M:36<=dep){X:Int->Prop}{ρ0 ρ:List Ob}{st0 st:Vw}(G:Sc cf T X ρ0 st0 ρ st)
 {a f s w:Int} (t:0<=w/\w<4294967296) (L:0<=s/\s+32<=335544320) (o:∀j:Nat,j<32->dc w j=true->Dat I (s+j)/\bn cf (s+j)/\WOk cf T (st0.mem (s+j)))
 (F:∀x,X x->bn cf x/\WOk cf T (st0.mem x)/\¬(s<=x/\x<s+32))
 {r:List BS} {c:Nat} {Q:List Int->Vw->Nat->Prop} {R:BO->Nat->Prop}
 (V:∀ρ' d w' (A:Nat),Sc cf T (λ x=>X x\/Sl s w 32 x) ρ0 st0 ρ' d->0<=tot ρ'-tot ρ->(A:Int)<=c+10000+40*(tot ρ'-tot ρ)->wpSs I dep lk behind r [a,f,s+32,w',s+32] d A Q R) :
 wpSs I dep lk behind (sWh (eLt (eL 2) (eL 4))
  [sWhen (eAnd (eL 3) (eC 1)) [sDo (eF kScan [eL 2,eAdd (eL 2) (eC 1)])],
   sAs 3 (eShr (eL 3) 1),sAs 2 (eAdd (eL 2) (eC 1))]::r) [a,f,s,w,s+32] st c Q R:=by
 have hs:=hc.sum;refine Zu1 rfl (λ env d A k=>∃(i:Nat)(ρ':List Ob),i<=32/\k=32-i/\env=[a,f,s+i,w/2^i,s+32]/\Sc cf T (λ x=>X x\/Sl s w i x) ρ0 st0 ρ' d/\0<=tot ρ'-tot ρ/\(A:Int)<=c+250*i+40*(tot ρ'-tot ρ))
  (k0:=32) ⟨0,ρ,by omega,rfl,by simp,Zhn hI hc (λ x=>⟨.inl,λ h=>h.resolve_right (Z2v s w x)⟩) G,by omega,by simp⟩ ?_
 rintro env d A k ⟨i,ρ',hi,rfl,rfl,g,hg,W⟩;have B:evE I lk [a,f,s+(i:Int),w/2^i,s+32] d (eLt (eL 2) (eL 4))=if s+(i:Int)<s+32 then 1 else 0:=by
  show alu 14 (s+(i:Int)) (s+32)=_
  exact Zcj _ _
 have D:coE (eLt (eL 2) (eL 4))=3:=rfl;refine⟨Zfl (by decide) (Zcz 2) (Zcz 4),λ y=>?_,λ m=>?_⟩
 .have h32:i=32:=by
   refine Y_c λ h=>?_
   rw[B,if_pos (by omega)] at y
   cases y
  subst h32;exact V ρ' d _ _ g hg (by rw[D];omega)
 .have hlt:i<32:=Y_c λ h=>by
   rw[B,if_neg (by omega)] at m;exact m rfl
  have v:0<=w/2^i:=Int.ediv_nonneg t.1 (Yaz (Ya2 (by decide)));have u:w/2^i<4294967296:=Int.lt_of_le_of_lt (Int.ediv_le_self _ t.1) t.2;have n:evE I lk [a,f,s+(i:Int),w/2^i,s+32] d (eAnd (eL 3) (eC 1))=w/2^i%2:=by
   show alu 7 (w/2^i) (1%4294967296)=_
   exact Z8m v u
  have Y:∀st,evE I lk [a,f,s+(i:Int),w/2^(i+1),s+32] st (eAdd (eL 2) (eC 1))=s+((i+1:Nat):Int):=λ st=>by
   show alu 1 (s+(i:Int)) (1%4294967296)=_
   rw[Zar];unfold u32m;omega
  have K:∀st,evE I lk [a,f,s+(i:Int),w/2^i,s+32] st (eAdd (eL 2) (eC 1))=s+((i+1:Nat):Int):=λ st=>by
   show alu 1 (s+(i:Int)) (1%4294967296)=_
   rw[Zar];unfold u32m;omega
  have E:∀st,evE I lk [a,f,s+(i:Int),w/2^i,s+32] st (eShr (eL 3) 1)=w/2^(i+1):=λ st=>by
   show alu 11 (w/2^i) (1%4294967296)=_
   rw[Z8n,Zvb]
  have U:coE (eShr (eL 3) 1)=4:=rfl;have N:coE (eAdd (eL 2) (eC 1))=4:=rfl;have H:coE (eAnd (eL 3) (eC 1))=4:=rfl;have fin:∀(ρ2:List Ob)(e:Vw)(c2:Nat),Sc cf T (λ x=>X x\/Sl s w (i+1) x) ρ0 st0 ρ2 e->0<=tot ρ2-tot ρ->(c2:Int)<=c+250*i+220+40*(tot ρ2-tot ρ) ->
   wpSs I dep lk behind [sAs 3 (eShr (eL 3) 1),sAs 2 (eAdd (eL 2) (eC 1))] [a,f,s+(i:Int),w/2^i,s+32] e c2 (λ Zkd e c2=>∃k2,k2<32-i/\∃(i:Nat)(ρ':List Ob),i<=32/\k2=32-i/\Zkd=[a,f,s+i,w/2^i,s+32]/\Sc cf T (λ x=>X x\/Sl s w i x) ρ0 st0 ρ' e/\0<=tot ρ'-tot ρ/\((c2+3:Nat):Int)<=c+250*i+40*(tot ρ'-tot ρ)) R:=by
   intro ρ2 e c2 h1 h2 h3;refine Zfb rfl (Zfl (by decide) (Zcz 3) (Zfa 1)) ?_;rw[E];refine Zfb rfl (Zfl (by decide) (Zcz 2) (Zfa 1)) (Zbl ?_);refine⟨32-(i+1),by omega,i+1,ρ2,by omega,rfl,?_,h1,h2,by rw[U,N];omega⟩;exact congrArg (λ z=>[a,f,z,w/2^(i+1),s+32]) (Y e)
  refine Zl1 rfl (Zfl (by decide) (Zcz 3) (Zfa 1)) (λ y=>?_) (λ m=>?_)
  .rw[n] at y
   refine Zbl (fin ρ' d _ (Zhn hI hc (λ x=>⟨λ h=>h.imp id λ q=>sl_step.2 (.inl q),λ h=>h.imp id λ q=>(sl_step.1 q).resolve_right λ q=>?_⟩) g) hg (by rw[D,H];omega));have:=q.2;unfold dc at this;rw[y] at this
   cases this
  .rw[n] at m
   have p:dc w i=true:=by
    unfold dc;rw[show w/2^i%2=1 from by omega];rfl
   obtain⟨d1,d2,d3⟩:=o i hlt p;refine Zl3 hI hc J P M g (a:=s+i) (b:=s+((i+1:Nat):Int)) (l:=[eL 2,eAdd (eL 2) (eC 1)]) rfl ⟨Zcz 2,Zfl (by decide) (Zcz 2) (Zfa 1),trivial⟩ (by show [_,_]=_;rw[K];rfl) (by omega)
    (λ x h1 h2=>by
     have:x=s+i:=by omega
     rw[this];exact⟨d1,d2⟩) (λ x h1 h2=>by
     have:x=s+i:=by omega
     rw[this];exact d3) (λ x C=>?_) λ ρ2 e c2 h1 h2 h3=>Zbl (fin ρ2 e _ (Zhn hI hc (λ x=>?_) h1) (by omega) ?_)
   .rcases C with C|⟨j,hj,rfl,hb⟩
    .exact⟨(F x C).1,(F x C).2.1,λ q=>(F x C).2.2 ⟨by omega,by omega⟩⟩
    .obtain⟨_,g2,g3⟩:=o j (by omega) hb
     exact⟨g2,g3,λ q=>by omega⟩
   .rw[or_assoc]
    refine or_congr Iff.rfl (Iff.trans ?_ sl_step.symm);exact or_congr Iff.rfl ⟨λ q=>⟨by omega,p⟩,λ q=>⟨by omega,by omega⟩⟩
   .have q5:coEs [eL 2,eAdd (eL 2) (eC 1)]=5:=rfl
    rw[q5,if_pos (by omega)] at h3;rw[D,H] at h3;omega
structure S.dl (I:Img)(cf:Cf)(T:Ob->Prop)(mem:Int->Int)(a:Int)(n:Nat):Prop where
 a0:0<=a
 n31:n<=31
 len:mem a=n
 rd:∀j:Nat,j<=n->a+j<I.size/\¬I.stk (a+j)/\bn cf (a+j)
 off:a+n<32\/32+32*n<=a
 word:∀j:Nat,j<n->0<=mem (a+1+j)/\mem (a+1+j)<4294967296
 slot:∀j i:Nat,j<n->i<32->dc (mem (a+1+j)) i=true->WOk cf T (mem (32+32*j+i))
def S.FX (mem:Int->Int)(a:Int)(n:Nat)(x:Int):Prop:=∃j:Nat,j<n/\Sl (32+32*j) (mem (a+1+j)) 32 x
def S.di (cf:Cf)(T:Ob->Prop)(a:Int)(n:Nat)(ρ:List Ob)(st:Vw)(o:BO)(k:Nat):Prop :=
 ∃st' ρ',o=.ret st'/\Sc cf T (FX st.mem a n) ρ st ρ' st'/\(k:Int)<=60+10100*n+40*(tot ρ'-tot ρ)
theorem Zdp {mem:Int->Int}{a:Int}{n:Nat}{x:Int}(h:FX mem a n x):32<=x/\x<32+32*n:=by
 obtain⟨j,hj,i,hi,rfl,_⟩:=h;omega
theorem Zsw {iM iS iF:Nat}(hM:Seg I kMove iM (bItems rMove))(hS:Seg I kScan iS (bItems rScan))(hF:Seg I kFrame iF (bItems rFrame)){ρ:List Ob}{st:Vw}(J:Ch cf ρ st){a:Int}{n:Nat}(ha:st.reg 4=a)(hm:dl I cf T st.mem a n) :
 Real I kFrame false st 56 (λ _ o k=>di cf T a n ρ st o k):=by
 refine Zg4 hI rFrame Zsv hF (dep:=36) (by decide) st _ λ lk env _ _ hl hp=>?_
 obtain⟨b,N,M,l,f,rfl⟩:=Z8q hl;have h0:b=st.reg 4:=hp 0 (show(0:Int)<1 by decide);rw[ha] at h0;subst h0;have hs:=hc.sum;have a2:=hI.size2;have a4:=hm.a0;have hn:=hm.n31;have m:∀x,32<=x->x<1056->bn cf x:=λ x h1 h2=>⟨λ q=>by have:=hc.fr0;omega,λ q=>by have:=hc.to0;omega,by omega,by omega⟩
 have r:∀j:Nat,j<=n->b+j<I.size/\¬I.stk (b+j):=λ j P=>⟨(hm.rd j P).1,(hm.rd j P).2.1⟩
 unfold rFrame;simp only;have A:u32m (b+0)=b:=by have:=(r 0 (by omega)).1;unfold u32m;omega
 have G:∀env st,u32m (evE I lk env st (eL 0)+0)=b->okE I lk env st (eM (eL 0) 0):=λ env st h=>Z4k (Zcz 0) (by rw[h];have:=r 0 (by omega);simpa using this)
 refine Zfb rfl (Zfl (by decide) (Zcz 0) (G _ _ A)) ?_;have H:evE I lk [b,N,M,l,f] st (eAdd (eL 0) (eM (eL 0) 0))=b+n:=by
  show alu 1 b (st.mem (u32m (b+0)))=_
  rw[A,hm.len,Zar];have:=(r n (by omega)).1;unfold u32m;omega
 rw[H];refine Zfb rfl (Zfa 32) ?_;have B:([b,N,M,l,f].set (Ycg 1) (b+n)).set (Ycg 2) (evE I lk ([b,N,M,l,f].set (Ycg 1) (b+n)) st (eC 32))=[b,b+n,32,l,f]:=rfl;rw[B];refine Zu1 rfl (λ env d W k=>∃(j:Nat)(ρ':List Ob)(l f:Int),j<=n/\k=n-j/\env=[b+j,b+n,32+32*j,l,f]/\Sc cf T (FX st.mem b j) ρ st ρ' d/\0<=tot ρ'-tot ρ/\(W:Int)<=30+10100*j+40*(tot ρ'-tot ρ))
  (k0:=n) ⟨0,ρ,l,f,by omega,by omega,by simp,Sc.refl hI hc (λ x ⟨j,h,_⟩=>by omega) J,by omega,by
   have F:coE (eAdd (eL 0) (eM (eL 0) 0))=4:=rfl;have V:coE (eC 32)=2:=rfl;rw[F,V]
   show((3+4+1+2+1:Nat):Int)<=_
   omega⟩ ?_
 rintro env d W k ⟨j,ρ',l,f,P,rfl,rfl,p,hg,a3⟩;have F:coE (eLt (eL 0) (eL 1))=3:=rfl;have u:evE I lk [b+(j:Int),b+n,32+32*(j:Int),l,f] d (eLt (eL 0) (eL 1))=if b+(j:Int)<b+n then 1 else 0:=by
  show alu 14 (b+(j:Int)) (b+n)=_
  exact Zcj _ _
 refine⟨Zfl (by decide) (Zcz 0) (Zcz 1),λ X=>?_,λ y=>?_⟩
 .have he:j=n:=by
   refine Y_c λ h=>?_
   rw[u,if_pos (by omega)] at X
   cases X
  subst he;exact Zbl ⟨d,ρ',rfl,p,by rw[F];simp only[Ybn,if_false];omega⟩
 .have hlt:j<n:=Y_c λ h=>by
   rw[u,if_neg (by omega)] at y;exact y rfl
  have Z:=Zb6 ρ' cf.O p.ch.nd p.ch.sub;have t0:=Zw ρ;have U:=r (j+1) (by omega);refine Zfb rfl (Zfl (by decide) (Zcz 0) (Zfa 1)) ?_;have K:evE I lk [b+(j:Int),b+n,32+32*(j:Int),l,f] d (eAdd (eL 0) (eC 1))=b+((j+1:Nat):Int):=by
   show alu 1 (b+(j:Int)) (1%4294967296)=_
   rw[Zar];unfold u32m;omega
  rw[K];have C:u32m (b+((j+1:Nat):Int)+0)=b+((j+1:Nat):Int):=by unfold u32m;omega
  refine Zfb (e:=eM (eL 0) 0) rfl (Z4k (Zcz 0) (by show u32m (b+((j+1:Nat):Int)+0)<_/\¬I.stk (u32m (b+((j+1:Nat):Int)+0));rw[C];exact U)) ?_;obtain⟨w,v⟩:=Yx (st.mem (b+1+j));have R:evE I lk ([b+(j:Int),b+n,32+32*(j:Int),l,f].set (Ycg 0) (b+((j+1:Nat):Int))) d (eM (eL 0) 0)=w:=by
   show d.mem (u32m (b+((j+1:Nat):Int)+0))=_
   have Y:=(hm.rd (j+1) (by omega)).2.2;rw[C,p.mem _ (λ q=>by have:=Zdp hI hc q;have:=hm.off;omega) Y.1 (λ q=>Y.2.1 ⟨by omega,by omega⟩),v]
   congr 1
   omega
  rw[R];have s:([b+(j:Int),b+n,32+32*(j:Int),l,f].set (Ycg 0) (b+((j+1:Nat):Int))).set (Ycg 3) w=[b+((j+1:Nat):Int),b+n,32+32*(j:Int),w,f]:=rfl;rw[s];have q5:coE (eQ (eL 2) (eC 1056))=3+3:=by decide
  refine Zl1 rfl (Z2r (Zcz 2) (Zfa 1056)) (λ _=>Zbl ?_) (λ D=>?_)
  .refine Zfb rfl (Zfl (by decide) (Zcz 2) (Zfa 32)) ?_
   have Q:evE I lk [b+((j+1:Nat):Int),b+n,32+32*(j:Int),w,f] d (eAdd (eL 2) (eC 32))=32+32*(j:Int)+32:=by
    show alu 1 (32+32*(j:Int)) (32%4294967296)=_
    rw[Zar];unfold u32m;omega
   rw[Q];have t:[b+((j+1:Nat):Int),b+n,32+32*(j:Int),w,f].set (Ycg 4) (32+32*(j:Int)+32)=[b+((j+1:Nat):Int),b+n,32+32*(j:Int),w,32+32*(j:Int)+32]:=rfl;rw[t];have V:coE (eAdd (eL 0) (eC 1))=4:=rfl;have q3:coE (eM (eL 0) 0)=2:=rfl;have q4:coE (eAdd (eL 2) (eC 32))=4:=rfl;refine Zp8 hI hc hM hS (Y5 _) p (v ▸ hm.word j hlt) (by omega) (λ i hi L=>⟨hc.low _ (by omega) (by omega),m _ (by omega) (by omega),hm.slot j i hlt hi (v ▸ L)⟩)
    (λ x E=>⟨m x (by have:=Zdp hI hc E;omega) (by have:=Zdp hI hc E;omega),?_,by have:=Zdp hI hc E;omega⟩) λ ρ2 a1 w' c2 h1 h2 h3=>Zbl ?_
   .obtain⟨q,D,i,hi,rfl,L⟩:=E
    exact hm.slot q i (by omega) hi L
   .refine⟨n-(j+1),by omega,j+1,ρ2,w',32+32*(j:Int)+32,hlt,rfl,?_,Zhn hI hc (λ x=>?_) h1,by omega,by rw[F,V,q3,q4,q5] at h3;omega⟩
    .exact congrArg (λ z=>[b+((j+1:Nat):Int),b+n,z,w',32+32*(j:Int)+32]) (by omega)
    .constructor
     .rintro(⟨q,D,g⟩|g)
      .exact⟨q,by omega,g⟩
      .exact⟨j,by omega,v ▸ g⟩
     .rintro⟨q,D,g⟩
      by_cases c:q=j
      .subst c;exact .inr (v ▸ g)
      .exact .inl ⟨q,by omega,g⟩
  .exfalso
   refine D ?_
   show(if 32+32*(j:Int)=1056%4294967296 then(1:Int) else 0)=0
   rw[if_neg (by omega)]
end
end
