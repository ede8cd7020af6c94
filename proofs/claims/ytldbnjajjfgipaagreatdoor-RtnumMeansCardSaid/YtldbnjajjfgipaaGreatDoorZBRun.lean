/- Parts. -/
import Derived.Test.YtldbnjajjfgipaaGreatDoorZBSnd
set_option linter.all false
open Nat renaming le_refl->Yb,add_sub_cancel_left->Yat,add_assoc->Ybp
open List renaming length_append->Yd,length_cons->Yj,length_nil->Yab,append_nil->Ybe
open Bool renaming and_eq_true->Yu
namespace Go.Proofs.YtldbnjajjfgipaaGreatDoor
open S Go.RowKit
section
theorem Znp {I:S.Img}{V:S.Vw}{a b d:Int}{c:Nat}{base lk:Int}{env ts:List Int}{Q m:List Int->S.Vw->Nat->Prop}{H:Int->S.Vw->Nat->Prop}(h:OutE I V a b c base lk env ts Q H)
 (k:∀vs f j V',c<=j->Q vs f j->S.Fm I V' f base lk env (ts++vs)->OutE I V' b d j base lk env ts m H):OutE I V a d c base lk env ts m H:=by
 rcases h with⟨vs,e,c1,i,l,g,hg,hf,n⟩|⟨code,e,c1,i,l,g,hg,hm⟩
 .rcases k vs e c1 i l g hf with⟨us,st2,c2,V2,hc2,hq2,hg2,hf2,hk2⟩|⟨code,st2,c2,V2,hc2,hq2,hg2,hm2⟩
  .exact .inl ⟨us,st2,c2,V2,by omega,hq2,(hg.trans hg2).more (by omega),hf2,n.trans hk2⟩
  .exact .inr ⟨code,st2,c2,V2,by omega,hq2,(hg.halt hg2).more (by omega),hm2⟩
 .exact .inr ⟨code,e,c1,i,l,g,hg,hm⟩
theorem Zsq {I:S.Img}{V:S.Vw}{a b:Int}{c:Nat}{base lk:Int}{env ts:List Int}{v:Int}{Q:List Int->S.Vw->Nat->Prop}{H:Int->S.Vw->Nat->Prop}(h:OutE I V a b c base lk env (ts++[v]) Q H) :
 OutE I V a b c base lk env ts (λ g e k=>∃vs,g=v::vs/\Q vs e k) H:=by
 rcases h with⟨vs,d,c1,j,l,i,hg,hf,f⟩|h
 .exact .inl ⟨v::vs,d,c1,j,l,⟨vs,rfl,i⟩,hg,by rw[List.append_assoc] at hf;exact hf,f⟩
 .exact .inr h
theorem Zuq {I:S.Img}{V:S.Vw}{a b:Int}{c:Nat}{base lk:Int}{env ts:List Int}{Q g:List Int->S.Vw->Nat->Prop}{H:Int->S.Vw->Nat->Prop}(h:OutE I V a b c base lk env ts Q H)(k:∀vs d f,Q vs d f->g vs d f) :
 OutE I V a b c base lk env ts g H:=by
 rcases h with⟨vs,e,c1,l,m,j,hg,hf,i⟩|h
 .exact .inl ⟨vs,e,c1,l,m,k _ _ _ j,hg,hf,i⟩
 .exact .inr h
theorem Zlu:∀(r:List BE)(j:Nat),r≠[]->j+r.length<=needEs r j
 | [],_,h=>absurd rfl h
 | [e],j,_=>by simp only[needEs,Yj,Yab];omega
 | e::f::r,j,_=>by
  have h:=Zlu (f::r) (j+1) (by simp);rw[needEs];simp only[Yj] at h⊢;omega
section
variable {I:S.Img}{L dep lk base:Int}(cx:Cx I L dep lk base){obj:ByteArray}
include cx
mutual
theorem Z2j {env:List Int}(d:(env.length:Int)=L):∀(e:BE)(ts:List Int)(V st:S.Vw)(i c:Nat)(Q:Int->S.Vw->Nat->Prop)(H:Int->S.Vw->Nat->Prop),formedE L e=true->ts.length+max 1 (needE e)<=14->wpE I dep lk env e ts.length st c Q H ->
 Seg I obj i (bExpr (L+15) L e ts.length)->S.Fm I V st base lk env ts->OutE I V (I.adr i) (I.adr (i+(bExpr (L+15) L e ts.length).length)) c base lk env ts (λ h a j=>∃v,h=[v]/\Q v a j) H
 | .mk op n name kids,ts,V,st,i,c,Q,H,hf,hn,hw,hs,hV=>by
  rw[formedE] at hf;rw[needE] at hn;rw[wpE] at hw;rw[bExpr] at hs⊢;simp only[Yu] at hf;have h1:=Zfz d kids 0 ts.length ts V st i c _ H hf.2 (by omega) (by omega) hw hs.left hV;refine Znp h1 λ vs g c1 V1 hc b hF=>?_
  have hk:kids.length<=max 1 (needEs kids 0):=by
   by_cases f:kids=[]
   .subst f;simp
   .have:=Zlu kids 0 f;omega
  have h2:=Zy9 cx (obj:=obj) d hf.1 (by omega) b.1 b.2 hs.right hF;rw[Yd,<- Ybp];exact h2
theorem Zfz {env:List Int}(h:(env.length:Int)=L):∀(r:List BE)(j a0:Nat)(ts:List Int)(V st:S.Vw)(i c:Nat)(Q:List Int->S.Vw->Nat->Prop)(H:Int->S.Vw->Nat->Prop),formedEs L r=true->ts.length=a0+j->a0+needEs r j<=14->wpEs I dep lk env r ts.length st c Q H ->
 Seg I obj i (bExprs (L+15) L r ts.length)->S.Fm I V st base lk env ts->OutE I V (I.adr i) (I.adr (i+(bExprs (L+15) L r ts.length).length)) c base lk env ts (λ d a k=>d.length=r.length/\Q d a k) H
 | [],j,a0,ts,V,st,i,c,Q,H,hf,ht,hn,hw,hs,hV=>by
  rw[wpEs] at hw;exact .inl ⟨[],st,c,V,Yb _,⟨rfl,hw⟩,by rw[Nat.sub_self];exact Zdl _ _ _,by rw[Ybe];exact hV,λ _ _ _=>rfl⟩
 | e::r,j,a0,ts,V,st,i,c,Q,H,hf,ht,hn,hw,hs,hV=>by
  rw[formedEs] at hf;rw[needEs] at hn;rw[wpEs] at hw;rw[bExprs] at hs⊢;simp only[Yu] at hf;have h1:=Z2j h e ts V st i c _ H hf.1 (by omega) hw hs.left hV;refine Znp h1 λ vs b c1 n hc f hF=>?_
  obtain⟨v,rfl,f⟩:=f;have el:(ts++[v]).length=ts.length+1:=by simp
  have h2:=Zfz h r (j+1) a0 (ts++[v]) n b (i+(bExpr (L+15) L e ts.length).length) c1 (λ vs g c2=>Q (v::vs) g c2) H hf.2 (by simp;omega) (by omega) (by rw[el];exact f) (by rw[el];exact hs.right) hF;rw[Yd,<- Ybp];rw[el] at h2;refine Zuq (Zsq h2) λ d a k l=>?_
  obtain⟨vs,rfl,h3,m⟩:=l;exact⟨by simp[h3],m⟩
end
end
end
section
namespace S
def OutS (I:Img)(V:Vw)(a b:Int)(c:Nat)(L base lk:Int)(behind:Bool)(Q:List Int->Vw->Nat->Prop)(R:BO->Nat->Prop):Prop :=
 (∃env st' c' V',c<=c'/\Q env st' c'/\(env.length:Int)=L/\Go I V a (c'-c) V' b/\Fm I V' st' base lk env []/\Kp I base V V') \/
 (∃o c',c<=c'/\R o c'/\Done I V a (c'-c) base lk behind o)
end S
theorem Zbk {I:S.Img}{V d:S.Vw}{a b:Int}{n k m:Nat}{base lk:Int}{behind:Bool}{o:S.BO}(hg:S.Go I V a n d b)(e:S.Kp I base V d)(h:S.Done I d b k base lk behind o)(hm:n+k<=m):S.Done I V a m base lk behind o:=by
 cases o with
 | ret st=>obtain⟨c,g,h1,h2,h3⟩:=h;exact⟨c,(hg.trans g).more hm,h1,h2,e.trans h3⟩
 | halt code st=>obtain⟨c,g,h1⟩:=h;exact⟨c,(hg.halt g).more hm,h1⟩
 | left tq st=>obtain⟨c,g,h1,h2,h3⟩:=h;exact⟨c,(hg.trans g).more hm,h1,h2,e.trans h3⟩
theorem Zbz {I:S.Img}{V d:S.Vw}{a f b:Int}{c c1:Nat}{L base lk:Int}{behind:Bool}{Q:List Int->S.Vw->Nat->Prop}{R:S.BO->Nat->Prop}(hc:c<=c1)(hg:S.Go I V a (c1-c) d f)(e:S.Kp I base V d)
 (h:S.OutS I d f b c1 L base lk behind Q R):S.OutS I V a b c L base lk behind Q R:=by
 rcases h with⟨env,st,c2,k,h1,h2,h3,i,j,g⟩|⟨o,c2,h1,h2,h3⟩
 .exact .inl ⟨env,st,c2,k,by omega,h2,h3,(hg.trans i).more (by omega),j,e.trans g⟩
 .exact .inr ⟨o,c2,by omega,h2,Zbk hg e h3 (by omega)⟩
theorem Zf0 {I:S.Img}{V:S.Vw}{a b d:Int}{c:Nat}{L base lk:Int}{behind:Bool}{Q g:List Int->S.Vw->Nat->Prop}{R:S.BO->Nat->Prop}(h:S.OutS I V a b c L base lk behind Q R)
 (k:∀env e f V',c<=f->Q env e f->(env.length:Int)=L->S.Fm I V' e base lk env []->S.OutS I V' b d f L base lk behind g R):S.OutS I V a d c L base lk behind g R:=by
 rcases h with⟨env,st,c2,m,h1,h2,h3,j,l,i⟩|h
 .exact Zbz h1 j i (k env st c2 m h1 h2 h3 l)
 .exact .inr h
theorem Zpy {I:S.Img}{V:S.Vw}{a b d:Int}{c:Nat}{L base lk:Int}{behind:Bool}{env:List Int}{j:List Int->S.Vw->Nat->Prop}{l:List Int->S.Vw->Nat->Prop}{R:S.BO->Nat->Prop}(h:OutE I V a b c base lk env [] j (λ code st c=>R (.halt code st) c))
 (k:∀vs e g V',c<=g->j vs e g->S.Fm I V' e base lk env vs->S.OutS I V' b d g L base lk behind l R):S.OutS I V a d c L base lk behind l R:=by
 rcases h with⟨vs,st,c2,i,h1,h2,f,n,m⟩|⟨code,st,c2,i,h1,h2,h3,f⟩
 .exact Zbz h1 f m (k vs st c2 i h1 h2 n)
 .exact .inr ⟨.halt code st,c2,h1,h2,i,h3,f⟩
theorem S.Fm.drop {I:S.Img}{V st:S.Vw}{base lk:Int}{env vs:List Int}(h:S.Fm I V st base lk env vs):S.Fm I V st base lk env [] :=
 ⟨h.mt,h.sp,h.fr.lk,h.fr.env,λ k a=>by simp at a⟩
theorem S.Fm.val0 {I:S.Img}{V st:S.Vw}{base lk:Int}{env vs:List Int}(h:S.Fm I V st base lk env vs)(a:0<vs.length):V.reg 11=vs.getD 0 0:=by
 have:=h.fr.ts 0 a
 simpa using this
theorem S.Fm.val1 {I:S.Img}{V st:S.Vw}{base lk:Int}{env vs:List Int}(h:S.Fm I V st base lk env vs)(a:1<vs.length):V.reg 12=vs.getD 1 0:=h.fr.ts 1 a
theorem Zlv (l:List Int)(i k:Nat)(v:Int)(a:k<l.length):(l.set i v).getD k 0=if k=i then v else l.getD k 0:=by
 by_cases c:k=i
 .subst c;rw[if_pos rfl];simp[a]
 .rw[if_neg c]
  have:¬i=k:=λ e=>c e.symm
  simp[this]
section
variable {I:S.Img}{L dep lk base:Int}(cx:Cx I L dep lk base){obj:ByteArray}
include cx
theorem Zkt {i:Nat}{s:ByteArray}{r:List S.Item}(a:Seg I obj i (bL s::r)):I.lab (owned obj s)=I.adr i:=by
 have h:=Ziq cx.ok (x:=ownItem obj (bL s)) a.head rfl;unfold S.Img.lab;have e:stands I.xs (owned obj s)=i:=h;rw[e];rfl
theorem Zpz {V st:S.Vw}{env ts:List Int}{i:Nat}{behind:Bool}{r:List S.Item}(P:(env.length:Int)=L)(h:Seg I obj i (bBack (L+15) behind++r))(B:S.Fm I V st base lk env ts) :
 S.Done I V (I.adr i) (if behind=true then 5 else 3) base lk behind (.ret st):=by
 have y:V.reg 28=base+L+15:=by rw[<- P];exact B.sp
 have h0:=cx.ok.lo0;have h1:=cx.lo;have h2:=cx.ok.hisz;have h3:=cx.top;have h4:=cx.dep0;have h5:=cx.L0;have h6:=cx.ok.size2;unfold bBack at h;have g1:=Zee cx.ok h.lo (by have:=h.lt;exact this) (V:=V) (i:=i) (d:=28) (a:=28) (n:=-(L+15)) h.head (by decide) (by decide) (by decide);have Q:u32m (V.reg 28+-(L+15))=base:=by rw[y];unfold u32m;omega
 rw[Q] at g1;have e:=h.tail;have g2:=Z2g cx.ok e.lo e.lt (V:=V.set 28 base) (d:=31) (a:=28) (n:=0) (p:=base) e.head (by decide) (by decide) (by decide) (by rw[Zj];unfold u32m;omega) (by omega);have v:(V.set 28 base).mem base=lk:=B.fr.lk;rw[v] at g2;have b:=e.tail;have l:Mt I ((V.set 28 base).set 31 lk) st:=(B.mt.hid (by decide) _).hid (by decide) _;have f:((V.set 28 base).set 31 lk).reg 28=base:=by rw[Zh _ _ (by decide),Zj]
 cases behind with
 | false =>
  have q:=Zpr cx.ok b.lo b.lt (V:=(V.set 28 base).set 31 lk) (a:=31) (n:=0) b.head (by decide);have U:u32m (((V.set 28 base).set 31 lk).reg 31+0)=lk:=by rw[Zj];have:=cx.lk0;have:=cx.lk1;unfold u32m;omega
  rw[U] at q;exact⟨_,(g1.trans g2).trans q,l,f,λ _ _ _=>rfl⟩
 | true =>
  have c:=b.tail;have g:=c.tail;have q:S.Go I ((V.set 28 base).set 31 lk) (I.adr (i+1+1)) 2 (((V.set 28 base).set 31 lk).set 31 (u32m (lk+V.mem lk))) (I.adr (i+1+1+1+1)):=λ m hm=>by
   have C:I.xs[i+1+1]?=some ⟨1,⟨24,25,31,0,0⟩,⟨#[]⟩,0⟩:=b.head;have z:I.xs[i+1+1+1]?=some ⟨1,⟨1,31,31,25,0⟩,⟨#[]⟩,0⟩:=c.head;obtain⟨J,Z,T⟩:=Z8 cx.ok b.lo b.lt C;obtain⟨M,X,O⟩:=Z8 cx.ok c.lo c.lt z;have s:m.rd 31=lk:=by rw[hm.reg 31 (by decide) (by decide) (by decide),Zj]
   have w:=cx.lk0;have x:=cx.lk1;have t:m.mem.getD lk.toNat 0=V.mem lk:=hm.mem lk w x;have Y:u32m (lk+u32m 0)=lk:=by unfold u32m;omega
   have G:=hm.len;have F:m.act ⟨24,25,31,0,0⟩=(m.put 25 (V.mem lk),u32m (m.place+1),0):=by
    unfold Mach.act;simp only[s,Y];rw[if_neg (by decide),if_neg (by decide),if_neg (by decide),if_pos trivial,if_pos (by omega),t]
   obtain⟨W,R⟩:=Zz cx.ok hm b.lo b.lt (j:=0) (by rw[J];rfl) (by simp) Z (by rw[F]);obtain⟨A,u⟩:=Zly cx.ok hm W (show(0:Int)<=25 by decide) F;rw[R] at A;have o:m.step.rd 31=lk:=by rw[A.reg 31 (by decide) (by decide) (by decide),Zj]
   have E:m.step.act ⟨1,31,31,25,0⟩=(m.step.put 31 (u32m (lk+V.mem lk)),u32m (m.step.place+1),0):=by
    unfold Mach.act;simp only[o,u];rw[if_pos (by decide),if_neg (by simp)];rfl
   have k:On I m.step ((V.set 28 base).set 31 lk) (I.adr (i+1+1+1)):=by rw[T];simpa using A
   obtain⟨N,H⟩:=Zz cx.ok k c.lo c.lt (j:=0) (by rw[M];rfl) (by simp) X (by rw[E]);have k2:=Zir cx.ok k (by decide) (by decide) N (show(0:Int)<=31 by decide) E;rw[H] at k2;refine⟨2,Yb _,?_⟩;have v:m.steps_ 2=m.step.step:=rfl;rw[O,v]
   simpa using k2
  have D:=Zpr cx.ok g.lo g.lt (V:=((V.set 28 base).set 31 lk).set 31 (u32m (lk+V.mem lk))) (a:=31) (n:=1) g.head (by decide);rw[Zj] at D;have K:S.Go I V (I.adr i) 5 (((V.set 28 base).set 31 lk).set 31 (u32m (lk+V.mem lk))) (u32m (u32m (lk+V.mem lk)+1)):=((g1.trans g2).trans q).trans D;exact⟨_,K,l.hid (by decide) _,by rw[Zh _ _ (by decide)];exact f,λ _ _ _=>rfl⟩
theorem Zur {env:List Int}:∀(regs vs:List Int)(j i:Nat)(V st:S.Vw)(r:List S.Item),(∀n∈regs,visB n=true)->vs.length=regs.length->j+regs.length<=14->(∀k,k<vs.length->V.reg (11+j+k)=vs.getD k 0)->Seg I obj i (bRegs regs j++r) ->
 S.Fm I V st base lk env []->∃V',S.Go I V (I.adr i) regs.length V' (I.adr (i+regs.length))/\S.Fm I V' (st.regs regs vs) base lk env []/\V'.mem=V.mem
 | [],vs,j,i,V,st,r,_,hl,_,_,_,hV=>by
  cases vs with
  | nil=>exact⟨V,Zdl _ _ _,hV,rfl⟩
  | cons v vs=>simp at hl
 | n::regs,[],j,i,V,st,r,_,hl,_,_,_,hV=>by simp at hl
 | n::regs,v::vs,j,i,V,st,r,hv,hl,hj,hr,hs,hV=>by
  have d:=hv n (by simp);have hh:=Zkw d;simp only[Yj] at hl hj;have g:=Zf3 cx (V:=V) hs (by omega) (by omega) (by omega);have e:V.reg (11+(j:Int))=v:=by have:=hr 0 (by simp);simpa using this
  rw[e] at g;have hF:S.Fm I (V.set n v) (st.set n v) base lk env []:=by
   refine⟨⟨λ k a=>?_,hV.mt.mem,hV.mt.inp,hV.mt.out⟩,by rw[Zh _ _ (by omega)];exact hV.sp,hV.fr.lk,hV.fr.env,λ k a=>by simp at a⟩
   show(if k=n then v else V.reg k)=if k=n then v else st.reg k
   split
   .rfl
   .exact hV.mt.vis k a
  obtain⟨V',f,c,b⟩:=Zur regs vs (j+1) (i+1) (V.set n v) (st.set n v) r (λ m hm=>hv m (List.mem_cons_of_mem _ hm)) (by omega) (by omega) (λ k a=>by
   rw[Zh _ _ (by omega)];have:=hr (k+1) (by simp;omega);simp only[List.getD_cons_succ] at this;rw[<- this]
   congr 1
   omega) hs.tail hF
  refine⟨V',?_,c,b⟩;have el:i+(n::regs).length=i+1+regs.length:=by simp;omega
  rw[el];exact(g.trans f).more (by simp;omega)
end
theorem Zku:∀{l:List Int},risingB l=true->∀n∈l,visB n=true
 | [],_,n,c=>by cases c
 | [a],h,n,c=>by rw[List.mem_singleton] at c;subst c;exact h
 | a::b::r,h,n,c=>by
  rw[risingB] at h;simp only[Yu] at h;rcases List.mem_cons.1 c with rfl|c
  .exact h.1.1
  .exact Zku h.2 n c
end
section
section
variable {I:S.Img}{L dep lk base:Int}(cx:Cx I L dep lk base){obj:ByteArray}{behind:Bool}
include cx
theorem Zb9 {V V' e:S.Vw}{d:List Int}{a b:Int}{c k:Nat}{Q:List Int->S.Vw->Nat->Prop}{R:S.BO->Nat->Prop}(hg:S.Go I V a k V' b)(f:Q d e (c+k))(g:(d.length:Int)=L)(hF:S.Fm I V' e base lk d [])(h:S.Kp I base V V') :
 S.OutS I V a b c L base lk behind Q R:=.inl ⟨d,e,c+k,V',by omega,f,g,by rw[Yat];exact hg,hF,h⟩
theorem Zh4 {V:S.Vw}{a b:Int}{c k:Nat}{o:S.BO}{Q:List Int->S.Vw->Nat->Prop}{R:S.BO->Nat->Prop}(d:S.Done I V a k base lk behind o)(e:R o (c+k)):S.OutS I V a b c L base lk behind Q R :=
 .inr ⟨o,c+k,by omega,e,by rw[Yat];exact d⟩
mutual
theorem Z2k:∀(s:BS)(u:Nat)(l:Int)(env:List Int)(V st:S.Vw)(i c:Nat)(Q:List Int->S.Vw->Nat->Prop) (R:S.BO->Nat->Prop),(env.length:Int)=L->chkS L s u=0->wpS I dep lk behind s env st c Q R ->
 Seg I obj i (bStmt (L+15) L behind s l).1->S.Fm I V st base lk env []->S.OutS I V (I.adr i) (I.adr (i+(bStmt (L+15) L behind s l).1.length)) c L base lk behind Q R
 | .mk op n name exprs regs body els,u,l,env,V,st,i,c,Q,R,G,hc,hw,hs,hV=>by
  have f0:=cx.L0;rw[chkS] at hc;by_cases hf:(!(shapedS L op n name exprs.length regs body.length els.length && formedEs L exprs))=true
  .rw[if_pos hf] at hc;exact absurd hc (by decide)
  rw[if_neg hf] at hc;by_cases hd:200<=u\/14<needEs exprs 0
  .rw[if_pos hd] at hc;exact absurd hc (by decide)
  rw[if_neg hd] at hc;have hb:chkSs L body (u+1)=0/\chkSs L els (u+1)=0:=by
   by_cases h:chkSs L body (u+1)≠0
   .rw[if_pos h] at hc;exact absurd hc h
   .rw[if_neg h] at hc;exact⟨by simpa using h,hc⟩
  obtain⟨a5,b3⟩:shapedS L op n name exprs.length regs body.length els.length=true/\formedEs L exprs=true:=by
   simpa using hf
  have e9:needEs exprs 0<=14:=by omega
  unfold shapedS at a5;simp only[Yu,decide_eq_true_eq] at a5;obtain⟨⟨⟨⟨⟨⟨⟨⟨f5,d6⟩,c7⟩,f4⟩,f2⟩,A⟩,z⟩,e7⟩,b4⟩:=a5;unfold numS at A;unfold exprsS at z;rw[wpS] at hw;rw[bStmt] at hs⊢;by_cases c4:op=4
  .rw[if_pos c4] at hw hs⊢
   have M:exprs.length=1:=by rw[if_neg (by omega),if_neg (by omega),if_neg (by omega)] at z;exact z
   obtain⟨e,rfl⟩:∃e,exprs=[e]:=by
    match exprs,M with
    | [e],_=>exact⟨e,rfl⟩
   simp only[bTest] at hs⊢;obtain⟨J,⟨k0,e3⟩,a6⟩:=hw;have b9:bExprs (L+15) L [e] 0=bExpr (L+15) L e 0:=by rw[bExprs,bExprs,Ybe]
   obtain⟨n1,v⟩:=Yx (bExpr (L+15) L e 0).length;obtain⟨n2,E⟩:=Yx (bStmts (L+15) L behind body (l+2)).1.length;have D:Seg I obj i [bL (bLab (l+1))]:=hs.left.left.left.left;have a9:Seg I obj (i+1) (bExprs (L+15) L [e] 0):=by rw[b9];exact hs.left.left.left.right
   have K:Seg I obj (i+1+n1) [bU 11 (bLab (l+2))]:=by
    have h:=hs.left.left.right;rw[Yd,<- v] at h;have W:i+(([bL (bLab (l+1))]:List S.Item).length+n1)=i+1+n1:=by simp;omega
    rw[W] at h;exact h
   have b2:Seg I obj (i+1+n1+1) (bStmts (L+15) L behind body (l+2)).1:=by
    have h:=hs.left.right;rw[Yd,Yd,<- v] at h;have W:i+(([bL (bLab (l+1))]:List S.Item).length+n1+([bU 11 (bLab (l+2))]:List S.Item).length)=i+1+n1+1:=by simp;omega
    rw[W] at h;exact h
   have y:Seg I obj (i+1+n1+1+n2) [bJ 0 (bLab (l+1)),bL (bLab (l+2))]:=by
    have h:=hs.right;rw[Yd,Yd,Yd,<- v,<- E] at h;have W:i+(([bL (bLab (l+1))]:List S.Item).length+n1+([bU 11 (bLab (l+2))]:List S.Item).length+n2)=i+1+n1+1+n2:=by simp;omega
    rw[W] at h;exact h
   have T:i+([bL (bLab (l+1))]++bExpr (L+15) L e 0++[bU 11 (bLab (l+2))]++(bStmts (L+15) L behind body (l+2)).1++[bJ 0 (bLab (l+1)),bL (bLab (l+2))]).length=i+1+n1+1+n2+1+1:=by
    simp only[Yd,Yj,Yab,<- v,<- E];omega
   rw[T];have d0:=Zkt cx D;have X:=Zkt cx y.tail;have d7:∀(k:Nat)(env:List Int)(V st:S.Vw)(c:Nat),(env.length:Int)=L->J env st c k->S.Fm I V st base lk env []->S.OutS I V (I.adr i) (I.adr (i+1+n1+1+n2+1+1)) c L base lk behind Q R:=by
    intro k
    induction k using Nat.strongRecOn with
    | ind k ih =>
     intro env V st c G hJ hV;have c0:=a6 env st c k hJ;have h1:=Zfz cx (obj:=obj) G [e] 0 0 [] V st (i+1) c _ _ b3 rfl (by omega) c0 a9 hV;have g0:=Zet cx.ok D.lo D.lt (V:=V) D.head;refine Zbz (c1:=c) (Yb _) (by rw[Nat.sub_self];exact g0) (S.Kp.refl _ _ _) ?_;refine Zpy h1 λ vs C c1 x c8 t f=>?_
     obtain⟨B,t⟩:=t;have w:=f.val0 (by rw[B];exact Nat.one_pos);have en:i+1+(bExprs (L+15) L [e] ([]:List Int).length).length=i+1+n1:=by rw[show([]:List Int).length=0 from rfl,b9,v]
     rw[en];have O:=Zns cx.ok K.lo K.lt (V:=x) K.head (a:=11) (by decide);rw[w] at O;by_cases cv:vs.getD 0 0=0
     .rw[if_pos cv] at t O
      have gl:=Zet cx.ok y.tail.lo y.tail.lt (V:=x) y.tail.head;have b0:S.Go I x (I.adr (i+1+n1)) 4 x (I.adr (i+1+n1+1+n2+1)):=by rw[<- X];exact O
      exact Zb9 cx (b0.trans gl) t G f.drop (S.Kp.refl _ _ _)
     .rw[if_neg cv] at t O
      have h2:=Zev body (u+1) (l+2) env x C (i+1+n1+1) (c1+4) _ R G hb.1 t b2 f.drop;refine Zbz (c1:=c1+4) (by omega) (by rw[Yat];exact O) (S.Kp.refl _ _ _) ?_;refine Zf0 h2 λ Zkd a8 c2 F c6 U P N=>?_
      obtain⟨k2,e0,d9⟩:=U;rw[<- E];have gj:S.Go I F (I.adr (i+1+n1+1+n2)) 3 F (I.adr i):=by rw[<- d0];exact Zlz cx.ok y.lo y.lt (V:=F) y.head
      refine Zbz (c1:=c2+3) (by omega) (by rw[Yat];exact gj) (S.Kp.refl _ _ _) ?_;exact ih k2 e0 Zkd F a8 (c2+3) P d9 N
   exact d7 k0 env V st c G e3 hV
  rw[if_neg c4] at hw hs⊢;by_cases c3:op=3
  .rw[if_pos c3] at hs⊢
   have M:exprs.length=1:=by rw[if_neg (by omega),if_neg (by omega),if_neg (by omega)] at z;exact z
   obtain⟨n1,v⟩:=Yx (bExprs (L+15) L exprs 0).length;obtain⟨n2,E⟩:=Yx (bStmts (L+15) L behind body (l+2)).1.length;obtain⟨l2,d5⟩:=Yx (bStmts (L+15) L behind body (l+2)).2;rw[<- d5] at hs⊢;obtain⟨n3,a7⟩:=Yx (bStmts (L+15) L behind els l2).1.length;simp only at hs⊢;have a9:Seg I obj i (bExprs (L+15) L exprs 0):=hs.left.left.left.left.left;have K:Seg I obj (i+n1) [bU 11 (bLab (l+1))]:=by
    have h:=hs.left.left.left.left.right;rw[<- v] at h;exact h
   have b2:Seg I obj (i+n1+1) (bStmts (L+15) L behind body (l+2)).1:=by
    have h:=hs.left.left.left.right;rw[Yd,<- v] at h;exact h
   have y:Seg I obj (i+n1+1+n2) [bJ 0 (bLab (l+2)),bL (bLab (l+1))]:=by
    have h:=hs.left.left.right;rw[Yd,Yd,<- v,<- E] at h;have W:i+(n1+([bU 11 (bLab (l+1))]:List S.Item).length+n2)=i+n1+1+n2:=by simp;omega
    rw[W] at h;exact h
   have e2:Seg I obj (i+n1+1+n2+2) (bStmts (L+15) L behind els l2).1:=by
    have h:=hs.left.right;rw[Yd,Yd,Yd,<- v,<- E] at h;have W:i+(n1+([bU 11 (bLab (l+1))]:List S.Item).length+n2+([bJ 0 (bLab (l+2)),bL (bLab (l+1))]:List S.Item).length)=i+n1+1+n2+2:=by simp;omega
    rw[W] at h;exact h
   have Y:Seg I obj (i+n1+1+n2+2+n3) [bL (bLab (l+2))]:=by
    have h:=hs.right;rw[Yd,Yd,Yd,Yd,<- v,<- E,<- a7] at h;have W:i+(n1+([bU 11 (bLab (l+1))]:List S.Item).length+n2+([bJ 0 (bLab (l+2)),bL (bLab (l+1))]:List S.Item).length+n3)=i+n1+1+n2+2+n3:=by simp;omega
    rw[W] at h;exact h
   have T:i+(bExprs (L+15) L exprs 0++[bU 11 (bLab (l+1))]++(bStmts (L+15) L behind body (l+2)).1++[bJ 0 (bLab (l+2)),bL (bLab (l+1))]++(bStmts (L+15) L behind els l2).1++[bL (bLab (l+2))]).length=i+n1+1+n2+2+n3+1:=by
    simp only[Yd,Yj,Yab,<- v,<- E,<- a7];omega
   rw[T];have a2:=Zkt cx y.tail;have X:=Zkt cx Y;have h1:=Zfz cx (obj:=obj) G exprs 0 0 [] V st i c _ _ b3 rfl (by omega) hw a9 hV;refine Zpy h1 λ vs C c1 x c8 t f=>?_
   obtain⟨B,t⟩:=t;have w:=f.val0 (by rw[B];omega);rw[if_neg (by omega),if_neg (by omega),if_pos c3] at t;have O:=Zns cx.ok K.lo K.lt (V:=x) K.head (a:=11) (by decide);rw[w] at O;have gx:∀F,S.Go I F (I.adr (i+n1+1+n2+2+n3)) 0 F (I.adr (i+n1+1+n2+2+n3+1)):=λ F=>Zet cx.ok Y.lo Y.lt (V:=F) Y.head
   have en:i+(bExprs (L+15) L exprs ([]:List Int).length).length=i+n1:=by rw[show([]:List Int).length=0 from rfl,v]
   rw[en];by_cases cv:vs.getD 0 0=0
   .rw[if_pos cv] at t O
    have gl:=Zet cx.ok y.tail.lo y.tail.lt (V:=x) y.tail.head;have b0:S.Go I x (I.adr (i+n1)) 4 x (I.adr (i+n1+1+n2+1)):=by rw[<- a2];exact O
    have h2:=Zev els (u+1) l2 env x C (i+n1+1+n2+2) (c1+4) Q R G hb.2 t e2 f.drop;refine Zbz (c1:=c1+4) (by omega) (by rw[Yat];exact(b0.trans gl)) (S.Kp.refl _ _ _) ?_;refine Zf0 h2 λ Zkd a8 c2 F c6 U P N=>?_
    rw[<- a7];exact Zb9 cx (gx F) U P N (S.Kp.refl _ _ _)
   .rw[if_neg cv] at t O
    have h2:=Zev body (u+1) (l+2) env x C (i+n1+1) (c1+4) _ R G hb.1 t b2 f.drop;refine Zbz (c1:=c1+4) (by omega) (by rw[Yat];exact O) (S.Kp.refl _ _ _) ?_;refine Zf0 h2 λ Zkd a8 c2 F c6 U P N=>?_
    rw[<- E];have gj:S.Go I F (I.adr (i+n1+1+n2)) 3 F (I.adr (i+n1+1+n2+2+n3)):=by rw[<- X];exact Zlz cx.ok y.lo y.lt (V:=F) y.head
    exact Zb9 cx (gj.trans (gx F)) U P N (S.Kp.refl _ _ _)
  rw[if_neg c3] at hs⊢;obtain⟨n1,v⟩:=Yx (bExprs (L+15) L exprs 0).length;simp only at hs⊢;have h1:=Zfz cx (obj:=obj) G exprs 0 0 [] V st i c _ _ b3 rfl (by omega) hw hs.left hV;refine Zpy h1 λ vs C c1 x c8 t f=>?_
  obtain⟨B,t⟩:=t;have en:i+(bExprs (L+15) L exprs ([]:List Int).length).length=i+n1:=by rw[show([]:List Int).length=0 from rfl,v]
  rw[en,Yd,<- v,<- Ybp];have q:=hs.right;rw[<- v] at q;clear hs h1 hw hV;have b5:x.reg 28=base+L+15:=by rw[<- G];exact f.sp
  by_cases k1:op=1
  .rw[if_pos k1] at q t A⊢
   have M:exprs.length=1:=by rw[if_neg (by omega),if_neg (by omega),if_neg (by omega)] at z;exact z
   have e8:=of_decide_eq_true A;have w:=f.val0 (by rw[B];omega);have g:=Znu cx (V:=x) q b5 (p:=1+n) (by omega) (by omega) (by decide);rw[w] at g;have d3:=cx.lo;have d1:=cx.top;have b7:=cx.dep0;refine Zb9 cx g t (by simpa using G) ⟨f.mt.stack ⟨by omega,by omega⟩ _,by rw[List.length_set];exact f.sp,by rw[Zaa _ _ (by omega)];exact f.fr.lk,λ k H=>?_,λ k H=>by simp at H⟩ (λ a a0 a1=>Zaa _ _ (by omega));have b6:k<env.length:=by simpa using H
   rw[Zlv _ _ _ _ b6];by_cases ck:k=n.toNat
   .rw[if_pos ck]
    have e:base+1+(k:Int)=base+(1+n):=by omega
    rw[e,Zeh]
   .rw[if_neg ck,Zaa _ _ (by omega)];exact f.fr.env k b6
  rw[if_neg k1] at q t A⊢;by_cases k2:op=2
  .rw[if_pos k2] at q t A⊢
   have M:exprs.length=2:=by rw[if_pos k2] at z;exact z
   have w:=f.val0 (by rw[B];omega);have d4:=f.val1 (by rw[B];omega);obtain⟨q1,q2,q3,q4⟩:=t;have g:=Zun cx.ok q.lo q.lt (V:=x) q.head (p:=u32m (vs.getD 0 0+n)) (by decide) (by decide) (by rw[w]) q1 q3;rw[d4] at g;have a4:∀b,I.stk b->b≠u32m (vs.getD 0 0+n):=λ b hb e=>q2 (by rw[<- e];exact hb)
   have d3:=cx.lo;have d1:=cx.top;have b7:=cx.dep0;refine Zb9 cx g q4 G ⟨⟨f.mt.vis,λ a a0 a1 ha=>?_,f.mt.inp,f.mt.out⟩,f.sp,?_,λ k H=>?_,λ k H=>by simp at H⟩ (λ a a0 a1=>Zaa _ _ (a4 a ⟨a0,by omega⟩))
   .show(if a=_ then _ else x.mem a)=if a=_ then _ else C.mem a
    split
    .rfl
    .exact f.mt.mem a a0 a1 ha
   .rw[Zaa _ _ (a4 _ ⟨by omega,by omega⟩)];exact f.fr.lk
   .rw[Zaa _ _ (a4 _ ⟨by omega,by omega⟩)];exact f.fr.env k H
  rw[if_neg k2] at q t A⊢;rw[if_neg c3] at t;by_cases k5:op=5
  .rw[if_pos k5] at q t⊢
   have M:exprs.length=regs.length:=by rw[if_neg k2,if_pos k5] at z;exact z
   have c9:vs.length=regs.length:=by rw[B];exact M
   have e6:regs.length<=14:=by
    by_cases he:exprs=[]
    .subst he;simp at M;omega
    .have:=Zlu exprs 0 he;omega
   obtain⟨F,g2,N,e4⟩:=Zur cx (obj:=obj) regs vs 0 (i+n1) x C (bBack (L+15) behind) (Zku c7) c9 (by omega) (λ k H=>by have:=f.fr.ts k (by simpa using H);simpa using this) q f.drop;have b8:=q.right;have d8:∀(regs:List Int) j,(bRegs regs j).length=regs.length:=by
    intro regs
    induction regs with
    | nil=>intro j;rfl
    | cons a r ih=>intro j;rw[bRegs,Yj,ih];rfl
   rw[d8] at b8;have hd:=Zpz cx (obj:=obj) (r:=[]) G (by rw[Ybe];exact b8) N;refine Zh4 cx (k:=regs.length+(if behind=true then 5 else 3)) (Zbk g2 (λ a _ _=>by rw[e4]) hd (Yb _)) ?_;rw[<- Ybp];exact t
  rw[if_neg k5] at q t⊢;by_cases k6:op=6
  .rw[if_neg (by omega),if_neg (by omega),if_neg (by omega),if_neg (by omega),if_neg (by omega)]
   rw[if_pos k6] at t;exact Zb9 cx (k:=0) (Zdl _ _ _) t G f.drop (S.Kp.refl _ _ _)
  rw[if_neg k6] at t;have Z:op≠10->exprs.length=1:=λ h=>by rw[if_neg k2,if_neg k5,if_neg h] at z;exact z
  by_cases k7:op=7
  .rw[if_pos k7] at q t⊢
   have w:=f.val0 (by rw[B,Z (by omega)];decide);have g:=Z4v cx.ok q.lo q.lt (V:=x) q.head (by decide);rw[w] at g;exact Zb9 cx g t G ⟨⟨f.mt.vis,f.mt.mem,f.mt.inp,by show x.out++_=C.out++_;rw[f.mt.out]⟩,f.sp,f.fr.lk,f.fr.env,λ k H=>by simp at H⟩ (S.Kp.refl _ _ _)
  rw[if_neg k7] at q t⊢;by_cases k8:op=8
  .rw[if_pos k8] at q t⊢
   have w:=f.val0 (by rw[B,Z (by omega)];decide);have g:=Z2h cx.ok q.lo q.lt (V:=x) q.head (by decide);rw[w] at g;exact Zh4 cx (k:=1) (o:=.halt (vs.getD 0 0) C) ⟨x,g,f.mt⟩ t
  rw[if_neg k8] at q t⊢;by_cases k9:op=9
  .rw[if_pos k9] at q t A⊢
   have w:=f.val0 (by rw[B,Z (by omega)];decide);have hh:=Zkw A;have g:=Zf3 cx (V:=x) q (by omega) (by omega) (by decide);rw[w] at g;refine Zb9 cx g t G ⟨⟨λ k H=>?_,f.mt.mem,f.mt.inp,f.mt.out⟩,by rw[Zh _ _ (by omega)];exact f.sp,f.fr.lk,f.fr.env,λ k H=>by simp at H⟩ (S.Kp.refl _ _ _)
   show(if k=n then _ else x.reg k)=if k=n then _ else C.reg k
   split
   .rfl
   .exact f.mt.vis k H
  rw[if_neg k9] at q t⊢;have d3:=cx.lo;have d1:=cx.top;have b7:=cx.dep0;have e5:=cx.ok.size2;have f3:=cx.ok.hisz;have f1:=cx.ok.lo0;have a3:u32m (x.reg 28+-(L+15))=base:=by rw[b5];unfold u32m;omega
  by_cases b1:op=10
  .rw[if_pos b1] at q t⊢
   have d2:labB name=true:=by
    have:namedS op=true:=by unfold namedS;rw[decide_eq_true_eq];exact b1
    rw[this] at b4
    simpa using b4
   have g1:=Zee cx.ok q.lo q.lt (V:=x) (d:=28) (a:=28) (n:=-(L+15)) q.head (by decide) (by decide) (by decide);rw[a3] at g1;have hh:I.xs[i+n1+1]?=some ⟨4,⟨0,0,0,0,0⟩,name,0⟩:=by
    rw[q.tail.head]
    show some (⟨4,⟨0,0,0,0,0⟩,owned obj name,0⟩:S.Item)=_
    rw[Zey obj d2]
   have g2:=Zlz cx.ok q.tail.lo q.tail.lt (V:=x.set 28 base) hh;exact Zh4 cx (k:=4) (o:=.left (I.lab name) C) ⟨_,g1.trans g2,f.mt.hid (by decide) _,Zj _ _ _,λ _ _ _=>rfl⟩ t
  rw[if_neg b1] at q t⊢;by_cases c5:op=11
  .rw[if_pos c5] at q t⊢
   have w:=f.val0 (by rw[B,Z (by omega)];decide);have g1:=Zee cx.ok q.lo q.lt (V:=x) (d:=28) (a:=28) (n:=-(L+15)) q.head (by decide) (by decide) (by decide);rw[a3] at g1;have g2:S.Go I (x.set 28 base) (I.adr (i+n1+1)) 1 (x.set 28 base) (vs.getD 0 0):=Zyy λ m hm=>by
    have g:=Zpr cx.ok q.tail.lo q.tail.lt (V:=x.set 28 base) (a:=11) (n:=0) q.tail.head (by decide);have hb:=hm.rbd (j:=11) (by decide) (by decide) (by decide);rw[Zh _ _ (by decide),w] at hb;have e:u32m ((x.set 28 base).reg 11+0)=vs.getD 0 0:=by rw[Zh _ _ (by decide),w];unfold u32m;omega
    rw[e] at g;exact g
   exact Zh4 cx (k:=2) (o:=.left (vs.getD 0 0) C) ⟨_,g1.trans g2,f.mt.hid (by decide) _,Zj _ _ _,λ _ _ _=>rfl⟩ t
  rw[if_neg c5] at t;exact absurd t id
theorem Zev:∀(r:List BS)(a:Nat)(l:Int)(env:List Int)(V st:S.Vw)(i c:Nat)(Q:List Int->S.Vw->Nat->Prop) (R:S.BO->Nat->Prop),(env.length:Int)=L->chkSs L r a=0->wpSs I dep lk behind r env st c Q R ->
 Seg I obj i (bStmts (L+15) L behind r l).1->S.Fm I V st base lk env []->S.OutS I V (I.adr i) (I.adr (i+(bStmts (L+15) L behind r l).1.length)) c L base lk behind Q R
 | [],a,l,env,V,st,i,c,Q,R,hL,hc,hw,hs,hV=>by
  rw[wpSs] at hw;rw[bStmts];exact Zb9 cx (k:=0) (b:=I.adr i) (Zdl _ _ _) hw hL hV (S.Kp.refl _ _ _)
 | s::r,a,l,env,V,st,i,c,Q,R,hL,hc,hw,hs,hV=>by
  rw[chkSs] at hc;have j:chkS L s a=0/\chkSs L r a=0:=by
   by_cases h:chkS L s a≠0
   .rw[if_pos h] at hc;exact absurd hc h
   .rw[if_neg h] at hc;exact⟨by simpa using h,hc⟩
  rw[wpSs] at hw;rw[bStmts] at hs⊢;simp only at hs⊢;have h1:=Z2k s a l env V st i c _ R hL j.1 hw hs.left hV;refine Zf0 h1 λ Z1a d c1 m n e g f=>?_
  have h2:=Zev r a (bStmt (L+15) L behind s l).2 Z1a m d (i+(bStmt (L+15) L behind s l).1.length) c1 Q R g j.2 e hs.right f;rw[Yd,<- Ybp];exact h2
end
end
end
