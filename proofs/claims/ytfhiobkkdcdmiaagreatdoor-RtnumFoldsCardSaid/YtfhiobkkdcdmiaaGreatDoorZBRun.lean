/- Parts. -/
import Derived.Test.YtfhiobkkdcdmiaaGreatDoorZBSnd
set_option linter.all false
open Nat renaming le_refl->Yb,add_sub_cancel_left->Yaq,add_assoc->Ybo
open List renaming length_append->Yd,length_cons->Yi,length_nil->Yad,append_nil->Yba
open Bool renaming and_eq_true->Yt
namespace Go.Proofs.YtfhiobkkdcdmiaaGreatDoor
open Go.RowKit
section
theorem Zmt {I:S.Img}{V:S.Vw}{a b d:Int}{c:Nat}{base lk:Int}{env ts:List Int}{Q Q2:List Int->S.Vw->Nat->Prop}{H:Int->S.Vw->Nat->Prop}(h:S.OutE I V a b c base lk env ts Q H)
 (k:∀vs st' c' V',c<=c'->Q vs st' c'->S.Fm I V' st' base lk env (ts++vs)->S.OutE I V' b d c' base lk env ts Q2 H):S.OutE I V a d c base lk env ts Q2 H:=by
 rcases h with⟨vs,st1,c1,V1,hc,hq,hg,hf,hk⟩|⟨code,st1,c1,V1,hc,hq,hg,hm⟩
 .rcases k vs st1 c1 V1 hc hq hf with⟨us,st2,c2,V2,hc2,hq2,hg2,hf2,hk2⟩|⟨code,st2,c2,V2,hc2,hq2,hg2,hm2⟩
  .exact .inl ⟨us,st2,c2,V2,by omega,hq2,(hg.trans hg2).more (by omega),hf2,hk.trans hk2⟩
  .exact .inr ⟨code,st2,c2,V2,by omega,hq2,(hg.halt hg2).more (by omega),hm2⟩
 .exact .inr ⟨code,st1,c1,V1,hc,hq,hg,hm⟩
theorem Zr2 {I:S.Img}{V:S.Vw}{a b:Int}{c:Nat}{base lk:Int}{env ts:List Int}{v:Int}{Q:List Int->S.Vw->Nat->Prop}{H:Int->S.Vw->Nat->Prop}(h:S.OutE I V a b c base lk env (ts++[v]) Q H) :
 S.OutE I V a b c base lk env ts (λ us st' c'=>∃vs,us=v::vs/\Q vs st' c') H:=by
 rcases h with⟨vs,st1,c1,V1,hc,hq,hg,hf,hk⟩|h
 .exact .inl ⟨v::vs,st1,c1,V1,hc,⟨vs,rfl,hq⟩,hg,by rw[List.append_assoc] at hf;exact hf,hk⟩
 .exact .inr h
theorem Ztv {I:S.Img}{V:S.Vw}{a b:Int}{c:Nat}{base lk:Int}{env ts:List Int}{Q Q2:List Int->S.Vw->Nat->Prop}{H:Int->S.Vw->Nat->Prop}(h:S.OutE I V a b c base lk env ts Q H)(k:∀vs st' c',Q vs st' c'->Q2 vs st' c') :
 S.OutE I V a b c base lk env ts Q2 H:=by
 rcases h with⟨vs,st1,c1,V1,hc,hq,hg,hf,hk⟩|h
 .exact .inl ⟨vs,st1,c1,V1,hc,k _ _ _ hq,hg,hf,hk⟩
 .exact .inr h
theorem Zk8:∀(r:List S.BE)(j:Nat),r≠[]->j+r.length<=S.needEs r j
 | [],_,h=>absurd rfl h
 | [e],j,_=>by simp only[S.needEs,Yi,Yad];omega
 | e::f::r,j,_=>by
  have h:=Zk8 (f::r) (j+1) (by simp);rw[S.needEs];simp only[Yi] at h⊢;omega
section
variable {I:S.Img}{L dep lk base:Int}(cx:S.Cx I L dep lk base){obj:ByteArray}
include cx
mutual
theorem Z04 {env:List Int}(hL:(env.length:Int)=L):∀(e:S.BE)(ts:List Int)(V st:S.Vw)(i c:Nat)(Q:Int->S.Vw->Nat->Prop)(H:Int->S.Vw->Nat->Prop),S.formedE L e=true->ts.length+max 1 (S.needE e)<=14->S.wpE I dep lk env e ts.length st c Q H ->
 S.Seg I obj i (S.bExpr (L+15) L e ts.length)->S.Fm I V st base lk env ts->S.OutE I V (I.adr i) (I.adr (i+(S.bExpr (L+15) L e ts.length).length)) c base lk env ts (λ us st' c'=>∃v,us=[v]/\Q v st' c') H
 | .mk op n name kids,ts,V,st,i,c,Q,H,hf,hn,hw,hs,hV=>by
  rw[S.formedE] at hf;rw[S.needE] at hn;rw[S.wpE] at hw;rw[S.bExpr] at hs⊢;simp only[Yt] at hf;have h1:=Zfs hL kids 0 ts.length ts V st i c _ H hf.2 (by omega) (by omega) hw hs.left hV;refine Zmt h1 λ vs st1 c1 V1 hc hq hF=>?_
  have hk:kids.length<=max 1 (S.needEs kids 0):=by
   by_cases he:kids=[]
   .subst he;simp
   .have:=Zk8 kids 0 he;omega
  have h2:=Zxz cx (obj:=obj) hL hf.1 (by omega) hq.1 hq.2 hs.right hF;rw[Yd,<- Ybo];exact h2
theorem Zfs {env:List Int}(hL:(env.length:Int)=L):∀(r:List S.BE)(j a0:Nat)(ts:List Int)(V st:S.Vw)(i c:Nat)(Q:List Int->S.Vw->Nat->Prop)(H:Int->S.Vw->Nat->Prop),S.formedEs L r=true->ts.length=a0+j->a0+S.needEs r j<=14->S.wpEs I dep lk env r ts.length st c Q H ->
 S.Seg I obj i (S.bExprs (L+15) L r ts.length)->S.Fm I V st base lk env ts->S.OutE I V (I.adr i) (I.adr (i+(S.bExprs (L+15) L r ts.length).length)) c base lk env ts (λ us st' c'=>us.length=r.length/\Q us st' c') H
 | [],j,a0,ts,V,st,i,c,Q,H,hf,ht,hn,hw,hs,hV=>by
  rw[S.wpEs] at hw;exact .inl ⟨[],st,c,V,Yb _,⟨rfl,hw⟩,by rw[Nat.sub_self];exact Zdi _ _ _,by rw[Yba];exact hV,λ _ _ _=>rfl⟩
 | e::r,j,a0,ts,V,st,i,c,Q,H,hf,ht,hn,hw,hs,hV=>by
  rw[S.formedEs] at hf;rw[S.needEs] at hn;rw[S.wpEs] at hw;rw[S.bExprs] at hs⊢;simp only[Yt] at hf;have h1:=Z04 hL e ts V st i c _ H hf.1 (by omega) hw hs.left hV;refine Zmt h1 λ vs st1 c1 V1 hc hq hF=>?_
  obtain⟨v,rfl,hq⟩:=hq;have el:(ts++[v]).length=ts.length+1:=by simp
  have h2:=Zfs hL r (j+1) a0 (ts++[v]) V1 st1 (i+(S.bExpr (L+15) L e ts.length).length) c1 (λ vs st2 c2=>Q (v::vs) st2 c2) H hf.2 (by simp;omega) (by omega) (by rw[el];exact hq) (by rw[el];exact hs.right) hF;rw[Yd,<- Ybo];rw[el] at h2;refine Ztv (Zr2 h2) λ us st' c' hu=>?_
  obtain⟨vs,rfl,h3,h4⟩:=hu;exact⟨by simp[h3],h4⟩
end
end
end
section
namespace S
def OutS (I:Img)(V:Vw)(a b:Int)(c:Nat)(L base lk:Int)(behind:Bool)(Q:List Int->Vw->Nat->Prop)(R:BO->Nat->Prop):Prop :=
 (∃env st' c' V',c<=c'/\Q env st' c'/\(env.length:Int)=L/\Go I V a (c'-c) V' b/\Fm I V' st' base lk env []/\Kp I base V V') \/
 (∃o c',c<=c'/\R o c'/\Done I V a (c'-c) base lk behind o)
end S
theorem Zbl {I:S.Img}{V V1:S.Vw}{a b:Int}{n k m:Nat}{base lk:Int}{behind:Bool}{o:S.BO}(hg:S.Go I V a n V1 b)(hk:S.Kp I base V V1)(h:S.Done I V1 b k base lk behind o)(hm:n+k<=m):S.Done I V a m base lk behind o:=by
 cases o with
 | ret st=>obtain⟨V2,g,h1,h2,h3⟩:=h;exact⟨V2,(hg.trans g).more hm,h1,h2,hk.trans h3⟩
 | halt code st=>obtain⟨V2,g,h1⟩:=h;exact⟨V2,(hg.halt g).more hm,h1⟩
 | left tq st=>obtain⟨V2,g,h1,h2,h3⟩:=h;exact⟨V2,(hg.trans g).more hm,h1,h2,hk.trans h3⟩
theorem Zb0 {I:S.Img}{V V1:S.Vw}{a a1 b:Int}{c c1:Nat}{L base lk:Int}{behind:Bool}{Q:List Int->S.Vw->Nat->Prop}{R:S.BO->Nat->Prop}(hc:c<=c1)(hg:S.Go I V a (c1-c) V1 a1)(hk:S.Kp I base V V1)
 (h:S.OutS I V1 a1 b c1 L base lk behind Q R):S.OutS I V a b c L base lk behind Q R:=by
 rcases h with⟨env,st,c2,V2,h1,h2,h3,h4,h5,h6⟩|⟨o,c2,h1,h2,h3⟩
 .exact .inl ⟨env,st,c2,V2,by omega,h2,h3,(hg.trans h4).more (by omega),h5,hk.trans h6⟩
 .exact .inr ⟨o,c2,by omega,h2,Zbl hg hk h3 (by omega)⟩
theorem Zft {I:S.Img}{V:S.Vw}{a b d:Int}{c:Nat}{L base lk:Int}{behind:Bool}{Q Q2:List Int->S.Vw->Nat->Prop}{R:S.BO->Nat->Prop}(h:S.OutS I V a b c L base lk behind Q R)
 (k:∀env st' c' V',c<=c'->Q env st' c'->(env.length:Int)=L->S.Fm I V' st' base lk env []->S.OutS I V' b d c' L base lk behind Q2 R):S.OutS I V a d c L base lk behind Q2 R:=by
 rcases h with⟨env,st,c2,V2,h1,h2,h3,h4,h5,h6⟩|h
 .exact Zb0 h1 h4 h6 (k env st c2 V2 h1 h2 h3 h5)
 .exact .inr h
theorem Zo9 {I:S.Img}{V:S.Vw}{a b d:Int}{c:Nat}{L base lk:Int}{behind:Bool}{env:List Int}{Q1:List Int->S.Vw->Nat->Prop}{Q2:List Int->S.Vw->Nat->Prop}{R:S.BO->Nat->Prop}(h:S.OutE I V a b c base lk env [] Q1 (λ code st c=>R (.halt code st) c))
 (k:∀vs st' c' V',c<=c'->Q1 vs st' c'->S.Fm I V' st' base lk env vs->S.OutS I V' b d c' L base lk behind Q2 R):S.OutS I V a d c L base lk behind Q2 R:=by
 rcases h with⟨vs,st,c2,V2,h1,h2,h4,h5,h6⟩|⟨code,st,c2,V2,h1,h2,h3,h4⟩
 .exact Zb0 h1 h4 h6 (k vs st c2 V2 h1 h2 h5)
 .exact .inr ⟨.halt code st,c2,h1,h2,V2,h3,h4⟩
theorem S.Fm.drop {I:S.Img}{V st:S.Vw}{base lk:Int}{env vs:List Int}(h:S.Fm I V st base lk env vs):S.Fm I V st base lk env [] :=
 ⟨h.mt,h.sp,h.fr.lk,h.fr.env,λ k hk=>by simp at hk⟩
theorem S.Fm.val0 {I:S.Img}{V st:S.Vw}{base lk:Int}{env vs:List Int}(h:S.Fm I V st base lk env vs)(hk:0<vs.length):V.reg 11=vs.getD 0 0:=by
 have:=h.fr.ts 0 hk
 simpa using this
theorem S.Fm.val1 {I:S.Img}{V st:S.Vw}{base lk:Int}{env vs:List Int}(h:S.Fm I V st base lk env vs)(hk:1<vs.length):V.reg 12=vs.getD 1 0:=h.fr.ts 1 hk
theorem Zk9 (l:List Int)(i k:Nat)(v:Int)(hk:k<l.length):(l.set i v).getD k 0=if k=i then v else l.getD k 0:=by
 by_cases c:k=i
 .subst c;rw[if_pos rfl];simp[hk]
 .rw[if_neg c]
  have:¬i=k:=λ e=>c e.symm
  simp[this]
section
variable {I:S.Img}{L dep lk base:Int}(cx:S.Cx I L dep lk base){obj:ByteArray}
include cx
theorem Zkc {i:Nat}{s:ByteArray}{r:List S.Item}(hs:S.Seg I obj i (S.bL s::r)):I.lab (S.owned obj s)=I.adr i:=by
 have h:=Zh7 cx.ok (x:=S.ownItem obj (S.bL s)) hs.head rfl;unfold S.Img.lab;have e:S.stands I.xs (S.owned obj s)=i:=h;rw[e];rfl
theorem Zpa {V st:S.Vw}{env ts:List Int}{i:Nat}{behind:Bool}{r:List S.Item}(hL:(env.length:Int)=L)(hs:S.Seg I obj i (S.bBack (L+15) behind++r))(hV:S.Fm I V st base lk env ts) :
 S.Done I V (I.adr i) (if behind=true then 5 else 3) base lk behind (.ret st):=by
 have hsp:V.reg 28=base+L+15:=by rw[<- hL];exact hV.sp
 have h0:=cx.ok.lo0;have h1:=cx.lo;have h2:=cx.ok.hisz;have h3:=cx.top;have h4:=cx.dep0;have h5:=cx.L0;have h6:=cx.ok.size2;unfold S.bBack at hs;have g1:=Zd8 cx.ok hs.lo (by have:=hs.lt;exact this) (V:=V) (i:=i) (d:=28) (a:=28) (n:=-(L+15)) hs.head (by decide) (by decide) (by decide);have e1:S.u32m (V.reg 28+-(L+15))=base:=by rw[hsp];unfold S.u32m;omega
 rw[e1] at g1;have hs2:=hs.tail;have g2:=Z02 cx.ok hs2.lo hs2.lt (V:=V.set 28 base) (d:=31) (a:=28) (n:=0) (p:=base) hs2.head (by decide) (by decide) (by decide) (by rw[Zj];unfold S.u32m;omega) (by omega);have e2:(V.set 28 base).mem base=lk:=hV.fr.lk;rw[e2] at g2;have hs3:=hs2.tail;have hmt:S.Mt I ((V.set 28 base).set 31 lk) st:=(hV.mt.hid (by decide) _).hid (by decide) _;have hsp2:((V.set 28 base).set 31 lk).reg 28=base:=by rw[Zg _ _ (by decide),Zj]
 cases behind with
 | false =>
  have g3:=Zo7 cx.ok hs3.lo hs3.lt (V:=(V.set 28 base).set 31 lk) (a:=31) (n:=0) hs3.head (by decide);have e3:S.u32m (((V.set 28 base).set 31 lk).reg 31+0)=lk:=by rw[Zj];have:=cx.lk0;have:=cx.lk1;unfold S.u32m;omega
  rw[e3] at g3;exact⟨_,(g1.trans g2).trans g3,hmt,hsp2,λ _ _ _=>rfl⟩
 | true =>
  have hs4:=hs3.tail;have hs5:=hs4.tail;have g3:S.Go I ((V.set 28 base).set 31 lk) (I.adr (i+1+1)) 2 (((V.set 28 base).set 31 lk).set 31 (S.u32m (lk+V.mem lk))) (I.adr (i+1+1+1+1)):=λ m hm=>by
   have hh3:I.xs[i+1+1]?=some ⟨1,⟨24,25,31,0,0⟩,⟨#[]⟩,0⟩:=hs3.head;have hh4:I.xs[i+1+1+1]?=some ⟨1,⟨1,31,31,25,0⟩,⟨#[]⟩,0⟩:=hs4.head;obtain⟨w3,q3,n3⟩:=Zaa cx.ok hs3.lo hs3.lt hh3;obtain⟨w4,q4,n4⟩:=Zaa cx.ok hs4.lo hs4.lt hh4;have r31:m.rd 31=lk:=by rw[hm.reg 31 (by decide) (by decide) (by decide),Zj]
   have hk0:=cx.lk0;have hk1:=cx.lk1;have hmv:m.mem.getD lk.toNat 0=V.mem lk:=hm.mem lk hk0 hk1;have ea:S.u32m (lk+S.u32m 0)=lk:=by unfold S.u32m;omega
   have hlen:=hm.len;have a1:m.act ⟨24,25,31,0,0⟩=(m.put 25 (V.mem lk),S.u32m (m.place+1),0):=by
    unfold S.Mach.act;simp only[r31,ea];rw[if_neg (by decide),if_neg (by decide),if_neg (by decide),if_pos trivial,if_pos (by omega),hmv]
   obtain⟨s1,p1⟩:=Z1 cx.ok hm hs3.lo hs3.lt (j:=0) (by rw[w3];rfl) (by simp) q3 (by rw[a1]);obtain⟨k1,r25⟩:=Zlb cx.ok hm s1 (show(0:Int)<=25 by decide) a1;rw[p1] at k1;have r31':m.step.rd 31=lk:=by rw[k1.reg 31 (by decide) (by decide) (by decide),Zj]
   have a2:m.step.act ⟨1,31,31,25,0⟩=(m.step.put 31 (S.u32m (lk+V.mem lk)),S.u32m (m.step.place+1),0):=by
    unfold S.Mach.act;simp only[r31',r25];rw[if_pos (by decide),if_neg (by simp)];rfl
   have k1':S.On I m.step ((V.set 28 base).set 31 lk) (I.adr (i+1+1+1)):=by rw[n3];simpa using k1
   obtain⟨s2,p2⟩:=Z1 cx.ok k1' hs4.lo hs4.lt (j:=0) (by rw[w4];rfl) (by simp) q4 (by rw[a2]);have k2:=Zh8 cx.ok k1' (by decide) (by decide) s2 (show(0:Int)<=31 by decide) a2;rw[p2] at k2;refine⟨2,Yb _,?_⟩;have e2:m.steps_ 2=m.step.step:=rfl;rw[n4,e2]
   simpa using k2
  have g4:=Zo7 cx.ok hs5.lo hs5.lt (V:=((V.set 28 base).set 31 lk).set 31 (S.u32m (lk+V.mem lk))) (a:=31) (n:=1) hs5.head (by decide);rw[Zj] at g4;have gg:S.Go I V (I.adr i) 5 (((V.set 28 base).set 31 lk).set 31 (S.u32m (lk+V.mem lk))) (S.u32m (S.u32m (lk+V.mem lk)+1)):=((g1.trans g2).trans g3).trans g4;exact⟨_,gg,hmt.hid (by decide) _,by rw[Zg _ _ (by decide)];exact hsp2,λ _ _ _=>rfl⟩
theorem Ztw {env:List Int}:∀(regs vs:List Int)(j i:Nat)(V st:S.Vw)(r:List S.Item),(∀n∈regs,S.visB n=true)->vs.length=regs.length->j+regs.length<=14->(∀k,k<vs.length->V.reg (11+j+k)=vs.getD k 0)->S.Seg I obj i (S.bRegs regs j++r) ->
 S.Fm I V st base lk env []->∃V',S.Go I V (I.adr i) regs.length V' (I.adr (i+regs.length))/\S.Fm I V' (st.regs regs vs) base lk env []/\V'.mem=V.mem
 | [],vs,j,i,V,st,r,_,hl,_,_,_,hV=>by
  cases vs with
  | nil=>exact⟨V,Zdi _ _ _,hV,rfl⟩
  | cons v vs=>simp at hl
 | n::regs,[],j,i,V,st,r,_,hl,_,_,_,hV=>by simp at hl
 | n::regs,v::vs,j,i,V,st,r,hv,hl,hj,hr,hs,hV=>by
  have hn:=hv n (by simp);have hh:=Zke hn;simp only[Yi] at hl hj;have g:=Zfu cx (V:=V) hs (by omega) (by omega) (by omega);have e:V.reg (11+(j:Int))=v:=by have:=hr 0 (by simp);simpa using this
  rw[e] at g;have hF:S.Fm I (V.set n v) (st.set n v) base lk env []:=by
   refine⟨⟨λ k hk=>?_,hV.mt.mem,hV.mt.inp,hV.mt.out⟩,by rw[Zg _ _ (by omega)];exact hV.sp,hV.fr.lk,hV.fr.env,λ k hk=>by simp at hk⟩
   show(if k=n then v else V.reg k)=if k=n then v else st.reg k
   split
   .rfl
   .exact hV.mt.vis k hk
  obtain⟨V',g',hF',hm'⟩:=Ztw regs vs (j+1) (i+1) (V.set n v) (st.set n v) r (λ m hm=>hv m (List.mem_cons_of_mem _ hm)) (by omega) (by omega) (λ k hk=>by
   rw[Zg _ _ (by omega)];have:=hr (k+1) (by simp;omega);simp only[List.getD_cons_succ] at this;rw[<- this]
   congr 1
   omega) hs.tail hF
  refine⟨V',?_,hF',hm'⟩;have el:i+(n::regs).length=i+1+regs.length:=by simp;omega
  rw[el];exact(g.trans g').more (by simp;omega)
end
theorem Zkd:∀{l:List Int},S.risingB l=true->∀n∈l,S.visB n=true
 | [],_,n,hn=>by cases hn
 | [a],h,n,hn=>by rw[List.mem_singleton] at hn;subst hn;exact h
 | a::b::r,h,n,hn=>by
  rw[S.risingB] at h;simp only[Yt] at h;rcases List.mem_cons.1 hn with rfl|hn
  .exact h.1.1
  .exact Zkd h.2 n hn
end
section
section
variable {I:S.Img}{L dep lk base:Int}(cx:S.Cx I L dep lk base){obj:ByteArray}{behind:Bool}
include cx
theorem Zb7 {V V' st':S.Vw}{env':List Int}{a b:Int}{c k:Nat}{Q:List Int->S.Vw->Nat->Prop}{R:S.BO->Nat->Prop}(hg:S.Go I V a k V' b)(hq:Q env' st' (c+k))(hl:(env'.length:Int)=L)(hF:S.Fm I V' st' base lk env' [])(hk:S.Kp I base V V') :
 S.OutS I V a b c L base lk behind Q R:=.inl ⟨env',st',c+k,V',by omega,hq,hl,by rw[Yaq];exact hg,hF,hk⟩
theorem Zhr {V:S.Vw}{a b:Int}{c k:Nat}{o:S.BO}{Q:List Int->S.Vw->Nat->Prop}{R:S.BO->Nat->Prop}(hd:S.Done I V a k base lk behind o)(hr:R o (c+k)):S.OutS I V a b c L base lk behind Q R :=
 .inr ⟨o,c+k,by omega,hr,by rw[Yaq];exact hd⟩
mutual
theorem Z05:∀(s:S.BS)(depth:Nat)(l:Int)(env:List Int)(V st:S.Vw)(i c:Nat)(Q:List Int->S.Vw->Nat->Prop) (R:S.BO->Nat->Prop),(env.length:Int)=L->S.chkS L s depth=0->S.wpS I dep lk behind s env st c Q R ->
 S.Seg I obj i (S.bStmt (L+15) L behind s l).1->S.Fm I V st base lk env []->S.OutS I V (I.adr i) (I.adr (i+(S.bStmt (L+15) L behind s l).1.length)) c L base lk behind Q R
 | .mk op n name exprs regs body els,depth,l,env,V,st,i,c,Q,R,hL,hc,hw,hs,hV=>by
  have hL0:=cx.L0;rw[S.chkS] at hc;by_cases hf:(!(S.shapedS L op n name exprs.length regs body.length els.length && S.formedEs L exprs))=true
  .rw[if_pos hf] at hc;exact absurd hc (by decide)
  rw[if_neg hf] at hc;by_cases hd:200<=depth\/14<S.needEs exprs 0
  .rw[if_pos hd] at hc;exact absurd hc (by decide)
  rw[if_neg hd] at hc;have hb:S.chkSs L body (depth+1)=0/\S.chkSs L els (depth+1)=0:=by
   by_cases h:S.chkSs L body (depth+1)≠0
   .rw[if_pos h] at hc;exact absurd hc h
   .rw[if_neg h] at hc;exact⟨by simpa using h,hc⟩
  obtain⟨hsh,hfe⟩:S.shapedS L op n name exprs.length regs body.length els.length=true/\S.formedEs L exprs=true:=by
   simpa using hf
  have hne:S.needEs exprs 0<=14:=by omega
  unfold S.shapedS at hsh;simp only[Yt,decide_eq_true_eq] at hsh;obtain⟨⟨⟨⟨⟨⟨⟨⟨hop,hregs⟩,hris⟩,hbd⟩,hel⟩,hnum⟩,hex⟩,hnm⟩,hlb⟩:=hsh;unfold S.numS at hnum;unfold S.exprsS at hex;rw[S.wpS] at hw;rw[S.bStmt] at hs⊢;by_cases c4:op=4
  .rw[if_pos c4] at hw hs⊢
   have hx1:exprs.length=1:=by rw[if_neg (by omega),if_neg (by omega),if_neg (by omega)] at hex;exact hex
   obtain⟨e,rfl⟩:∃e,exprs=[e]:=by
    match exprs,hx1 with
    | [e],_=>exact⟨e,rfl⟩
   simp only[S.bTest] at hs⊢;obtain⟨J,⟨k0,hJ0⟩,hstep⟩:=hw;have hbe:S.bExprs (L+15) L [e] 0=S.bExpr (L+15) L e 0:=by rw[S.bExprs,S.bExprs,Yba]
   obtain⟨n1,hn1⟩:=Yx (S.bExpr (L+15) L e 0).length;obtain⟨n2,hn2⟩:=Yx (S.bStmts (L+15) L behind body (l+2)).1.length;have hsTop:S.Seg I obj i [S.bL (S.bLab (l+1))]:=hs.left.left.left.left;have hsE:S.Seg I obj (i+1) (S.bExprs (L+15) L [e] 0):=by rw[hbe];exact hs.left.left.left.right
   have hsU:S.Seg I obj (i+1+n1) [S.bU 11 (S.bLab (l+2))]:=by
    have h:=hs.left.left.right;rw[Yd,<- hn1] at h;have e1:i+(([S.bL (S.bLab (l+1))]:List S.Item).length+n1)=i+1+n1:=by simp;omega
    rw[e1] at h;exact h
   have hsB:S.Seg I obj (i+1+n1+1) (S.bStmts (L+15) L behind body (l+2)).1:=by
    have h:=hs.left.right;rw[Yd,Yd,<- hn1] at h;have e1:i+(([S.bL (S.bLab (l+1))]:List S.Item).length+n1+([S.bU 11 (S.bLab (l+2))]:List S.Item).length)=i+1+n1+1:=by simp;omega
    rw[e1] at h;exact h
   have hsJ:S.Seg I obj (i+1+n1+1+n2) [S.bJ 0 (S.bLab (l+1)),S.bL (S.bLab (l+2))]:=by
    have h:=hs.right;rw[Yd,Yd,Yd,<- hn1,<- hn2] at h;have e1:i+(([S.bL (S.bLab (l+1))]:List S.Item).length+n1+([S.bU 11 (S.bLab (l+2))]:List S.Item).length+n2)=i+1+n1+1+n2:=by simp;omega
    rw[e1] at h;exact h
   have elen:i+([S.bL (S.bLab (l+1))]++S.bExpr (L+15) L e 0++[S.bU 11 (S.bLab (l+2))]++(S.bStmts (L+15) L behind body (l+2)).1++[S.bJ 0 (S.bLab (l+1)),S.bL (S.bLab (l+2))]).length=i+1+n1+1+n2+1+1:=by
    simp only[Yd,Yi,Yad,<- hn1,<- hn2];omega
   rw[elen];have ltop:=Zkc cx hsTop;have lend:=Zkc cx hsJ.tail;have key:∀(k:Nat)(env:List Int)(V st:S.Vw)(c:Nat),(env.length:Int)=L->J env st c k->S.Fm I V st base lk env []->S.OutS I V (I.adr i) (I.adr (i+1+n1+1+n2+1+1)) c L base lk behind Q R:=by
    intro k
    induction k using Nat.strongRecOn with
    | ind k ih =>
     intro env V st c hL hJ hV;have hstp:=hstep env st c k hJ;have h1:=Zfs cx (obj:=obj) hL [e] 0 0 [] V st (i+1) c _ _ hfe rfl (by omega) hstp hsE hV;have g0:=Zem cx.ok hsTop.lo hsTop.lt (V:=V) hsTop.head;refine Zb0 (c1:=c) (Yb _) (by rw[Nat.sub_self];exact g0) (S.Kp.refl _ _ _) ?_;refine Zo9 h1 λ vs st1 c1 V1 hc1 hq hF1=>?_
     obtain⟨hvl,hq⟩:=hq;have h11:=hF1.val0 (by rw[hvl];exact Nat.one_pos);have en:i+1+(S.bExprs (L+15) L [e] ([]:List Int).length).length=i+1+n1:=by rw[show([]:List Int).length=0 from rfl,hbe,hn1]
     rw[en];have gu:=Zmw cx.ok hsU.lo hsU.lt (V:=V1) hsU.head (a:=11) (by decide);rw[h11] at gu;by_cases cv:vs.getD 0 0=0
     .rw[if_pos cv] at hq gu
      have gl:=Zem cx.ok hsJ.tail.lo hsJ.tail.lt (V:=V1) hsJ.tail.head;have gu':S.Go I V1 (I.adr (i+1+n1)) 4 V1 (I.adr (i+1+n1+1+n2+1)):=by rw[<- lend];exact gu
      exact Zb7 cx (gu'.trans gl) hq hL hF1.drop (S.Kp.refl _ _ _)
     .rw[if_neg cv] at hq gu
      have h2:=Zen body (depth+1) (l+2) env V1 st1 (i+1+n1+1) (c1+4) _ R hL hb.1 hq hsB hF1.drop;refine Zb0 (c1:=c1+4) (by omega) (by rw[Yaq];exact gu) (S.Kp.refl _ _ _) ?_;refine Zft h2 λ Zjx st2 c2 V2 hc2 hq2 hL2 hF2=>?_
      obtain⟨k2,hk2,hJ2⟩:=hq2;rw[<- hn2];have gj:S.Go I V2 (I.adr (i+1+n1+1+n2)) 3 V2 (I.adr i):=by rw[<- ltop];exact Zlc cx.ok hsJ.lo hsJ.lt (V:=V2) hsJ.head
      refine Zb0 (c1:=c2+3) (by omega) (by rw[Yaq];exact gj) (S.Kp.refl _ _ _) ?_;exact ih k2 hk2 Zjx V2 st2 (c2+3) hL2 hJ2 hF2
   exact key k0 env V st c hL hJ0 hV
  rw[if_neg c4] at hw hs⊢;by_cases c3:op=3
  .rw[if_pos c3] at hs⊢
   have hx1:exprs.length=1:=by rw[if_neg (by omega),if_neg (by omega),if_neg (by omega)] at hex;exact hex
   obtain⟨n1,hn1⟩:=Yx (S.bExprs (L+15) L exprs 0).length;obtain⟨n2,hn2⟩:=Yx (S.bStmts (L+15) L behind body (l+2)).1.length;obtain⟨l2,hl2⟩:=Yx (S.bStmts (L+15) L behind body (l+2)).2;rw[<- hl2] at hs⊢;obtain⟨n3,hn3⟩:=Yx (S.bStmts (L+15) L behind els l2).1.length;simp only at hs⊢;have hsE:S.Seg I obj i (S.bExprs (L+15) L exprs 0):=hs.left.left.left.left.left;have hsU:S.Seg I obj (i+n1) [S.bU 11 (S.bLab (l+1))]:=by
    have h:=hs.left.left.left.left.right;rw[<- hn1] at h;exact h
   have hsB:S.Seg I obj (i+n1+1) (S.bStmts (L+15) L behind body (l+2)).1:=by
    have h:=hs.left.left.left.right;rw[Yd,<- hn1] at h;exact h
   have hsJ:S.Seg I obj (i+n1+1+n2) [S.bJ 0 (S.bLab (l+2)),S.bL (S.bLab (l+1))]:=by
    have h:=hs.left.left.right;rw[Yd,Yd,<- hn1,<- hn2] at h;have e1:i+(n1+([S.bU 11 (S.bLab (l+1))]:List S.Item).length+n2)=i+n1+1+n2:=by simp;omega
    rw[e1] at h;exact h
   have hsF:S.Seg I obj (i+n1+1+n2+2) (S.bStmts (L+15) L behind els l2).1:=by
    have h:=hs.left.right;rw[Yd,Yd,Yd,<- hn1,<- hn2] at h;have e1:i+(n1+([S.bU 11 (S.bLab (l+1))]:List S.Item).length+n2+([S.bJ 0 (S.bLab (l+2)),S.bL (S.bLab (l+1))]:List S.Item).length)=i+n1+1+n2+2:=by simp;omega
    rw[e1] at h;exact h
   have hsX:S.Seg I obj (i+n1+1+n2+2+n3) [S.bL (S.bLab (l+2))]:=by
    have h:=hs.right;rw[Yd,Yd,Yd,Yd,<- hn1,<- hn2,<- hn3] at h;have e1:i+(n1+([S.bU 11 (S.bLab (l+1))]:List S.Item).length+n2+([S.bJ 0 (S.bLab (l+2)),S.bL (S.bLab (l+1))]:List S.Item).length+n3)=i+n1+1+n2+2+n3:=by simp;omega
    rw[e1] at h;exact h
   have elen:i+(S.bExprs (L+15) L exprs 0++[S.bU 11 (S.bLab (l+1))]++(S.bStmts (L+15) L behind body (l+2)).1++[S.bJ 0 (S.bLab (l+2)),S.bL (S.bLab (l+1))]++(S.bStmts (L+15) L behind els l2).1++[S.bL (S.bLab (l+2))]).length=i+n1+1+n2+2+n3+1:=by
    simp only[Yd,Yi,Yad,<- hn1,<- hn2,<- hn3];omega
   rw[elen];have lother:=Zkc cx hsJ.tail;have lend:=Zkc cx hsX;have h1:=Zfs cx (obj:=obj) hL exprs 0 0 [] V st i c _ _ hfe rfl (by omega) hw hsE hV;refine Zo9 h1 λ vs st1 c1 V1 hc1 hq hF1=>?_
   obtain⟨hvl,hq⟩:=hq;have h11:=hF1.val0 (by rw[hvl];omega);rw[if_neg (by omega),if_neg (by omega),if_pos c3] at hq;have gu:=Zmw cx.ok hsU.lo hsU.lt (V:=V1) hsU.head (a:=11) (by decide);rw[h11] at gu;have gx:∀V2,S.Go I V2 (I.adr (i+n1+1+n2+2+n3)) 0 V2 (I.adr (i+n1+1+n2+2+n3+1)):=λ V2=>Zem cx.ok hsX.lo hsX.lt (V:=V2) hsX.head
   have en:i+(S.bExprs (L+15) L exprs ([]:List Int).length).length=i+n1:=by rw[show([]:List Int).length=0 from rfl,hn1]
   rw[en];by_cases cv:vs.getD 0 0=0
   .rw[if_pos cv] at hq gu
    have gl:=Zem cx.ok hsJ.tail.lo hsJ.tail.lt (V:=V1) hsJ.tail.head;have gu':S.Go I V1 (I.adr (i+n1)) 4 V1 (I.adr (i+n1+1+n2+1)):=by rw[<- lother];exact gu
    have h2:=Zen els (depth+1) l2 env V1 st1 (i+n1+1+n2+2) (c1+4) Q R hL hb.2 hq hsF hF1.drop;refine Zb0 (c1:=c1+4) (by omega) (by rw[Yaq];exact(gu'.trans gl)) (S.Kp.refl _ _ _) ?_;refine Zft h2 λ Zjx st2 c2 V2 hc2 hq2 hL2 hF2=>?_
    rw[<- hn3];exact Zb7 cx (gx V2) hq2 hL2 hF2 (S.Kp.refl _ _ _)
   .rw[if_neg cv] at hq gu
    have h2:=Zen body (depth+1) (l+2) env V1 st1 (i+n1+1) (c1+4) _ R hL hb.1 hq hsB hF1.drop;refine Zb0 (c1:=c1+4) (by omega) (by rw[Yaq];exact gu) (S.Kp.refl _ _ _) ?_;refine Zft h2 λ Zjx st2 c2 V2 hc2 hq2 hL2 hF2=>?_
    rw[<- hn2];have gj:S.Go I V2 (I.adr (i+n1+1+n2)) 3 V2 (I.adr (i+n1+1+n2+2+n3)):=by rw[<- lend];exact Zlc cx.ok hsJ.lo hsJ.lt (V:=V2) hsJ.head
    exact Zb7 cx (gj.trans (gx V2)) hq2 hL2 hF2 (S.Kp.refl _ _ _)
  rw[if_neg c3] at hs⊢;obtain⟨n1,hn1⟩:=Yx (S.bExprs (L+15) L exprs 0).length;simp only at hs⊢;have h1:=Zfs cx (obj:=obj) hL exprs 0 0 [] V st i c _ _ hfe rfl (by omega) hw hs.left hV;refine Zo9 h1 λ vs st1 c1 V1 hc1 hq hF1=>?_
  obtain⟨hvl,hq⟩:=hq;have en:i+(S.bExprs (L+15) L exprs ([]:List Int).length).length=i+n1:=by rw[show([]:List Int).length=0 from rfl,hn1]
  rw[en,Yd,<- hn1,<- Ybo];have hs2:=hs.right;rw[<- hn1] at hs2;clear hs h1 hw hV;have hsp:V1.reg 28=base+L+15:=by rw[<- hL];exact hF1.sp
  by_cases k1:op=1
  .rw[if_pos k1] at hs2 hq hnum⊢
   have hx1:exprs.length=1:=by rw[if_neg (by omega),if_neg (by omega),if_neg (by omega)] at hex;exact hex
   have hn':=of_decide_eq_true hnum;have h11:=hF1.val0 (by rw[hvl];omega);have g:=Zmy cx (V:=V1) hs2 hsp (p:=1+n) (by omega) (by omega) (by decide);rw[h11] at g;have hlo:=cx.lo;have htp:=cx.top;have hdp:=cx.dep0;refine Zb7 cx g hq (by simpa using hL) ⟨hF1.mt.stack ⟨by omega,by omega⟩ _,by rw[List.length_set];exact hF1.sp,by rw[Zab _ _ (by omega)];exact hF1.fr.lk,λ k hk=>?_,λ k hk=>by simp at hk⟩ (λ a a0 a1=>Zab _ _ (by omega));have hk':k<env.length:=by simpa using hk
   rw[Zk9 _ _ _ _ hk'];by_cases ck:k=n.toNat
   .rw[if_pos ck]
    have e:base+1+(k:Int)=base+(1+n):=by omega
    rw[e,Zd9]
   .rw[if_neg ck,Zab _ _ (by omega)];exact hF1.fr.env k hk'
  rw[if_neg k1] at hs2 hq hnum⊢;by_cases k2:op=2
  .rw[if_pos k2] at hs2 hq hnum⊢
   have hx1:exprs.length=2:=by rw[if_pos k2] at hex;exact hex
   have h11:=hF1.val0 (by rw[hvl];omega);have h12:=hF1.val1 (by rw[hvl];omega);obtain⟨q1,q2,q3,q4⟩:=hq;have g:=Ztu cx.ok hs2.lo hs2.lt (V:=V1) hs2.head (p:=S.u32m (vs.getD 0 0+n)) (by decide) (by decide) (by rw[h11]) q1 q3;rw[h12] at g;have hst:∀b,I.stk b->b≠S.u32m (vs.getD 0 0+n):=λ b hb e=>q2 (by rw[<- e];exact hb)
   have hlo:=cx.lo;have htp:=cx.top;have hdp:=cx.dep0;refine Zb7 cx g q4 hL ⟨⟨hF1.mt.vis,λ a a0 a1 ha=>?_,hF1.mt.inp,hF1.mt.out⟩,hF1.sp,?_,λ k hk=>?_,λ k hk=>by simp at hk⟩ (λ a a0 a1=>Zab _ _ (hst a ⟨a0,by omega⟩))
   .show(if a=_ then _ else V1.mem a)=if a=_ then _ else st1.mem a
    split
    .rfl
    .exact hF1.mt.mem a a0 a1 ha
   .rw[Zab _ _ (hst _ ⟨by omega,by omega⟩)];exact hF1.fr.lk
   .rw[Zab _ _ (hst _ ⟨by omega,by omega⟩)];exact hF1.fr.env k hk
  rw[if_neg k2] at hs2 hq hnum⊢;rw[if_neg c3] at hq;by_cases k5:op=5
  .rw[if_pos k5] at hs2 hq⊢
   have hx1:exprs.length=regs.length:=by rw[if_neg k2,if_pos k5] at hex;exact hex
   have hreg:vs.length=regs.length:=by rw[hvl];exact hx1
   have hr14:regs.length<=14:=by
    by_cases he:exprs=[]
    .subst he;simp at hx1;omega
    .have:=Zk8 exprs 0 he;omega
   obtain⟨V2,g2,hF2,hm2⟩:=Ztw cx (obj:=obj) regs vs 0 (i+n1) V1 st1 (S.bBack (L+15) behind) (Zkd hris) hreg (by omega) (λ k hk=>by have:=hF1.fr.ts k (by simpa using hk);simpa using this) hs2 hF1.drop;have hs3:=hs2.right;have elr:∀(regs:List Int) j,(S.bRegs regs j).length=regs.length:=by
    intro regs
    induction regs with
    | nil=>intro j;rfl
    | cons a r ih=>intro j;rw[S.bRegs,Yi,ih];rfl
   rw[elr] at hs3;have hd:=Zpa cx (obj:=obj) (r:=[]) hL (by rw[Yba];exact hs3) hF2;refine Zhr cx (k:=regs.length+(if behind=true then 5 else 3)) (Zbl g2 (λ a _ _=>by rw[hm2]) hd (Yb _)) ?_;rw[<- Ybo];exact hq
  rw[if_neg k5] at hs2 hq⊢;by_cases k6:op=6
  .rw[if_neg (by omega),if_neg (by omega),if_neg (by omega),if_neg (by omega),if_neg (by omega)]
   rw[if_pos k6] at hq;exact Zb7 cx (k:=0) (Zdi _ _ _) hq hL hF1.drop (S.Kp.refl _ _ _)
  rw[if_neg k6] at hq;have hx0:op≠10->exprs.length=1:=λ h=>by rw[if_neg k2,if_neg k5,if_neg h] at hex;exact hex
  by_cases k7:op=7
  .rw[if_pos k7] at hs2 hq⊢
   have h11:=hF1.val0 (by rw[hvl,hx0 (by omega)];decide);have g:=Z3i cx.ok hs2.lo hs2.lt (V:=V1) hs2.head (by decide);rw[h11] at g;exact Zb7 cx g hq hL ⟨⟨hF1.mt.vis,hF1.mt.mem,hF1.mt.inp,by show V1.out++_=st1.out++_;rw[hF1.mt.out]⟩,hF1.sp,hF1.fr.lk,hF1.fr.env,λ k hk=>by simp at hk⟩ (S.Kp.refl _ _ _)
  rw[if_neg k7] at hs2 hq⊢;by_cases k8:op=8
  .rw[if_pos k8] at hs2 hq⊢
   have h11:=hF1.val0 (by rw[hvl,hx0 (by omega)];decide);have g:=Z03 cx.ok hs2.lo hs2.lt (V:=V1) hs2.head (by decide);rw[h11] at g;exact Zhr cx (k:=1) (o:=.halt (vs.getD 0 0) st1) ⟨V1,g,hF1.mt⟩ hq
  rw[if_neg k8] at hs2 hq⊢;by_cases k9:op=9
  .rw[if_pos k9] at hs2 hq hnum⊢
   have h11:=hF1.val0 (by rw[hvl,hx0 (by omega)];decide);have hh:=Zke hnum;have g:=Zfu cx (V:=V1) hs2 (by omega) (by omega) (by decide);rw[h11] at g;refine Zb7 cx g hq hL ⟨⟨λ k hk=>?_,hF1.mt.mem,hF1.mt.inp,hF1.mt.out⟩,by rw[Zg _ _ (by omega)];exact hF1.sp,hF1.fr.lk,hF1.fr.env,λ k hk=>by simp at hk⟩ (S.Kp.refl _ _ _)
   show(if k=n then _ else V1.reg k)=if k=n then _ else st1.reg k
   split
   .rfl
   .exact hF1.mt.vis k hk
  rw[if_neg k9] at hs2 hq⊢;have hlo:=cx.lo;have htp:=cx.top;have hdp:=cx.dep0;have hsz2:=cx.ok.size2;have hhs:=cx.ok.hisz;have hl0:=cx.ok.lo0;have hpop:S.u32m (V1.reg 28+-(L+15))=base:=by rw[hsp];unfold S.u32m;omega
  by_cases k10:op=10
  .rw[if_pos k10] at hs2 hq⊢
   have hlab:S.labB name=true:=by
    have:S.namedS op=true:=by unfold S.namedS;rw[decide_eq_true_eq];exact k10
    rw[this] at hlb
    simpa using hlb
   have g1:=Zd8 cx.ok hs2.lo hs2.lt (V:=V1) (d:=28) (a:=28) (n:=-(L+15)) hs2.head (by decide) (by decide) (by decide);rw[hpop] at g1;have hh:I.xs[i+n1+1]?=some ⟨4,⟨0,0,0,0,0⟩,name,0⟩:=by
    rw[hs2.tail.head]
    show some (⟨4,⟨0,0,0,0,0⟩,S.owned obj name,0⟩:S.Item)=_
    rw[Zeo obj hlab]
   have g2:=Zlc cx.ok hs2.tail.lo hs2.tail.lt (V:=V1.set 28 base) hh;exact Zhr cx (k:=4) (o:=.left (I.lab name) st1) ⟨_,g1.trans g2,hF1.mt.hid (by decide) _,Zj _ _ _,λ _ _ _=>rfl⟩ hq
  rw[if_neg k10] at hs2 hq⊢;by_cases k11:op=11
  .rw[if_pos k11] at hs2 hq⊢
   have h11:=hF1.val0 (by rw[hvl,hx0 (by omega)];decide);have g1:=Zd8 cx.ok hs2.lo hs2.lt (V:=V1) (d:=28) (a:=28) (n:=-(L+15)) hs2.head (by decide) (by decide) (by decide);rw[hpop] at g1;have g2:S.Go I (V1.set 28 base) (I.adr (i+n1+1)) 1 (V1.set 28 base) (vs.getD 0 0):=Zxw λ m hm=>by
    have g:=Zo7 cx.ok hs2.tail.lo hs2.tail.lt (V:=V1.set 28 base) (a:=11) (n:=0) hs2.tail.head (by decide);have hb:=hm.rbd (j:=11) (by decide) (by decide) (by decide);rw[Zg _ _ (by decide),h11] at hb;have e:S.u32m ((V1.set 28 base).reg 11+0)=vs.getD 0 0:=by rw[Zg _ _ (by decide),h11];unfold S.u32m;omega
    rw[e] at g;exact g
   exact Zhr cx (k:=2) (o:=.left (vs.getD 0 0) st1) ⟨_,g1.trans g2,hF1.mt.hid (by decide) _,Zj _ _ _,λ _ _ _=>rfl⟩ hq
  rw[if_neg k11] at hq;exact absurd hq id
theorem Zen:∀(r:List S.BS)(depth:Nat)(l:Int)(env:List Int)(V st:S.Vw)(i c:Nat)(Q:List Int->S.Vw->Nat->Prop) (R:S.BO->Nat->Prop),(env.length:Int)=L->S.chkSs L r depth=0->S.wpSs I dep lk behind r env st c Q R ->
 S.Seg I obj i (S.bStmts (L+15) L behind r l).1->S.Fm I V st base lk env []->S.OutS I V (I.adr i) (I.adr (i+(S.bStmts (L+15) L behind r l).1.length)) c L base lk behind Q R
 | [],depth,l,env,V,st,i,c,Q,R,hL,hc,hw,hs,hV=>by
  rw[S.wpSs] at hw;rw[S.bStmts];exact Zb7 cx (k:=0) (b:=I.adr i) (Zdi _ _ _) hw hL hV (S.Kp.refl _ _ _)
 | s::r,depth,l,env,V,st,i,c,Q,R,hL,hc,hw,hs,hV=>by
  rw[S.chkSs] at hc;have hb:S.chkS L s depth=0/\S.chkSs L r depth=0:=by
   by_cases h:S.chkS L s depth≠0
   .rw[if_pos h] at hc;exact absurd hc h
   .rw[if_neg h] at hc;exact⟨by simpa using h,hc⟩
  rw[S.wpSs] at hw;rw[S.bStmts] at hs⊢;simp only at hs⊢;have h1:=Z05 s depth l env V st i c _ R hL hb.1 hw hs.left hV;refine Zft h1 λ Zz0 st1 c1 V1 hc1 hq1 hL1 hF1=>?_
  have h2:=Zen r depth (S.bStmt (L+15) L behind s l).2 Zz0 V1 st1 (i+(S.bStmt (L+15) L behind s l).1.length) c1 Q R hL1 hb.2 hq1 hs.right hF1;rw[Yd,<- Ybo];exact h2
end
end
end
