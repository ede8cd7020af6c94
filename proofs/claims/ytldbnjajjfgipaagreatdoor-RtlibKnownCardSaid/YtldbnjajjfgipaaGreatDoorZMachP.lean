/- Parts. -/
import Derived.Test.YtldbnjajjfgipaaGreatDoorZQe
import Derived.Deep.DeepCutAuto
import Derived.BigRegion
import Derived.Deep.RegionWith
set_option linter.all false
set_option maxHeartbeats 8000000
open Go.Lib renaming hid->Ya
open List renaming length_append->Yc,length_cons->Yk,mem_cons_self->Y4,length_nil->Yae,append_nil->Ya4
open Nat renaming le_refl->Yd,add_sub_cancel_left->Y7,add_assoc->Ybm
open Go.World renaming cell?_of_block->Yan
open Int renaming toNat_natCast->Ybl,le_trans->Yb8,ediv_nonneg->Ycm,ediv_le_self->Ycz
open Go.IntKind renaming signed->Yb0,bits->Yb9,wrap->Yci
namespace Go.Proofs.YtldbnjajjfgipaaGreatDoor
open S Go.Proofs.Tryz Go.RowKit
set_option maxRecDepth 100000
section
section
variable {I:Img}{L dep lk base:Int}(cx:Cx I L dep lk base){obj:ByteArray}{behind:Bool}
include cx
theorem Zba {V V' st':Vw}{env':List Int}{a b:Int}{c k:Nat}{Q:List Int->Vw->Nat->Prop}{R:BO->Nat->Prop}(hg:S.Go I V a k V' b)(hq:Q env' st' (c+k))(hl:(env'.length:Int)=L)(hF:Fm I V' st' base lk env' [])(hk:Kp I base V V') :
 OutS I V a b c L base lk behind Q R:=.inl ⟨env',st',c+k,V',by omega,hq,hl,by rw[Y7];exact hg,hF,hk⟩
theorem Zf7 {V:Vw}{a b:Int}{c k:Nat}{o:BO}{Q:List Int->Vw->Nat->Prop}{R:BO->Nat->Prop}(hd:Done I V a k base lk behind o)(hr:R o (c+k)):OutS I V a b c L base lk behind Q R :=
 .inr ⟨o,c+k,by omega,hr,by rw[Y7];exact hd⟩
mutual
theorem Zyp:∀(s:BS)(depth:Nat)(l:Int)(env:List Int)(V st:Vw)(i c:Nat)(Q:List Int->Vw->Nat->Prop) (R:BO->Nat->Prop),(env.length:Int)=L->chkS L s depth=0->wpS I dep lk behind s env st c Q R ->
 Seg I obj i (bStmt (L+15) L behind s l).1->Fm I V st base lk env []->OutS I V (I.adr i) (I.adr (i+(bStmt (L+15) L behind s l).1.length)) c L base lk behind Q R
 | .mk op n name exprs regs body els,depth,l,env,V,st,i,c,Q,R,hL,hc,hw,hs,hV=>by
  have hL0:=cx.L0;rw[chkS] at hc;by_cases hf:(!(shapedS L op n name exprs.length regs body.length els.length && formedEs L exprs))=true
  .rw[if_pos hf] at hc;exact absurd hc (by decide)
  rw[if_neg hf] at hc;by_cases hd:200<=depth\/14<needEs exprs 0
  .rw[if_pos hd] at hc;exact absurd hc (by decide)
  rw[if_neg hd] at hc;have hb:chkSs L body (depth+1)=0/\chkSs L els (depth+1)=0:=by
   by_cases h:chkSs L body (depth+1)≠0
   .rw[if_pos h] at hc;exact absurd hc h
   .rw[if_neg h] at hc;exact⟨by simpa using h,hc⟩
  obtain⟨hsh,hfe⟩:shapedS L op n name exprs.length regs body.length els.length=true/\formedEs L exprs=true:=by
   simpa using hf
  have hne:needEs exprs 0<=14:=by omega
  unfold shapedS at hsh;simp only[Bool.and_eq_true,decide_eq_true_eq] at hsh;obtain⟨⟨⟨⟨⟨⟨⟨⟨hop,hregs⟩,hris⟩,hbd⟩,hel⟩,hnum⟩,hex⟩,hnm⟩,hlb⟩:=hsh;unfold numS at hnum;unfold exprsS at hex;rw[wpS] at hw;rw[bStmt] at hs⊢;by_cases c4:op=4
  .rw[if_pos c4] at hw hs⊢
   have hx1:exprs.length=1:=by rw[if_neg (by omega),if_neg (by omega),if_neg (by omega)] at hex;exact hex
   obtain⟨e,rfl⟩:∃e,exprs=[e]:=by
    match exprs,hx1 with
    | [e],_=>exact⟨e,rfl⟩
   simp only[bTest] at hs⊢;obtain⟨J,⟨k0,hJ0⟩,hstep⟩:=hw;have hbe:bExprs (L+15) L [e] 0=bExpr (L+15) L e 0:=by rw[bExprs,bExprs,Ya4]
   obtain⟨n1,hn1⟩:=Yx (bExpr (L+15) L e 0).length;obtain⟨n2,hn2⟩:=Yx (bStmts (L+15) L behind body (l+2)).1.length;have hsTop:Seg I obj i [bL (bLab (l+1))]:=hs.left.left.left.left;have hsE:Seg I obj (i+1) (bExprs (L+15) L [e] 0):=by rw[hbe];exact hs.left.left.left.right
   have hsU:Seg I obj (i+1+n1) [bU 11 (bLab (l+2))]:=by
    have h:=hs.left.left.right;rw[Yc,<- hn1] at h;have e1:i+(([bL (bLab (l+1))]:List S.Item).length+n1)=i+1+n1:=by simp;omega
    rw[e1] at h;exact h
   have hsB:Seg I obj (i+1+n1+1) (bStmts (L+15) L behind body (l+2)).1:=by
    have h:=hs.left.right;rw[Yc,Yc,<- hn1] at h;have e1:i+(([bL (bLab (l+1))]:List S.Item).length+n1+([bU 11 (bLab (l+2))]:List S.Item).length)=i+1+n1+1:=by simp;omega
    rw[e1] at h;exact h
   have hsJ:Seg I obj (i+1+n1+1+n2) [bJ 0 (bLab (l+1)),bL (bLab (l+2))]:=by
    have h:=hs.right;rw[Yc,Yc,Yc,<- hn1,<- hn2] at h;have e1:i+(([bL (bLab (l+1))]:List S.Item).length+n1+([bU 11 (bLab (l+2))]:List S.Item).length+n2)=i+1+n1+1+n2:=by simp;omega
    rw[e1] at h;exact h
   have elen:i+([bL (bLab (l+1))]++bExpr (L+15) L e 0++[bU 11 (bLab (l+2))]++(bStmts (L+15) L behind body (l+2)).1++[bJ 0 (bLab (l+1)),bL (bLab (l+2))]).length=i+1+n1+1+n2+1+1:=by
    simp only[Yc,Yk,Yae,<- hn1,<- hn2];omega
   rw[elen];have ltop:=Zi6 cx hsTop;have lend:=Zi6 cx hsJ.tail;have key:∀(k:Nat)(env:List Int)(V st:Vw)(c:Nat),(env.length:Int)=L->J env st c k->Fm I V st base lk env []->OutS I V (I.adr i) (I.adr (i+1+n1+1+n2+1+1)) c L base lk behind Q R:=by
    intro k
    induction k using Nat.strongRecOn with
    | ind k ih =>
     intro env V st c hL hJ hV;have hstp:=hstep env st c k hJ;have h1:=Zex cx (obj:=obj) hL [e] 0 0 [] V st (i+1) c _ _ hfe rfl (by omega) hstp hsE hV;have g0:=Zdl cx.ok hsTop.lo hsTop.lt (V:=V) hsTop.head;refine Za0 (c1:=c) (Yd _) (by rw[Nat.sub_self];exact g0) (Kp.refl _ _ _) ?_;refine Znj h1 λ vs st1 c1 V1 hc1 hq hF1=>?_
     obtain⟨hvl,hq⟩:=hq;have h11:=hF1.val0 (by rw[hvl];exact Nat.one_pos);have en:i+1+(bExprs (L+15) L [e] ([]:List Int).length).length=i+1+n1:=by rw[show([]:List Int).length=0 from rfl,hbe,hn1]
     rw[en];have gu:=Zlj cx.ok hsU.lo hsU.lt (V:=V1) hsU.head (a:=11) (by decide);rw[h11] at gu;by_cases cv:vs.getD 0 0=0
     .rw[if_pos cv] at hq gu
      have gl:=Zdl cx.ok hsJ.tail.lo hsJ.tail.lt (V:=V1) hsJ.tail.head;have gu':S.Go I V1 (I.adr (i+1+n1)) 4 V1 (I.adr (i+1+n1+1+n2+1)):=by rw[<- lend];exact gu
      exact Zba cx (gu'.trans gl) hq hL hF1.drop (Kp.refl _ _ _)
     .rw[if_neg cv] at hq gu
      have h2:=Zdm body (depth+1) (l+2) env V1 st1 (i+1+n1+1) (c1+4) _ R hL hb.1 hq hsB hF1.drop;refine Za0 (c1:=c1+4) (by omega) (by rw[Y7];exact gu) (Kp.refl _ _ _) ?_;refine Zey h2 λ Zkn st2 c2 V2 hc2 hq2 hL2 hF2=>?_
      obtain⟨k2,hk2,hJ2⟩:=hq2;rw[<- hn2];have gj:S.Go I V2 (I.adr (i+1+n1+1+n2)) 3 V2 (I.adr i):=by rw[<- ltop];exact Zj6 cx.ok hsJ.lo hsJ.lt (V:=V2) hsJ.head
      refine Za0 (c1:=c2+3) (by omega) (by rw[Y7];exact gj) (Kp.refl _ _ _) ?_;exact ih k2 hk2 Zkn V2 st2 (c2+3) hL2 hJ2 hF2
   exact key k0 env V st c hL hJ0 hV
  rw[if_neg c4] at hw hs⊢;by_cases c3:op=3
  .rw[if_pos c3] at hs⊢
   have hx1:exprs.length=1:=by rw[if_neg (by omega),if_neg (by omega),if_neg (by omega)] at hex;exact hex
   obtain⟨n1,hn1⟩:=Yx (bExprs (L+15) L exprs 0).length;obtain⟨n2,hn2⟩:=Yx (bStmts (L+15) L behind body (l+2)).1.length;obtain⟨l2,hl2⟩:=Yx (bStmts (L+15) L behind body (l+2)).2;rw[<- hl2] at hs⊢;obtain⟨n3,hn3⟩:=Yx (bStmts (L+15) L behind els l2).1.length;simp only at hs⊢;have hsE:Seg I obj i (bExprs (L+15) L exprs 0):=hs.left.left.left.left.left;have hsU:Seg I obj (i+n1) [bU 11 (bLab (l+1))]:=by
    have h:=hs.left.left.left.left.right;rw[<- hn1] at h;exact h
   have hsB:Seg I obj (i+n1+1) (bStmts (L+15) L behind body (l+2)).1:=by
    have h:=hs.left.left.left.right;rw[Yc,<- hn1] at h;exact h
   have hsJ:Seg I obj (i+n1+1+n2) [bJ 0 (bLab (l+2)),bL (bLab (l+1))]:=by
    have h:=hs.left.left.right;rw[Yc,Yc,<- hn1,<- hn2] at h;have e1:i+(n1+([bU 11 (bLab (l+1))]:List S.Item).length+n2)=i+n1+1+n2:=by simp;omega
    rw[e1] at h;exact h
   have hsF:Seg I obj (i+n1+1+n2+2) (bStmts (L+15) L behind els l2).1:=by
    have h:=hs.left.right;rw[Yc,Yc,Yc,<- hn1,<- hn2] at h;have e1:i+(n1+([bU 11 (bLab (l+1))]:List S.Item).length+n2+([bJ 0 (bLab (l+2)),bL (bLab (l+1))]:List S.Item).length)=i+n1+1+n2+2:=by simp;omega
    rw[e1] at h;exact h
   have hsX:Seg I obj (i+n1+1+n2+2+n3) [bL (bLab (l+2))]:=by
    have h:=hs.right;rw[Yc,Yc,Yc,Yc,<- hn1,<- hn2,<- hn3] at h;have e1:i+(n1+([bU 11 (bLab (l+1))]:List S.Item).length+n2+([bJ 0 (bLab (l+2)),bL (bLab (l+1))]:List S.Item).length+n3)=i+n1+1+n2+2+n3:=by simp;omega
    rw[e1] at h;exact h
   have elen:i+(bExprs (L+15) L exprs 0++[bU 11 (bLab (l+1))]++(bStmts (L+15) L behind body (l+2)).1++[bJ 0 (bLab (l+2)),bL (bLab (l+1))]++(bStmts (L+15) L behind els l2).1++[bL (bLab (l+2))]).length=i+n1+1+n2+2+n3+1:=by
    simp only[Yc,Yk,Yae,<- hn1,<- hn2,<- hn3];omega
   rw[elen];have lother:=Zi6 cx hsJ.tail;have lend:=Zi6 cx hsX;have h1:=Zex cx (obj:=obj) hL exprs 0 0 [] V st i c _ _ hfe rfl (by omega) hw hsE hV;refine Znj h1 λ vs st1 c1 V1 hc1 hq hF1=>?_
   obtain⟨hvl,hq⟩:=hq;have h11:=hF1.val0 (by rw[hvl];omega);rw[if_neg (by omega),if_neg (by omega),if_pos c3] at hq;have gu:=Zlj cx.ok hsU.lo hsU.lt (V:=V1) hsU.head (a:=11) (by decide);rw[h11] at gu;have gx:∀V2,S.Go I V2 (I.adr (i+n1+1+n2+2+n3)) 0 V2 (I.adr (i+n1+1+n2+2+n3+1)):=λ V2=>Zdl cx.ok hsX.lo hsX.lt (V:=V2) hsX.head
   have en:i+(bExprs (L+15) L exprs ([]:List Int).length).length=i+n1:=by rw[show([]:List Int).length=0 from rfl,hn1]
   rw[en];by_cases cv:vs.getD 0 0=0
   .rw[if_pos cv] at hq gu
    have gl:=Zdl cx.ok hsJ.tail.lo hsJ.tail.lt (V:=V1) hsJ.tail.head;have gu':S.Go I V1 (I.adr (i+n1)) 4 V1 (I.adr (i+n1+1+n2+1)):=by rw[<- lother];exact gu
    have h2:=Zdm els (depth+1) l2 env V1 st1 (i+n1+1+n2+2) (c1+4) Q R hL hb.2 hq hsF hF1.drop;refine Za0 (c1:=c1+4) (by omega) (by rw[Y7];exact(gu'.trans gl)) (Kp.refl _ _ _) ?_;refine Zey h2 λ Zkn st2 c2 V2 hc2 hq2 hL2 hF2=>?_
    rw[<- hn3];exact Zba cx (gx V2) hq2 hL2 hF2 (Kp.refl _ _ _)
   .rw[if_neg cv] at hq gu
    have h2:=Zdm body (depth+1) (l+2) env V1 st1 (i+n1+1) (c1+4) _ R hL hb.1 hq hsB hF1.drop;refine Za0 (c1:=c1+4) (by omega) (by rw[Y7];exact gu) (Kp.refl _ _ _) ?_;refine Zey h2 λ Zkn st2 c2 V2 hc2 hq2 hL2 hF2=>?_
    rw[<- hn2];have gj:S.Go I V2 (I.adr (i+n1+1+n2)) 3 V2 (I.adr (i+n1+1+n2+2+n3)):=by rw[<- lend];exact Zj6 cx.ok hsJ.lo hsJ.lt (V:=V2) hsJ.head
    exact Zba cx (gj.trans (gx V2)) hq2 hL2 hF2 (Kp.refl _ _ _)
  rw[if_neg c3] at hs⊢;obtain⟨n1,hn1⟩:=Yx (bExprs (L+15) L exprs 0).length;simp only at hs⊢;have h1:=Zex cx (obj:=obj) hL exprs 0 0 [] V st i c _ _ hfe rfl (by omega) hw hs.left hV;refine Znj h1 λ vs st1 c1 V1 hc1 hq hF1=>?_
  obtain⟨hvl,hq⟩:=hq;have en:i+(bExprs (L+15) L exprs ([]:List Int).length).length=i+n1:=by rw[show([]:List Int).length=0 from rfl,hn1]
  rw[en,Yc,<- hn1,<- Ybm];have hs2:=hs.right;rw[<- hn1] at hs2;clear hs h1 hw hV;have hsp:V1.reg 28=base+L+15:=by rw[<- hL];exact hF1.sp
  by_cases k1:op=1
  .rw[if_pos k1] at hs2 hq hnum⊢
   have hx1:exprs.length=1:=by rw[if_neg (by omega),if_neg (by omega),if_neg (by omega)] at hex;exact hex
   have hn':=of_decide_eq_true hnum;have h11:=hF1.val0 (by rw[hvl];omega);have g:=Zlx cx (V:=V1) hs2 hsp (p:=1+n) (by omega) (by omega) (by decide);rw[h11] at g;have hlo:=cx.lo;have htp:=cx.top;have hdp:=cx.dep0;refine Zba cx g hq (by simpa using hL) ⟨hF1.mt.stack ⟨by omega,by omega⟩ _,by rw[List.length_set];exact hF1.sp,by rw[Zy _ _ (by omega)];exact hF1.fr.lk,λ k hk=>?_,λ k hk=>by simp at hk⟩ (λ a a0 a1=>Zy _ _ (by omega));have hk':k<env.length:=by simpa using hk
   rw[Zkf _ _ _ _ hk'];by_cases ck:k=n.toNat
   .rw[if_pos ck]
    have e:base+1+(k:Int)=base+(1+n):=by omega
    rw[e,Zb9]
   .rw[if_neg ck,Zy _ _ (by omega)];exact hF1.fr.env k hk'
  rw[if_neg k1] at hs2 hq hnum⊢;by_cases k2:op=2
  .rw[if_pos k2] at hs2 hq hnum⊢
   have hx1:exprs.length=2:=by rw[if_pos k2] at hex;exact hex
   have h11:=hF1.val0 (by rw[hvl];omega);have h12:=hF1.val1 (by rw[hvl];omega);obtain⟨q1,q2,q3,q4⟩:=hq;have g:=Zr3 cx.ok hs2.lo hs2.lt (V:=V1) hs2.head (p:=u32m (vs.getD 0 0+n)) (by decide) (by decide) (by rw[h11]) q1 q3;rw[h12] at g;have hst:∀b,I.stk b->b≠u32m (vs.getD 0 0+n):=λ b hb e=>q2 (by rw[<- e];exact hb)
   have hlo:=cx.lo;have htp:=cx.top;have hdp:=cx.dep0;refine Zba cx g q4 hL ⟨⟨hF1.mt.vis,λ a a0 a1 ha=>?_,hF1.mt.inp,hF1.mt.out⟩,hF1.sp,?_,λ k hk=>?_,λ k hk=>by simp at hk⟩ (λ a a0 a1=>Zy _ _ (hst a ⟨a0,by omega⟩))
   .show(if a=_ then _ else V1.mem a)=if a=_ then _ else st1.mem a
    split
    .rfl
    .exact hF1.mt.mem a a0 a1 ha
   .rw[Zy _ _ (hst _ ⟨by omega,by omega⟩)];exact hF1.fr.lk
   .rw[Zy _ _ (hst _ ⟨by omega,by omega⟩)];exact hF1.fr.env k hk
  rw[if_neg k2] at hs2 hq hnum⊢;rw[if_neg c3] at hq;by_cases k5:op=5
  .rw[if_pos k5] at hs2 hq⊢
   have hx1:exprs.length=regs.length:=by rw[if_neg k2,if_pos k5] at hex;exact hex
   have hreg:vs.length=regs.length:=by rw[hvl];exact hx1
   have hr14:regs.length<=14:=by
    by_cases he:exprs=[]
    .subst he;simp at hx1;omega
    .have:=Zke exprs 0 he;omega
   obtain⟨V2,g2,hF2,hm2⟩:=Zs6 cx (obj:=obj) regs vs 0 (i+n1) V1 st1 (bBack (L+15) behind) (Zi7 hris) hreg (by omega) (λ k hk=>by have:=hF1.fr.ts k (by simpa using hk);simpa using this) hs2 hF1.drop;have hs3:=hs2.right;have elr:∀(regs:List Int) j,(bRegs regs j).length=regs.length:=by
    intro regs
    induction regs with
    | nil=>intro j;rfl
    | cons a r ih=>intro j;rw[bRegs,Yk,ih];rfl
   rw[elr] at hs3;have hd:=Znk cx (obj:=obj) (r:=[]) hL (by rw[Ya4];exact hs3) hF2;refine Zf7 cx (k:=regs.length+(if behind=true then 5 else 3)) (Zap g2 (λ a _ _=>by rw[hm2]) hd (Yd _)) ?_;rw[<- Ybm];exact hq
  rw[if_neg k5] at hs2 hq⊢;by_cases k6:op=6
  .rw[if_neg (by omega),if_neg (by omega),if_neg (by omega),if_neg (by omega),if_neg (by omega)]
   rw[if_pos k6] at hq;exact Zba cx (k:=0) (Zcq _ _ _) hq hL hF1.drop (Kp.refl _ _ _)
  rw[if_neg k6] at hq;have hx0:op≠10->exprs.length=1:=λ h=>by rw[if_neg k2,if_neg k5,if_neg h] at hex;exact hex
  by_cases k7:op=7
  .rw[if_pos k7] at hs2 hq⊢
   have h11:=hF1.val0 (by rw[hvl,hx0 (by omega)];decide);have g:=Z0x cx.ok hs2.lo hs2.lt (V:=V1) hs2.head (by decide);rw[h11] at g;exact Zba cx g hq hL ⟨⟨hF1.mt.vis,hF1.mt.mem,hF1.mt.inp,by show V1.out++_=st1.out++_;rw[hF1.mt.out]⟩,hF1.sp,hF1.fr.lk,hF1.fr.env,λ k hk=>by simp at hk⟩ (Kp.refl _ _ _)
  rw[if_neg k7] at hs2 hq⊢;by_cases k8:op=8
  .rw[if_pos k8] at hs2 hq⊢
   have h11:=hF1.val0 (by rw[hvl,hx0 (by omega)];decide);have g:=Zyn cx.ok hs2.lo hs2.lt (V:=V1) hs2.head (by decide);rw[h11] at g;exact Zf7 cx (k:=1) (o:=.halt (vs.getD 0 0) st1) ⟨V1,g,hF1.mt⟩ hq
  rw[if_neg k8] at hs2 hq⊢;by_cases k9:op=9
  .rw[if_pos k9] at hs2 hq hnum⊢
   have h11:=hF1.val0 (by rw[hvl,hx0 (by omega)];decide);have hh:=Zi5 hnum;have g:=Zew cx (V:=V1) hs2 (by omega) (by omega) (by decide);rw[h11] at g;refine Zba cx g hq hL ⟨⟨λ k hk=>?_,hF1.mt.mem,hF1.mt.inp,hF1.mt.out⟩,by rw[Zd _ _ (by omega)];exact hF1.sp,hF1.fr.lk,hF1.fr.env,λ k hk=>by simp at hk⟩ (Kp.refl _ _ _)
   show(if k=n then _ else V1.reg k)=if k=n then _ else st1.reg k
   split
   .rfl
   .exact hF1.mt.vis k hk
  rw[if_neg k9] at hs2 hq⊢;have hlo:=cx.lo;have htp:=cx.top;have hdp:=cx.dep0;have hsz2:=cx.ok.size2;have hhs:=cx.ok.hisz;have hl0:=cx.ok.lo0;have hpop:u32m (V1.reg 28+-(L+15))=base:=by rw[hsp];unfold u32m;omega
  by_cases k10:op=10
  .rw[if_pos k10] at hs2 hq⊢
   have hlab:labB name=true:=by
    have:namedS op=true:=by unfold namedS;rw[decide_eq_true_eq];exact k10
    rw[this] at hlb
    simpa using hlb
   have g1:=Zc6 cx.ok hs2.lo hs2.lt (V:=V1) (d:=28) (a:=28) (n:=-(L+15)) hs2.head (by decide) (by decide) (by decide);rw[hpop] at g1;have hh:I.xs[i+n1+1]?=some ⟨4,⟨0,0,0,0,0⟩,name,0⟩:=by
    rw[hs2.tail.head]
    show some (⟨4,⟨0,0,0,0,0⟩,owned obj name,0⟩:S.Item)=_
    rw[Zev obj hlab]
   have g2:=Zj6 cx.ok hs2.tail.lo hs2.tail.lt (V:=V1.set 28 base) hh;exact Zf7 cx (k:=4) (o:=.left (I.lab name) st1) ⟨_,g1.trans g2,hF1.mt.hid (by decide) _,Zh _ _ _,λ _ _ _=>rfl⟩ hq
  rw[if_neg k10] at hs2 hq⊢;by_cases k11:op=11
  .rw[if_pos k11] at hs2 hq⊢
   have h11:=hF1.val0 (by rw[hvl,hx0 (by omega)];decide);have g1:=Zc6 cx.ok hs2.lo hs2.lt (V:=V1) (d:=28) (a:=28) (n:=-(L+15)) hs2.head (by decide) (by decide) (by decide);rw[hpop] at g1;have g2:S.Go I (V1.set 28 base) (I.adr (i+n1+1)) 1 (V1.set 28 base) (vs.getD 0 0):=Zvm λ m hm=>by
    have g:=Zm5 cx.ok hs2.tail.lo hs2.tail.lt (V:=V1.set 28 base) (a:=11) (n:=0) hs2.tail.head (by decide);have hb:=hm.rbd (j:=11) (by decide) (by decide) (by decide);rw[Zd _ _ (by decide),h11] at hb;have e:u32m ((V1.set 28 base).reg 11+0)=vs.getD 0 0:=by rw[Zd _ _ (by decide),h11];unfold u32m;omega
    rw[e] at g;exact g
   exact Zf7 cx (k:=2) (o:=.left (vs.getD 0 0) st1) ⟨_,g1.trans g2,hF1.mt.hid (by decide) _,Zh _ _ _,λ _ _ _=>rfl⟩ hq
  rw[if_neg k11] at hq;exact absurd hq id
theorem Zdm:∀(r:List BS)(depth:Nat)(l:Int)(env:List Int)(V st:Vw)(i c:Nat)(Q:List Int->Vw->Nat->Prop) (R:BO->Nat->Prop),(env.length:Int)=L->chkSs L r depth=0->wpSs I dep lk behind r env st c Q R ->
 Seg I obj i (bStmts (L+15) L behind r l).1->Fm I V st base lk env []->OutS I V (I.adr i) (I.adr (i+(bStmts (L+15) L behind r l).1.length)) c L base lk behind Q R
 | [],depth,l,env,V,st,i,c,Q,R,hL,hc,hw,hs,hV=>by
  rw[wpSs] at hw;rw[bStmts];exact Zba cx (k:=0) (b:=I.adr i) (Zcq _ _ _) hw hL hV (Kp.refl _ _ _)
 | s::r,depth,l,env,V,st,i,c,Q,R,hL,hc,hw,hs,hV=>by
  rw[chkSs] at hc;have hb:chkS L s depth=0/\chkSs L r depth=0:=by
   by_cases h:chkS L s depth≠0
   .rw[if_pos h] at hc;exact absurd hc h
   .rw[if_neg h] at hc;exact⟨by simpa using h,hc⟩
  rw[wpSs] at hw;rw[bStmts] at hs⊢;simp only at hs⊢;have h1:=Zyp s depth l env V st i c _ R hL hb.1 hw hs.left hV;refine Zey h1 λ Zzx st1 c1 V1 hc1 hq1 hL1 hF1=>?_
  have h2:=Zdm r depth (bStmt (L+15) L behind s l).2 Zzx V1 st1 (i+(bStmt (L+15) L behind s l).1.length) c1 Q R hL1 hb.2 hq1 hs.right hF1;rw[Yc,<- Ybm];exact h2
end
end
end
section
section
variable {w w':World}{B p:Nat}{vm vo:Value}{A:Option Addr}{c:Nat}{inp:List Int}{rd:Nat}{m:Mach}
theorem Z7 (h:MAt w B p vm vo A c inp rd m):Calls prog 36 #[.pointer (some ⟨p,0,none⟩)] w λ e w'=>e=.returned (.bool true)/\w=w':=by
 obtain⟨g,cap,rfl,hg,_,_⟩:=h.memv;obtain⟨c32,_⟩:=h.cells;have hm:=h.ok.mem;have hlt:=h.lt;go_enter func36,ntmps36
 go_wp2_with fail
 go_ret
 exact⟨rfl,rfl⟩
theorem Zbb (d v:Int)(h:MAt w B p vm vo A c inp rd m)(h0:0<=d)(h1:d<32)(hv:0<=v/\v<=4294967295):Calls prog 41 #[.pointer (some ⟨p,0,none⟩),.int .i64 d,.int .u32 v] w
 λ e w'=>e=.returned (.tuple #[])/\MAt w' B p vm vo A c inp rd (m.put d v)/\Only (·=p) w w':=by
 have hlt:=h.lt;by_cases hd:d=0
 .have d1:(d != 0)=false:=by simp[hd]
  go_enter func41,ntmps41
  go_wp2_with fail
  refine bodyPost_end (v:=.tuple #[]) (by simp[results,results41,go_sem]) rfl ⟨rfl,?_,Only.refl _ _⟩;rw[Mach.put,if_pos hd];exact h
 .have d1:(d != 0)=true:=by simpa using hd
  have hp:=h.put (show 0<d by omega) h1 hv;obtain⟨k,rfl⟩:∃k:Nat,d=k:=⟨d.toNat,by omega⟩
  have hk:k<32:=by omega
  have hf:=h.fz k;have hc:=h.reg hk;have Hp:=Ya hp;clear hp hd;go_enter func41,ntmps41
  go_wp2_with fail
  refine bodyPost_end (v:=.tuple #[]) (by simp[results,results41,go_sem]) rfl ⟨rfl,?_,?_⟩
  .exact Hp.out
  .exact Only.setCell (F:=(·=p)) _ rfl _
theorem Zha (t:Int)(h:MAt w B p vm vo A c inp rd m):Calls prog 124 #[.pointer (some ⟨p,0,none⟩),.int .i64 t] w
 λ e w'=>e=.returned (.int .i64 2)/\MAt w' B p vm vo A c inp rd (m.fell t)/\Only (·=p) w w':=by
 have hp:=h.fell t;have hf:=h.fz 37;have hf':=h.fz 39;obtain⟨_,_,_,_,_,c37,_,c39,_⟩:=h.cells;have Hp:=Ya hp;have hlt:=h.lt;clear hp;go_enter func124,ntmps124
 go_wp2_with fail
 go_ret
 refine⟨rfl,Hp.out,?_⟩;exact(Only.setCell (F:=(·=p)) _ rfl _).trans (Only.setCell (F:=(·=p)) _ rfl _) (λ _ _ h=>h)
theorem Zep (a imm:Int)(h:MAt w B p vm vo A c inp rd m)(a0:0<=a/\a<=4294967295):Calls prog 200 #[.pointer (some ⟨p,0,none⟩),.int .u32 a,.int .i64 imm] w
 λ e w'=>e=.returned (.tuple #[.int .u32 (u32m (a+u32m imm)),.bool (decide (u32m (a+u32m imm)<m.mem.length))])/\∃n,w'=w.drewN n:=by
 obtain⟨g,cap,rfl,hg,_,_⟩:=h.memv;obtain⟨c32,_⟩:=h.cells;have hm:=h.ok.mem;have hlt:=h.lt;have hl:=h.low0;have hw:=Zet (a+u32m imm);have hu:=Zab (a+u32m imm);go_enter func200,ntmps200
 go_wp2_with fail
 refine(Zb5 _ _).mono ?_;rintro e w' ⟨rfl,rfl⟩;generalize hU:u32m (a+u32m imm)=U at *;obtain⟨u0,u1⟩:=hu;have hw1:IntKind.u64.wrap U=U:=by simp[Yci,Yb0,Yb9];omega
 have hw2:IntKind.u64.wrap (m.mem.length:Int)=m.mem.length:=by simp[Yci,Yb0,Yb9];omega
 go_wp2_with fail
 go_quiet (fail)
 go_wp2_with fail
 go_ret2
 exact⟨by rw[hU];rfl,_,rfl⟩
theorem Zii (h:MAt w B p vm vo A c inp rd m)(hi:m.input=[]):Calls prog 202 #[.pointer (some ⟨p,0,none⟩)] w
 λ e w'=>e=.returned (.int .u32 4294967295)/\∃n,w'=w.drewN n:=by
 obtain⟨_,_,c34,c35,_⟩:=h.cells;have hl:=h.left;have hr:=h.rdle;have hz:=h.inl;rw[hi] at hl;have he:rd=inp.length:=by
  have:=congrArg List.length hl;simp at this;omega
 have hd:((rd:Int)==inp.length)=true:=by simp[he]
 have hlt:=h.lt;clear hl hi he;go_enter func202,ntmps202
 go_wp2_with fail
 go_quiet (fail)
 go_wp2_with fail
 go_ret
 exact⟨rfl,_,rfl⟩
theorem Zij (h:MAt w B p vm vo A c inp rd m){x:Int}{r:List Int}(hi:m.input=x::r):Calls prog 202 #[.pointer (some ⟨p,0,none⟩)] w
 λ e w'=>e=.returned (.int .u32 x)/\MAt w' B p vm vo A c inp (rd+1) { m with input:=r }/\Only (·=p) w w':=by
 obtain⟨_,_,c34,c35,_⟩:=h.cells;have hl:=h.left;have hz:=h.inl;have hN:=h.readOn hi;have HN:=Ya hN;rw[hi] at hl;have hlt:rd<inp.length:=by
  refine Nat.lt_of_not_le λ hc=>?_
  rw[List.drop_eq_nil_of_le hc] at hl
  cases hl
 rw[List.drop_eq_getElem_cons hlt] at hl;have hx:(inp.map (Value.int .u8))[rd]?=some (.int .u8 x):=by
  rw[List.getElem?_map,List.getElem?_eq_getElem hlt,(List.cons.inj hl).1];rfl
 have hxb:0<=x/\x<=255:=h.ok.inp x (by rw[hi];exact Y4 ..);obtain⟨b,off,e,hb,hc⟩:=h.rin (by simp;omega);have hcx:=hc rd _ hx;have hdb:=h.d1 b off none e;subst e;have hd:((rd:Int)==inp.length)=false:=by simp;omega
 have hf:=h.fz 35;have hpl:=h.lt;have hbp:=hdb.1;obtain⟨x0,x1⟩:=hxb;have hw1:IntKind.u32.wrap x=x:=by simp[Yci,Yb0,Yb9];omega
 have hs1:((rd:Int)+1-1)=rd:=by omega
 have Hi:=Ya hi;clear hl hi hN HN hc hx hdb;go_enter func202,ntmps202
 go_wp2_with fail
 go_quiet (fail)
 go_upto_region 4 with fail
 have hN:=(h.drewN nq).readOn Hi.out;obtain⟨_,_,n34,n35,_⟩:=hN.cells;have hcx':((w.drewN nq).setCell ⟨p,35,none⟩ (.int .i64 ((rd:Int)+1))).cell? ⟨b,off+rd,none⟩=some (.int .u8 x):=by
  rw[<- hcx];exact Yan (w:=w) (a:=⟨b,off+rd,none⟩) (Below.heap_setCell _ _ _ _ hbp)
 have hO:Only (·=p) w ((w.drewN nq).setCell ⟨p,35,none⟩ (.int .i64 ((rd:Int)+1))):=(Only.drewN w nq).trans (Only.setCell (F:=(·=p)) _ rfl _) (λ _ _ h=>h);have HN:=Ya hN;generalize (w.drewN nq).setCell ⟨p,35,none⟩ (.int .i64 ((rd:Int)+1))=w1 at *;clear hN;go_wp2_with fail
 go_quiet (fail)
 go_wp2_with fail
 go_ret
 exact⟨rfl,HN.out.drewN _,hO.trans (Only.drewN _ _) (λ _ _ h=>h)⟩
end
end
section
theorem Zff (w:World)(cs:Array Value)(t:TypeId):(w.alloc (.cells cs t)).heap[w.heap.size]?=some (.cells cs t (0,0))/\Below w.heap.size w (w.alloc (.cells cs t))/\(w.alloc (.cells cs t)).heap.size=w.heap.size+1 :=
 ⟨heap_alloc_new _ _,(Below.refl _ _).alloc (Yd _) _,by simp⟩
theorem Z0 {w:World}{g:Nat}{cs:Array Value}{t:TypeId}(h:w.heap[g]?=some (.cells cs t (0,0)))(j:Nat):w.cell? ⟨g,j,none⟩=cs[j]?:=by simp[World.cell?,h]
theorem Only.cell {F:Nat->Prop}{w w':World}(h:Only F w w'){b:Nat}(hb:b<w.heap.size)(hn:¬F b)(o:Nat):w'.cell? ⟨b,o,none⟩=w.cell? ⟨b,o,none⟩:=Yan (w:=w) (a:=⟨b,o,none⟩) (h.block b hb hn)
theorem Znd (op:BinOp){a b:Int}(n:Nat)(h:bits op .u32 a b=(n:Int))(hn:n<4294967296):0<=bits op .u32 a b/\bits op .u32 a b<=4294967295:=by rw[h];omega
theorem Zxe {op a b:Int}(a0:0<=a)(a1:a<=4294967295)(b0:0<=b)(b1:b<=4294967295)(hz:¬(b=0/\(op=5\/op=6))):0<=alu op a b/\alu op a b<=4294967295:=by
 have ta:a.toNat<2^32:=by have:(2:Nat)^32=4294967296:=rfl;omega
 have tb:b.toNat<2^32:=by have:(2:Nat)^32=4294967296:=rfl;omega
 have p32:(2:Nat)^32=4294967296:=rfl;unfold alu;by_cases h1:op=1
 .rw[if_pos h1];exact Zab _
 rw[if_neg h1];by_cases h2:op=2
 .rw[if_pos h2];exact Zab _
 rw[if_neg h2];by_cases h3:op=3
 .rw[if_pos h3];exact Zab _
 rw[if_neg h3];by_cases h4:op=4
 .rw[if_pos h4]
  have hm:a*b<=4294967295*4294967295:=Int.mul_le_mul a1 b1 b0 (by omega);have hp:0<=a*b:=Int.mul_nonneg a0 b0;omega
 rw[if_neg h4];by_cases h5:op=5
 .rw[if_pos h5]
  have hb:0<b:=by
   rcases Int.lt_or_eq_of_le b0 with h|h
   .exact h
   .exact absurd ⟨h.symm,.inl h5⟩ hz
  exact⟨Ycm a0 b0,Yb8 (Ycz b a0) a1⟩
 rw[if_neg h5];by_cases h6:op=6
 .rw[if_pos h6]
  have hb:0<b:=by
   rcases Int.lt_or_eq_of_le b0 with h|h
   .exact h
   .exact absurd ⟨h.symm,.inr h6⟩ hz
  have:=Int.emod_lt_of_pos a hb;exact⟨Int.emod_nonneg a (by omega),by omega⟩
 rw[if_neg h6];by_cases h7:op=7
 .rw[if_pos h7];exact Znd _ _ (u32_and a0 a1 b0 b1) (by rw[<- p32];exact Nat.and_lt_two_pow _ tb)
 rw[if_neg h7];by_cases h8:op=8
 .rw[if_pos h8];exact Znd _ _ (u32_or a0 a1 b0 b1) (by rw[<- p32];exact Nat.or_lt_two_pow ta tb)
 rw[if_neg h8];by_cases h9:op=9
 .rw[if_pos h9];exact Znd _ _ (u32_xor a0 a1 b0 b1) (by rw[<- p32];exact Nat.xor_lt_two_pow ta tb)
 rw[if_neg h9];by_cases h10:op=10
 .rw[if_pos h10];exact Zab _
 rw[if_neg h10];by_cases h11:op=11
 .rw[if_pos h11]
  have hp:(0:Int)<=2^(b%32).toNat:=Int.le_of_lt (Int.pow_pos (by omega));exact⟨Ycm a0 hp,Yb8 (Ycz _ a0) a1⟩
 rw[if_neg h11];by_cases h12:op=12
 .rw[if_pos h12];exact Zab _
 rw[if_neg h12];by_cases h13:op=13
 .rw[if_pos h13];unfold truth;split <;> omega
 rw[if_neg h13];unfold truth;split <;> omega
theorem Zvs:(prog.info? 5).map (λ i=>(i.zero,i.size,i.bytes))=some (some (.int .u8 0),1,1):=by kernel_rfl
theorem Zj8 {a b:Int}(h:¬a=b):(a==b)=false:=by simp[h]
section
variable {w w':World}{B p:Nat}{vm vo:Value}{A:Option Addr}{c:Nat}{inp:List Int}{rd:Nat}{m:Mach}
def Zxf (w:World)(B p:Nat)(vm vo:Value)(A:Option Addr)(c:Nat)(inp:List Int)(r:Mach×Int×Int)(e:Ending)(w':World):Prop :=
 e=.returned (.tuple #[.int .u32 r.2.1,.int .i64 r.2.2])/\∃vo' rd',MAt w' B p vm vo' A c inp rd' r.1/\Only (Zai p vm vo) w w'/\(vo'.ownBlock=vo.ownBlock\/∃k,w.heap.size<=k/\vo'.ownBlock=some k)
theorem Zcx (h:Only (·=p) w w'):Only (Zai p vm vo) w w':=h.weaken λ k _ e=>.inl e
theorem Zbk {r:Mach×Int×Int}{m':Mach}{tt trap:Int}{rd':Nat}(hr:r=(m',tt,trap))(h:MAt w' B p vm vo A c inp rd' m')(ho:Only (Zai p vm vo) w w'):Zxf w B p vm vo A c inp r (.returned (.tuple #[.int .u32 tt,.int .i64 trap])) w':=by
 subst hr;exact⟨rfl,vo,rd',h,ho,.inl rfl⟩
theorem Zyq (op d a b imm:Int)(h:MAt w B p vm vo A c inp rd m)(ho:1<=op/\op<=36)(hd:0<=d/\d<32)(ha:0<=a/\a<32)(hb:0<=b/\b<32)(hol:m.out.length<=1000000000) :
 Calls prog 126 #[.pointer (some ⟨p,0,none⟩),.agg #[.int .i64 op,.int .i64 d,.int .i64 a,.int .i64 b,.int .i64 imm]] w (Zxf w B p vm vo A c inp (m.act ⟨op,d,a,b,imm⟩)):=by
 obtain⟨na,rfl⟩:∃k:Nat,a=k:=⟨a.toNat,by omega⟩
 obtain⟨nb,rfl⟩:∃k:Nat,b=k:=⟨b.toNat,by omega⟩
 have hna:na<32:=by omega
 have hnb:nb<32:=by omega
 have hact:m.act ⟨op,d,na,nb,imm⟩=m.act ⟨op,d,na,nb,imm⟩:=rfl;go_enter func126,ntmps126
 go_upto_region 1 with fail
 obtain⟨x1,x2,x3⟩:=Zff w #[.int .i64 op,.int .i64 d,.int .i64 na,.int .i64 nb,.int .i64 imm] 133;generalize w.alloc (.cells #[.int .i64 op,.int .i64 d,.int .i64 na,.int .i64 nb,.int .i64 imm] 133)=wb at *;have q0:wb.cell? ⟨w.heap.size,0,none⟩=some (.int .i64 op):=by rw[Z0 x1];rfl
 have q1:wb.cell? ⟨w.heap.size,1,none⟩=some (.int .i64 d):=by rw[Z0 x1];rfl
 have q2:wb.cell? ⟨w.heap.size,2,none⟩=some (.int .i64 na):=by rw[Z0 x1];rfl
 have q3:wb.cell? ⟨w.heap.size,3,none⟩=some (.int .i64 nb):=by rw[Z0 x1];rfl
 have q4:wb.cell? ⟨w.heap.size,4,none⟩=some (.int .i64 imm):=by rw[Z0 x1];rfl
 have hM:=h.below x2;have gb:w.heap.size<wb.heap.size:=by omega
 have hO:Only (Zai p vm vo) w wb:=Only.of_below x2;have hnf:¬Zai p vm vo w.heap.size:=λ hf=>by have:=(h.foot_lt hf).2;omega
 have r1:=hM.reg hna;have r2:=hM.reg hnb;have hav:=h.ok.word na;have hbv:=h.ok.word nb;have hpl:=h.ok.place0;have hpl':=h.ok.place1;have hpw:=hM.lt;obtain⟨_,c33,_⟩:=hM.cells;have hwr:=Zet (m.place+1);have Hrd:Hid (m.rd na=m.reg.getD na 0/\m.rd nb=m.reg.getD nb 0):=Ya ⟨by simp[Mach.rd],by simp[Mach.rd]⟩;clear x1 x2 x3 hact;generalize m.reg.getD na 0=av at *;generalize m.reg.getD nb 0=bv at *;obtain⟨a0,a1⟩:=hav;obtain⟨b0,b1⟩:=hbv;go_wp2_with fail
 go_quiet (fail)
 go_upto_region 2 with fail
 have hM1:=hM.drewN nq;have hO1:=hO.trans (Only.drewN (F:=Zai p vm vo) wb nq) (λ _ _ h=>h);have gb1:w.heap.size<(wb.drewN nq).heap.size:=gb;have q0':(wb.drewN nq).cell? ⟨w.heap.size,0,none⟩=some (.int .i64 op):=q0;have q1':(wb.drewN nq).cell? ⟨w.heap.size,1,none⟩=some (.int .i64 d):=q1;have q4':(wb.drewN nq).cell? ⟨w.heap.size,4,none⟩=some (.int .i64 imm):=q4;generalize wb.drewN nq=w1 at *;clear q0 q1 q2 q3 q4 r1 r2 hM hO gb c33 hwr;have hpw:=hM1.lt;have hub:=Zab (m.place+1);have hib:=Zab imm;obtain⟨i0,i1⟩:=hib;obtain⟨u0,u1⟩:=hub;go_upto_region 4 with fail
 have hcase:(op<=14/\bv=0/\(op=5\/op=6))\/(op<=14/\¬(bv=0/\(op=5\/op=6)))\/(15<=op/\op<=22)\/op=23\/op=24\/op=25\/(26<=op/\op<=31)\/op=32\/op=33\/op=34\/op=35\/op=36:=by omega
 rcases hcase with⟨k1,k2,k3⟩|⟨k1,k2⟩|⟨k1,k2⟩|k1|k1|k1|⟨k1,k2⟩|k1|k1|k1|k1|k1
 .have Hact:=Ya (show m.act ⟨op,d,na,nb,imm⟩=(m,0,4) by
   simp only[Mach.act,Hrd.out.2,if_pos k1,if_pos (And.intro k2 k3)])
  subst k2;go_wp2_with fail
  refine(Z03 _ _ _ k3).mono ?_;rintro e w2 ⟨rfl,rfl⟩;go_wp2_with fail
  go_ret2
  exact Zbk Hact.out hM1 hO1
 .have Hact:=Ya (show m.act ⟨op,d,na,nb,imm⟩=(m.put d (alu op av bv),u32m (m.place+1),0) by
   simp only[Mach.act,Hrd.out.1,Hrd.out.2,if_pos k1,if_neg k2])
  have hab:=Zxe (op:=op) a0 a1 b0 b1 k2;have K2:=Ya k2;clear k2;go_wp2_with fail
  refine(Z02 _ _ _ _ a0 a1 b0 b1 ⟨ho.1,k1⟩ K2.out).mono ?_;rintro e w2 ⟨rfl,rfl⟩;go_wp2_with fail
  refine(Zbb _ _ hM1 hd.1 hd.2 hab).mono ?_;rintro e w3 ⟨rfl,hM3,hO3⟩;go_wp2_with fail
  go_ret2
  exact Zbk Hact.out hM3 (hO1.trans (Zcx hO3) (λ _ _ h=>h))
 .have n14:¬op<=14:=by omega
  have p23:op<=23:=by omega
  have Hact:=Ya (show m.act ⟨op,d,na,nb,imm⟩=(m.put d (alu (like op) av (u32m imm)),u32m (m.place+1),0) by
   simp only[Mach.act,Hrd.out.1,if_neg n14,if_pos k2])
  have hab:=Zxe (op:=like op) (a:=av) (b:=u32m imm) a0 a1 i0 i1 (by unfold like;split <;> omega);go_wp2_with fail
  refine(Zb5 _ _).mono ?_;rintro e w2 ⟨rfl,rfl⟩;go_wp2_with fail
  refine(Z04 _ _ _ _ a0 a1 i0 i1 ⟨k1,k2⟩).mono ?_;rintro e w2 ⟨rfl,rfl⟩;go_wp2_with fail
  refine(Zbb _ _ hM1 hd.1 hd.2 hab).mono ?_;rintro e w3 ⟨rfl,hM3,hO3⟩;go_wp2_with fail
  go_ret2
  exact Zbk Hact.out hM3 (hO1.trans (Zcx hO3) (λ _ _ h=>h))
 .subst k1
  have Hact:=Ya (show m.act ⟨23,d,na,nb,imm⟩=(m.put d (u32m (u32m imm*65536)),u32m (m.place+1),0) by
   simp[Mach.act])
  have hab:=Zab (u32m imm*65536);go_wp2_with fail
  refine(Zb5 _ _).mono ?_;rintro e w2 ⟨rfl,rfl⟩;go_wp2_with fail
  refine(Z05 _ _ _ i0 i1).mono ?_;rintro e w2 ⟨rfl,rfl⟩;go_wp2_with fail
  refine(Zbb _ _ hM1 hd.1 hd.2 hab).mono ?_;rintro e w3 ⟨rfl,hM3,hO3⟩;go_wp2_with fail
  go_ret2
  exact Zbk Hact.out hM3 (hO1.trans (Zcx hO3) (λ _ _ h=>h))
 .subst k1
  have hAt:=Zab (av+u32m imm);by_cases hin:u32m (av+u32m imm)<m.mem.length
  .have Hact:=Ya (show m.act ⟨24,d,na,nb,imm⟩=(m.put d (m.mem.getD (u32m (av+u32m imm)).toNat 0),u32m (m.place+1),0) by
    simp[Mach.act,Hrd.out.1,hin])
   obtain⟨t,ht⟩:∃t:Nat,u32m (av+u32m imm)=t:=⟨(u32m (av+u32m imm)).toNat,by omega⟩
   have hdt:decide (u32m (av+u32m imm)<m.mem.length)=true:=by simpa using hin
   have htl:t<m.mem.length:=by omega
   rw[ht,Ybl] at Hact;have Ht:=Ya ht;go_wp2_with fail
   refine(Zep _ _ hM1 ⟨a0,a1⟩).mono ?_;rintro e w2 ⟨rfl,n2,rfl⟩;rw[hdt];rw[Ht.out];have hM2:=hM1.drewN n2;have hO2:=hO1.trans (Only.drewN (F:=Zai p vm vo) w1 n2) (λ _ _ h=>h);have q1':(w1.drewN n2).cell? ⟨w.heap.size,1,none⟩=some (.int .i64 d):=q1';have gb2:w.heap.size<(w1.drewN n2).heap.size:=gb1;clear hin hdt ht hAt;generalize w1.drewN n2=w2 at *;obtain⟨g,cap,hvm,hg,hmc,_⟩:=hM2.memv;have hmt:=hmc t htl;have hmw:=h.ok.memw t;obtain⟨c32,_⟩:=hM2.cells;rw[hvm] at c32;have hpw2:=hM2.lt;clear hmc;generalize m.mem.getD t 0=mv at *;go_wp2_with fail
   have hE:=Zo w2;refine Zar 10 1 [0,1,2,3,4,5,6,7,8,9] (by kernel_rfl) (by kernel_rfl) (λ _ _ _ _ _ h=>h) ?_
   repeat (first
    | (refine Zgh rfl ?_;go_big_quiet_step (fail)))
   refine wpQuiet_nil ?_;rintro _ ⟨⟨w4,hb4⟩,rfl⟩;simp only[List.drop_succ_cons,List.drop_zero];clear hE;have hM4:=hM2.below hb4;go_wp2_with fail
   refine(Zbb _ _ hM4 hd.1 hd.2 hmw).mono ?_;rintro e w3 ⟨rfl,hM3,hO3⟩;go_wp2_with fail
   go_ret2
   exact Zbk Hact.out hM3 ((hO2.trans (Only.of_below hb4) (λ _ _ h=>h)).trans (Zcx hO3) (λ _ _ h=>h))
  .have Hact:=Ya (show m.act ⟨24,d,na,nb,imm⟩=(m,0,2) by
    simp[Mach.act,Hrd.out.1,hin])
   have hdt:decide (u32m (av+u32m imm)<m.mem.length)=false:=by simpa using hin
   go_wp2_with fail
   refine(Zep _ _ hM1 ⟨a0,a1⟩).mono ?_;rintro e w2 ⟨rfl,n2,rfl⟩;rw[hdt];clear hin hdt;go_wp2_with fail
   go_ret2
   exact Zbk Hact.out (hM1.drewN n2) (hO1.trans (Only.drewN (F:=Zai p vm vo) w1 n2) (λ _ _ h=>h))
 .subst k1
  have hAt:=Zab (av+u32m imm);by_cases hin:u32m (av+u32m imm)<m.mem.length
  .have Hact:=Ya (show m.act ⟨25,d,na,nb,imm⟩=({ m with mem:=m.mem.set (u32m (av+u32m imm)).toNat bv },u32m (m.place+1),0) by
    simp[Mach.act,Hrd.out.1,Hrd.out.2,hin])
   obtain⟨t,ht⟩:∃t:Nat,u32m (av+u32m imm)=t:=⟨(u32m (av+u32m imm)).toNat,by omega⟩
   have hdt:decide (u32m (av+u32m imm)<m.mem.length)=true:=by simpa using hin
   have htl:t<m.mem.length:=by omega
   rw[ht,Ybl] at Hact;have Ht:=Ya ht;go_wp2_with fail
   refine(Zep _ _ hM1 ⟨a0,a1⟩).mono ?_;rintro e w2 ⟨rfl,n2,rfl⟩;rw[hdt];rw[Ht.out];have hM2:=hM1.drewN n2;have hO2:=hO1.trans (Only.drewN (F:=Zai p vm vo) w1 n2) (λ _ _ h=>h);clear hin hdt ht hAt;generalize w1.drewN n2=w2 at *;obtain⟨g,cap,hvm,hg,hmc,hfz⟩:=hM2.memv;have hmt:=hmc t htl;have hft:=hfz t;have hS:=hM2.sw hvm ⟨b0,b1⟩ htl;obtain⟨c32,_⟩:=hM2.cells;have Hvm:=Ya hvm;rw[hvm] at c32;have hpw2:=hM2.lt;have HS:=Ya hS;clear hmc hS hvm hfz;go_wp2_with fail
   go_ret2
   exact Zbk Hact.out HS.out (hO2.trans (Only.setCell _ (show Zai p vm vo g from .inr (.inl (by rw[Hvm.out];rfl))) _) (λ _ _ h=>h))
  .have Hact:=Ya (show m.act ⟨25,d,na,nb,imm⟩=(m,0,2) by
    simp[Mach.act,Hrd.out.1,hin])
   have hdt:decide (u32m (av+u32m imm)<m.mem.length)=false:=by simpa using hin
   go_wp2_with fail
   refine(Zep _ _ hM1 ⟨a0,a1⟩).mono ?_;rintro e w2 ⟨rfl,n2,rfl⟩;rw[hdt];clear hin hdt;go_wp2_with fail
   go_ret2
   exact Zbk Hact.out (hM1.drewN n2) (hO1.trans (Only.drewN (F:=Zai p vm vo) w1 n2) (λ _ _ h=>h))
 .have n14:¬op<=14:=by omega
  have n22:¬op<=22:=by omega
  have n23:¬op<=23:=by omega
  have e23:¬op=23:=by omega
  have e24:¬op=24:=by omega
  have e25:¬op=25:=by omega
  have d24:=Zj8 e24;have d25:=Zj8 e25
  cases hg:goes op av bv
  .have Hact:=Ya (show m.act ⟨op,d,na,nb,imm⟩=(m,u32m (m.place+1),0) by
    simp[Mach.act,Hrd.out.1,Hrd.out.2,n14,n22,e23,e24,e25,k2,hg])
   have Hg:=Ya hg;clear hg e23 e24 e25;go_wp2_with fail
   refine(Zll _ _ _ _ a0 a1 b0 b1).mono ?_;rintro e w2 ⟨rfl,rfl⟩;rw[Hg.out];go_wp2_with fail
   go_ret2
   exact Zbk Hact.out hM1 hO1
  .have Hact:=Ya (show m.act ⟨op,d,na,nb,imm⟩=(m,u32m (u32m (m.place+1)+u32m imm),0) by
    simp[Mach.act,Hrd.out.1,Hrd.out.2,n14,n22,e23,e24,e25,k2,hg])
   have Hg:=Ya hg;have hwr:=Zet (u32m (m.place+1)+u32m imm);clear hg e23 e24 e25;go_wp2_with fail
   refine(Zll _ _ _ _ a0 a1 b0 b1).mono ?_;rintro e w2 ⟨rfl,rfl⟩;rw[Hg.out];go_wp2_with fail
   refine(Zb5 _ _).mono ?_;rintro e w2 ⟨rfl,rfl⟩;go_wp2_with fail
   go_ret2
   exact Zbk Hact.out hM1 hO1
 .subst k1
  have Hact:=Ya (show m.act ⟨32,d,na,nb,imm⟩=(m.put d (u32m (m.place+1)),u32m (u32m (m.place+1)+u32m imm),0) by
   simp[Mach.act])
  have hwr:=Zet (u32m (m.place+1)+u32m imm);go_wp2_with fail
  refine(Zbb _ _ hM1 hd.1 hd.2 ⟨u0,u1⟩).mono ?_;rintro e w3 ⟨rfl,hM3,hO3⟩;have q4:=(hO3.cell gb1 (λ e=>hnf (.inl e)) 4).trans q4';have gb3:w.heap.size<w3.heap.size:=by have:=hO3.size;omega
  go_wp2_with fail
  refine(Zb5 _ _).mono ?_;rintro e w2 ⟨rfl,rfl⟩;go_wp2_with fail
  go_ret2
  exact Zbk Hact.out hM3 (hO1.trans (Zcx hO3) (λ _ _ h=>h))
 .subst k1
  have Hact:=Ya (show m.act ⟨33,d,na,nb,imm⟩=(m.put d (u32m (m.place+1)),u32m (av+u32m imm),0) by
   simp[Mach.act,Hrd.out.1])
  have hwr:=Zet (av+u32m imm);go_wp2_with fail
  refine(Zbb _ _ hM1 hd.1 hd.2 ⟨u0,u1⟩).mono ?_;rintro e w3 ⟨rfl,hM3,hO3⟩;have q4:=(hO3.cell gb1 (λ e=>hnf (.inl e)) 4).trans q4';have gb3:w.heap.size<w3.heap.size:=by have:=hO3.size;omega
  go_wp2_with fail
  refine(Zb5 _ _).mono ?_;rintro e w2 ⟨rfl,rfl⟩;go_wp2_with fail
  go_ret2
  exact Zbk Hact.out hM3 (hO1.trans (Zcx hO3) (λ _ _ h=>h))
 .subst k1
  cases hin:m.input with
  | nil =>
   have Hact:=Ya (show m.act ⟨34,d,na,nb,imm⟩=(m.put d 4294967295,u32m (m.place+1),0) by
    simp[Mach.act,hin])
   have Hin:=Ya hin;clear hin;have hMd:=hM1.drew;have hOd:=hO1.trans (Only.drew (F:=Zai p vm vo) w1) (λ _ _ h=>h);have hff:(0:Int)<=4294967295/\(4294967295:Int)<=4294967295:=by decide
   go_upto_region 32 with fail
   go_region_with (first
    | (go_at_call 202;refine(Zii hMd Hin.out).mono ?_;rintro e w2 ⟨rfl,n2,rfl⟩)
    | (go_at_call 41;refine(Zbb _ _ (hM1.drewN _) hd.1 hd.2 hff).mono ?_;rintro e w3 ⟨rfl,hM3,hO3⟩))
   all_goals
    go_wp2_with fail
    go_ret2
    exact Zbk Hact.out hM3 ((hO1.trans (Only.drewN (F:=Zai p vm vo) w1 _) (λ _ _ h=>h)).trans (Zcx hO3) (λ _ _ h=>h))
  | cons x r =>
   have Hact:=Ya (show m.act ⟨34,d,na,nb,imm⟩=(({ m with input:=r }:Mach).put d x,u32m (m.place+1),0) by
    simp[Mach.act,hin])
   have Hin:=Ya hin;have hxr:0<=x/\x<=4294967295:=by have:=h.ok.inp x (by rw[hin];exact Y4 ..);omega
   clear hin;have hMd:=hM1.drew;have hOd:=hO1.trans (Only.drew (F:=Zai p vm vo) w1) (λ _ _ h=>h);go_upto_region 32 with fail
   go_region_with (first
    | (go_at_call 202;refine(Zij hMd Hin.out).mono ?_;rintro e w2 ⟨rfl,hM2,hO2⟩;have q1b:w2.cell? ⟨w.heap.size,1,none⟩=some (.int .i64 d):=(hO2.cell (show w.heap.size<w1.drew.heap.size from gb1) (λ e=>hnf (.inl e)) 1).trans q1';have gb2:w.heap.size<w2.heap.size:=Nat.lt_of_lt_of_le gb1 hO2.size)
    | (go_at_call 41;refine(Zbb _ _ hM2 hd.1 hd.2 hxr).mono ?_;rintro e w3 ⟨rfl,hM3,hO3⟩))
   all_goals
    go_wp2_with fail
    go_ret2
    exact Zbk Hact.out hM3 ((hOd.trans (Zcx hO2) (λ _ _ h=>h)).trans (Zcx hO3) (λ _ _ h=>h))
 .subst k1
  have Hact:=Ya (show m.act ⟨35,d,na,nb,imm⟩=({ m with out:=m.out++[av%256] },u32m (m.place+1),0) by
   simp[Mach.act,Hrd.out.1])
  have hw8:IntKind.u8.wrap av=av%256:=by simp[Yci,Yb0,Yb9]
  have hx8:0<=av%256/\av%256<=255:=by omega
  have hrow:=hM1.out;obtain⟨_,_,_,_,c36,_⟩:=hM1.cells;have f36:=hM1.fz 36;have hlow:=hM1.low;have hdp:=hM1.d2.2;generalize av%256=xv at *;go_wp2_with (at_builtin;go_loud (refine Zk rfl (.tmp 181) (.tmp 184) _ rfl B 5 Zvs underlying46 rfl (by decide) #[.int .u8 xv] _ _ _ rfl hrow rfl rfl rfl (by simp[Value.oneCell']) (by simp only[maxLen];omega) (by omega) (by omega) ?_);intro v' w5 ho5 hg5 hb5 hat5;obtain⟨A5,c5,rfl⟩:=Za ho5;go_loud (have hc5:w5.cell? ⟨p,36,none⟩=some vo:=(Yan (w:=w1) (a:=⟨p,36,none⟩) (hg5.block p hpw (λ e=>hdp e.symm))).trans c36);go_loud (have hf5:w5.frozen? ⟨p,36,none⟩=false:=(World.frozen?_of_block (w:=w1) (a:=⟨p,36,none⟩) (hg5.block p hpw (λ e=>hdp e.symm))).trans f36);go_loud (have hp5:p<w5.heap.size:=by have:=hg5.size;omega))
  go_ret2
  have hb':(Value.slice A5 (m.out.length+1) c5).ownBlock=vo.ownBlock\/∃k,w1.heap.size<=k/\(Value.slice A5 (m.out.length+1) c5).ownBlock=some k:=by
   rcases hat5 with e|e
   .exact .inl e
   .exact .inr ⟨_,by omega,e⟩
  have hT:=hM1.told hx8 ho5 hg5 hb';rw[Hact.out];refine⟨rfl,_,rd,hT,hO1.trans ((Only.of_grown (F:=Zai p vm vo) hg5 (λ k e=>.inr (.inr e))).trans (Only.setCell (F:=Zai p vm vo) _ (.inl rfl) _) (λ _ _ h=>h)) (λ _ _ h=>h),?_⟩;rcases hb' with e|⟨k,hk,e⟩
  .exact .inl e
  .exact .inr ⟨k,by have:=hO1.size;omega,e⟩
 .subst k1
  have Hact:=Ya (show m.act ⟨36,d,na,nb,imm⟩=({ m with state:=1,code:=av },m.place,0) by
   simp[Mach.act,Hrd.out.1])
  have hH:=hM1.halted (a:=av) ⟨a0,a1⟩;have HH:=Ya hH;obtain⟨_,c33,_,_,_,c37,c38,_,_⟩:=hM1.cells;have f37:=hM1.fz 37;have f38:=hM1.fz 38;clear hH;go_wp2_with fail
  go_ret2
  exact Zbk Hact.out HH.out (hO1.trans ((Only.setCell (F:=Zai p vm vo) _ (.inl rfl) _).trans (Only.setCell (F:=Zai p vm vo) _ (.inl rfl) _) (λ _ _ h=>h)) (λ _ _ h=>h))
end
end
