/- Parts. -/
import Derived.Test.YtcjhmiijbojgeaaGreatDoorZQb
import Derived.Maps.OwnOps
import Derived.Maps.OwnSet
import Derived.WideShapes
import Derived.Deep.DeepCutAuto
import Derived.BigQuiet
import Derived.Deep.QuietTactic
import Derived.Great.BuildSlice
set_option linter.all false
set_option maxHeartbeats 2000000
open Go.Lib renaming hid->Ya
open Nat renaming le_refl->Yc,lt_of_lt_of_le->Ys,le_trans->Yz,zero_add->Y2,add_sub_cancel_left->Yac,add_zero->Ybe,add_assoc->Ybg
open List renaming length_append->Yd,getElem?_eq_getElem->Ye,getElem?_eq_some_iff->Yg,length_cons->Yk,getElem?_append_left->Yn,getElem?_append_right->Yo,mem_cons->Yr,mem_cons_self->Yw,mem_cons_of_mem->Y0,mem_of_getElem?->Y1,cons_append->Y9,length_nil->Yad,getElem?_map->Yaf,take_add_one->Yan,getElem?_cons_zero->Yaw,append_nil->Yax,flatMap_cons->Yaz,nodup_cons->Ybs,range->Yb7,getElem_of_mem->Yb9
open Bool renaming and_eq_true->Yq,not_eq_true->Ycb
open Option renaming isSome_iff_exists->Y7
open Go.IntKind renaming signed->Yb5,bits->Ycm,wrap->Ycv
namespace Go.Proofs.YtcjhmiijbojgeaaGreatDoor
open S Go.Proofs.Tryz Go.RowKit
set_option maxRecDepth 100000
namespace S
inductive BO where
 | ret (st:Vw)
 | halt (code:Int) (st:Vw)
 | left (tq:Int) (st:Vw)
structure Mt (I:Img)(V st:Vw):Prop where
 vis:∀n,visB n=true->V.reg n=st.reg n
 mem:∀a,0<=a->a<I.size->¬I.stk a->V.mem a=st.mem a
 inp:V.inp=st.inp
 out:V.out=st.out
structure Fr (V:Vw)(base lk:Int)(env ts:List Int):Prop where
 lk:V.mem base=lk
 env:∀k,k<env.length->V.mem (base+1+k)=env.getD k 0
 ts:∀k,k<ts.length->V.reg (11+k)=ts.getD k 0
def Kp (I:Img)(base:Int)(V V':Vw):Prop:=∀a,I.lo<=a->a<base->V'.mem a=V.mem a
def backTo (behind:Bool)(V:Vw)(ret:Int):Int:=if behind=true then u32m (u32m (ret+V.mem ret)+1) else ret
def Done (I:Img)(V:Vw)(a:Int)(k:Nat)(top ret:Int)(behind:Bool):BO->Prop
 | .ret st=>∃V',Go I V a k V' (backTo behind V' ret)/\Mt I V' st/\V'.reg 28=top/\Kp I top V V'
 | .halt code st=>∃V',GoH I V a k V' code/\Mt I V' st
 | .left tq st=>∃V',Go I V a k V' tq/\Mt I V' st/\V'.reg 28=top/\Kp I top V V'
def Real (I:Img)(name:ByteArray)(behind:Bool)(st:Vw)(d:Int)(R:Int->BO->Nat->Prop):Prop :=
 ∀V top ret,Mt I V st->V.reg 28=top->V.reg 31=ret->0<=ret->ret<I.size->I.lo<=top->top+d<=I.hi->∃o k,R ret o k/\Done I V (I.lab name) k top ret behind o
def Vw.args (st:Vw)(vs:List Int):Vw:={ st with reg:=λ j=>if 4<=j/\j<4+vs.length then vs.getD (j-4).toNat 0 else st.reg j }
def Vw.regs (st:Vw):List Int->List Int->Vw
 | n::r,v::vs=>(st.set n v).regs r vs
 | _,_=>st
def wpOp (I:Img)(dep lk:Int)(op n:Int)(name:ByteArray)(at_:Nat)(env vs:List Int)(st:Vw)(c:Nat)(Q:Int->Vw->Nat->Prop)(H:Int->Vw->Nat->Prop):Prop :=
 if op=1 then Q (n%4294967296) st (c+2)
 else if op=2 then Q (env.getD n.toNat 0) st (c+1)
 else if op=3 then Q (st.reg n) st (c+1)
 else if op=4 then(vs.getD 1 0=0->n≠5/\n≠6)/\Q (alu n (vs.getD 0 0) (vs.getD 1 0)) st (c+1)
 else if op=5 then u32m (vs.getD 0 0+n)<I.size/\¬I.stk (u32m (vs.getD 0 0+n))/\Q (st.mem (u32m (vs.getD 0 0+n))) st (c+1)
 else if op=6 then ∃d R,Real I name false (st.args vs) d R/\d<=dep/\∀ret o k,R ret o k->(match o with
  | .ret st2=>Q (st2.reg 4) st2 (c+2*at_+vs.length+4+k)
  | .halt code st2=>H code st2 (c+2*at_+vs.length+4+k)
  | .left _ _=>False)
 else if op=7 then Q (if vs.getD 0 0=vs.getD 1 0 then 1 else 0) st (c+3)
 else if op=8 then Q (inByte st.inp) { st with inp:=st.inp.tail } (c+1)
 else if op=9 then Q (I.lab name) st (c+2)
 else if op=10 then Q lk st (c+1)
 else False
mutual
def wpE (I:Img)(dep lk:Int)(env:List Int):BE->Nat->Vw->Nat->(Int->Vw->Nat->Prop)->(Int->Vw->Nat->Prop)->Prop
 | .mk op n name kids,at_,st,c,Q,H=>wpEs I dep lk env kids at_ st c (λ vs st1 c1=>wpOp I dep lk op n name at_ env vs st1 c1 Q H) H
def wpEs (I:Img)(dep lk:Int)(env:List Int):List BE->Nat->Vw->Nat->(List Int->Vw->Nat->Prop)->(Int->Vw->Nat->Prop)->Prop
 | [],_,st,c,Q,_=>Q [] st c
 | e::r,at_,st,c,Q,H=>wpE I dep lk env e at_ st c (λ v st1 c1=>wpEs I dep lk env r (at_+1) st1 c1 (λ vs st2 c2=>Q (v::vs) st2 c2) H) H
end
mutual
def wpS (I:Img)(dep lk:Int)(behind:Bool):BS->List Int->Vw->Nat->(List Int->Vw->Nat->Prop)->(BO->Nat->Prop)->Prop
 | .mk op n name exprs regs body els,env,st,c,Q,R =>
  if op=4 then
   ∃J:List Int->Vw->Nat->Nat->Prop,(∃k,J env st c k)/\∀env st c k,J env st c k ->
    wpEs I dep lk env exprs 0 st c (λ vs st1 c1=>if vs.getD 0 0=0 then Q env st1 (c1+4) else
     wpSs I dep lk behind body env st1 (c1+4) (λ Zhs st2 c2=>∃k2,k2<k/\J Zhs st2 (c2+3) k2) R) (λ code st c=>R (.halt code st) c)
  else
   wpEs I dep lk env exprs 0 st c (λ vs st1 c1 =>
    if op=1 then Q (env.set n.toNat (vs.getD 0 0)) st1 (c1+1)
    else if op=2 then u32m (vs.getD 0 0+n)<I.size/\¬I.stk (u32m (vs.getD 0 0+n))/\¬I.code (u32m (vs.getD 0 0+n))/\Q env (st1.sto (u32m (vs.getD 0 0+n)) (vs.getD 1 0)) (c1+1)
    else if op=3 then(if vs.getD 0 0=0 then wpSs I dep lk behind els env st1 (c1+4) Q R else wpSs I dep lk behind body env st1 (c1+4) (λ Zhs st2 c2=>Q Zhs st2 (c2+3)) R)
    else if op=5 then R (.ret (st1.regs regs vs)) (c1+regs.length+(if behind=true then 5 else 3))
    else if op=6 then Q env st1 c1
    else if op=7 then Q env { st1 with out:=st1.out++[vs.getD 0 0%256] } (c1+1)
    else if op=8 then R (.halt (vs.getD 0 0) st1) (c1+1)
    else if op=9 then Q env (st1.set n (vs.getD 0 0)) (c1+1)
    else if op=10 then R (.left (I.lab name) st1) (c1+4)
    else if op=11 then R (.left (vs.getD 0 0) st1) (c1+2)
    else False) (λ code st c=>R (.halt code st) c)
def wpSs (I:Img)(dep lk:Int)(behind:Bool):List BS->List Int->Vw->Nat->(List Int->Vw->Nat->Prop)->(BO->Nat->Prop)->Prop
 | [],env,st,c,Q,_=>Q env st c
 | s::r,env,st,c,Q,R=>wpS I dep lk behind s env st c (λ Z1c st1 c1=>wpSs I dep lk behind r Z1c st1 c1 Q R) R
end
structure Seg (I:Img)(obj:ByteArray)(i:Nat)(ys:List Item):Prop where
 at_:∀k x,ys[k]?=some x->I.xs[i+k]?=some (ownItem obj x)
 lo:I.i0<=i
 hi:i+ys.length<=I.i1
end S
theorem S.Seg.left {I:S.Img}{obj:ByteArray}{i:Nat}{ys d:List S.Item}(h:S.Seg I obj i (ys++d)):S.Seg I obj i ys :=
 ⟨λ k x b=>h.at_ k x (by rw[Yn (Yg.1 b).1];exact b),h.lo,by have:=h.hi;rw[Yd] at this;omega⟩
theorem S.Seg.right {I:S.Img}{obj:ByteArray}{i:Nat}{ys b:List S.Item}(h:S.Seg I obj i (ys++b)):S.Seg I obj (i+ys.length) b :=
 ⟨λ k x d=>by
  have:=h.at_ (ys.length+k) x (by rw[Yo (by omega),Yac];exact d);rw[<- Ybg] at this;exact this,by have:=h.lo;omega,by have:=h.hi;rw[Yd] at this;omega⟩
theorem S.Seg.head {I:S.Img}{obj:ByteArray}{i:Nat}{y:S.Item}{ys:List S.Item}(h:S.Seg I obj i (y::ys)):I.xs[i]?=some (S.ownItem obj y):=h.at_ 0 y rfl
theorem S.Seg.tail {I:S.Img}{obj:ByteArray}{i:Nat}{y:S.Item}{ys:List S.Item}(h:S.Seg I obj i (y::ys)):S.Seg I obj (i+1) ys:=S.Seg.right (ys:=[y]) h
theorem S.Seg.lt {I:S.Img}{obj:ByteArray}{i:Nat}{y:S.Item}{ys:List S.Item}(h:S.Seg I obj i (y::ys)):i<I.i1:=by have:=h.hi;simp at this;omega
theorem Zfl (obj:ByteArray){s:ByteArray}(h:labB s=true):owned obj s=s:=by
 unfold owned;rw[if_neg];intro b;unfold labB dotted at h;unfold ownB at b;rw[b] at h;simp at h
theorem S.Mt.refl_ {I:S.Img}(V:S.Vw):S.Mt I V V:=⟨λ _ _=>rfl,λ _ _ _ _=>rfl,rfl,rfl⟩
theorem S.Kp.refl (I:S.Img)(base:Int)(V:S.Vw):S.Kp I base V V:=λ _ _ _=>rfl
theorem S.Kp.trans {I:S.Img}{base:Int}{V V' d:S.Vw}(h:S.Kp I base V V')(e:S.Kp I base V' d):S.Kp I base V d:=λ a h0 b=>(e a h0 b).trans (h a h0 b)
theorem Zke {n:Int}(h:S.visB n=true):n≠25/\n≠28/\n≠31/\n≠0/\(n<=10\/26<=n)/\1<=n/\n<=30:=by
 unfold S.visB at h;rw[decide_eq_true_eq] at h;omega
section
namespace S
structure Fm (I:Img)(V st:Vw)(base lk:Int)(env ts:List Int):Prop where
 mt:Mt I V st
 sp:V.reg 28=base+env.length+15
 fr:Fr V base lk env ts
structure Cx (I:Img)(L dep lk base:Int):Prop where
 ok:I.Ok
 lo:I.lo<=base
 top:base+L+15+dep<=I.hi
 dep0:0<=dep
 L0:0<=L
 L1:L<=200
 lk0:0<=lk
 lk1:lk<I.size
def OutE (I:Img)(V:Vw)(a b:Int)(c:Nat)(base lk:Int)(env ts:List Int)(Q:List Int->Vw->Nat->Prop)(H:Int->Vw->Nat->Prop):Prop :=
 (∃vs st' c' V',c<=c'/\Q vs st' c'/\Go I V a (c'-c) V' b/\Fm I V' st' base lk env (ts++vs)/\Kp I base V V') \/
 (∃code st' c' V',c<=c'/\H code st' c'/\GoH I V a (c'-c) V' code/\Mt I V' st')
end S
theorem Zg (V:S.Vw)(d v:Int):(V.set d v).reg d=v:=by show(if d=d then v else _)=v;rw[if_pos rfl]
theorem Zd (V:S.Vw){d j:Int}(v:Int)(h:j≠d):(V.set d v).reg j=V.reg j:=by show(if j=d then v else _)=_;rw[if_neg h]
theorem Zc1 (V:S.Vw)(d v:Int):(V.sto d v).mem d=v:=by show(if d=d then v else _)=v;rw[if_pos rfl]
theorem Zz (V:S.Vw){d j:Int}(v:Int)(h:j≠d):(V.sto d v).mem j=V.mem j:=by show(if j=d then v else _)=_;rw[if_neg h]
theorem S.Mt.hid {I:S.Img}{V st:S.Vw}(h:S.Mt I V st){d:Int}(hd:S.visB d=false)(v:Int):S.Mt I (V.set d v) st :=
 ⟨λ n b=>by
  rw[Zd _ _ (λ e=>by subst e;rw[hd] at b;cases b)];exact h.vis n b,h.mem,h.inp,h.out⟩
theorem S.Mt.stack {I:S.Img}{V st:S.Vw}(h:S.Mt I V st){p:Int}(hp:I.stk p)(v:Int):S.Mt I (V.sto p v) st :=
 ⟨h.vis,λ a a0 d b=>by
  rw[Zz _ _ (λ e:a=p=>b (by rw[e];exact hp))];exact h.mem a a0 d b,h.inp,h.out⟩
theorem Z0q {k:Nat}(h:k<14):S.visB (11+k)=false:=by
 unfold S.visB;rw[decide_eq_false_iff_not];omega
theorem Zim (ts:List Int)(v:Int)(k:Nat)(h:k<(ts++[v]).length):(ts++[v]).getD k 0=if k=ts.length then v else ts.getD k 0:=by
 by_cases c:k=ts.length
 .subst c;simp
 .rw[if_neg c]
  have:k<ts.length:=by simp at h;omega
  simp[Yn this]
theorem Zdo (ts vs:List Int)(k:Nat)(h:k<ts.length):(ts++vs).getD k 0=ts.getD k 0:=by
 simp[Yn h]
theorem Zgb (ts vs:List Int)(k:Nat):(ts++vs).getD (ts.length+k) 0=vs.getD k 0:=by
 simp[Yo]
theorem S.Fm.put {I:S.Img}{V st:S.Vw}{base lk:Int}{env ts vs:List Int}(h:S.Fm I V st base lk env (ts++vs))(e:ts.length<14)(v:Int):S.Fm I (V.set (11+ts.length) v) st base lk env (ts++[v]):=by
 refine⟨h.mt.hid (Z0q e) v,by rw[Zd _ _ (by omega)];exact h.sp,h.fr.lk,h.fr.env,λ k d=>?_⟩;rw[Zim ts v k d];by_cases c:k=ts.length
 .subst c;rw[if_pos rfl,Zg]
 .rw[if_neg c,Zd _ _ (by omega)]
  have b:k<ts.length:=by simp at d;omega
  rw[h.fr.ts k (by simp;omega),Zdo ts vs k b]
theorem S.Fm.over {I:S.Img}{V st:S.Vw}{base lk:Int}{env ts:List Int}(h:S.Fm I V st base lk env ts){k:Nat}(d:k<14)(b:ts.length<=k)(v:Int):S.Fm I (V.set (11+k) v) st base lk env ts :=
 ⟨h.mt.hid (Z0q d) v,by rw[Zd _ _ (by omega)];exact h.sp,⟨h.fr.lk,h.fr.env,λ j e=>by rw[Zd _ _ (by omega)];exact h.fr.ts j e⟩⟩
theorem S.Fm.val {I:S.Img}{V st:S.Vw}{base lk:Int}{env ts vs:List Int}(h:S.Fm I V st base lk env (ts++vs)){k:Nat}(hk:k<vs.length):V.reg (11+ts.length+k)=vs.getD k 0:=by
 have:=h.fr.ts (ts.length+k) (by simp;omega);rw[Zgb] at this;rw[<- this]
 congr 1
 omega
theorem Za5 (fr L:Int):(∀k,(bStores fr L k).length=k)/\(∀k,(bLoads fr L k).length=k)/\(∀a k,(bArgs a k).length=k):=by
 refine⟨λ k=>?_,λ k=>?_,λ a k=>?_⟩
 all_goals
  induction k with
  | zero=>rfl
  | succ k ih=>first | (rw[bStores,Yd,ih];rfl) | (rw[bLoads,Yd,ih];rfl) | (rw[bArgs,Yd,ih];rfl)
section
variable {I:S.Img}{L dep lk base:Int}(cx:S.Cx I L dep lk base){obj:ByteArray}
include cx
theorem Zqd {V:S.Vw}{p:Int}(b:V.reg 28=base+L+15)(h0:0<=p)(h1:p<L+15):S.u32m (V.reg 28+(p-(L+15)))=base+p/\base+p<I.size/\¬I.code (base+p)/\I.stk (base+p):=by
 obtain⟨ok,lo,top,dep0,_,_,_,_⟩:=cx;have h2:=ok.lo0;have h3:=ok.hisz;have h4:=ok.size2;refine⟨?_,by omega,?_,by omega,by omega⟩
 .rw[b];unfold S.u32m;omega
 .rintro⟨q0,q1⟩
  rcases ok.apart with h|h <;> omega
theorem Zlj {V:S.Vw}{i:Nat}{d p:Int}{r:List S.Item}(b:S.Seg I obj i (bLoad (L+15) d p::r))(f:V.reg 28=base+L+15)(h0:0<=p)(h:p<L+15)(hd:0<d)(e:d<=31) :
 S.Go I V (I.adr i) 1 (V.set d (V.mem (base+p))) (I.adr (i+1)):=by
 obtain⟨g,j,e3,e4⟩:=Zqd cx (V:=V) f h0 h;exact Z14 cx.ok b.lo b.lt b.head hd e (by decide) g.symm j
theorem Zm4 {V:S.Vw}{i:Nat}{b p:Int}{r:List S.Item}(d:S.Seg I obj i (bStore (L+15) b p::r))(e:V.reg 28=base+L+15)(h0:0<=p)(j:p<L+15)(h:0<=b/\b<=31/\b≠25) :
 S.Go I V (I.adr i) 1 (V.sto (base+p) (V.reg b)) (I.adr (i+1)):=by
 obtain⟨f,k,g,e4⟩:=Zqd cx (V:=V) e h0 j;exact Zu1 cx.ok d.lo d.lt d.head (by decide) h f.symm k g
theorem Zfm {V:S.Vw}{i:Nat}{d a:Int}{r:List S.Item}(b:S.Seg I obj i (bMove d a::r))(hd:0<d)(e:d<=31)(f:0<=a/\a<=31/\a≠25):S.Go I V (I.adr i) 1 (V.set d (V.reg a)) (I.adr (i+1)) :=
 Z13 cx.ok b.lo b.lt b.head hd e f
theorem Zm5 {V:S.Vw}{i:Nat}(d:V.reg 28=base+L+15):∀k:Nat,k<=14->S.Seg I obj i (bStores (L+15) L k)->∃V',S.Go I V (I.adr i) k V' (I.adr (i+k))/\V'.reg=V.reg/\(∀j:Nat,j<k->V'.mem (base+1+L+j)=V.reg (11+j)) /\
 (∀a:Int,a<base+1+L\/base+L+15<=a->V'.mem a=V.mem a)/\V'.inp=V.inp/\V'.out=V.out
 | 0,_,_=>⟨V,Zdh _ _ _,rfl,λ j r=>by omega,λ _ _=>rfl,rfl,rfl⟩
 | k+1,hk,hs=>by
  obtain⟨t,q,f,o,h,g,l⟩:=Zm5 d k (by omega) hs.left;have b:=hs.right;rw[(Za5 _ _).1] at b;have hL:=cx.L0;have u:=Zm4 cx (V:=t) b (by rw[f];exact d) (p:=1+L+k) (by omega) (by omega) (by omega);refine⟨_,q.trans u,f,λ j r=>?_,λ a n=>?_,g,l⟩
  .by_cases c:j=k
   .subst c
    have e:base+1+L+(j:Int)=base+(1+L+j):=by omega
    rw[e,Zc1,f]
   .rw[Zz _ _ (by omega)];exact o j (by omega)
  .rw[Zz _ _ (by omega)];exact h a n
theorem Zqe {V:S.Vw}{i:Nat}(d:V.reg 28=base+L+15):∀k:Nat,k<=14->S.Seg I obj i (bLoads (L+15) L k)->∃V',S.Go I V (I.adr i) k V' (I.adr (i+k))/\V'.mem=V.mem/\(∀j:Nat,j<k->V'.reg (11+j)=V.mem (base+1+L+j)) /\
 (∀a:Int,a<11\/11+k<=a->V'.reg a=V.reg a)/\V'.inp=V.inp/\V'.out=V.out
 | 0,_,_=>⟨V,Zdh _ _ _,rfl,λ j q=>by omega,λ _ _=>rfl,rfl,rfl⟩
 | k+1,hk,hs=>by
  obtain⟨r,o,g,n,f,h,l⟩:=Zqe d k (by omega) hs.left;have b:=hs.right;rw[(Za5 _ _).2.1] at b;have hL:=cx.L0;have t:=Zlj cx (V:=r) b (by rw[f _ (by omega)];exact d) (p:=1+L+k) (by omega) (by omega) (by omega) (by omega);refine⟨_,o.trans t,g,λ j q=>?_,λ a ha=>?_,h,l⟩
  .by_cases c:j=k
   .subst c
    have e:base+1+L+(j:Int)=base+(1+L+j):=by omega
    rw[e,Zg,g]
   .rw[Zd _ _ (by omega)];exact n j (by omega)
  .rw[Zd _ _ (by omega)];exact f a (by omega)
theorem Zu7 {V:S.Vw}{i:Nat}{at_:Nat}:∀k:Nat,k<=4->at_+k<=14->S.Seg I obj i (bArgs at_ k)->∃V',S.Go I V (I.adr i) k V' (I.adr (i+k))/\V'.mem=V.mem/\(∀j:Nat,j<k->V'.reg (4+j)=V.reg (11+at_+j)) /\
 (∀a:Int,a<4\/4+k<=a->V'.reg a=V.reg a)/\V'.inp=V.inp/\V'.out=V.out
 | 0,_,_,_=>⟨V,Zdh _ _ _,rfl,λ j n=>by omega,λ _ _=>rfl,rfl,rfl⟩
 | k+1,hk,hk2,hs=>by
  obtain⟨o,l,g,h,d,e,f⟩:=Zu7 k (by omega) (by omega) hs.left;have b:=hs.right;rw[(Za5 0 0).2.2] at b;have q:=Zfm cx (V:=o) b (by omega) (by omega) (by omega);refine⟨_,l.trans q,g,λ j n=>?_,λ a ha=>?_,e,f⟩
  .by_cases c:j=k
   .subst c
    rw[Zg,d _ (by omega)]
   .rw[Zd _ _ (by omega)];exact h j (by omega)
  .rw[Zd _ _ (by omega)];exact d a (by omega)
theorem Zyn {V:S.Vw}{i:Nat}{d n:Int}{r:List S.Item}(b:S.Seg I obj i (bConst d n++r))(hn:-2147483648<=n/\n<=4294967295)(hd:0<d)(k:d<=24) :
 S.Go I V (I.adr i) 2 (V.set d (n%4294967296)) (I.adr (i+(bConst d n).length)):=Zyj λ m hm=>by
 unfold bConst at b⊢;by_cases c:-32768<=n/\n<32768
 .rw[if_pos c] at b⊢
  have h:=Zd2 cx.ok b.lo b.lt (V:=V) b.head hd (by omega) (by decide);have e:S.u32m (V.reg 0+n)=n%4294967296:=by rw[hm.zero];unfold S.u32m;omega
  rw[e] at h;exact h.more (by decide)
 .rw[if_neg c] at b⊢
  have h:=Z4x cx.ok b.lo b.lt (V:=V) b.head hd (by omega) (by omega);have f:=Z0n cx.ok b.tail.lo b.tail.lt (V:=V.set d (n%4294967296/65536*65536)) b.tail.head (by decide) hd (by omega) (by omega);have e:S.alu (like 17) ((V.set d (n%4294967296/65536*65536)).reg d) (S.u32m (n%4294967296%65536))=n%4294967296:=by
   have g:S.u32m (n%4294967296%65536)=n%4294967296%65536:=by unfold S.u32m;omega
   rw[Zg,g];exact Zu2 (by omega) (by omega)
  rw[e] at f;refine(h.trans f).ext (λ j _ _ _=>?_) (λ _ _ _=>rfl) rfl rfl;by_cases c2:j=d
  .subst c2;rw[Zg,Zg]
  .rw[Zd _ _ c2,Zd _ _ c2,Zd _ _ c2]
theorem Zyo {V st:S.Vw}{env ts vs:List Int}{op n:Int}{name:ByteArray}{kids:Nat}{i c:Nat}{Q:Int->S.Vw->Nat->Prop}{H:Int->S.Vw->Nat->Prop}(hL:(env.length:Int)=L)(W:headE L op n name kids=true)
 (d4:ts.length+max 1 kids<=14) (b2:vs.length=kids) (l:S.wpOp I dep lk op n name ts.length env vs st c Q H) (f:S.Seg I obj i (bOp (L+15) L op n name kids ts.length)) (t:S.Fm I V st base lk env (ts++vs)) :
 S.OutE I V (I.adr i) (I.adr (i+(bOp (L+15) L op n name kids ts.length).length)) c base lk env ts (λ us Z c'=>∃v,us=[v]/\Q v Z c') H:=by
 have d3:=cx.L0;have D:ts.length<14:=by omega
 have M:V.reg 28=base+L+15:=by rw[<- hL];exact t.sp
 unfold headE at W;simp only[Yq,decide_eq_true_eq] at W;obtain⟨⟨⟨⟨hr,y⟩,J⟩,d2⟩,K⟩:=W;unfold S.wpOp at l;unfold bOp at f⊢;unfold numE at y;have z:∀(v:Int)(k:Nat)(b:Int),S.Go I V (I.adr i) k (V.set (11+(ts.length:Int)) v) b->Q v st (c+k)->S.OutE I V (I.adr i) b c base lk env ts (λ us Z c'=>∃v,us=[v]/\Q v Z c') H:=λ v k b hg hq =>
  .inl ⟨[v],st,c+k,_,by omega,⟨v,rfl,hq⟩,by rw[Yac];exact hg,t.put D v,λ _ _ _=>rfl⟩
 by_cases c1:op=1
 .rw[if_pos c1] at l f y⊢
  have a6:=of_decide_eq_true y;have h:=Zyn cx (V:=V) (r:=[]) (by rw[Yax];exact f) a6 (d:=11+ts.length) (by omega) (by omega);exact z _ 2 _ h l
 rw[if_neg c1] at l f y⊢;by_cases c2:op=2
 .rw[if_pos c2] at l f y⊢
  have a6:=of_decide_eq_true y;have h:=Zlj cx (V:=V) f M (by omega) (by omega) (by omega) (by omega);have e:V.mem (base+(1+n))=env.getD n.toNat 0:=by
   have:=t.fr.env n.toNat (by omega);rw[<- this]
   congr 1
   omega
  rw[e] at h;exact z _ 1 _ h l
 rw[if_neg c2] at l f y⊢;by_cases c3:op=3
 .rw[if_pos c3] at l f y⊢
  have d1:=Zke y;have h:=Zfm cx (V:=V) f (by omega) (by omega) (by omega);rw[t.mt.vis n y] at h;exact z _ 1 _ h l
 rw[if_neg c3] at l f y⊢;by_cases c4:op=4
 .rw[if_pos c4] at l f y⊢
  have a6:=of_decide_eq_true y;have x:kids=2:=by rw[J];unfold kidsE;rw[if_pos (.inl c4)]
  have v0:=t.val (k:=0) (by omega);have v1:=t.val (k:=1) (by omega);have e0:V.reg (11+ts.length)=vs.getD 0 0:=by simpa using v0
  have e1:V.reg (12+ts.length)=vs.getD 1 0:=by
   rw[<- v1];congr 1;omega
  have h:=Zu0 cx.ok f.lo f.lt (V:=V) f.head (by omega) (by omega) (by omega) (by omega) (by omega) (λ q=>l.1 (by rw[<- e1];exact q));rw[e0,e1] at h;exact z _ 1 _ h l.2
 rw[if_neg c4] at l f y⊢;by_cases c5:op=5
 .rw[if_pos c5] at l f y⊢
  have d5:kids=1:=by rw[J];unfold kidsE;rw[if_neg (by omega),if_pos c5]
  have v0:=t.val (k:=0) (by omega);have e0:V.reg (11+ts.length)=vs.getD 0 0:=by simpa using v0
  obtain⟨w1,w2,w3⟩:=l;have h:=Z14 cx.ok f.lo f.lt (V:=V) f.head (p:=S.u32m (vs.getD 0 0+n)) (by omega) (by omega) (by omega) (by rw[e0]) w1;rw[t.mt.mem _ (Zad _).1 w1 w2] at h;exact z _ 1 _ h w3
 rw[if_neg c5] at l f y⊢;by_cases c6:op=6
 .rw[if_pos c6] at l f⊢
  have a7:kids<=4:=by rw[J];unfold kidsE;rw[if_neg (by omega),if_neg c5,if_pos c6];omega
  have F:labB name=true:=by
   have:namedE op=true:=by unfold namedE;rw[decide_eq_true_eq];exact .inl c6
   rw[this] at K
   simpa using K
  obtain⟨d,R,hR,hd,hQ⟩:=l;unfold bCall at f⊢;obtain⟨V1,g1,r1,m1,k1,i1,o1⟩:=Zm5 cx M ts.length (by omega) f.left.left.left.left;have E:=f.left.left.left.right;rw[(Za5 _ _).1] at E;obtain⟨O,g2,m2,a2,r2,i2,o2⟩:=Zu7 cx (V:=V1) kids a7 (by omega) E;have u:=f.left.left.right;rw[Yd,(Za5 _ _).1,(Za5 (L+15) L).2.2] at u;have a8:I.xs[i+(ts.length+kids)]?=some ⟨4,⟨0,31,0,0,0⟩,name,0⟩:=by
   have:=u.head
   show _=_
   rw[this]
   show some (⟨4,⟨0,31,0,0,0⟩,owned obj name,0⟩:S.Item)=_
   rw[Zfl obj F]
  have g3:=Zyk cx.ok u.lo u.lt (V:=O) a8 (by decide) (by decide);have T:0<=I.adr (i+(ts.length+kids)+1)/\I.adr (i+(ts.length+kids)+1)<I.size:=by
   have h1:=Zmw cx.ok (i+(ts.length+kids)+1);have h2:=Zci cx.ok (i:=i+(ts.length+kids)+1) (j:=I.xs.length) (by have:=u.lt;have:=cx.ok.i1l;omega);have h3:=cx.ok.size;omega
  have b6:S.Mt I (O.set 31 (I.adr (i+(ts.length+kids)+1))) (st.args vs):=by
   refine(S.Mt.hid (V:=O) ⟨λ j hj=>?_,λ a a0 a1 ha=>?_,by rw[i2,i1];exact t.mt.inp,by rw[o2,o1];exact t.mt.out⟩ (by decide) _)
   .show O.reg j=if 4<=j/\j<4+(vs.length:Int) then vs.getD (j-4).toNat 0 else st.reg j
    by_cases cj:4<=j/\j<4+(vs.length:Int)
    .rw[if_pos cj]
     have e:=a2 (j-4).toNat (by omega);have e2:=t.val (k:=(j-4).toNat) (by omega);rw[r1] at e;rw[<- e2,<- e]
     congr 1
     omega
    .rw[if_neg cj,r2 j (by omega),r1]
     exact t.mt.vis j hj
   .rw[m2,k1 a ?_]
    .exact t.mt.mem a a0 a1 ha
    .have:=cx.lo
     have:=cx.top;have:=cx.dep0;rcases Int.lt_or_le a (base+1+L) with q|q
     .exact .inl q
     .right
      by_cases q2:a<base+L+15
      .exact absurd ⟨by omega,by omega⟩ ha
      .omega
  have b5:(O.set 31 (I.adr (i+(ts.length+kids)+1))).reg 28=base+L+15:=by
   rw[Zd _ _ (by decide),r2 _ (by omega),r1];exact M
  obtain⟨o,k,c0,hD⟩:=hR _ (base+L+15) _ b6 b5 (Zg _ _ _) T.1 T.2 (by have:=cx.lo;omega) (by have:=cx.top;omega);have a4:=hQ _ o k c0;have g0:S.Go I V (I.adr i) (ts.length+kids+3) (O.set 31 (I.adr (i+(ts.length+kids)+1))) (I.lab name):=(g1.trans (by rw[Ybg] at g2;exact g2)).trans g3
  cases o with
  | left tq st2=>exact absurd a4 id
  | halt code st2 =>
   obtain⟨V4,g4,C⟩:=hD;refine .inr ⟨code,st2,_,V4,?_,a4,?_,C⟩
   .omega
   .refine(g0.halt g4).more ?_
    rw[b2];omega
  | ret st2 =>
   obtain⟨V4,g4,C,b3,b9⟩:=hD;have b8:S.Go I (O.set 31 (I.adr (i+(ts.length+kids)+1))) (I.lab name) k V4 (I.adr (i+(ts.length+kids)+1)):=g4;have Y:=f.left.right;rw[Yd,Yd,(Za5 _ _).1,(Za5 (L+15) L).2.2] at Y;have e5:i+(ts.length+kids+[bJ 31 name].length)=i+(ts.length+kids)+1:=rfl;rw[e5] at Y;obtain⟨V5,g5,m5,a5,r5,i5,o5⟩:=Zqe cx (V:=V4) b3 ts.length (by omega) Y;have a3:=f.right;rw[Yd,Yd,Yd,(Za5 _ _).1,(Za5 (L+15) L).2.2,(Za5 (L+15) L).2.1] at a3;have e6:i+(ts.length+kids+[bJ 31 name].length+ts.length)=i+(ts.length+kids)+1+ts.length:=by simp;omega
   rw[e6] at a3;have g6:=Zfm cx (V:=V5) a3 (by omega) (by omega) (by decide);have U:V5.reg 4=st2.reg 4:=by rw[r5 4 (by omega)];exact C.vis 4 (by decide)
   rw[U] at g6;have G:∀a,I.lo<=a->a<base+L+15->V5.mem a=V1.mem a:=λ a a0 a1=>by
    rw[m5,b9 a a0 a1]
    show O.mem a=_
    rw[m2]
   have b7:=cx.lo;have d0:S.Fm I V5 st2 base lk env (ts++[]):=by
    refine⟨⟨λ j hj=>?_,λ a a0 a1 ha=>by rw[m5];exact C.mem a a0 a1 ha,by rw[i5];exact C.inp,by rw[o5];exact C.out⟩,?_,?_,?_,?_⟩
    .have:=Zke hj
     rw[r5 j (by omega)];exact C.vis j hj
    .rw[r5 28 (by omega),b3,hL]
    .rw[G base b7 (by omega),k1 base (by omega)];exact t.fr.lk
    .intro k2 x
     rw[G _ (by omega) (by omega),k1 _ (by omega)];exact t.fr.env k2 x
    .intro k2 x
     rw[Yax] at x⊢;rw[a5 k2 x,<- m5,G _ (by omega) (by omega),m1 k2 x,t.fr.ts k2 (by simp;omega),Zdo ts vs k2 x]
   refine .inl ⟨[st2.reg 4],st2,_,_,?_,⟨_,rfl,a4⟩,?_,d0.put D _,λ a a0 a1=>?_⟩
   .omega
   .have gg:=((g0.trans b8).trans g5).trans g6
    have el:i+(bStores (L+15) L ts.length++bArgs ts.length kids++[bJ 31 name]++bLoads (L+15) L ts.length++[bMove (11+↑ts.length) 4]).length=i+(ts.length+kids)+1+ts.length+1:=by
     simp only[Yd,(Za5 (L+15) L).1,(Za5 (L+15) L).2.1,(Za5 (L+15) L).2.2,Yk,Yad];omega
    rw[el];refine gg.more ?_;rw[b2];omega
   .show V5.mem a=V.mem a
    rw[G a a0 (by omega),k1 a (by omega)]
 rw[if_neg c6] at l f⊢;by_cases c7:op=7
 .rw[if_pos c7] at l f⊢
  have x:kids=2:=by rw[J];unfold kidsE;rw[if_pos (.inr c7)]
  have v0:=t.val (k:=0) (by omega);have v1:=t.val (k:=1) (by omega);have e0:V.reg (11+ts.length)=vs.getD 0 0:=by simpa using v0
  have e1:V.reg (12+ts.length)=vs.getD 1 0:=by
   rw[<- v1];congr 1;omega
  obtain⟨v,U⟩:∃v:Int,v=if vs.getD 0 0=vs.getD 1 0 then 1 else 0:=⟨_,rfl⟩
  have g:S.Go I V (I.adr i) 3 ((V.set (11+ts.length) v).set (11+(ts.length+1:Nat)) 1) (I.adr (i+3)):=Zyj λ m hm=>by
   have b0:=hm.rbd (j:=11+ts.length) (by omega) (by omega) (by omega);have b1:=hm.rbd (j:=12+ts.length) (by omega) (by omega) (by omega);have X:=f.left.left;have g1:=Zu0 cx.ok X.lo X.lt (V:=V) X.head (by decide) (by omega) (by omega) (by omega) (by omega) (λ _=>by decide);have E:=f.left.right;have g2:=Zd2 cx.ok E.lo E.lt (V:=V.set (11+ts.length) (S.alu 9 (V.reg (11+ts.length)) (V.reg (12+ts.length)))) (d:=12+ts.length) (a:=0) (n:=1) E.head (by omega) (by omega) (by decide);have ez:S.u32m ((V.set (11+ts.length) (S.alu 9 (V.reg (11+ts.length)) (V.reg (12+ts.length)))).reg 0+1)=1:=by
    rw[Zd _ _ (by omega),hm.zero];decide
   rw[ez] at g2;have u:=f.right;have g3:=Zu0 cx.ok u.lo u.lt (V:=(V.set (11+ts.length) (S.alu 9 (V.reg (11+ts.length)) (V.reg (12+ts.length)))).set (12+ts.length) 1) u.head (by decide) (by omega) (by omega) (by omega) (by omega) (λ _=>by decide);have ev:S.alu 14 (((V.set (11+ts.length) (S.alu 9 (V.reg (11+ts.length)) (V.reg (12+ts.length)))).set (12+ts.length) 1).reg (11+ts.length)) (((V.set (11+ts.length) (S.alu 9 (V.reg (11+ts.length)) (V.reg (12+ts.length)))).set (12+ts.length) 1).reg (12+ts.length))=v:=by
    rw[Zg,Zd _ _ (by omega),Zg,e0,e1,U];rw[e0] at b0;rw[e1] at b1
    show truth (bits .xor .u32 (vs.getD 0 0) (vs.getD 1 0)<1)=_
    rw[u32_xor b0.1 b0.2 b1.1 b1.2];unfold truth;by_cases ce:vs.getD 0 0=vs.getD 1 0
    .rw[if_pos ce,ce,if_pos (by simp)]
    .rw[if_neg ce,if_neg]
     intro q;have q0:(vs.getD 0 0).toNat ^^^ (vs.getD 1 0).toNat=0:=by omega
     have q1:(vs.getD 0 0).toNat=(vs.getD 1 0).toNat:=by
      have:=congrArg (· ^^^ (vs.getD 1 0).toNat) q0
      simpa[Nat.xor_assoc] using this
     omega
   rw[ev] at g3;refine((g1.trans g2).trans g3).ext (λ j _ _ _=>?_) (λ _ _ _=>rfl) rfl rfl;by_cases j1:j=11+(ts.length:Int)
   .subst j1
    rw[Zg,Zd _ _ (by omega),Zg]
   .rw[Zd _ _ j1]
    by_cases j2:j=11+((ts.length+1:Nat):Int)
    .have e12:j=12+(ts.length:Int):=by omega
     rw[j2,Zg,<- j2,e12,Zg]
    .rw[Zd _ _ (by omega),Zd _ _ j1,Zd _ _ j2,Zd _ _ j1]
  refine .inl ⟨[v],st,c+3,_,by omega,⟨v,rfl,by rw[U];exact l⟩,by rw[Yac];exact g,(t.put D v).over (by omega) (by simp) 1,λ _ _ _=>rfl⟩
 rw[if_neg c7] at l f⊢;by_cases c8:op=8
 .rw[if_pos c8] at l f⊢
  have g:=Z7h cx.ok f.lo f.lt (V:=V) f.head (by omega) (by omega);have a9:S.Fm I { V with inp:=V.inp.tail } { st with inp:=st.inp.tail } base lk env (ts++vs) :=
   ⟨⟨t.mt.vis,t.mt.mem,by show V.inp.tail=st.inp.tail;rw[t.mt.inp],t.mt.out⟩,t.sp,⟨t.fr.lk,t.fr.env,t.fr.ts⟩⟩
  obtain⟨v,U⟩:∃v:Int,v=S.inByte V.inp:=⟨_,rfl⟩
  rw[<- U] at g;rw[<- t.mt.inp] at l a9;rw[<- U] at l;exact .inl ⟨[v],_,c+1,_,by omega,⟨v,rfl,l⟩,by rw[Yac];exact g,a9.put D v,λ _ _ _=>rfl⟩
 rw[if_neg c8] at l f⊢;by_cases c9:op=9
 .rw[if_pos c9] at l f⊢
  have F:labB name=true:=by
   have:namedE op=true:=by unfold namedE;rw[decide_eq_true_eq];exact .inr c9
   rw[this] at K
   simpa using K
  have hh:I.xs[i]?=some ⟨5,⟨0,11+ts.length,0,0,0⟩,name,0⟩:=by
   rw[f.head]
   show some (⟨5,⟨0,11+ts.length,0,0,0⟩,owned obj name,0⟩:S.Item)=_
   rw[Zfl obj F]
  have g:=Z16 cx.ok f.lo f.lt (V:=V) hh (by omega) (by omega) (by omega);exact z _ 2 _ g l
 rw[if_neg c9] at l f⊢;by_cases b4:op=10
 .rw[if_pos b4] at l f⊢
  have h:=Zlj cx (V:=V) f M (by omega) (by omega) (by omega) (by omega);have e:V.mem (base+0)=lk:=by rw[Int.add_zero];exact t.fr.lk
  rw[e] at h;exact z _ 1 _ h l
 rw[if_neg b4] at l;exact absurd l id
end
end
section
theorem Zm6 {I:S.Img}{V:S.Vw}{a b d:Int}{c:Nat}{base lk:Int}{env ts:List Int}{Q n:List Int->S.Vw->Nat->Prop}{H:Int->S.Vw->Nat->Prop}(h:S.OutE I V a b c base lk env ts Q H)
 (k:∀vs f i V',c<=i->Q vs f i->S.Fm I V' f base lk env (ts++vs)->S.OutE I V' b d i base lk env ts n H):S.OutE I V a d c base lk env ts n H:=by
 rcases h with⟨vs,e,c1,j,g,l,hg,hf,o⟩|⟨code,e,c1,j,g,l,hg,hm⟩
 .rcases k vs e c1 j g l hf with⟨us,st2,c2,V2,hc2,hq2,hg2,hf2,hk2⟩|⟨code,st2,c2,V2,hc2,hq2,hg2,hm2⟩
  .exact .inl ⟨us,st2,c2,V2,by omega,hq2,(hg.trans hg2).more (by omega),hf2,o.trans hk2⟩
  .exact .inr ⟨code,st2,c2,V2,by omega,hq2,(hg.halt hg2).more (by omega),hm2⟩
 .exact .inr ⟨code,e,c1,j,g,l,hg,hm⟩
theorem Zrx {I:S.Img}{V:S.Vw}{a b:Int}{c:Nat}{base lk:Int}{env ts:List Int}{v:Int}{Q:List Int->S.Vw->Nat->Prop}{H:Int->S.Vw->Nat->Prop}(h:S.OutE I V a b c base lk env (ts++[v]) Q H) :
 S.OutE I V a b c base lk env ts (λ l e i=>∃vs,l=v::vs/\Q vs e i) H:=by
 rcases h with⟨vs,d,c1,j,f,k,hg,hf,g⟩|h
 .exact .inl ⟨v::vs,d,c1,j,f,⟨vs,rfl,k⟩,hg,by rw[List.append_assoc] at hf;exact hf,g⟩
 .exact .inr h
theorem Zu8 {I:S.Img}{V:S.Vw}{a b:Int}{c:Nat}{base lk:Int}{env ts:List Int}{Q g:List Int->S.Vw->Nat->Prop}{H:Int->S.Vw->Nat->Prop}(h:S.OutE I V a b c base lk env ts Q H)(k:∀vs d f,Q vs d f->g vs d f) :
 S.OutE I V a b c base lk env ts g H:=by
 rcases h with⟨vs,e,c1,l,i,n,hg,hf,j⟩|h
 .exact .inl ⟨vs,e,c1,l,i,k _ _ _ n,hg,hf,j⟩
 .exact .inr h
theorem Zlk:∀(r:List S.BE)(j:Nat),r≠[]->j+r.length<=needEs r j
 | [],_,h=>absurd rfl h
 | [e],j,_=>by simp only[needEs,Yk,Yad];omega
 | e::f::r,j,_=>by
  have h:=Zlk (f::r) (j+1) (by simp);rw[needEs];simp only[Yk] at h⊢;omega
section
variable {I:S.Img}{L dep lk base:Int}(cx:S.Cx I L dep lk base){obj:ByteArray}
include cx
mutual
theorem Z18 {env:List Int}(d:(env.length:Int)=L):∀(e:S.BE)(ts:List Int)(V st:S.Vw)(i c:Nat)(Q:Int->S.Vw->Nat->Prop)(H:Int->S.Vw->Nat->Prop),formedE L e=true->ts.length+max 1 (needE e)<=14->S.wpE I dep lk env e ts.length st c Q H ->
 S.Seg I obj i (bExpr (L+15) L e ts.length)->S.Fm I V st base lk env ts->S.OutE I V (I.adr i) (I.adr (i+(bExpr (L+15) L e ts.length).length)) c base lk env ts (λ o b l=>∃v,o=[v]/\Q v b l) H
 | .mk op n name kids,ts,V,st,i,c,Q,H,hf,hn,hw,hs,hV=>by
  rw[formedE] at hf;rw[needE] at hn;rw[S.wpE] at hw;rw[bExpr] at hs⊢;simp only[Yq] at hf;have k:=Zfn d kids 0 ts.length ts V st i c _ H hf.2 (by omega) (by omega) hw hs.left hV;refine Zm6 k λ vs h c1 V1 hc g hF=>?_
  have hk:kids.length<=max 1 (needEs kids 0):=by
   by_cases f:kids=[]
   .subst f;simp
   .have:=Zlk kids 0 f;omega
  have j:=Zyo cx (obj:=obj) d hf.1 (by omega) g.1 g.2 hs.right hF;rw[Yd,<- Ybg];exact j
theorem Zfn {env:List Int}(k:(env.length:Int)=L):∀(r:List S.BE)(j a0:Nat)(ts:List Int)(V st:S.Vw)(i c:Nat)(Q:List Int->S.Vw->Nat->Prop)(H:Int->S.Vw->Nat->Prop),formedEs L r=true->ts.length=a0+j->a0+needEs r j<=14->S.wpEs I dep lk env r ts.length st c Q H ->
 S.Seg I obj i (bExprs (L+15) L r ts.length)->S.Fm I V st base lk env ts->S.OutE I V (I.adr i) (I.adr (i+(bExprs (L+15) L r ts.length).length)) c base lk env ts (λ h b n=>h.length=r.length/\Q h b n) H
 | [],j,a0,ts,V,st,i,c,Q,H,hf,ht,hn,hw,hs,hV=>by
  rw[S.wpEs] at hw;exact .inl ⟨[],st,c,V,Yc _,⟨rfl,hw⟩,by rw[Nat.sub_self];exact Zdh _ _ _,by rw[Yax];exact hV,λ _ _ _=>rfl⟩
 | e::r,j,a0,ts,V,st,i,c,Q,H,hf,ht,hn,hw,hs,hV=>by
  rw[formedEs] at hf;rw[needEs] at hn;rw[S.wpEs] at hw;rw[bExprs] at hs⊢;simp only[Yq] at hf;have t:=Z18 k e ts V st i c _ H hf.1 (by omega) hw hs.left hV;refine Zm6 t λ vs d c1 u hc g hF=>?_
  obtain⟨v,rfl,g⟩:=g;have el:(ts++[v]).length=ts.length+1:=by simp
  have l:=Zfn k r (j+1) a0 (ts++[v]) u d (i+(bExpr (L+15) L e ts.length).length) c1 (λ vs f c2=>Q (v::vs) f c2) H hf.2 (by simp;omega) (by omega) (by rw[el];exact g) (by rw[el];exact hs.right) hF;rw[Yd,<- Ybg];rw[el] at l;refine Zu8 (Zrx l) λ h b n x=>?_
  obtain⟨vs,rfl,q,o⟩:=x;exact⟨by simp[q],o⟩
end
end
end
section
namespace S
def OutS (I:Img)(V:Vw)(a b:Int)(c:Nat)(L base lk:Int)(behind:Bool)(Q:List Int->Vw->Nat->Prop)(R:BO->Nat->Prop):Prop :=
 (∃env st' c' V',c<=c'/\Q env st' c'/\(env.length:Int)=L/\Go I V a (c'-c) V' b/\Fm I V' st' base lk env []/\Kp I base V V') \/
 (∃o c',c<=c'/\R o c'/\Done I V a (c'-c) base lk behind o)
end S
theorem Zav {I:S.Img}{V j:S.Vw}{a b:Int}{n k m:Nat}{base lk:Int}{behind:Bool}{o:S.BO}(hg:S.Go I V a n j b)(l:S.Kp I base V j)(h:S.Done I j b k base lk behind o)(hm:n+k<=m):S.Done I V a m base lk behind o:=by
 cases o with
 | ret st=>obtain⟨e,g,d,f,i⟩:=h;exact⟨e,(hg.trans g).more hm,d,f,l.trans i⟩
 | halt code st=>obtain⟨e,g,d⟩:=h;exact⟨e,(hg.halt g).more hm,d⟩
 | left tq st=>obtain⟨e,g,d,f,i⟩:=h;exact⟨e,(hg.trans g).more hm,d,f,l.trans i⟩
theorem Zbc {I:S.Img}{V f:S.Vw}{a g b:Int}{c c1:Nat}{L base lk:Int}{behind:Bool}{Q:List Int->S.Vw->Nat->Prop}{R:S.BO->Nat->Prop}(hc:c<=c1)(hg:S.Go I V a (c1-c) f g)(i:S.Kp I base V f)
 (h:S.OutS I f g b c1 L base lk behind Q R):S.OutS I V a b c L base lk behind Q R:=by
 rcases h with⟨env,st,c2,q,n,d,e,k,j,l⟩|⟨o,c2,n,d,e⟩
 .exact .inl ⟨env,st,c2,q,by omega,d,e,(hg.trans k).more (by omega),j,i.trans l⟩
 .exact .inr ⟨o,c2,by omega,d,Zav hg i e (by omega)⟩
theorem Zfo {I:S.Img}{V:S.Vw}{a b d:Int}{c:Nat}{L base lk:Int}{behind:Bool}{Q i:List Int->S.Vw->Nat->Prop}{R:S.BO->Nat->Prop}(h:S.OutS I V a b c L base lk behind Q R)
 (k:∀env e f V',c<=f->Q env e f->(env.length:Int)=L->S.Fm I V' e base lk env []->S.OutS I V' b d f L base lk behind i R):S.OutS I V a d c L base lk behind i R:=by
 rcases h with⟨env,st,c2,r,g,o,q,l,j,n⟩|h
 .exact Zbc g l n (k env st c2 r g o q j)
 .exact .inr h
theorem Zo1 {I:S.Img}{V:S.Vw}{a b d:Int}{c:Nat}{L base lk:Int}{behind:Bool}{env:List Int}{n:List Int->S.Vw->Nat->Prop}{o:List Int->S.Vw->Nat->Prop}{R:S.BO->Nat->Prop}(h:S.OutE I V a b c base lk env [] n (λ code st c=>R (.halt code st) c))
 (k:∀vs e j V',c<=j->n vs e j->S.Fm I V' e base lk env vs->S.OutS I V' b d j L base lk behind o R):S.OutS I V a d c L base lk behind o R:=by
 rcases h with⟨vs,st,c2,l,f,i,g,q,r⟩|⟨code,st,c2,l,f,i,t,g⟩
 .exact Zbc f g r (k vs st c2 l f i q)
 .exact .inr ⟨.halt code st,c2,f,i,l,t,g⟩
theorem S.Fm.drop {I:S.Img}{V st:S.Vw}{base lk:Int}{env vs:List Int}(h:S.Fm I V st base lk env vs):S.Fm I V st base lk env [] :=
 ⟨h.mt,h.sp,h.fr.lk,h.fr.env,λ k b=>by simp at b⟩
theorem S.Fm.val0 {I:S.Img}{V st:S.Vw}{base lk:Int}{env vs:List Int}(h:S.Fm I V st base lk env vs)(b:0<vs.length):V.reg 11=vs.getD 0 0:=by
 have:=h.fr.ts 0 b
 simpa using this
theorem S.Fm.val1 {I:S.Img}{V st:S.Vw}{base lk:Int}{env vs:List Int}(h:S.Fm I V st base lk env vs)(b:1<vs.length):V.reg 12=vs.getD 1 0:=h.fr.ts 1 b
theorem Zll (l:List Int)(i k:Nat)(v:Int)(b:k<l.length):(l.set i v).getD k 0=if k=i then v else l.getD k 0:=by
 by_cases c:k=i
 .subst c;rw[if_pos rfl];simp[b]
 .rw[if_neg c]
  have:¬i=k:=λ e=>c e.symm
  simp[this]
section
variable {I:S.Img}{L dep lk base:Int}(cx:S.Cx I L dep lk base){obj:ByteArray}
include cx
theorem Zkf {i:Nat}{s:ByteArray}{r:List S.Item}(b:S.Seg I obj i (bL s::r)):I.lab (owned obj s)=I.adr i:=by
 have h:=Zic cx.ok (x:=S.ownItem obj (bL s)) b.head rfl;unfold S.Img.lab;have e:stands I.xs (owned obj s)=i:=h;rw[e];rfl
theorem Zo2 {V st:S.Vw}{env ts:List Int}{i:Nat}{behind:Bool}{r:List S.Item}(W:(env.length:Int)=L)(o:S.Seg I obj i (bBack (L+15) behind++r))(K:S.Fm I V st base lk env ts) :
 S.Done I V (I.adr i) (if behind=true then 5 else 3) base lk behind (.ret st):=by
 have J:V.reg 28=base+L+15:=by rw[<- W];exact K.sp
 have h0:=cx.ok.lo0;have h1:=cx.lo;have h2:=cx.ok.hisz;have h3:=cx.top;have h4:=cx.dep0;have h5:=cx.L0;have h6:=cx.ok.size2;unfold bBack at o;have E:=Zd2 cx.ok o.lo (by have:=o.lt;exact this) (V:=V) (i:=i) (d:=28) (a:=28) (n:=-(L+15)) o.head (by decide) (by decide) (by decide);have e1:S.u32m (V.reg 28+-(L+15))=base:=by rw[J];unfold S.u32m;omega
 rw[e1] at E;have f:=o.tail;have v:=Z14 cx.ok f.lo f.lt (V:=V.set 28 base) (d:=31) (a:=28) (n:=0) (p:=base) f.head (by decide) (by decide) (by decide) (by rw[Zg];unfold S.u32m;omega) (by omega);have y:(V.set 28 base).mem base=lk:=K.fr.lk;rw[y] at v;have b:=f.tail;have l:S.Mt I ((V.set 28 base).set 31 lk) st:=(K.mt.hid (by decide) _).hid (by decide) _;have g:((V.set 28 base).set 31 lk).reg 28=base:=by rw[Zd _ _ (by decide),Zg]
 cases behind with
 | false =>
  have t:=Zoy cx.ok b.lo b.lt (V:=(V.set 28 base).set 31 lk) (a:=31) (n:=0) b.head (by decide);have X:S.u32m (((V.set 28 base).set 31 lk).reg 31+0)=lk:=by rw[Zg];have:=cx.lk0;have:=cx.lk1;unfold S.u32m;omega
  rw[X] at t;exact⟨_,(E.trans v).trans t,l,g,λ _ _ _=>rfl⟩
 | true =>
  have e:=b.tail;have h:=e.tail;have t:S.Go I ((V.set 28 base).set 31 lk) (I.adr (i+1+1)) 2 (((V.set 28 base).set 31 lk).set 31 (S.u32m (lk+V.mem lk))) (I.adr (i+1+1+1+1)):=λ m hm=>by
   have C:I.xs[i+1+1]?=some ⟨1,⟨24,25,31,0,0⟩,⟨#[]⟩,0⟩:=b.head;have x:I.xs[i+1+1+1]?=some ⟨1,⟨1,31,31,25,0⟩,⟨#[]⟩,0⟩:=e.head;obtain⟨Z,q3,n3⟩:=Zy cx.ok b.lo b.lt C;obtain⟨T,q4,U⟩:=Zy cx.ok e.lo e.lt x;have r31:m.rd 31=lk:=by rw[hm.reg 31 (by decide) (by decide) (by decide),Zg]
   have u:=cx.lk0;have D:=cx.lk1;have z:m.mem.getD lk.toNat 0=V.mem lk:=hm.mem lk u D;have ea:S.u32m (lk+S.u32m 0)=lk:=by unfold S.u32m;omega
   have M:=hm.len;have O:m.act ⟨24,25,31,0,0⟩=(m.put 25 (V.mem lk),S.u32m (m.place+1),0):=by
    unfold Mach.act;simp only[r31,ea];rw[if_neg (by decide),if_neg (by decide),if_neg (by decide),if_pos trivial,if_pos (by omega),z]
   obtain⟨s1,p1⟩:=Zt cx.ok hm b.lo b.lt (j:=0) (by rw[Z];rfl) (by simp) q3 (by rw[O]);obtain⟨G,F⟩:=Zlg cx.ok hm s1 (show(0:Int)<=25 by decide) O;rw[p1] at G;have k:m.step.rd 31=lk:=by rw[G.reg 31 (by decide) (by decide) (by decide),Zg]
   have R:m.step.act ⟨1,31,31,25,0⟩=(m.step.put 31 (S.u32m (lk+V.mem lk)),S.u32m (m.step.place+1),0):=by
    unfold Mach.act;simp only[k,F];rw[if_pos (by decide),if_neg (by simp)];rfl
   have q:On I m.step ((V.set 28 base).set 31 lk) (I.adr (i+1+1+1)):=by rw[n3];simpa using G
   obtain⟨Y,p2⟩:=Zt cx.ok q e.lo e.lt (j:=0) (by rw[T];rfl) (by simp) q4 (by rw[R]);have k2:=Zid cx.ok q (by decide) (by decide) Y (show(0:Int)<=31 by decide) R;rw[p2] at k2;refine⟨2,Yc _,?_⟩;have y:m.steps_ 2=m.step.step:=rfl;rw[U,y]
   simpa using k2
  have Q:=Zoy cx.ok h.lo h.lt (V:=((V.set 28 base).set 31 lk).set 31 (S.u32m (lk+V.mem lk))) (a:=31) (n:=1) h.head (by decide);rw[Zg] at Q;have gg:S.Go I V (I.adr i) 5 (((V.set 28 base).set 31 lk).set 31 (S.u32m (lk+V.mem lk))) (S.u32m (S.u32m (lk+V.mem lk)+1)):=((E.trans v).trans t).trans Q;exact⟨_,gg,l.hid (by decide) _,by rw[Zd _ _ (by decide)];exact g,λ _ _ _=>rfl⟩
theorem Zu9 {env:List Int}:∀(regs vs:List Int)(j i:Nat)(V st:S.Vw)(r:List S.Item),(∀n∈regs,S.visB n=true)->vs.length=regs.length->j+regs.length<=14->(∀k,k<vs.length->V.reg (11+j+k)=vs.getD k 0)->S.Seg I obj i (bRegs regs j++r) ->
 S.Fm I V st base lk env []->∃V',S.Go I V (I.adr i) regs.length V' (I.adr (i+regs.length))/\S.Fm I V' (st.regs regs vs) base lk env []/\V'.mem=V.mem
 | [],vs,j,i,V,st,r,_,hl,_,_,_,hV=>by
  cases vs with
  | nil=>exact⟨V,Zdh _ _ _,hV,rfl⟩
  | cons v vs=>simp at hl
 | n::regs,[],j,i,V,st,r,_,hl,_,_,_,hV=>by simp at hl
 | n::regs,v::vs,j,i,V,st,r,hv,hl,hj,hr,hs,hV=>by
  have h:=hv n (by simp);have hh:=Zke h;simp only[Yk] at hl hj;have g:=Zfm cx (V:=V) hs (by omega) (by omega) (by omega);have e:V.reg (11+(j:Int))=v:=by have:=hr 0 (by simp);simpa using this
  rw[e] at g;have hF:S.Fm I (V.set n v) (st.set n v) base lk env []:=by
   refine⟨⟨λ k b=>?_,hV.mt.mem,hV.mt.inp,hV.mt.out⟩,by rw[Zd _ _ (by omega)];exact hV.sp,hV.fr.lk,hV.fr.env,λ k b=>by simp at b⟩
   show(if k=n then v else V.reg k)=if k=n then v else st.reg k
   split
   .rfl
   .exact hV.mt.vis k b
  obtain⟨V',l,d,f⟩:=Zu9 regs vs (j+1) (i+1) (V.set n v) (st.set n v) r (λ m hm=>hv m (Y0 _ hm)) (by omega) (by omega) (λ k b=>by
   rw[Zd _ _ (by omega)];have:=hr (k+1) (by simp;omega);simp only[List.getD_cons_succ] at this;rw[<- this]
   congr 1
   omega) hs.tail hF
  refine⟨V',?_,d,f⟩;have el:i+(n::regs).length=i+1+regs.length:=by simp;omega
  rw[el];exact(g.trans l).more (by simp;omega)
end
theorem Zkg:∀{l:List Int},risingB l=true->∀n∈l,S.visB n=true
 | [],_,n,d=>by cases d
 | [a],h,n,d=>by rw[List.mem_singleton] at d;subst d;exact h
 | a::b::r,h,n,d=>by
  rw[risingB] at h;simp only[Yq] at h;rcases Yr.1 d with rfl|d
  .exact h.1.1
  .exact Zkg h.2 n d
end
section
section
variable {I:S.Img}{L dep lk base:Int}(cx:S.Cx I L dep lk base){obj:ByteArray}{behind:Bool}
include cx
theorem Zbq {V V' e:S.Vw}{d:List Int}{a b:Int}{c k:Nat}{Q:List Int->S.Vw->Nat->Prop}{R:S.BO->Nat->Prop}(hg:S.Go I V a k V' b)(h:Q d e (c+k))(g:(d.length:Int)=L)(hF:S.Fm I V' e base lk d [])(f:S.Kp I base V V') :
 S.OutS I V a b c L base lk behind Q R:=.inl ⟨d,e,c+k,V',by omega,h,g,by rw[Yac];exact hg,hF,f⟩
theorem Zhd {V:S.Vw}{a b:Int}{c k:Nat}{o:S.BO}{Q:List Int->S.Vw->Nat->Prop}{R:S.BO->Nat->Prop}(hd:S.Done I V a k base lk behind o)(d:R o (c+k)):S.OutS I V a b c L base lk behind Q R :=
 .inr ⟨o,c+k,by omega,d,by rw[Yac];exact hd⟩
mutual
theorem Z19:∀(s:S.BS)(v:Nat)(l:Int)(env:List Int)(V st:S.Vw)(i c:Nat)(Q:List Int->S.Vw->Nat->Prop) (R:S.BO->Nat->Prop),(env.length:Int)=L->chkS L s v=0->S.wpS I dep lk behind s env st c Q R ->
 S.Seg I obj i (bStmt (L+15) L behind s l).1->S.Fm I V st base lk env []->S.OutS I V (I.adr i) (I.adr (i+(bStmt (L+15) L behind s l).1.length)) c L base lk behind Q R
 | .mk op n name exprs regs body els,v,l,env,V,st,i,c,Q,R,U,hc,hw,hs,hV=>by
  have f4:=cx.L0;rw[chkS] at hc;by_cases hf:(!(shapedS L op n name exprs.length regs body.length els.length && formedEs L exprs))=true
  .rw[if_pos hf] at hc;exact absurd hc (by decide)
  rw[if_neg hf] at hc;by_cases hd:200<=v\/14<needEs exprs 0
  .rw[if_pos hd] at hc;exact absurd hc (by decide)
  rw[if_neg hd] at hc;have hb:chkSs L body (v+1)=0/\chkSs L els (v+1)=0:=by
   by_cases h:chkSs L body (v+1)≠0
   .rw[if_pos h] at hc;exact absurd hc h
   .rw[if_neg h] at hc;exact⟨by simpa using h,hc⟩
  obtain⟨b2,b4⟩:shapedS L op n name exprs.length regs body.length els.length=true/\formedEs L exprs=true:=by
   simpa using hf
  have f7:needEs exprs 0<=14:=by omega
  unfold shapedS at b2;simp only[Yq,decide_eq_true_eq] at b2;obtain⟨⟨⟨⟨⟨⟨⟨⟨f5,e0⟩,d6⟩,f6⟩,g3⟩,E⟩,D⟩,f3⟩,d4⟩:=b2;unfold numS at E;unfold exprsS at D;rw[S.wpS] at hw;rw[bStmt] at hs⊢;by_cases c4:op=4
  .rw[if_pos c4] at hw hs⊢
   have Y:exprs.length=1:=by rw[if_neg (by omega),if_neg (by omega),if_neg (by omega)] at D;exact D
   obtain⟨e,rfl⟩:∃e,exprs=[e]:=by
    match exprs,Y with
    | [e],_=>exact⟨e,rfl⟩
   simp only[bTest] at hs⊢;obtain⟨J,⟨k0,e7⟩,b1⟩:=hw;have d2:bExprs (L+15) L [e] 0=bExpr (L+15) L e 0:=by rw[bExprs,bExprs,Yax]
   obtain⟨u,x⟩:=Yx (bExpr (L+15) L e 0).length;obtain⟨K,M⟩:=Yx (bStmts (L+15) L behind body (l+2)).1.length;have O:S.Seg I obj i [bL (bLab (l+1))]:=hs.left.left.left.left;have b0:S.Seg I obj (i+1) (bExprs (L+15) L [e] 0):=by rw[d2];exact hs.left.left.left.right
   have Z:S.Seg I obj (i+1+u) [bU 11 (bLab (l+2))]:=by
    have h:=hs.left.left.right;rw[Yd,<- x] at h;have e1:i+(([bL (bLab (l+1))]:List S.Item).length+u)=i+1+u:=by simp;omega
    rw[e1] at h;exact h
   have b5:S.Seg I obj (i+1+u+1) (bStmts (L+15) L behind body (l+2)).1:=by
    have h:=hs.left.right;rw[Yd,Yd,<- x] at h;have e1:i+(([bL (bLab (l+1))]:List S.Item).length+u+([bU 11 (bLab (l+2))]:List S.Item).length)=i+1+u+1:=by simp;omega
    rw[e1] at h;exact h
   have C:S.Seg I obj (i+1+u+1+K) [bJ 0 (bLab (l+1)),bL (bLab (l+2))]:=by
    have h:=hs.right;rw[Yd,Yd,Yd,<- x,<- M] at h;have e1:i+(([bL (bLab (l+1))]:List S.Item).length+u+([bU 11 (bLab (l+2))]:List S.Item).length+K)=i+1+u+1+K:=by simp;omega
    rw[e1] at h;exact h
   have a2:i+([bL (bLab (l+1))]++bExpr (L+15) L e 0++[bU 11 (bLab (l+2))]++(bStmts (L+15) L behind body (l+2)).1++[bJ 0 (bLab (l+1)),bL (bLab (l+2))]).length=i+1+u+1+K+1+1:=by
    simp only[Yd,Yk,Yad,<- x,<- M];omega
   rw[a2];have c5:=Zkf cx O;have a5:=Zkf cx C.tail;have e6:∀(k:Nat)(env:List Int)(V st:S.Vw)(c:Nat),(env.length:Int)=L->J env st c k->S.Fm I V st base lk env []->S.OutS I V (I.adr i) (I.adr (i+1+u+1+K+1+1)) c L base lk behind Q R:=by
    intro k
    induction k using Nat.strongRecOn with
    | ind k ih =>
     intro env V st c U hJ hV;have d9:=b1 env st c k hJ;have h1:=Zfn cx (obj:=obj) U [e] 0 0 [] V st (i+1) c _ _ b4 rfl (by omega) d9 b0 hV;have g0:=Zeg cx.ok O.lo O.lt (V:=V) O.head;refine Zbc (c1:=c) (Yc _) (by rw[Nat.sub_self];exact g0) (S.Kp.refl _ _ _) ?_;refine Zo1 h1 λ vs G c1 z c0 t f=>?_
     obtain⟨F,t⟩:=t;have y:=f.val0 (by rw[F];exact Nat.one_pos);have en:i+1+(bExprs (L+15) L [e] ([]:List Int).length).length=i+1+u:=by rw[show([]:List Int).length=0 from rfl,d2,x]
     rw[en];have gu:=Zmz cx.ok Z.lo Z.lt (V:=z) Z.head (a:=11) (by decide);rw[y] at gu;by_cases cv:vs.getD 0 0=0
     .rw[if_pos cv] at t gu
      have gl:=Zeg cx.ok C.tail.lo C.tail.lt (V:=z) C.tail.head;have b3:S.Go I z (I.adr (i+1+u)) 4 z (I.adr (i+1+u+1+K+1)):=by rw[<- a5];exact gu
      exact Zbq cx (b3.trans gl) t U f.drop (S.Kp.refl _ _ _)
     .rw[if_neg cv] at t gu
      have h2:=Zeh body (v+1) (l+2) env z G (i+1+u+1) (c1+4) _ R U hb.1 t b5 f.drop;refine Zbc (c1:=c1+4) (by omega) (by rw[Yac];exact gu) (S.Kp.refl _ _ _) ?_;refine Zfo h2 λ Zhs b7 c2 T d3 a3 a4 W=>?_
      obtain⟨k2,e5,e3⟩:=a3;rw[<- M];have gj:S.Go I T (I.adr (i+1+u+1+K)) 3 T (I.adr i):=by rw[<- c5];exact Zlh cx.ok C.lo C.lt (V:=T) C.head
      refine Zbc (c1:=c2+3) (by omega) (by rw[Yac];exact gj) (S.Kp.refl _ _ _) ?_;exact ih k2 e5 Zhs T b7 (c2+3) a4 e3 W
   exact e6 k0 env V st c U e7 hV
  rw[if_neg c4] at hw hs⊢;by_cases c3:op=3
  .rw[if_pos c3] at hs⊢
   have Y:exprs.length=1:=by rw[if_neg (by omega),if_neg (by omega),if_neg (by omega)] at D;exact D
   obtain⟨u,x⟩:=Yx (bExprs (L+15) L exprs 0).length;obtain⟨K,M⟩:=Yx (bStmts (L+15) L behind body (l+2)).1.length;obtain⟨l2,e8⟩:=Yx (bStmts (L+15) L behind body (l+2)).2;rw[<- e8] at hs⊢;obtain⟨n3,b6⟩:=Yx (bStmts (L+15) L behind els l2).1.length;simp only at hs⊢;have b0:S.Seg I obj i (bExprs (L+15) L exprs 0):=hs.left.left.left.left.left;have Z:S.Seg I obj (i+u) [bU 11 (bLab (l+1))]:=by
    have h:=hs.left.left.left.left.right;rw[<- x] at h;exact h
   have b5:S.Seg I obj (i+u+1) (bStmts (L+15) L behind body (l+2)).1:=by
    have h:=hs.left.left.left.right;rw[Yd,<- x] at h;exact h
   have C:S.Seg I obj (i+u+1+K) [bJ 0 (bLab (l+2)),bL (bLab (l+1))]:=by
    have h:=hs.left.left.right;rw[Yd,Yd,<- x,<- M] at h;have e1:i+(u+([bU 11 (bLab (l+1))]:List S.Item).length+K)=i+u+1+K:=by simp;omega
    rw[e1] at h;exact h
   have e4:S.Seg I obj (i+u+1+K+2) (bStmts (L+15) L behind els l2).1:=by
    have h:=hs.left.right;rw[Yd,Yd,Yd,<- x,<- M] at h;have e1:i+(u+([bU 11 (bLab (l+1))]:List S.Item).length+K+([bJ 0 (bLab (l+2)),bL (bLab (l+1))]:List S.Item).length)=i+u+1+K+2:=by simp;omega
    rw[e1] at h;exact h
   have a8:S.Seg I obj (i+u+1+K+2+n3) [bL (bLab (l+2))]:=by
    have h:=hs.right;rw[Yd,Yd,Yd,Yd,<- x,<- M,<- b6] at h;have e1:i+(u+([bU 11 (bLab (l+1))]:List S.Item).length+K+([bJ 0 (bLab (l+2)),bL (bLab (l+1))]:List S.Item).length+n3)=i+u+1+K+2+n3:=by simp;omega
    rw[e1] at h;exact h
   have a2:i+(bExprs (L+15) L exprs 0++[bU 11 (bLab (l+1))]++(bStmts (L+15) L behind body (l+2)).1++[bJ 0 (bLab (l+2)),bL (bLab (l+1))]++(bStmts (L+15) L behind els l2).1++[bL (bLab (l+2))]).length=i+u+1+K+2+n3+1:=by
    simp only[Yd,Yk,Yad,<- x,<- M,<- b6];omega
   rw[a2];have a6:=Zkf cx C.tail;have a5:=Zkf cx a8;have h1:=Zfn cx (obj:=obj) U exprs 0 0 [] V st i c _ _ b4 rfl (by omega) hw b0 hV;refine Zo1 h1 λ vs G c1 z c0 t f=>?_
   obtain⟨F,t⟩:=t;have y:=f.val0 (by rw[F];omega);rw[if_neg (by omega),if_neg (by omega),if_pos c3] at t;have gu:=Zmz cx.ok Z.lo Z.lt (V:=z) Z.head (a:=11) (by decide);rw[y] at gu;have gx:∀T,S.Go I T (I.adr (i+u+1+K+2+n3)) 0 T (I.adr (i+u+1+K+2+n3+1)):=λ T=>Zeg cx.ok a8.lo a8.lt (V:=T) a8.head
   have en:i+(bExprs (L+15) L exprs ([]:List Int).length).length=i+u:=by rw[show([]:List Int).length=0 from rfl,x]
   rw[en];by_cases cv:vs.getD 0 0=0
   .rw[if_pos cv] at t gu
    have gl:=Zeg cx.ok C.tail.lo C.tail.lt (V:=z) C.tail.head;have b3:S.Go I z (I.adr (i+u)) 4 z (I.adr (i+u+1+K+1)):=by rw[<- a6];exact gu
    have h2:=Zeh els (v+1) l2 env z G (i+u+1+K+2) (c1+4) Q R U hb.2 t e4 f.drop;refine Zbc (c1:=c1+4) (by omega) (by rw[Yac];exact(b3.trans gl)) (S.Kp.refl _ _ _) ?_;refine Zfo h2 λ Zhs b7 c2 T d3 a3 a4 W=>?_
    rw[<- b6];exact Zbq cx (gx T) a3 a4 W (S.Kp.refl _ _ _)
   .rw[if_neg cv] at t gu
    have h2:=Zeh body (v+1) (l+2) env z G (i+u+1) (c1+4) _ R U hb.1 t b5 f.drop;refine Zbc (c1:=c1+4) (by omega) (by rw[Yac];exact gu) (S.Kp.refl _ _ _) ?_;refine Zfo h2 λ Zhs b7 c2 T d3 a3 a4 W=>?_
    rw[<- M];have gj:S.Go I T (I.adr (i+u+1+K)) 3 T (I.adr (i+u+1+K+2+n3)):=by rw[<- a5];exact Zlh cx.ok C.lo C.lt (V:=T) C.head
    exact Zbq cx (gj.trans (gx T)) a3 a4 W (S.Kp.refl _ _ _)
  rw[if_neg c3] at hs⊢;obtain⟨u,x⟩:=Yx (bExprs (L+15) L exprs 0).length;simp only at hs⊢;have h1:=Zfn cx (obj:=obj) U exprs 0 0 [] V st i c _ _ b4 rfl (by omega) hw hs.left hV;refine Zo1 h1 λ vs G c1 z c0 t f=>?_
  obtain⟨F,t⟩:=t;have en:i+(bExprs (L+15) L exprs ([]:List Int).length).length=i+u:=by rw[show([]:List Int).length=0 from rfl,x]
  rw[en,Yd,<- x,<- Ybg];have q:=hs.right;rw[<- x] at q;clear hs h1 hw hV;have c6:z.reg 28=base+L+15:=by rw[<- U];exact f.sp
  by_cases k1:op=1
  .rw[if_pos k1] at q t E⊢
   have Y:exprs.length=1:=by rw[if_neg (by omega),if_neg (by omega),if_neg (by omega)] at D;exact D
   have g4:=of_decide_eq_true E;have y:=f.val0 (by rw[F];omega);have g:=Zm4 cx (V:=z) q c6 (p:=1+n) (by omega) (by omega) (by decide);rw[y] at g;have c7:=cx.lo;have d7:=cx.top;have d8:=cx.dep0;refine Zbq cx g t (by simpa using U) ⟨f.mt.stack ⟨by omega,by omega⟩ _,by rw[List.length_set];exact f.sp,by rw[Zz _ _ (by omega)];exact f.fr.lk,λ k X=>?_,λ k X=>by simp at X⟩ (λ a a0 a1=>Zz _ _ (by omega));have d1:k<env.length:=by simpa using X
   rw[Zll _ _ _ _ d1];by_cases ck:k=n.toNat
   .rw[if_pos ck]
    have e:base+1+(k:Int)=base+(1+n):=by omega
    rw[e,Zc1]
   .rw[if_neg ck,Zz _ _ (by omega)];exact f.fr.env k d1
  rw[if_neg k1] at q t E⊢;by_cases k2:op=2
  .rw[if_pos k2] at q t E⊢
   have Y:exprs.length=2:=by rw[if_pos k2] at D;exact D
   have y:=f.val0 (by rw[F];omega);have f0:=f.val1 (by rw[F];omega);obtain⟨q1,q2,q3,q4⟩:=t;have g:=Zu1 cx.ok q.lo q.lt (V:=z) q.head (p:=S.u32m (vs.getD 0 0+n)) (by decide) (by decide) (by rw[y]) q1 q3;rw[f0] at g;have b8:∀b,I.stk b->b≠S.u32m (vs.getD 0 0+n):=λ b hb e=>q2 (by rw[<- e];exact hb)
   have c7:=cx.lo;have d7:=cx.top;have d8:=cx.dep0;refine Zbq cx g q4 U ⟨⟨f.mt.vis,λ a a0 a1 ha=>?_,f.mt.inp,f.mt.out⟩,f.sp,?_,λ k X=>?_,λ k X=>by simp at X⟩ (λ a a0 a1=>Zz _ _ (b8 a ⟨a0,by omega⟩))
   .show(if a=_ then _ else z.mem a)=if a=_ then _ else G.mem a
    split
    .rfl
    .exact f.mt.mem a a0 a1 ha
   .rw[Zz _ _ (b8 _ ⟨by omega,by omega⟩)];exact f.fr.lk
   .rw[Zz _ _ (b8 _ ⟨by omega,by omega⟩)];exact f.fr.env k X
  rw[if_neg k2] at q t E⊢;rw[if_neg c3] at t;by_cases k5:op=5
  .rw[if_pos k5] at q t⊢
   have Y:exprs.length=regs.length:=by rw[if_neg k2,if_pos k5] at D;exact D
   have d0:vs.length=regs.length:=by rw[F];exact Y
   have f1:regs.length<=14:=by
    by_cases he:exprs=[]
    .subst he;simp at Y;omega
    .have:=Zlk exprs 0 he;omega
   obtain⟨T,g2,W,e2⟩:=Zu9 cx (obj:=obj) regs vs 0 (i+u) z G (bBack (L+15) behind) (Zkg d6) d0 (by omega) (λ k X=>by have:=f.fr.ts k (by simpa using X);simpa using this) q f.drop;have d5:=q.right;have e9:∀(regs:List Int) j,(bRegs regs j).length=regs.length:=by
    intro regs
    induction regs with
    | nil=>intro j;rfl
    | cons a r ih=>intro j;rw[bRegs,Yk,ih];rfl
   rw[e9] at d5;have hd:=Zo2 cx (obj:=obj) (r:=[]) U (by rw[Yax];exact d5) W;refine Zhd cx (k:=regs.length+(if behind=true then 5 else 3)) (Zav g2 (λ a _ _=>by rw[e2]) hd (Yc _)) ?_;rw[<- Ybg];exact t
  rw[if_neg k5] at q t⊢;by_cases k6:op=6
  .rw[if_neg (by omega),if_neg (by omega),if_neg (by omega),if_neg (by omega),if_neg (by omega)]
   rw[if_pos k6] at t;exact Zbq cx (k:=0) (Zdh _ _ _) t U f.drop (S.Kp.refl _ _ _)
  rw[if_neg k6] at t;have a7:op≠10->exprs.length=1:=λ h=>by rw[if_neg k2,if_neg k5,if_neg h] at D;exact D
  by_cases k7:op=7
  .rw[if_pos k7] at q t⊢
   have y:=f.val0 (by rw[F,a7 (by omega)];decide);have g:=Z4y cx.ok q.lo q.lt (V:=z) q.head (by decide);rw[y] at g;exact Zbq cx g t U ⟨⟨f.mt.vis,f.mt.mem,f.mt.inp,by show z.out++_=G.out++_;rw[f.mt.out]⟩,f.sp,f.fr.lk,f.fr.env,λ k X=>by simp at X⟩ (S.Kp.refl _ _ _)
  rw[if_neg k7] at q t⊢;by_cases k8:op=8
  .rw[if_pos k8] at q t⊢
   have y:=f.val0 (by rw[F,a7 (by omega)];decide);have g:=Z15 cx.ok q.lo q.lt (V:=z) q.head (by decide);rw[y] at g;exact Zhd cx (k:=1) (o:=.halt (vs.getD 0 0) G) ⟨z,g,f.mt⟩ t
  rw[if_neg k8] at q t⊢;by_cases k9:op=9
  .rw[if_pos k9] at q t E⊢
   have y:=f.val0 (by rw[F,a7 (by omega)];decide);have hh:=Zke E;have g:=Zfm cx (V:=z) q (by omega) (by omega) (by decide);rw[y] at g;refine Zbq cx g t U ⟨⟨λ k X=>?_,f.mt.mem,f.mt.inp,f.mt.out⟩,by rw[Zd _ _ (by omega)];exact f.sp,f.fr.lk,f.fr.env,λ k X=>by simp at X⟩ (S.Kp.refl _ _ _)
   show(if k=n then _ else z.reg k)=if k=n then _ else G.reg k
   split
   .rfl
   .exact f.mt.vis k X
  rw[if_neg k9] at q t⊢;have c7:=cx.lo;have d7:=cx.top;have d8:=cx.dep0;have f2:=cx.ok.size2;have f9:=cx.ok.hisz;have f8:=cx.ok.lo0;have a9:S.u32m (z.reg 28+-(L+15))=base:=by rw[c6];unfold S.u32m;omega
  by_cases b9:op=10
  .rw[if_pos b9] at q t⊢
   have c8:labB name=true:=by
    have:namedS op=true:=by unfold namedS;rw[decide_eq_true_eq];exact b9
    rw[this] at d4
    simpa using d4
   have g1:=Zd2 cx.ok q.lo q.lt (V:=z) (d:=28) (a:=28) (n:=-(L+15)) q.head (by decide) (by decide) (by decide);rw[a9] at g1;have hh:I.xs[i+u+1]?=some ⟨4,⟨0,0,0,0,0⟩,name,0⟩:=by
    rw[q.tail.head]
    show some (⟨4,⟨0,0,0,0,0⟩,owned obj name,0⟩:S.Item)=_
    rw[Zfl obj c8]
   have g2:=Zlh cx.ok q.tail.lo q.tail.lt (V:=z.set 28 base) hh;exact Zhd cx (k:=4) (o:=.left (I.lab name) G) ⟨_,g1.trans g2,f.mt.hid (by decide) _,Zg _ _ _,λ _ _ _=>rfl⟩ t
  rw[if_neg b9] at q t⊢;by_cases c9:op=11
  .rw[if_pos c9] at q t⊢
   have y:=f.val0 (by rw[F,a7 (by omega)];decide);have g1:=Zd2 cx.ok q.lo q.lt (V:=z) (d:=28) (a:=28) (n:=-(L+15)) q.head (by decide) (by decide) (by decide);rw[a9] at g1;have g2:S.Go I (z.set 28 base) (I.adr (i+u+1)) 1 (z.set 28 base) (vs.getD 0 0):=Zyj λ m hm=>by
    have g:=Zoy cx.ok q.tail.lo q.tail.lt (V:=z.set 28 base) (a:=11) (n:=0) q.tail.head (by decide);have hb:=hm.rbd (j:=11) (by decide) (by decide) (by decide);rw[Zd _ _ (by decide),y] at hb;have e:S.u32m ((z.set 28 base).reg 11+0)=vs.getD 0 0:=by rw[Zd _ _ (by decide),y];unfold S.u32m;omega
    rw[e] at g;exact g
   exact Zhd cx (k:=2) (o:=.left (vs.getD 0 0) G) ⟨_,g1.trans g2,f.mt.hid (by decide) _,Zg _ _ _,λ _ _ _=>rfl⟩ t
  rw[if_neg c9] at t;exact absurd t id
theorem Zeh:∀(r:List S.BS)(d:Nat)(l:Int)(env:List Int)(V st:S.Vw)(i c:Nat)(Q:List Int->S.Vw->Nat->Prop) (R:S.BO->Nat->Prop),(env.length:Int)=L->chkSs L r d=0->S.wpSs I dep lk behind r env st c Q R ->
 S.Seg I obj i (bStmts (L+15) L behind r l).1->S.Fm I V st base lk env []->S.OutS I V (I.adr i) (I.adr (i+(bStmts (L+15) L behind r l).1.length)) c L base lk behind Q R
 | [],d,l,env,V,st,i,c,Q,R,hL,hc,hw,hs,hV=>by
  rw[S.wpSs] at hw;rw[bStmts];exact Zbq cx (k:=0) (b:=I.adr i) (Zdh _ _ _) hw hL hV (S.Kp.refl _ _ _)
 | s::r,d,l,env,V,st,i,c,Q,R,hL,hc,hw,hs,hV=>by
  rw[chkSs] at hc;have n:chkS L s d=0/\chkSs L r d=0:=by
   by_cases h:chkS L s d≠0
   .rw[if_pos h] at hc;exact absurd hc h
   .rw[if_neg h] at hc;exact⟨by simpa using h,hc⟩
  rw[S.wpSs] at hw;rw[bStmts] at hs⊢;simp only at hs⊢;have t:=Z19 s d l env V st i c _ R hL n.1 hw hs.left hV;refine Zfo t λ Z1c e c1 u o g f j=>?_
  have q:=Zeh r d (bStmt (L+15) L behind s l).2 Z1c u e (i+(bStmt (L+15) L behind s l).1.length) c1 Q R f n.2 g hs.right j;rw[Yd,<- Ybg];exact q
end
end
end
section
theorem Zaw:∀k,(bParams k).length=k
 | 0=>rfl
 | k+1=>by rw[bParams,Yd,Zaw k];rfl
section
variable {I:S.Img}{L dep lk base:Int}(cx:S.Cx I L dep lk base){obj:ByteArray}
include cx
theorem Zin {V:S.Vw}{i:Nat}(d:V.reg 28=base):∀k:Nat,k<=4->S.Seg I obj i (bParams k)->∃V',S.Go I V (I.adr i) k V' (I.adr (i+k))/\V'.reg=V.reg/\(∀j:Nat,j<k->V'.mem (base+1+j)=V.reg (4+j)) /\
 (∀a:Int,a<base+1\/base+1+k<=a->V'.mem a=V.mem a)/\V'.inp=V.inp/\V'.out=V.out
 | 0,_,_=>⟨V,Zdh _ _ _,rfl,λ j u=>by omega,λ _ _=>rfl,rfl,rfl⟩
 | k+1,hk,hs=>by
  obtain⟨f,t,e,r,n,l,o⟩:=Zin d k (by omega) hs.left;have b:=hs.right;rw[Zaw] at b;obtain⟨ok,lo,top,dep0,L0,_,_,_⟩:=cx;have q1:=ok.lo0;have q2:=ok.hisz;have q3:=ok.size2;have g:base+1+(k:Int)=S.u32m (f.reg 28+(1+(k:Int))):=by rw[e,d];unfold S.u32m;omega
  have q:¬I.code (base+1+k):=by
   rintro⟨c0,c1⟩;rcases ok.apart with h|h <;> omega
  have v:=Zu1 ok b.lo b.lt (V:=f) b.head (by decide) (by omega) g (by omega) q;refine⟨_,t.trans v,e,λ j u=>?_,λ a ha=>?_,l,o⟩
  .by_cases c:j=k
   .subst c
    rw[Zc1,e]
   .rw[Zz _ _ (by omega)];exact r j (by omega)
  .rw[Zz _ _ (by omega)];exact n a (by omega)
end
theorem Zc2 {r:BR}(h:chkB r=0):labB r.name=true/\0<=r.params/\r.params<=4/\r.params<=r.locals/\r.locals<=200/\chkSs r.locals r.body 0=0:=by
 unfold chkB at h
 split at h
 .omega
 .rename_i hc
  simp only[Ycb,Bool.or_eq_false_iff,Bool.not_eq_false',decide_eq_false_iff_not] at hc;obtain⟨⟨⟨⟨b,h2⟩,h3⟩,h4⟩,h5⟩:=hc;exact⟨b,by omega,by omega,by omega,by omega,h⟩
theorem Zes (f:Nat->Int)(n k:Nat)(h:k<n):((Yb7 n).map f).getD k 0=f k:=by
 simp[h]
theorem Zgc {I:S.Img}(t:I.Ok)(r:BR)(hc:chkB r=0){i:Nat}(z:S.Seg I r.name i (bItems r)){dep:Int}(O:0<=dep)(st:S.Vw)(R:Int->S.BO->Nat->Prop)
 (hw:∀(lk:Int)(env:List Int),0<=lk->lk<I.size->(env.length:Int)=r.locals->(∀k:Nat,(k:Int)<r.params->env.getD k 0=st.reg (4+k)) ->
  S.wpSs I dep lk r.behind r.body env st (r.params.toNat+2) (λ _ y G=>R lk (.ret y) (G+(if r.behind=true then 5 else 3))) (R lk)) :
 S.Real I r.name r.behind st (r.locals+15+dep) R:=by
 obtain⟨hn,p0,p4,pL,J,C⟩:=Zc2 hc;intro V top ret q E a7 r0 r1 Z b1;have cx:S.Cx I r.locals dep ret top:=⟨t,Z,by omega,O,by omega,J,r0,r1⟩
 have q1:=t.lo0;have q2:=t.hisz;have q3:=t.size2;have a3:frameB r=r.locals+15:=by unfold frameB;rw[if_neg (by simp[hc])]
 obtain⟨f,Q⟩:=Yx r.params.toNat;unfold bItems bHead at z;rw[a3,<- Q] at z;have g:S.Seg I r.name i ([bL r.name,bI 25 0 28 31 0]:List S.Item):=z.left.left.left.left;have a4:S.Seg I r.name (i+2) (bParams f):=z.left.left.left.right;have D:S.Seg I r.name (i+2+f) [bI 15 28 28 0 (r.locals+15)]:=by
  have h:=z.left.left.right;rw[Yd,Zaw] at h;have e:i+(([bL r.name,bI 25 0 28 31 0]:List S.Item).length+f)=i+2+f:=by simp;omega
  rw[e] at h;exact h
 have a5:S.Seg I r.name (i+2+f+1) (bStmts (r.locals+15) r.locals r.behind r.body 0).1:=by
  have h:=z.left.right;rw[Yd,Yd,Zaw] at h;have e:i+(([bL r.name,bI 25 0 28 31 0]:List S.Item).length+f+([bI 15 28 28 0 (r.locals+15)]:List S.Item).length)=i+2+f+1:=by simp;omega
  rw[e] at h;exact h
 have Y:S.Seg I r.name (i+2+f+1+(bStmts (r.locals+15) r.locals r.behind r.body 0).1.length) (bBack (r.locals+15) r.behind):=by
  have h:=z.right;rw[Yd,Yd,Yd,Zaw] at h;have e:i+(([bL r.name,bI 25 0 28 31 0]:List S.Item).length+f+([bI 15 28 28 0 (r.locals+15)]:List S.Item).length+(bStmts (r.locals+15) r.locals r.behind r.body 0).1.length)=i+2+f+1+(bStmts (r.locals+15) r.locals r.behind r.body 0).1.length:=by simp;omega
  rw[e] at h;exact h
 have K:I.lab r.name=I.adr i:=by
  have:=Zkf cx g;rw[Zfl _ hn] at this;exact this
 have g0:=Zeg t g.lo g.lt (V:=V) g.head;have et:top=S.u32m (V.reg 28+0):=by rw[E];unfold S.u32m;omega
 have a9:¬I.code top:=by
  rintro⟨c0,c1⟩;rcases t.apart with h|h <;> omega
 have g1:=Zu1 t g.tail.lo g.tail.lt (V:=V) (a:=28) (b:=31) (n:=0) g.tail.head (by decide) (by decide) et (by omega) a9;rw[a7] at g1;obtain⟨l,g2,W,a2,U,a8,X⟩:=Zin cx (V:=V.sto top ret) E f (by omega) a4;have g3:=Zd2 t D.lo D.lt (V:=l) (d:=28) (a:=28) (n:=r.locals+15) D.head (by decide) (by decide) (by decide);have e3:S.u32m (l.reg 28+(r.locals+15))=top+r.locals+15:=by
  have:l.reg 28=top:=by rw[W];exact E
  rw[this];unfold S.u32m;omega
 rw[e3] at g3;have gg:S.Go I V (I.lab r.name) (f+2) (l.set 28 (top+r.locals+15)) (I.adr (i+2+f+1)):=by
  rw[K];exact(((g0.trans g1).trans g2).trans g3).more (by omega)
 have u:∀a:Int,a<top\/top+1+f<=a->(l.set 28 (top+r.locals+15)).mem a=V.mem a:=λ a ha=>by
  show l.mem a=_
  rw[U a (by omega),Zz _ _ (by omega)]
 obtain⟨env,v⟩:∃env:List Int,env=(Yb7 r.locals.toNat).map λ k:Nat=>(l.set 28 (top+r.locals+15)).mem (top+1+(k:Int)):=⟨_,rfl⟩
 have a6:env.length=r.locals.toNat:=by rw[v];simp
 have T:∀k:Nat,k<env.length->env.getD k 0=(l.set 28 (top+r.locals+15)).mem (top+1+(k:Int)):=λ k F=>by
  rw[v,Zes _ _ _ (by rw[<- a6];exact F)]
 have hF:S.Fm I (l.set 28 (top+r.locals+15)) st top ret env []:=by
  refine⟨⟨λ j hj=>?_,λ a a0 a1 ha=>?_,?_,?_⟩,?_,?_,λ k F=>(T k F).symm,λ k F=>by simp at F⟩
  .have:=Zke hj
   rw[Zd _ _ (by omega),W];exact q.vis j hj
  .by_cases hin:top<=a/\a<top+1+f
   .exact absurd ⟨by omega,by omega⟩ ha
   .rw[u a (by omega)];exact q.mem a a0 a1 ha
  .show l.inp=_;rw[a8];exact q.inp
  .show l.out=_;rw[X];exact q.out
  .rw[Zg];omega
  .show l.mem top=ret
   rw[U top (by omega),Zc1]
 have x:∀k:Nat,(k:Int)<r.params->env.getD k 0=st.reg (4+k):=λ k F=>by
  rw[T k (by omega)]
  show l.mem (top+1+(k:Int))=_
  rw[a2 k (by omega)];exact q.vis _ (by unfold S.visB;rw[decide_eq_true_eq];omega)
 have hL:(env.length:Int)=r.locals:=by omega
 have M:S.Kp I top V (l.set 28 (top+r.locals+15)):=λ a a0 a1=>u a (by omega)
 have hb:=hw ret env r0 r1 hL x;rw[<- Q] at hb;have h:=Zeh cx (obj:=r.name) (behind:=r.behind) r.body 0 0 env _ st _ (f+2) _ _ hL C hb a5 hF;rcases h with⟨b0,y,G,V',h1,h2,h3,h4,h5,h6⟩|⟨o,G,h1,h2,h3⟩
 .have hbk:=Zo2 cx (obj:=r.name) (behind:=r.behind) (r:=[]) h3 (by rw[Yax];exact Y) h5
  have hd:=Zav h4 h6 hbk (Yc _);refine⟨.ret y,G+(if r.behind=true then 5 else 3),h2,Zav gg M hd ?_⟩;omega
 .exact⟨o,G,h2,Zav gg M h3 (by omega)⟩
end
namespace S
def tells:List Item->List ByteArray
 | []=>[]
 | x::r=>if x.kind=2 then x.label::tells r else tells r
def names:List Item->List ByteArray
 | []=>[]
 | x::r=>if named x=true then x.label::names r else names r
def allChk (xs:List Item):Prop:=∀x∈xs,chkItem x=0
def bulk:List Item->Int
 | []=>0
 | x::r=>(if x.kind=8 then x.word else 4)+bulk r
end S
theorem Zax (a b:List S.Item):S.tells (a++b)=S.tells a++S.tells b:=by
 induction a with
 | nil=>rfl
 | cons x r ih =>
  rw[Y9,S.tells,S.tells,ih]
  split <;> rfl
theorem Zcj (a b:List S.Item):S.names (a++b)=S.names a++S.names b:=by
 induction a with
 | nil=>rfl
 | cons x r ih =>
  rw[Y9,S.names,S.names,ih]
  split <;> rfl
theorem Zb6 (a b:List S.Item):S.bulk (a++b)=S.bulk a+S.bulk b:=by
 induction a with
 | nil=>simp[S.bulk]
 | cons x r ih=>rw[Y9,S.bulk,S.bulk,ih];omega
theorem Zva {xs:List S.Item}{s:ByteArray}(h:s∈S.tells xs):∃x∈xs,x.kind=2/\x.label=s:=by
 induction xs with
 | nil=>cases h
 | cons y r ih =>
  rw[S.tells] at h
  split at h
  .rename_i c
   rcases Yr.1 h with rfl|h
   .exact⟨y,Yw,c,rfl⟩
   .obtain⟨x,hx,h⟩:=ih h
    exact⟨x,Y0 _ hx,h⟩
  .obtain⟨x,hx,h⟩:=ih h
   exact⟨x,Y0 _ hx,h⟩
theorem Zm7 {xs:List S.Item}{x:S.Item}(h:x∈xs)(b:x.kind=2):x.label∈S.tells xs:=by
 induction xs with
 | nil=>cases h
 | cons y r ih =>
  rw[S.tells];rcases Yr.1 h with rfl|h
  .rw[if_pos b];exact Yw
  .split
   .exact Y0 _ (ih h)
   .exact ih h
theorem Zvb {xs:List S.Item}{x:S.Item}(h:x∈xs)(b:S.named x=true):x.label∈S.names xs:=by
 induction xs with
 | nil=>cases h
 | cons y r ih =>
  rw[S.names];rcases Yr.1 h with rfl|h
  .rw[if_pos b];exact Yw
  .split
   .exact Y0 _ (ih h)
   .exact ih h
theorem Zvc {xs:List S.Item}(hd:(S.tells xs).Nodup){i j:Nat}{x y:S.Item}(b:xs[i]?=some x)(d:xs[j]?=some y)(f:x.kind=2)(e:y.kind=2)(h:x.label=y.label):i=j:=by
 induction xs generalizing i j with
 | nil=>simp at b
 | cons z r ih =>
  rw[S.tells] at hd;have g:(S.tells r).Nodup:=by
   split at hd
   .exact(Ybs.1 hd).2
   .exact hd
  cases i with
  | zero =>
   cases j with
   | zero=>rfl
   | succ j =>
    exfalso
    simp at b d;subst b;rw[if_pos f] at hd;exact(Ybs.1 hd).1 (h ▸ Zm7 (Y1 d) e)
  | succ i =>
   cases j with
   | zero =>
    exfalso
    simp at b d;subst d;rw[if_pos e] at hd;exact(Ybs.1 hd).1 (h ▸ Zm7 (Y1 b) f)
   | succ j =>
    simp at b d;rw[ih g b d]
theorem Z44 {xs:List S.Item}(hd:(S.tells xs).Nodup):¬Dup xs:=by
 rintro⟨i,x,f,d,k⟩;rcases Zaj xs x.label with⟨e,b⟩|⟨j,y,e,b,g,h,_⟩
 .exact b i x f ⟨d,rfl⟩
 .exact k (by rw[e,Zvc hd b f g d h])
theorem Z2a {xs:List S.Item}(k:∀s∈S.names xs,s∈S.tells xs):¬Miss xs:=by
 rintro⟨i,x,e,h,hs⟩;obtain⟨y,l,f,d⟩:=Zva (k _ (Zvb (Y1 e) h));obtain⟨j,n,rfl⟩:=Yb9 l;rcases Zaj xs x.label with⟨g,b⟩|⟨j,y,g,b,h3,h4,_⟩
 .exact b j _ (Ye n) ⟨f,d⟩
 .omega
theorem Zry {xs:List S.Item}(h:S.allChk xs):firstErr xs=0:=by
 induction xs with
 | nil=>rfl
 | cons x r ih =>
  rw[firstErr,if_neg (by rw[h x Yw];simp)];exact ih λ y b=>h y (Y0 _ b)
theorem Zm8 {xs:List S.Item}{F:List Int}(hF:FormOk xs F)(d:S.allChk xs):∀n:Nat,n<=xs.length->addr xs F 0 n<=S.bulk (xs.take n)
 | 0,_=>by simp[addr,S.bulk]
 | n+1,h=>by
  have h1:=Zm8 hF d n (by omega);have b:xs[n]?=some xs[n]:=Ye h;have h2:=hF.2 n _ b;have h3:=d xs[n] (List.getElem_mem h);have e:xs.take (n+1)=xs.take n++[xs[n]]:=by rw[Yan,b];rfl
  rw[e,Zb6]
  show addr xs F 0 n+sizeAt xs F n<=_
  unfold sizeAt;rw[b];have h4:S.size xs[n] (F.getD n 0)<=(if xs[n].kind=8 then xs[n].word else 4):=by
   unfold S.size;generalize xs[n]=x at *
   grind
  simp only[S.bulk];omega
theorem Z45 {xs:List S.Item}{e:Int}{F:List Int}(h:FormsRes xs 0 e F)(f:S.allChk xs)(hd:(S.tells xs).Nodup)(k:∀s∈S.names xs,s∈S.tells xs)(hb:S.bulk xs<=67108864) :
 e=0/\FormOk xs F/\addr xs F 0 xs.length<=S.bulk xs:=by
 have h0:CheckRes xs 0 0:=.inr (.inr (.inr (.inr ⟨Int.le_refl _,by decide,Zry f,Z44 hd,Z2a k,rfl⟩)));have g:∀G,FormOk xs G->addr xs G 0 xs.length<=S.bulk xs:=λ G l=>by
  have:=Zm8 l f xs.length (Yc _)
  rwa[List.take_length] at this
 rcases h with⟨j,d,_⟩|⟨_,_,_,G,b,i⟩|⟨_,d,b,_,_⟩
 .exact absurd (Zat d h0) j
 .have:=g G b.1
  have:(67108864:Int)<addr xs G 0 xs.length:=i;omega
 .exact⟨d,b.1,g F b.1⟩
theorem Z0r {xs:List S.Item}{F:List Int}(hF:FormOk xs F)(d:∀x∈xs,1<=x.kind/\x.kind<=8)(b:∀x∈xs,0<=x.word/\x.word<=4294967295){i j:Nat}{w:Int}(f:(wordsAt xs F 0 i)[j]?=some w) :
 ∀n:Nat,i<n->(outTo xs F 0 n)[(addr xs F 0 i).toNat+j]?=some w
 | 0,h=>by omega
 | n+1,h=>by
  rw[outTo];have hl:=Zau (base:=0) hF d b n;have g:=Zau (base:=0) hF d b i;have l:=(Yg.1 f).1;have k:=Zag (base:=0) hF d b i;by_cases c:i=n
  .subst c
   rw[Yo (by omega)];have e:(addr xs F 0 i).toNat+j-(outTo xs F 0 i).length=j:=by omega
   rw[e];exact f
  .have h1:=Z0r hF d b f n (by omega)
   rw[Yn (Yg.1 h1).1];exact h1
theorem Zyp {y:Inst}{s:ByteArray}{w:Int}(h:good y=true):S.chkItem ⟨1,y,s,w⟩=0:=by
 simp[S.chkItem,chk,h]
theorem Zlm:Maps.Keyed prog 9:=Maps.string_keyed underlying9
theorem Zm9 (w:World):(zeroValue 3).run prog w=.ok (.int .i64 0) w:=by kernel_rfl
abbrev Zxg (s:ByteArray):Lit:=.string s.data.toList
theorem Zyq {a b:ByteArray}(h:Zxg a=Zxg b):a=b:=by
 simp only[Zxg,Lit.string.injEq] at h;exact WideShapes.bytes_inj h
theorem Zo3 (s:ByteArray):WideAt.IsKeyLit (Zxg s):=by first|trivial|simp[WideAt.IsKeyLit,Zxg]
def MapS (w:World)(m n:Nat)(f:ByteArray->Option Int):Prop :=
 ∃D:DataW Unit,w.ownsMap prog 9 (plainElem prog 3) m (Maps.size D) D/\Maps.Tidy D/\Maps.size D<=n /\
  ∀s,Maps.has D (Zxg s)=(f s).isSome/\D.atKey (Zxg s) (.lit (.int .i64 0))=.lit (.int .i64 ((f s).getD 0))
theorem Zln {w:World}{m n:Nat}{D:DataW Unit}(h:w.ownsMap prog 9 (plainElem prog 3) m n D):w.ownsMap prog 9 (plainElem prog 3) m (Maps.size D) D:=by
 obtain⟨e,b,d,F,hs,rfl⟩:=h;refine⟨e,b,d,F,?_,rfl⟩;rw[Maps.size_eq,length_sorted];simp
theorem MapS.made (w:World):MapS (w.alloc (.map #[] 0)) w.heap.size 0 (λ _=>none) :=
 ⟨.map [],World.ownsMap_made w _ _ _,Maps.tidy_empty,Yc _,λ s=>⟨rfl,rfl⟩⟩
theorem MapS.lt {w:World}{m n:Nat}{f:ByteArray->Option Int}(h:MapS w m n f):m<w.heap.size:=by
 obtain⟨D,b,_⟩:=h;exact b.lt
theorem MapS.kept {w w':World}{m n:Nat}{f:ByteArray->Option Int}{row:Option Nat}(h:MapS w m n f)(hg:w.grownBy w' row)(b:some m≠row):MapS w' m n f:=by
 obtain⟨D,e,d⟩:=h;exact⟨D,e.kept hg b,d⟩
theorem MapS.below {w w':World}{m n:Nat}{f:ByteArray->Option Int}(h:MapS w m n f)(b:Below w.heap.size w w'):MapS w' m n f :=
 h.kept (row:=none) ⟨b.os,b.tape,b.output,b.size,λ k d _=>b.block k d⟩ (by simp)
theorem MapS.mono {w:World}{m n n':Nat}{f:ByteArray->Option Int}(h:MapS w m n f)(i:n<=n'):MapS w m n' f:=by
 obtain⟨D,g,e,b,d⟩:=h;exact⟨D,g,e,Yz b i,d⟩
theorem MapS.look {w:World}{m n:Nat}{f:ByteArray->Option Int}(h:MapS w m n f){s:ByteArray}(g:s.size<=maxLen) :
 (Instr.lookup 199 (.map (some m)) (.string s) false).run prog w=.ok (.int .i64 ((f s).getD 0)) w:=by
 obtain⟨D,i,_,_,e⟩:=h;obtain⟨c,d,b,_⟩:=i.lookup_int Zlm underlying199 underlying3 (Zm9 w) (WideMaps.keyOf_string_mk underlying9 g);rw[(e s).2] at b;simp only[DataW.lit.injEq,Lit.int.injEq,true_and] at b;rw[d,b]
theorem MapS.lookOk {w:World}{m n:Nat}{f:ByteArray->Option Int}(h:MapS w m n f){s:ByteArray}(k:s.size<=maxLen) :
 (Instr.lookup 199 (.map (some m)) (.string s) true).run prog w=.ok (.tuple #[.int .i64 ((f s).getD 0),.bool (f s).isSome]) w:=by
 obtain⟨D,i,_,_,e⟩:=h;obtain⟨v,ps,d,j⟩:=i.look_ok Zlm underlying199 (Zm9 w) (zd:=.lit (.int .i64 0)) (zp:=[]) (plainElem_int underlying3 (by decide)) (WideMaps.keyOf_string_mk underlying9 k);obtain⟨c,rfl,g,_⟩:=plainElem_int_inv underlying3 j;have b:=congrArg Prod.fst g;simp only[(e s).2] at b;simp only[DataW.lit.injEq,Lit.int.injEq,true_and] at b;rw[d,(e s).1,b]
theorem Zfp {ops:Array Oper}{rest:List Oper}{o:Oper}{a:Act}{Q:Exit->Act->World->Prop}{w:World}(hg:o.guard=none)(d x v:Operand)(g:o.op=Op.mapUpdate 199 d x v)
 (m n:Nat) (f:ByteArray->Option Int) (hm:a.eval d=.map (some m)) (h:MapS w m n f) (hn:n<1152921504606846976) (s:ByteArray) (q:Int) (l:a.eval x=.string s) (y:a.eval v=.int .i64 q) (z:s.size<=maxLen) (C:(Lit.int .i64 q).wf=true)
 (k:∀w',MapS w' m (if (f s).isSome then n else n+1) (λ t=>if t=s then some q else f t)->w.grownBy w' (some m)->wpList prog ops Q rest (a.put o.dst undef) w'):wpList prog ops Q (o::rest) a w:=by
 obtain⟨D,u,b,h3,j⟩:=h;refine wpList_mapUpdate_own w hg d x v _ g _ _ Zlm underlying199 (plainElem prog 3) m _ D hm u (by simp only[maxLen];omega) _ _ (Zxg s) l y (WideMaps.keyOf_string_mk underlying9 z) (.lit (.int .i64 q)) [] (plainElem_int underlying3 C) ?_;intro w' r i;refine k w' ⟨_,Zln r,b.put (Zo3 s) _,?_,λ t=>?_⟩ i
 .rw[Maps.size_put b,(j s).1]
  split <;> simp_all
 .by_cases e:t=s
  .subst e
   simp only[if_pos rfl];exact⟨Maps.has_put_same b.isMap (Zo3 _) _,Maps.atKey_put_same b.isMap (Zo3 _) _ _⟩
  .have hne:Zxg t≠Zxg s:=λ h=>e (Zyq h)
   simp only[if_neg e];rw[Maps.has_put_other hne,Maps.atKey_put_other hne];exact j t
theorem Zcp {w w1:World}(h:∃x:Ext w,w1=x.val):Below w.heap.size w w1:=by
 obtain⟨x,rfl⟩:=h;exact x.property
theorem Zvd {a b:ByteArray}(h:a=b):(a.toList==b.toList)=true:=by simp[h]
theorem Zve {a b:ByteArray}(h:a≠b):(a.toList==b.toList)=false:=by
 rw[beq_eq_false_iff_ne];intro e;rw[ByteArray.toList_eq,ByteArray.toList_eq] at e;exact h (WideShapes.bytes_inj e)
theorem Zvf {a b:Int}(h:a=b):(a==b)=true:=by simp[h]
theorem Zb7 {a b:Int}(h:a≠b):(a==b)=false:=by simp[h]
structure ItemAt (w:World)(b o:Nat)(x:S.Item):Prop where
 c0:w.cell? ⟨b,o,none⟩=some (.int .i64 x.kind)
 c1:w.cell? ⟨b,o+1,none⟩=some (.int .i64 x.inst.op)
 c2:w.cell? ⟨b,o+2,none⟩=some (.int .i64 x.inst.d)
 c3:w.cell? ⟨b,o+3,none⟩=some (.int .i64 x.inst.a)
 c4:w.cell? ⟨b,o+4,none⟩=some (.int .i64 x.inst.b)
 c5:w.cell? ⟨b,o+5,none⟩=some (.int .i64 x.inst.imm)
 c6:w.cell? ⟨b,o+6,none⟩=some (.string x.label)
 c7:w.cell? ⟨b,o+7,none⟩=some (.int .u32 x.word)
 w0:0<=x.word
 w1:x.word<=4294967295
def Items (w:World)(B:Nat)(A:Option Addr)(xs:List S.Item):Prop :=
 0<xs.length->∃b off,A=some ⟨b,off,none⟩/\b<B/\∀i x,xs[i]?=some x->ItemAt w b (off+i*8) x
theorem ItemAt.keep {w w':World}{b o:Nat}{x:S.Item}(h:ItemAt w b o x)(d:∀o,w'.cell? ⟨b,o,none⟩=w.cell? ⟨b,o,none⟩):ItemAt w' b o x :=
 ⟨(d _).trans h.c0,(d _).trans h.c1,(d _).trans h.c2,(d _).trans h.c3,(d _).trans h.c4,(d _).trans h.c5,(d _).trans h.c6,(d _).trans h.c7,h.w0,h.w1⟩
theorem Items.below {w w':World}{B:Nat}{A:Option Addr}{xs:List S.Item}(h:Items w B A xs)(g:Below B w w'):Items w' B A xs:=λ hp=>by
 obtain⟨b,off,e,d,f⟩:=h hp;exact⟨b,off,e,d,λ i x j=>(f i x j).keep λ o=>g.cell (p:=⟨b,o,none⟩) d⟩
theorem Items.words {w:World}{B:Nat}{A:Option Addr}{xs:List S.Item}(h:Items w B A xs):∀x∈xs,0<=x.word/\x.word<=4294967295:=λ x g=>by
 obtain⟨i,hi,rfl⟩:=Yb9 g;obtain⟨b,off,e,f,d⟩:=h (by omega);have:=d i _ (Ye hi);exact⟨this.w0,this.w1⟩
theorem Items.more {w:World}{B B':Nat}{A:Option Addr}{xs:List S.Item}(h:Items w B A xs)(g:B<=B'):Items w B' A xs:=λ hp=>by
 obtain⟨b,off,e,d,f⟩:=h hp;exact⟨b,off,e,Ys d g,f⟩
theorem Items.at_ {w:World}{B:Nat}{A:Option Addr}{xs:List S.Item}(h:Items w B A xs){k:Nat}(f:k<xs.length) :
 ∃b off x,A=some ⟨b,off,none⟩/\b<B/\xs[k]?=some x/\ItemAt w b (off+k*8) x:=by
 obtain⟨b,off,e,d,g⟩:=h (by omega);exact⟨b,off,xs[k],e,d,Ye f,g k _ (Ye f)⟩
def Zb (x:S.Item):List Value:=[.int .i64 x.kind,.int .i64 x.inst.op,.int .i64 x.inst.d,.int .i64 x.inst.a,.int .i64 x.inst.b,.int .i64 x.inst.imm,.string x.label,.int .u32 x.word]
theorem Zio (L:List S.Item)(i:Nat)(x:S.Item)(h:L[i]?=some x)(j:Nat)(hj:j<8):(L.flatMap Zb)[i*8+j]?=(Zb x)[j]?:=by
 induction L generalizing i with
 | nil=>simp at h
 | cons q L ih =>
  cases i with
  | zero =>
   simp only[Yaw,Option.some.injEq] at h;subst h;rw[Yaz,Yn (by simp[Zb];omega)];simp
  | succ i =>
   have d:=ih i (by simpa using h);have b:(i+1)*8+j=(Zb q).length+(i*8+j):=by simp[Zb];omega
   rw[Yaz,b,Yo (by omega),Yac];exact d
theorem Zd3 (xs:List S.Item):(xs.flatMap Zb).length=xs.length*8:=by
 induction xs with
 | nil=>rfl
 | cons x r ih=>rw[Yaz,Yd,ih];simp[Zb];omega
theorem Items.reads {w:World}{B:Nat}{A:Option Addr}{xs:List S.Item}(h:Items w B A xs):Reads w B A (xs.flatMap Zb):=λ hp=>by
 rw[Zd3] at hp;obtain⟨b,off,e,n,k⟩:=h (by omega);refine⟨b,off,e,n,λ i v j=>?_⟩;have f:=(Yg.1 j).1;rw[Zd3] at f;have u:i/8<xs.length:=by omega
 have g:xs[i/8]?=some xs[i/8]:=Ye u;have q:i/8*8+i%8=i:=by omega
 have d:=Zio xs (i/8) _ g (i%8) (by omega);rw[q,j] at d;obtain⟨h0,l,h2,h3,h4,h5,h6,h7,_,_⟩:=k (i/8) _ g;have t:i%8=0\/i%8=1\/i%8=2\/i%8=3\/i%8=4\/i%8=5\/i%8=6\/i%8=7:=by omega
 have o:off+i=off+i/8*8+i%8:=by omega
 rw[o];rcases t with r|r|r|r|r|r|r|r
 all_goals
  rw[r] at d⊢;simp only[Zb,Yaw,List.getElem?_cons_succ] at d
  cases d
  assumption
theorem Zd4 (xs:List S.Item):∀u∈xs.flatMap Zb,u.oneCell'=true:=by
 intro u d;obtain⟨x,_,b⟩:=List.mem_flatMap.1 d;simp only[Zb,Yr,List.not_mem_nil,or_false] at b;rcases b with rfl|rfl|rfl|rfl|rfl|rfl|rfl|rfl <;> rfl
theorem Items.of_own {w:World}{base:Nat}{e:TypeId}{A:Option Addr}{m c n:Nat}{xs:List S.Item}(h:w.ownsRow base e 8 (.slice A m c) n (xs.flatMap Zb))(l:∀x∈xs,0<=x.word/\x.word<=4294967295):Items w w.heap.size A xs:=λ hp=>by
 have o:(xs.flatMap Zb).length=n*8:=h.1;rw[Zd3] at o;obtain⟨g,rfl,_,d,_,f,_⟩:=Zan h (by omega);refine⟨g,0,rfl,d,λ i x k=>?_⟩;have hi:=(Yg.1 k).1;have b:∀j,j<8->w.cell? ⟨g,0+i*8+j,none⟩=(Zb x)[j]?:=by
  intro j q;rw[Y2,f _ (by omega),Zio xs i x k j q]
 obtain⟨w0,w1⟩:=l x (Y1 k);exact⟨b 0 (by omega),b 1 (by omega),b 2 (by omega),b 3 (by omega),b 4 (by omega),b 5 (by omega),b 6 (by omega),b 7 (by omega),w0,w1⟩
theorem Zlo:(prog.info? 3).map (λ i=>(i.zero,i.size,i.bytes))=some (some (.int .i64 0),1,8):=by kernel_rfl
def Ints (w:World)(B:Nat)(A:Option Addr)(xs:List Int):Prop :=
 0<xs.length->∃b off,A=some ⟨b,off,none⟩/\b<B/\∀i x,xs[i]?=some x->w.cell? ⟨b,off+i,none⟩=some (.int .i64 x)
theorem Ints.below {w w':World}{B:Nat}{A:Option Addr}{xs:List Int}(h:Ints w B A xs)(g:Below B w w'):Ints w' B A xs:=λ hp=>by
 obtain⟨b,off,e,d,f⟩:=h hp;exact⟨b,off,e,d,λ i x j=>(g.cell (p:=⟨b,off+i,none⟩) d).trans (f i x j)⟩
theorem Ints.more {w:World}{B B':Nat}{A:Option Addr}{xs:List Int}(h:Ints w B A xs)(g:B<=B'):Ints w B' A xs:=λ hp=>by
 obtain⟨b,off,e,d,f⟩:=h hp;exact⟨b,off,e,Ys d g,f⟩
theorem Ints.at_ {w:World}{B:Nat}{A:Option Addr}{xs:List Int}(h:Ints w B A xs){k:Nat}(g:k<xs.length) :
 ∃b off,A=some ⟨b,off,none⟩/\b<B/\w.cell? ⟨b,off+k,none⟩=some (.int .i64 (xs.getD k 0)):=by
 obtain⟨b,off,e,d,f⟩:=h (by omega);refine⟨b,off,e,d,f k _ ?_⟩;simp[g]
theorem Ints.two {w:World}{B:Nat}{A:Option Addr}{xs:List Int}(h:Ints w B A xs)(hp:0<xs.length) :
 ∃b off,A=some ⟨b,off,none⟩/\b<B/\∀i x,xs[i]?=some x->w.cell? ⟨b,off+i,none⟩=some (.int .i64 x):=h hp
theorem Ints.of_own {w:World}{base:Nat}{e:TypeId}{A:Option Addr}{m c n:Nat}{xs:List Int}(h:w.ownsRow base e 1 (.slice A m c) n (xs.map (Value.int .i64))):Ints w w.heap.size A xs:=λ hp=>by
 have hl:xs.length=n:=by have:=h.1;simpa using this
 obtain⟨g,rfl,k,b,l,d,_⟩:=Zan h (by omega);refine⟨g,0,rfl,b,λ i x f=>?_⟩;have hi:=(Yg.1 f).1;have j:=d i (by omega);rw[Y2,j,Yaf,f];rfl
theorem Zv:(prog.info? 79).map (λ i=>(i.zero,i.size,i.bytes))=some (some (.agg #[.int .i64 0,.int .i64 0,.int .i64 0,.int .i64 0,.int .i64 0,.int .i64 0,.string ByteArray.empty,.int .u32 0]),8,72):=by kernel_rfl
structure Z46 (w:World)(B b o:Nat)(x:S.Obj):Prop where
 c0:w.cell? ⟨b,o,none⟩=some (.string x.name)
 c1:∃A c,w.cell? ⟨b,o+1,none⟩=some (.slice A x.items.length c)/\Items w B A x.items
 nm:x.name.size<=maxLen
 lab:∀y∈x.items,y.label.size<=maxLen
def Objs (w:World)(B:Nat)(A:Option Addr)(os:List S.Obj):Prop :=
 0<os.length->∃b off,A=some ⟨b,off,none⟩/\b<B/\∀i x,os[i]?=some x->Z46 w B b (off+i*2) x
theorem Objs.below {w w':World}{B:Nat}{A:Option Addr}{os:List S.Obj}(h:Objs w B A os)(f:Below B w w'):Objs w' B A os:=λ hp=>by
 obtain⟨b,off,e,d,j⟩:=h hp;refine⟨b,off,e,d,λ i x l=>?_⟩;obtain⟨h0,⟨r,q,o,k⟩,n,g⟩:=j i x l;exact⟨(f.cell (p:=⟨b,_,none⟩) d).trans h0,⟨r,q,(f.cell (p:=⟨b,_,none⟩) d).trans o,k.below f⟩,n,g⟩
theorem Objs.more {w:World}{B B':Nat}{A:Option Addr}{os:List S.Obj}(h:Objs w B A os)(o:B<=B'):Objs w B' A os:=λ hp=>by
 obtain⟨b,off,e,g,f⟩:=h hp;refine⟨b,off,e,by omega,λ i x k=>?_⟩;obtain⟨h0,⟨r,q,n,j⟩,l,d⟩:=f i x k;exact⟨h0,⟨r,q,n,j.more o⟩,l,d⟩
theorem Objs.at_ {w:World}{B:Nat}{A:Option Addr}{os:List S.Obj}(h:Objs w B A os){k:Nat}(f:k<os.length) :
 ∃b off x,A=some ⟨b,off,none⟩/\b<B/\os[k]?=some x/\Z46 w B b (off+k*2) x:=by
 obtain⟨b,off,e,d,g⟩:=h (by omega);exact⟨b,off,os[k],e,d,Ye f,g k _ (Ye f)⟩
def seen (os:List S.Obj)(k:Nat)(s:ByteArray):Option Int:=if ∃j:Nat,j<k/\∃x:S.Obj,os[j]?=some x/\x.name=s then some 1 else none
def Zdp (os:List S.Obj)(k:Nat):Int:=if ∃j:Nat,j<k/\∃x:S.Obj,os[j]?=some x/\badN x=true then 2 else 0
def Zyr (os:List S.Obj)(k:Nat):Prop:=∀i j:Nat,∀a b:S.Obj,i<k->j<i->os[i]?=some a->os[j]?=some b->a.name≠b.name
theorem Zvg (os:List S.Obj):seen os 0=λ _=>none:=by
 funext s
 unfold seen;rw[if_neg];rintro⟨j,hj,_⟩;omega
theorem Zvh {os:List S.Obj}{k:Nat}{x:S.Obj}(b:os[k]?=some x):seen os (k+1)=λ t=>if t=x.name then some 1 else seen os k t:=by
 funext t
 unfold seen;by_cases c:t=x.name
 .rw[if_pos c,if_pos ⟨k,by omega,x,b,c.symm⟩]
 .rw[if_neg c]
  congr 1
  rw[eq_iff_iff]
  constructor
  .rintro⟨j,hj,y,hy,e⟩
   by_cases h:j=k
   .subst h
    rw[b] at hy
    cases hy
    exact absurd e.symm c
   .exact⟨j,by omega,y,hy,e⟩
  .rintro⟨j,hj,y,hy,e⟩
   exact⟨j,by omega,y,hy,e⟩
theorem Zvi {os:List S.Obj}{k:Nat}{x:S.Obj}(n:os[k]?=some x)(f:seen os k x.name=none)(hd:Zyr os k):Zyr os (k+1):=by
 intro i j a b hi l d g e;by_cases h:i=k
 .subst h
  rw[n] at d
  cases d
  unfold seen at f;rw[if_pos ⟨j,l,b,g,e.symm⟩] at f
  cases f
 .exact hd i j a b (by omega) l d g e
theorem Zvj {os:List S.Obj}{k:Nat}{x:S.Obj}(d:os[k]?=some x){v:Int}(b:seen os k x.name=some v):v=1/\DupN os:=by
 unfold seen at b
 split at b
 .rename_i h
  obtain⟨j,g,y,f,e⟩:=h;exact⟨by cases b;rfl,k,j,x,y,g,d,f,e.symm⟩
 .cases b
theorem Zo4 (os:List S.Obj):Zdp os 0=0:=by
 unfold Zdp;rw[if_neg];rintro⟨j,hj,_⟩;omega
theorem Zo5 {os:List S.Obj}{k:Nat}{x:S.Obj}(b:os[k]?=some x):Zdp os (k+1)=if badN x=true then 2 else Zdp os k:=by
 unfold Zdp;by_cases c:badN x=true
 .rw[if_pos c,if_pos ⟨k,by omega,x,b,c⟩]
 .rw[if_neg c]
  congr 1
  rw[eq_iff_iff]
  constructor
  .rintro⟨j,hj,y,hy,e⟩
   by_cases h:j=k
   .subst h
    rw[b] at hy
    cases hy
    exact absurd e c
   .exact⟨j,by omega,y,hy,e⟩
  .rintro⟨j,hj,y,hy,e⟩
   exact⟨j,by omega,y,hy,e⟩
theorem Zvk {os:List S.Obj}(hd:Zyr os os.length):NamesRes os (Zdp os os.length):=by
 have d:¬DupN os:=by
  rintro⟨i,j,a,b,g,k,f,e⟩;exact hd i j a b (Yg.1 k).1 g k f e
 unfold Zdp
 split
 .rename_i h
  obtain⟨j,_,x,l,f⟩:=h;exact .inr (.inl ⟨d,⟨x,Y1 l,f⟩,rfl⟩)
 .rename_i h
  refine .inr (.inr ⟨d,λ o n=>?_,rfl⟩);obtain⟨j,g,rfl⟩:=Yb9 n;rw[Bool.eq_false_iff];intro f;exact h ⟨j,g,_,Ye g,f⟩
theorem Zys {n:Int}(h:-9223372036854775808<=n/\n<=9223372036854775807):(Lit.int .i64 n).wf=true:=by
 simp[Lit.wf,IntKind.min,IntKind.max,Yb5,Ycm];omega
theorem Zdi {w w':World}{m b:Nat}(hg:w.grownBy w' (some m))(d:b<w.heap.size)(e:b≠m)(j:Nat):w'.cell? ⟨b,j,none⟩=w.cell? ⟨b,j,none⟩:=by
 simp only[World.cell?,hg.block b d (by simpa using e)]
theorem Zgd (w:World)(cs:Array Value)(t:TypeId):(w.alloc (.cells cs t)).heap[w.heap.size]?=some (.cells cs t (0,0))/\Below w.heap.size w (w.alloc (.cells cs t))/\(w.alloc (.cells cs t)).heap.size=w.heap.size+1 :=
 ⟨heap_alloc_new _ _,(Below.refl _ _).alloc (Yc _) _,by simp⟩
theorem Zbr {ops:Array Oper}{rest:List Oper}{o:Oper}{a:Act}{Q:Exit->Act->World->Prop}{w:World}(hg:o.guard=none)(hd:o.dst=none)(b x v:Operand)(d:o.op=Op.mapUpdate 199 b x v)
 (m n:Nat) (f:ByteArray->Option Int) (hm:a.eval b=.map (some m)) (h:MapS w m n f) (k:n<1152921504606846976) (s:ByteArray) (q:Int) (i:a.eval x=.string s) (l:a.eval v=.int .i64 q) (r:s.size<=maxLen) (u:(Lit.int .i64 q).wf=true)
 (e:∀w',MapS w' m (if (f s).isSome then n else n+1) (λ t=>if t=s then some q else f t)->w.grownBy w' (some m)->wpList prog ops Q rest a w'):wpList prog ops Q (o::rest) a w:=by
 refine Zfp hg b x v d m n f hm h k s q i l r u ?_;intro w' j g;rw[hd];exact e w' j g
def Zvl (os:List S.Obj)(w:World)(e:Ending)(w':World):Prop:=∃r,e=.returned (.int .i64 r)/\NamesRes os r/\Below w.heap.size w w'
theorem Zna (A:Option Addr)(c:Nat)(os:List S.Obj)(w:World)(hi:Objs w w.heap.size A os)(hl:os.length<=1048576) :
 Calls prog 91 #[.slice A os.length c] w (Zvl os w):=by
 have a2:=@run_makeMap prog;go_enter func91,ntmps91
 go_wp2_with fail
 go_loopw [4,10] (λ ev i wr=>∃k:Nat,k<=os.length/\i=.int .i64 k/\ev=.int .i64 (Zdp os k)/\MapS wr w.heap.size k (seen os k)/\Zyr os k/\Below w.heap.size w wr) (λ _ i _=>os.length-(intOf i).toNat)
 case atStart=>exact⟨0,by omega,rfl,by rw[Zo4],by rw[Zvg];exact MapS.made w,λ i j a b h=>by omega,(Below.refl _ _).alloc (Yc _) _⟩
 case round =>
  obtain⟨k,hk,rfl,rfl,Y,hd,F⟩:=hrel;have a3:=Y.lt;by_cases Z:k<os.length
  .obtain⟨b,off,x,rfl,hb,hx,hc0,⟨Ai,ci,hc1,hI⟩,hn,_⟩:=(hi.below F).at_ Z
   have X:=Ya hx;have Hd:=Ya hd;clear hx hd;obtain⟨nm,M⟩:=x;simp only at hc0 hc1 hn;have a1:b<wr.heap.size:=by omega
   obtain⟨x1,x2,x3⟩:=Zgd wr #[.string nm,.slice Ai M.length ci] 82;go_upto_region 6 with fail
   generalize wr.alloc (.cells #[.string nm,.slice Ai M.length ci] 82)=wX at *;have u:wX.cell? ⟨wr.heap.size,0,none⟩=some (.string nm):=by simp[World.cell?,x1]
   have n:=Y.below x2;have y:=F.trans (x2.mono (by omega));have t:wr.heap.size<wX.heap.size:=by omega
   have R:=n.look hn;clear x1 x2 x3 Y hc0 hc1
   cases hs:seen os k nm with
   | some v =>
    obtain⟨rfl,z⟩:=Zvj X.out hs;have T:(seen os k nm).getD 0=1:=by rw[hs];rfl
    rw[T] at R;have W:=Ya hs;have O:=Ya z;clear hs z T;go_wp2_with (at_mapUpdate;refine Zbr rfl rfl (.tmp 14) (.tmp 16) (.tmp 18) rfl w.heap.size k _ rfl n (by omega) nm 2 rfl rfl hn (Zys (by omega)) ?_;intro g f d;have o:=f.look hn;have J:g.cell? ⟨wr.heap.size,0,none⟩=some (.string nm):=(Zdi d t (by omega) 0).trans u)
    go_ret
    exact⟨14,rfl,.inl ⟨O.out,rfl⟩,Zbe y d (by omega) (λ _ h=>by cases h;exact Yc _)⟩
   | none =>
    have T:(seen os k nm).getD 0=0:=by rw[hs];rfl
    rw[T] at R;have U:=Zvi X.out hs Hd.out;have G:=Ya U;have W:=Ya hs;have E:=Ya (Zo5 X.out);have K:=Ya (Zvh X.out);clear hs U T;have D:nm.toList=[]\/(nm.toList≠[]/\ownB nm=true)\/(nm.toList≠[]/\ownB nm=false):=by
     by_cases c1:nm.toList=[]
     .exact .inl c1
     .cases c2:ownB nm
      .exact .inr (.inr ⟨c1,rfl⟩)
      .exact .inr (.inl ⟨c1,rfl⟩)
    have V:=Ya D;clear D;rcases V.out with h0|⟨h0,h1⟩|⟨h0,h1⟩
    .skip
     go_wp2_with (at_mapUpdate;refine Zbr rfl rfl (.tmp 14) (.tmp 16) (.tmp 18) rfl w.heap.size k _ rfl n (by omega) nm 1 rfl rfl hn (Zys (by omega)) ?_;intro g f d;have o:=f.look hn;have J:g.cell? ⟨wr.heap.size,0,none⟩=some (.string nm):=(Zdi d t (by omega) 0).trans u)
     have r:MapS g w.heap.size (k+1) (seen os (k+1)):=by
      rw[K.out];have h:=f;rw[W.out] at h;exact h
     have l:Below w.heap.size w g:=Zbe y d (by omega) (λ _ h=>by cases h;exact Yc _);have q:Zdp os (k+1)=2:=by
      rw[E.out,if_pos (by simp[badN,<- ByteArray.toList_eq,h0])]
     exact⟨⟨k+1,by omega,by go_num,by rw[q],r,G.out,l⟩,by simp[intOf];omega⟩
    .have hE:(nm.toList==[])=false:=by simpa using h0
     have a0:nm.toList.isEmpty=false:=by simpa using h0
     go_wp2_with (at_mapUpdate;refine Zbr rfl rfl (.tmp 14) (.tmp 16) (.tmp 18) rfl w.heap.size k _ rfl n (by omega) nm 1 rfl rfl hn (Zys (by omega)) ?_;intro g f d;have o:=f.look hn;have J:g.cell? ⟨wr.heap.size,0,none⟩=some (.string nm):=(Zdi d t (by omega) 0).trans u)
     refine(Zaa _ _ hn).mono ?_;rintro e w' ⟨rfl,rfl⟩;go_wp2_with fail
     have r:MapS g w.heap.size (k+1) (seen os (k+1)):=by
      rw[K.out];have h:=f;rw[W.out] at h;exact h
     have l:Below w.heap.size w g:=Zbe y d (by omega) (λ _ h=>by cases h;exact Yc _);have q:Zdp os (k+1)=2:=by
      rw[E.out,if_pos (by simp[badN,<- ByteArray.toList_eq,h0,h1])]
     exact⟨⟨k+1,by omega,by go_num,by rw[q],r,G.out,l⟩,by simp[intOf];omega⟩
    .have hE:(nm.toList==[])=false:=by simpa using h0
     have a0:nm.toList.isEmpty=false:=by simpa using h0
     go_wp2_with (at_mapUpdate;refine Zbr rfl rfl (.tmp 14) (.tmp 16) (.tmp 18) rfl w.heap.size k _ rfl n (by omega) nm 1 rfl rfl hn (Zys (by omega)) ?_;intro g f d;have o:=f.look hn;have J:g.cell? ⟨wr.heap.size,0,none⟩=some (.string nm):=(Zdi d t (by omega) 0).trans u)
     refine(Zaa _ _ hn).mono ?_;rintro e w' ⟨rfl,rfl⟩;go_wp2_with fail
     have r:MapS g w.heap.size (k+1) (seen os (k+1)):=by
      rw[K.out];have h:=f;rw[W.out] at h;exact h
     have l:Below w.heap.size w g:=Zbe y d (by omega) (λ _ h=>by cases h;exact Yc _);have q:Zdp os (k+1)=Zdp os k:=by
      rw[E.out,if_neg (by simp[badN,<- ByteArray.toList_eq,h0,h1])]
     exact⟨⟨k+1,by omega,by go_num,by rw[q],r,G.out,l⟩,by simp[intOf];omega⟩
  .have hke:k=os.length:=by omega
   subst hke;have C:=Zvk hd;have Q:=Ya C;clear C hd;go_wp2_with fail
   go_ret
   exact⟨_,rfl,Q.out,F⟩
section
section
variable {w w':World}{B p:Nat}{vm vo:Value}{A:Option Addr}{c:Nat}{inp:List Int}{rd:Nat}{m:Mach}
theorem Zab (h:MAt w B p vm vo A c inp rd m):Calls prog 20 #[.pointer (some ⟨p,0,none⟩)] w λ e w'=>e=.returned (.bool true)/\w=w':=by
 obtain⟨g,cap,rfl,hg,_,_⟩:=h.memv;obtain⟨b,_⟩:=h.cells;have hm:=h.ok.mem;have d:=h.lt;go_enter func20,ntmps20
 go_wp2_with fail
 go_ret
 exact⟨rfl,rfl⟩
theorem Zbs (d v:Int)(h:MAt w B p vm vo A c inp rd m)(h0:0<=d)(g:d<32)(f:0<=v/\v<=4294967295):Calls prog 25 #[.pointer (some ⟨p,0,none⟩),.int .i64 d,.int .u32 v] w
 λ e w'=>e=.returned (.tuple #[])/\MAt w' B p vm vo A c inp rd (m.put d v)/\Only (·=p) w w':=by
 have b:=h.lt;by_cases hd:d=0
 .have d1:(d != 0)=false:=by simp[hd]
  go_enter func25,ntmps25
  go_wp2_with fail
  refine bodyPost_end (v:=.tuple #[]) (by simp[results,results25,go_sem]) rfl ⟨rfl,?_,Only.refl _ _⟩;rw[Mach.put,if_pos hd];exact h
 .have d1:(d != 0)=true:=by simpa using hd
  have hp:=h.put (show 0<d by omega) g f;obtain⟨k,rfl⟩:∃k:Nat,d=k:=⟨d.toNat,by omega⟩
  have i:k<32:=by omega
  have hf:=h.fz k;have hc:=h.reg i;have j:=Ya hp;clear hp hd;go_enter func25,ntmps25
  go_wp2_with fail
  refine bodyPost_end (v:=.tuple #[]) (by simp[results,results25,go_sem]) rfl ⟨rfl,?_,?_⟩
  .exact j.out
  .exact Only.setCell (F:=(·=p)) _ rfl _
theorem Zip (t:Int)(h:MAt w B p vm vo A c inp rd m):Calls prog 86 #[.pointer (some ⟨p,0,none⟩),.int .i64 t] w
 λ e w'=>e=.returned (.int .i64 2)/\MAt w' B p vm vo A c inp rd (m.fell t)/\Only (·=p) w w':=by
 have hp:=h.fell t;have hf:=h.fz 37;have b:=h.fz 39;obtain⟨_,_,_,_,_,d,_,g,_⟩:=h.cells;have i:=Ya hp;have f:=h.lt;clear hp;go_enter func86,ntmps86
 go_wp2_with fail
 go_ret
 refine⟨rfl,i.out,?_⟩;exact(Only.setCell (F:=(·=p)) _ rfl _).trans (Only.setCell (F:=(·=p)) _ rfl _) (λ _ _ h=>h)
theorem Zfq (a imm:Int)(h:MAt w B p vm vo A c inp rd m)(a0:0<=a/\a<=4294967295):Calls prog 160 #[.pointer (some ⟨p,0,none⟩),.int .u32 a,.int .i64 imm] w
 λ e w'=>e=.returned (.tuple #[.int .u32 (S.u32m (a+S.u32m imm)),.bool (decide (S.u32m (a+S.u32m imm)<m.mem.length))])/\∃n,w'=w.drewN n:=by
 obtain⟨g,cap,rfl,hg,_,_⟩:=h.memv;obtain⟨b,_⟩:=h.cells;have hm:=h.ok.mem;have f:=h.lt;have hl:=h.low0;have hw:=Zfj (a+S.u32m imm);have j:=Zad (a+S.u32m imm);go_enter func160,ntmps160
 go_wp2_with fail
 refine(Zcw _ _).mono ?_;rintro e w' ⟨rfl,rfl⟩;generalize hU:S.u32m (a+S.u32m imm)=U at *;obtain⟨u0,u1⟩:=j;have i:IntKind.u64.wrap U=U:=by simp[Ycv,Yb5,Ycm];omega
 have d:IntKind.u64.wrap (m.mem.length:Int)=m.mem.length:=by simp[Ycv,Yb5,Ycm];omega
 go_wp2_with fail
 go_quiet (fail)
 go_wp2_with fail
 go_ret2
 exact⟨by rw[hU];rfl,_,rfl⟩
theorem Zjq (h:MAt w B p vm vo A c inp rd m)(hi:m.input=[]):Calls prog 162 #[.pointer (some ⟨p,0,none⟩)] w
 λ e w'=>e=.returned (.int .u32 4294967295)/\∃n,w'=w.drewN n:=by
 obtain⟨_,_,f,i,_⟩:=h.cells;have b:=h.left;have hr:=h.rdle;have hz:=h.inl;rw[hi] at b;have d:rd=inp.length:=by
  have:=congrArg List.length b;simp at this;omega
 have hd:((rd:Int)==inp.length)=true:=by simp[d]
 have g:=h.lt;clear b hi d;go_enter func162,ntmps162
 go_wp2_with fail
 go_quiet (fail)
 go_wp2_with fail
 go_ret
 exact⟨rfl,_,rfl⟩
theorem Zjr (h:MAt w B p vm vo A c inp rd m){x:Int}{r:List Int}(hi:m.input=x::r):Calls prog 162 #[.pointer (some ⟨p,0,none⟩)] w
 λ e w'=>e=.returned (.int .u32 x)/\MAt w' B p vm vo A c inp (rd+1) { m with input:=r }/\Only (·=p) w w':=by
 obtain⟨_,_,D,u,_⟩:=h.cells;have d:=h.left;have hz:=h.inl;have f:=h.readOn hi;have o:=Ya f;rw[hi] at d;have i:rd<inp.length:=by
  refine Nat.lt_of_not_le λ j=>?_
  rw[List.drop_eq_nil_of_le j] at d
  cases d
 rw[List.drop_eq_getElem_cons i] at d;have t:(inp.map (Value.int .u8))[rd]?=some (.int .u8 x):=by
  rw[Yaf,Ye i,(List.cons.inj d).1];rfl
 have k:0<=x/\x<=255:=h.ok.inp x (by rw[hi];exact Yw ..);obtain⟨b,off,e,hb,j⟩:=h.rin (by simp;omega);have l:=j rd _ t;have g:=h.d1 b off none e;subst e;have hd:((rd:Int)==inp.length)=false:=by simp;omega
 have hf:=h.fz 35;have y:=h.lt;have n:=g.1;obtain⟨x0,x1⟩:=k;have J:IntKind.u32.wrap x=x:=by simp[Ycv,Yb5,Ycm];omega
 have G:((rd:Int)+1-1)=rd:=by omega
 have v:=Ya hi;clear d hi f o j t g;go_enter func162,ntmps162
 go_wp2_with fail
 go_quiet (fail)
 go_upto_region 4 with fail
 have f:=(h.drewN nq).readOn v.out;obtain⟨_,_,C,z,_⟩:=f.cells;have q:((w.drewN nq).setCell ⟨p,35,none⟩ (.int .i64 ((rd:Int)+1))).cell? ⟨b,off+rd,none⟩=some (.int .u8 x):=by
  rw[<- l];exact World.cell?_of_block (w:=w) (a:=⟨b,off+rd,none⟩) (Below.heap_setCell _ _ _ _ n)
 have E:Only (·=p) w ((w.drewN nq).setCell ⟨p,35,none⟩ (.int .i64 ((rd:Int)+1))):=(Only.drewN w nq).trans (Only.setCell (F:=(·=p)) _ rfl _) (λ _ _ h=>h);have o:=Ya f;generalize (w.drewN nq).setCell ⟨p,35,none⟩ (.int .i64 ((rd:Int)+1))=w1 at *;clear f;go_wp2_with fail
 go_quiet (fail)
 go_wp2_with fail
 go_ret
 exact⟨rfl,o.out.drewN _,E.trans (Only.drewN _ _) (λ _ _ h=>h)⟩
end
end
mutual
def ECell (w:World)(B b o:Nat):S.BE->Prop
 | .mk op n name kids=>w.cell? ⟨b,o,none⟩=some (.int .i64 op)/\w.cell? ⟨b,o+1,none⟩=some (.int .i64 n)/\w.cell? ⟨b,o+2,none⟩=some (.string name)/\name.size<=maxLen/\kids.length<=maxLen /\
  ∃A c,w.cell? ⟨b,o+3,none⟩=some (.slice A kids.length c)/\(kids=[]\/∃b' off,A=some ⟨b',off,none⟩/\b'<B/\EKids w B b' off kids)
def EKids (w:World)(B b o:Nat):List S.BE->Prop
 | []=>True
 | e::r=>ECell w B b o e/\EKids w B b (o+4) r
end
def EList (w:World)(B:Nat)(A:Option Addr)(l:List S.BE):Prop:=l=[]\/∃b off,A=some ⟨b,off,none⟩/\b<B/\EKids w B b off l
def Z8p (w:World)(B:Nat)(e:S.BE)(v:Value):Prop :=
 ∃A c,v=.agg #[.int .i64 e.op,.int .i64 e.n,.string e.name,.slice A e.kids.length c]/\e.name.size<=maxLen/\e.kids.length<=maxLen/\EList w B A e.kids
mutual
theorem ECell.below {w w':World}{B b o:Nat}(f:Below B w w')(d:b<B):∀{e:S.BE},ECell w B b o e->ECell w' B b o e
 | .mk op n name kids,h=>by
  rw[ECell] at h⊢;obtain⟨x,u,v,q,l,A,c,r,g⟩:=h;refine⟨(f.cell (p:=⟨b,_,none⟩) d).trans x,(f.cell (p:=⟨b,_,none⟩) d).trans u,(f.cell (p:=⟨b,_,none⟩) d).trans v,q,l,A,c,(f.cell (p:=⟨b,_,none⟩) d).trans r,?_⟩;rcases g with g|⟨k,off,t,j,i⟩
  .exact .inl g
  .exact .inr ⟨k,off,t,j,EKids.below f j i⟩
theorem EKids.below {w w':World}{B b o:Nat}(f:Below B w w')(d:b<B):∀{l:List S.BE},EKids w B b o l->EKids w' B b o l
 | [],_=>by rw[EKids];trivial
 | e::r,h=>by
  rw[EKids] at h⊢;exact⟨ECell.below f d h.1,EKids.below f d h.2⟩
end
mutual
theorem ECell.more {w:World}{B B' b o:Nat}(g:B<=B'):∀{e:S.BE},ECell w B b o e->ECell w B' b o e
 | .mk op n name kids,h=>by
  rw[ECell] at h⊢;obtain⟨v,t,u,k,j,A,c,l,d⟩:=h;refine⟨v,t,u,k,j,A,c,l,?_⟩;rcases d with d|⟨i,off,r,q,f⟩
  .exact .inl d
  .exact .inr ⟨i,off,r,Ys q g,EKids.more g f⟩
theorem EKids.more {w:World}{B B' b o:Nat}(d:B<=B'):∀{l:List S.BE},EKids w B b o l->EKids w B' b o l
 | [],_=>by rw[EKids];trivial
 | e::r,h=>by
  rw[EKids] at h⊢;exact⟨ECell.more d h.1,EKids.more d h.2⟩
end
theorem EList.below {w w':World}{B:Nat}{A:Option Addr}{l:List S.BE}(h:EList w B A l)(f:Below B w w'):EList w' B A l:=by
 rcases h with h|⟨b,off,g,d,e⟩
 .exact .inl h
 .exact .inr ⟨b,off,g,d,e.below f d⟩
theorem EList.more {w:World}{B B':Nat}{A:Option Addr}{l:List S.BE}(h:EList w B A l)(d:B<=B'):EList w B' A l:=by
 rcases h with h|⟨b,off,g,f,e⟩
 .exact .inl h
 .exact .inr ⟨b,off,g,Ys f d,e.more d⟩
theorem EKids.at_ {w:World}{B b:Nat}:∀{l:List S.BE} {o k:Nat} {e:S.BE},EKids w B b o l->l[k]?=some e->ECell w B b (o+k*4) e
 | [],o,k,e,_,h=>by simp at h
 | x::r,o,0,e,hk,h=>by
  rw[EKids] at hk;simp only[Yaw,Option.some.injEq] at h;subst h
  simpa using hk.1
 | x::r,o,k+1,e,hk,h=>by
  rw[EKids] at hk;have:=EKids.at_ hk.2 (k:=k) (by simpa using h);have d:o+4+k*4=o+(k+1)*4:=by omega
  rw[d] at this;exact this
theorem EList.at_ {w:World}{B:Nat}{A:Option Addr}{l:List S.BE}(h:EList w B A l){k:Nat}{e:S.BE}(g:l[k]?=some e) :
 ∃b off d f,A=some ⟨b,off,none⟩/\b<B/\w.cell? ⟨b,off+k*4,none⟩=some (.int .i64 e.op)/\w.cell? ⟨b,off+k*4+1,none⟩=some (.int .i64 e.n)/\w.cell? ⟨b,off+k*4+2,none⟩=some (.string e.name) /\
  w.cell? ⟨b,off+k*4+3,none⟩=some (.slice d e.kids.length f)/\e.name.size<=maxLen/\e.kids.length<=maxLen/\EList w B d e.kids:=by
 rcases h with h|⟨b,off,t,o,r⟩
 .subst h;simp at g
 .have h4:=r.at_ g
  obtain⟨op,n,name,kids⟩:=e;rw[ECell] at h4;obtain⟨i,q,v,y,j,d,f,x,u⟩:=h4;exact⟨b,off,d,f,t,o,i,q,v,x,y,j,u⟩
mutual
def SCell (w:World)(B b o:Nat):S.BS->Prop
 | .mk op n name exprs regs body els=>w.cell? ⟨b,o,none⟩=some (.int .i64 op)/\w.cell? ⟨b,o+1,none⟩=some (.int .i64 n)/\w.cell? ⟨b,o+2,none⟩=some (.string name)/\name.size<=maxLen/\exprs.length<=maxLen/\regs.length<=maxLen/\body.length<=maxLen/\els.length<=maxLen /\
  (∃A c,w.cell? ⟨b,o+3,none⟩=some (.slice A exprs.length c)/\EList w B A exprs)/\(∃A c,w.cell? ⟨b,o+4,none⟩=some (.slice A regs.length c)/\Ints w B A regs) /\
  (∃A c,w.cell? ⟨b,o+5,none⟩=some (.slice A body.length c)/\(body=[]\/∃b' off,A=some ⟨b',off,none⟩/\b'<B/\SKids w B b' off body)) /\
  (∃A c,w.cell? ⟨b,o+6,none⟩=some (.slice A els.length c)/\(els=[]\/∃b' off,A=some ⟨b',off,none⟩/\b'<B/\SKids w B b' off els))
def SKids (w:World)(B b o:Nat):List S.BS->Prop
 | []=>True
 | s::r=>SCell w B b o s/\SKids w B b (o+7) r
end
def SList (w:World)(B:Nat)(A:Option Addr)(l:List S.BS):Prop:=l=[]\/∃b off,A=some ⟨b,off,none⟩/\b<B/\SKids w B b off l
mutual
theorem SCell.below {w w':World}{B b o:Nat}(e:Below B w w')(d:b<B):∀{s:S.BS},SCell w B b o s->SCell w' B b o s
 | .mk op n name exprs regs body els,h=>by
  rw[SCell] at h⊢;obtain⟨z,r,y,i,g,j,E,q,⟨D,c1,l,F⟩,⟨k,c2,v,x⟩,⟨t,c3,d1,d2⟩,⟨u,c4,C,f⟩⟩:=h;refine⟨(e.cell (p:=⟨b,_,none⟩) d).trans z,(e.cell (p:=⟨b,_,none⟩) d).trans r,(e.cell (p:=⟨b,_,none⟩) d).trans y,i,g,j,E,q,⟨D,c1,(e.cell (p:=⟨b,_,none⟩) d).trans l,F.below e⟩,
   ⟨k,c2,(e.cell (p:=⟨b,_,none⟩) d).trans v,x.below e⟩,⟨t,c3,(e.cell (p:=⟨b,_,none⟩) d).trans d1,?_⟩,⟨u,c4,(e.cell (p:=⟨b,_,none⟩) d).trans C,?_⟩⟩
  .rcases d2 with d2|⟨b',off,q1,q2,q3⟩
   .exact .inl d2
   .exact .inr ⟨b',off,q1,q2,SKids.below e q2 q3⟩
  .rcases f with f|⟨b',off,q1,q2,q3⟩
   .exact .inl f
   .exact .inr ⟨b',off,q1,q2,SKids.below e q2 q3⟩
theorem SKids.below {w w':World}{B b o:Nat}(f:Below B w w')(d:b<B):∀{l:List S.BS},SKids w B b o l->SKids w' B b o l
 | [],_=>by rw[SKids];trivial
 | e::r,h=>by
  rw[SKids] at h⊢;exact⟨SCell.below f d h.1,SKids.below f d h.2⟩
end
mutual
theorem SCell.more {w:World}{B B' b o:Nat}(d:B<=B'):∀{s:S.BS},SCell w B b o s->SCell w B' b o s
 | .mk op n name exprs regs body els,h=>by
  rw[SCell] at h⊢;obtain⟨y,q,x,g,f,i,D,l,⟨C,c1,k,E⟩,⟨j,c2,u,v⟩,⟨r,c3,d1,d2⟩,⟨t,c4,z,e⟩⟩:=h;refine⟨y,q,x,g,f,i,D,l,⟨C,c1,k,E.more d⟩,⟨j,c2,u,v.more d⟩,⟨r,c3,d1,?_⟩,⟨t,c4,z,?_⟩⟩
  .rcases d2 with d2|⟨b',off,q1,q2,q3⟩
   .exact .inl d2
   .exact .inr ⟨b',off,q1,Ys q2 d,SKids.more d q3⟩
  .rcases e with e|⟨b',off,q1,q2,q3⟩
   .exact .inl e
   .exact .inr ⟨b',off,q1,Ys q2 d,SKids.more d q3⟩
theorem SKids.more {w:World}{B B' b o:Nat}(d:B<=B'):∀{l:List S.BS},SKids w B b o l->SKids w B' b o l
 | [],_=>by rw[SKids];trivial
 | e::r,h=>by
  rw[SKids] at h⊢;exact⟨SCell.more d h.1,SKids.more d h.2⟩
end
theorem SList.below {w w':World}{B:Nat}{A:Option Addr}{l:List S.BS}(h:SList w B A l)(f:Below B w w'):SList w' B A l:=by
 rcases h with h|⟨b,off,g,d,e⟩
 .exact .inl h
 .exact .inr ⟨b,off,g,d,e.below f d⟩
theorem SList.more {w:World}{B B':Nat}{A:Option Addr}{l:List S.BS}(h:SList w B A l)(d:B<=B'):SList w B' A l:=by
 rcases h with h|⟨b,off,g,f,e⟩
 .exact .inl h
 .exact .inr ⟨b,off,g,Ys f d,e.more d⟩
theorem SKids.at_ {w:World}{B b:Nat}:∀{l:List S.BS} {o k:Nat} {s:S.BS},SKids w B b o l->l[k]?=some s->SCell w B b (o+k*7) s
 | [],o,k,e,_,h=>by simp at h
 | x::r,o,0,e,hk,h=>by
  rw[SKids] at hk;simp only[Yaw,Option.some.injEq] at h;subst h
  simpa using hk.1
 | x::r,o,k+1,e,hk,h=>by
  rw[SKids] at hk;have:=SKids.at_ hk.2 (k:=k) (by simpa using h);have d:o+7+k*7=o+(k+1)*7:=by omega
  rw[d] at this;exact this
structure SPart (w:World)(B:Nat)(s:S.BS)(A1 A2 A3 A4:Option Addr):Prop where
 name:s.name.size<=maxLen
 l1:s.exprs.length<=maxLen
 l2:s.regs.length<=maxLen
 l3:s.body.length<=maxLen
 l4:s.els.length<=maxLen
 exprs:EList w B A1 s.exprs
 regs:Ints w B A2 s.regs
 body:SList w B A3 s.body
 els:SList w B A4 s.els
theorem SPart.below {w w':World}{B:Nat}{s:S.BS}{d g e f:Option Addr}(h:SPart w B s d g e f)(b:Below B w w'):SPart w' B s d g e f :=
 ⟨h.name,h.l1,h.l2,h.l3,h.l4,h.exprs.below b,h.regs.below b,h.body.below b,h.els.below b⟩
theorem SPart.more {w:World}{B B':Nat}{s:S.BS}{d g e f:Option Addr}(h:SPart w B s d g e f)(b:B<=B'):SPart w B' s d g e f :=
 ⟨h.name,h.l1,h.l2,h.l3,h.l4,h.exprs.more b,h.regs.more b,h.body.more b,h.els.more b⟩
def sVal (s:S.BS)(A1 A2 A3 A4:Option Addr)(c1 c2 c3 c4:Nat):List Value :=
 [.int .i64 s.op,.int .i64 s.n,.string s.name,.slice A1 s.exprs.length c1,.slice A2 s.regs.length c2,.slice A3 s.body.length c3,.slice A4 s.els.length c4]
theorem SList.at_ {w:World}{B:Nat}{A:Option Addr}{l:List S.BS}(h:SList w B A l){k:Nat}{s:S.BS}(i:l[k]?=some s) :
 ∃b off g c1 d c2 e c3 f c4,A=some ⟨b,off,none⟩/\b<B/\w.cell? ⟨b,off+k*7,none⟩=some (.int .i64 s.op)/\w.cell? ⟨b,off+k*7+1,none⟩=some (.int .i64 s.n)/\w.cell? ⟨b,off+k*7+2,none⟩=some (.string s.name) /\
  w.cell? ⟨b,off+k*7+3,none⟩=some (.slice g s.exprs.length c1)/\w.cell? ⟨b,off+k*7+4,none⟩=some (.slice d s.regs.length c2)/\w.cell? ⟨b,off+k*7+5,none⟩=some (.slice e s.body.length c3) /\
  w.cell? ⟨b,off+k*7+6,none⟩=some (.slice f s.els.length c4)/\SPart w B s g d e f:=by
 rcases h with h|⟨b,off,C,r,y⟩
 .subst h;simp at i
 .have h4:=y.at_ i
  obtain⟨op,n,name,exprs,regs,body,els⟩:=s;rw[SCell] at h4;obtain⟨j,x,E,G,o,F,D,z,⟨g,c1,q,K⟩,⟨d,c2,t,u⟩,⟨e,c3,d1,d2⟩,⟨f,c4,J,v⟩⟩:=h4;exact⟨b,off,g,c1,d,c2,e,c3,f,c4,C,r,j,x,E,q,t,d1,J,G,o,F,D,z,K,u,d2,v⟩
mutual
def szE:S.BE->Nat
 | .mk _ _ _ kids=>1+Zem kids
def Zem:List S.BE->Nat
 | []=>0
 | e::r=>szE e+Zem r
end
theorem Zlp:∀{l:List S.BE} {e:S.BE},e∈l->szE e<=Zem l
 | x::r,e,h=>by
  rw[Zem];rcases Yr.1 h with rfl|h
  .omega
  .have:=Zlp h;omega
theorem Zdj (e:S.BE):szE e=1+Zem e.kids:=by
 obtain⟨op,n,name,kids⟩:=e;rw[szE];rfl
mutual
def szS:S.BS->Nat
 | .mk _ _ _ exprs _ body els=>1+Zem exprs+Zhe body+Zhe els
def Zhe:List S.BS->Nat
 | []=>0
 | s::r=>szS s+Zhe r
end
theorem Zo6:∀{l:List S.BS} {s:S.BS},s∈l->szS s<=Zhe l
 | x::r,e,h=>by
  rw[Zhe];rcases Yr.1 h with rfl|h
  .omega
  .have:=Zo6 h;omega
theorem Ziq (s:S.BS):szS s=1+Zem s.exprs+Zhe s.body+Zhe s.els:=by
 obtain⟨op,n,name,exprs,regs,body,els⟩:=s;rw[szS];rfl
theorem Zir (s:ByteArray):(s.toList != ([]:List UInt8))=decide (s.size≠0):=by
 rw[ByteArray.toList_eq]
 cases h:s.data.toList with
 | nil =>
  have:s.size=0:=by show s.data.size=0;rw[<- Array.length_toList,h];rfl
  simp[this]
 | cons x r =>
  have:s.size≠0:=by show s.data.size≠0;rw[<- Array.length_toList,h];simp
  simp[this]
theorem Zo7 (s:ByteArray)(w:World)(b:s.size<=maxLen):Calls prog 205 #[.string s] w λ e w'=>e=.returned (.bool (labB s))/\w=w':=by
 have g:=Ya (Zir s);have f:=Ya (Zaa s w b);by_cases h:s.toList=[]
 .have Hr:=Ya (show labB s=false from by
   have d:decide (s.size≠0)=false:=by rw[<- Zir s];simp[h]
   show(decide (s.size≠0) && !S.ownB s)=false
   rw[d];rfl)
  clear b;go_enter func205,ntmps205
  go_wp2_with fail
  go_ret
  exact⟨Zf Hr.out.symm,rfl⟩
 .have Hr:=Ya (show labB s=!S.ownB s from by
   have d:decide (s.size≠0)=true:=by rw[<- Zir s];simp[h]
   show(decide (s.size≠0) && !S.ownB s)=_
   rw[d];rfl)
  clear b;go_enter func205,ntmps205
  go_wp2_with fail
  refine f.out.mono ?_;rintro e w2 ⟨rfl,rfl⟩;go_wp2_with fail
  go_ret
  exact⟨Zf (by rw[Hr.out];simp[h]),rfl⟩
theorem Zqf (n:Int)(w:World):Calls prog 235 #[.int .i64 n] w λ e w'=>e=.returned (.bool (offB n))/\w=w':=by
 by_cases h:-32768<=n
 .by_cases h2:n<32768
  .have Hr:=Ya (show true=offB n from(decide_eq_true ⟨h,h2⟩).symm)
   go_enter func235,ntmps235
   go_wp2_with fail
   go_ret
   exact⟨Zf Hr.out,rfl⟩
  .have Hr:=Ya (show false=offB n from(decide_eq_false (by omega)).symm)
   go_enter func235,ntmps235
   go_wp2_with fail
   go_ret
   exact⟨Zf Hr.out,rfl⟩
 .have Hr:=Ya (show false=offB n from(decide_eq_false (by omega)).symm)
  go_enter func235,ntmps235
  go_wp2_with fail
  go_ret
  exact⟨Zf Hr.out,rfl⟩
theorem Zfr (n:Int)(w:World):Calls prog 236 #[.int .i64 n] w λ e w'=>e=.returned (.bool (S.visB n))/\w=w':=by
 rcases(show(1<=n/\n<=10)\/n<1\/(10<n/\n<26)\/n=26\/n=27\/n=28\/n=29\/n=30\/30<n by omega) with⟨h,h'⟩|h|⟨h,h'⟩|rfl|rfl|rfl|rfl|rfl|h
 .have Hr:=Ya (show true=S.visB n from(decide_eq_true (.inl ⟨h,h'⟩)).symm)
  go_enter func236,ntmps236
  go_wp2_with fail
  go_ret
  exact⟨Zf Hr.out,rfl⟩
 .have Hr:=Ya (show false=S.visB n from(decide_eq_false (by omega)).symm)
  have f:(n==26)=false:=by simp;omega
  have b:(n==27)=false:=by simp;omega
  have d:(n==29)=false:=by simp;omega
  have g:(n==30)=false:=by simp;omega
  go_enter func236,ntmps236
  go_wp2_with fail
  go_ret
  first
   | exact⟨Zf Hr.out,rfl⟩
   | exact⟨Zf ((decide_eq_false (by omega)).trans Hr.out),rfl⟩
 .have Hr:=Ya (show false=S.visB n from(decide_eq_false (by omega)).symm)
  have f:(n==26)=false:=by simp;omega
  have b:(n==27)=false:=by simp;omega
  have d:(n==29)=false:=by simp;omega
  have g:(n==30)=false:=by simp;omega
  go_enter func236,ntmps236
  go_wp2_with fail
  go_ret
  first
   | exact⟨Zf Hr.out,rfl⟩
   | exact⟨Zf ((decide_eq_false (by omega)).trans Hr.out),rfl⟩
 .go_enter func236,ntmps236
  go_wp2_with fail
  go_ret
  exact⟨Zf rfl,rfl⟩
 .go_enter func236,ntmps236
  go_wp2_with fail
  go_ret
  exact⟨Zf rfl,rfl⟩
 .go_enter func236,ntmps236
  go_wp2_with fail
  go_ret
  exact⟨Zf rfl,rfl⟩
 .go_enter func236,ntmps236
  go_wp2_with fail
  go_ret
  exact⟨Zf rfl,rfl⟩
 .go_enter func236,ntmps236
  go_wp2_with fail
  go_ret
  exact⟨Zf rfl,rfl⟩
 .have Hr:=Ya (show false=S.visB n from(decide_eq_false (by omega)).symm)
  have f:(n==26)=false:=by simp;omega
  have b:(n==27)=false:=by simp;omega
  have d:(n==29)=false:=by simp;omega
  have g:(n==30)=false:=by simp;omega
  go_enter func236,ntmps236
  go_wp2_with fail
  go_ret
  first
   | exact⟨Zf Hr.out,rfl⟩
   | exact⟨Zf ((decide_eq_false (by omega)).trans Hr.out),rfl⟩
def Zyt (l:List Int)(k:Nat):Prop:=∀j,j<k->S.visB (l.getD j 0)=true/\(0<j->l.getD (j-1) 0<l.getD j 0)
theorem Zkh:∀(l:List Int),risingB l=true↔Zyt l l.length
 | []=>by
  constructor
  .intro _ j d;simp at d
  .intro _;rfl
 | [a]=>by
  rw[risingB]
  constructor
  .intro h j d
   have:j=0:=by simpa using d
   subst this;exact⟨h,by omega⟩
  .intro h;exact(h 0 (by simp)).1
 | a::b::r=>by
  rw[risingB];simp only[Yq,decide_eq_true_eq];rw[Zkh (b::r)]
  constructor
  .rintro⟨⟨h1,h2⟩,h3⟩ j d
   rcases j with _|j
   .exact⟨h1,by omega⟩
   .obtain⟨e,f⟩:=h3 j (by simpa using d)
    refine⟨e,λ _=>?_⟩;rcases j with _|j
    .exact h2
    .exact f (by omega)
  .intro h
   refine⟨⟨(h 0 (by simp)).1,(h 1 (by simp)).2 (by omega)⟩,λ j d=>?_⟩;obtain⟨e,f⟩:=h (j+1) (by simpa using d);refine⟨e,λ hp=>?_⟩;have:=f (by omega);rcases j with _|j
   .omega
   .exact this
theorem Zyu (A:Option Addr)(c:Nat)(l:List Int)(w:World)(hA:Ints w w.heap.size A l)(J:l.length<=maxLen):Calls prog 237 #[.slice A l.length c] w λ e w'=>e=.returned (.bool (risingB l))/\w=w':=by
 unfold maxLen at J;obtain⟨N,E⟩:=Yx l.length;rw[<- E] at J⊢;have M:=Ya E;have f:=Ya (Zkh l);clear E;go_enter func237,ntmps237
 go_wp2_with fail
 go_loopw [3,4,7] (λ _ _ F wr=>∃k:Nat,k<=N/\F=.int .i64 k/\w=wr/\Hid (Zyt l k)) (λ _ _ F _=>N-(intOf F).toNat)
 case atStart=>exact⟨0,by omega,rfl,rfl,Ya λ j K=>by omega⟩
 case round =>
  obtain⟨k,hk,rfl,rfl,G⟩:=hrel;by_cases z:k<N
  .have hkl:k<l.length:=by rw[<- M.out];exact z
   obtain⟨b,off,rfl,O,o⟩:=hA.two (by omega);obtain⟨x,q⟩:∃x,l[k]?=some x:=⟨_,Ye hkl⟩
   have C:=o k x q;have d:l.getD k 0=x:=by simp[q]
   cases hv:S.visB x with
   | false =>
    have t:=Ya (show risingB l=false from by
     rw[<- Ycb,f.out];intro h;have:=(h k hkl).1;rw[d,hv] at this
     cases this)
    have Hv:=Ya (Zfr x w);rw[hv] at Hv;clear hv d q o;go_wp2_with fail
    refine Hv.out.mono ?_;rintro e u ⟨rfl,rfl⟩;go_wp2_with fail
    go_ret
    exact⟨Zf t.out.symm,rfl⟩
   | true =>
    have Hv:=Ya (Zfr x w);rw[hv] at Hv;by_cases i:k=0
    .subst i
     rw[Ybe] at C;have n:=Ya (show Zyt l 1 from λ j K=>by
      have:j=0:=by omega
      subst this;exact⟨by rw[d];exact hv,by omega⟩)
     clear hv d q o;go_wp2_with fail
     refine Hv.out.mono ?_;rintro e u ⟨rfl,rfl⟩;go_wp2_with fail
     go_roundw
     case rel=>exact⟨1,by omega,by first|rfl|go_num,by first|rfl|trivial,n⟩
     case measure=>simp[intOf];omega
    .obtain⟨y,hy⟩:∃y,l[k-1]?=some y:=⟨_,Ye (by omega)⟩
     have Q:=o (k-1) y hy;have g:l.getD (k-1) 0=y:=by simp[hy]
     have D:0<k:=by omega
     have et:((k:Int)-1).toNat=k-1:=by omega
     have eo:off+((k:Int)-1).toNat=off+(k-1):=by omega
     by_cases r:y<x
     .have n:=Ya (show Zyt l (k+1) from λ j K=>by
       by_cases v:j=k
       .subst v
        exact⟨by rw[d];exact hv,λ _=>by rw[d,g];exact r⟩
       .exact G.out j (by omega))
      clear hv d g q hy o i;go_wp2_with fail
      refine Hv.out.mono ?_;rintro e u ⟨rfl,rfl⟩;go_wp2_with fail
      go_roundw
      case rel=>exact⟨k+1,by omega,by go_num,by first|rfl|trivial,n⟩
      case measure=>simp[intOf];omega
     .have t:=Ya (show risingB l=false from by
       rw[<- Ycb,f.out];intro h;have:=(h k hkl).2 D;rw[d,g] at this;exact r this)
      clear hv d g q hy o i;go_wp2_with fail
      refine Hv.out.mono ?_;rintro e u ⟨rfl,rfl⟩;go_wp2_with fail
      go_ret
      exact⟨Zf t.out.symm,rfl⟩
  .have hkN:k=N:=by omega
   subst hkN;go_wp2_with fail
   go_ret
   refine⟨?_,rfl⟩;have:risingB l=true:=by rw[f.out,<- M.out];exact G.out
   exact Zf this.symm
def TailOk (H:Zn)(w:World)(B:Nat)(y:TypeId×Nat)(x:S.AV)(v:Value):Prop:=∃n cs,x=.row n cs /\
 ((v=.slice none 0 0/\n=0)\/∃g cap cur,v=.slice (some ⟨g,0,none⟩) n cap/\B<=g/\H g=some cs.length/\w.heap[g]?=some (.cells cur y.1 (0,0))/\n<=cap/\cap<=maxLen/\cur.size=cap*y.2/\cs.length=n*y.2/\0<y.2)
def Zvm (H:Zn)(w:World)(φ:Nat->Nat)(s:St)(x:S.AV)(v:Value):Prop:=(∃i off,x=.box i off/\(s.hp i).isSome=true/\v=.pointer (some ⟨φ i,off,none⟩))\/RepV H w x v
def Bk (w:World)(b:Nat):Prop:=∃cs T,w.heap[b]?=some (.cells cs T (0,0))
theorem Bk.lt {w:World}{b:Nat}(h:Bk w b):b<w.heap.size:=by
 obtain⟨_,_,h⟩:=h;exact(Array.getElem?_eq_some_iff.1 h).1
theorem Bk.of {w w':World}{b:Nat}(h:Bk w b)(e:w'.heap[b]?=w.heap[b]?):Bk w' b:=by
 obtain⟨cs,T,h⟩:=h;exact⟨cs,T,e.trans h⟩
theorem Bk.below {w w':World}{b:Nat}(h:Bk w b)(d:Below w.heap.size w w'):Bk w' b:=h.of (d.block b h.lt)
structure Gam (B N:Nat)(w0:World)(H0:Zn)(s:St)(a:Act)(w:World)(H:Zn)(φ:Nat->Nat):Prop where
 bel:Below B w0 w
 base:B<=w.heap.size
 old:∀b,b<B->H b=H0 b
 bnd:∀b h,H b=some h->Bk w b
 size:a.tmps.size=N
 defs:a.defers=[]
 slot:∀t x,s.sl t=some x->Zvm H w φ s x (a.tmps.getD t undef)
 ent:∀i e cs,s.hp i=some (e,cs)->B<=φ i/\H (φ i)=none/\∃vs:List Value,w.heap[φ i]?=some (.cells vs.toArray e (0,0))/\RepL H w cs vs
 inj:∀i j,(s.hp i).isSome=true->(s.hp j).isSome=true->φ i=φ j->i=j
 tail:∀t y,s.tl t=some y->∃x,s.sl t=some x/\TailOk H w B y x (a.tmps.getD t undef)
 tinj:∀t t',t≠t'->(s.tl t).isSome=true->(s.tl t').isSome=true->∀g,(a.tmps.getD t undef).ownBlock=some g->(a.tmps.getD t' undef).ownBlock=some g->False
theorem TailOk.own {H:Zn}{w:World}{B:Nat}{y:TypeId×Nat}{x:S.AV}{v:Value}(h:TailOk H w B y x v){g:Nat}(hg:v.ownBlock=some g):(∃n,H g=some n)/\B<=g:=by
 obtain⟨n,cs,rfl,⟨rfl,_⟩|⟨g',cap,b,rfl,d,e,_⟩⟩:=h
 .simp[Value.ownBlock] at hg
 .simp[Value.ownBlock] at hg
  subst hg;exact⟨⟨_,e⟩,d⟩
theorem TailOk.keep {H d:Zn}{w w':World}{B:Nat}{y:TypeId×Nat}{x:S.AV}{v:Value}(h:TailOk H w B y x v)(j:∀g,v.ownBlock=some g->w'.heap[g]?=w.heap[g]?/\d g=H g):TailOk d w' B y x v:=by
 obtain⟨n,cs,rfl,⟨rfl,h0⟩|⟨g,cap,b,rfl,f,e,hg,i⟩⟩:=h
 .exact⟨n,cs,rfl,.inl ⟨rfl,h0⟩⟩
 .obtain⟨k1,k2⟩:=j g rfl
  exact⟨n,cs,rfl,.inr ⟨g,cap,b,rfl,f,k2.trans e,k1.trans hg,i⟩⟩
theorem Zyv {a:Act}{d t:Nat}{v:Value}(hd:d<a.tmps.size):(a.put (some d) v).tmps.getD t undef=if t=d then v else a.tmps.getD t undef:=by
 by_cases h:t=d
 .subst h
  rw[if_pos rfl];simp[Act.put,hd]
 .rw[if_neg h]
  simp[Act.put,Array.getElem?_setIfInBounds_ne (Ne.symm h)]
theorem Gam.next {B N:Nat}{w0:World}{H0:Zn}{s:St}{a:Act}{w:World}{H:Zn}{φ:Nat->Nat}(h:Gam B N w0 H0 s a w H φ)
 {e:S.Eff} {w':World} {J:Zn} {φ':Nat->Nat} {dst:Option Tmp} {v:Value}
 (a0:(dst=none/\e.dst=none)\/∃d x y,dst=some d/\e.dst=some (d,x,y)/\d<N/\Zvm J w' φ' (e.apply s) x v/\∀z,y=some z->TailOk J w' B z x v /\
  ∀t g,t≠d->e.drop≠some t->(s.tl t).isSome=true->(a.tmps.getD t undef).ownBlock=some g->v.ownBlock≠some g)
 (o:Below B w w') (W:Stay H w J w') (T:∀b,b<B->J b=H b) (O:∀b n,J b=some n->Bk w' b)
 (hφ:∀i,(s.hp i).isSome=true->φ' i=φ i)
 (Q:∀i t cs,(e.apply s).hp i=some (t,cs)->B<=φ' i/\J (φ' i)=none/\∃vs:List Value,w'.heap[φ' i]?=some (.cells vs.toArray t (0,0))/\RepL J w' cs vs)
 (M:∀i j,((e.apply s).hp i).isSome=true->((e.apply s).hp j).isSome=true->φ' i=φ' j->i=j)
 (Z:∀t g,(∀d x y,e.dst=some (d,x,y)->t≠d)->e.drop≠some t->(s.tl t).isSome=true->(a.tmps.getD t undef).ownBlock=some g->w'.heap[g]?=w.heap[g]?/\J g=H g) :
 Gam B N w0 H0 (e.apply s) (a.put dst v) w' J φ':=by
 have U:∀i,(s.hp i).isSome=true->((e.apply s).hp i).isSome=true:=λ i hi=>by
  unfold S.Eff.apply;simp only
  split
  .split
   .rfl
   .exact hi
  .exact hi
 have E:∀x u,Zvm H w φ s x u->Zvm J w' φ' (e.apply s) x u:=λ x u hx=>by
  rcases hx with⟨i,off,rfl,hi,rfl⟩|hx
  .exact .inl ⟨i,off,rfl,U i hi,by rw[hφ i hi]⟩
  .exact .inr (RepV.stay W x u hx)
 rcases a0 with⟨rfl,hn⟩|⟨d,x,y,rfl,hd,a3,hx,hy⟩
 .have C:(e.apply s).sl=s.sl:=by unfold S.Eff.apply;rw[hn]
  have Y:(a.put none v)=a:=rfl;rw[Y];have f:∀t z,(e.apply s).tl t=some z->s.tl t=some z/\e.drop≠some t:=λ t z k=>by
   unfold S.Eff.apply at k;rw[hn] at k;simp only at k
   split at k
   .cases k
   .rename_i hq;exact⟨k,hq⟩
  refine⟨h.bel.trans o,Yz h.base o.size,λ b hb=>(T b hb).trans (h.old b hb),O,h.size,h.defs,λ t u F=>E u _ (h.slot t u (by rw[<- C];exact F)),Q,M,λ t z k=>?_,λ t K r F V=>?_⟩
  .obtain⟨hz1,hz2⟩:=f t z k
   obtain⟨u,hu,X⟩:=h.tail t z hz1;refine⟨u,by rw[C];exact hu,X.keep λ g hg=>Z t g (λ d x y hd=>by rw[hn] at hd;cases hd) hz2 (by rw[hz1];rfl) hg⟩
  .obtain⟨z,k⟩:=Y7.1 F
   obtain⟨z',D⟩:=Y7.1 V;exact h.tinj t K r (by rw[(f t z k).1];rfl) (by rw[(f K z' D).1];rfl)
 .have hds:d<a.tmps.size:=by rw[h.size];exact a3
  have q:∀t,(a.put (some d) v).tmps.getD t undef=if t=d then v else a.tmps.getD t undef:=λ t=>Zyv hds
  have C:∀t,(e.apply s).sl t=if t=d then some x else s.sl t:=λ t=>by unfold S.Eff.apply;rw[hd]
  have f:∀t,t≠d->∀z,(e.apply s).tl t=some z->s.tl t=some z/\e.drop≠some t:=λ t r z k=>by
   unfold S.Eff.apply at k;rw[hd] at k;simp only[if_neg r] at k
   split at k
   .cases k
   .rename_i hq;exact⟨k,hq⟩
  have G:(e.apply s).tl d=y:=by
   unfold S.Eff.apply;rw[hd];simp
  refine⟨h.bel.trans o,Yz h.base o.size,λ b hb=>(T b hb).trans (h.old b hb),O,by rw[<- h.size];simp[Act.put],h.defs,λ t u F=>?_,Q,M,λ t z k=>?_,λ t K r F V g hg l=>?_⟩
  .rw[C] at F
   rw[q];by_cases c:t=d
   .rw[if_pos c] at F⊢
    cases F
    exact hx
   .rw[if_neg c] at F⊢
    exact E u _ (h.slot t u F)
  .by_cases c:t=d
   .subst c
    rw[G] at k;refine⟨x,by rw[C,if_pos rfl],?_⟩;rw[q,if_pos rfl];exact(hy z k).1
   .obtain⟨hz1,hz2⟩:=f t c z k
    obtain⟨u,hu,X⟩:=h.tail t z hz1;refine⟨u,by rw[C,if_neg c];exact hu,?_⟩;rw[q,if_neg c];exact X.keep λ g hg=>Z t g (λ d' x' y' a1=>by rw[hd] at a1;cases a1;exact c) hz2 (by rw[hz1];rfl) hg
  .rw[q] at hg l
   obtain⟨z,k⟩:=Y7.1 F;obtain⟨z',D⟩:=Y7.1 V;by_cases c:t=d
   .have R:K≠d:=λ e=>r (by rw[c,e])
    rw[if_pos c] at hg;rw[if_neg R] at l;subst c;rw[G] at k;obtain⟨q1,q2⟩:=f K R z' D;exact(hy z k).2 K g R q2 (by rw[q1];rfl) l hg
   .rw[if_neg c] at hg
    obtain⟨q1,q2⟩:=f t c z k;by_cases R:K=d
    .rw[if_pos R] at l
     subst R;rw[G] at D;exact(hy z' D).2 t g c q2 (by rw[q1];rfl) hg l
    .rw[if_neg R] at l
     obtain⟨a2,a4⟩:=f K R z' D;exact h.tinj t K r (by rw[q1];rfl) (by rw[a2];rfl) g hg l
theorem Gam.value {B N:Nat}{w0:World}{H0:Zn}{s:St}{a:Act}{w:World}{H:Zn}{φ:Nat->Nat}(h:Gam B N w0 H0 s a w H φ)
 {d:Nat} (hd:d<N) {x:S.AV} {v:Value} (b:Zvm H w φ s x v):Gam B N w0 H0 ((⟨some (d,x,none),none,none⟩:S.Eff).apply s) (a.put (some d) v) w H φ :=
 h.next (.inr ⟨d,x,none,rfl,rfl,hd,b,λ z e=>by cases e⟩) (Below.refl _ _) (Stay.refl _ _) (λ _ _=>rfl) h.bnd (λ _ _=>rfl) h.ent h.inj (λ _ _ _ _ _ _=>⟨rfl,rfl⟩)
section
namespace S
def constA:Value->Option AV
 | .int k n=>some (.int k n)
 | .bool b=>some (.bool b)
 | .string s=>some (.str s)
 | .slice none 0 0=>some (.row 0 [])
 | _=>none
def constsA:List Value->Option (List AV)
 | []=>some []
 | v::r=>match constA v,constsA r with
  | some x,some xs=>some (x::xs)
  | _,_=>none
def scal:AV->Option Value
 | .int k n=>some (.int k n)
 | .bool b=>some (.bool b)
 | .str s=>some (.string s)
 | _=>none
def evalA:Operand->Rd AV
 | .tmp t=>.sl t λ x=>Rd.ofOpt x
 | .const v=>Rd.ofOpt (constA v)
 | .func f=>.done (.fn f)
 | .global _=>.fail
def evalsA:List Operand->Rd (List AV)
 | []=>.done []
 | x::r=>(evalA x).bind λ v=>(evalsA r).bind λ vs=>.done (v::vs)
def partsA:List (Nat×Operand)->Rd (List (Nat×List AV))
 | []=>.done []
 | (i,x)::r=>(evalA x).bind λ v=>(Rd.ofOpt v.cells).bind λ c=>(partsA r).bind λ vs=>.done ((i,c)::vs)
def pureRun {α:Type}(P:Program):Sem α->Option α
 | .pure a=>some a
 | .program k=>pureRun P (k P)
 | _=>none
def zeroA (P:Program)(t:TypeId):Option (List AV):=match P.info? t with
 | some i=>match i.zero with
  | some z=>constsA z.cells.toList
  | none=>none
 | none=>none
def fillA (place:Nat->Option (Nat×Nat)):List AV->List (Nat×List AV)->Option (List AV)
 | cells,[]=>some cells
 | cells,(i,v)::r=>match place i with
  | none=>none
  | some (off,size)=>if v.length=size/\off+v.length<=cells.length then fillA place (cells.take off++v++cells.drop (off+v.length)) r else none
def placesA (P:Program):List Field->Option (List (Nat×Nat))
 | []=>some []
 | f::r=>match P.info? f.type,placesA P r with
  | some i,some l=>some ((f.offset,i.size)::l)
  | _,_=>none
def sizeA (P:Program)(t:TypeId):Option Nat:=(P.info? t).map (·.size)
def isAggA (P:Program)(t:TypeId):Option Bool:=(P.underlying t).map TypeDesc.isRow
def leave (N:Nat)(dst:Option Tmp)(v:AV)(y:Tail)(drop:Option Nat):Rd Eff:=match dst with
 | some d=>if d<N then .done ⟨some (d,v,y),drop,none⟩ else .fail
 | none=>.done ⟨none,none,none⟩
def fresh (N:Nat)(dst:Option Tmp)(id:Nat)(t:TypeId)(cs:List AV):Rd Eff:=match dst with
 | some d=>if d<N then .hp id λ x=>match x with
  | none=>.done ⟨some (d,.box id 0,none),none,some (id,(t,cs))⟩
  | some _=>.fail
  else .fail
 | none=>.fail
def effAssign (N:Nat)(dst:Option Tmp):Operand->Rd Eff
 | .tmp t=>(evalA (.tmp t)).bind λ v=>.tl t λ y=>match y with
  | some z=>leave N dst v (some z) (some t)
  | none=>leave N dst v none none
 | .const v=>(Rd.ofOpt (constA v)).bind λ x=>leave N dst x (match x with | .row _ _=>some (0,0) | _=>none) none
 | x=>(evalA x).bind λ v=>leave N dst v none none
def effBuild (P:Program)(N:Nat)(dst:Option Tmp)(t:TypeId)(parts:List (Nat×List AV)):Rd Eff:=match zeroA P t,P.underlying t with
 | some z,some (.struct fields)=>match placesA P fields.toList with
  | some places=>(Rd.ofOpt (fillA (places.toArray[·]?) z parts)).bind λ cs=>leave N dst (.agg cs) none none
  | none=>.fail
 | some z,some (.array _ e)=>match sizeA P e with
  | some n=>(Rd.ofOpt (fillA (λ i=>some (i*n,n)) z parts)).bind λ cs=>leave N dst (.agg cs) none none
  | none=>.fail
 | _,_=>.fail
def timesA (z:List AV):Nat->List AV
 | 0=>[]
 | n+1=>z++timesA z n
def effSlice (P:Program)(N:Nat)(dst:Option Tmp)(t:TypeId)(len:Nat)(parts:List (Nat×List AV)):Rd Eff:=match P.underlying t with
 | some (.slice e)=>match zeroA P e,sizeA P e with
  | some z,some n=>if z.length=n/\0<n/\0<len/\len*n<=16777216 then
   (Rd.ofOpt (fillA (λ i=>some (i*n,n)) (timesA z len) parts)).bind λ cs=>leave N dst (.row len cs) (some (e,n)) none
   else .fail
  | _,_=>.fail
 | _=>.fail
def loadA (P:Program)(t:TypeId)(cs:List AV)(off:Nat):Option AV:=match isAggA P t,sizeA P t with
 | some true,some n=>if off+n<=cs.length then some (.agg ((cs.drop off).take n)) else none
 | some false,_=>cs[off]?
 | _,_=>none
def effLoad (P:Program)(N:Nat)(dst:Option Tmp)(t:TypeId):AV->Rd Eff
 | .box i off=>.hp i λ x=>match x with
  | some (_,cs)=>(Rd.ofOpt (loadA P t cs off)).bind λ v=>leave N dst v none none
  | none=>.fail
 | .ptr cs off=>(Rd.ofOpt (loadA P t cs off)).bind λ v=>leave N dst v none none
 | _=>.fail
def effStore (P:Program)(dst:Option Tmp)(t:TypeId)(v:List AV):AV->Rd Eff
 | .box i off=>.hp i λ x=>match x with
  | some (e,cs)=>if dst=none/\sizeA P t=some v.length/\off+v.length<=cs.length then .done ⟨none,none,some (i,(e,cs.take off++v++cs.drop (off+v.length)))⟩ else .fail
  | none=>.fail
 | _=>.fail
def effAppend (P:Program)(N:Nat)(dst:Option Tmp)(t:TypeId)(s:Nat)(x:AV):Rd Eff:=match P.underlying t with
 | some (.slice e)=>match P.info? e with
  | some i=>match i.zero with
   | some z=>.sl s λ old=>.tl s λ y=>match old,y,x with
    | some (.row n cs),some (e',n'),.row m ds =>
     if ((e'=e/\n'=i.size)\/n'=0)/\z.cells.size=i.size/\0<i.size/\cs.length=n*i.size/\ds.length=m*i.size/\n+m<=1000000/\(n+m)*i.bytes<=140737488355328/\dst.isSome=true then leave N dst (.row (n+m) (cs++ds)) (some (e,i.size)) (some s) else .fail
    | _,_,_=>.fail
   | none=>.fail
  | none=>.fail
 | _=>.fail
def okFn (P:Program)(f:FuncId):Bool:=match P.funcs[f]? with
 | some fn => fn.body.isSome && !(fn.name == "runtime.NumGoroutine")
 | none=>false
def effCall (P:Program)(N:Nat)(call:FuncId->List AV->Option (AV×Tail))(dst:Option Tmp)(f:AV)(vs:List AV):Rd Eff:=match f with
 | .fn g=>if okFn P g=true/\vs.all AV.free=true then match call g vs with
  | some (r,y)=>leave N dst r y none
  | none=>.fail
  else .fail
 | _=>.fail
def effField (P:Program)(N:Nat)(dst:Option Tmp)(xt:TypeId)(f:Nat):AV->Rd Eff
 | .agg cs=>match P.underlying xt with
  | some (.struct fields)=>match fields[f]? with
   | some fd=>(Rd.ofOpt (loadA P fd.type cs fd.offset)).bind λ v=>leave N dst v none none
   | none=>.fail
  | _=>.fail
 | _=>.fail
def effFieldAddr (P:Program)(N:Nat)(dst:Option Tmp)(xt:TypeId)(f:Nat):AV->Rd Eff
 | .box i off=>match P.underlying xt with
  | some (.struct fields)=>match fields[f]? with
   | some fd=>match sizeA P fd.type with
    | some (n+1)=>.hp i λ x=>match x with
     | some _=>leave N dst (.box i (off+fd.offset)) none none
     | none=>.fail
    | _=>.fail
   | none=>.fail
  | _=>.fail
 | _=>.fail
def effIndexAddr (P:Program)(N:Nat)(dst:Option Tmp)(t:TypeId)(x ix:AV):Rd Eff:=match P.underlying t,x,ix with
 | some (.slice e),.row n cs,.int _ i=>match sizeA P e with
  | some z=>if 0<=i/\i<n/\cs.length=n*z/\0<z then leave N dst (.ptr cs (i.toNat*z)) none none else .fail
  | none=>.fail
 | some (.array n e),.box b off,.int _ i=>match sizeA P e with
  | some z=>if 0<=i/\i<n then .hp b λ x=>match x with
   | some _=>leave N dst (.box b (off+i.toNat*z)) none none
   | none=>.fail
   else .fail
  | none=>.fail
 | _,_,_=>.fail
def effOne (P:Program)(N:Nat)(call:FuncId->List AV->Option (AV×Tail))(id:Nat)(o:Oper):Rd Eff:=match o.op with
 | .move x=>effAssign N o.dst x
 | .assign x=>effAssign N o.dst x
 | .pick c x y=>(evalA c).bind λ v=>match v with
  | .bool b=>(evalA (if b=true then x else y)).bind λ u=>leave N o.dst u none none
  | _=>.fail
 | .alloc t=>match zeroA P t with
  | some cs=>fresh N o.dst id t cs
  | none=>.fail
 | .box t x=>(evalA x).bind λ v=>(Rd.ofOpt v.cells).bind λ cs=>fresh N o.dst id t cs
 | .build t ps=>(partsA ps.toList).bind λ vs=>effBuild P N o.dst t vs
 | .buildSlice t len ps=>(partsA ps.toList).bind λ vs=>effSlice P N o.dst t len vs
 | .load t x=>(evalA x).bind λ v=>effLoad P N o.dst t v
 | .store t x y=>(evalA x).bind λ v=>(evalA y).bind λ u=>(Rd.ofOpt u.cells).bind λ cs=>effStore P o.dst t cs v
 | .binOp op xt x y _=>(evalA x).bind λ v=>(evalA y).bind λ u=>(Rd.ofOpt (scal v)).bind λ v'=>(Rd.ofOpt (scal u)).bind λ u' =>
  (Rd.ofOpt (pureRun P (do eqGuard op xt x y v' u';binOp op xt v' u'))).bind λ r=>(Rd.ofOpt (constA r)).bind λ z=>leave N o.dst z none none
 | .unOp op _ x=>(evalA x).bind λ v=>(Rd.ofOpt (scal v)).bind λ v'=>(Rd.ofOpt (pureRun P (Op.unary op v'))).bind λ r=>(Rd.ofOpt (constA r)).bind λ z=>leave N o.dst z none none
 | .convert t t' x=>(evalA x).bind λ v=>(Rd.ofOpt (scal v)).bind λ v'=>(Rd.ofOpt (pureRun P (convert t t' v'))).bind λ r=>(Rd.ofOpt (constA r)).bind λ z=>leave N o.dst z none none
 | .extract x i=>(evalA x).bind λ v=>match v with
  | .tup vs=>(Rd.ofOpt vs[i]?).bind λ u=>leave N o.dst u none none
  | _=>.fail
 | .field xt x f=>(evalA x).bind λ v=>effField P N o.dst xt f v
 | .fieldAddr xt x f=>(evalA x).bind λ v=>effFieldAddr P N o.dst xt f v
 | .indexAddr t x i=>(evalA x).bind λ v=>(evalA i).bind λ u=>effIndexAddr P N o.dst t v u
 | .call c=>match c.callee with
  | .value f=>(evalA f).bind λ g=>(evalsA c.args.toList).bind λ vs=>effCall P N call o.dst g vs
  | .builtin .append=>match c.args.toList,c.argTypes.toList with
   | [.tmp s,x],[t,t']=>if t=t' then(evalA x).bind λ v=>effAppend P N o.dst t s v else .fail
   | _,_=>.fail
  | .builtin .len=>match c.args.toList,c.argTypes.toList with
   | [x],[t]=>match P.underlying t with
    | some (.slice _)=>(evalA x).bind λ v=>match v with
     | .row n _=>leave N o.dst (.int .i64 n) none none
     | _=>.fail
    | _=>.fail
   | _,_=>.fail
  | _=>.fail
 | _=>.fail
def dstOf (ops:Array Oper)(j:Nat):Option Tmp:=match ops[j]? with
 | some o=>o.dst
 | none=>none
def effOp (P:Program)(N:Nat)(call:FuncId->List AV->Option (AV×Tail))(ops:Array Oper)(id:Nat)(o:Oper):Rd Eff:=match o.guard with
 | none=>effOne P N call id o
 | some (j,want)=>match dstOf ops j with
  | some d=>(evalA (.tmp d)).bind λ v=>match v with
   | .bool b=>if b=want then effOne P N call id o else leave N o.dst .any none none
   | _=>.fail
  | none=>.fail
end S
section
variable {P:Program}{B N:Nat}{w0:World}{H0:Zn}{s:St}{a:Act}{w:World}{H:Zn}{φ:Nat->Nat}
theorem Zis {α:Type}:∀(m:Sem α) {x:α},S.pureRun P m=some x->∀w,m.run P w=.ok x w
 | .pure a,x,h,w=>by simp[S.pureRun] at h;subst h;rfl
 | .program k,x,h,w=>by
  rw[S.pureRun] at h;exact Zis (k P) h w
 | .load ..,x,h,w | .store ..,x,h,w | .new ..,x,h,w | .shape ..,x,h,w | .freeze ..,x,h,w | .frozen ..,x,h,w | .getObj ..,x,h,w | .setObj ..,x,h,w | .choose ..,x,h,w | .sys ..,x,h,w | .mark ..,x,h,w | .halt ..,x,h,w=>by
  simp[S.pureRun] at h
theorem Zc3 {v:Value}{x:S.AV}(h:S.constA v=some x)(H:Zn)(w:World):RepV H w x v/\x.cell=true:=by
 unfold S.constA at h
 split at h <;> cases h
 .exact⟨by rw[RepV],rfl⟩
 .exact⟨by rw[RepV],rfl⟩
 .exact⟨by rw[RepV],rfl⟩
 .refine⟨?_,rfl⟩
  rw[RepV];exact⟨none,0,rfl,λ _=>rfl,λ _=>rfl,.inl rfl⟩
theorem Zdk:∀{vs:List Value} {xs:List S.AV},S.constsA vs=some xs->∀(H:Zn)(w:World),RepL H w xs vs
 | [],xs,h,H,w=>by simp[S.constsA] at h;subst h;rw[RepL]
 | v::r,xs,h,H,w=>by
  unfold S.constsA at h
  split at h
  .rename_i x ys h1 h2
   cases h
   rw[RepL];exact⟨v,r,rfl,(Zc3 h1 H w).2,(Zc3 h1 H w).1,Zdk h2 H w⟩
  .cases h
theorem Zhf {x:S.AV}{v u:Value}(h:Zvm H w φ s x v)(b:S.scal x=some u):v=u:=by
 rcases h with⟨i,off,rfl,_⟩|h
 .simp[S.scal] at b
 .unfold S.scal at b
  split at b <;> cases b <;> rw[RepV] at h <;> exact h
theorem Zit {x:S.AV}{v:Value}{cs:List S.AV}(h:Zvm H w φ s x v)(b:x.cells=some cs):RepV H w x v:=by
 rcases h with⟨i,off,rfl,_⟩|h
 .simp[S.AV.cells] at b
 .exact h
theorem Zqg {x:S.AV}{v:Value}(h:Zvm H w φ s x v)(b:x.free=true):RepV H w x v:=by
 rcases h with⟨i,off,rfl,_⟩|h
 .simp[S.AV.free] at b
 .exact h
theorem Zm (b:Gam B N w0 H0 s a w H φ){x:Operand}{v:S.AV}{l:List Nat}(h:(S.evalA x).run s=some (v,l)):Zvm H w φ s v (a.eval x):=by
 cases x with
 | tmp t =>
  simp only[S.evalA,S.Rd.run] at h
  split at h
  .rename_i u l' hu
   simp only[Option.some.injEq,Prod.mk.injEq] at h;obtain⟨rfl,_⟩:=h;exact b.slot t _ (Z5 hu)
  .cases h
 | const c=>exact .inr (Zc3 (Z5 h) H w).1
 | func f =>
  simp only[S.evalA,S.Rd.run,Option.some.injEq,Prod.mk.injEq] at h;obtain⟨rfl,_⟩:=h;exact .inr (by rw[RepV];rfl)
 | global g=>simp[S.evalA,S.Rd.run] at h
theorem Zki (b:Gam B N w0 H0 s a w H φ):∀{xs:List Operand} {vs:List S.AV} {l:List Nat},(S.evalsA xs).run s=some (vs,l)->vs.all S.AV.free=true->RepT H w vs (xs.map a.eval)
 | [],vs,l,h,_=>by
  simp only[S.evalsA,S.Rd.run,Option.some.injEq,Prod.mk.injEq] at h;obtain⟨rfl,_⟩:=h;rw[RepT];rfl
 | x::r,vs,l,h,hf=>by
  unfold S.evalsA at h;obtain⟨v,_,_,e,h⟩:=Zh _ _ h;obtain⟨us,_,_,d,h⟩:=Zh _ _ h;simp only[S.Rd.run,Option.some.injEq,Prod.mk.injEq] at h;obtain⟨rfl,_⟩:=h;rw[List.all_cons,Yq] at hf;rw[RepT];exact⟨_,_,rfl,Zqg (Zm b e) hf.1,Zki b d hf.2⟩
inductive RepP (H:Zn) (w:World):List (Nat×List S.AV)->List (Nat×Value)->Prop
 | nil:RepP H w [] []
 | cons {i cs v vs r r'}:v.cells=vs.toArray->RepL H w cs vs->RepP H w r r'->RepP H w ((i,cs)::r) ((i,v)::r')
theorem Zge (f:Gam B N w0 H0 s a w H φ):∀{b:List (Nat×Operand)} {vs:List (Nat×List S.AV)} {l:List Nat},(S.partsA b).run s=some (vs,l)->RepP H w vs (b.map λ p=>(p.1,a.eval p.2))
 | [],vs,l,h=>by
  simp only[S.partsA,S.Rd.run,Option.some.injEq,Prod.mk.injEq] at h;obtain⟨rfl,_⟩:=h;exact .nil
 | (i,x)::r,vs,l,h=>by
  unfold S.partsA at h;obtain⟨v,_,_,n,h⟩:=Zh _ _ h;obtain⟨c,_,_,k,h⟩:=Zh _ _ h;obtain⟨us,_,_,j,h⟩:=Zh _ _ h;simp only[S.Rd.run,Option.some.injEq,Prod.mk.injEq] at h;obtain⟨rfl,_⟩:=h;have d:=Z5 k;obtain⟨cv,e,g⟩:=Zik (Zit (Zm f n) d) d;exact .cons e g (Zge f j)
theorem Zvn (vs:List Value)(off:Nat):∀(j:Nat)(cs:Array Value),off+j+vs.length<=cs.size ->
 ((vs.zipIdx j).foldl (λ cs (x:Value×Nat)=>cs.setIfInBounds (off+x.2) x.1) cs).toList=cs.toList.take (off+j)++vs++cs.toList.drop (off+j+vs.length):=by
 induction vs with
 | nil=>intro j cs h;simp
 | cons v r ih =>
  intro j cs h;rw[Yk] at h;rw[List.zipIdx_cons,List.foldl_cons,ih (j+1) _ (by simp;omega)];simp only[Array.toList_setIfInBounds];have b:off+j<cs.toList.length:=by simp;omega
  rw[Yk,show off+(j+1)=off+j+1 by omega];have d:(cs.toList.set (off+j) v).take (off+j+1)=cs.toList.take (off+j)++[v]:=by
   rw[List.take_set,Yan,Ye b];simp only[Option.toList_some];rw[List.set_append_right _ _ (by rw[List.length_take];omega)];have:off+j-(cs.toList.take (off+j)).length=0:=by simp;omega
   rw[this,List.set_cons_zero]
  have e:(cs.toList.set (off+j) v).drop (off+j+1+r.length)=cs.toList.drop (off+j+(r.length+1)):=by
   rw[List.drop_set_of_lt (by omega)]
   congr 1
   omega
  rw[d,e];simp
theorem Zlq {place:Nat->Option (Nat×Nat)}:∀{k:List (Nat×List S.AV)} {d:List (Nat×Value)} {cs out:List S.AV} {b:Array Value},RepP H w k d->RepL H w cs b.toList->S.fillA place cs k=some out->∃r,Instr.fill place b d=some r/\RepL H w out r.toList
 | _,_,cs,out,b,.nil,hc,h=>by
  simp[S.fillA] at h;subst h;exact⟨b,rfl,hc⟩
 | _,_,cs,out,b,.cons (i:=i) (cs:=pc) (v:=v) (vs:=pv) (r:=r) (r':=r') e hr hp,hc,h=>by
  unfold S.fillA at h;unfold Instr.fill
  cases hpl:place i with
  | none=>rw[hpl] at h;cases h
  | some q =>
   obtain⟨off,size⟩:=q;rw[hpl] at h;simp only at h⊢
   split at h
   .rename_i hh
    have l:=RepL.length hr;have g:=RepL.length hc;have hsz:v.cells.size=pc.length:=by rw[e];simp[l]
    have j:b.size=cs.length:=by rw[<- g];simp
    have f:¬((decide (v.cells.size≠size) || decide (off+v.cells.size>b.size))=true):=by
     rw[hsz,j];simp only[Bool.or_eq_true,decide_eq_true_eq,not_or];omega
    rw[if_neg f];refine Zlq hp ?_ h;rw[e,<- Array.foldl_toList,Array.toList_zipIdx];have:=Zvn pv off 0 b (by omega);rw[Ybe] at this;rw[this,<- l];exact RepL.append (RepL.append (RepL.take off hc) hr) (RepL.drop _ hc)
   .cases h
end
end
