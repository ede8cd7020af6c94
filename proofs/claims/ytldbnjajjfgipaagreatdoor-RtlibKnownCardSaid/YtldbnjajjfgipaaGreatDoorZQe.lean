/- Parts. -/
import Derived.Test.YtldbnjajjfgipaaGreatDoorZMachA
import Derived.Test.YtldbnjajjfgipaaGreatDoorZQb
import Derived.Deep.RegionLaw
import Derived.Deep.Cut
import Derived.Deep.CutRange
import Derived.WalkMore
import Derived.Great.BuildSlice
import Derived.Laws.CopyRow
set_option linter.all false
set_option maxHeartbeats 4000000
open Go.Lib renaming hid->Ya
open List renaming length_append->Yc,getElem?_eq_some_iff->Yg,getD_eq_getElem?_getD->Yh,length_cons->Yk,getElem?_append_left->Ym,getElem?_append_right->Yn,replicate->Y1,mem_cons_of_mem->Y5,length_nil->Yae,mem_singleton->Yaf,take_succ_cons->Yaw,take_zero->Yaz,drop_succ_cons->Ya1,append_nil->Ya4,drop_zero->Ybc,getElem?_eq_none_iff->Yce,length_set->Ycl,set_append_right->Ycy,map_replicate->Yde
open Nat renaming le_refl->Yd,add_sub_cancel_left->Y7,le_trans->Yaa,add_assoc->Ybm
open Go.RowKit.Below renaming refl->Yj,heap_setCell->Ybd
open Bool renaming and_eq_true->Yq,or_eq_true->Ybp
open Go.Value renaming int->Ys,ownBlock->Yaj
open Array renaming getElem?_eq_some_iff->Yv,toList_setIfInBounds->Ybx
open Go.Result renaming andThen_ok->Y0
open Option renaming isSome_iff_exists->Y8
open Go.Sem renaming run_bind->Yad,run_pure->Yam
open Go.Region renaming wanted->Yah
open Go.World renaming setCell->Ybn
namespace Go.Proofs.YtldbnjajjfgipaaGreatDoor
open S Go.Proofs.Tryz Go.RowKit
set_option maxRecDepth 100000
namespace S
inductive BO where
 | ret (st:Vw)
 | halt (code:Int) (st:Vw)
 | left (tq:Int) (st:Vw)
structure Mt (I:Img)(V st:Vw):Prop where
 vis:∀n,visB n=true->V.reg n=st.reg n
 mem:∀a,0<=a->a<I.size->¬I.stk a->V.mem a=st.mem a
 inp:V.inp=st.inp
 out:V.out=st.out
structure Fr (V:Vw)(base lk:Int)(env ts:List Int):Prop where
 lk:V.mem base=lk
 env:∀k,k<env.length->V.mem (base+1+k)=env.getD k 0
 ts:∀k,k<ts.length->V.reg (11+k)=ts.getD k 0
def Kp (I:Img)(base:Int)(V V':Vw):Prop:=∀a,I.lo<=a->a<base->V'.mem a=V.mem a
def backTo (behind:Bool)(V:Vw)(ret:Int):Int:=if behind=true then u32m (u32m (ret+V.mem ret)+1) else ret
def Done (I:Img)(V:Vw)(a:Int)(k:Nat)(top ret:Int)(behind:Bool):BO->Prop
 | .ret st=>∃V',Go I V a k V' (backTo behind V' ret)/\Mt I V' st/\V'.reg 28=top/\Kp I top V V'
 | .halt code st=>∃V',GoH I V a k V' code/\Mt I V' st
 | .left tq st=>∃V',Go I V a k V' tq/\Mt I V' st/\V'.reg 28=top/\Kp I top V V'
def Real (I:Img)(name:ByteArray)(behind:Bool)(st:Vw)(d:Int)(R:Int->BO->Nat->Prop):Prop :=
 ∀V top ret,Mt I V st->V.reg 28=top->V.reg 31=ret->0<=ret->ret<I.size->I.lo<=top->top+d<=I.hi->∃o k,R ret o k/\Done I V (I.lab name) k top ret behind o
def Vw.args (st:Vw)(vs:List Int):Vw:={ st with reg:=λ j=>if 4<=j/\j<4+vs.length then vs.getD (j-4).toNat 0 else st.reg j }
def Vw.regs (st:Vw):List Int->List Int->Vw
 | n::r,v::vs=>(st.set n v).regs r vs
 | _,_=>st
def wpOp (I:Img)(dep lk:Int)(op n:Int)(name:ByteArray)(at_:Nat)(env vs:List Int)(st:Vw)(c:Nat)(Q:Int->Vw->Nat->Prop)(H:Int->Vw->Nat->Prop):Prop :=
 if op=1 then Q (n%4294967296) st (c+2)
 else if op=2 then Q (env.getD n.toNat 0) st (c+1)
 else if op=3 then Q (st.reg n) st (c+1)
 else if op=4 then(vs.getD 1 0=0->n≠5/\n≠6)/\Q (alu n (vs.getD 0 0) (vs.getD 1 0)) st (c+1)
 else if op=5 then u32m (vs.getD 0 0+n)<I.size/\¬I.stk (u32m (vs.getD 0 0+n))/\Q (st.mem (u32m (vs.getD 0 0+n))) st (c+1)
 else if op=6 then ∃d R,Real I name false (st.args vs) d R/\d<=dep/\∀ret o k,R ret o k->(match o with
  | .ret st2=>Q (st2.reg 4) st2 (c+2*at_+vs.length+4+k)
  | .halt code st2=>H code st2 (c+2*at_+vs.length+4+k)
  | .left _ _=>False)
 else if op=7 then Q (if vs.getD 0 0=vs.getD 1 0 then 1 else 0) st (c+3)
 else if op=8 then Q (inByte st.inp) { st with inp:=st.inp.tail } (c+1)
 else if op=9 then Q (I.lab name) st (c+2)
 else if op=10 then Q lk st (c+1)
 else False
mutual
def wpE (I:Img)(dep lk:Int)(env:List Int):BE->Nat->Vw->Nat->(Int->Vw->Nat->Prop)->(Int->Vw->Nat->Prop)->Prop
 | .mk op n name kids,at_,st,c,Q,H=>wpEs I dep lk env kids at_ st c (λ vs st1 c1=>wpOp I dep lk op n name at_ env vs st1 c1 Q H) H
def wpEs (I:Img)(dep lk:Int)(env:List Int):List BE->Nat->Vw->Nat->(List Int->Vw->Nat->Prop)->(Int->Vw->Nat->Prop)->Prop
 | [],_,st,c,Q,_=>Q [] st c
 | e::r,at_,st,c,Q,H=>wpE I dep lk env e at_ st c (λ v st1 c1=>wpEs I dep lk env r (at_+1) st1 c1 (λ vs st2 c2=>Q (v::vs) st2 c2) H) H
end
mutual
def wpS (I:Img)(dep lk:Int)(behind:Bool):BS->List Int->Vw->Nat->(List Int->Vw->Nat->Prop)->(BO->Nat->Prop)->Prop
 | .mk op n name exprs regs body els,env,st,c,Q,R =>
  if op=4 then
   ∃J:List Int->Vw->Nat->Nat->Prop,(∃k,J env st c k)/\∀env st c k,J env st c k ->
    wpEs I dep lk env exprs 0 st c (λ vs st1 c1=>if vs.getD 0 0=0 then Q env st1 (c1+4) else
     wpSs I dep lk behind body env st1 (c1+4) (λ Zkn st2 c2=>∃k2,k2<k/\J Zkn st2 (c2+3) k2) R) (λ code st c=>R (.halt code st) c)
  else
   wpEs I dep lk env exprs 0 st c (λ vs st1 c1 =>
    if op=1 then Q (env.set n.toNat (vs.getD 0 0)) st1 (c1+1)
    else if op=2 then u32m (vs.getD 0 0+n)<I.size/\¬I.stk (u32m (vs.getD 0 0+n))/\¬I.code (u32m (vs.getD 0 0+n))/\Q env (st1.sto (u32m (vs.getD 0 0+n)) (vs.getD 1 0)) (c1+1)
    else if op=3 then(if vs.getD 0 0=0 then wpSs I dep lk behind els env st1 (c1+4) Q R else wpSs I dep lk behind body env st1 (c1+4) (λ Zkn st2 c2=>Q Zkn st2 (c2+3)) R)
    else if op=5 then R (.ret (st1.regs regs vs)) (c1+regs.length+(if behind=true then 5 else 3))
    else if op=6 then Q env st1 c1
    else if op=7 then Q env { st1 with out:=st1.out++[vs.getD 0 0%256] } (c1+1)
    else if op=8 then R (.halt (vs.getD 0 0) st1) (c1+1)
    else if op=9 then Q env (st1.set n (vs.getD 0 0)) (c1+1)
    else if op=10 then R (.left (I.lab name) st1) (c1+4)
    else if op=11 then R (.left (vs.getD 0 0) st1) (c1+2)
    else False) (λ code st c=>R (.halt code st) c)
def wpSs (I:Img)(dep lk:Int)(behind:Bool):List BS->List Int->Vw->Nat->(List Int->Vw->Nat->Prop)->(BO->Nat->Prop)->Prop
 | [],env,st,c,Q,_=>Q env st c
 | s::r,env,st,c,Q,R=>wpS I dep lk behind s env st c (λ Zzx st1 c1=>wpSs I dep lk behind r Zzx st1 c1 Q R) R
end
structure Seg (I:Img)(obj:ByteArray)(i:Nat)(ys:List Item):Prop where
 at_:∀k x,ys[k]?=some x->I.xs[i+k]?=some (ownItem obj x)
 lo:I.i0<=i
 hi:i+ys.length<=I.i1
end S
theorem S.Seg.left {I:S.Img}{obj:ByteArray}{i:Nat}{ys zs:List S.Item}(h:S.Seg I obj i (ys++zs)):S.Seg I obj i ys :=
 ⟨λ k x hx=>h.at_ k x (by rw[Ym (Yg.1 hx).1];exact hx),h.lo,by have:=h.hi;rw[Yc] at this;omega⟩
theorem S.Seg.right {I:S.Img}{obj:ByteArray}{i:Nat}{ys zs:List S.Item}(h:S.Seg I obj i (ys++zs)):S.Seg I obj (i+ys.length) zs :=
 ⟨λ k x hx=>by
  have:=h.at_ (ys.length+k) x (by rw[Yn (by omega),Y7];exact hx);rw[<- Ybm] at this;exact this,by have:=h.lo;omega,by have:=h.hi;rw[Yc] at this;omega⟩
theorem S.Seg.head {I:S.Img}{obj:ByteArray}{i:Nat}{y:S.Item}{ys:List S.Item}(h:S.Seg I obj i (y::ys)):I.xs[i]?=some (S.ownItem obj y):=h.at_ 0 y rfl
theorem S.Seg.tail {I:S.Img}{obj:ByteArray}{i:Nat}{y:S.Item}{ys:List S.Item}(h:S.Seg I obj i (y::ys)):S.Seg I obj (i+1) ys:=S.Seg.right (ys:=[y]) h
theorem S.Seg.lt {I:S.Img}{obj:ByteArray}{i:Nat}{y:S.Item}{ys:List S.Item}(h:S.Seg I obj i (y::ys)):i<I.i1:=by have:=h.hi;simp at this;omega
theorem Zev (obj:ByteArray){s:ByteArray}(h:labB s=true):owned obj s=s:=by
 unfold owned;rw[if_neg];intro h2;unfold labB dotted at h;unfold ownB at h2;rw[h2] at h;simp at h
theorem S.Mt.refl_ {I:S.Img}(V:S.Vw):S.Mt I V V:=⟨λ _ _=>rfl,λ _ _ _ _=>rfl,rfl,rfl⟩
theorem S.Kp.refl (I:S.Img)(base:Int)(V:S.Vw):S.Kp I base V V:=λ _ _ _=>rfl
theorem S.Kp.trans {I:S.Img}{base:Int}{V V' V2:S.Vw}(h:S.Kp I base V V')(h2:S.Kp I base V' V2):S.Kp I base V V2:=λ a h0 h1=>(h2 a h0 h1).trans (h a h0 h1)
theorem Zi5 {n:Int}(h:S.visB n=true):n≠25/\n≠28/\n≠31/\n≠0/\(n<=10\/26<=n)/\1<=n/\n<=30:=by
 unfold S.visB at h;rw[decide_eq_true_eq] at h;omega
section
namespace S
structure Fm (I:Img)(V st:Vw)(base lk:Int)(env ts:List Int):Prop where
 mt:Mt I V st
 sp:V.reg 28=base+env.length+15
 fr:Fr V base lk env ts
structure Cx (I:Img)(L dep lk base:Int):Prop where
 ok:I.Ok
 lo:I.lo<=base
 top:base+L+15+dep<=I.hi
 dep0:0<=dep
 L0:0<=L
 L1:L<=200
 lk0:0<=lk
 lk1:lk<I.size
def OutE (I:Img)(V:Vw)(a b:Int)(c:Nat)(base lk:Int)(env ts:List Int)(Q:List Int->Vw->Nat->Prop)(H:Int->Vw->Nat->Prop):Prop :=
 (∃vs st' c' V',c<=c'/\Q vs st' c'/\Go I V a (c'-c) V' b/\Fm I V' st' base lk env (ts++vs)/\Kp I base V V') \/
 (∃code st' c' V',c<=c'/\H code st' c'/\GoH I V a (c'-c) V' code/\Mt I V' st')
end S
theorem Zh (V:S.Vw)(d v:Int):(V.set d v).reg d=v:=by show(if d=d then v else _)=v;rw[if_pos rfl]
theorem Zd (V:S.Vw){d j:Int}(v:Int)(h:j≠d):(V.set d v).reg j=V.reg j:=by show(if j=d then v else _)=_;rw[if_neg h]
theorem Zb9 (V:S.Vw)(d v:Int):(V.sto d v).mem d=v:=by show(if d=d then v else _)=v;rw[if_pos rfl]
theorem Zy (V:S.Vw){d j:Int}(v:Int)(h:j≠d):(V.sto d v).mem j=V.mem j:=by show(if j=d then v else _)=_;rw[if_neg h]
theorem S.Mt.hid {I:S.Img}{V st:S.Vw}(h:S.Mt I V st){d:Int}(hd:S.visB d=false)(v:Int):S.Mt I (V.set d v) st :=
 ⟨λ n hn=>by
  rw[Zd _ _ (λ e=>by subst e;rw[hd] at hn;cases hn)];exact h.vis n hn,h.mem,h.inp,h.out⟩
theorem S.Mt.stack {I:S.Img}{V st:S.Vw}(h:S.Mt I V st){p:Int}(hp:I.stk p)(v:Int):S.Mt I (V.sto p v) st :=
 ⟨h.vis,λ a a0 a1 ha=>by
  rw[Zy _ _ (λ e:a=p=>ha (by rw[e];exact hp))];exact h.mem a a0 a1 ha,h.inp,h.out⟩
theorem Zxi {k:Nat}(h:k<14):S.visB (11+k)=false:=by
 unfold S.visB;rw[decide_eq_false_iff_not];omega
theorem Zhp (ts:List Int)(v:Int)(k:Nat)(h:k<(ts++[v]).length):(ts++[v]).getD k 0=if k=ts.length then v else ts.getD k 0:=by
 by_cases c:k=ts.length
 .subst c;simp
 .rw[if_neg c]
  have:k<ts.length:=by simp at h;omega
  simp[Ym this]
theorem Zcy (ts vs:List Int)(k:Nat)(h:k<ts.length):(ts++vs).getD k 0=ts.getD k 0:=by
 simp[Ym h]
theorem Zfg (ts vs:List Int)(k:Nat):(ts++vs).getD (ts.length+k) 0=vs.getD k 0:=by
 simp[Yn]
theorem S.Fm.put {I:S.Img}{V st:S.Vw}{base lk:Int}{env ts vs:List Int}(h:S.Fm I V st base lk env (ts++vs))(hk:ts.length<14)(v:Int):S.Fm I (V.set (11+ts.length) v) st base lk env (ts++[v]):=by
 refine⟨h.mt.hid (Zxi hk) v,by rw[Zd _ _ (by omega)];exact h.sp,h.fr.lk,h.fr.env,λ k hl=>?_⟩;rw[Zhp ts v k hl];by_cases c:k=ts.length
 .subst c;rw[if_pos rfl,Zh]
 .rw[if_neg c,Zd _ _ (by omega)]
  have hlt:k<ts.length:=by simp at hl;omega
  rw[h.fr.ts k (by simp;omega),Zcy ts vs k hlt]
theorem S.Fm.over {I:S.Img}{V st:S.Vw}{base lk:Int}{env ts:List Int}(h:S.Fm I V st base lk env ts){k:Nat}(hk:k<14)(hk2:ts.length<=k)(v:Int):S.Fm I (V.set (11+k) v) st base lk env ts :=
 ⟨h.mt.hid (Zxi hk) v,by rw[Zd _ _ (by omega)];exact h.sp,⟨h.fr.lk,h.fr.env,λ j hj=>by rw[Zd _ _ (by omega)];exact h.fr.ts j hj⟩⟩
theorem S.Fm.val {I:S.Img}{V st:S.Vw}{base lk:Int}{env ts vs:List Int}(h:S.Fm I V st base lk env (ts++vs)){k:Nat}(hk:k<vs.length):V.reg (11+ts.length+k)=vs.getD k 0:=by
 have:=h.fr.ts (ts.length+k) (by simp;omega);rw[Zfg] at this;rw[<- this]
 congr 1
 omega
theorem Zav (fr L:Int):(∀k,(bStores fr L k).length=k)/\(∀k,(bLoads fr L k).length=k)/\(∀a k,(bArgs a k).length=k):=by
 refine⟨λ k=>?_,λ k=>?_,λ a k=>?_⟩
 all_goals
  induction k with
  | zero=>rfl
  | succ k ih=>first | (rw[bStores,Yc,ih];rfl) | (rw[bLoads,Yc,ih];rfl) | (rw[bArgs,Yc,ih];rfl)
section
variable {I:S.Img}{L dep lk base:Int}(cx:S.Cx I L dep lk base){obj:ByteArray}
include cx
theorem Zok {V:S.Vw}{p:Int}(hsp:V.reg 28=base+L+15)(h0:0<=p)(h1:p<L+15):S.u32m (V.reg 28+(p-(L+15)))=base+p/\base+p<I.size/\¬I.code (base+p)/\I.stk (base+p):=by
 obtain⟨ok,lo,top,dep0,_,_,_,_⟩:=cx;have h2:=ok.lo0;have h3:=ok.hisz;have h4:=ok.size2;refine⟨?_,by omega,?_,by omega,by omega⟩
 .rw[hsp];unfold S.u32m;omega
 .rintro⟨q0,q1⟩
  rcases ok.apart with h|h <;> omega
theorem Zkd {V:S.Vw}{i:Nat}{d p:Int}{r:List S.Item}(hs:S.Seg I obj i (bLoad (L+15) d p::r))(hsp:V.reg 28=base+L+15)(h0:0<=p)(h1:p<L+15)(hd:0<d)(hd2:d<=31) :
 S.Go I V (I.adr i) 1 (V.set d (V.mem (base+p))) (I.adr (i+1)):=by
 obtain⟨e1,e2,e3,e4⟩:=Zok cx (V:=V) hsp h0 h1;exact Zym cx.ok hs.lo hs.lt hs.head hd hd2 (by decide) e1.symm e2
theorem Zlx {V:S.Vw}{i:Nat}{b p:Int}{r:List S.Item}(hs:S.Seg I obj i (bStore (L+15) b p::r))(hsp:V.reg 28=base+L+15)(h0:0<=p)(h1:p<L+15)(hb:0<=b/\b<=31/\b≠25) :
 S.Go I V (I.adr i) 1 (V.sto (base+p) (V.reg b)) (I.adr (i+1)):=by
 obtain⟨e1,e2,e3,e4⟩:=Zok cx (V:=V) hsp h0 h1;exact Zr3 cx.ok hs.lo hs.lt hs.head (by decide) hb e1.symm e2 e3
theorem Zew {V:S.Vw}{i:Nat}{d a:Int}{r:List S.Item}(hs:S.Seg I obj i (bMove d a::r))(hd:0<d)(hd2:d<=31)(ha:0<=a/\a<=31/\a≠25):S.Go I V (I.adr i) 1 (V.set d (V.reg a)) (I.adr (i+1)) :=
 Zyl cx.ok hs.lo hs.lt hs.head hd hd2 ha
theorem Zly {V:S.Vw}{i:Nat}(hsp:V.reg 28=base+L+15):∀k:Nat,k<=14->S.Seg I obj i (bStores (L+15) L k)->∃V',S.Go I V (I.adr i) k V' (I.adr (i+k))/\V'.reg=V.reg/\(∀j:Nat,j<k->V'.mem (base+1+L+j)=V.reg (11+j)) /\
 (∀a:Int,a<base+1+L\/base+L+15<=a->V'.mem a=V.mem a)/\V'.inp=V.inp/\V'.out=V.out
 | 0,_,_=>⟨V,Zcq _ _ _,rfl,λ j hj=>by omega,λ _ _=>rfl,rfl,rfl⟩
 | k+1,hk,hs=>by
  obtain⟨V1,h1,h2,h3,h4,h5,h6⟩:=Zly hsp k (by omega) hs.left;have hs2:=hs.right;rw[(Zav _ _).1] at hs2;have hL:=cx.L0;have h7:=Zlx cx (V:=V1) hs2 (by rw[h2];exact hsp) (p:=1+L+k) (by omega) (by omega) (by omega);refine⟨_,h1.trans h7,h2,λ j hj=>?_,λ a ha=>?_,h5,h6⟩
  .by_cases c:j=k
   .subst c
    have e:base+1+L+(j:Int)=base+(1+L+j):=by omega
    rw[e,Zb9,h2]
   .rw[Zy _ _ (by omega)];exact h3 j (by omega)
  .rw[Zy _ _ (by omega)];exact h4 a ha
theorem Zol {V:S.Vw}{i:Nat}(hsp:V.reg 28=base+L+15):∀k:Nat,k<=14->S.Seg I obj i (bLoads (L+15) L k)->∃V',S.Go I V (I.adr i) k V' (I.adr (i+k))/\V'.mem=V.mem/\(∀j:Nat,j<k->V'.reg (11+j)=V.mem (base+1+L+j)) /\
 (∀a:Int,a<11\/11+k<=a->V'.reg a=V.reg a)/\V'.inp=V.inp/\V'.out=V.out
 | 0,_,_=>⟨V,Zcq _ _ _,rfl,λ j hj=>by omega,λ _ _=>rfl,rfl,rfl⟩
 | k+1,hk,hs=>by
  obtain⟨V1,h1,h2,h3,h4,h5,h6⟩:=Zol hsp k (by omega) hs.left;have hs2:=hs.right;rw[(Zav _ _).2.1] at hs2;have hL:=cx.L0;have h7:=Zkd cx (V:=V1) hs2 (by rw[h4 _ (by omega)];exact hsp) (p:=1+L+k) (by omega) (by omega) (by omega) (by omega);refine⟨_,h1.trans h7,h2,λ j hj=>?_,λ a ha=>?_,h5,h6⟩
  .by_cases c:j=k
   .subst c
    have e:base+1+L+(j:Int)=base+(1+L+j):=by omega
    rw[e,Zh,h2]
   .rw[Zd _ _ (by omega)];exact h3 j (by omega)
  .rw[Zd _ _ (by omega)];exact h4 a (by omega)
theorem Zs4 {V:S.Vw}{i:Nat}{at_:Nat}:∀k:Nat,k<=4->at_+k<=14->S.Seg I obj i (bArgs at_ k)->∃V',S.Go I V (I.adr i) k V' (I.adr (i+k))/\V'.mem=V.mem/\(∀j:Nat,j<k->V'.reg (4+j)=V.reg (11+at_+j)) /\
 (∀a:Int,a<4\/4+k<=a->V'.reg a=V.reg a)/\V'.inp=V.inp/\V'.out=V.out
 | 0,_,_,_=>⟨V,Zcq _ _ _,rfl,λ j hj=>by omega,λ _ _=>rfl,rfl,rfl⟩
 | k+1,hk,hk2,hs=>by
  obtain⟨V1,h1,h2,h3,h4,h5,h6⟩:=Zs4 k (by omega) (by omega) hs.left;have hs2:=hs.right;rw[(Zav 0 0).2.2] at hs2;have h7:=Zew cx (V:=V1) hs2 (by omega) (by omega) (by omega);refine⟨_,h1.trans h7,h2,λ j hj=>?_,λ a ha=>?_,h5,h6⟩
  .by_cases c:j=k
   .subst c
    rw[Zh,h4 _ (by omega)]
   .rw[Zd _ _ (by omega)];exact h3 j (by omega)
  .rw[Zd _ _ (by omega)];exact h4 a (by omega)
theorem Zv8 {V:S.Vw}{i:Nat}{d n:Int}{r:List S.Item}(hs:S.Seg I obj i (bConst d n++r))(hn:-2147483648<=n/\n<=4294967295)(hd:0<d)(hd2:d<=24) :
 S.Go I V (I.adr i) 2 (V.set d (n%4294967296)) (I.adr (i+(bConst d n).length)):=Zvm λ m hm=>by
 unfold bConst at hs⊢;by_cases c:-32768<=n/\n<32768
 .rw[if_pos c] at hs⊢
  have h:=Zc6 cx.ok hs.lo hs.lt (V:=V) hs.head hd (by omega) (by decide);have e:S.u32m (V.reg 0+n)=n%4294967296:=by rw[hm.zero];unfold S.u32m;omega
  rw[e] at h;exact h.more (by decide)
 .rw[if_neg c] at hs⊢
  have h:=Z0w cx.ok hs.lo hs.lt (V:=V) hs.head hd (by omega) (by omega);have h2:=Zxd cx.ok hs.tail.lo hs.tail.lt (V:=V.set d (n%4294967296/65536*65536)) hs.tail.head (by decide) hd (by omega) (by omega);have e:S.alu (like 17) ((V.set d (n%4294967296/65536*65536)).reg d) (S.u32m (n%4294967296%65536))=n%4294967296:=by
   have e1:S.u32m (n%4294967296%65536)=n%4294967296%65536:=by unfold S.u32m;omega
   rw[Zh,e1];exact Zr4 (by omega) (by omega)
  rw[e] at h2;refine(h.trans h2).ext (λ j _ _ _=>?_) (λ _ _ _=>rfl) rfl rfl;by_cases c2:j=d
  .subst c2;rw[Zh,Zh]
  .rw[Zd _ _ c2,Zd _ _ c2,Zd _ _ c2]
theorem Zv9 {V st:S.Vw}{env ts vs:List Int}{op n:Int}{name:ByteArray}{kids:Nat}{i c:Nat}{Q:Int->S.Vw->Nat->Prop}{H:Int->S.Vw->Nat->Prop}(hL:(env.length:Int)=L)(hop:headE L op n name kids=true)
 (hat:ts.length+max 1 kids<=14) (hvs:vs.length=kids) (hw:S.wpOp I dep lk op n name ts.length env vs st c Q H) (hs:S.Seg I obj i (bOp (L+15) L op n name kids ts.length)) (hV:S.Fm I V st base lk env (ts++vs)) :
 S.OutE I V (I.adr i) (I.adr (i+(bOp (L+15) L op n name kids ts.length).length)) c base lk env ts (λ us st' c'=>∃v,us=[v]/\Q v st' c') H:=by
 have hL0:=cx.L0;have hk14:ts.length<14:=by omega
 have hsp:V.reg 28=base+L+15:=by rw[<- hL];exact hV.sp
 unfold headE at hop;simp only[Yq,decide_eq_true_eq] at hop;obtain⟨⟨⟨⟨hr,hn⟩,hkk⟩,hnm⟩,hlb⟩:=hop;unfold S.wpOp at hw;unfold bOp at hs⊢;unfold numE at hn;have fin:∀(v:Int)(k:Nat)(b:Int),S.Go I V (I.adr i) k (V.set (11+(ts.length:Int)) v) b->Q v st (c+k)->S.OutE I V (I.adr i) b c base lk env ts (λ us st' c'=>∃v,us=[v]/\Q v st' c') H:=λ v k b hg hq =>
  .inl ⟨[v],st,c+k,_,by omega,⟨v,rfl,hq⟩,by rw[Y7];exact hg,hV.put hk14 v,λ _ _ _=>rfl⟩
 by_cases c1:op=1
 .rw[if_pos c1] at hw hs hn⊢
  have hn':=of_decide_eq_true hn;have h:=Zv8 cx (V:=V) (r:=[]) (by rw[Ya4];exact hs) hn' (d:=11+ts.length) (by omega) (by omega);exact fin _ 2 _ h hw
 rw[if_neg c1] at hw hs hn⊢;by_cases c2:op=2
 .rw[if_pos c2] at hw hs hn⊢
  have hn':=of_decide_eq_true hn;have h:=Zkd cx (V:=V) hs hsp (by omega) (by omega) (by omega) (by omega);have e:V.mem (base+(1+n))=env.getD n.toNat 0:=by
   have:=hV.fr.env n.toNat (by omega);rw[<- this]
   congr 1
   omega
  rw[e] at h;exact fin _ 1 _ h hw
 rw[if_neg c2] at hw hs hn⊢;by_cases c3:op=3
 .rw[if_pos c3] at hw hs hn⊢
  have hvis:=Zi5 hn;have h:=Zew cx (V:=V) hs (by omega) (by omega) (by omega);rw[hV.mt.vis n hn] at h;exact fin _ 1 _ h hw
 rw[if_neg c3] at hw hs hn⊢;by_cases c4:op=4
 .rw[if_pos c4] at hw hs hn⊢
  have hn':=of_decide_eq_true hn;have hk2:kids=2:=by rw[hkk];unfold kidsE;rw[if_pos (.inl c4)]
  have v0:=hV.val (k:=0) (by omega);have v1:=hV.val (k:=1) (by omega);have e0:V.reg (11+ts.length)=vs.getD 0 0:=by simpa using v0
  have e1:V.reg (12+ts.length)=vs.getD 1 0:=by
   rw[<- v1];congr 1;omega
  have h:=Zr2 cx.ok hs.lo hs.lt (V:=V) hs.head (by omega) (by omega) (by omega) (by omega) (by omega) (λ q=>hw.1 (by rw[<- e1];exact q));rw[e0,e1] at h;exact fin _ 1 _ h hw.2
 rw[if_neg c4] at hw hs hn⊢;by_cases c5:op=5
 .rw[if_pos c5] at hw hs hn⊢
  have hk1:kids=1:=by rw[hkk];unfold kidsE;rw[if_neg (by omega),if_pos c5]
  have v0:=hV.val (k:=0) (by omega);have e0:V.reg (11+ts.length)=vs.getD 0 0:=by simpa using v0
  obtain⟨w1,w2,w3⟩:=hw;have h:=Zym cx.ok hs.lo hs.lt (V:=V) hs.head (p:=S.u32m (vs.getD 0 0+n)) (by omega) (by omega) (by omega) (by rw[e0]) w1;rw[hV.mt.mem _ (Zab _).1 w1 w2] at h;exact fin _ 1 _ h w3
 rw[if_neg c5] at hw hs hn⊢;by_cases c6:op=6
 .rw[if_pos c6] at hw hs⊢
  have hkid:kids<=4:=by rw[hkk];unfold kidsE;rw[if_neg (by omega),if_neg c5,if_pos c6];omega
  have hlab:labB name=true:=by
   have:namedE op=true:=by unfold namedE;rw[decide_eq_true_eq];exact .inl c6
   rw[this] at hlb
   simpa using hlb
  obtain⟨d,R,hR,hd,hQ⟩:=hw;unfold bCall at hs⊢;obtain⟨V1,g1,r1,m1,k1,i1,o1⟩:=Zly cx hsp ts.length (by omega) hs.left.left.left.left;have hs2:=hs.left.left.left.right;rw[(Zav _ _).1] at hs2;obtain⟨V2,g2,m2,a2,r2,i2,o2⟩:=Zs4 cx (V:=V1) kids hkid (by omega) hs2;have hs3:=hs.left.left.right;rw[Yc,(Zav _ _).1,(Zav (L+15) L).2.2] at hs3;have hs3h:I.xs[i+(ts.length+kids)]?=some ⟨4,⟨0,31,0,0,0⟩,name,0⟩:=by
   have:=hs3.head
   show _=_
   rw[this]
   show some (⟨4,⟨0,31,0,0,0⟩,owned obj name,0⟩:S.Item)=_
   rw[Zev obj hlab]
  have g3:=Zvn cx.ok hs3.lo hs3.lt (V:=V2) hs3h (by decide) (by decide);have hret:0<=I.adr (i+(ts.length+kids)+1)/\I.adr (i+(ts.length+kids)+1)<I.size:=by
   have h1:=Zlg cx.ok (i+(ts.length+kids)+1);have h2:=Zcv cx.ok (i:=i+(ts.length+kids)+1) (j:=I.xs.length) (by have:=hs3.lt;have:=cx.ok.i1l;omega);have h3:=cx.ok.size;omega
  have hmt:S.Mt I (V2.set 31 (I.adr (i+(ts.length+kids)+1))) (st.args vs):=by
   refine(S.Mt.hid (V:=V2) ⟨λ j hj=>?_,λ a a0 a1 ha=>?_,by rw[i2,i1];exact hV.mt.inp,by rw[o2,o1];exact hV.mt.out⟩ (by decide) _)
   .show V2.reg j=if 4<=j/\j<4+(vs.length:Int) then vs.getD (j-4).toNat 0 else st.reg j
    by_cases cj:4<=j/\j<4+(vs.length:Int)
    .rw[if_pos cj]
     have e:=a2 (j-4).toNat (by omega);have e2:=hV.val (k:=(j-4).toNat) (by omega);rw[r1] at e;rw[<- e2,<- e]
     congr 1
     omega
    .rw[if_neg cj,r2 j (by omega),r1]
     exact hV.mt.vis j hj
   .rw[m2,k1 a ?_]
    .exact hV.mt.mem a a0 a1 ha
    .have:=cx.lo
     have:=cx.top;have:=cx.dep0;rcases Int.lt_or_le a (base+1+L) with q|q
     .exact .inl q
     .right
      by_cases q2:a<base+L+15
      .exact absurd ⟨by omega,by omega⟩ ha
      .omega
  have hsp3:(V2.set 31 (I.adr (i+(ts.length+kids)+1))).reg 28=base+L+15:=by
   rw[Zd _ _ (by decide),r2 _ (by omega),r1];exact hsp
  obtain⟨o,k,hRo,hD⟩:=hR _ (base+L+15) _ hmt hsp3 (Zh _ _ _) hret.1 hret.2 (by have:=cx.lo;omega) (by have:=cx.top;omega);have hQo:=hQ _ o k hRo;have g0:S.Go I V (I.adr i) (ts.length+kids+3) (V2.set 31 (I.adr (i+(ts.length+kids)+1))) (I.lab name):=(g1.trans (by rw[Ybm] at g2;exact g2)).trans g3
  cases o with
  | left tq st2=>exact absurd hQo id
  | halt code st2 =>
   obtain⟨V4,g4,mt4⟩:=hD;refine .inr ⟨code,st2,_,V4,?_,hQo,?_,mt4⟩
   .omega
   .refine(g0.halt g4).more ?_
    rw[hvs];omega
  | ret st2 =>
   obtain⟨V4,g4,mt4,sp4,kp4⟩:=hD;have g4':S.Go I (V2.set 31 (I.adr (i+(ts.length+kids)+1))) (I.lab name) k V4 (I.adr (i+(ts.length+kids)+1)):=g4;have hs5:=hs.left.right;rw[Yc,Yc,(Zav _ _).1,(Zav (L+15) L).2.2] at hs5;have e5:i+(ts.length+kids+[bJ 31 name].length)=i+(ts.length+kids)+1:=rfl;rw[e5] at hs5;obtain⟨V5,g5,m5,a5,r5,i5,o5⟩:=Zol cx (V:=V4) sp4 ts.length (by omega) hs5;have hs6:=hs.right;rw[Yc,Yc,Yc,(Zav _ _).1,(Zav (L+15) L).2.2,(Zav (L+15) L).2.1] at hs6;have e6:i+(ts.length+kids+[bJ 31 name].length+ts.length)=i+(ts.length+kids)+1+ts.length:=by simp;omega
   rw[e6] at hs6;have g6:=Zew cx (V:=V5) hs6 (by omega) (by omega) (by decide);have hv:V5.reg 4=st2.reg 4:=by rw[r5 4 (by omega)];exact mt4.vis 4 (by decide)
   rw[hv] at g6;have hml:∀a,I.lo<=a->a<base+L+15->V5.mem a=V1.mem a:=λ a a0 a1=>by
    rw[m5,kp4 a a0 a1]
    show V2.mem a=_
    rw[m2]
   have hlo:=cx.lo;have hFm:S.Fm I V5 st2 base lk env (ts++[]):=by
    refine⟨⟨λ j hj=>?_,λ a a0 a1 ha=>by rw[m5];exact mt4.mem a a0 a1 ha,by rw[i5];exact mt4.inp,by rw[o5];exact mt4.out⟩,?_,?_,?_,?_⟩
    .have:=Zi5 hj
     rw[r5 j (by omega)];exact mt4.vis j hj
    .rw[r5 28 (by omega),sp4,hL]
    .rw[hml base hlo (by omega),k1 base (by omega)];exact hV.fr.lk
    .intro k2 hk2
     rw[hml _ (by omega) (by omega),k1 _ (by omega)];exact hV.fr.env k2 hk2
    .intro k2 hk2
     rw[Ya4] at hk2⊢;rw[a5 k2 hk2,<- m5,hml _ (by omega) (by omega),m1 k2 hk2,hV.fr.ts k2 (by simp;omega),Zcy ts vs k2 hk2]
   refine .inl ⟨[st2.reg 4],st2,_,_,?_,⟨_,rfl,hQo⟩,?_,hFm.put hk14 _,λ a a0 a1=>?_⟩
   .omega
   .have gg:=((g0.trans g4').trans g5).trans g6
    have el:i+(bStores (L+15) L ts.length++bArgs ts.length kids++[bJ 31 name]++bLoads (L+15) L ts.length++[bMove (11+↑ts.length) 4]).length=i+(ts.length+kids)+1+ts.length+1:=by
     simp only[Yc,(Zav (L+15) L).1,(Zav (L+15) L).2.1,(Zav (L+15) L).2.2,Yk,Yae];omega
    rw[el];refine gg.more ?_;rw[hvs];omega
   .show V5.mem a=V.mem a
    rw[hml a a0 (by omega),k1 a (by omega)]
 rw[if_neg c6] at hw hs⊢;by_cases c7:op=7
 .rw[if_pos c7] at hw hs⊢
  have hk2:kids=2:=by rw[hkk];unfold kidsE;rw[if_pos (.inr c7)]
  have v0:=hV.val (k:=0) (by omega);have v1:=hV.val (k:=1) (by omega);have e0:V.reg (11+ts.length)=vs.getD 0 0:=by simpa using v0
  have e1:V.reg (12+ts.length)=vs.getD 1 0:=by
   rw[<- v1];congr 1;omega
  obtain⟨v,hv⟩:∃v:Int,v=if vs.getD 0 0=vs.getD 1 0 then 1 else 0:=⟨_,rfl⟩
  have g:S.Go I V (I.adr i) 3 ((V.set (11+ts.length) v).set (11+(ts.length+1:Nat)) 1) (I.adr (i+3)):=Zvm λ m hm=>by
   have b0:=hm.rbd (j:=11+ts.length) (by omega) (by omega) (by omega);have b1:=hm.rbd (j:=12+ts.length) (by omega) (by omega) (by omega);have hs1:=hs.left.left;have g1:=Zr2 cx.ok hs1.lo hs1.lt (V:=V) hs1.head (by decide) (by omega) (by omega) (by omega) (by omega) (λ _=>by decide);have hs2:=hs.left.right;have g2:=Zc6 cx.ok hs2.lo hs2.lt (V:=V.set (11+ts.length) (S.alu 9 (V.reg (11+ts.length)) (V.reg (12+ts.length)))) (d:=12+ts.length) (a:=0) (n:=1) hs2.head (by omega) (by omega) (by decide);have ez:S.u32m ((V.set (11+ts.length) (S.alu 9 (V.reg (11+ts.length)) (V.reg (12+ts.length)))).reg 0+1)=1:=by
    rw[Zd _ _ (by omega),hm.zero];decide
   rw[ez] at g2;have hs3:=hs.right;have g3:=Zr2 cx.ok hs3.lo hs3.lt (V:=(V.set (11+ts.length) (S.alu 9 (V.reg (11+ts.length)) (V.reg (12+ts.length)))).set (12+ts.length) 1) hs3.head (by decide) (by omega) (by omega) (by omega) (by omega) (λ _=>by decide);have ev:S.alu 14 (((V.set (11+ts.length) (S.alu 9 (V.reg (11+ts.length)) (V.reg (12+ts.length)))).set (12+ts.length) 1).reg (11+ts.length)) (((V.set (11+ts.length) (S.alu 9 (V.reg (11+ts.length)) (V.reg (12+ts.length)))).set (12+ts.length) 1).reg (12+ts.length))=v:=by
    rw[Zh,Zd _ _ (by omega),Zh,e0,e1,hv];rw[e0] at b0;rw[e1] at b1
    show truth (bits .xor .u32 (vs.getD 0 0) (vs.getD 1 0)<1)=_
    rw[u32_xor b0.1 b0.2 b1.1 b1.2];unfold truth;by_cases ce:vs.getD 0 0=vs.getD 1 0
    .rw[if_pos ce,ce,if_pos (by simp)]
    .rw[if_neg ce,if_neg]
     intro q;have q0:(vs.getD 0 0).toNat ^^^ (vs.getD 1 0).toNat=0:=by omega
     have q1:(vs.getD 0 0).toNat=(vs.getD 1 0).toNat:=by
      have:=congrArg (· ^^^ (vs.getD 1 0).toNat) q0
      simpa[Nat.xor_assoc] using this
     omega
   rw[ev] at g3;refine((g1.trans g2).trans g3).ext (λ j _ _ _=>?_) (λ _ _ _=>rfl) rfl rfl;by_cases j1:j=11+(ts.length:Int)
   .subst j1
    rw[Zh,Zd _ _ (by omega),Zh]
   .rw[Zd _ _ j1]
    by_cases j2:j=11+((ts.length+1:Nat):Int)
    .have e12:j=12+(ts.length:Int):=by omega
     rw[j2,Zh,<- j2,e12,Zh]
    .rw[Zd _ _ (by omega),Zd _ _ j1,Zd _ _ j2,Zd _ _ j1]
  refine .inl ⟨[v],st,c+3,_,by omega,⟨v,rfl,by rw[hv];exact hw⟩,by rw[Y7];exact g,(hV.put hk14 v).over (by omega) (by simp) 1,λ _ _ _=>rfl⟩
 rw[if_neg c7] at hw hs⊢;by_cases c8:op=8
 .rw[if_pos c8] at hw hs⊢
  have g:=Z25 cx.ok hs.lo hs.lt (V:=V) hs.head (by omega) (by omega);have hV':S.Fm I { V with inp:=V.inp.tail } { st with inp:=st.inp.tail } base lk env (ts++vs) :=
   ⟨⟨hV.mt.vis,hV.mt.mem,by show V.inp.tail=st.inp.tail;rw[hV.mt.inp],hV.mt.out⟩,hV.sp,⟨hV.fr.lk,hV.fr.env,hV.fr.ts⟩⟩
  obtain⟨v,hv⟩:∃v:Int,v=S.inByte V.inp:=⟨_,rfl⟩
  rw[<- hv] at g;rw[<- hV.mt.inp] at hw hV';rw[<- hv] at hw;exact .inl ⟨[v],_,c+1,_,by omega,⟨v,rfl,hw⟩,by rw[Y7];exact g,hV'.put hk14 v,λ _ _ _=>rfl⟩
 rw[if_neg c8] at hw hs⊢;by_cases c9:op=9
 .rw[if_pos c9] at hw hs⊢
  have hlab:labB name=true:=by
   have:namedE op=true:=by unfold namedE;rw[decide_eq_true_eq];exact .inr c9
   rw[this] at hlb
   simpa using hlb
  have hh:I.xs[i]?=some ⟨5,⟨0,11+ts.length,0,0,0⟩,name,0⟩:=by
   rw[hs.head]
   show some (⟨5,⟨0,11+ts.length,0,0,0⟩,owned obj name,0⟩:S.Item)=_
   rw[Zev obj hlab]
  have g:=Zyo cx.ok hs.lo hs.lt (V:=V) hh (by omega) (by omega) (by omega);exact fin _ 2 _ g hw
 rw[if_neg c9] at hw hs⊢;by_cases c10:op=10
 .rw[if_pos c10] at hw hs⊢
  have h:=Zkd cx (V:=V) hs hsp (by omega) (by omega) (by omega) (by omega);have e:V.mem (base+0)=lk:=by rw[Int.add_zero];exact hV.fr.lk
  rw[e] at h;exact fin _ 1 _ h hw
 rw[if_neg c10] at hw;exact absurd hw id
end
end
section
theorem Zlz {I:S.Img}{V:S.Vw}{a b d:Int}{c:Nat}{base lk:Int}{env ts:List Int}{Q Q2:List Int->S.Vw->Nat->Prop}{H:Int->S.Vw->Nat->Prop}(h:S.OutE I V a b c base lk env ts Q H)
 (k:∀vs st' c' V',c<=c'->Q vs st' c'->S.Fm I V' st' base lk env (ts++vs)->S.OutE I V' b d c' base lk env ts Q2 H):S.OutE I V a d c base lk env ts Q2 H:=by
 rcases h with⟨vs,st1,c1,V1,hc,hq,hg,hf,hk⟩|⟨code,st1,c1,V1,hc,hq,hg,hm⟩
 .rcases k vs st1 c1 V1 hc hq hf with⟨us,st2,c2,V2,hc2,hq2,hg2,hf2,hk2⟩|⟨code,st2,c2,V2,hc2,hq2,hg2,hm2⟩
  .exact .inl ⟨us,st2,c2,V2,by omega,hq2,(hg.trans hg2).more (by omega),hf2,hk.trans hk2⟩
  .exact .inr ⟨code,st2,c2,V2,by omega,hq2,(hg.halt hg2).more (by omega),hm2⟩
 .exact .inr ⟨code,st1,c1,V1,hc,hq,hg,hm⟩
theorem Zpw {I:S.Img}{V:S.Vw}{a b:Int}{c:Nat}{base lk:Int}{env ts:List Int}{v:Int}{Q:List Int->S.Vw->Nat->Prop}{H:Int->S.Vw->Nat->Prop}(h:S.OutE I V a b c base lk env (ts++[v]) Q H) :
 S.OutE I V a b c base lk env ts (λ us st' c'=>∃vs,us=v::vs/\Q vs st' c') H:=by
 rcases h with⟨vs,st1,c1,V1,hc,hq,hg,hf,hk⟩|h
 .exact .inl ⟨v::vs,st1,c1,V1,hc,⟨vs,rfl,hq⟩,hg,by rw[List.append_assoc] at hf;exact hf,hk⟩
 .exact .inr h
theorem Zs5 {I:S.Img}{V:S.Vw}{a b:Int}{c:Nat}{base lk:Int}{env ts:List Int}{Q Q2:List Int->S.Vw->Nat->Prop}{H:Int->S.Vw->Nat->Prop}(h:S.OutE I V a b c base lk env ts Q H)(k:∀vs st' c',Q vs st' c'->Q2 vs st' c') :
 S.OutE I V a b c base lk env ts Q2 H:=by
 rcases h with⟨vs,st1,c1,V1,hc,hq,hg,hf,hk⟩|h
 .exact .inl ⟨vs,st1,c1,V1,hc,k _ _ _ hq,hg,hf,hk⟩
 .exact .inr h
theorem Zke:∀(r:List S.BE)(j:Nat),r≠[]->j+r.length<=needEs r j
 | [],_,h=>absurd rfl h
 | [e],j,_=>by simp only[needEs,Yk,Yae];omega
 | e::f::r,j,_=>by
  have h:=Zke (f::r) (j+1) (by simp);rw[needEs];simp only[Yk] at h⊢;omega
section
variable {I:S.Img}{L dep lk base:Int}(cx:S.Cx I L dep lk base){obj:ByteArray}
include cx
mutual
theorem Zyw {env:List Int}(hL:(env.length:Int)=L):∀(e:S.BE)(ts:List Int)(V st:S.Vw)(i c:Nat)(Q:Int->S.Vw->Nat->Prop)(H:Int->S.Vw->Nat->Prop),formedE L e=true->ts.length+max 1 (needE e)<=14->S.wpE I dep lk env e ts.length st c Q H ->
 S.Seg I obj i (bExpr (L+15) L e ts.length)->S.Fm I V st base lk env ts->S.OutE I V (I.adr i) (I.adr (i+(bExpr (L+15) L e ts.length).length)) c base lk env ts (λ us st' c'=>∃v,us=[v]/\Q v st' c') H
 | .mk op n name kids,ts,V,st,i,c,Q,H,hf,hn,hw,hs,hV=>by
  rw[formedE] at hf;rw[needE] at hn;rw[S.wpE] at hw;rw[bExpr] at hs⊢;simp only[Yq] at hf;have h1:=Zex hL kids 0 ts.length ts V st i c _ H hf.2 (by omega) (by omega) hw hs.left hV;refine Zlz h1 λ vs st1 c1 V1 hc hq hF=>?_
  have hk:kids.length<=max 1 (needEs kids 0):=by
   by_cases he:kids=[]
   .subst he;simp
   .have:=Zke kids 0 he;omega
  have h2:=Zv9 cx (obj:=obj) hL hf.1 (by omega) hq.1 hq.2 hs.right hF;rw[Yc,<- Ybm];exact h2
theorem Zex {env:List Int}(hL:(env.length:Int)=L):∀(r:List S.BE)(j a0:Nat)(ts:List Int)(V st:S.Vw)(i c:Nat)(Q:List Int->S.Vw->Nat->Prop)(H:Int->S.Vw->Nat->Prop),formedEs L r=true->ts.length=a0+j->a0+needEs r j<=14->S.wpEs I dep lk env r ts.length st c Q H ->
 S.Seg I obj i (bExprs (L+15) L r ts.length)->S.Fm I V st base lk env ts->S.OutE I V (I.adr i) (I.adr (i+(bExprs (L+15) L r ts.length).length)) c base lk env ts (λ us st' c'=>us.length=r.length/\Q us st' c') H
 | [],j,a0,ts,V,st,i,c,Q,H,hf,ht,hn,hw,hs,hV=>by
  rw[S.wpEs] at hw;exact .inl ⟨[],st,c,V,Yd _,⟨rfl,hw⟩,by rw[Nat.sub_self];exact Zcq _ _ _,by rw[Ya4];exact hV,λ _ _ _=>rfl⟩
 | e::r,j,a0,ts,V,st,i,c,Q,H,hf,ht,hn,hw,hs,hV=>by
  rw[formedEs] at hf;rw[needEs] at hn;rw[S.wpEs] at hw;rw[bExprs] at hs⊢;simp only[Yq] at hf;have h1:=Zyw hL e ts V st i c _ H hf.1 (by omega) hw hs.left hV;refine Zlz h1 λ vs st1 c1 V1 hc hq hF=>?_
  obtain⟨v,rfl,hq⟩:=hq;have el:(ts++[v]).length=ts.length+1:=by simp
  have h2:=Zex hL r (j+1) a0 (ts++[v]) V1 st1 (i+(bExpr (L+15) L e ts.length).length) c1 (λ vs st2 c2=>Q (v::vs) st2 c2) H hf.2 (by simp;omega) (by omega) (by rw[el];exact hq) (by rw[el];exact hs.right) hF;rw[Yc,<- Ybm];rw[el] at h2;refine Zs5 (Zpw h2) λ us st' c' hu=>?_
  obtain⟨vs,rfl,h3,h4⟩:=hu;exact⟨by simp[h3],h4⟩
end
end
end
section
namespace S
def OutS (I:Img)(V:Vw)(a b:Int)(c:Nat)(L base lk:Int)(behind:Bool)(Q:List Int->Vw->Nat->Prop)(R:BO->Nat->Prop):Prop :=
 (∃env st' c' V',c<=c'/\Q env st' c'/\(env.length:Int)=L/\Go I V a (c'-c) V' b/\Fm I V' st' base lk env []/\Kp I base V V') \/
 (∃o c',c<=c'/\R o c'/\Done I V a (c'-c) base lk behind o)
end S
theorem Zap {I:S.Img}{V V1:S.Vw}{a b:Int}{n k m:Nat}{base lk:Int}{behind:Bool}{o:S.BO}(hg:S.Go I V a n V1 b)(hk:S.Kp I base V V1)(h:S.Done I V1 b k base lk behind o)(hm:n+k<=m):S.Done I V a m base lk behind o:=by
 cases o with
 | ret st=>obtain⟨V2,g,h1,h2,h3⟩:=h;exact⟨V2,(hg.trans g).more hm,h1,h2,hk.trans h3⟩
 | halt code st=>obtain⟨V2,g,h1⟩:=h;exact⟨V2,(hg.halt g).more hm,h1⟩
 | left tq st=>obtain⟨V2,g,h1,h2,h3⟩:=h;exact⟨V2,(hg.trans g).more hm,h1,h2,hk.trans h3⟩
theorem Za0 {I:S.Img}{V V1:S.Vw}{a a1 b:Int}{c c1:Nat}{L base lk:Int}{behind:Bool}{Q:List Int->S.Vw->Nat->Prop}{R:S.BO->Nat->Prop}(hc:c<=c1)(hg:S.Go I V a (c1-c) V1 a1)(hk:S.Kp I base V V1)
 (h:S.OutS I V1 a1 b c1 L base lk behind Q R):S.OutS I V a b c L base lk behind Q R:=by
 rcases h with⟨env,st,c2,V2,h1,h2,h3,h4,h5,h6⟩|⟨o,c2,h1,h2,h3⟩
 .exact .inl ⟨env,st,c2,V2,by omega,h2,h3,(hg.trans h4).more (by omega),h5,hk.trans h6⟩
 .exact .inr ⟨o,c2,by omega,h2,Zap hg hk h3 (by omega)⟩
theorem Zey {I:S.Img}{V:S.Vw}{a b d:Int}{c:Nat}{L base lk:Int}{behind:Bool}{Q Q2:List Int->S.Vw->Nat->Prop}{R:S.BO->Nat->Prop}(h:S.OutS I V a b c L base lk behind Q R)
 (k:∀env st' c' V',c<=c'->Q env st' c'->(env.length:Int)=L->S.Fm I V' st' base lk env []->S.OutS I V' b d c' L base lk behind Q2 R):S.OutS I V a d c L base lk behind Q2 R:=by
 rcases h with⟨env,st,c2,V2,h1,h2,h3,h4,h5,h6⟩|h
 .exact Za0 h1 h4 h6 (k env st c2 V2 h1 h2 h3 h5)
 .exact .inr h
theorem Znj {I:S.Img}{V:S.Vw}{a b d:Int}{c:Nat}{L base lk:Int}{behind:Bool}{env:List Int}{Q1:List Int->S.Vw->Nat->Prop}{Q2:List Int->S.Vw->Nat->Prop}{R:S.BO->Nat->Prop}(h:S.OutE I V a b c base lk env [] Q1 (λ code st c=>R (.halt code st) c))
 (k:∀vs st' c' V',c<=c'->Q1 vs st' c'->S.Fm I V' st' base lk env vs->S.OutS I V' b d c' L base lk behind Q2 R):S.OutS I V a d c L base lk behind Q2 R:=by
 rcases h with⟨vs,st,c2,V2,h1,h2,h4,h5,h6⟩|⟨code,st,c2,V2,h1,h2,h3,h4⟩
 .exact Za0 h1 h4 h6 (k vs st c2 V2 h1 h2 h5)
 .exact .inr ⟨.halt code st,c2,h1,h2,V2,h3,h4⟩
theorem S.Fm.drop {I:S.Img}{V st:S.Vw}{base lk:Int}{env vs:List Int}(h:S.Fm I V st base lk env vs):S.Fm I V st base lk env [] :=
 ⟨h.mt,h.sp,h.fr.lk,h.fr.env,λ k hk=>by simp at hk⟩
theorem S.Fm.val0 {I:S.Img}{V st:S.Vw}{base lk:Int}{env vs:List Int}(h:S.Fm I V st base lk env vs)(hk:0<vs.length):V.reg 11=vs.getD 0 0:=by
 have:=h.fr.ts 0 hk
 simpa using this
theorem S.Fm.val1 {I:S.Img}{V st:S.Vw}{base lk:Int}{env vs:List Int}(h:S.Fm I V st base lk env vs)(hk:1<vs.length):V.reg 12=vs.getD 1 0:=h.fr.ts 1 hk
theorem Zkf (l:List Int)(i k:Nat)(v:Int)(hk:k<l.length):(l.set i v).getD k 0=if k=i then v else l.getD k 0:=by
 by_cases c:k=i
 .subst c;rw[if_pos rfl];simp[hk]
 .rw[if_neg c]
  have:¬i=k:=λ e=>c e.symm
  simp[this]
section
variable {I:S.Img}{L dep lk base:Int}(cx:S.Cx I L dep lk base){obj:ByteArray}
include cx
theorem Zi6 {i:Nat}{s:ByteArray}{r:List S.Item}(hs:S.Seg I obj i (bL s::r)):I.lab (owned obj s)=I.adr i:=by
 have h:=Zg7 cx.ok (x:=S.ownItem obj (bL s)) hs.head rfl;unfold S.Img.lab;have e:stands I.xs (owned obj s)=i:=h;rw[e];rfl
theorem Znk {V st:S.Vw}{env ts:List Int}{i:Nat}{behind:Bool}{r:List S.Item}(hL:(env.length:Int)=L)(hs:S.Seg I obj i (bBack (L+15) behind++r))(hV:S.Fm I V st base lk env ts) :
 S.Done I V (I.adr i) (if behind=true then 5 else 3) base lk behind (.ret st):=by
 have hsp:V.reg 28=base+L+15:=by rw[<- hL];exact hV.sp
 have h0:=cx.ok.lo0;have h1:=cx.lo;have h2:=cx.ok.hisz;have h3:=cx.top;have h4:=cx.dep0;have h5:=cx.L0;have h6:=cx.ok.size2;unfold bBack at hs;have g1:=Zc6 cx.ok hs.lo (by have:=hs.lt;exact this) (V:=V) (i:=i) (d:=28) (a:=28) (n:=-(L+15)) hs.head (by decide) (by decide) (by decide);have e1:S.u32m (V.reg 28+-(L+15))=base:=by rw[hsp];unfold S.u32m;omega
 rw[e1] at g1;have hs2:=hs.tail;have g2:=Zym cx.ok hs2.lo hs2.lt (V:=V.set 28 base) (d:=31) (a:=28) (n:=0) (p:=base) hs2.head (by decide) (by decide) (by decide) (by rw[Zh];unfold S.u32m;omega) (by omega);have e2:(V.set 28 base).mem base=lk:=hV.fr.lk;rw[e2] at g2;have hs3:=hs2.tail;have hmt:S.Mt I ((V.set 28 base).set 31 lk) st:=(hV.mt.hid (by decide) _).hid (by decide) _;have hsp2:((V.set 28 base).set 31 lk).reg 28=base:=by rw[Zd _ _ (by decide),Zh]
 cases behind with
 | false =>
  have g3:=Zm5 cx.ok hs3.lo hs3.lt (V:=(V.set 28 base).set 31 lk) (a:=31) (n:=0) hs3.head (by decide);have e3:S.u32m (((V.set 28 base).set 31 lk).reg 31+0)=lk:=by rw[Zh];have:=cx.lk0;have:=cx.lk1;unfold S.u32m;omega
  rw[e3] at g3;exact⟨_,(g1.trans g2).trans g3,hmt,hsp2,λ _ _ _=>rfl⟩
 | true =>
  have hs4:=hs3.tail;have hs5:=hs4.tail;have g3:S.Go I ((V.set 28 base).set 31 lk) (I.adr (i+1+1)) 2 (((V.set 28 base).set 31 lk).set 31 (S.u32m (lk+V.mem lk))) (I.adr (i+1+1+1+1)):=λ m hm=>by
   have hh3:I.xs[i+1+1]?=some ⟨1,⟨24,25,31,0,0⟩,⟨#[]⟩,0⟩:=hs3.head;have hh4:I.xs[i+1+1+1]?=some ⟨1,⟨1,31,31,25,0⟩,⟨#[]⟩,0⟩:=hs4.head;obtain⟨w3,q3,n3⟩:=Zx cx.ok hs3.lo hs3.lt hh3;obtain⟨w4,q4,n4⟩:=Zx cx.ok hs4.lo hs4.lt hh4;have r31:m.rd 31=lk:=by rw[hm.reg 31 (by decide) (by decide) (by decide),Zh]
   have hk0:=cx.lk0;have hk1:=cx.lk1;have hmv:m.mem.getD lk.toNat 0=V.mem lk:=hm.mem lk hk0 hk1;have ea:S.u32m (lk+S.u32m 0)=lk:=by unfold S.u32m;omega
   have hlen:=hm.len;have a1:m.act ⟨24,25,31,0,0⟩=(m.put 25 (V.mem lk),S.u32m (m.place+1),0):=by
    unfold Mach.act;simp only[r31,ea];rw[if_neg (by decide),if_neg (by decide),if_neg (by decide),if_pos trivial,if_pos (by omega),hmv]
   obtain⟨s1,p1⟩:=Zr cx.ok hm hs3.lo hs3.lt (j:=0) (by rw[w3];rfl) (by simp) q3 (by rw[a1]);obtain⟨k1,r25⟩:=Zj5 cx.ok hm s1 (show(0:Int)<=25 by decide) a1;rw[p1] at k1;have r31':m.step.rd 31=lk:=by rw[k1.reg 31 (by decide) (by decide) (by decide),Zh]
   have a2:m.step.act ⟨1,31,31,25,0⟩=(m.step.put 31 (S.u32m (lk+V.mem lk)),S.u32m (m.step.place+1),0):=by
    unfold Mach.act;simp only[r31',r25];rw[if_pos (by decide),if_neg (by simp)];rfl
   have k1':On I m.step ((V.set 28 base).set 31 lk) (I.adr (i+1+1+1)):=by rw[n3];simpa using k1
   obtain⟨s2,p2⟩:=Zr cx.ok k1' hs4.lo hs4.lt (j:=0) (by rw[w4];rfl) (by simp) q4 (by rw[a2]);have k2:=Zg8 cx.ok k1' (by decide) (by decide) s2 (show(0:Int)<=31 by decide) a2;rw[p2] at k2;refine⟨2,Yd _,?_⟩;have e2:m.steps_ 2=m.step.step:=rfl;rw[n4,e2]
   simpa using k2
  have g4:=Zm5 cx.ok hs5.lo hs5.lt (V:=((V.set 28 base).set 31 lk).set 31 (S.u32m (lk+V.mem lk))) (a:=31) (n:=1) hs5.head (by decide);rw[Zh] at g4;have gg:S.Go I V (I.adr i) 5 (((V.set 28 base).set 31 lk).set 31 (S.u32m (lk+V.mem lk))) (S.u32m (S.u32m (lk+V.mem lk)+1)):=((g1.trans g2).trans g3).trans g4;exact⟨_,gg,hmt.hid (by decide) _,by rw[Zd _ _ (by decide)];exact hsp2,λ _ _ _=>rfl⟩
theorem Zs6 {env:List Int}:∀(regs vs:List Int)(j i:Nat)(V st:S.Vw)(r:List S.Item),(∀n∈regs,S.visB n=true)->vs.length=regs.length->j+regs.length<=14->(∀k,k<vs.length->V.reg (11+j+k)=vs.getD k 0)->S.Seg I obj i (bRegs regs j++r) ->
 S.Fm I V st base lk env []->∃V',S.Go I V (I.adr i) regs.length V' (I.adr (i+regs.length))/\S.Fm I V' (st.regs regs vs) base lk env []/\V'.mem=V.mem
 | [],vs,j,i,V,st,r,_,hl,_,_,_,hV=>by
  cases vs with
  | nil=>exact⟨V,Zcq _ _ _,hV,rfl⟩
  | cons v vs=>simp at hl
 | n::regs,[],j,i,V,st,r,_,hl,_,_,_,hV=>by simp at hl
 | n::regs,v::vs,j,i,V,st,r,hv,hl,hj,hr,hs,hV=>by
  have hn:=hv n (by simp);have hh:=Zi5 hn;simp only[Yk] at hl hj;have g:=Zew cx (V:=V) hs (by omega) (by omega) (by omega);have e:V.reg (11+(j:Int))=v:=by have:=hr 0 (by simp);simpa using this
  rw[e] at g;have hF:S.Fm I (V.set n v) (st.set n v) base lk env []:=by
   refine⟨⟨λ k hk=>?_,hV.mt.mem,hV.mt.inp,hV.mt.out⟩,by rw[Zd _ _ (by omega)];exact hV.sp,hV.fr.lk,hV.fr.env,λ k hk=>by simp at hk⟩
   show(if k=n then v else V.reg k)=if k=n then v else st.reg k
   split
   .rfl
   .exact hV.mt.vis k hk
  obtain⟨V',g',hF',hm'⟩:=Zs6 regs vs (j+1) (i+1) (V.set n v) (st.set n v) r (λ m hm=>hv m (Y5 _ hm)) (by omega) (by omega) (λ k hk=>by
   rw[Zd _ _ (by omega)];have:=hr (k+1) (by simp;omega);simp only[List.getD_cons_succ] at this;rw[<- this]
   congr 1
   omega) hs.tail hF
  refine⟨V',?_,hF',hm'⟩;have el:i+(n::regs).length=i+1+regs.length:=by simp;omega
  rw[el];exact(g.trans g').more (by simp;omega)
end
theorem Zi7:∀{l:List Int},risingB l=true->∀n∈l,S.visB n=true
 | [],_,n,hn=>by cases hn
 | [a],h,n,hn=>by rw[Yaf] at hn;subst hn;exact h
 | a::b::r,h,n,hn=>by
  rw[risingB] at h;simp only[Yq] at h;rcases List.mem_cons.1 hn with rfl|hn
  .exact h.1.1
  .exact Zi7 h.2 n hn
end
theorem Zpx {w:World}{B b g n:Nat}{vs:List Value}{cs:Array Value}{L C:Nat}(h:w.ownsRow B 3 1 (.slice (some ⟨b,0,none⟩) L C) n vs)(hg:w.heap[g]?=some (.cells cs 214 (0,0))):g≠b:=by
 rintro rfl;rcases h.2 with⟨he,_⟩|⟨g',cap,cur,he,_,hk,_⟩
 .cases he
 .cases he
  rw[hg] at hk
  injection hk with hk
  injection hk with _ ht
  exact absurd ht (by decide)
theorem Zfh {w:World}{B b m k n:Nat}{vs:List Value}{f:ByteArray->Option Int}{L C:Nat}(h:w.ownsRow B 3 1 (.slice (some ⟨b,0,none⟩) L C) n vs)(hm:MapS w m k f):m≠b:=by
 rintro rfl;obtain⟨D,⟨es,clock,hm,_⟩,_⟩:=hm;rcases h.2 with⟨he,_⟩|⟨g',cap,cur,he,_,hg,_⟩
 .cases he
 .cases he
  rw[hm] at hg
  cases hg
theorem Work.placed {w w':World}{B g gF gA m n:Nat}{A:Option Addr}{c:Nat}{xs:List S.Item}{base:Int}{F T:List Int}{f:ByteArray->Option Int}(h:Work w B g gF gA m n A c xs base F T f)(k:Nat)(v:Int)
 (hw:w'=w.setCell ⟨gA,k,none⟩ (.int .i64 v)):Work w' B g gF gA m n A c xs base F (T.set k v) f/\Below B w w':=by
 subst hw;have hb:Below B w (w.setCell ⟨gA,k,none⟩ (.int .i64 v)):=(Yj _ _).setCell h.hA _;have hs:=h.ats.stored k (.int .i64 v);have hgA:=Zpx h.ats h.blk;have hmA:some m≠some gA:=by
  intro he;exact Zfh h.ats h.labels (Option.some.inj he)
 refine⟨⟨?_,h.forms.kept hs.2 (.inr ?_),?_,h.labels.kept hs.2 hmA,h.hg,h.hF,h.hA,h.hm,h.ne1⟩,hb⟩
 .rw[hs.2.block g (Zft h.blk) (by simpa using hgA)];exact h.blk
 .simp[Yaj];exact h.ne1
 .rw[List.map_set];exact hs.1
theorem Work.told {w w':World}{B g gF gA m n n':Nat}{A:Option Addr}{c:Nat}{xs:List S.Item}{base:Int}{F T:List Int}{f f':ByteArray->Option Int}(h:Work w B g gF gA m n A c xs base F T f)
 (hm:MapS w' m n' f') (hg:w.grownBy w' (some m)):Work w' B g gF gA m n' A c xs base F T f'/\Below B w w':=by
 have hgm:g≠m:=by
  rintro rfl;obtain⟨D,⟨es,clock,hm,_⟩,_⟩:=h.labels;rw[h.blk] at hm
  cases hm
 have hFm:=Zfh h.forms h.labels;have hAm:=Zfh h.ats h.labels;refine⟨⟨?_,h.forms.kept hg (.inr ?_),h.ats.kept hg (.inr ?_),hm,h.hg,h.hF,h.hA,h.hm,h.ne1⟩,(Yj _ _).grown hg ?_ ?_⟩
 .rw[hg.block g (Zft h.blk) (by simpa using hgm)];exact h.blk
 .simp[Yaj];exact λ e=>hFm e.symm
 .simp[Yaj];exact λ e=>hAm e.symm
 .exact Nat.le_of_lt (Nat.lt_of_le_of_lt h.hg (Zft h.blk))
 .intro k hk
  cases hk
  exact h.hm
def Zs7 (w:World)(B g gF gA m n:Nat)(A:Option Addr)(c:Nat)(xs:List S.Item)(base:Int)(F:List Int)(e:Ending)(w':World):Prop :=
 Below B w w'/\((e=.returned (.bool true)/\addr xs F base xs.length<=most26/\Work w' B g gF gA m n A c xs base F (Zek xs F base (xs.length+1)) (Zd4 xs)) \/
  (e=.returned (.bool false)/\most26<addr xs F base xs.length))
theorem Zpy {w w':World}{m b:Nat}(hg:w.grownBy w' (some m))(hlt:b<w.heap.size)(hne:b≠m)(j:Nat):w'.cell? ⟨b,j,none⟩=w.cell? ⟨b,j,none⟩:=by
 simp only[World.cell?,hg.block b hlt (by simpa using hne)]
theorem Z32 {n:Int}(h:-9223372036854775808<=n/\n<=9223372036854775807):(Lit.int .i64 n).wf=true:=by
 simp[Lit.wf,IntKind.min,IntKind.max,IntKind.signed,IntKind.bits];omega
theorem Zd6 {ops:Array Oper}{rest:List Oper}{o:Oper}{a:Act}{Q:Exit->Act->World->Prop}{w:World}(hg:o.guard=none)(hd:o.dst=none)(mo x v:Operand)(hop:o.op=Op.mapUpdate 207 mo x v)
 (m n:Nat) (f:ByteArray->Option Int) (hm:a.eval mo=.map (some m)) (h:MapS w m n f) (hn:n<1152921504606846976) (s:ByteArray) (q:Int) (hx:a.eval x=.string s) (hv:a.eval v=.int .i64 q) (hs:s.size<=maxLen) (hq:(Lit.int .i64 q).wf=true)
 (hK:∀w',MapS w' m (if (f s).isSome then n else n+1) (λ t=>if t=s then some q else f t)->w.grownBy w' (some m)->wpList prog ops Q rest a w'):wpList prog ops Q (o::rest) a w:=by
 refine Zes hg mo x v hop m n f hm h hn s q hx hv hs hq ?_;intro w' h1 h2;rw[hd];exact hK w' h1 h2
theorem Zs8 {xs:List S.Item}{x:S.Item}{k:Nat}(hd:stands xs x.label=k):(Zd4 xs x.label).isSome=true/\(λ t=>if t=x.label then some (k:Int) else Zd4 xs t)=Zd4 xs:=by
 have e:Zd4 xs x.label=some (k:Int):=by unfold Zd4;rw[hd,if_neg (by omega)]
 refine⟨by rw[e];rfl,?_⟩
 funext t
 by_cases ht:t=x.label
 .rw[if_pos ht,ht,e]
 .rw[if_neg ht]
theorem Zs9 (w:World){B g gF gA m n:Nat}{A:Option Addr}{c:Nat}{xs:List S.Item}{base:Int}{F T:List Int}(h:Work w B g gF gA m n A c xs base F T (Zd4 xs))(hi:Items w B A xs)(hB:B<=w.heap.size)
 (hok:FormOk xs F) (hl:xs.length<=1048576) (hb0:0<=base) (hb26:base<=67108864) (hw:∀x∈xs,0<=x.word/\x.word<=4294967295)
 (hlab:∀(k:Nat)(x:S.Item),xs[k]?=some x->x.label.size<=maxLen) (hdup:∀(k:Nat)(x:S.Item),xs[k]?=some x->x.kind=2->stands xs x.label=k) (hn:n<=1048576) :
 Calls prog 237 #[.pointer (some ⟨g,0,none⟩)] w (Zs7 w B g gF gA m n A c xs base F):=by
 obtain⟨k0,k1,k2,k3,k4⟩:=h.cells;obtain⟨l1,l2,l3,l4⟩:=h.lts;have Hok:=Ya hok;have Hw:=Ya hw;have Hlab:=Ya hlab;have Hdup:=Ya hdup;clear hok hw hlab hdup;go_enter func237,ntmps237
 go_wp2_with fail
 go_loopw [3,15] (λ p i wr=>∃(k:Nat)(T':List Int),k<=xs.length/\i=.int .i64 k/\p=.int .i64 (addr xs F base k)/\addr xs F base k<=67108864/\Work wr B g gF gA m n A c xs base F T' (Zd4 xs)/\(∀j,j<k->T'.getD j 0=addr xs F base j)/\Below B w wr) (λ _ i _=>xs.length-(intOf i).toNat)
 case atStart =>
  exact⟨0,T,by omega,rfl,rfl,by rw[addr];exact hb26,h,λ j hj=>by omega,Yj _ _⟩
 case round =>
  obtain⟨k,T',hk,rfl,rfl,hpos,hW,hT,hbk⟩:=hrel;clear k0 k1 k2 k3 k4 l1 l2 l3 l4;obtain⟨k0,k1,k2,k3,k4⟩:=hW.cells;obtain⟨l1,l2,l3,l4⟩:=hW.lts;have HT:=Ya hT;clear hT;have hzr:=hbk.size;obtain⟨hbd0,hbd1⟩:=Zbv (base:=base) Hok.out Hw.out k;have hTl:T'.length=xs.length+1:=by have:=hW.ats.1;simpa using this
  have HTl:=Ya hTl;clear hTl;by_cases hlt:k<xs.length
  .obtain⟨b,off,x,rfl,hb,hx,hc0,hc1,hc2,hc3,hc4,hc5,hc6,hc7,hw0,hw1⟩:=(hi.below hbk).at_ hlt
   obtain⟨hsd0,hsd1⟩:=Zgi Hok.out Hw.out k;obtain⟨h3,h4,h5⟩:=Hok.out.2 k x hx;have hsz:S.size x (F.getD k 0)=sizeAt xs F k:=by simp[sizeAt,hx]
   have hls:=Hlab.out k x hx;have hd:x.kind=2->stands xs x.label=k:=Hdup.out k x hx;have Hd:=Ya hd;obtain⟨hcF,hfF⟩:=hW.form hlt;obtain⟨hcA,hfA⟩:=hW.at_ (k:=k) (by omega);have hbr:b<wr.heap.size:=by omega
   have hnext:addr xs F base (k+1)=addr xs F base k+sizeAt xs F k:=rfl;have Hnext:=Ya hnext;have H3:=Ya h3;have H4:=Ya h4;clear hx h3 h4 h5 hd hnext;have hend:addr xs F base (k+1)<=addr xs F base xs.length:=by
    obtain⟨d,hd⟩:∃d,xs.length=k+1+d:=⟨xs.length-(k+1),by omega⟩
    have:=Zgk (base:=base) Hok.out Hw.out (k+1) d;rw[<- hd] at this;exact this
   have Hend:=Ya hend;clear hend;obtain⟨kind,⟨op,d,a,b',imm⟩,lab,wd⟩:=x;simp only at hc0 hc1 hc2 hc3 hc4 hc5 hc6 hc7 hw0 hw1 hls Hd H3 H4;generalize hfk:F.getD k 0=fk at *;have Hfk:=Ya hfk;clear hfk;generalize hak:addr xs F base k=ak at *;have Hak:=Ya hak;clear hak;generalize hse:sizeAt xs F k=se at *;clear hse;have hs0:(wr.setCell ⟨gA,k,none⟩ (.int .i64 ak)).heap.size=wr.heap.size:=by simp[Ybn]
   obtain⟨hWa,hba⟩:=hW.placed k ak rfl;have hbA:Below wr.heap.size (wr.setCell ⟨gA,k,none⟩ (.int .i64 ak)) ((wr.setCell ⟨gA,k,none⟩ (.int .i64 ak)).alloc (.cells #[.int .i64 kind,.int .i64 op,.int .i64 d,.int .i64 a,.int .i64 b',.int .i64 imm,.string lab,.int .u32 wd] 135)):=(Yj _ _).alloc (by rw[hs0];exact Yd _) _;have hW2:=hWa.below (hs0 ▸ hbA);have hb02:Below B wr ((wr.setCell ⟨gA,k,none⟩ (.int .i64 ak)).alloc (.cells #[.int .i64 kind,.int .i64 op,.int .i64 d,.int .i64 a,.int .i64 b',.int .i64 imm,.string lab,.int .u32 wd] 135)):=hba.trans (hbA.mono (by omega));have hX:∀(j:Nat)(v:Value),(#[Ys .i64 kind,.int .i64 op,.int .i64 d,.int .i64 a,.int .i64 b',.int .i64 imm,.string lab,.int .u32 wd])[j]?=some v ->
    ((wr.setCell ⟨gA,k,none⟩ (.int .i64 ak)).alloc (.cells #[.int .i64 kind,.int .i64 op,.int .i64 d,.int .i64 a,.int .i64 b',.int .i64 imm,.string lab,.int .u32 wd] 135)).cell? ⟨wr.heap.size,j,none⟩=some v:=by
    intro j v hv;rw[<- hs0,<- hv];exact Zaa _ _ _ _
   have hX0:=hX 0 (.int .i64 kind) rfl;have hX1:=hX 1 (.int .i64 op) rfl;have hX2:=hX 2 (.int .i64 d) rfl;have hX3:=hX 3 (.int .i64 a) rfl;have hX4:=hX 4 (.int .i64 b') rfl;have hX5:=hX 5 (.int .i64 imm) rfl;have hX6:=hX 6 (.string lab) rfl;have hX7:=hX 7 (.int .u32 wd) rfl;obtain⟨p0,p1,p2,p3,p4⟩:=hW2.cells;obtain⟨q1,q2⟩:=hW2.form hlt;rw[Hfk.out] at q1;obtain⟨r1,r2,r3,r4⟩:=hW2.lts;have r5:wr.heap.size<((wr.setCell ⟨gA,k,none⟩ (.int .i64 ak)).alloc (.cells #[.int .i64 kind,.int .i64 op,.int .i64 d,.int .i64 a,.int .i64 b',.int .i64 imm,.string lab,.int .u32 wd] 135)).heap.size:=by simp[Ybn]
   clear hbA hba hWa hX hs0;have hfin:∀w',Work w' B g gF gA m n (some ⟨b,off,none⟩) c xs base F (T'.set k ak) (Zd4 xs)->ak+se<=67108864->Below B wr w' ->
    ∃(k':Nat)(T':List Int),k'<=xs.length/\Ys .i64 ((k:Int)+1)=.int .i64 k'/\Ys .i64 (ak+se)=.int .i64 (addr xs F base k')/\addr xs F base k'<=67108864 /\
     Work w' B g gF gA m n (some ⟨b,off,none⟩) c xs base F T' (Zd4 xs)/\(∀j,j<k'->T'.getD j 0=addr xs F base j)/\Below B w w':=by
    intro w' h1 h2 h3;have e:=Hnext.out;refine⟨k+1,_,by omega,by simp,by rw[e],by rw[e];exact h2,h1,λ j hj=>?_,hbk.trans h3⟩;by_cases hjk:j=k
    .subst hjk
     rw[Zas (by rw[HTl.out];omega),Hak.out]
    .rw[Z6 (λ e=>hjk e.symm)]
     exact HT.out j (by omega)
   have Hfin:=Ya hfin;clear hfin;have hcall:∀(w2 w3:World),Work w2 B g gF gA m n (some ⟨b,off,none⟩) c xs base F (T'.set k ak) (Zd4 xs)->Ext w2->True:=λ _ _ _ _=>trivial
   clear hcall;have hcall:∀u:World,Calls prog 269 #[.agg #[.int .i64 kind,.int .i64 op,.int .i64 d,.int .i64 a,.int .i64 b',.int .i64 imm,.string lab,.int .u32 wd],.int .i64 fk] u λ e w'=>e=.returned (.int .i64 se)/\Below u.heap.size u w':=by
    intro u;rw[<- hsz];exact Zf2 _ _ _ _ _ _ _ _ _ _ H3.out H4.out hw0 hw1
   clear hsz;by_cases c2:kind=2
   .subst c2
    have hd:=Hd.out rfl;obtain⟨hlF,hlE⟩:=Zs8 (xs:=xs) (x:=⟨2,⟨op,d,a,b',imm⟩,lab,wd⟩) hd;simp only at hlF hlE;go_wp2_with fail
    generalize (wr.setCell ⟨gA,k,none⟩ (.int .i64 ak)).alloc (.cells #[.int .i64 2,.int .i64 op,.int .i64 d,.int .i64 a,.int .i64 b',.int .i64 imm,.string lab,.int .u32 wd] 135)=w2 at *;refine Zm 7 (by kernel_rfl) (by kernel_rfl) ?_;have hE:=Zo w2;simp only[Yaw,Yaz,Ya1,Ybc]
    repeat (first|go_big_quiet_step (fail))
    refine wpQuiet_nil ?_;intro w1 hx1;have hb1:=Zbx hx1;clear hE hx1;have hW1:=hW2.below hb1;have hz1:=hb1.size;have hX:∀(j:Nat),w1.cell? ⟨wr.heap.size,j,none⟩=w2.cell? ⟨wr.heap.size,j,none⟩:=λ j=>hb1.cell (p:=⟨_,j,none⟩) (by show wr.heap.size<w2.heap.size;omega)
    refine Zd6 rfl rfl (.tmp 33) (.tmp 35) (.tmp 36) rfl m n _ rfl hW1.labels (by omega) lab k rfl rfl hls (Z32 (by omega)) ?_;intro w3 hm3 hg3;go_wp2_with fail
    rw[if_pos hlF,hlE] at hm3;obtain⟨hW3,hb3⟩:=hW1.told hm3 hg3;have hb03:Below B wr w3:=(hb02.trans (hb1.mono (by omega))).trans hb3;have hz3:=hg3.size;have hY:∀(j:Nat),w3.cell? ⟨wr.heap.size,j,none⟩=w2.cell? ⟨wr.heap.size,j,none⟩:=λ j=>(Zpy hg3 (by omega) (by omega) j).trans (hX j)
    rw[<- hY] at hX0 hX1 hX2 hX3 hX4 hX5 hX6 hX7;clear p0 p1 p2 p3 p4 q1 q2 hX hY;obtain⟨p0,p1,p2,p3,p4⟩:=hW3.cells;obtain⟨q1,q2⟩:=hW3.form hlt;rw[Hfk.out] at q1;obtain⟨t1,t2,t3,t4⟩:=hW3.lts;have t5:wr.heap.size<w3.heap.size:=by omega
    refine Zp (by kernel_rfl) (by kernel_rfl) ?_;have hE:=Zo w3
    repeat (first
     | go_big_quiet_step ((go_at_call 269;exact Zdz (hcall _))))
    refine wpQuiet_nil ?_;intro w4 hx4;have hb4:=Zbx hx4;clear hE hx4;have hWe:=hW3.below hb4;have hbe:Below B wr w4:=hb03.trans (hb4.mono (by omega));by_cases hbig:ak+se<=67108864
    .go_wp2_with fail
     go_roundw
     case rel=>exact Hfin.out _ hWe hbig hbe
     case measure=>simp[intOf];omega
    .go_wp2_with fail
     go_ret
     exact⟨hbk.trans hbe,.inr ⟨rfl,by have e1:=Hend.out;have e2:=Hnext.out;simp only[most26];omega⟩⟩
   .have c2':=Zbm c2
    go_wp2_with fail
    generalize (wr.setCell ⟨gA,k,none⟩ (.int .i64 ak)).alloc (.cells #[.int .i64 kind,.int .i64 op,.int .i64 d,.int .i64 a,.int .i64 b',.int .i64 imm,.string lab,.int .u32 wd] 135)=w2 at *;refine Zp (by kernel_rfl) (by kernel_rfl) ?_;have hE:=Zo w2
    repeat (first
     | go_big_quiet_step ((go_at_call 269;exact Zdz (hcall _))))
    refine wpQuiet_nil ?_;intro w4 hx4;have hb4:=Zbx hx4;clear hE hx4;have hWe:=hW2.below hb4;have hbe:Below B wr w4:=hb02.trans (hb4.mono (by omega));by_cases hbig:ak+se<=67108864
    .go_wp2_with fail
     go_roundw
     case rel=>exact Hfin.out _ hWe hbig hbe
     case measure=>simp[intOf];omega
    .go_wp2_with fail
     go_ret
     exact⟨hbk.trans hbe,.inr ⟨rfl,by have e1:=Hend.out;have e2:=Hnext.out;simp only[most26];omega⟩⟩
  .have hkl:k=xs.length:=by omega
   subst hkl;have hlast:∀w',Work w' B g gF gA m n A c xs base F (T'.set xs.length (addr xs F base xs.length)) (Zd4 xs)->Work w' B g gF gA m n A c xs base F (Zek xs F base (xs.length+1)) (Zd4 xs):=by
    intro w' h';have e:T'.set xs.length (addr xs F base xs.length)=Zek xs F base (xs.length+1):=by
     refine Zeh (by rw[Ycl,HTl.out,Zfp]) λ j=>?_
     by_cases hj:j<xs.length+1
     .rw[Zbd _ _ _ _ _ hj]
      by_cases hjk:j=xs.length
      .subst hjk
       rw[Zas (by rw[HTl.out];omega)]
      .rw[Z6 (λ e=>hjk e.symm)]
       exact HT.out j (by omega)
     .rw[Yh,Yh,Yce.2 (by rw[Ycl,HTl.out];omega),Yce.2 (by rw[Zfp];omega)]
    rw[e] at h';exact h'
   have Hlast:=Ya hlast;have hpos':addr xs F base xs.length<=most26:=hpos;clear hlast;generalize hak:addr xs F base xs.length=ak at *;have Hak:=Ya hak;clear hak;go_wp2_with fail
   refine Zm 11 (by kernel_rfl) (by kernel_rfl) ?_;have hE:=Zo wr;simp only[Yaw,Yaz,Ya1,Ybc]
   repeat (first|go_big_quiet_step (fail))
   refine wpQuiet_nil ?_;intro w1 hx1;have hb1:=Zbx hx1;clear hE hx1;have hW1:=hW.below hb1;obtain⟨s1,s2⟩:=hW1.at_ (k:=xs.length) (by omega);obtain⟨hW3,hb3⟩:=hW1.placed xs.length ak rfl;go_wp2_with fail
   go_ret
   exact⟨(hbk.trans (hb1.mono (by omega))).trans hb3,.inl ⟨rfl,by rw[Hak.out];exact hpos',Hlast.out _ hW3⟩⟩
structure AsSt (w0:World)(n:Nat)(w:World)(f a m:Option Nat):Prop where
 bel:Below w0.heap.size w0 w
 rowF:∀g,f=some g->w0.heap.size<=g/\w.ownsRow w0.heap.size 3 1 (.slice (some ⟨g,0,none⟩) n n) n (Y1 n (Ys .i64 0))
 rowA:∀g,a=some g->w0.heap.size<=g/\w.ownsRow w0.heap.size 3 1 (.slice (some ⟨g,0,none⟩) (n+1) (n+1)) (n+1) (Y1 (n+1) (Ys .i64 0))
 labs:∀g,m=some g->w0.heap.size<=g/\MapS w g 0 (λ _=>none)
 far:∀g h,f=some g->a=some h->g≠h
theorem AsSt.start (w0 w:World)(n:Nat)(hb:Below w0.heap.size w0 w):AsSt w0 n w none none none :=
 ⟨hb,λ _ h=>(by cases h),λ _ h=>(by cases h),λ _ h=>(by cases h),λ _ _ h=>(by cases h)⟩
theorem AsSt.more {w0 w w':World}{n:Nat}{f a m:Option Nat}(h:AsSt w0 n w f a m)(hb:Below w.heap.size w w'):AsSt w0 n w' f a m :=
 ⟨h.bel.trans (hb.mono h.bel.size),λ g e=>⟨(h.rowF g e).1,Zc (h.rowF g e).2 hb⟩,λ g e=>⟨(h.rowA g e).1,Zc (h.rowA g e).2 hb⟩,λ g e=>⟨(h.labs g e).1,(h.labs g e).2.below hb⟩,h.far⟩
theorem Zl0 (w:World)(B n:Nat)(hB:B<=w.heap.size)(hn:n<=1048577) :
 ∃w',(Instr.makeSlice 54 (.int .i64 n) (.int .i64 n)).run prog w=.ok (.slice (some ⟨w.heap.size,0,none⟩) n n) w' /\
  w'.ownsRow B 3 1 (.slice (some ⟨w.heap.size,0,none⟩) n n) n (Y1 n (Ys .i64 0))/\Below w.heap.size w w':=by
 obtain⟨i,hi,hzz,hsize,hby⟩:=info_parts Zkc;obtain⟨w',hrun,r1,r2⟩:=run_make_full (P:=prog) w B 54 3 i _ 1 underlying54 hi hzz hsize .i64 .i64 n (by rw[hby];omega) (by simp only[maxLen];omega) hB;refine⟨w',hrun,?_,(Yj _ _).grown r2 (Yd _) (by simp)⟩;rw[Nat.mul_one] at r1
 simpa[Value.cells,toList_madeCells_one] using r1
theorem AsSt.makeF {w0 w:World}{n:Nat}{a m:Option Nat}(h:AsSt w0 n w none a m)(hn:n<=1048576) :
 ∃w',(Instr.makeSlice 54 (.int .i64 n) (.int .i64 n)).run prog w=.ok (.slice (some ⟨w.heap.size,0,none⟩) n n) w'/\AsSt w0 n w' (some w.heap.size) a m:=by
 obtain⟨w',hrun,h1,h2⟩:=Zl0 w w0.heap.size n h.bel.size (by omega);have hm:=h.more h2;refine⟨w',hrun,hm.bel,?_,hm.rowA,hm.labs,?_⟩
 .rintro g ⟨⟩
  exact⟨h.bel.size,h1⟩
 .rintro g k ⟨⟩ hk e
  have:=((h.rowA k hk).2.lt k rfl).2;omega
theorem AsSt.makeA {w0 w:World}{n:Nat}{f m:Option Nat}(h:AsSt w0 n w f none m)(hn:n<=1048576) :
 ∃w',(Instr.makeSlice 54 (.int .i64 ((n:Int)+1)) (.int .i64 ((n:Int)+1))).run prog w=.ok (.slice (some ⟨w.heap.size,0,none⟩) (n+1) (n+1)) w'/\AsSt w0 n w' f (some w.heap.size) m:=by
 obtain⟨w',hrun,h1,h2⟩:=Zl0 w w0.heap.size (n+1) h.bel.size (by omega);have hm:=h.more h2;refine⟨w',by simpa using hrun,hm.bel,hm.rowF,?_,hm.labs,?_⟩
 .rintro g ⟨⟩
  exact⟨h.bel.size,h1⟩
 .rintro g k hg ⟨⟩ e
  have:=((h.rowF g hg).2.lt g rfl).2;omega
theorem AsSt.makeM {w0 w:World}{n:Nat}{f a:Option Nat}(h:AsSt w0 n w f a none) :
 ∃w',(Instr.makeMap 207 none).run prog w=.ok (.map (some w.heap.size)) w'/\AsSt w0 n w' f a (some w.heap.size):=by
 have hm:=h.more (w':=w.alloc (.map #[] 0)) ((Yj _ _).alloc (Yd _) _);refine⟨_,rfl,hm.bel,hm.rowF,hm.rowA,?_,hm.far⟩;rintro g ⟨⟩;exact⟨h.bel.size,MapS.made w⟩
theorem AsSt.work {w0 w:World}{A:Option Addr}{c:Nat}{xs:List S.Item}{base:Int}{gF gA m:Nat}(h:AsSt w0 xs.length w (some gF) (some gA) (some m)) :
 ∃g,w.heap.size=g/\Work (w.alloc (.cells #[.slice A xs.length c,.int .i64 base,.slice (some ⟨gF,0,none⟩) xs.length xs.length,.slice (some ⟨gA,0,none⟩) (xs.length+1) (xs.length+1),.map (some m)] 214))
  w0.heap.size g gF gA m 0 A c xs base (Y1 xs.length 0) (Y1 (xs.length+1) 0) (λ _=>none)/\Below w0.heap.size w0 (w.alloc (.cells #[.slice A xs.length c,.int .i64 base,.slice (some ⟨gF,0,none⟩) xs.length xs.length,.slice (some ⟨gA,0,none⟩) (xs.length+1) (xs.length+1),.map (some m)] 214)):=by
 have hb:Below w.heap.size w (w.alloc (.cells #[.slice A xs.length c,.int .i64 base,.slice (some ⟨gF,0,none⟩) xs.length xs.length,.slice (some ⟨gA,0,none⟩) (xs.length+1) (xs.length+1),.map (some m)] 214)):=(Yj _ _).alloc (Yd _) _;have hm:=h.more hb;refine⟨_,rfl,⟨?_,?_,?_,(hm.labs m rfl).2,h.bel.size,(hm.rowF gF rfl).1,(hm.rowA gA rfl).1,(hm.labs m rfl).1,h.far gF gA rfl rfl⟩,hm.bel⟩
 .exact heap_alloc_new _ _
 .rw[Yde];exact(hm.rowF gF rfl).2
 .rw[Yde];exact(hm.rowA gA rfl).2
theorem Z3 {P:Program}{ops:Array Oper}{o:Oper}{a:Act}{w w':World}{v:Value}{K:Act->World->Prop}{Q:Exit->Act->World->Prop}{E:Prop}
 (hg:o.guard=none) (d:Option Tmp) (hd:o.dst=d) (hrun:(execOp a.eval o).run P w=.ok (.value v) w') (hK:K (a.put d v) w'):if Yah o (yielded ops a.tmps)=true then Oper.wp P o a w K Q else E:=by
 have hw:Yah o (yielded ops a.tmps)=true:=by simp[Yah,hg]
 rw[if_pos hw];subst hd;unfold Oper.wp;rw[hrun];exact hK
theorem Zbo {P:Program}{md:Region.Mode}{ops:Array Oper}{Q:Exit->Act->World->Prop}{f:Nat}{l:Array Bool}{a:Act}{w:World}(h:∀a0,a0=a->wpAny P md ops Q f l a0 w):wpAny P md ops Q f l a w:=h a rfl
theorem Zi8 {P:Program}{ops:Array Oper}{o:Oper}{a:Act}{w w':World}{v:Value}{K:Act->World->Prop}{Q:Exit->Act->World->Prop}{E:Prop}
 (hg:o.guard=none) (t:TypeId) (x:Operand) (hop:o.op=Op.makeSlice t x x) (n:Int) (hx:a.eval x=.int .i64 n) (hrun:(Instr.makeSlice t (.int .i64 n) (.int .i64 n)).run P w=.ok v w') (d:Option Tmp) (hd:o.dst=d) (hK:K (a.put d v) w') :
 if Yah o (yielded ops a.tmps)=true then Oper.wp P o a w K Q else E:=by
 have hw:Yah o (yielded ops a.tmps)=true:=by simp[Yah,hg]
 rw[if_pos hw];subst hd;unfold Oper.wp;simp[execOp,hop,hx,hrun,Result.andThen];exact hK
theorem Zwa {P:Program}{ops:Array Oper}{o:Oper}{a:Act}{w w':World}{v:Value}{K:Act->World->Prop}{Q:Exit->Act->World->Prop}{E:Prop}
 (hg:o.guard=none) (t:TypeId) (hop:o.op=Op.makeMap t none) (hrun:(Instr.makeMap t none).run P w=.ok v w') (d:Option Tmp) (hd:o.dst=d) (hK:K (a.put d v) w') :
 if Yah o (yielded ops a.tmps)=true then Oper.wp P o a w K Q else E:=by
 have hw:Yah o (yielded ops a.tmps)=true:=by simp[Yah,hg]
 rw[if_pos hw];subst hd;unfold Oper.wp;simp[execOp,hop,hrun,Result.andThen];exact hK
theorem Zca {ops:Array Oper}{o:Oper}{a:Act}{w0 w:World}{n:Nat}{fa fm:Option Nat}{K:Act->World->Prop}{Q:Exit->Act->World->Prop}{E:Prop}(h:AsSt w0 n w none fa fm)(hn:n<=1048576)
 (hg:o.guard=none) (x:Operand) (hop:o.op=Op.makeSlice 54 x x) (hx:a.eval x=.int .i64 n) (d:Option Tmp) (hd:o.dst=d)
 (hK:∀w',AsSt w0 n w' (some w.heap.size) fa fm->K (a.put d (.slice (some ⟨w.heap.size,0,none⟩) n n)) w'):if Yah o (yielded ops a.tmps)=true then Oper.wp prog o a w K Q else E:=by
 obtain⟨w',r,h'⟩:=h.makeF hn;exact Zi8 hg _ x hop n hx r d hd (hK w' h')
theorem Zcb {ops:Array Oper}{o:Oper}{a:Act}{w0 w:World}{n:Nat}{ff fm:Option Nat}{K:Act->World->Prop}{Q:Exit->Act->World->Prop}{E:Prop}(h:AsSt w0 n w ff none fm)(hn:n<=1048576)
 (hg:o.guard=none) (x:Operand) (hop:o.op=Op.makeSlice 54 x x) (hx:a.eval x=.int .i64 ((n:Int)+1)) (d:Option Tmp) (hd:o.dst=d)
 (hK:∀w',AsSt w0 n w' ff (some w.heap.size) fm->K (a.put d (.slice (some ⟨w.heap.size,0,none⟩) (n+1) (n+1))) w'):if Yah o (yielded ops a.tmps)=true then Oper.wp prog o a w K Q else E:=by
 obtain⟨w',r,h'⟩:=h.makeA hn;exact Zi8 hg _ x hop _ hx r d hd (hK w' h')
theorem Zcc {ops:Array Oper}{o:Oper}{a:Act}{w0 w:World}{n:Nat}{ff fa:Option Nat}{K:Act->World->Prop}{Q:Exit->Act->World->Prop}{E:Prop}(h:AsSt w0 n w ff fa none)
 (hg:o.guard=none) (hop:o.op=Op.makeMap 207 none) (d:Option Tmp) (hd:o.dst=d)
 (hK:∀w',AsSt w0 n w' ff fa (some w.heap.size)->K (a.put d (.map (some w.heap.size))) w'):if Yah o (yielded ops a.tmps)=true then Oper.wp prog o a w K Q else E:=by
 obtain⟨w',r,h'⟩:=h.makeM;exact Zwa hg _ hop r d hd (hK w' h')
structure Tab (xs:List S.Item)(k:Nat)(f:ByteArray->Option Int)(tw:Bool):Prop where
 has:∀s,(f s).isSome=true↔∃(j:Nat)(x:S.Item),j<k/\xs[j]?=some x/\x.kind=2/\x.label=s
 val:tw=false->∀s v,f s=some v->v=stands xs s
 dup:tw=true↔∃(j:Nat)(x:S.Item),j<k/\xs[j]?=some x/\x.kind=2/\stands xs x.label≠j
theorem Tab.start (xs:List S.Item):Tab xs 0 (λ _=>none) false :=
 ⟨λ s=>by simp,λ _ s v h=>by simp at h,by simp⟩
theorem Tab.other {xs:List S.Item}{k:Nat}{f:ByteArray->Option Int}{tw:Bool}(h:Tab xs k f tw){x:S.Item}(hx:xs[k]?=some x)(hk:x.kind≠2):Tab xs (k+1) f tw:=by
 refine⟨λ s=>(h.has s).trans ?_,h.val,h.dup.trans ?_⟩
 .constructor
  .rintro⟨j,y,h1,h2⟩;exact⟨j,y,by omega,h2⟩
  .rintro⟨j,y,h1,h2,h3,h4⟩
   have:j≠k:=by rintro rfl;rw[hx] at h2;cases h2;exact hk h3
   exact⟨j,y,by omega,h2,h3,h4⟩
 .constructor
  .rintro⟨j,y,h1,h2⟩;exact⟨j,y,by omega,h2⟩
  .rintro⟨j,y,h1,h2,h3,h4⟩
   have:j≠k:=by rintro rfl;rw[hx] at h2;cases h2;exact hk h3
   exact⟨j,y,by omega,h2,h3,h4⟩
theorem Tab.label {xs:List S.Item}{k:Nat}{f:ByteArray->Option Int}{tw:Bool}(h:Tab xs k f tw){x:S.Item}(hx:xs[k]?=some x)(hk:x.kind=2) :
 Tab xs (k+1) (λ t=>if t=x.label then some (k:Int) else f t) (tw || (f x.label).isSome):=by
 have hst:(f x.label).isSome=false↔stands xs x.label=k:=by
  rw[<- Bool.not_eq_true,h.has];rcases Zag xs x.label with⟨_,h2⟩|⟨j,y,h1,h2,h3,h4,h5⟩
  .exact absurd ⟨hk,rfl⟩ (h2 k x hx)
  .constructor
   .intro hn
    rcases Nat.lt_trichotomy j k with hj|hj|hj
    .exact absurd ⟨j,y,hj,h2,h3,h4⟩ hn
    .rw[h1,hj]
    .exact absurd ⟨hk,rfl⟩ (h5 k x hj hx)
   .rintro hs ⟨i,z,h6,h7,h8,h9⟩
    have:j=k:=by rw[h1] at hs;omega
    subst this;exact h5 i z h6 h7 ⟨h8,h9⟩
 refine⟨λ s=>?_,?_,?_⟩
 .by_cases e:s=x.label
  .simp only[e,if_true]
   constructor
   .intro _;exact⟨k,x,by omega,hx,hk,rfl⟩
   .intro _;rfl
  .simp only[e,if_false]
   rw[h.has]
   constructor
   .rintro⟨j,y,h1,h2⟩;exact⟨j,y,by omega,h2⟩
   .rintro⟨j,y,h1,h2,h3,h4⟩
    have:j≠k:=by rintro rfl;rw[hx] at h2;cases h2;exact e h4.symm
    exact⟨j,y,by omega,h2,h3,h4⟩
 .intro ht s v hv
  rw[Bool.or_eq_false_iff] at ht;by_cases e:s=x.label
  .simp only[e,if_true] at hv
   cases hv
   rw[e,hst.1 ht.2]
  .simp only[e,if_false] at hv
   exact h.val ht.1 s v hv
 .rw[Ybp,h.dup]
  constructor
  .rintro(⟨j,y,h1,h2⟩|hs)
   .exact⟨j,y,by omega,h2⟩
   .refine⟨k,x,by omega,hx,hk,λ e=>?_⟩
    rw[<- hst,hs] at e
    cases e
  .rintro⟨j,y,h1,h2,h3,h4⟩
   by_cases e:j=k
   .right
    subst e;rw[hx] at h2;cases h2
    cases hb:(f x.label).isSome with
    | true=>rfl
    | false=>exact absurd (hst.1 hb) h4
   .left;exact⟨j,y,by omega,h2,h3,h4⟩
theorem Tab.done {xs:List S.Item}{f:ByteArray->Option Int}(h:Tab xs xs.length f false):f=Zd4 xs/\¬Dup xs:=by
 constructor
 .funext s
  unfold Zd4;rcases Zag xs s with⟨h1,h2⟩|⟨j,y,h1,h2,h3,h4,h5⟩
  .rw[h1,if_pos (by omega)]
   cases hf:f s with
   | none=>rfl
   | some v =>
    obtain⟨j,x,_,hx,hk,hl⟩:=(h.has s).1 (by rw[hf];rfl);exact absurd ⟨hk,hl⟩ (h2 j x hx)
  .rw[h1,if_neg (by omega)]
   have hs:=(h.has s).2 ⟨j,y,(Yg.1 h2).1,h2,h3,h4⟩
   cases hf:f s with
   | none=>rw[hf] at hs;cases hs
   | some v=>rw[h.val rfl s v hf,h1]
 .rintro⟨i,x,hx,hk,hs⟩
  have:=h.dup.2 ⟨i,x,(Yg.1 hx).1,hx,hk,hs⟩
  cases this
theorem Tab.twice {xs:List S.Item}{f:ByteArray->Option Int}(h:Tab xs xs.length f true):Dup xs:=by
 obtain⟨j,x,_,hx,hk,hs⟩:=h.dup.1 rfl;exact⟨j,x,hx,hk,hs⟩
theorem Tab.shut {xs:List S.Item}{f:ByteArray->Option Int}(h:Tab xs xs.length f false){k:Nat}{x:S.Item}(hx:xs[k]?=some x)(hk:x.kind=2):stands xs x.label=k:=by
 by_cases e:stands xs x.label=k
 .exact e
 .exact absurd ⟨k,x,hx,hk,e⟩ h.done.2
section
section
variable {w w':World}{B p:Nat}{vm vo:Value}{A:Option Addr}{c:Nat}{inp:List Int}{rd:Nat}{m:Mach}
theorem MAt.drewN (h:MAt w B p vm vo A c inp rd m)(n:Nat):MAt (w.drewN n) B p vm vo A c inp rd m:=h.keep (Yd _) λ _ _=>rfl
theorem MAt.drew (h:MAt w B p vm vo A c inp rd m):MAt w.drew B p vm vo A c inp rd m:=h.keep (Yd _) λ _ _=>rfl
theorem Only.drew {F:Nat->Prop}(w:World):Only F w w.drew:=⟨rfl,rfl,rfl,Yd _,λ _ _ _=>rfl⟩
theorem Only.drewN {F:Nat->Prop}(w:World)(n:Nat):Only F w (w.drewN n):=⟨rfl,rfl,rfl,Yd _,λ _ _ _=>rfl⟩
theorem Zkg {l:List Int}{i j:Nat}{v:Int}:(l.set i v).getD j 0=if i=j/\j<l.length then v else l.getD j 0:=by
 simp only[Yh,List.getElem?_set];by_cases h:i=j
 .subst h
  by_cases h2:i<l.length
  .simp[h2]
  .simp[h2]
 .simp[h]
theorem Z1f (h:m.Ok){d v:Int}(hd:0<=d)(hv:0<=v/\v<=4294967295):(m.put d v).Ok:=by
 unfold Mach.put;by_cases e:d=0
 .rw[if_pos e];exact h
 .rw[if_neg e]
  refine⟨by simpa using h.regs,λ i=>?_,?_,h.mem,h.memw,h.place0,h.place1,h.inp,h.outp,h.code0,h.code1⟩
  .show 0<=(m.reg.set d.toNat v).getD i 0/\(m.reg.set d.toNat v).getD i 0<=4294967295
   rw[Zkg]
   split
   .exact hv
   .exact h.word i
  .show(m.reg.set d.toNat v).getD 0 0=0
   rw[Zkg,if_neg (by omega)];exact h.zero
theorem MAt.put (h:MAt w B p vm vo A c inp rd m){d v:Int}(h0:0<d)(h1:d<32)(hv:0<=v/\v<=4294967295):MAt (w.setCell ⟨p,d.toNat,none⟩ (.int .u32 v)) B p vm vo A c inp rd (m.put d v):=by
 have hok:=Z1f h.ok (d:=d) (by omega) hv;have e:m.put d v={ m with reg:=m.reg.set d.toNat v }:=by unfold Mach.put;rw[if_neg (by omega)]
 rw[e] at hok⊢;refine h.stored d.toNat _ hok rfl rfl h.left h.rdle ?_;unfold Zd5;rw[List.set_append_left _ _ (by simp[h.ok.regs];omega),List.map_set]
theorem Z1g (l:List Int)(hl:l.length=32)(k:Nat)(t:List Value)(u:Value):(l.map (Ys .u32)++t).set (32+k) u=l.map (Ys .u32)++t.set k u:=by
 rw[Ycy _ _ (by simp[hl])];simp[hl]
theorem Zxj (h:m.Ok)(l k:Nat)(u:Value):m.reg.map (Ys .u32)++([vm,.int .u32 m.place,.slice A l c,.int .i64 rd,vo,.int .i64 m.state,.int .u32 m.code,.int .i64 m.trap,.int .i64 m.steps]:List Value).set k u=(Zd5 m vm A l c rd vo).set (32+k) u :=
 (Z1g m.reg h.regs k _ u).symm
theorem MAt.fell (h:MAt w B p vm vo A c inp rd m)(t:Int):MAt ((w.setCell ⟨p,37,none⟩ (.int .i64 2)).setCell ⟨p,39,none⟩ (.int .i64 t)) B p vm vo A c inp rd (m.fell t):=by
 have ok1:({ m with state:=2 }:Mach).Ok:=⟨h.ok.regs,h.ok.word,h.ok.zero,h.ok.mem,h.ok.memw,h.ok.place0,h.ok.place1,h.ok.inp,h.ok.outp,h.ok.code0,h.ok.code1⟩
 have h1:MAt (w.setCell ⟨p,37,none⟩ (.int .i64 2)) B p vm vo A c inp rd { m with state:=2 }:=h.stored 37 _ ok1 rfl rfl h.left h.rdle (Zxj h.ok _ 5 _);exact h1.stored 39 _ ⟨h.ok.regs,h.ok.word,h.ok.zero,h.ok.mem,h.ok.memw,h.ok.place0,h.ok.place1,h.ok.inp,h.ok.outp,h.ok.code0,h.ok.code1⟩ rfl rfl h.left h.rdle (Zxj ok1 _ 7 _)
theorem MAt.halted (h:MAt w B p vm vo A c inp rd m){a:Int}(ha:0<=a/\a<=4294967295):MAt ((w.setCell ⟨p,37,none⟩ (.int .i64 1)).setCell ⟨p,38,none⟩ (.int .u32 a)) B p vm vo A c inp rd { m with state:=1,code:=a }:=by
 have ok1:({ m with state:=1 }:Mach).Ok:=⟨h.ok.regs,h.ok.word,h.ok.zero,h.ok.mem,h.ok.memw,h.ok.place0,h.ok.place1,h.ok.inp,h.ok.outp,h.ok.code0,h.ok.code1⟩
 have h1:MAt (w.setCell ⟨p,37,none⟩ (.int .i64 1)) B p vm vo A c inp rd { m with state:=1 }:=h.stored 37 _ ok1 rfl rfl h.left h.rdle (Zxj h.ok _ 5 _);exact h1.stored 38 _ ⟨h.ok.regs,h.ok.word,h.ok.zero,h.ok.mem,h.ok.memw,h.ok.place0,h.ok.place1,h.ok.inp,h.ok.outp,ha.1,ha.2⟩ rfl rfl h.left h.rdle (Zxj ok1 _ 6 _)
theorem MAt.went (h:MAt w B p vm vo A c inp rd m){tq:Int}(ht:0<=tq/\tq<=4294967295):MAt (w.setCell ⟨p,33,none⟩ (.int .u32 tq)) B p vm vo A c inp rd { m with place:=tq } :=
 h.stored 33 _ ⟨h.ok.regs,h.ok.word,h.ok.zero,h.ok.mem,h.ok.memw,ht.1,ht.2,h.ok.inp,h.ok.outp,h.ok.code0,h.ok.code1⟩ rfl rfl h.left h.rdle (Zxj h.ok _ 1 _)
theorem MAt.stepped (h:MAt w B p vm vo A c inp rd m)(n:Int):MAt (w.setCell ⟨p,40,none⟩ (.int .i64 n)) B p vm vo A c inp rd { m with steps:=n } :=
 h.stored 40 _ ⟨h.ok.regs,h.ok.word,h.ok.zero,h.ok.mem,h.ok.memw,h.ok.place0,h.ok.place1,h.ok.inp,h.ok.outp,h.ok.code0,h.ok.code1⟩ rfl rfl h.left h.rdle (Zxj h.ok _ 8 _)
theorem MAt.readOn (h:MAt w B p vm vo A c inp rd m){x:Int}{r:List Int}(hx:m.input=x::r):MAt (w.setCell ⟨p,35,none⟩ (.int .i64 ((rd:Int)+1))) B p vm vo A c inp (rd+1) { m with input:=r }:=by
 have hl:=h.left;rw[hx] at hl;have hlt:rd<inp.length:=by
  refine Nat.lt_of_not_le λ hc=>?_
  rw[List.drop_eq_nil_of_le hc] at hl
  cases hl
 rw[List.drop_eq_getElem_cons hlt] at hl;refine h.stored 35 _ ⟨h.ok.regs,h.ok.word,h.ok.zero,h.ok.mem,h.ok.memw,h.ok.place0,h.ok.place1,λ y hy=>h.ok.inp y (by rw[hx];exact Y5 _ hy),h.ok.outp,h.ok.code0,h.ok.code1⟩ rfl rfl (List.cons.inj hl).2 hlt ?_;exact Zxj h.ok _ 3 _
theorem MAt.sw (h:MAt w B p vm vo A c inp rd m){g cap i:Nat}(hv:vm=.slice (some ⟨g,0,none⟩) m.mem.length cap){b:Int}(hb:0<=b/\b<=4294967295)(hi:i<m.mem.length) :
 MAt (w.setCell ⟨g,i,none⟩ (.int .u32 b)) B p vm vo A c inp rd { m with mem:=m.mem.set i b }:=by
 subst hv;obtain⟨n1,n2⟩:=h.mem_ne (k:=g) rfl;obtain⟨s1,s2⟩:=h.mem.stored i (.int .u32 b);have hsame:∀j,j≠g->(w.setCell ⟨g,i,none⟩ (.int .u32 b)).heap[j]?=w.heap[j]?:=λ j hj=>Ybd _ _ _ _ hj
 refine⟨⟨h.ok.regs,h.ok.word,h.ok.zero,by simpa using h.ok.mem,λ j=>?_,h.ok.place0,h.ok.place1,h.ok.inp,h.ok.outp,h.ok.code0,h.ok.code1⟩,h.low,?_,?_,?_,?_,h.left,h.rdle,h.inl,by simpa using h.low0,λ b o s e=>by have:=h.la b o s e;simpa[Ybn] using this,h.d1,h.d2⟩
 .show 0<=(m.mem.set i b).getD j 0/\(m.mem.set i b).getD j 0<=4294967295
  rw[Zkg]
  split
  .exact hb
  .exact h.ok.memw j
 .obtain⟨cs,h1,h2⟩:=h.blk
  exact⟨cs,by rw[hsame p (Ne.symm n1)];exact h1,h2⟩
 .simp only[Ycl,List.map_set]
  exact s1
 .exact Zac h.out λ j hj=>hsame j λ e=>n2 (e ▸ hj)
 .exact h.rin.same (by simp[Ybn]) λ b' o s e=>hsame b' λ e2=>(h.d1 b' o s e).2.1 (by rw[e2];rfl)
theorem MAt.told (h:MAt w B p vm vo A c inp rd m){vo':Value}{x:Int}(hx:0<=x/\x<=255)(ho:w'.ownsRow B 5 1 vo' (m.out.length+1) (m.out.map (Ys .u8)++[.int .u8 x]))(hg:w.grownBy w' vo.ownBlock)
 (hb:vo'.ownBlock=vo.ownBlock\/∃k,w.heap.size<=k/\vo'.ownBlock=some k) :
 MAt (w'.setCell ⟨p,36,none⟩ vo') B p vm vo' A c inp rd { m with out:=m.out++[x] }:=by
 have hkeep:∀j,j<w.heap.size->vo.ownBlock≠some j->w'.heap[j]?=w.heap[j]?:=λ j hj hn=>hg.block j hj (λ e=>hn e.symm)
 have hset:∀j,j≠p->(w'.setCell ⟨p,36,none⟩ vo').heap[j]?=w'.heap[j]?:=λ j hj=>Ybd _ _ _ _ hj
 have hlt:=h.lt;have hvop:vo'.ownBlock≠some p:=by
  rcases hb with e|⟨k,hk,e⟩
  .rw[e];exact h.d2.2
  .rw[e];intro q;cases q;omega
 refine⟨⟨h.ok.regs,h.ok.word,h.ok.zero,h.ok.mem,h.ok.memw,h.ok.place0,h.ok.place1,h.ok.inp,λ y hy=>?_,h.ok.code0,h.ok.code1⟩,h.low,?_,?_,?_,?_,h.left,h.rdle,h.inl,h.low0,λ b o s e=>by have h1:=h.la b o s e;have h2:=hg.size;simp only[Ybn];simp;omega,λ b o s e=>?_,h.d2.1,hvop⟩
 .rcases List.mem_append.1 hy with hy|hy
  .exact h.ok.outp y hy
  .rw[Yaf.1 hy];exact hx
 .obtain⟨cs,h1,h2⟩:=h.blk
  have h1':w'.heap[p]?=some (.cells cs 86 (0,0)):=by rw[hkeep p hlt h.d2.2];exact h1
  refine⟨cs.setIfInBounds 36 vo',heap_setCell_same w' p 36 cs _ vo' h1',?_⟩;rw[Ybx,h2];exact(Zxj h.ok _ 4 _).symm
 .refine Zac h.mem λ j hj=>?_
  obtain⟨n1,n2⟩:=h.mem_ne hj;rw[hset j n1];exact hkeep j (h.mem.lt j hj).2 n2
 .show(w'.setCell ⟨p,36,none⟩ vo').ownsRow B 5 1 vo' (m.out++[x]).length ((m.out++[x]).map (Ys .u8))
  rw[Yc,List.map_append];exact ownsRow_setCell_other ho hvop _
 .exact h.rin.same (by have:=hg.size;simpa[Ybn] using this) λ b o s e=>by
   obtain⟨d1,d2,d3⟩:=h.d1 b o s e;rw[hset b d1];exact hkeep b (h.la b o s e) d3
 .obtain⟨d1,d2,d3⟩:=h.d1 b o s e
  refine⟨d1,d2,?_⟩;rcases hb with e2|⟨k,hk,e2⟩
  .rw[e2];exact d3
  .rw[e2]
   intro q
   cases q
   have:=h.la b o s e;omega
end
end
def TailOk (H:Zl)(w:World)(B:Nat)(y:TypeId×Nat)(x:S.AV)(v:Value):Prop:=∃n cs,x=.row n cs /\
 ((v=.slice none 0 0/\n=0)\/∃g cap cur,v=.slice (some ⟨g,0,none⟩) n cap/\B<=g/\H g=some cs.length/\w.heap[g]?=some (.cells cur y.1 (0,0))/\n<=cap/\cap<=maxLen/\cur.size=cap*y.2/\cs.length=n*y.2/\0<y.2)
def Zta (H:Zl)(w:World)(φ:Nat->Nat)(s:St)(x:S.AV)(v:Value):Prop:=(∃i off,x=.box i off/\(s.hp i).isSome=true/\v=.pointer (some ⟨φ i,off,none⟩))\/RepV H w x v
def Bk (w:World)(b:Nat):Prop:=∃cs T,w.heap[b]?=some (.cells cs T (0,0))
theorem Bk.lt {w:World}{b:Nat}(h:Bk w b):b<w.heap.size:=by
 obtain⟨_,_,h⟩:=h;exact(Yv.1 h).1
theorem Bk.of {w w':World}{b:Nat}(h:Bk w b)(e:w'.heap[b]?=w.heap[b]?):Bk w' b:=by
 obtain⟨cs,T,h⟩:=h;exact⟨cs,T,e.trans h⟩
theorem Bk.below {w w':World}{b:Nat}(h:Bk w b)(hb:Below w.heap.size w w'):Bk w' b:=h.of (hb.block b h.lt)
structure Gam (B N:Nat)(w0:World)(H0:Zl)(s:St)(a:Act)(w:World)(H:Zl)(φ:Nat->Nat):Prop where
 bel:Below B w0 w
 base:B<=w.heap.size
 old:∀b,b<B->H b=H0 b
 bnd:∀b h,H b=some h->Bk w b
 size:a.tmps.size=N
 defs:a.defers=[]
 slot:∀t x,s.sl t=some x->Zta H w φ s x (a.tmps.getD t undef)
 ent:∀i e cs,s.hp i=some (e,cs)->B<=φ i/\H (φ i)=none/\∃vs:List Value,w.heap[φ i]?=some (.cells vs.toArray e (0,0))/\RepL H w cs vs
 inj:∀i j,(s.hp i).isSome=true->(s.hp j).isSome=true->φ i=φ j->i=j
 tail:∀t y,s.tl t=some y->∃x,s.sl t=some x/\TailOk H w B y x (a.tmps.getD t undef)
 tinj:∀t t',t≠t'->(s.tl t).isSome=true->(s.tl t').isSome=true->∀g,(a.tmps.getD t undef).ownBlock=some g->(a.tmps.getD t' undef).ownBlock=some g->False
theorem TailOk.own {H:Zl}{w:World}{B:Nat}{y:TypeId×Nat}{x:S.AV}{v:Value}(h:TailOk H w B y x v){g:Nat}(hg:v.ownBlock=some g):(∃n,H g=some n)/\B<=g:=by
 obtain⟨n,cs,rfl,⟨rfl,_⟩|⟨g',cap,cur,rfl,hb,hH,_⟩⟩:=h
 .simp[Yaj] at hg
 .simp[Yaj] at hg
  subst hg;exact⟨⟨_,hH⟩,hb⟩
theorem TailOk.keep {H H':Zl}{w w':World}{B:Nat}{y:TypeId×Nat}{x:S.AV}{v:Value}(h:TailOk H w B y x v)(hk:∀g,v.ownBlock=some g->w'.heap[g]?=w.heap[g]?/\H' g=H g):TailOk H' w' B y x v:=by
 obtain⟨n,cs,rfl,⟨rfl,h0⟩|⟨g,cap,cur,rfl,hb,hH,hg,h1⟩⟩:=h
 .exact⟨n,cs,rfl,.inl ⟨rfl,h0⟩⟩
 .obtain⟨k1,k2⟩:=hk g rfl
  exact⟨n,cs,rfl,.inr ⟨g,cap,cur,rfl,hb,k2.trans hH,k1.trans hg,h1⟩⟩
theorem Zwb {a:Act}{d t:Nat}{v:Value}(hd:d<a.tmps.size):(a.put (some d) v).tmps.getD t undef=if t=d then v else a.tmps.getD t undef:=by
 by_cases h:t=d
 .subst h
  rw[if_pos rfl];simp[Act.put,hd]
 .rw[if_neg h]
  simp[Act.put,Array.getElem?_setIfInBounds_ne (Ne.symm h)]
theorem Gam.next {B N:Nat}{w0:World}{H0:Zl}{s:St}{a:Act}{w:World}{H:Zl}{φ:Nat->Nat}(h:Gam B N w0 H0 s a w H φ)
 {e:S.Eff} {w':World} {H':Zl} {φ':Nat->Nat} {dst:Option Tmp} {v:Value}
 (hdst:(dst=none/\e.dst=none)\/∃d x y,dst=some d/\e.dst=some (d,x,y)/\d<N/\Zta H' w' φ' (e.apply s) x v/\∀z,y=some z->TailOk H' w' B z x v /\
  ∀t g,t≠d->e.drop≠some t->(s.tl t).isSome=true->(a.tmps.getD t undef).ownBlock=some g->v.ownBlock≠some g)
 (hbel:Below B w w') (hstay:Stay H w H' w') (hold:∀b,b<B->H' b=H b) (hbnd:∀b n,H' b=some n->Bk w' b)
 (hφ:∀i,(s.hp i).isSome=true->φ' i=φ i)
 (hent:∀i t cs,(e.apply s).hp i=some (t,cs)->B<=φ' i/\H' (φ' i)=none/\∃vs:List Value,w'.heap[φ' i]?=some (.cells vs.toArray t (0,0))/\RepL H' w' cs vs)
 (hinj:∀i j,((e.apply s).hp i).isSome=true->((e.apply s).hp j).isSome=true->φ' i=φ' j->i=j)
 (htl:∀t g,(∀d x y,e.dst=some (d,x,y)->t≠d)->e.drop≠some t->(s.tl t).isSome=true->(a.tmps.getD t undef).ownBlock=some g->w'.heap[g]?=w.heap[g]?/\H' g=H g) :
 Gam B N w0 H0 (e.apply s) (a.put dst v) w' H' φ':=by
 have hkeep:∀i,(s.hp i).isSome=true->((e.apply s).hp i).isSome=true:=λ i hi=>by
  unfold S.Eff.apply;simp only
  split
  .split
   .rfl
   .exact hi
  .exact hi
 have holdS:∀x u,Zta H w φ s x u->Zta H' w' φ' (e.apply s) x u:=λ x u hx=>by
  rcases hx with⟨i,off,rfl,hi,rfl⟩|hx
  .exact .inl ⟨i,off,rfl,hkeep i hi,by rw[hφ i hi]⟩
  .exact .inr (RepV.stay hstay x u hx)
 rcases hdst with⟨rfl,hn⟩|⟨d,x,y,rfl,hd,hdN,hx,hy⟩
 .have hsl:(e.apply s).sl=s.sl:=by unfold S.Eff.apply;rw[hn]
  have hapt:(a.put none v)=a:=rfl;rw[hapt];have htlq:∀t z,(e.apply s).tl t=some z->s.tl t=some z/\e.drop≠some t:=λ t z hz=>by
   unfold S.Eff.apply at hz;rw[hn] at hz;simp only at hz
   split at hz
   .cases hz
   .rename_i hq;exact⟨hz,hq⟩
  refine⟨h.bel.trans hbel,Yaa h.base hbel.size,λ b hb=>(hold b hb).trans (h.old b hb),hbnd,h.size,h.defs,λ t u ht=>holdS u _ (h.slot t u (by rw[<- hsl];exact ht)),hent,hinj,λ t z hz=>?_,λ t t' hne ht ht'=>?_⟩
  .obtain⟨hz1,hz2⟩:=htlq t z hz
   obtain⟨u,hu,hok⟩:=h.tail t z hz1;refine⟨u,by rw[hsl];exact hu,hok.keep λ g hg=>htl t g (λ d x y hd=>by rw[hn] at hd;cases hd) hz2 (by rw[hz1];rfl) hg⟩
  .obtain⟨z,hz⟩:=Y8.1 ht
   obtain⟨z',hz'⟩:=Y8.1 ht';exact h.tinj t t' hne (by rw[(htlq t z hz).1];rfl) (by rw[(htlq t' z' hz').1];rfl)
 .have hds:d<a.tmps.size:=by rw[h.size];exact hdN
  have hput:∀t,(a.put (some d) v).tmps.getD t undef=if t=d then v else a.tmps.getD t undef:=λ t=>Zwb hds
  have hsl:∀t,(e.apply s).sl t=if t=d then some x else s.sl t:=λ t=>by unfold S.Eff.apply;rw[hd]
  have htlq:∀t,t≠d->∀z,(e.apply s).tl t=some z->s.tl t=some z/\e.drop≠some t:=λ t hne z hz=>by
   unfold S.Eff.apply at hz;rw[hd] at hz;simp only[if_neg hne] at hz
   split at hz
   .cases hz
   .rename_i hq;exact⟨hz,hq⟩
  have htld:(e.apply s).tl d=y:=by
   unfold S.Eff.apply;rw[hd];simp
  refine⟨h.bel.trans hbel,Yaa h.base hbel.size,λ b hb=>(hold b hb).trans (h.old b hb),hbnd,by rw[<- h.size];simp[Act.put],h.defs,λ t u ht=>?_,hent,hinj,λ t z hz=>?_,λ t t' hne ht ht' g hg hg'=>?_⟩
  .rw[hsl] at ht
   rw[hput];by_cases c:t=d
   .rw[if_pos c] at ht⊢
    cases ht
    exact hx
   .rw[if_neg c] at ht⊢
    exact holdS u _ (h.slot t u ht)
  .by_cases c:t=d
   .subst c
    rw[htld] at hz;refine⟨x,by rw[hsl,if_pos rfl],?_⟩;rw[hput,if_pos rfl];exact(hy z hz).1
   .obtain⟨hz1,hz2⟩:=htlq t c z hz
    obtain⟨u,hu,hok⟩:=h.tail t z hz1;refine⟨u,by rw[hsl,if_neg c];exact hu,?_⟩;rw[hput,if_neg c];exact hok.keep λ g hg=>htl t g (λ d' x' y' hd'=>by rw[hd] at hd';cases hd';exact c) hz2 (by rw[hz1];rfl) hg
  .rw[hput] at hg hg'
   obtain⟨z,hz⟩:=Y8.1 ht;obtain⟨z',hz'⟩:=Y8.1 ht';by_cases c:t=d
   .have c':t'≠d:=λ e=>hne (by rw[c,e])
    rw[if_pos c] at hg;rw[if_neg c'] at hg';subst c;rw[htld] at hz;obtain⟨q1,q2⟩:=htlq t' c' z' hz';exact(hy z hz).2 t' g c' q2 (by rw[q1];rfl) hg' hg
   .rw[if_neg c] at hg
    obtain⟨q1,q2⟩:=htlq t c z hz;by_cases c':t'=d
    .rw[if_pos c'] at hg'
     subst c';rw[htld] at hz';exact(hy z' hz').2 t g c q2 (by rw[q1];rfl) hg hg'
    .rw[if_neg c'] at hg'
     obtain⟨q1',q2'⟩:=htlq t' c' z' hz';exact h.tinj t t' hne (by rw[q1];rfl) (by rw[q1'];rfl) g hg hg'
theorem Gam.value {B N:Nat}{w0:World}{H0:Zl}{s:St}{a:Act}{w:World}{H:Zl}{φ:Nat->Nat}(h:Gam B N w0 H0 s a w H φ)
 {d:Nat} (hd:d<N) {x:S.AV} {v:Value} (hx:Zta H w φ s x v):Gam B N w0 H0 ((⟨some (d,x,none),none,none⟩:S.Eff).apply s) (a.put (some d) v) w H φ :=
 h.next (.inr ⟨d,x,none,rfl,rfl,hd,hx,λ z hz=>by cases hz⟩) (Yj _ _) (Stay.refl _ _) (λ _ _=>rfl) h.bnd (λ _ _=>rfl) h.ent h.inj (λ _ _ _ _ _ _=>⟨rfl,rfl⟩)
section
namespace S
def constA:Value->Option AV
 | .int k n=>some (.int k n)
 | .bool b=>some (.bool b)
 | .string s=>some (.str s)
 | .slice none 0 0=>some (.row 0 [])
 | _=>none
def constsA:List Value->Option (List AV)
 | []=>some []
 | v::r=>match constA v,constsA r with
  | some x,some xs=>some (x::xs)
  | _,_=>none
def scal:AV->Option Value
 | .int k n=>some (.int k n)
 | .bool b=>some (.bool b)
 | .str s=>some (.string s)
 | _=>none
def evalA:Operand->Rd AV
 | .tmp t=>.sl t λ x=>Rd.ofOpt x
 | .const v=>Rd.ofOpt (constA v)
 | .func f=>.done (.fn f)
 | .global _=>.fail
def evalsA:List Operand->Rd (List AV)
 | []=>.done []
 | x::r=>(evalA x).bind λ v=>(evalsA r).bind λ vs=>.done (v::vs)
def partsA:List (Nat×Operand)->Rd (List (Nat×List AV))
 | []=>.done []
 | (i,x)::r=>(evalA x).bind λ v=>(Rd.ofOpt v.cells).bind λ c=>(partsA r).bind λ vs=>.done ((i,c)::vs)
def pureRun {α:Type}(P:Program):Sem α->Option α
 | .pure a=>some a
 | .program k=>pureRun P (k P)
 | _=>none
def zeroA (P:Program)(t:TypeId):Option (List AV):=match P.info? t with
 | some i=>match i.zero with
  | some z=>constsA z.cells.toList
  | none=>none
 | none=>none
def fillA (place:Nat->Option (Nat×Nat)):List AV->List (Nat×List AV)->Option (List AV)
 | cells,[]=>some cells
 | cells,(i,v)::r=>match place i with
  | none=>none
  | some (off,size)=>if v.length=size/\off+v.length<=cells.length then fillA place (cells.take off++v++cells.drop (off+v.length)) r else none
def placesA (P:Program):List Field->Option (List (Nat×Nat))
 | []=>some []
 | f::r=>match P.info? f.type,placesA P r with
  | some i,some l=>some ((f.offset,i.size)::l)
  | _,_=>none
def sizeA (P:Program)(t:TypeId):Option Nat:=(P.info? t).map (·.size)
def isAggA (P:Program)(t:TypeId):Option Bool:=(P.underlying t).map TypeDesc.isRow
def leave (N:Nat)(dst:Option Tmp)(v:AV)(y:Tail)(drop:Option Nat):Rd Eff:=match dst with
 | some d=>if d<N then .done ⟨some (d,v,y),drop,none⟩ else .fail
 | none=>.done ⟨none,none,none⟩
def fresh (N:Nat)(dst:Option Tmp)(id:Nat)(t:TypeId)(cs:List AV):Rd Eff:=match dst with
 | some d=>if d<N then .hp id λ x=>match x with
  | none=>.done ⟨some (d,.box id 0,none),none,some (id,(t,cs))⟩
  | some _=>.fail
  else .fail
 | none=>.fail
def effAssign (N:Nat)(dst:Option Tmp):Operand->Rd Eff
 | .tmp t=>(evalA (.tmp t)).bind λ v=>.tl t λ y=>match y with
  | some z=>leave N dst v (some z) (some t)
  | none=>leave N dst v none none
 | .const v=>(Rd.ofOpt (constA v)).bind λ x=>leave N dst x (match x with | .row _ _=>some (0,0) | _=>none) none
 | x=>(evalA x).bind λ v=>leave N dst v none none
def effBuild (P:Program)(N:Nat)(dst:Option Tmp)(t:TypeId)(parts:List (Nat×List AV)):Rd Eff:=match zeroA P t,P.underlying t with
 | some z,some (.struct fields)=>match placesA P fields.toList with
  | some places=>(Rd.ofOpt (fillA (places.toArray[·]?) z parts)).bind λ cs=>leave N dst (.agg cs) none none
  | none=>.fail
 | some z,some (.array _ e)=>match sizeA P e with
  | some n=>(Rd.ofOpt (fillA (λ i=>some (i*n,n)) z parts)).bind λ cs=>leave N dst (.agg cs) none none
  | none=>.fail
 | _,_=>.fail
def timesA (z:List AV):Nat->List AV
 | 0=>[]
 | n+1=>z++timesA z n
def effSlice (P:Program)(N:Nat)(dst:Option Tmp)(t:TypeId)(len:Nat)(parts:List (Nat×List AV)):Rd Eff:=match P.underlying t with
 | some (.slice e)=>match zeroA P e,sizeA P e with
  | some z,some n=>if z.length=n/\0<n/\0<len/\len*n<=16777216 then
   (Rd.ofOpt (fillA (λ i=>some (i*n,n)) (timesA z len) parts)).bind λ cs=>leave N dst (.row len cs) (some (e,n)) none
   else .fail
  | _,_=>.fail
 | _=>.fail
def loadA (P:Program)(t:TypeId)(cs:List AV)(off:Nat):Option AV:=match isAggA P t,sizeA P t with
 | some true,some n=>if off+n<=cs.length then some (.agg ((cs.drop off).take n)) else none
 | some false,_=>cs[off]?
 | _,_=>none
def effLoad (P:Program)(N:Nat)(dst:Option Tmp)(t:TypeId):AV->Rd Eff
 | .box i off=>.hp i λ x=>match x with
  | some (_,cs)=>(Rd.ofOpt (loadA P t cs off)).bind λ v=>leave N dst v none none
  | none=>.fail
 | .ptr cs off=>(Rd.ofOpt (loadA P t cs off)).bind λ v=>leave N dst v none none
 | _=>.fail
def effStore (P:Program)(dst:Option Tmp)(t:TypeId)(v:List AV):AV->Rd Eff
 | .box i off=>.hp i λ x=>match x with
  | some (e,cs)=>if dst=none/\sizeA P t=some v.length/\off+v.length<=cs.length then .done ⟨none,none,some (i,(e,cs.take off++v++cs.drop (off+v.length)))⟩ else .fail
  | none=>.fail
 | _=>.fail
def effAppend (P:Program)(N:Nat)(dst:Option Tmp)(t:TypeId)(s:Nat)(x:AV):Rd Eff:=match P.underlying t with
 | some (.slice e)=>match P.info? e with
  | some i=>match i.zero with
   | some z=>.sl s λ old=>.tl s λ y=>match old,y,x with
    | some (.row n cs),some (e',n'),.row m ds =>
     if ((e'=e/\n'=i.size)\/n'=0)/\z.cells.size=i.size/\0<i.size/\cs.length=n*i.size/\ds.length=m*i.size/\n+m<=1000000/\(n+m)*i.bytes<=140737488355328/\dst.isSome=true then leave N dst (.row (n+m) (cs++ds)) (some (e,i.size)) (some s) else .fail
    | _,_,_=>.fail
   | none=>.fail
  | none=>.fail
 | _=>.fail
def okFn (P:Program)(f:FuncId):Bool:=match P.funcs[f]? with
 | some fn => fn.body.isSome && !(fn.name == "runtime.NumGoroutine")
 | none=>false
def effCall (P:Program)(N:Nat)(call:FuncId->List AV->Option (AV×Tail))(dst:Option Tmp)(f:AV)(vs:List AV):Rd Eff:=match f with
 | .fn g=>if okFn P g=true/\vs.all AV.free=true then match call g vs with
  | some (r,y)=>leave N dst r y none
  | none=>.fail
  else .fail
 | _=>.fail
def effField (P:Program)(N:Nat)(dst:Option Tmp)(xt:TypeId)(f:Nat):AV->Rd Eff
 | .agg cs=>match P.underlying xt with
  | some (.struct fields)=>match fields[f]? with
   | some fd=>(Rd.ofOpt (loadA P fd.type cs fd.offset)).bind λ v=>leave N dst v none none
   | none=>.fail
  | _=>.fail
 | _=>.fail
def effFieldAddr (P:Program)(N:Nat)(dst:Option Tmp)(xt:TypeId)(f:Nat):AV->Rd Eff
 | .box i off=>match P.underlying xt with
  | some (.struct fields)=>match fields[f]? with
   | some fd=>match sizeA P fd.type with
    | some (n+1)=>.hp i λ x=>match x with
     | some _=>leave N dst (.box i (off+fd.offset)) none none
     | none=>.fail
    | _=>.fail
   | none=>.fail
  | _=>.fail
 | _=>.fail
def effIndexAddr (P:Program)(N:Nat)(dst:Option Tmp)(t:TypeId)(x ix:AV):Rd Eff:=match P.underlying t,x,ix with
 | some (.slice e),.row n cs,.int _ i=>match sizeA P e with
  | some z=>if 0<=i/\i<n/\cs.length=n*z/\0<z then leave N dst (.ptr cs (i.toNat*z)) none none else .fail
  | none=>.fail
 | some (.array n e),.box b off,.int _ i=>match sizeA P e with
  | some z=>if 0<=i/\i<n then .hp b λ x=>match x with
   | some _=>leave N dst (.box b (off+i.toNat*z)) none none
   | none=>.fail
   else .fail
  | none=>.fail
 | _,_,_=>.fail
def effOne (P:Program)(N:Nat)(call:FuncId->List AV->Option (AV×Tail))(id:Nat)(o:Oper):Rd Eff:=match o.op with
 | .move x=>effAssign N o.dst x
 | .assign x=>effAssign N o.dst x
 | .pick c x y=>(evalA c).bind λ v=>match v with
  | .bool b=>(evalA (if b=true then x else y)).bind λ u=>leave N o.dst u none none
  | _=>.fail
 | .alloc t=>match zeroA P t with
  | some cs=>fresh N o.dst id t cs
  | none=>.fail
 | .box t x=>(evalA x).bind λ v=>(Rd.ofOpt v.cells).bind λ cs=>fresh N o.dst id t cs
 | .build t ps=>(partsA ps.toList).bind λ vs=>effBuild P N o.dst t vs
 | .buildSlice t len ps=>(partsA ps.toList).bind λ vs=>effSlice P N o.dst t len vs
 | .load t x=>(evalA x).bind λ v=>effLoad P N o.dst t v
 | .store t x y=>(evalA x).bind λ v=>(evalA y).bind λ u=>(Rd.ofOpt u.cells).bind λ cs=>effStore P o.dst t cs v
 | .binOp op xt x y _=>(evalA x).bind λ v=>(evalA y).bind λ u=>(Rd.ofOpt (scal v)).bind λ v'=>(Rd.ofOpt (scal u)).bind λ u' =>
  (Rd.ofOpt (pureRun P (do eqGuard op xt x y v' u';binOp op xt v' u'))).bind λ r=>(Rd.ofOpt (constA r)).bind λ z=>leave N o.dst z none none
 | .unOp op _ x=>(evalA x).bind λ v=>(Rd.ofOpt (scal v)).bind λ v'=>(Rd.ofOpt (pureRun P (Op.unary op v'))).bind λ r=>(Rd.ofOpt (constA r)).bind λ z=>leave N o.dst z none none
 | .convert t t' x=>(evalA x).bind λ v=>(Rd.ofOpt (scal v)).bind λ v'=>(Rd.ofOpt (pureRun P (convert t t' v'))).bind λ r=>(Rd.ofOpt (constA r)).bind λ z=>leave N o.dst z none none
 | .extract x i=>(evalA x).bind λ v=>match v with
  | .tup vs=>(Rd.ofOpt vs[i]?).bind λ u=>leave N o.dst u none none
  | _=>.fail
 | .field xt x f=>(evalA x).bind λ v=>effField P N o.dst xt f v
 | .fieldAddr xt x f=>(evalA x).bind λ v=>effFieldAddr P N o.dst xt f v
 | .indexAddr t x i=>(evalA x).bind λ v=>(evalA i).bind λ u=>effIndexAddr P N o.dst t v u
 | .call c=>match c.callee with
  | .value f=>(evalA f).bind λ g=>(evalsA c.args.toList).bind λ vs=>effCall P N call o.dst g vs
  | .builtin .append=>match c.args.toList,c.argTypes.toList with
   | [.tmp s,x],[t,t']=>if t=t' then(evalA x).bind λ v=>effAppend P N o.dst t s v else .fail
   | _,_=>.fail
  | .builtin .len=>match c.args.toList,c.argTypes.toList with
   | [x],[t]=>match P.underlying t with
    | some (.slice _)=>(evalA x).bind λ v=>match v with
     | .row n _=>leave N o.dst (.int .i64 n) none none
     | _=>.fail
    | _=>.fail
   | _,_=>.fail
  | _=>.fail
 | _=>.fail
def dstOf (ops:Array Oper)(j:Nat):Option Tmp:=match ops[j]? with
 | some o=>o.dst
 | none=>none
def effOp (P:Program)(N:Nat)(call:FuncId->List AV->Option (AV×Tail))(ops:Array Oper)(id:Nat)(o:Oper):Rd Eff:=match o.guard with
 | none=>effOne P N call id o
 | some (j,want)=>match dstOf ops j with
  | some d=>(evalA (.tmp d)).bind λ v=>match v with
   | .bool b=>if b=want then effOne P N call id o else leave N o.dst .any none none
   | _=>.fail
  | none=>.fail
end S
section
variable {P:Program}{B N:Nat}{w0:World}{H0:Zl}{s:St}{a:Act}{w:World}{H:Zl}{φ:Nat->Nat}
theorem Zhq {α:Type}:∀(m:Sem α) {x:α},S.pureRun P m=some x->∀w,m.run P w=.ok x w
 | .pure a,x,h,w=>by simp[S.pureRun] at h;subst h;rfl
 | .program k,x,h,w=>by
  rw[S.pureRun] at h;exact Zhq (k P) h w
 | .load ..,x,h,w | .store ..,x,h,w | .new ..,x,h,w | .shape ..,x,h,w | .freeze ..,x,h,w | .frozen ..,x,h,w | .getObj ..,x,h,w | .setObj ..,x,h,w | .choose ..,x,h,w | .sys ..,x,h,w | .mark ..,x,h,w | .halt ..,x,h,w=>by
  simp[S.pureRun] at h
theorem Zcd {v:Value}{x:S.AV}(h:S.constA v=some x)(H:Zl)(w:World):RepV H w x v/\x.cell=true:=by
 unfold S.constA at h
 split at h <;> cases h
 .exact⟨by rw[RepV],rfl⟩
 .exact⟨by rw[RepV],rfl⟩
 .exact⟨by rw[RepV],rfl⟩
 .refine⟨?_,rfl⟩
  rw[RepV];exact⟨none,0,rfl,λ _=>rfl,λ _=>rfl,.inl rfl⟩
theorem Zct:∀{vs:List Value} {xs:List S.AV},S.constsA vs=some xs->∀(H:Zl)(w:World),RepL H w xs vs
 | [],xs,h,H,w=>by simp[S.constsA] at h;subst h;rw[RepL]
 | v::r,xs,h,H,w=>by
  unfold S.constsA at h
  split at h
  .rename_i x ys h1 h2
   cases h
   rw[RepL];exact⟨v,r,rfl,(Zcd h1 H w).2,(Zcd h1 H w).1,Zct h2 H w⟩
  .cases h
theorem Zgb {x:S.AV}{v u:Value}(h:Zta H w φ s x v)(hs:S.scal x=some u):v=u:=by
 rcases h with⟨i,off,rfl,_⟩|h
 .simp[S.scal] at hs
 .unfold S.scal at hs
  split at hs <;> cases hs <;> rw[RepV] at h <;> exact h
theorem Zhr {x:S.AV}{v:Value}{cs:List S.AV}(h:Zta H w φ s x v)(hc:x.cells=some cs):RepV H w x v:=by
 rcases h with⟨i,off,rfl,_⟩|h
 .simp[S.AV.cells] at hc
 .exact h
theorem Zom {x:S.AV}{v:Value}(h:Zta H w φ s x v)(hc:x.free=true):RepV H w x v:=by
 rcases h with⟨i,off,rfl,_⟩|h
 .simp[S.AV.free] at hc
 .exact h
theorem Zj (hG:Gam B N w0 H0 s a w H φ){x:Operand}{v:S.AV}{l:List Nat}(h:(S.evalA x).run s=some (v,l)):Zta H w φ s v (a.eval x):=by
 cases x with
 | tmp t =>
  simp only[S.evalA,S.Rd.run] at h
  split at h
  .rename_i u l' hu
   simp only[Option.some.injEq,Prod.mk.injEq] at h;obtain⟨rfl,_⟩:=h;exact hG.slot t _ (Z2 hu)
  .cases h
 | const c=>exact .inr (Zcd (Z2 h) H w).1
 | func f =>
  simp only[S.evalA,S.Rd.run,Option.some.injEq,Prod.mk.injEq] at h;obtain⟨rfl,_⟩:=h;exact .inr (by rw[RepV];rfl)
 | global g=>simp[S.evalA,S.Rd.run] at h
theorem Zi9 (hG:Gam B N w0 H0 s a w H φ):∀{xs:List Operand} {vs:List S.AV} {l:List Nat},(S.evalsA xs).run s=some (vs,l)->vs.all S.AV.free=true->RepT H w vs (xs.map a.eval)
 | [],vs,l,h,_=>by
  simp only[S.evalsA,S.Rd.run,Option.some.injEq,Prod.mk.injEq] at h;obtain⟨rfl,_⟩:=h;rw[RepT];rfl
 | x::r,vs,l,h,hf=>by
  unfold S.evalsA at h;obtain⟨v,_,_,h1,h⟩:=Zg _ _ h;obtain⟨us,_,_,h2,h⟩:=Zg _ _ h;simp only[S.Rd.run,Option.some.injEq,Prod.mk.injEq] at h;obtain⟨rfl,_⟩:=h;rw[List.all_cons,Yq] at hf;rw[RepT];exact⟨_,_,rfl,Zom (Zj hG h1) hf.1,Zi9 hG h2 hf.2⟩
inductive RepP (H:Zl) (w:World):List (Nat×List S.AV)->List (Nat×Value)->Prop
 | nil:RepP H w [] []
 | cons {i cs v vs r r'}:v.cells=vs.toArray->RepL H w cs vs->RepP H w r r'->RepP H w ((i,cs)::r) ((i,v)::r')
theorem Zfi (hG:Gam B N w0 H0 s a w H φ):∀{ps:List (Nat×Operand)} {vs:List (Nat×List S.AV)} {l:List Nat},(S.partsA ps).run s=some (vs,l)->RepP H w vs (ps.map λ p=>(p.1,a.eval p.2))
 | [],vs,l,h=>by
  simp only[S.partsA,S.Rd.run,Option.some.injEq,Prod.mk.injEq] at h;obtain⟨rfl,_⟩:=h;exact .nil
 | (i,x)::r,vs,l,h=>by
  unfold S.partsA at h;obtain⟨v,_,_,h1,h⟩:=Zg _ _ h;obtain⟨c,_,_,h2,h⟩:=Zg _ _ h;obtain⟨us,_,_,h3,h⟩:=Zg _ _ h;simp only[S.Rd.run,Option.some.injEq,Prod.mk.injEq] at h;obtain⟨rfl,_⟩:=h;have hc:=Z2 h2;obtain⟨cv,e,hr⟩:=Zhn (Zhr (Zj hG h1) hc) hc;exact .cons e hr (Zfi hG h3)
theorem Ztb (vs:List Value)(off:Nat):∀(j:Nat)(cs:Array Value),off+j+vs.length<=cs.size ->
 ((vs.zipIdx j).foldl (λ cs (x:Value×Nat)=>cs.setIfInBounds (off+x.2) x.1) cs).toList=cs.toList.take (off+j)++vs++cs.toList.drop (off+j+vs.length):=by
 induction vs with
 | nil=>intro j cs h;simp
 | cons v r ih =>
  intro j cs h;rw[Yk] at h;rw[List.zipIdx_cons,List.foldl_cons,ih (j+1) _ (by simp;omega)];simp only[Ybx];have hlt:off+j<cs.toList.length:=by simp;omega
  rw[Yk,show off+(j+1)=off+j+1 by omega];have e1:(cs.toList.set (off+j) v).take (off+j+1)=cs.toList.take (off+j)++[v]:=by
   rw[List.take_set,List.take_add_one,List.getElem?_eq_getElem hlt];simp only[Option.toList_some];rw[Ycy _ _ (by rw[List.length_take];omega)];have:off+j-(cs.toList.take (off+j)).length=0:=by simp;omega
   rw[this,List.set_cons_zero]
  have e2:(cs.toList.set (off+j) v).drop (off+j+1+r.length)=cs.toList.drop (off+j+(r.length+1)):=by
   rw[List.drop_set_of_lt (by omega)]
   congr 1
   omega
  rw[e1,e2];simp
theorem Zkh {place:Nat->Option (Nat×Nat)}:∀{ps:List (Nat×List S.AV)} {vps:List (Nat×Value)} {cs out:List S.AV} {vcs:Array Value},RepP H w ps vps->RepL H w cs vcs.toList->S.fillA place cs ps=some out->∃r,Instr.fill place vcs vps=some r/\RepL H w out r.toList
 | _,_,cs,out,vcs,.nil,hc,h=>by
  simp[S.fillA] at h;subst h;exact⟨vcs,rfl,hc⟩
 | _,_,cs,out,vcs,.cons (i:=i) (cs:=pc) (v:=v) (vs:=pv) (r:=r) (r':=r') e hr hp,hc,h=>by
  unfold S.fillA at h;unfold Instr.fill
  cases hpl:place i with
  | none=>rw[hpl] at h;cases h
  | some q =>
   obtain⟨off,size⟩:=q;rw[hpl] at h;simp only at h⊢
   split at h
   .rename_i hh
    have hl:=RepL.length hr;have hl2:=RepL.length hc;have hsz:v.cells.size=pc.length:=by rw[e];simp[hl]
    have hvl:vcs.size=cs.length:=by rw[<- hl2];simp
    have hno:¬((decide (v.cells.size≠size) || decide (off+v.cells.size>vcs.size))=true):=by
     rw[hsz,hvl];simp only[Ybp,decide_eq_true_eq,not_or];omega
    rw[if_neg hno];refine Zkh hp ?_ h;rw[e,<- Array.foldl_toList,Array.toList_zipIdx];have:=Ztb pv off 0 vcs (by omega);rw[Nat.add_zero] at this;rw[this,<- hl];exact RepL.append (RepL.append (RepL.take off hc) hr) (RepL.drop _ hc)
   .cases h
end
end
section
def GamX (B N:Nat)(w0:World)(H0:Zl)(s:St)(a:Act)(w:World):Prop:=∃H φ,Gam B N w0 H0 s a w H φ
def Zko (P:Program)(B N:Nat)(w0:World)(H0:Zl)(o:Oper)(s:St)(e:S.Eff)(a:Act)(w:World):Prop :=
 ∀K Q,(∀a' w',GamX B N w0 H0 (e.apply s) a' w'->K a' w')->o.wp P a w K Q
section
variable {P:Program}{B N:Nat}{w0:World}{H0:Zl}{s:St}{a:Act}{w:World}{H:Zl}{φ:Nat->Nat}{o:Oper}{e:S.Eff}{l:List Nat}
theorem Zdr {K:Act->World->Prop}{Q:Exit->Act->World->Prop}{v:Value}{w':World}(hr:(execOp a.eval o).run P w=.ok (.value v) w')(h:K (a.put o.dst v) w'):o.wp P a w K Q:=by
 unfold Oper.wp;rw[hr];exact h
theorem Zpz {K:Act->World->Prop}{Q:Exit->Act->World->Prop}{w':World}(hr:(execOp a.eval o).run P w=.ok .skip w')(h:K (a.put o.dst undef) w'):o.wp P a w K Q:=by
 unfold Oper.wp;rw[hr];exact h
theorem Zbp {v:S.AV}{y:S.Tail}{drop:Option Nat}{dst:Option Tmp}(h:(S.leave N dst v y drop).run s=some (e,l)):(dst=none/\e=⟨none,none,none⟩)\/∃d,dst=some d/\d<N/\e=⟨some (d,v,y),drop,none⟩:=by
 unfold S.leave at h
 split at h
 .rename_i d
  split at h
  .rename_i hd
   simp only[S.Rd.run,Option.some.injEq,Prod.mk.injEq] at h;exact .inr ⟨d,rfl,hd,h.1.symm⟩
  .simp[S.Rd.run] at h
 .simp only[S.Rd.run,Option.some.injEq,Prod.mk.injEq] at h
  exact .inl ⟨rfl,h.1.symm⟩
theorem Zz (hG:Gam B N w0 H0 s a w H φ){v:S.AV}{u:Value}(he:(S.leave N o.dst v none none).run s=some (e,l))(hx:Zta H w φ s v u)(hr:(execOp a.eval o).run P w=.ok (.value u) w):Zko P B N w0 H0 o s e a w:=by
 intro K Q hK;refine Zdr hr (hK _ _ ?_);rcases Zbp he with⟨h1,rfl⟩|⟨d,h1,hd,rfl⟩
 .rw[h1]
  exact⟨H,φ,hG⟩
 .rw[h1]
  exact⟨H,φ,hG.value hd hx⟩
theorem Zhs (hG:Gam B N w0 H0 s a w H φ){x:Operand}(ho:o.op=.assign x\/o.op=.move x)(he:(S.effAssign N o.dst x).run s=some (e,l)):Zko P B N w0 H0 o s e a w:=by
 have hrun:(execOp a.eval o).run P w=.ok (.value (a.eval x)) w:=by
  rcases ho with ho|ho <;> (unfold execOp;simp only[ho,Yam])
 cases x with
 | tmp t =>
  unfold S.effAssign at he;obtain⟨v,_,_,h1,h2⟩:=Zg _ _ he;simp only[S.Rd.run] at h2;have hs:s.sl t=some v:=by
   simp only[S.evalA,S.Rd.run] at h1
   split at h1
   .rename_i u l' hu
    simp only[Option.some.injEq,Prod.mk.injEq] at h1;obtain⟨rfl,_⟩:=h1;exact Z2 hu
   .cases h1
  split at h2
  .rename_i e' l' h3
   simp only[Option.some.injEq,Prod.mk.injEq] at h2;obtain⟨rfl,_⟩:=h2
   split at h3
   .rename_i z htl
    intro K Q hK;refine Zdr hrun (hK _ _ ?_);rcases Zbp h3 with⟨h4,rfl⟩|⟨d,h4,hd,rfl⟩
    .rw[h4]
     exact⟨H,φ,hG⟩
    .rw[h4]
     refine⟨H,φ,hG.next (.inr ⟨d,v,_,rfl,rfl,hd,?_,λ z hz=>⟨?_,λ t' g hne hdr hsm hg hg2=>?_⟩⟩) (Yj _ _) (Stay.refl _ _) (λ _ _=>rfl) hG.bnd (λ _ _=>rfl) hG.ent hG.inj (λ _ _ _ _ _ _=>⟨rfl,rfl⟩)⟩
     .exact hG.slot t v hs
     .cases hz
      obtain⟨x',hx',hok⟩:=hG.tail t _ htl;rw[hs] at hx'
      cases hx'
      exact hok
     .have hne':t'≠t:=λ e=>hdr (by rw[e])
      exact hG.tinj t' t hne' hsm (by rw[htl];rfl) g hg hg2
   .exact Zz hG h3 (hG.slot t v hs) hrun
  .cases h2
 | const c =>
  unfold S.effAssign at he;obtain⟨v,_,_,h1,h2⟩:=Zg _ _ he;have hc:=Z2 h1;intro K Q hK;refine Zdr hrun (hK _ _ ?_);rcases Zbp h2 with⟨h4,rfl⟩|⟨d,h4,hd,rfl⟩
  .rw[h4]
   exact⟨H,φ,hG⟩
  .rw[h4]
   have hnil:∀z,(match v with | .row _ _=>some ((0,0):TypeId×Nat) | _=>none)=some z->c=.slice none 0 0/\v=.row 0 []:=λ z hz=>by
    unfold S.constA at hc
    split at hc <;> cases hc <;> first | (simp at hz;done) | exact⟨rfl,rfl⟩
   refine⟨H,φ,hG.next (.inr ⟨d,v,_,rfl,rfl,hd,.inr (Zcd hc H w).1,λ z hz=>⟨?_,λ t' g hne hdr hsm hg hg2=>?_⟩⟩) (Yj _ _) (Stay.refl _ _) (λ _ _=>rfl) hG.bnd (λ _ _=>rfl) hG.ent hG.inj (λ _ _ _ _ _ _=>⟨rfl,rfl⟩)⟩
   .obtain⟨rfl,rfl⟩:=hnil z hz
    exact⟨0,[],rfl,.inl ⟨rfl,rfl⟩⟩
   .obtain⟨rfl,rfl⟩:=hnil z hz
    simp[Act.eval,Yaj] at hg2
 | func f =>
  unfold S.effAssign at he;obtain⟨v,_,_,h1,h2⟩:=Zg _ _ he;exact Zz hG h2 (Zj hG h1) hrun
 | global g =>
  unfold S.effAssign at he;obtain⟨v,_,_,h1,h2⟩:=Zg _ _ he;exact Zz hG h2 (Zj hG h1) hrun
theorem Zja (hG:Gam B N w0 H0 s a w H φ){i:Nat}(hi:(s.hp i).isSome=true):φ i<w.heap.size:=by
 obtain⟨⟨t,cs⟩,h⟩:=Y8.1 hi;obtain⟨_,_,vs,h1,_⟩:=hG.ent i t cs h;exact(Yv.1 h1).1
theorem Zce {H':Zl}{w':World}(hG:Gam B N w0 H0 s a w H φ)(hb:Below w.heap.size w w')(hH:∀b,b<w.heap.size->H' b=H b):Stay H w H' w':=λ b h e=>by
 have hlt:=(hG.bnd b h e).lt;refine⟨h,(hH b hlt).trans e,Yd _,λ o _=>?_⟩;exact hb.cell (p:=⟨b,o,none⟩) hlt
theorem Zjb (hG:Gam B N w0 H0 s a w H φ){id:Nat}{t:TypeId}{cs:List S.AV}{vs:List Value}(he:(S.fresh N o.dst id t cs).run s=some (e,l))(hx:RepL H w cs vs)
 (hr:(execOp a.eval o).run P w=.ok (.value (.pointer (some ⟨w.heap.size,0,none⟩))) (w.alloc (.cells vs.toArray t (0,0)))):Zko P B N w0 H0 o s e a w:=by
 unfold S.fresh at he
 split at he
 .rename_i d hdst
  split at he
  .rename_i hd
   simp only[S.Rd.run] at he
   split at he
   .rename_i e' l' h1
    split at h1
    .rename_i hnone
     simp only[S.Rd.run,Option.some.injEq,Prod.mk.injEq] at h1 he;obtain⟨rfl,_⟩:=h1;obtain⟨rfl,_⟩:=he;intro K Q hK;refine Zdr hr (hK _ _ ?_);have hb:Below w.heap.size w (w.alloc (.cells vs.toArray t (0,0))):=(Yj _ _).alloc (Yd _) _;have hst:Stay H w H (w.alloc (.cells vs.toArray t (0,0))):=Zce hG hb λ _ _=>rfl
     have hsz:(w.alloc (.cells vs.toArray t (0,0))).heap.size=w.heap.size+1:=by show(w.heap.push _).size=_;simp
     have hnew:=heap_alloc_new w (.cells vs.toArray t (0,0));rw[hdst];refine⟨H,λ i=>if i=id then w.heap.size else φ i,hG.next (.inr ⟨d,_,_,rfl,rfl,hd,.inl ⟨id,0,rfl,?_,?_⟩,λ z hz=>by cases hz⟩) (hb.mono hG.base) hst (λ _ _=>rfl) (λ b n h=>?_) (λ i hi=>?_) (λ i t' cs' hi=>?_) (λ i j hi hj hij=>?_) (λ t' g _ _ hsm hg=>⟨?_,rfl⟩)⟩
     .unfold S.Eff.apply;simp
     .simp
     .exact(hG.bnd b n h).below hb
     .have hne:i≠id:=λ e=>by rw[e,hnone] at hi;cases hi
      simp only[if_neg hne]
     .unfold S.Eff.apply at hi
      simp only at hi;by_cases c:i=id
      .rw[if_pos c] at hi
       cases hi
       simp only[if_pos c];refine⟨hG.base,?_,vs,hnew,RepL.stay hst cs vs hx⟩
       cases hH:H w.heap.size with
       | none=>rfl
       | some n=>have:=(hG.bnd _ n hH).lt;omega
      .rw[if_neg c] at hi
       simp only[if_neg c];obtain⟨h2,h3,vs',h4,h5⟩:=hG.ent i t' cs' hi;exact⟨h2,h3,vs',(hb.block _ (Zja hG (by rw[hi];rfl))).trans h4,RepL.stay hst cs' vs' h5⟩
     .have hlive:∀i,i≠id->(((⟨some (d,.box id 0,none),none,some (id,(t,cs))⟩:S.Eff).apply s).hp i).isSome=true->(s.hp i).isSome=true:=λ i hne hi=>by
       unfold S.Eff.apply at hi;simp only[if_neg hne] at hi;exact hi
      have hij:(if i=id then w.heap.size else φ i)=(if j=id then w.heap.size else φ j):=hij;by_cases ci:i=id
      .by_cases cj:j=id
       .rw[ci,cj]
       .rw[if_pos ci,if_neg cj] at hij
        have:=Zja hG (hlive j cj hj);omega
      .by_cases cj:j=id
       .rw[if_neg ci,if_pos cj] at hij
        have:=Zja hG (hlive i ci hi);omega
       .rw[if_neg ci,if_neg cj] at hij
        exact hG.inj i j (hlive i ci hi) (hlive j cj hj) hij
     .obtain⟨z,hz⟩:=Y8.1 hsm
      obtain⟨x,_,hok⟩:=hG.tail t' z hz;obtain⟨⟨n,hn⟩,_⟩:=hok.own hg;exact hb.block g (hG.bnd g n hn).lt
    .simp[S.Rd.run] at h1
   .cases he
  .simp[S.Rd.run] at he
 .simp[S.Rd.run] at he
theorem Zgc {t:TypeId}{cs:List S.AV}(h:S.zeroA P t=some cs):∃i z,P.info? t=some i/\i.zero=some z/\S.constsA z.cells.toList=some cs:=by
 unfold S.zeroA at h
 split at h
 .rename_i i hi
  split at h
  .rename_i z hz
   exact⟨i,z,hi,hz,h⟩
  .cases h
 .cases h
theorem Zp0 (hG:Gam B N w0 H0 s a w H φ){id:Nat}{t:TypeId}(ho:o.op=.alloc t)(he:(match S.zeroA P t with|some cs=>S.fresh N o.dst id t cs|none=>.fail).run s=some (e,l)):Zko P B N w0 H0 o s e a w:=by
 split at he
 .rename_i cs hcs
  obtain⟨i,z,hi,hz,hc⟩:=Zgc hcs;refine Zjb hG he (Zct hc H w) ?_;unfold execOp;simp only[ho,Instr.alloc,zeroValue,typeInfo,Yad,run_program,Y0,hi,hz,Yam,newVar,newRow,run_newObj];rfl
 .simp[S.Rd.run] at he
theorem Zwc (hG:Gam B N w0 H0 s a w H φ){id:Nat}{t:TypeId}{x:Operand}(ho:o.op=.box t x)(he:((S.evalA x).bind λ v=>(S.Rd.ofOpt v.cells).bind λ cs=>S.fresh N o.dst id t cs).run s=some (e,l)):Zko P B N w0 H0 o s e a w:=by
 obtain⟨v,_,_,h1,h2⟩:=Zg _ _ he;obtain⟨cs,_,_,h3,h4⟩:=Zg _ _ h2;have hc:=Z2 h3;obtain⟨vs,e1,h5⟩:=Zhn (Zhr (Zj hG h1) hc) hc;refine Zjb hG h4 h5 ?_;unfold execOp;simp only[ho,Instr.box,newVar,newRow,Yad,run_newObj,Y0,Yam,e1];rfl
theorem Zjc {ps:Array (Nat×Operand)}:(ps.map λ(i,x)=>(i,a.eval x)).toList=ps.toList.map λ p=>(p.1,a.eval p.2):=by simp
theorem Zl1:∀{fs:List Field} {places:List (Nat×Nat)},S.placesA P fs=some places->fs.mapM (λ f=>(P.info? f.type).map λ i=>(f.offset,i.size))=some places
 | [],places,h=>by simp[S.placesA] at h;subst h;rfl
 | f::r,places,h=>by
  unfold S.placesA at h
  split at h
  .rename_i i l h1 h2
   cases h
   rw[List.mapM_cons,h1];simp[Zl1 h2]
  .cases h
theorem Zp1 (hG:Gam B N w0 H0 s a w H φ){t:TypeId}{ps:Array (Nat×Operand)}(ho:o.op=.build t ps)(he:((S.partsA ps.toList).bind λ vs=>S.effBuild P N o.dst t vs).run s=some (e,l)):Zko P B N w0 H0 o s e a w:=by
 obtain⟨vs,_,_,h1,h2⟩:=Zg _ _ he;have hp:=Zfi hG h1;rw[<- Zjc] at hp;have fin:∀(place:Nat->Option (Nat×Nat)) (z:Value) (cs0:List S.AV) (l:List Nat),S.constsA z.cells.toList=some cs0->((S.Rd.ofOpt (S.fillA place cs0 vs)).bind λ cs=>S.leave N o.dst (.agg cs) none none).run s=some (e,l) ->
  (∀cells,Instr.fill place z.cells ((ps.map λ(i,x)=>(i,a.eval x)).toList)=some cells->P.built t ((ps.map λ(i,x)=>(i,a.eval x)).toList)=some cells)->Zko P B N w0 H0 o s e a w:=λ place z cs0 l hz h hb=>by
  obtain⟨cs,_,_,h3,h4⟩:=Zg _ _ h;obtain⟨r,hr,hrep⟩:=Zkh hp (Zct hz H w) (Z2 h3);refine Zz hG h4 (u:=.agg r) (.inr ?_) ?_
  .rw[RepV]
   exact⟨r.toList,by simp,hrep⟩
  .unfold execOp
   simp only[ho,Yad,run_build w t _ r (hb r hr),Y0,Yam]
 unfold S.effBuild at h2
 split at h2
 .rename_i cs0 fields hz hu
  obtain⟨i,z,hi,hzz,hc⟩:=Zgc hz
  split at h2
  .rename_i places hpl
   refine fin _ z cs0 _ hc h2 λ cells hf=>?_
   unfold Program.built;simp only[hi,hu,hzz,Zl1 hpl];exact hf
  .simp[S.Rd.run] at h2
 .rename_i cs0 n e' hz hu
  obtain⟨i,z,hi,hzz,hc⟩:=Zgc hz
  split at h2
  .rename_i k hk
   refine fin _ z cs0 _ hc h2 λ cells hf=>?_
   unfold S.sizeA at hk
   cases hie:P.info? e' with
   | none=>rw[hie] at hk;cases hk
   | some ie =>
    rw[hie] at hk;simp at hk;subst hk;unfold Program.built;simp only[hi,hu,hzz,hie];exact hf
  .simp[S.Rd.run] at h2
 .simp[S.Rd.run] at h2
end
end
