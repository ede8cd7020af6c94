/- Parts. -/
import Derived.Test.YtfhiobkkdcdmiaaGreatDoorZGFrm
set_option linter.all false
open Nat renaming le_refl->Yb
open List renaming length_append->Yd,getElem?_eq_getElem->Yf,getElem?_eq_some_iff->Yg,length_cons->Yi,mem_cons_self->Yt,mem_of_getElem?->Yw,mem_cons_of_mem->Yy,nodup_cons->Yb2,nodup_nil->Yc1
namespace Go.Proofs.YtfhiobkkdcdmiaaGreatDoor
section
open Go.RowKit
structure S.Lo (cf:S.Cf)(T:S.Ob->Prop)(X:Int->Prop)(st0:S.Vw)(p:Int)(ρ:List S.Ob)(st:S.Vw):Prop where
 tin:∀ o∈ρ,T o
 ch:S.Ch cf ρ st
 reg:∀ j,j≠4->j≠5->j≠29->st.reg j=st0.reg j
 mem:∀ a,¬ X a->¬ (cf.fr<=a/\a<cf.fr+cf.hf)->¬ (cf.to_<=a/\a<cf.to_+S.tot ρ)->st.mem a=st0.mem a
 root:∀ a,X a->st.mem a=S.mv cf.to_ ρ (st0.mem a)/\S.Cl cf ρ (st0.mem a)
 old:∀ o∈ρ,∀ ν,S.nw cf.to_ ρ o.at_=some ν->∀ (k:Nat) (w:Int),o.ws[k]?=some w->(ν+(k:Int)<p->st.mem (ν+(k:Int))=S.mv cf.to_ ρ w/\S.Cl cf ρ w)/\(p<=ν+(k:Int)->st.mem (ν+(k:Int))=w)
 inp:st.inp=st0.inp
 out:st.out=st0.out
section
variable {I:S.Img}(hI:I.Ok){cf:S.Cf}(hc:S.Cf.Ok I cf){T:S.Ob->Prop}
include hc
theorem Zsw {o:S.Ob}{r:List S.Ob}(hs:∀ x∈o::r,x∈cf.O)(hn:(o::r).Nodup){x:S.Ob}(hx:x∈r):o.at_≠x.at_:=fun e=>by
 have:=Zuv hc (hs o Yt) (hs x (Yy _ hx)) e;subst this;exact (Yb2.1 hn).1 hx
theorem Zrh:∀ {ρ:List S.Ob} {t a:Int},(∀ o∈ρ,o∈cf.O)->ρ.Nodup->t<=a->a<t+S.tot ρ->∃ o∈ρ,∃ (ν:Int) (k:Nat) (w:Int),S.nw t ρ o.at_=some ν/\a=ν+k/\o.ws[k]?=some w
 | [],t,a,_,_,h1,h2=>by rw [S.tot] at h2;omega
 | o::r,t,a,hs,hn,h1,h2=>by
  rw [S.tot] at h2;by_cases c:a<t+o.ws.length
  ·obtain ⟨k,hk⟩:∃ k:Nat,a=t+k:=⟨(a-t).toNat,by omega⟩
   have hlt:k<o.ws.length:=by omega
   exact ⟨o,Yt,t,k,o.ws[k],by rw [S.nw,if_pos rfl],hk,Yf hlt⟩
  ·obtain ⟨x,hx,ν,k,w,e1,e2,e3⟩:=Zrh (ρ:=r) (t:=t+o.ws.length) (a:=a) (fun x hx=>hs x (Yy _ hx)) (Yb2.1 hn).2 (by omega) (by omega)
   exact ⟨x,Yy _ hx,ν,k,w,by rw [S.nw,if_neg (Zsw hc hs hn hx)];exact e1,e2,e3⟩
theorem Zok {a:Int}:∀ {ρ:List S.Ob} {t ν:Int} {δ:List S.Ob},S.nw t ρ a=none->S.nw t (ρ++δ) a=some ν->t+S.tot ρ<=ν
 | [],t,ν,δ,_,h=>by
  obtain ⟨_,_,_,h1,_⟩:=Zf8 h;rw [S.tot];omega
 | o::r,t,ν,δ,hn,h=>by
  rw [S.nw] at hn;rw [List.cons_append,S.nw] at h
  split at hn
  ·cases hn
  ·rename_i c
   rw [if_neg c] at h;have:=Zok hn h;rw [S.tot];omega
theorem Z6j {t:Int}{ρ:List S.Ob}(hs:∀ o∈ρ,o∈cf.O){o:S.Ob}(ho:o∈cf.O)(hno:o ∉ ρ):S.nw t ρ o.at_=none:=by
 cases h:S.nw t ρ o.at_ with
 | none=>rfl
 | some ν=>exact absurd (Zlv hc hs ho h).1 hno
include hI
theorem Z2o {X:Int->Prop}(hX:∀ a,X a->S.a8 cf a){st0:S.Vw}(hXw:∀ a,X a->S.WOk cf T (st0.mem a)){p:Int}{ρ:List S.Ob}{st:S.Vw}(hL:S.Lo cf T X st0 p ρ st)(h0:cf.to_<=p)(h1:p<cf.to_+S.tot ρ)(hw:S.WOk cf T (st.mem p))
 {ρ':List S.Ob} {st2:S.Vw} (htr:S.Tr cf T ρ (st.args [st.mem p]) ρ' st2) (hcl:S.Cl cf ρ' (st.mem p)) (hwo:∀ o∈ρ,∀ w∈o.ws,S.WOk cf T w) :
 S.Lo cf T X st0 (p+1) ρ' (st2.sto p (S.mv cf.to_ ρ' (st.mem p))):=by
 obtain ⟨δ,e,hδ⟩:=htr.ext;have t1:S.tot ρ'=S.tot ρ+S.tot δ:=by rw [e,Zbq]
 have p1:=Zv δ;have hsum:=Zcm ρ' cf.O htr.ch.nd htr.ch.sub;have hs:=hc.sum;have hto0:=hc.to0;have hm:∀ a,(st2.sto p (S.mv cf.to_ ρ' (st.mem p))).mem a=if a=p then S.mv cf.to_ ρ' (st.mem p) else st2.mem a:=fun _=>rfl
 have ap:∀ a,cf.to_<=a->a<cf.to_+cf.hf->¬ (cf.fr<=a/\a<cf.fr+cf.hf):=fun a q1 q2 q3=>by rcases hc.apart with ap | ap <;> omega
 refine ⟨fun o ho=>?_,⟨htr.ch.sub,htr.ch.nd,htr.ch.r29,?_,?_,fun o ho hno k w hk=>?_,fun o ho ν hν=>?_⟩,fun j h4 h5 h29=>?_,fun a hx ha hb=>?_,fun a hx=>?_,fun o ho ν hν k w hk=>?_,htr.inp.trans hL.inp,htr.out.trans hL.out⟩
 ·rw [e] at ho
  exact (List.mem_append.1 ho).elim (hL.tin o) (hδ o)
 ·rw [hm,if_neg (by omega)];exact htr.ch.m2
 ·rw [hm,if_neg (by omega)];exact htr.ch.m4
 ·have:=hc.obs o ho
  have hk1:=(Yg.1 hk).1;rw [hm,if_neg (fun q=>ap p h0 (by omega) ⟨by omega,by omega⟩)];exact htr.ch.unc o ho hno k w hk
 ·have:=hc.obs o (htr.ch.sub o ho)
  have hl:=Zhl hc (htr.ch.sub o ho);rw [hm,if_neg (fun q=>ap p h0 (by omega) ⟨by omega,by omega⟩)];exact htr.ch.cop o ho ν hν
 ·show st2.reg j=st0.reg j
  rw [htr.reg j h4 h5 h29,<- hL.reg j h4 h5 h29]
  show (if 4<=j/\j<4+(1:Nat) then _ else st.reg j)=_
  rw [if_neg (by omega)]
 ·rw [hm,if_neg (by omega),htr.mem a ha (by omega)]
  exact hL.mem a hx ha (by omega)
 ·have hO:=hX a hx
  obtain ⟨q1,q2⟩:=hL.root a hx;rw [hm,if_neg (fun q=>hO.2.1 ⟨by omega,by omega⟩),htr.mem a hO.1 (fun q=>hO.2.1 ⟨by omega,by omega⟩)]
  show st.mem a=_/\_
  rw [q1];exact ⟨(Zpt hI hc e (hXw a hx) q2 htr.ch.sub).symm,fun o hoo he=>htr.sub hc (q2 o hoo he)⟩
 ·by_cases c:o∈ρ
  ·obtain ⟨ν',hν'⟩:=Zfl (t:=cf.to_) c
   have hq:=Zek δ hν';rw [<- e,hν] at hq
   cases hq
   obtain ⟨_,q1,q2⟩:=Zlv hc hL.ch.sub (hL.ch.sub o c) hν';have hk1:=(Yg.1 hk).1;obtain ⟨g1,g2⟩:=hL.old o c _ hν' k w hk;by_cases cp:ν+(k:Int)=p
   ·have hwe:w=st.mem p:=by rw [<- cp];exact (g2 (by omega)).symm
    refine ⟨fun _=>?_,fun q=>by omega⟩;rw [hm,if_pos cp,hwe];exact ⟨rfl,hcl⟩
   ·have hsame:(st2.sto p (S.mv cf.to_ ρ' (st.mem p))).mem (ν+(k:Int))=st.mem (ν+(k:Int)):=by
     rw [hm,if_neg cp,htr.mem _ (ap _ (by omega) (by omega)) (by omega)];rfl
    rw [hsame];refine ⟨fun q=>?_,fun q=>g2 (by omega)⟩;obtain ⟨g3,g4⟩:=g1 (by omega);rw [g3];exact ⟨(Zpt hI hc e (hwo o c w (Yw hk)) g4 htr.ch.sub).symm,fun o hoo he=>htr.sub hc (g4 o hoo he)⟩
  ·have hb:=Zok hc (Z6j hc (t:=cf.to_) hL.ch.sub (htr.ch.sub o ho) c) (e ▸ hν)
   refine ⟨fun q=>by omega,fun q=>?_⟩;rw [hm,if_neg (by omega)];exact htr.new o ho c ν hν k w hk
theorem Zy9 {iM:Nat}(hM:S.Seg I S.kMove iM (S.bItems S.rMove)){dep lk:Int}{behind:Bool}(hd:19<=dep){X:Int->Prop}(hX:∀ a,X a->S.a8 cf a){st0:S.Vw}(hXw:∀ a,X a->S.WOk cf T (st0.mem a))
 (hTw:∀ o∈cf.O,T o->∀ w∈o.ws,S.WOk cf T w) {ρ:List S.Ob} {st:S.Vw} (hL:S.Lo cf T X st0 cf.to_ ρ st)
 {r:List S.BS} {c:Nat} {Q:List Int->S.Vw->Nat->Prop} {R:S.BO->Nat->Prop}
 (hQ:∀ ρ' st' (c':Nat),S.Lo cf T X st0 (cf.to_+S.tot ρ') ρ' st'->0<=S.tot ρ'-S.tot ρ->(c':Int)<=c+10+130*S.tot ρ'+40*(S.tot ρ'-S.tot ρ)->S.wpSs I dep lk behind r [cf.to_+S.tot ρ'] st' c' Q R) :
 S.wpSs I dep lk behind (S.sWh (S.eLt (S.eL 0) (S.eR 29)) S.bScan::r) [cf.to_] st c Q R:=by
 have hs:=hc.sum;refine Zur rfl (fun env st' c' k=>∃ (i:Nat) (ρ':List S.Ob),(i:Int)<=S.tot ρ'/\(k:Int)=cf.hf-i/\env=[cf.to_+i]/\S.Lo cf T X st0 (cf.to_+i) ρ' st'/\0<=S.tot ρ'-S.tot ρ/\(c':Int)<=c+130*i+40*(S.tot ρ'-S.tot ρ))
  (k0:=cf.hf.toNat) ⟨0,ρ,Zv ρ,by have:=hc.hf0;omega,by simp,by simpa using hL,by omega,by simp⟩ ?_
 rintro env st' c' k ⟨i,ρ',hi,hk,rfl,hL',hg,hcc⟩;have hsum:=Zcm ρ' cf.O hL'.ch.nd hL'.ch.sub;have htoz:=hc.toz;have hto0:=hc.to0;have q1:S.coE (S.eLt (S.eL 0) (S.eR 29))=3:=rfl;have elt:S.evE I lk [cf.to_+(i:Int)] st' (S.eLt (S.eL 0) (S.eR 29))=if cf.to_+(i:Int)<cf.to_+S.tot ρ' then 1 else 0:=by
  show S.alu 14 (cf.to_+(i:Int)) (st'.reg 29)=_
  rw [hL'.ch.r29];exact Zcl _ _
 refine ⟨Zfj (by decide) (Zc2 0) (Z1h 29),fun hz=>?_,fun hnz=>?_⟩
 ·have he:(i:Int)=S.tot ρ':=by
   refine Classical.byContradiction fun h=>?_
   rw [elt,if_pos (by omega)] at hz
   cases hz
  have:=hQ ρ' st' (c'+S.coE (S.eLt (S.eL 0) (S.eR 29))+4) (he ▸ hL') hg (by rw [q1];omega);rw [he];exact this
 ·have hlt:(i:Int)<S.tot ρ':=Classical.byContradiction fun h=>by
   rw [elt,if_neg (by omega)] at hnz;exact hnz rfl
  obtain ⟨o,ho,ν,j,w,e1,e2,e3⟩:=Zrh hc (t:=cf.to_) (a:=cf.to_+i) hL'.ch.sub hL'.ch.nd (by omega) (by omega);have hmw:st'.mem (cf.to_+i)=w:=by
   have:=(hL'.old o ho ν e1 j w e3).2 (by omega);rw [e2];exact this
  have hwo:∀ o∈ρ',∀ w∈o.ws,S.WOk cf T w:=fun o ho=>hTw o (hL'.ch.sub o ho) (hL'.tin o ho)
  have hww:S.WOk cf T (st'.mem (cf.to_+i)):=by
   rw [hmw];exact hwo o ho w (Yw e3)
  refine Znf hI hc hM hd hL'.ch (hc.tod _ (by omega) (by omega)) hww fun ρ2 st2 c2 htr hcl hcc2=>?_
  have hst:=Z2o hI hc hX hXw hL' (by omega) (by omega) hww htr hcl hwo;obtain ⟨δ,e,_⟩:=htr.ext;have t1:S.tot ρ2=S.tot ρ'+S.tot δ:=by rw [e,Zbq]
  have p1:=Zv δ;refine ⟨k-1,by omega,i+1,ρ2,by omega,by omega,?_,?_,by omega,by rw [q1] at hcc2;omega⟩
  ·rw [show cf.to_+((i+1:Nat):Int)=cf.to_+i+1 from by omega]
  ·rw [show cf.to_+((i+1:Nat):Int)=cf.to_+i+1 from by omega]
   exact hst
end
end
section
open Go.RowKit
theorem Zol:S.chkB S.rCollect=0:=by kernel_rfl
theorem Z0d {env:List Int}(h:(env.length:Int)=1):∃ a,env=[a]:=by
 match env,h with
 | [a],_=>exact ⟨a,rfl⟩
 | [],h=>simp at h
 | _::_::_,h=>simp only [Yi] at h;omega
def S.RX (I:S.Img)(mem:Int->Int)(cnt n:Nat)(x:Int):Prop:=((x=5\/(16<=x/\x<16+cnt))\/S.FX mem (mem 6) n x)\/(1312<=x/\x<I.lab S.kCode)
structure S.df (I:S.Img)(cf:S.Cf)(T:S.Ob->Prop)(cnt n:Nat)(mem:Int->Int):Prop where
 m2:mem 2=cf.fr
 m3:mem 3=cf.to_
 m4:mem 4=cf.hf
 obj:∀ o∈cf.O,∀ (k:Nat) (w:Int),o.ws[k]?=some w->mem (o.at_+(k:Int))=w
 m8:mem 8=cnt
 c16:cnt<=16
 code1:1312<=I.lab S.kCode
 codef:I.lab S.kCode<=cf.fr
 codet:I.lab S.kCode<=cf.to_
 dat:∀ x,1312<=x->x<I.lab S.kCode->S.Dat I x
 fm:(mem 6=0/\n=0)\/(mem 6≠0/\S.dc I cf T mem (mem 6) n/\∀ j:Nat,j<=n->mem 6+j≠5/\¬ (16<=mem 6+j/\mem 6+j<16+cnt))
 root:∀ x,S.RX I mem cnt n x->S.WOk cf T (mem x)
 tobj:∀ o∈cf.O,T o->∀ w∈o.ws,S.WOk cf T w
structure S.Cd (cf:S.Cf)(T:S.Ob->Prop)(X:Int->Prop)(st:S.Vw)(ρ:List S.Ob)(st':S.Vw):Prop where
 tin:∀ o∈ρ,T o
 sub:∀ o∈ρ,o∈cf.O
 nd:ρ.Nodup
 m2:st'.mem 2=cf.to_
 m3:st'.mem 3=cf.fr
 r26:st'.reg 26=cf.to_+S.tot ρ
 r27:st'.reg 27=cf.to_+cf.hf
 reg:∀ j,j≠4->j≠5->j≠26->j≠27->j≠29->st'.reg j=st.reg j
 mem:∀ a,a≠2->a≠3->¬ X a->¬ (cf.fr<=a/\a<cf.fr+cf.hf)->¬ (cf.to_<=a/\a<cf.to_+S.tot ρ)->st'.mem a=st.mem a
 root:∀ a,X a->st'.mem a=S.mv cf.to_ ρ (st.mem a)/\S.Cl cf ρ (st.mem a)
 new:∀ o∈ρ,∀ ν,S.nw cf.to_ ρ o.at_=some ν->∀ (k:Nat) (w:Int),o.ws[k]?=some w->st'.mem (ν+(k:Int))=S.mv cf.to_ ρ w/\S.Cl cf ρ w
 inp:st'.inp=st.inp
 out:st'.out=st.out
def S.bz (I:S.Img)(cf:S.Cf)(T:S.Ob->Prop)(cnt n:Nat)(st:S.Vw)(o:S.BO)(k:Nat):Prop :=
 ∃ st' ρ,o=.ret st'/\S.Cd cf T (S.RX I st.mem cnt n) st ρ st'/\(k:Int)<=700+130*(cnt+(I.lab S.kCode-1312))+10100*n+170*S.tot ρ
section
variable {I:S.Img}(hI:I.Ok){cf:S.Cf}(hc:S.Cf.Ok I cf){T:S.Ob->Prop}
include hI hc
theorem Zcq {x:Int}(h0:4<x)(h1:x<1312):S.a8 cf x:=⟨fun q=>by have:=hc.fr0;omega,fun q=>by have:=hc.to0;omega,by omega,by omega⟩
theorem Z6k {m m':Int->Int}{a:Int}{n:Nat}(h:∀ j:Nat,j<n->m' (a+1+j)=m (a+1+j))(x:Int):S.FX m' a n x↔S.FX m a n x:=by
 constructor
 ·rintro ⟨j,hj,g⟩
  exact ⟨j,hj,h j hj ▸ g⟩
 ·rintro ⟨j,hj,g⟩
  exact ⟨j,hj,(h j hj).symm ▸ g⟩
theorem Zom {iM iS iF iC:Nat}(hM:S.Seg I S.kMove iM (S.bItems S.rMove))(hS:S.Seg I S.kScan iS (S.bItems S.rScan))(hF:S.Seg I S.kFrame iF (S.bItems S.rFrame))(hC:S.Seg I S.kCollect iC (S.bItems S.rCollect)){st:S.Vw}{cnt n:Nat}(h:S.df I cf T cnt n st.mem) :
 S.Real I S.kCollect false st 72 (fun _ o k=>S.bz I cf T cnt n st o k):=by
 refine Zg4 hI S.rCollect Zol hC (dep:=56) (by decide) st _ fun lk env _ _ hl hp=>?_
 obtain ⟨e0,rfl⟩:=Z0d hl;have hs:=hc.sum;have hsz:=hI.size2;have hfr0:=hc.fr0;have hto0:=hc.to0;have hhf:=hc.hf0;have hfrz:=hc.frz;have htoz:=hc.toz;have hcode1:=h.code1;have hcodef:=h.codef;have hc16:=h.c16;unfold S.rCollect;simp only;obtain ⟨o3,v3⟩:=Zv7 hI hc (lk:=lk) (env:=[e0]) (st:=st) (n:=3) (by decide) (by decide);refine Zq2 rfl o3 ?_;rw [v3,h.m3];have hch0:S.Ch cf [] (st.set 29 cf.to_):=⟨(fun o ho=>by cases ho),Yc1,(Zj _ _ _).trans (by rw [S.tot,Int.add_zero]),h.m2,h.m4,fun o ho _ k w hk=>h.obj o ho k w hk,fun o ho=>by cases ho⟩
 have hsc0:S.Sc cf T (fun _=>False) [] (st.set 29 cf.to_) [] (st.set 29 cf.to_):=S.Sc.refl hI hc (fun _ q=>q) hch0;refine Zlx hI hc hM hS (dep:=56) (by decide) hsc0 (a:=5) (b:=6) (l:=[S.eC 5,S.eC 6]) rfl ⟨Ze9 5,Ze9 6,trivial⟩ rfl (by decide) (fun x h1 h2=>⟨hc.low x (by omega) (by omega),Zcq hI hc (by omega) (by omega)⟩)
  (fun x h1 h2=>h.root x (.inl (.inl (.inl (by omega))))) (fun x hx=>hx.elim) fun ρ1 st1 c1 hsc1 hg1 hc1=>?_
 replace hsc1:=Zhm hI hc (Y:=fun x=>x=5) (fun x=>⟨fun q=>by rcases q with q | q;exact q.elim;omega,fun q=>.inr (by omega)⟩) hsc1
 have mem1:∀ x:Int,0<=x->x<1312->x≠5->st1.mem x=st.mem x:=fun x h1 h2 h3=>hsc1.mem x h3 (fun q=>by omega) (fun q=>by simp only [S.tot] at q;omega)
 obtain ⟨o8,v8⟩:=Zv7 hI hc (lk:=lk) (env:=[e0]) (st:=st1) (n:=8) (by decide) (by decide);rw [mem1 8 (by decide) (by decide) (by decide),h.m8] at v8;have he2:S.evEs I lk [e0] st1 [S.eC 16,S.eAdd (S.eC 16) (S.eW 8)]=[16,16+(cnt:Int)]:=by
  show [16%4294967296,S.alu 1 (16%4294967296) (S.evE I lk [e0] st1 (S.eW 8))]=_
  rw [v8,Zau];unfold S.u32m
  congr 2
  omega
 refine Zlx hI hc hM hS (dep:=56) (by decide) hsc1 (a:=16) (b:=16+cnt) (l:=[S.eC 16,S.eAdd (S.eC 16) (S.eW 8)]) rfl ⟨Ze9 16,Zfj (by decide) (Ze9 16) o8,trivial⟩ he2 (by omega)
  (fun x h1 h2=>⟨hc.low x (by omega) (by omega),Zcq hI hc (by omega) (by omega)⟩) (fun x h1 h2=>h.root x (.inl (.inl (.inr ⟨h1,h2⟩)))) (fun x hx=>⟨Zcq hI hc (by omega) (by omega),h.root x (.inl (.inl (.inl hx))),by omega⟩) fun ρ2 st2 c2 hsc2 hg2 hc2=>?_
 have mem2:∀ x:Int,0<=x->x≠5->¬ (16<=x/\x<16+cnt)->¬ (cf.fr<=x/\x<cf.fr+cf.hf)->¬ (cf.to_<=x/\x<cf.to_+cf.hf)->st2.mem x=st.mem x:=fun x h1 h2 h3 h4 h5=>hsc2.mem x (fun q=>q.elim h2 h3) h4 (fun q=>by
  have:=Zcm ρ2 cf.O hsc2.ch.nd hsc2.ch.sub;simp only [S.tot] at q;exact h5 ⟨by omega,by omega⟩)
 obtain ⟨o6,v6⟩:=Zv7 hI hc (lk:=lk) (env:=[e0]) (st:=st2) (n:=6) (by decide) (by decide);rw [mem2 6 (by decide) (by decide) (by omega) (by omega) (by omega)] at v6;have q1:S.coEs [S.eC 5,S.eC 6]=4:=rfl;have q2:S.coEs [S.eC 16,S.eAdd (S.eC 16) (S.eW 8)]=8:=rfl;have q3:S.coE (S.eW 3)=3:=rfl;have q6:S.coE (S.eW 6)=3:=rfl;have q7:S.coEs [S.eW 6]=3:=rfl;have q8:S.coEs [S.eC 1312,S.eA S.kCode]=4:=rfl;have q9:S.coE (S.eW 2)=3:=rfl;have rest:∀ (ρ3:List S.Ob) (st3:S.Vw) (c3:Nat),S.Sc cf T (fun x=>(x=5\/(16<=x/\x<16+cnt))\/S.FX st.mem (st.mem 6) n x) [] (st.set 29 cf.to_) ρ3 st3->(c3:Int)<=300+130*cnt+10100*n+40*S.tot ρ3 ->
  S.wpSs I 56 lk false [S.sDo (S.eF S.kScan [S.eC 1312,S.eA S.kCode]),S.sAs 0 (S.eW 3),S.sWh (S.eLt (S.eL 0) (S.eR 29)) S.bScan,S.sAs 0 (S.eW 2),S.sKeep 2 (S.eW 3),S.sKeep 3 (S.eL 0),S.sSet 26 (S.eR 29),S.sSet 27 (S.eAdd (S.eW 2) (S.eW 4))] [e0] st3 c3
   (fun _ st' c'=>S.bz I cf T cnt n st (.ret st') (c'+(if false=true then 5 else 3))) (fun o k=>S.bz I cf T cnt n st o k):=by
  intro ρ3 st3 c3 hsc3 hc3;have hfx:∀ x,S.FX st.mem (st.mem 6) n x->32<=x/\x<1056:=fun x q=>by
   have:=Zdu hI hc q;have hn:n<=31:=by
    rcases h.fm with ⟨_,rfl⟩ | ⟨_,hf,_⟩
    ·omega
    ·exact hf.n31
   omega
  refine Zlx hI hc hM hS (dep:=56) (by decide) hsc3 (a:=1312) (b:=I.lab S.kCode) (l:=[S.eC 1312,S.eA S.kCode]) rfl ⟨Ze9 1312,Z7d _,trivial⟩ rfl (by omega)
   (fun x h1 h2=>⟨h.dat x h1 h2,⟨fun q=>by omega,fun q=>by have:=h.codet;omega,by omega,by omega⟩⟩) (fun x h1 h2=>h.root x (.inr ⟨h1,h2⟩))
   (fun x hx=>⟨?_,h.root x (.inl hx),?_⟩) fun ρ4 st4 c4 hsc4 hg4 hc4=>?_
  ·rcases hx with (rfl | q) | q
   ·exact Zcq hI hc (by decide) (by decide)
   ·exact Zcq hI hc (by omega) (by omega)
   ·have:=hfx x q
    exact Zcq hI hc (by omega) (by omega)
  ·rcases hx with (rfl | q) | q
   ·omega
   ·omega
   ·have:=hfx x q
    omega
  have hout:∀ a,S.RX I st.mem cnt n a->S.a8 cf a:=fun a hx=>by
   rcases hx with ((rfl | q) | q) | q
   ·exact Zcq hI hc (by decide) (by decide)
   ·exact Zcq hI hc (by omega) (by omega)
   ·have:=hfx a q
    exact Zcq hI hc (by omega) (by omega)
   ·exact ⟨fun q2=>by omega,fun q2=>by have:=h.codet;omega,by omega,by omega⟩
  have hm3:st4.mem 3=cf.to_:=by
   rw [hsc4.mem 3 (fun q=>by
    rcases q with ((q | q) | q) | q
    ·omega
    ·omega
    ·have:=hfx 3 q;omega
    ·omega) (fun q=>by omega) (fun q=>by simp only [S.tot] at q;omega)]
   exact h.m3
  obtain ⟨o3b,v3b⟩:=Zv7 hI hc (lk:=lk) (env:=[e0]) (st:=st4) (n:=3) (by decide) (by decide);rw [hm3] at v3b;refine Zfa rfl o3b ?_;rw [v3b];have hset:[e0].set (Int.toNat 0) cf.to_=[cf.to_]:=rfl;rw [hset];obtain ⟨δ,eδ,hδ⟩:=hsc4.ext;rw [List.nil_append] at eδ;have hL:S.Lo cf T (S.RX I st.mem cnt n) (st.set 29 cf.to_) cf.to_ ρ4 st4:=⟨fun o ho=>hδ o (eδ ▸ ho),hsc4.ch,hsc4.reg,fun a hx ha hb=>hsc4.mem a hx ha (fun q=>hb (by simp only [S.tot] at q;omega)),hsc4.root,
   fun o ho ν hν k w hk=>⟨fun q=>by
    have:=(Zlv hc hsc4.ch.sub (hsc4.ch.sub o ho) hν).2.1;omega,fun _=>hsc4.new o ho (fun q=>by cases q) ν hν k w hk⟩,hsc4.inp,hsc4.out⟩
  refine Zy9 hI hc hM (by decide) hout (st0:=st.set 29 cf.to_) (fun a ha=>h.root a ha) h.tobj hL fun ρ5 st5 c5 hL5 hg5 hc5=>?_
  have hsum5:=Zcm ρ5 cf.O hL5.ch.nd hL5.ch.sub;have t5:=Zv ρ5;have hm3':st5.mem 3=cf.to_:=by
   rw [hL5.mem 3 (fun q=>by
    rcases q with ((q | q) | q) | q
    ·omega
    ·omega
    ·have:=hfx 3 q;omega
    ·omega) (fun q=>by omega) (fun q=>by omega)]
   exact h.m3
  obtain ⟨o2,v2⟩:=Zv7 hI hc (lk:=lk) (env:=[cf.to_+S.tot ρ5]) (st:=st5) (n:=2) (by decide) (by decide);refine Zfa rfl o2 ?_;rw [v2,hL5.ch.m2];have hset2:[cf.to_+S.tot ρ5].set (Int.toNat 0) cf.fr=[cf.fr]:=rfl;rw [hset2];obtain ⟨o3c,v3c⟩:=Zv7 hI hc (lk:=lk) (env:=[cf.fr]) (st:=st5) (n:=3) (by decide) (by decide);have d2:=hc.low 2 (by decide) (by decide);have d3:=hc.low 3 (by decide) (by decide);refine Zq3 (a:=S.eC 2) rfl (Ze9 2) rfl o3c (p:=2) rfl d2.2 ?_;rw [v3c,hm3'];refine Zq3 (a:=S.eC 3) rfl (Ze9 3) rfl (Zc2 0) (p:=3) rfl d3.2 ?_;have hl0:∀ st,S.evE I lk [cf.fr] st (S.eL 0)=cf.fr:=fun _=>rfl
  rw [hl0];refine Zq2 rfl (Z1h 29) ?_;have hr29:S.evE I lk [cf.fr] ((st5.sto 2 cf.to_).sto 3 cf.fr) (S.eR 29)=cf.to_+S.tot ρ5:=hL5.ch.r29;rw [hr29];obtain ⟨st6,h6⟩:=Yx (((st5.sto 2 cf.to_).sto 3 cf.fr).set 26 (cf.to_+S.tot ρ5));have hm6:∀ a,st6.mem a=if a=3 then cf.fr else if a=2 then cf.to_ else st5.mem a:=fun a=>by rw [h6];rfl
  rw [<- h6];obtain ⟨o2d,v2d⟩:=Zv7 hI hc (lk:=lk) (env:=[cf.fr]) (st:=st6) (n:=2) (by decide) (by decide);obtain ⟨o4d,v4d⟩:=Zv7 hI hc (lk:=lk) (env:=[cf.fr]) (st:=st6) (n:=4) (by decide) (by decide);refine Zq2 rfl (Zfj (by decide) o2d o4d) (Zbp ?_);have hsum:S.evE I lk [cf.fr] st6 (S.eAdd (S.eW 2) (S.eW 4))=cf.to_+cf.hf:=by
   show S.alu 1 (S.evE I lk [cf.fr] st6 (S.eW 2)) (S.evE I lk [cf.fr] st6 (S.eW 4))=_
   rw [v2d,v4d,hm6,hm6,if_neg (by decide),if_pos rfl,if_neg (by decide),if_neg (by decide),hL5.ch.m4,Zau];unfold S.u32m;omega
  rw [hsum];have q10:S.coE (S.eC 2)=2:=rfl;have q11:S.coE (S.eC 3)=2:=rfl;have q12:S.coE (S.eL 0)=1:=rfl;have q13:S.coE (S.eR 29)=1:=rfl;have q14:S.coE (S.eAdd (S.eW 2) (S.eW 4))=7:=rfl;have hfn:∀ (st:S.Vw) (j v:Int),(st.set j v).mem=st.mem:=fun _ _ _=>rfl
  have notlow:∀ a,S.RX I st.mem cnt n a->a≠2/\a≠3:=fun a hx=>by
   rcases hx with ((rfl | q) | q) | q
   ·omega
   ·omega
   ·have:=hfx a q;omega
   ·omega
  refine ⟨_,ρ5,rfl,⟨hL5.tin,hL5.ch.sub,hL5.ch.nd,?_,?_,?_,?_,fun j h4 h5 h26 h27 h29=>?_,fun a ha2 ha3 hx hfa hta=>?_,fun a hx=>?_,fun o ho ν hν k w hk=>?_,by rw [h6];exact hL5.inp,by rw [h6];exact hL5.out⟩,?_⟩
  ·rw [hfn,hm6];rfl
  ·rw [hfn,hm6];rfl
  ·rw [h6];rfl
  ·rfl
  ·rw [h6]
   show (if j=27 then _ else if j=26 then _ else st5.reg j)=_
   rw [if_neg h27,if_neg h26,hL5.reg j h4 h5 h29]
   show (if j=29 then _ else st.reg j)=_
   rw [if_neg h29]
  ·rw [hfn,hm6,if_neg ha3,if_neg ha2]
   exact hL5.mem a hx hfa hta
  ·obtain ⟨n2,n3⟩:=notlow a hx
   rw [hfn,hm6,if_neg n3,if_neg n2];exact hL5.root a hx
  ·obtain ⟨_,g1,g2⟩:=Zlv hc hL5.ch.sub (hL5.ch.sub o ho) hν
   have hk1:=(Yg.1 hk).1;rw [hfn,hm6,if_neg (by omega),if_neg (by omega)];exact (hL5.old o ho ν hν k w hk).1 (by omega)
  ·rw [q3] at hc5
   rw [q8] at hc4;rw [q9,q10,q11,q12,q13,q14];simp only [Bool.false_eq_true,if_false];have hd:(if (1312:Int)<I.lab S.kCode then I.lab S.kCode-1312 else 0)=I.lab S.kCode-1312:=by split <;> omega
   rw [hd] at hc4;have q15:S.coE (S.eW 3)=3:=rfl;rw [q15];omega
 refine Zls rfl o6 (fun hz=>Zbp ?_) (fun hnz=>?_)
 ·rw [v6] at hz
  have hn0:n=0:=by
   rcases h.fm with ⟨_,q⟩ | ⟨q,_⟩
   ·exact q
   ·exact absurd hz q
  subst hn0;refine rest ρ2 st2 _ (Zhm hI hc (fun x=>⟨.inl,fun q=>q.resolve_right fun ⟨j,hj,_⟩=>by omega⟩) (Zhm hI hc (fun x=>Iff.rfl) hsc2)) ?_;rw [q1,q3] at hc1;rw [q2] at hc2;rw [q6];simp only [S.tot] at *;have hd:(if (16:Int)<16+cnt then 16+(cnt:Int)-16 else 0)=cnt:=by split <;> omega
  rw [hd] at hc2;rw [if_pos (by decide)] at hc1;omega
 ·rw [v6] at hnz
  obtain ⟨_,hf,hfo⟩:=h.fm.resolve_left fun q=>hnz q.1
  have hf0:=hf.a0;have hn31:=hf.n31;obtain ⟨a,ha⟩:=Yx (st.mem 6);rw [<- ha] at hf hfo hf0 v6;have same:∀ j:Nat,j<=n->st2.mem (a+j)=st.mem (a+j):=fun j hj=>by
   obtain ⟨_,_,ho⟩:=hf.rd j hj;exact mem2 _ (by omega) (hfo j hj).1 (hfo j hj).2 ho.1 ho.2.1
  have same1:∀ j:Nat,j<n->st2.mem (a+1+j)=st.mem (a+1+j):=fun j hj=>by
   have:=same (j+1) (by omega);rw [show a+((j+1:Nat):Int)=a+1+j from by omega] at this;exact this
  have hslot:∀ x:Int,32<=x->x<1056->st2.mem x=st.mem x:=fun x h1 h2=>mem2 x (by omega) (by omega) (by omega) (by omega) (by omega)
  have hf2:S.dc I cf T st2.mem a n:=⟨hf.a0,hf.n31,by rw [<- hf.len];simpa using same 0 (by omega),hf.rd,hf.off,fun j hj=>by rw [same1 j hj];exact hf.word j hj,
   fun j i hj hi hb=>by rw [hslot _ (by omega) (by omega)];rw [same1 j hj] at hb;exact hf.slot j i hj hi hb⟩
  refine Z1j (l:=[S.eW 6]) rfl ⟨o6,trivial⟩ (d:=56) (T:=fun _ o k=>S.cm cf T a n ρ2 (st2.args [a]) o k) (by
   rw [show S.evEs I lk [e0] st2 [S.eW 6]=[a] from by show [S.evE I lk [e0] st2 (S.eW 6)]=_;rw [v6]];exact Zsb hI hc hM hS hF (st:=st2.args [a]) (a:=a) (Zuz hI hc hsc2.ch rfl rfl) rfl hf2) (by decide) fun ret o k hR=>?_
  obtain ⟨st3,ρ3,rfl,hsc3,hk⟩:=hR;have h3:=Zu2 hI hc (by simp) hsc3;refine Zbp (rest ρ3 st3 _ (Zhm hI hc (fun x=>?_) (S.Sc.trans hI hc hsc2 h3 (fun x hx q=>?_) (fun x hx=>Zcq hI hc (by omega) (by omega)) (fun x hx=>?_) (fun x hx=>h.root x (.inl (.inl ?_))))) ?_)
  ·rw [<- ha]
   exact or_congr Iff.rfl (Z6k hI hc same1 x)
  ·have:=Zdu hI hc q
   omega
  ·have:=Zdu hI hc hx
   exact Zcq hI hc (by omega) (by omega)
  ·exact hx
  ·rw [q1,q3] at hc1
   rw [q2] at hc2;rw [q6,q7];have hd:(if (16:Int)<16+cnt then 16+(cnt:Int)-16 else 0)=cnt:=by split <;> omega
   rw [hd] at hc2;rw [if_pos (by decide)] at hc1;simp only [S.tot] at *;have hlen:(S.evEs I lk [e0] st2 [S.eW 6]).length=1:=rfl;rw [hlen];omega
end
end
section
open Go.RowKit
theorem Zon:S.chkB S.rReserve=0:=by kernel_rfl
def S.ct (I:S.Img)(cf:S.Cf)(T:S.Ob->Prop)(cnt n:Nat)(want:Int)(st:S.Vw)(o:S.BO)(k:Nat):Prop :=
 (want<=st.reg 27-st.reg 26/\o=.ret st/\k<=40) \/
 (st.reg 27-st.reg 26<want/\∃ st' ρ,S.Cd cf T (S.RX I st.mem cnt n) st ρ st'/\((want<=cf.hf-S.tot ρ/\o=.ret st')\/(cf.hf-S.tot ρ<want/\o=.halt 255 st')) /\
  (k:Int)<=800+130*(cnt+(I.lab S.kCode-1312))+10100*n+170*S.tot ρ)
theorem Zza (st:S.Vw):st.args []=st:=by
 have:(st.args []).reg=st.reg:=by
  funext j
  show (if 4<=j/\j<4+(0:Nat) then _ else st.reg j)=_
  rw [if_neg (by omega)]
 cases st
 show S.Vw.mk _ _ _ _=_
 congr
section
variable {I:S.Img}(hI:I.Ok){cf:S.Cf}(hc:S.Cf.Ok I cf){T:S.Ob->Prop}
include hI hc
theorem Zoo {iM iS iF iC iR:Nat}(hM:S.Seg I S.kMove iM (S.bItems S.rMove))(hS:S.Seg I S.kScan iS (S.bItems S.rScan))(hF:S.Seg I S.kFrame iF (S.bItems S.rFrame))(hC:S.Seg I S.kCollect iC (S.bItems S.rCollect))(hR:S.Seg I S.kReserve iR (S.bItems S.rReserve))
 {st:S.Vw} {cnt n:Nat} (h:S.df I cf T cnt n st.mem) {need spare:Int} (h4:st.reg 4=need) (h7:st.mem 7=spare) (hn0:0<=need/\0<=spare/\need+spare<4294967296) (h26:0<=st.reg 26/\st.reg 26<=st.reg 27/\st.reg 27<4294967296) :
 S.Real I S.kReserve false st 88 (fun _ o k=>S.ct I cf T cnt n (need+spare) st o k):=by
 refine Zg4 hI S.rReserve Zon hR (dep:=72) (by decide) st _ fun lk env _ _ hl hp=>?_
 obtain ⟨e0,rfl⟩:=Z0d hl;have h0:e0=st.reg 4:=hp 0 (show (0:Int)<1 by decide);rw [h4] at h0;subst h0;have htoz:=hc.toz;have hto0:=hc.to0;have hhf:=hc.hf0;unfold S.rReserve;simp only;obtain ⟨o7,v7⟩:=Zv7 hI hc (lk:=lk) (env:=[e0]) (st:=st) (n:=7) (by decide) (by decide);refine Zfa rfl (Zfj (by decide) (Zc2 0) o7) ?_;have ev1:S.evE I lk [e0] st (S.eAdd (S.eL 0) (S.eW 7))=e0+spare:=by
  show S.alu 1 e0 (S.evE I lk [e0] st (S.eW 7))=_
  rw [v7,h7,Zau];unfold S.u32m;omega
 rw [ev1];have hset:[e0].set (Int.toNat 0) (e0+spare)=[e0+spare]:=rfl;rw [hset];have eshort:∀ st:S.Vw,S.evE I lk [e0+spare] st S.eShort=if S.u32m (st.reg 27-st.reg 26)<e0+spare then 1 else 0:=fun st=>Zcl _ _
 have okshort:∀ st:S.Vw,S.okE I lk [e0+spare] st S.eShort:=fun st=>Zfj (by decide) (Zfj (by decide) (Z1h 27) (Z1h 26)) (Zc2 0)
 have q1:S.coE (S.eAdd (S.eL 0) (S.eW 7))=5:=rfl;have q2:S.coE S.eShort=5:=rfl;have q3:S.coEs ([]:List S.BE)=0:=rfl;have q4:S.coE (S.eC 255)=2:=rfl;have hu:S.u32m (st.reg 27-st.reg 26)=st.reg 27-st.reg 26:=by unfold S.u32m;omega
 refine Zls rfl (okshort st) (fun hz=>Zbp (Zbp ?_)) (fun hnz=>?_)
 ·rw [eshort,hu] at hz
  have:¬ st.reg 27-st.reg 26<e0+spare:=fun q=>by rw [if_pos q] at hz;cases hz
  refine .inl ⟨by omega,rfl,?_⟩;rw [q1,q2]
  decide
 ·rw [eshort,hu] at hnz
  have hlt:st.reg 27-st.reg 26<e0+spare:=Classical.byContradiction fun q=>by rw [if_neg q] at hnz;exact hnz rfl
  refine Z1j (l:=[]) rfl trivial (d:=72) (T:=fun _ o k=>S.bz I cf T cnt n (st.args []) o k) (Zom hI hc hM hS hF hC (st:=st.args []) h) (by decide) fun ret o k hR=>?_
  rw [Zza] at hR;obtain ⟨st',ρ,rfl,hcd,hk⟩:=hR;have hu':S.u32m (st'.reg 27-st'.reg 26)=cf.hf-S.tot ρ:=by
   have hsum:=Zcm ρ cf.O hcd.nd hcd.sub;have hs:=hc.sum;have t0:=Zv ρ;rw [hcd.r26,hcd.r27];unfold S.u32m;omega
  have hlen:(S.evEs I lk [e0+spare] st []).length=0:=rfl;refine Zls rfl (okshort st') (fun hz=>Zbp (Zbp (Zbp ?_))) (fun hnz=>?_)
  ·rw [eshort,hu'] at hz
   have:¬ cf.hf-S.tot ρ<e0+spare:=fun q=>by rw [if_pos q] at hz;cases hz
   refine .inr ⟨hlt,st',ρ,hcd,.inl ⟨by omega,rfl⟩,?_⟩;rw [q1,q2,q3,hlen];simp only [Bool.false_eq_true,if_false];omega
  ·rw [eshort,hu'] at hnz
   have hlt2:cf.hf-S.tot ρ<e0+spare:=Classical.byContradiction fun q=>by rw [if_neg q] at hnz;exact hnz rfl
   refine Z30 rfl (Ze9 255) (.inr ⟨hlt,st',ρ,hcd,.inr ⟨hlt2,rfl⟩,?_⟩);rw [q1,q2,q3,q4,hlen];omega
end
section
variable {I:S.Img}(hI:I.Ok)
include hI
end
end
section
open Go.RowKit
def S.af (I:S.Img)(name:ByteArray)(behind:Bool)(st:S.Vw)(d ret:Int)(R:S.BO->Nat->Prop):Prop :=
 ∀ V top,S.Mt I V st->V.reg 28=top->V.reg 31=ret->0<=ret->ret<I.size->I.lo<=top->top+d<=I.hi->∃ o k,R o k/\S.Done I V (I.lab name) k top ret behind o
theorem Z2p {I:S.Img}(hI:I.Ok)(r:S.BR)(hc:S.chkB r=0){i:Nat}(hs:S.Seg I r.name i (S.bItems r)){dep:Int}(hdep:0<=dep)(st:S.Vw)(ret:Int)(R:S.BO->Nat->Prop)
 (hw:∀ (env:List Int),(env.length:Int)=r.locals->(∀ k:Nat,(k:Int)<r.params->env.getD k 0=st.reg (4+k)) ->
  S.wpSs I dep ret r.behind r.body env st (r.params.toNat+2) (fun _ st' c'=>R (.ret st') (c'+(if r.behind=true then 5 else 3))) R) :
 S.af I r.name r.behind st (r.locals+15+dep) ret R:=by
 obtain ⟨hn,p0,p4,pL,L200,hbody⟩:=Zda hc;intro V top hmt hsp h31 r0 r1 hlo hhi;have cx:S.Cx I r.locals dep ret top:=⟨hI,hlo,by omega,hdep,by omega,L200,r0,r1⟩
 have q1:=hI.lo0;have q2:=hI.hisz;have q3:=hI.size2;have hfr:S.frameB r=r.locals+15:=by unfold S.frameB;rw [if_neg (by simp [hc])]
 obtain ⟨np,hnp⟩:=Yx r.params.toNat;unfold S.bItems S.bHead at hs;rw [hfr,<- hnp] at hs;have hsA:S.Seg I r.name i ([S.bL r.name,S.bI 25 0 28 31 0]:List S.Item):=hs.left.left.left.left;have hsP:S.Seg I r.name (i+2) (S.bParams np):=hs.left.left.left.right;have hsQ:S.Seg I r.name (i+2+np) [S.bI 15 28 28 0 (r.locals+15)]:=by
  have h:=hs.left.left.right;rw [Yd,Zbr] at h;have e:i+(([S.bL r.name,S.bI 25 0 28 31 0]:List S.Item).length+np)=i+2+np:=by simp;omega
  rw [e] at h;exact h
 have hsB:S.Seg I r.name (i+2+np+1) (S.bStmts (r.locals+15) r.locals r.behind r.body 0).1:=by
  have h:=hs.left.right;rw [Yd,Yd,Zbr] at h;have e:i+(([S.bL r.name,S.bI 25 0 28 31 0]:List S.Item).length+np+([S.bI 15 28 28 0 (r.locals+15)]:List S.Item).length)=i+2+np+1:=by simp;omega
  rw [e] at h;exact h
 have hsR:S.Seg I r.name (i+2+np+1+(S.bStmts (r.locals+15) r.locals r.behind r.body 0).1.length) (S.bBack (r.locals+15) r.behind):=by
  have h:=hs.right;rw [Yd,Yd,Yd,Zbr] at h;have e:i+(([S.bL r.name,S.bI 25 0 28 31 0]:List S.Item).length+np+([S.bI 15 28 28 0 (r.locals+15)]:List S.Item).length+(S.bStmts (r.locals+15) r.locals r.behind r.body 0).1.length)=i+2+np+1+(S.bStmts (r.locals+15) r.locals r.behind r.body 0).1.length:=by simp;omega
  rw [e] at h;exact h
 have hlab:I.lab r.name=I.adr i:=by
  have:=Zkm cx hsA;rw [Zey _ hn] at this;exact this
 have g0:=Zeu hI hsA.lo hsA.lt (V:=V) hsA.head;have et:top=S.u32m (V.reg 28+0):=by rw [hsp];unfold S.u32m;omega
 have hct:¬ I.code top:=by
  rintro ⟨c0,c1⟩;rcases hI.apart with h | h <;> omega
 have g1:=Ztz hI hsA.tail.lo hsA.tail.lt (V:=V) (a:=28) (b:=31) (n:=0) hsA.tail.head (by decide) (by decide) et (by omega) hct;rw [h31] at g1;obtain ⟨V2,g2,e2r,e2a,e2m,e2i,e2o⟩:=Zi6 cx (V:=V.sto top ret) hsp np (by omega) hsP;have g3:=Zeg hI hsQ.lo hsQ.lt (V:=V2) (d:=28) (a:=28) (n:=r.locals+15) hsQ.head (by decide) (by decide) (by decide);have e3:S.u32m (V2.reg 28+(r.locals+15))=top+r.locals+15:=by
  have:V2.reg 28=top:=by rw [e2r];exact hsp
  rw [this];unfold S.u32m;omega
 rw [e3] at g3;have gg:S.Go I V (I.lab r.name) (np+2) (V2.set 28 (top+r.locals+15)) (I.adr (i+2+np+1)):=by
  rw [hlab];exact (((g0.trans g1).trans g2).trans g3).more (by omega)
 have hmem:∀ a:Int,a<top\/top+1+np<=a->(V2.set 28 (top+r.locals+15)).mem a=V.mem a:=fun a ha=>by
  show V2.mem a=_
  rw [e2m a (by omega),Zac _ _ (by omega)]
 obtain ⟨env,henv⟩:∃ env:List Int,env=(List.range r.locals.toNat).map fun k:Nat=>(V2.set 28 (top+r.locals+15)).mem (top+1+(k:Int)):=⟨_,rfl⟩
 have hel:env.length=r.locals.toNat:=by rw [henv];simp
 have hge:∀ k:Nat,k<env.length->env.getD k 0=(V2.set 28 (top+r.locals+15)).mem (top+1+(k:Int)):=fun k hk=>by
  rw [henv,Zcz _ _ _ (by rw [<- hel];exact hk)]
 have hF:S.Fm I (V2.set 28 (top+r.locals+15)) st top ret env []:=by
  refine ⟨⟨fun j hj=>?_,fun a a0 a1 ha=>?_,?_,?_⟩,?_,?_,fun k hk=>(hge k hk).symm,fun k hk=>by simp at hk⟩
  ·have:=Zkp hj
   rw [Zh _ _ (by omega),e2r];exact hmt.vis j hj
  ·by_cases hin:top<=a/\a<top+1+np
   ·exact absurd ⟨by omega,by omega⟩ ha
   ·rw [hmem a (by omega)];exact hmt.mem a a0 a1 ha
  ·show V2.inp=_;rw [e2i];exact hmt.inp
  ·show V2.out=_;rw [e2o];exact hmt.out
  ·rw [Zj];omega
  ·show V2.mem top=ret
   rw [e2m top (by omega),Zei]
 have hargs:∀ k:Nat,(k:Int)<r.params->env.getD k 0=st.reg (4+k):=fun k hk=>by
  rw [hge k (by omega)]
  show V2.mem (top+1+(k:Int))=_
  rw [e2a k (by omega)];exact hmt.vis _ (by unfold S.visB;rw [decide_eq_true_eq];omega)
 have hL:(env.length:Int)=r.locals:=by omega
 have hkp:S.Kp I top V (V2.set 28 (top+r.locals+15)):=fun a a0 a1=>hmem a (by omega)
 have hb:=hw env hL hargs;rw [<- hnp] at hb;have h:=Zev cx (obj:=r.name) (behind:=r.behind) r.body 0 0 env _ st _ (np+2) _ _ hL hbody hb hsB hF;rcases h with ⟨env',st',c',V',h1,h2,h3,h4,h5,h6⟩ | ⟨o,c',h1,h2,h3⟩
 ·have hbk:=Zpe cx (obj:=r.name) (behind:=r.behind) (r:=[]) h3 (by rw [List.append_nil];exact hsR) h5
  have hd:=Zbn h4 h6 hbk (Yb _);refine ⟨.ret st',c'+(if r.behind=true then 5 else 3),h2,Zbn gg hkp hd ?_⟩;omega
 ·exact ⟨o,c',h2,Zbn gg hkp h3 (by omega)⟩
theorem Zcg {I:S.Img}(hI:I.Ok)(r:S.BR)(hc:S.chkB r=0){i:Nat}(hs:S.Seg I r.name i (S.bItems r)){dep:Int}(hdep:0<=dep)(st:S.Vw)(ret:Int)(R:S.BO->Nat->Prop)
 (hw:∀ (env:List Int),(env.length:Int)=r.locals->(∀ k:Nat,(k:Int)<r.params->env.getD k 0=st.reg (4+k))->S.WS I dep ret r.behind r.body env st 8 (fun _ st' c'=>R (.ret st') (c'+(if r.behind=true then 5 else 3))) R) :
 S.af I r.name r.behind st (r.locals+15+dep) ret R:=by
 have p4:=(Zda hc).2.2.1;exact Z2p hI r hc hs hdep st ret R fun env hl hp=>hw env hl hp st _ (.refl st) (by omega)
end
section
open Go.RowKit
namespace S
structure CSegs (I:Img):Prop where
 move:∃ i,Seg I kMove i (bItems rMove)
 scan:∃ i,Seg I kScan i (bItems rScan)
 frame:∃ i,Seg I kFrame i (bItems rFrame)
 collect:∃ i,Seg I kCollect i (bItems rCollect)
 reserve:∃ i,Seg I kReserve i (bItems rReserve)
def NumO (I:Img)(cf:Cf)(T:Ob->Prop)(mem:Int->Int)(v neg:Int)(ds:List Int):Prop:=NumAt I mem v neg ds/\∀ p,v=4*p+1->∃ o∈cf.O,T o/\o.at_=p
structure Rdy (I:Img)(cf:Cf)(T:Ob->Prop)(H spare lk:Int)(st:Vw):Prop where
 r26:st.reg 26=H
 r27:st.reg 27=cf.fr+cf.hf
 H0:cf.fr<=H
 H1:H<=cf.fr+cf.hf
 m2:st.mem 2=cf.fr
 m3:st.mem 3=cf.to_
 m4:st.mem 4=cf.hf
 m5:st.mem 5%4≠1/\0<=st.mem 5/\st.mem 5<4294967296
 m7:st.mem 7=spare
 sp:0<=spare/\spare<1000000
 obj:∀ o∈cf.O,∀ (k:Nat) (w:Int),o.ws[k]?=some w->st.mem (o.at_+(k:Int))=w
 below:∀ o∈cf.O,o.at_+o.ws.length<=H
 plain:∀ o∈cf.O,T o->∀ w∈o.ws,w%4≠1
 code:I.lab kCode=1312
 lk0:st.mem lk=0
 lk1:1312<=lk/\lk<I.size/\¬ I.stk lk/\¬ (cf.fr<=lk/\lk<cf.fr+cf.hf)/\¬ (cf.to_<=lk/\lk<cf.to_+cf.hf)
end S
theorem Ze2 (st:S.Vw)(p x a:Int):(st.sto p x).mem a=if a=p then x else st.mem a:=rfl
theorem Zws {I:S.Img}{cf:S.Cf}(hc:S.Cf.Ok I cf){T:S.Ob->Prop}{mem:Int->Int}{v neg:Int}{ds:List Int}(h:S.NumAt I mem v neg ds)(hobj:∀ o∈cf.O,∀ (k:Nat) (w:Int),o.ws[k]?=some w->mem (o.at_+(k:Int))=w){o:S.Ob}(ho:o∈cf.O)(hv:v=4*o.at_+1):o.ws.length=ds.length+2:=by
 obtain ⟨⟨hw,hd,r,e,h3,h32⟩,f0,f1⟩:=hc.obs o ho;rcases h.cases with ⟨q,_⟩ | ⟨p,e2,_,m0,_⟩
 ·omega
 ·have ep:p=o.at_:=by omega
  have:=hobj o ho 0 hd (by rw [e];rfl);rw [show o.at_+((0:Nat):Int)=p by omega,m0] at this;rw [e,Yi];omega
theorem Zop {I:S.Img}{cf:S.Cf}(hc:S.Cf.Ok I cf){T:S.Ob->Prop}{H spare lk:Int}{st:S.Vw}(hr:S.Rdy I cf T H spare lk st){v neg:Int}{ds:List Int}(h:S.NumO I cf T st.mem v neg ds):S.NumIn I st.mem H v neg ds:=by
 refine ⟨h.1,fun p e=>?_⟩;obtain ⟨o,ho,hT,e2⟩:=h.2 p e;have:=Zws (T:=T) hc h.1 hr.obj ho (by rw [e2];exact e);have:=hr.below o ho;omega
theorem Zoq {I:S.Img}{cf:S.Cf}(hc:S.Cf.Ok I cf){T:S.Ob->Prop}{X:Int->Prop}{st st':S.Vw}{ρ:List S.Ob}(hobj:∀ o∈cf.O,∀ (k:Nat) (w:Int),o.ws[k]?=some w->st.mem (o.at_+(k:Int))=w)(hpl:∀ o∈cf.O,T o->∀ w∈o.ws,w%4≠1)(hcd:S.Cd cf T X st ρ st'){a v neg:Int}{ds:List Int}(hX:X a)(ha:st.mem a=v)(h:S.NumO I cf T st.mem v neg ds):S.NumIn I st'.mem (cf.to_+S.tot ρ) (st'.mem a) neg ds:=by
 obtain ⟨hmv,hcl⟩:=hcd.root a hX;rw [ha] at hmv hcl;rw [hmv];rcases h.1.cases with ⟨q1,q2,q3⟩ | ⟨p,e,hd,m0,m1,m2⟩
 ·have e:S.mv cf.to_ ρ v=v:=by unfold S.mv;rw [if_neg (by omega)]
  rw [e];exact ⟨⟨h.1.vb,h.1.sg,h.1.dig,h.1.few,.inl ⟨q1,q2,q3⟩⟩,fun p e=>by omega⟩
 ·obtain ⟨o,ho,hT,e2⟩:=h.2 p e
  have hv:v=4*o.at_+1:=by omega
  have hmem:=hcl o ho hv;obtain ⟨ν,hν⟩:=Zfl (t:=cf.to_) hmem;have hlen:=Zws (T:=T) hc h.1 hobj ho hv;obtain ⟨_,n1,n2⟩:=Zlv hc hcd.sub ho hν;have e3:S.mv cf.to_ ρ v=4*ν+1:=by
   unfold S.mv;rw [if_pos (by omega),show v/4=o.at_ by omega,hν]
  rw [e3];have htoz:=hc.toz;have hsum:=Zcm ρ cf.O hcd.nd hcd.sub;have hs:=hc.sum;have hto0:=hc.to0;have key:∀ j:Nat,j<ds.length+2->st'.mem (ν+j)=st.mem (p+j):=fun j hj=>by
   have hw:o.ws[j]?=some (o.ws[j]'(by omega)):=Yf _;have h1:=(hcd.new o hmem ν hν j _ hw).1;have h2:=hobj o ho j _ hw;have h3:=hpl o ho hT _ (List.getElem_mem (by omega:j<o.ws.length));rw [h1,show p+(j:Int)=o.at_+j by omega,h2];unfold S.mv;rw [if_neg h3]
  refine ⟨⟨by omega,h.1.sg,h.1.dig,h.1.few,.inr ⟨ν,rfl,fun j hj=>hc.tod _ (by omega) (by omega),?_,?_,fun i hi=>?_⟩⟩,fun p' e'=>by omega⟩
  ·have:=key 0 (by omega)
   simp only [Int.natCast_zero,Int.add_zero] at this;rw [this];exact m0
  ·have:=key 1 (by omega)
   rw [show p+((1:Nat):Int)=p+1 by omega,show ν+((1:Nat):Int)=ν+1 by omega] at this;rw [this];exact m1
  ·have:=key (i+2) (by omega)
   rw [show p+((i+2:Nat):Int)=p+2+i by omega,show ν+((i+2:Nat):Int)=ν+2+i by omega] at this;rw [this];exact m2 i hi
section
variable {I:S.Img}(hN:S.NSegs I)(hG:S.CSegs I){cf:S.Cf}(hc:S.Cf.Ok I cf){T:S.Ob->Prop}
include hN hG hc
theorem Z2q {dep lk:Int}{s:S.Vw}{C:Nat}{Q:List Int->S.Vw->Nat->Prop}{R:S.BO->Nat->Prop}{behind:Bool}{H spare p q e2 nv nu tT:Int}{x y:List Int}{rest:List S.BS}{KR:Nat}(hdep:88<=dep)(hr:S.Rdy I cf T H spare lk s)(hx:S.NumO I cf T s.mem p nv x)(hy:S.NumO I cf T s.mem q nu y)(hfew:x.length+y.length<=1000)
 (hT:∀ ρ:List S.Ob,ρ.Nodup->(∀ o∈ρ,o∈cf.O/\T o)->S.tot ρ<=tT) (hKR:1600+170*tT<=KR)
 (hret:∀ (s':S.Vw) (p' q' H' L:Int),s'.reg 26=H'->S.NumIn I s'.mem H' p' nv x->S.NumIn I s'.mem H' q' nu y->(∀ a,H'<=a->a<H'+3*(x.length+y.length)+20->S.Dat I a)->1312<=H'->s'.mem 6=0->s'.mem 8=0->s'.inp=s.inp->s'.out=s.out ->
  S.WS I dep lk behind rest [p',q',L] s' (C+KR) Q R)
 (hhalt:∀ s' c,cf.hf<tT+(3*(x.length+y.length)+20)+spare->c<=C+KR->R (.halt 255 s') c) :
 S.WS I dep lk behind (S.bNRoom++rest) [p,q,e2] s C Q R:=by
 obtain ⟨iM,hM⟩:=hG.move;obtain ⟨iS,hS⟩:=hG.scan;obtain ⟨iF,hF⟩:=hG.frame;obtain ⟨iC,hC⟩:=hG.collect;obtain ⟨iR,hR⟩:=hG.reserve;have tT0:0<=tT:=hT [] Yc1 (fun o ho=>by cases ho);have hsz:=hN.ok.size2;have hfr0:=hc.fr0;have hto0:=hc.to0;have hfrz:=hc.frz;have htoz:=hc.toz;have hhf:=hc.hf0;have xb:=hx.1.vb;have yb:=hy.1.vb;obtain ⟨lk1,lk2,lk3,lk4,lk5⟩:=hr.lk1;have low:∀ n:Int,0<=n->n<1056->S.u32m (n%4294967296+0)=n/\S.Dat I n:=fun n h0 h1=>⟨by unfold S.u32m;omega,hc.low n h0 h1⟩
 have keep:∀ (s:S.Vw) (n:Int) (e:S.BE) (v:Int) (env:List Int) (K C:Nat) (r:List S.BS),0<=n->n<1056->S.Yl I dep lk env s e v K->S.dE e<=19->S.WS I dep lk behind r env (s.sto n v) (C+2+K+1) Q R->S.WS I dep lk behind (S.sKeep n e::r) env s C Q R:=fun s n e v env K C r h0 h1 he hd h=>Zb7 (Zn n) he (by rw [S.eC,S.dE,S.dEs];omega) hd (low n h0 h1).1 (low n h0 h1).2.2 h
 show S.WS I dep lk behind (S.sKeep 16 (S.eL 0)::S.sKeep 17 (S.eL 1)::S.sKeep 8 (S.eC 2)::S.sKeep 6 S.eK::S.sAs 2 (S.eAdd (S.eF S.kNLen [S.eL 0]) (S.eF S.kNLen [S.eL 1]))::S.sDo (S.eF S.kReserve [S.eAdd (S.eAdd (S.eL 2) (S.eShl (S.eL 2) 1)) (S.eC 20)])::S.sAs 0 (S.eW 16)::S.sAs 1 (S.eW 17)::S.sKeep 8 (S.eC 0)::S.sKeep 6 (S.eC 0)::rest) [p,q,e2] s C Q R
 refine keep s 16 _ p _ 1 _ _ (by decide) (by decide) (Zq 0) (by decide) ?_;refine keep _ 17 _ q _ 1 _ _ (by decide) (by decide) (Zq 1) (by decide) ?_;refine keep _ 8 _ 2 _ 2 _ _ (by decide) (by decide) (Zn 2) (by decide) ?_;refine keep _ 6 _ lk _ 1 _ _ (by decide) (by decide) Z7h (by decide) ?_;obtain ⟨s4,hs4⟩:=Yx ((((s.sto 16 p).sto 17 q).sto 8 2).sto 6 lk);rw [<- hs4];have m4:∀ a,s4.mem a=if a=6 then lk else if a=8 then 2 else if a=17 then q else if a=16 then p else s.mem a:=fun a=>by
  rw [hs4,Ze2,Ze2,Ze2,Ze2]
 have m4o:∀ a,1312<=a->s4.mem a=s.mem a:=fun a ha=>by
  rw [m4,if_neg (by omega),if_neg (by omega),if_neg (by omega),if_neg (by omega)]
 have r4:s4.reg=s.reg:=by rw [hs4];rfl
 have i4:s4.inp=s.inp:=by rw [hs4];rfl
 have o4:s4.out=s.out:=by rw [hs4];rfl
 have num4:∀ {v neg:Int} {ds:List Int},S.NumO I cf T s.mem v neg ds->S.NumO I cf T s4.mem v neg ds:=fun {v neg ds} h=>⟨h.1.same fun p e j hj=>by
  obtain ⟨o,ho,_,e2⟩:=h.2 p e;have:=(hc.obs o ho).2.1;exact m4o _ (by omega),h.2⟩
 have hx4:=num4 hx;have hy4:=num4 hy;have obj4:∀ o∈cf.O,∀ (k:Nat) (w:Int),o.ws[k]?=some w->s4.mem (o.at_+(k:Int))=w:=fun o ho k w hw=>by
  rw [m4o _ (by have:=(hc.obs o ho).2.1;omega)];exact hr.obj o ho k w hw
 have wok:∀ {v neg:Int} {ds:List Int},S.NumO I cf T s.mem v neg ds->S.WOk cf T v:=fun {v neg ds} h=>⟨h.1.vb.1,h.1.vb.2,fun h1=>by
  obtain ⟨o,ho,hT,e2⟩:=h.2 (v/4) (by omega);exact .inl ⟨o,ho,hT,by omega⟩⟩
 have hlkm:s4.mem lk=0:=by rw [m4o _ lk1];exact hr.lk0
 have m46:s4.mem 6=lk:=by rw [m4,if_pos rfl]
 have hcol:∀ sA:S.Vw,S.Sim s4 sA->S.df I cf T 2 0 sA.mem:=fun sA hA=>by
  rw [hA.mem];refine ⟨by rw [m4,if_neg (by decide),if_neg (by decide),if_neg (by decide),if_neg (by decide)];exact hr.m2,by rw [m4,if_neg (by decide),if_neg (by decide),if_neg (by decide),if_neg (by decide)];exact hr.m3,by rw [m4,if_neg (by decide),if_neg (by decide),if_neg (by decide),if_neg (by decide)];exact hr.m4,obj4,by rw [m4,if_neg (by decide),if_pos rfl];rfl,by decide,by rw [hr.code];decide,by rw [hr.code];exact hfr0,by rw [hr.code];exact hto0,fun x h1 h2=>by rw [hr.code] at h2;omega,.inr ⟨by rw [m46];omega,?_,?_⟩,?_,fun o ho hTo w hw=>?_⟩
  ·rw [m46]
   refine ⟨by omega,by decide,hlkm,fun j hj=>?_,.inr (by omega),fun j hj=>absurd hj (Nat.not_lt_zero _),fun j i hj=>absurd hj (Nat.not_lt_zero _)⟩;have:(j:Int)=0:=by omega
   rw [this,Int.add_zero];exact ⟨lk2,lk3,⟨lk4,lk5,by omega,by omega⟩⟩
  ·intro j hj
   rw [m46];omega
  ·rintro x ((q | q) | q)
   ·rcases q with rfl | ⟨q1,q2⟩
    ·rw [m4,if_neg (by decide),if_neg (by decide),if_neg (by decide),if_neg (by decide)]
     exact ⟨hr.m5.2.1,hr.m5.2.2,fun h=>absurd h hr.m5.1⟩
    ·have:x=16\/x=17:=by omega
     rcases this with rfl | rfl
     ·rw [m4,if_neg (by decide),if_neg (by decide),if_neg (by decide),if_pos rfl]
      exact wok hx
     ·rw [m4,if_neg (by decide),if_neg (by decide),if_pos rfl]
      exact wok hy
   ·obtain ⟨j,hj,_⟩:=q
    exact absurd hj (Nat.not_lt_zero _)
   ·rw [hr.code] at q
    omega
  ·obtain ⟨⟨hwd,_⟩,_⟩:=hc.obs o ho
   exact ⟨(hwd w hw).1,(hwd w hw).2,fun h=>absurd h (hr.plain o ho hTo w hw)⟩
 obtain ⟨L,hL⟩:∃ L:Int,L=x.length+y.length:=⟨_,rfl⟩
 have L0:0<=L/\L<=1000:=by omega
 refine Zo ((Zm (op:=1) (by decide) (Zc3 (Za (Zq 0) Zg) (by simp) (Za8 hN hx4.1) (by omega)) (Zc3 (Za (Zq 1) Zg) (by simp) (Za8 hN hy4.1) (by omega))).to_ (y:=L) (by rw [Zau];unfold S.u32m;omega) (Yb _)) (by decide) ?_
 show S.WS I dep lk behind _ [p,q,L] s4 _ _ _
 obtain ⟨need,hneed⟩:∃ n:Int,n=3*L+20:=⟨_,rfl⟩
 refine Z1k (d:=88) (xs:=[need]) (T:=fun o k=>∃ sA,S.Sim s4 sA/\S.ct I cf T 2 0 (need+spare) sA o k) (Za ((Zm (op:=1) (by decide) (Zm (op:=1) (by decide) (Zq 2) (Zm (op:=10) (by decide) (Zq 2) (Zn 1))) (Zn 20)).to_ (y:=need) (by
  show S.alu 1 (S.alu 1 L (S.alu 10 L (1%4294967296))) (20%4294967296)=need
  rw [Z7g,Zau,Zau];unfold S.u32m;omega) (Yb _)) Zg) (by decide) (by simp) (fun st1 hs1=>?_) hdep fun o k hTk=>?_
 ·have hA:S.Sim s4 (st1.args [need]):=hs1.args (by simp)
  have:=Zoo hN.ok hc hM hS hF hC hR (st:=st1.args [need]) (cnt:=2) (n:=0) (hcol _ hA) (need:=need) (spare:=spare) (by rfl) (by rw [hA.mem,m4,if_neg (by decide),if_neg (by decide),if_neg (by decide),if_neg (by decide)];exact hr.m7) ⟨by omega,hr.sp.1,by have:=hr.sp.2;omega⟩ (by
   rw [hA.reg 26 (by decide),hA.reg 27 (by decide),r4,hr.r26,hr.r27];have:=hr.H0;have:=hr.H1;omega)
  exact this.mono fun _ o k h=>⟨_,hA,h⟩
 obtain ⟨sA,hA,hRes⟩:=hTk;have mA:=hA.mem;have fin:∀ (s5:S.Vw) (p' q' H':Int) (C5:Nat),s5.mem 16=p'->s5.mem 17=q'->s5.reg 26=H'->S.NumIn I s5.mem H' p' nv x->S.NumIn I s5.mem H' q' nu y->(∀ a,H'<=a->a<H'+need->S.Dat I a)->1312<=H'->(∀ v pp,(v=p'\/v=q')->v=4*pp+1->1312<=pp)->s5.inp=s.inp->s5.out=s.out->C5<=C+KR-40 ->
  S.WS I dep lk behind (S.sAs 0 (S.eW 16)::S.sAs 1 (S.eW 17)::S.sKeep 8 (S.eC 0)::S.sKeep 6 (S.eC 0)::rest) [p,q,L] s5 C5 Q R:=fun s5 p' q' H' C5 e16 e17 e26 n1 n2 hd h13 hlow hi ho hC5=>by
  have yW:∀ (env:List Int) (n v:Int),0<=n->n<1056->s5.mem n=v->S.Yl I dep lk env s5 (S.eW n) v 3:=fun env n v h0 h1 hv=>(Zlt (n:=0) (p:=n) (Zn n) (low n h0 h1).1 (Za7 (low n h0 h1).2)).to_ hv (Yb _)
  refine Zo (yW _ 16 p' (by decide) (by decide) e16) (by decide) ?_
  show S.WS I dep lk behind _ [p',q,L] s5 _ _ _
  refine Zo (yW _ 17 q' (by decide) (by decide) e17) (by decide) ?_
  show S.WS I dep lk behind _ [p',q',L] s5 _ _ _
  refine keep _ 8 _ 0 _ 2 _ _ (by decide) (by decide) (Zn 0) (by decide) ?_;refine keep _ 6 _ 0 _ 2 _ _ (by decide) (by decide) (Zn 0) (by decide) ?_;have m6:∀ a,((s5.sto 8 0).sto 6 0).mem a=if a=6 then 0 else if a=8 then 0 else s5.mem a:=fun a=>by rw [Ze2,Ze2]
  refine (hret ((s5.sto 8 0).sto 6 0) p' q' H' L e26 ⟨n1.1.same fun pp e j hj=>?_,n1.2⟩ ⟨n2.1.same fun pp e j hj=>?_,n2.2⟩ (fun a h0 h1=>hd a h0 (by omega)) h13 ?_ ?_ hi ho).more (by omega)
  ·have:=hlow p' pp (.inl rfl) e
   rw [m6,if_neg (by omega),if_neg (by omega)]
  ·have:=hlow q' pp (.inr rfl) e
   rw [m6,if_neg (by omega),if_neg (by omega)]
  ·rw [m6,if_pos rfl]
  ·rw [m6,if_neg (by decide),if_pos rfl]
 rcases hRes with ⟨w1,rfl,hk⟩ | ⟨w1,st',ρ,hcd,hcase,hk⟩
 ·-- there is Ztb
  show S.WS I dep lk behind _ _ sA _ _ _
  rw [hA.reg 26 (by decide),hA.reg 27 (by decide),r4,hr.r26,hr.r27] at w1;have n1:=Zop hc hr hx;have n2:=Zop hc hr hy;have hsp:=hr.sp.1;have hH0:=hr.H0;have hlo:∀ v pp,(v=p\/v=q)->v=4*pp+1->1312<=pp:=fun v pp h e=>by
   rcases h with rfl | rfl
   ·obtain ⟨o,ho,_,e2⟩:=hx.2 pp e
    have:=(hc.obs o ho).2.1;omega
   ·obtain ⟨o,ho,_,e2⟩:=hy.2 pp e
    have:=(hc.obs o ho).2.1;omega
  refine fin sA p q H _ (by rw [mA,m4,if_neg (by decide),if_neg (by decide),if_neg (by decide),if_pos rfl]) (by rw [mA,m4,if_neg (by decide),if_neg (by decide),if_pos rfl]) (by rw [hA.reg 26 (by decide),r4];exact hr.r26) ⟨by rw [mA];exact hx4.1,n1.2⟩ ⟨by rw [mA];exact hy4.1,n2.2⟩ (fun a h0 h1=>hc.frd a (by omega) (by omega)) (by omega) hlo (hA.inp.trans i4) (hA.out.trans o4) (by omega)
 ·have htt:=hT ρ hcd.nd fun o ho=>⟨hcd.sub o ho,hcd.tin o ho⟩
  have t0:=Zv ρ;have hk':k+500<=KR:=by
   rw [hr.code] at hk;omega
  rcases hcase with ⟨w2,rfl⟩ | ⟨w2,rfl⟩
  ·show S.WS I dep lk behind _ _ st' _ _ _
   have xO:S.NumO I cf T sA.mem p nv x:=by rw [mA];exact hx4
   have yO:S.NumO I cf T sA.mem q nu y:=by rw [mA];exact hy4
   have objA:∀ o∈cf.O,∀ (k:Nat) (w:Int),o.ws[k]?=some w->sA.mem (o.at_+(k:Int))=w:=by rw [mA];exact obj4
   have X16:S.RX I sA.mem 2 0 16:=.inl (.inl (.inr ⟨by decide,by decide⟩));have X17:S.RX I sA.mem 2 0 17:=.inl (.inl (.inr ⟨by decide,by decide⟩));have n1:=Zoq hc objA hr.plain hcd X16 (by rw [mA,m4,if_neg (by decide),if_neg (by decide),if_neg (by decide),if_pos rfl]) xO;have n2:=Zoq hc objA hr.plain hcd X17 (by rw [mA,m4,if_neg (by decide),if_neg (by decide),if_pos rfl]) yO;have hsp:=hr.sp.1;have hmvlo:∀ a pp v neg ds,S.RX I sA.mem 2 0 a->sA.mem a=v->S.NumO I cf T sA.mem v neg ds->st'.mem a=4*pp+1->1312<=pp:=fun a pp v neg ds hX ha h e=>by
    obtain ⟨hmv,hcl⟩:=hcd.root a hX;rw [ha] at hmv hcl;rw [hmv] at e;by_cases c:v%4=1
    ·obtain ⟨o,ho,hTo,e2⟩:=h.2 (v/4) (by omega)
     have hv:v=4*o.at_+1:=by omega
     obtain ⟨ν,hν⟩:=Zfl (t:=cf.to_) (hcl o ho hv);obtain ⟨_,n1,_⟩:=Zlv hc hcd.sub ho hν;unfold S.mv at e;rw [if_pos c,show v/4=o.at_ by omega,hν] at e;have e':4*ν+1=4*pp+1:=e;omega
    ·unfold S.mv at e
     rw [if_neg c] at e;omega
   refine fin st' _ _ (cf.to_+S.tot ρ) _ rfl rfl hcd.r26 n1 n2 (fun a h0 h1=>hc.tod a (by omega) (by omega)) (by omega) (fun v pp h e=>?_) (hcd.inp.trans (hA.inp.trans i4)) (hcd.out.trans (hA.out.trans o4)) (by omega);rcases h with rfl | rfl
   ·exact hmvlo 16 pp p nv x X16 (by rw [mA,m4,if_neg (by decide),if_neg (by decide),if_neg (by decide),if_pos rfl]) xO e
   ·exact hmvlo 17 pp q nu y X17 (by rw [mA,m4,if_neg (by decide),if_neg (by decide),if_pos rfl]) yO e
  ·intro c hc2
   exact hhalt st' c (by omega) (by omega)
end
end
end Go.Proofs.YtfhiobkkdcdmiaaGreatDoor
