/- Parts. -/
import Derived.Test.YtdeepoikgfaecaaGreatDoorZGFrm
set_option linter.all false
open List renaming getElem?_eq_some_iff->Ye,mem_of_getElem?->Yr,mem_cons_of_mem->Yw,mem_cons_self->Yy,nodup_cons->Ybx
namespace Go.Proofs.YtdeepoikgfaecaaGreatDoor
section
open Go.RowKit
structure S.Lo (cf:S.Cf)(T:S.Ob->Prop)(X:Int->Prop)(st0:S.Vw)(p:Int)(ρ:List S.Ob)(st:S.Vw):Prop where
 tin:∀ o∈ρ,T o
 ch:S.Ch cf ρ st
 reg:∀ j,j≠4->j≠5->j≠29->st.reg j=st0.reg j
 mem:∀ a,¬ X a->¬ (cf.fr<=a/\a<cf.fr+cf.hf)->¬ (cf.to_<=a/\a<cf.to_+S.tot ρ)->st.mem a=st0.mem a
 root:∀ a,X a->st.mem a=S.mv cf.to_ ρ (st0.mem a)/\S.Cl cf ρ (st0.mem a)
 old:∀ o∈ρ,∀ ν,S.nw cf.to_ ρ o.at_=some ν->∀ (k:Nat) (w:Int),o.ws[k]?=some w->(ν+(k:Int)<p->st.mem (ν+(k:Int))=S.mv cf.to_ ρ w/\S.Cl cf ρ w)/\(p<=ν+(k:Int)->st.mem (ν+(k:Int))=w)
 inp:st.inp=st0.inp
 out:st.out=st0.out
section
variable {I:S.Img}(hI:I.Ok){cf:S.Cf}(hc:S.Cf.Ok I cf){T:S.Ob->Prop}
include hc
theorem Zqg {o:S.Ob}{r:List S.Ob}(hs:∀ x∈o::r,x∈cf.O)(hn:(o::r).Nodup){x:S.Ob}(hx:x∈r):o.at_≠x.at_:=fun e=>by
 have:=Zqk hc (hs o Yy) (hs x (Yw _ hx)) e;subst this;exact (Ybx.1 hn).1 hx
theorem Zo8:∀ {ρ:List S.Ob} {t a:Int},(∀ o∈ρ,o∈cf.O)->ρ.Nodup->t<=a->a<t+S.tot ρ->∃ o∈ρ,∃ (ν:Int) (k:Nat) (w:Int),S.nw t ρ o.at_=some ν/\a=ν+k/\o.ws[k]?=some w
 | [],t,a,_,_,h1,h2=>by rw [S.tot] at h2;omega
 | o::r,t,a,hs,hn,h1,h2=>by
  rw [S.tot] at h2;by_cases c:a<t+o.ws.length
  ·obtain ⟨k,hk⟩:∃ k:Nat,a=t+k:=⟨(a-t).toNat,by omega⟩
   have hlt:k<o.ws.length:=by omega
   exact ⟨o,Yy,t,k,o.ws[k],by rw [S.nw,if_pos rfl],hk,List.getElem?_eq_getElem hlt⟩
  ·obtain ⟨x,hx,ν,k,w,e1,e2,e3⟩:=Zo8 (ρ:=r) (t:=t+o.ws.length) (a:=a) (fun x hx=>hs x (Yw _ hx)) (Ybx.1 hn).2 (by omega) (by omega)
   exact ⟨x,Yw _ hx,ν,k,w,by rw [S.nw,if_neg (Zqg hc hs hn hx)];exact e1,e2,e3⟩
theorem Zl2 {a:Int}:∀ {ρ:List S.Ob} {t ν:Int} {δ:List S.Ob},S.nw t ρ a=none->S.nw t (ρ++δ) a=some ν->t+S.tot ρ<=ν
 | [],t,ν,δ,_,h=>by
  obtain ⟨_,_,_,h1,_⟩:=Zdk h;rw [S.tot];omega
 | o::r,t,ν,δ,hn,h=>by
  rw [S.nw] at hn;rw [List.cons_append,S.nw] at h
  split at hn
  ·cases hn
  ·rename_i c
   rw [if_neg c] at h;have:=Zl2 hn h;rw [S.tot];omega
theorem Z1t {t:Int}{ρ:List S.Ob}(hs:∀ o∈ρ,o∈cf.O){o:S.Ob}(ho:o∈cf.O)(hno:o ∉ ρ):S.nw t ρ o.at_=none:=by
 cases h:S.nw t ρ o.at_ with
 | none=>rfl
 | some ν=>exact absurd (Zl6 hc hs ho h).1 hno
include hI
theorem Zyh {X:Int->Prop}(hX:∀ a,X a->S.Out cf a){st0:S.Vw}(hXw:∀ a,X a->S.WOk cf T (st0.mem a)){p:Int}{ρ:List S.Ob}{st:S.Vw}(hL:S.Lo cf T X st0 p ρ st)(h0:cf.to_<=p)(h1:p<cf.to_+S.tot ρ)(hw:S.WOk cf T (st.mem p))
 {ρ':List S.Ob} {st2:S.Vw} (htr:S.Tr cf T ρ (st.args [st.mem p]) ρ' st2) (hcl:S.Cl cf ρ' (st.mem p)) (hwo:∀ o∈ρ,∀ w∈o.ws,S.WOk cf T w) :
 S.Lo cf T X st0 (p+1) ρ' (st2.sto p (S.mv cf.to_ ρ' (st.mem p))):=by
 obtain ⟨δ,e,hδ⟩:=htr.ext;have t1:S.tot ρ'=S.tot ρ+S.tot δ:=by rw [e,Za2]
 have p1:=Zt δ;have hsum:=Zbj ρ' cf.O htr.ch.nd htr.ch.sub;have hs:=hc.sum;have hto0:=hc.to0;have hm:∀ a,(st2.sto p (S.mv cf.to_ ρ' (st.mem p))).mem a=if a=p then S.mv cf.to_ ρ' (st.mem p) else st2.mem a:=fun _=>rfl
 have ap:∀ a,cf.to_<=a->a<cf.to_+cf.hf->¬ (cf.fr<=a/\a<cf.fr+cf.hf):=fun a q1 q2 q3=>by rcases hc.apart with ap | ap <;> omega
 refine ⟨fun o ho=>?_,⟨htr.ch.sub,htr.ch.nd,htr.ch.r29,?_,?_,fun o ho hno k w hk=>?_,fun o ho ν hν=>?_⟩,fun j h4 h5 h29=>?_,fun a hx ha hb=>?_,fun a hx=>?_,fun o ho ν hν k w hk=>?_,htr.inp.trans hL.inp,htr.out.trans hL.out⟩
 ·rw [e] at ho
  exact (List.mem_append.1 ho).elim (hL.tin o) (hδ o)
 ·rw [hm,if_neg (by omega)];exact htr.ch.m2
 ·rw [hm,if_neg (by omega)];exact htr.ch.m4
 ·have:=hc.obs o ho
  have hk1:=(Ye.1 hk).1;rw [hm,if_neg (fun q=>ap p h0 (by omega) ⟨by omega,by omega⟩)];exact htr.ch.unc o ho hno k w hk
 ·have:=hc.obs o (htr.ch.sub o ho)
  have hl:=Zf7 hc (htr.ch.sub o ho);rw [hm,if_neg (fun q=>ap p h0 (by omega) ⟨by omega,by omega⟩)];exact htr.ch.cop o ho ν hν
 ·show st2.reg j=st0.reg j
  rw [htr.reg j h4 h5 h29,<- hL.reg j h4 h5 h29]
  show (if 4<=j/\j<4+(1:Nat) then _ else st.reg j)=_
  rw [if_neg (by omega)]
 ·rw [hm,if_neg (by omega),htr.mem a ha (by omega)]
  exact hL.mem a hx ha (by omega)
 ·have hO:=hX a hx
  obtain ⟨q1,q2⟩:=hL.root a hx;rw [hm,if_neg (fun q=>hO.2.1 ⟨by omega,by omega⟩),htr.mem a hO.1 (fun q=>hO.2.1 ⟨by omega,by omega⟩)]
  show st.mem a=_/\_
  rw [q1];exact ⟨(Zn9 hI hc e (hXw a hx) q2 htr.ch.sub).symm,fun o hoo he=>htr.sub hc (q2 o hoo he)⟩
 ·by_cases c:o∈ρ
  ·obtain ⟨ν',hν'⟩:=Zfw (t:=cf.to_) c
   have hq:=Zd5 δ hν';rw [<- e,hν] at hq
   cases hq
   obtain ⟨_,q1,q2⟩:=Zl6 hc hL.ch.sub (hL.ch.sub o c) hν';have hk1:=(Ye.1 hk).1;obtain ⟨g1,g2⟩:=hL.old o c _ hν' k w hk;by_cases cp:ν+(k:Int)=p
   ·have hwe:w=st.mem p:=by rw [<- cp];exact (g2 (by omega)).symm
    refine ⟨fun _=>?_,fun q=>by omega⟩;rw [hm,if_pos cp,hwe];exact ⟨rfl,hcl⟩
   ·have hsame:(st2.sto p (S.mv cf.to_ ρ' (st.mem p))).mem (ν+(k:Int))=st.mem (ν+(k:Int)):=by
     rw [hm,if_neg cp,htr.mem _ (ap _ (by omega) (by omega)) (by omega)];rfl
    rw [hsame];refine ⟨fun q=>?_,fun q=>g2 (by omega)⟩;obtain ⟨g3,g4⟩:=g1 (by omega);rw [g3];exact ⟨(Zn9 hI hc e (hwo o c w (Yr hk)) g4 htr.ch.sub).symm,fun o hoo he=>htr.sub hc (g4 o hoo he)⟩
  ·have hb:=Zl2 hc (Z1t hc (t:=cf.to_) hL.ch.sub (htr.ch.sub o ho) c) (e ▸ hν)
   refine ⟨fun q=>by omega,fun q=>?_⟩;rw [hm,if_neg (by omega)];exact htr.new o ho c ν hν k w hk
theorem Zvv {iM:Nat}(hM:S.Seg I S.kMove iM (S.bItems S.rMove)){dep lk:Int}{behind:Bool}(hd:19<=dep){X:Int->Prop}(hX:∀ a,X a->S.Out cf a){st0:S.Vw}(hXw:∀ a,X a->S.WOk cf T (st0.mem a))
 (hTw:∀ o∈cf.O,T o->∀ w∈o.ws,S.WOk cf T w) {ρ:List S.Ob} {st:S.Vw} (hL:S.Lo cf T X st0 cf.to_ ρ st)
 {r:List S.BS} {c:Nat} {Q:List Int->S.Vw->Nat->Prop} {R:S.BO->Nat->Prop}
 (hQ:∀ ρ' st' (c':Nat),S.Lo cf T X st0 (cf.to_+S.tot ρ') ρ' st'->0<=S.tot ρ'-S.tot ρ->(c':Int)<=c+10+130*S.tot ρ'+40*(S.tot ρ'-S.tot ρ)->S.wpSs I dep lk behind r [cf.to_+S.tot ρ'] st' c' Q R) :
 S.wpSs I dep lk behind (S.sWh (S.eLt (S.eL 0) (S.eR 29)) S.bScan::r) [cf.to_] st c Q R:=by
 have hs:=hc.sum;refine Zqj rfl (fun env st' c' k=>∃ (i:Nat) (ρ':List S.Ob),(i:Int)<=S.tot ρ'/\(k:Int)=cf.hf-i/\env=[cf.to_+i]/\S.Lo cf T X st0 (cf.to_+i) ρ' st'/\0<=S.tot ρ'-S.tot ρ/\(c':Int)<=c+130*i+40*(S.tot ρ'-S.tot ρ))
  (k0:=cf.hf.toNat) ⟨0,ρ,Zt ρ,by have:=hc.hf0;omega,by simp,by simpa using hL,by omega,by simp⟩ ?_
 rintro env st' c' k ⟨i,ρ',hi,hk,rfl,hL',hg,hcc⟩;have hsum:=Zbj ρ' cf.O hL'.ch.nd hL'.ch.sub;have htoz:=hc.toz;have hto0:=hc.to0;have q1:S.coE (S.eLt (S.eL 0) (S.eR 29))=3:=rfl;have elt:S.evE I lk [cf.to_+(i:Int)] st' (S.eLt (S.eL 0) (S.eR 29))=if cf.to_+(i:Int)<cf.to_+S.tot ρ' then 1 else 0:=by
  show S.alu 14 (cf.to_+(i:Int)) (st'.reg 29)=_
  rw [hL'.ch.r29];exact Zn8 _ _
 refine ⟨Zdu (by decide) (Zcg 0) (Zus 29),fun hz=>?_,fun hnz=>?_⟩
 ·have he:(i:Int)=S.tot ρ':=by
   refine Classical.byContradiction fun h=>?_
   rw [elt,if_pos (by omega)] at hz
   cases hz
  have:=hQ ρ' st' (c'+S.coE (S.eLt (S.eL 0) (S.eR 29))+4) (he ▸ hL') hg (by rw [q1];omega);rw [he];exact this
 ·have hlt:(i:Int)<S.tot ρ':=Classical.byContradiction fun h=>by
   rw [elt,if_neg (by omega)] at hnz;exact hnz rfl
  obtain ⟨o,ho,ν,j,w,e1,e2,e3⟩:=Zo8 hc (t:=cf.to_) (a:=cf.to_+i) hL'.ch.sub hL'.ch.nd (by omega) (by omega);have hmw:st'.mem (cf.to_+i)=w:=by
   have:=(hL'.old o ho ν e1 j w e3).2 (by omega);rw [e2];exact this
  have hwo:∀ o∈ρ',∀ w∈o.ws,S.WOk cf T w:=fun o ho=>hTw o (hL'.ch.sub o ho) (hL'.tin o ho)
  have hww:S.WOk cf T (st'.mem (cf.to_+i)):=by
   rw [hmw];exact hwo o ho w (Yr e3)
  refine Zl8 hI hc hM hd hL'.ch (hc.tod _ (by omega) (by omega)) hww fun ρ2 st2 c2 htr hcl hcc2=>?_
  have hst:=Zyh hI hc hX hXw hL' (by omega) (by omega) hww htr hcl hwo;obtain ⟨δ,e,_⟩:=htr.ext;have t1:S.tot ρ2=S.tot ρ'+S.tot δ:=by rw [e,Za2]
  have p1:=Zt δ;refine ⟨k-1,by omega,i+1,ρ2,by omega,by omega,?_,?_,by omega,by rw [q1] at hcc2;omega⟩
  ·rw [show cf.to_+((i+1:Nat):Int)=cf.to_+i+1 from by omega]
  ·rw [show cf.to_+((i+1:Nat):Int)=cf.to_+i+1 from by omega]
   exact hst
end
end
section
open Go.RowKit
theorem Zl3:S.chkB S.rCollect=0:=by kernel_rfl
theorem Zxa {env:List Int}(h:(env.length:Int)=1):∃ a,env=[a]:=by
 match env,h with
 | [a],_=>exact ⟨a,rfl⟩
 | [],h=>simp at h
 | _::_::_,h=>simp only [List.length_cons] at h;omega
def S.RX (I:S.Img)(mem:Int->Int)(cnt n:Nat)(x:Int):Prop:=((x=5\/(16<=x/\x<16+cnt))\/S.FX mem (mem 6) n x)\/(1312<=x/\x<I.lab S.kCode)
structure S.bz (I:S.Img)(cf:S.Cf)(T:S.Ob->Prop)(cnt n:Nat)(mem:Int->Int):Prop where
 m2:mem 2=cf.fr
 m3:mem 3=cf.to_
 m4:mem 4=cf.hf
 obj:∀ o∈cf.O,∀ (k:Nat) (w:Int),o.ws[k]?=some w->mem (o.at_+(k:Int))=w
 m8:mem 8=cnt
 c16:cnt<=16
 code1:1312<=I.lab S.kCode
 codef:I.lab S.kCode<=cf.fr
 codet:I.lab S.kCode<=cf.to_
 dat:∀ x,1312<=x->x<I.lab S.kCode->S.Dat I x
 fm:(mem 6=0/\n=0)\/(mem 6≠0/\S.bx I cf T mem (mem 6) n/\∀ j:Nat,j<=n->mem 6+j≠5/\¬ (16<=mem 6+j/\mem 6+j<16+cnt))
 root:∀ x,S.RX I mem cnt n x->S.WOk cf T (mem x)
 tobj:∀ o∈cf.O,T o->∀ w∈o.ws,S.WOk cf T w
structure S.Cd (cf:S.Cf)(T:S.Ob->Prop)(X:Int->Prop)(st:S.Vw)(ρ:List S.Ob)(st':S.Vw):Prop where
 tin:∀ o∈ρ,T o
 sub:∀ o∈ρ,o∈cf.O
 nd:ρ.Nodup
 m2:st'.mem 2=cf.to_
 m3:st'.mem 3=cf.fr
 r26:st'.reg 26=cf.to_+S.tot ρ
 r27:st'.reg 27=cf.to_+cf.hf
 reg:∀ j,j≠4->j≠5->j≠26->j≠27->j≠29->st'.reg j=st.reg j
 mem:∀ a,a≠2->a≠3->¬ X a->¬ (cf.fr<=a/\a<cf.fr+cf.hf)->¬ (cf.to_<=a/\a<cf.to_+S.tot ρ)->st'.mem a=st.mem a
 root:∀ a,X a->st'.mem a=S.mv cf.to_ ρ (st.mem a)/\S.Cl cf ρ (st.mem a)
 new:∀ o∈ρ,∀ ν,S.nw cf.to_ ρ o.at_=some ν->∀ (k:Nat) (w:Int),o.ws[k]?=some w->st'.mem (ν+(k:Int))=S.mv cf.to_ ρ w/\S.Cl cf ρ w
 inp:st'.inp=st.inp
 out:st'.out=st.out
def S.bj (I:S.Img)(cf:S.Cf)(T:S.Ob->Prop)(cnt n:Nat)(st:S.Vw)(o:S.BO)(k:Nat):Prop :=
 ∃ st' ρ,o=.ret st'/\S.Cd cf T (S.RX I st.mem cnt n) st ρ st'/\(k:Int)<=700+130*(cnt+(I.lab S.kCode-1312))+10100*n+170*S.tot ρ
section
variable {I:S.Img}(hI:I.Ok){cf:S.Cf}(hc:S.Cf.Ok I cf){T:S.Ob->Prop}
include hI hc
theorem Zb3 {x:Int}(h0:4<x)(h1:x<1312):S.Out cf x:=⟨fun q=>by have:=hc.fr0;omega,fun q=>by have:=hc.to0;omega,by omega,by omega⟩
theorem Z1u {m m':Int->Int}{a:Int}{n:Nat}(h:∀ j:Nat,j<n->m' (a+1+j)=m (a+1+j))(x:Int):S.FX m' a n x↔S.FX m a n x:=by
 constructor
 ·rintro ⟨j,hj,g⟩
  exact ⟨j,hj,h j hj ▸ g⟩
 ·rintro ⟨j,hj,g⟩
  exact ⟨j,hj,(h j hj).symm ▸ g⟩
theorem Zl4 {iM iS iF iC:Nat}(hM:S.Seg I S.kMove iM (S.bItems S.rMove))(hS:S.Seg I S.kScan iS (S.bItems S.rScan))(hF:S.Seg I S.kFrame iF (S.bItems S.rFrame))(hC:S.Seg I S.kCollect iC (S.bItems S.rCollect)){st:S.Vw}{cnt n:Nat}(h:S.bz I cf T cnt n st.mem) :
 S.Real I S.kCollect false st 72 (fun _ o k=>S.bj I cf T cnt n st o k):=by
 refine Zew hI S.rCollect Zl3 hC (dep:=56) (by decide) st _ fun lk env _ _ hl hp=>?_
 obtain ⟨e0,rfl⟩:=Zxa hl;have hs:=hc.sum;have hsz:=hI.size2;have hfr0:=hc.fr0;have hto0:=hc.to0;have hhf:=hc.hf0;have hfrz:=hc.frz;have htoz:=hc.toz;have hcode1:=h.code1;have hcodef:=h.codef;have hc16:=h.c16;unfold S.rCollect;simp only;obtain ⟨o3,v3⟩:=Zut hI hc (lk:=lk) (env:=[e0]) (st:=st) (n:=3) (by decide) (by decide);refine Zff rfl o3 ?_;rw [v3,h.m3];have hch0:S.Ch cf [] (st.set 29 cf.to_):=⟨(fun o ho=>by cases ho),List.nodup_nil,(Zj _ _ _).trans (by rw [S.tot,Int.add_zero]),h.m2,h.m4,fun o ho _ k w hk=>h.obj o ho k w hk,fun o ho=>by cases ho⟩
 have hsc0:S.Sc cf T (fun _=>False) [] (st.set 29 cf.to_) [] (st.set 29 cf.to_):=S.Sc.refl hI hc (fun _ q=>q) hch0;refine Zka hI hc hM hS (dep:=56) (by decide) hsc0 (a:=5) (b:=6) (l:=[S.eC 5,S.eC 6]) rfl ⟨Zbm 5,Zbm 6,trivial⟩ rfl (by decide) (fun x h1 h2=>⟨hc.low x (by omega) (by omega),Zb3 hI hc (by omega) (by omega)⟩)
  (fun x h1 h2=>h.root x (.inl (.inl (.inl (by omega))))) (fun x hx=>hx.elim) fun ρ1 st1 c1 hsc1 hg1 hc1=>?_
 replace hsc1:=Zf8 hI hc (Y:=fun x=>x=5) (fun x=>⟨fun q=>by rcases q with q | q;exact q.elim;omega,fun q=>.inr (by omega)⟩) hsc1
 have mem1:∀ x:Int,0<=x->x<1312->x≠5->st1.mem x=st.mem x:=fun x h1 h2 h3=>hsc1.mem x h3 (fun q=>by omega) (fun q=>by simp only [S.tot] at q;omega)
 obtain ⟨o8,v8⟩:=Zut hI hc (lk:=lk) (env:=[e0]) (st:=st1) (n:=8) (by decide) (by decide);rw [mem1 8 (by decide) (by decide) (by decide),h.m8] at v8;have he2:S.evEs I lk [e0] st1 [S.eC 16,S.eAdd (S.eC 16) (S.eW 8)]=[16,16+(cnt:Int)]:=by
  show [16%4294967296,S.alu 1 (16%4294967296) (S.evE I lk [e0] st1 (S.eW 8))]=_
  rw [v8,Zn7];unfold S.u32m
  congr 2
  omega
 refine Zka hI hc hM hS (dep:=56) (by decide) hsc1 (a:=16) (b:=16+cnt) (l:=[S.eC 16,S.eAdd (S.eC 16) (S.eW 8)]) rfl ⟨Zbm 16,Zdu (by decide) (Zbm 16) o8,trivial⟩ he2 (by omega)
  (fun x h1 h2=>⟨hc.low x (by omega) (by omega),Zb3 hI hc (by omega) (by omega)⟩) (fun x h1 h2=>h.root x (.inl (.inl (.inr ⟨h1,h2⟩)))) (fun x hx=>⟨Zb3 hI hc (by omega) (by omega),h.root x (.inl (.inl (.inl hx))),by omega⟩) fun ρ2 st2 c2 hsc2 hg2 hc2=>?_
 have mem2:∀ x:Int,0<=x->x≠5->¬ (16<=x/\x<16+cnt)->¬ (cf.fr<=x/\x<cf.fr+cf.hf)->¬ (cf.to_<=x/\x<cf.to_+cf.hf)->st2.mem x=st.mem x:=fun x h1 h2 h3 h4 h5=>hsc2.mem x (fun q=>q.elim h2 h3) h4 (fun q=>by
  have:=Zbj ρ2 cf.O hsc2.ch.nd hsc2.ch.sub;simp only [S.tot] at q;exact h5 ⟨by omega,by omega⟩)
 obtain ⟨o6,v6⟩:=Zut hI hc (lk:=lk) (env:=[e0]) (st:=st2) (n:=6) (by decide) (by decide);rw [mem2 6 (by decide) (by decide) (by omega) (by omega) (by omega)] at v6;have q1:S.coEs [S.eC 5,S.eC 6]=4:=rfl;have q2:S.coEs [S.eC 16,S.eAdd (S.eC 16) (S.eW 8)]=8:=rfl;have q3:S.coE (S.eW 3)=3:=rfl;have q6:S.coE (S.eW 6)=3:=rfl;have q7:S.coEs [S.eW 6]=3:=rfl;have q8:S.coEs [S.eC 1312,S.eA S.kCode]=4:=rfl;have q9:S.coE (S.eW 2)=3:=rfl;have rest:∀ (ρ3:List S.Ob) (st3:S.Vw) (c3:Nat),S.Sc cf T (fun x=>(x=5\/(16<=x/\x<16+cnt))\/S.FX st.mem (st.mem 6) n x) [] (st.set 29 cf.to_) ρ3 st3->(c3:Int)<=300+130*cnt+10100*n+40*S.tot ρ3 ->
  S.wpSs I 56 lk false [S.sDo (S.eF S.kScan [S.eC 1312,S.eA S.kCode]),S.sAs 0 (S.eW 3),S.sWh (S.eLt (S.eL 0) (S.eR 29)) S.bScan,S.sAs 0 (S.eW 2),S.sKeep 2 (S.eW 3),S.sKeep 3 (S.eL 0),S.sSet 26 (S.eR 29),S.sSet 27 (S.eAdd (S.eW 2) (S.eW 4))] [e0] st3 c3
   (fun _ st' c'=>S.bj I cf T cnt n st (.ret st') (c'+(if false=true then 5 else 3))) (fun o k=>S.bj I cf T cnt n st o k):=by
  intro ρ3 st3 c3 hsc3 hc3;have hfx:∀ x,S.FX st.mem (st.mem 6) n x->32<=x/\x<1056:=fun x q=>by
   have:=Zdl hI hc q;have hn:n<=31:=by
    rcases h.fm with ⟨_,rfl⟩ | ⟨_,hf,_⟩
    ·omega
    ·exact hf.n31
   omega
  refine Zka hI hc hM hS (dep:=56) (by decide) hsc3 (a:=1312) (b:=I.lab S.kCode) (l:=[S.eC 1312,S.eA S.kCode]) rfl ⟨Zbm 1312,Z1w _,trivial⟩ rfl (by omega)
   (fun x h1 h2=>⟨h.dat x h1 h2,⟨fun q=>by omega,fun q=>by have:=h.codet;omega,by omega,by omega⟩⟩) (fun x h1 h2=>h.root x (.inr ⟨h1,h2⟩))
   (fun x hx=>⟨?_,h.root x (.inl hx),?_⟩) fun ρ4 st4 c4 hsc4 hg4 hc4=>?_
  ·rcases hx with (rfl | q) | q
   ·exact Zb3 hI hc (by decide) (by decide)
   ·exact Zb3 hI hc (by omega) (by omega)
   ·have:=hfx x q
    exact Zb3 hI hc (by omega) (by omega)
  ·rcases hx with (rfl | q) | q
   ·omega
   ·omega
   ·have:=hfx x q
    omega
  have hout:∀ a,S.RX I st.mem cnt n a->S.Out cf a:=fun a hx=>by
   rcases hx with ((rfl | q) | q) | q
   ·exact Zb3 hI hc (by decide) (by decide)
   ·exact Zb3 hI hc (by omega) (by omega)
   ·have:=hfx a q
    exact Zb3 hI hc (by omega) (by omega)
   ·exact ⟨fun q2=>by omega,fun q2=>by have:=h.codet;omega,by omega,by omega⟩
  have hm3:st4.mem 3=cf.to_:=by
   rw [hsc4.mem 3 (fun q=>by
    rcases q with ((q | q) | q) | q
    ·omega
    ·omega
    ·have:=hfx 3 q;omega
    ·omega) (fun q=>by omega) (fun q=>by simp only [S.tot] at q;omega)]
   exact h.m3
  obtain ⟨o3b,v3b⟩:=Zut hI hc (lk:=lk) (env:=[e0]) (st:=st4) (n:=3) (by decide) (by decide);rw [hm3] at v3b;refine Zd4 rfl o3b ?_;rw [v3b];have hset:[e0].set (Int.toNat 0) cf.to_=[cf.to_]:=rfl;rw [hset];obtain ⟨δ,eδ,hδ⟩:=hsc4.ext;rw [List.nil_append] at eδ;have hL:S.Lo cf T (S.RX I st.mem cnt n) (st.set 29 cf.to_) cf.to_ ρ4 st4:=⟨fun o ho=>hδ o (eδ ▸ ho),hsc4.ch,hsc4.reg,fun a hx ha hb=>hsc4.mem a hx ha (fun q=>hb (by simp only [S.tot] at q;omega)),hsc4.root,
   fun o ho ν hν k w hk=>⟨fun q=>by
    have:=(Zl6 hc hsc4.ch.sub (hsc4.ch.sub o ho) hν).2.1;omega,fun _=>hsc4.new o ho (fun q=>by cases q) ν hν k w hk⟩,hsc4.inp,hsc4.out⟩
  refine Zvv hI hc hM (by decide) hout (st0:=st.set 29 cf.to_) (fun a ha=>h.root a ha) h.tobj hL fun ρ5 st5 c5 hL5 hg5 hc5=>?_
  have hsum5:=Zbj ρ5 cf.O hL5.ch.nd hL5.ch.sub;have t5:=Zt ρ5;have hm3':st5.mem 3=cf.to_:=by
   rw [hL5.mem 3 (fun q=>by
    rcases q with ((q | q) | q) | q
    ·omega
    ·omega
    ·have:=hfx 3 q;omega
    ·omega) (fun q=>by omega) (fun q=>by omega)]
   exact h.m3
  obtain ⟨o2,v2⟩:=Zut hI hc (lk:=lk) (env:=[cf.to_+S.tot ρ5]) (st:=st5) (n:=2) (by decide) (by decide);refine Zd4 rfl o2 ?_;rw [v2,hL5.ch.m2];have hset2:[cf.to_+S.tot ρ5].set (Int.toNat 0) cf.fr=[cf.fr]:=rfl;rw [hset2];obtain ⟨o3c,v3c⟩:=Zut hI hc (lk:=lk) (env:=[cf.fr]) (st:=st5) (n:=3) (by decide) (by decide);have d2:=hc.low 2 (by decide) (by decide);have d3:=hc.low 3 (by decide) (by decide);refine Zcz (a:=S.eC 2) rfl (Zbm 2) rfl o3c (p:=2) rfl d2.2 ?_;rw [v3c,hm3'];refine Zcz (a:=S.eC 3) rfl (Zbm 3) rfl (Zcg 0) (p:=3) rfl d3.2 ?_;have hl0:∀ st,S.evE I lk [cf.fr] st (S.eL 0)=cf.fr:=fun _=>rfl
  rw [hl0];refine Zff rfl (Zus 29) ?_;have hr29:S.evE I lk [cf.fr] ((st5.sto 2 cf.to_).sto 3 cf.fr) (S.eR 29)=cf.to_+S.tot ρ5:=hL5.ch.r29;rw [hr29];obtain ⟨st6,h6⟩:=Yx (((st5.sto 2 cf.to_).sto 3 cf.fr).set 26 (cf.to_+S.tot ρ5));have hm6:∀ a,st6.mem a=if a=3 then cf.fr else if a=2 then cf.to_ else st5.mem a:=fun a=>by rw [h6];rfl
  rw [<- h6];obtain ⟨o2d,v2d⟩:=Zut hI hc (lk:=lk) (env:=[cf.fr]) (st:=st6) (n:=2) (by decide) (by decide);obtain ⟨o4d,v4d⟩:=Zut hI hc (lk:=lk) (env:=[cf.fr]) (st:=st6) (n:=4) (by decide) (by decide);refine Zff rfl (Zdu (by decide) o2d o4d) (Zbo ?_);have hsum:S.evE I lk [cf.fr] st6 (S.eAdd (S.eW 2) (S.eW 4))=cf.to_+cf.hf:=by
   show S.alu 1 (S.evE I lk [cf.fr] st6 (S.eW 2)) (S.evE I lk [cf.fr] st6 (S.eW 4))=_
   rw [v2d,v4d,hm6,hm6,if_neg (by decide),if_pos rfl,if_neg (by decide),if_neg (by decide),hL5.ch.m4,Zn7];unfold S.u32m;omega
  rw [hsum];have q10:S.coE (S.eC 2)=2:=rfl;have q11:S.coE (S.eC 3)=2:=rfl;have q12:S.coE (S.eL 0)=1:=rfl;have q13:S.coE (S.eR 29)=1:=rfl;have q14:S.coE (S.eAdd (S.eW 2) (S.eW 4))=7:=rfl;have hfn:∀ (st:S.Vw) (j v:Int),(st.set j v).mem=st.mem:=fun _ _ _=>rfl
  have notlow:∀ a,S.RX I st.mem cnt n a->a≠2/\a≠3:=fun a hx=>by
   rcases hx with ((rfl | q) | q) | q
   ·omega
   ·omega
   ·have:=hfx a q;omega
   ·omega
  refine ⟨_,ρ5,rfl,⟨hL5.tin,hL5.ch.sub,hL5.ch.nd,?_,?_,?_,?_,fun j h4 h5 h26 h27 h29=>?_,fun a ha2 ha3 hx hfa hta=>?_,fun a hx=>?_,fun o ho ν hν k w hk=>?_,by rw [h6];exact hL5.inp,by rw [h6];exact hL5.out⟩,?_⟩
  ·rw [hfn,hm6];rfl
  ·rw [hfn,hm6];rfl
  ·rw [h6];rfl
  ·rfl
  ·rw [h6]
   show (if j=27 then _ else if j=26 then _ else st5.reg j)=_
   rw [if_neg h27,if_neg h26,hL5.reg j h4 h5 h29]
   show (if j=29 then _ else st.reg j)=_
   rw [if_neg h29]
  ·rw [hfn,hm6,if_neg ha3,if_neg ha2]
   exact hL5.mem a hx hfa hta
  ·obtain ⟨n2,n3⟩:=notlow a hx
   rw [hfn,hm6,if_neg n3,if_neg n2];exact hL5.root a hx
  ·obtain ⟨_,g1,g2⟩:=Zl6 hc hL5.ch.sub (hL5.ch.sub o ho) hν
   have hk1:=(Ye.1 hk).1;rw [hfn,hm6,if_neg (by omega),if_neg (by omega)];exact (hL5.old o ho ν hν k w hk).1 (by omega)
  ·rw [q3] at hc5
   rw [q8] at hc4;rw [q9,q10,q11,q12,q13,q14];simp only [Bool.false_eq_true,if_false];have hd:(if (1312:Int)<I.lab S.kCode then I.lab S.kCode-1312 else 0)=I.lab S.kCode-1312:=by split <;> omega
   rw [hd] at hc4;have q15:S.coE (S.eW 3)=3:=rfl;rw [q15];omega
 refine Zn6 rfl o6 (fun hz=>Zbo ?_) (fun hnz=>?_)
 ·rw [v6] at hz
  have hn0:n=0:=by
   rcases h.fm with ⟨_,q⟩ | ⟨q,_⟩
   ·exact q
   ·exact absurd hz q
  subst hn0;refine rest ρ2 st2 _ (Zf8 hI hc (fun x=>⟨.inl,fun q=>q.resolve_right fun ⟨j,hj,_⟩=>by omega⟩) (Zf8 hI hc (fun x=>Iff.rfl) hsc2)) ?_;rw [q1,q3] at hc1;rw [q2] at hc2;rw [q6];simp only [S.tot] at *;have hd:(if (16:Int)<16+cnt then 16+(cnt:Int)-16 else 0)=cnt:=by split <;> omega
  rw [hd] at hc2;rw [if_pos (by decide)] at hc1;omega
 ·rw [v6] at hnz
  obtain ⟨_,hf,hfo⟩:=h.fm.resolve_left fun q=>hnz q.1
  have hf0:=hf.a0;have hn31:=hf.n31;obtain ⟨a,ha⟩:=Yx (st.mem 6);rw [<- ha] at hf hfo hf0 v6;have same:∀ j:Nat,j<=n->st2.mem (a+j)=st.mem (a+j):=fun j hj=>by
   obtain ⟨_,_,ho⟩:=hf.rd j hj;exact mem2 _ (by omega) (hfo j hj).1 (hfo j hj).2 ho.1 ho.2.1
  have same1:∀ j:Nat,j<n->st2.mem (a+1+j)=st.mem (a+1+j):=fun j hj=>by
   have:=same (j+1) (by omega);rw [show a+((j+1:Nat):Int)=a+1+j from by omega] at this;exact this
  have hslot:∀ x:Int,32<=x->x<1056->st2.mem x=st.mem x:=fun x h1 h2=>mem2 x (by omega) (by omega) (by omega) (by omega) (by omega)
  have hf2:S.bx I cf T st2.mem a n:=⟨hf.a0,hf.n31,by rw [<- hf.len];simpa using same 0 (by omega),hf.rd,hf.off,fun j hj=>by rw [same1 j hj];exact hf.word j hj,
   fun j i hj hi hb=>by rw [hslot _ (by omega) (by omega)];rw [same1 j hj] at hb;exact hf.slot j i hj hi hb⟩
  refine Zz8 (l:=[S.eW 6]) rfl ⟨o6,trivial⟩ (d:=56) (T:=fun _ o k=>S.bp cf T a n ρ2 (st2.args [a]) o k) (by
   rw [show S.evEs I lk [e0] st2 [S.eW 6]=[a] from by show [S.evE I lk [e0] st2 (S.eW 6)]=_;rw [v6]];exact Zqm hI hc hM hS hF (st:=st2.args [a]) (a:=a) (Zs2 hI hc hsc2.ch rfl rfl) rfl hf2) (by decide) fun ret o k hR=>?_
  obtain ⟨st3,ρ3,rfl,hsc3,hk⟩:=hR;have h3:=Zs5 hI hc (by simp) hsc3;refine Zbo (rest ρ3 st3 _ (Zf8 hI hc (fun x=>?_) (S.Sc.trans hI hc hsc2 h3 (fun x hx q=>?_) (fun x hx=>Zb3 hI hc (by omega) (by omega)) (fun x hx=>?_) (fun x hx=>h.root x (.inl (.inl ?_))))) ?_)
  ·rw [<- ha]
   exact or_congr Iff.rfl (Z1u hI hc same1 x)
  ·have:=Zdl hI hc q
   omega
  ·have:=Zdl hI hc hx
   exact Zb3 hI hc (by omega) (by omega)
  ·exact hx
  ·rw [q1,q3] at hc1
   rw [q2] at hc2;rw [q6,q7];have hd:(if (16:Int)<16+cnt then 16+(cnt:Int)-16 else 0)=cnt:=by split <;> omega
   rw [hd] at hc2;rw [if_pos (by decide)] at hc1;simp only [S.tot] at *;have hlen:(S.evEs I lk [e0] st2 [S.eW 6]).length=1:=rfl;rw [hlen];omega
end
end
section
open Go.RowKit
theorem Zsu:S.chkB S.rCons=0:=by kernel_rfl
section
variable {I:S.Img}(hI:I.Ok){cf:S.Cf}(hc:S.Cf.Ok I cf){T:S.Ob->Prop}
include hI hc
end
section
variable {I:S.Img}(hI:I.Ok)
include hI
def S.ax (st:S.Vw)(p a b:Int):S.Vw:=(((st.sto p 67).sto (p+1) a).sto (p+2) b).set 26 (p+3)
theorem Zsv {iN:Nat}(hN:S.Seg I S.kCons iN (S.bItems S.rCons)){st:S.Vw}{p:Int}(h26:st.reg 26=p)(hd:∀ j:Nat,j<3->S.Dat I (p+j)) :
 S.Real I S.kCons false st 17 (fun _ o k=>o=.ret ((S.ax st p (st.reg 4) (st.reg 5)).set 4 (4*p+1))/\k<=60):=by
 refine Zew hI S.rCons Zsu hN (dep:=0) (by decide) st _ fun lk env _ _ hl hp=>?_
 obtain ⟨e0,e1,rfl⟩:=Zk3 hl;have h0:e0=st.reg 4:=hp 0 (show (0:Int)<2 by decide);have h1:e1=st.reg 5:=hp 1 (show (1:Int)<2 by decide);subst h0 h1;have hsz:=hI.size2;have d0:=hd 0 (by decide);have d1:=hd 1 (by decide);have d2:=hd 2 (by decide);rw [show p+((0:Nat):Int)=p from by omega] at d0;rw [show p+((1:Nat):Int)=p+1 from by omega] at d1;rw [show p+((2:Nat):Int)=p+2 from by omega] at d2;obtain ⟨b0,b1,_⟩:=d0;obtain ⟨_,b3,_⟩:=d2;have hr:∀ st:S.Vw,S.evE I lk [st.reg 4,st.reg 5] st (S.eR 26)=st.reg 26:=fun _=>rfl
 unfold S.rCons;simp only;refine Zcz (p:=p) rfl (Zus 26) rfl (Zbm 67) (by rw [Z1v,h26];unfold S.u32m;omega) (hd 0 (by decide) |>.2 |> fun q=>by simpa using q) ?_;refine Zcz (p:=p+1) rfl (Zus 26) rfl (Zcg 0) (by rw [Z1v];show S.u32m (st.reg 26+1)=_;rw [h26];unfold S.u32m;omega) d1.2 ?_;refine Zcz (p:=p+2) rfl (Zus 26) rfl (Zcg 1) (by rw [Z1v];show S.u32m (st.reg 26+2)=_;rw [h26];unfold S.u32m;omega) (hd 2 (by decide) |>.2 |> fun q=>by simpa using q) ?_;refine Zff rfl (Zdu (by decide) (Zus 26) (Zbm 3)) ?_;refine Zl5 rfl (Zdu (by decide) (Zdu (by decide) (Zdu (by decide) (Zus 26) (Zbm 3)) (Zbm 2)) (Zbm 1)) ?_;have e1:∀ (env:List Int) (st:S.Vw),st.reg 26=p->S.evE I lk env st (S.eAdd (S.eR 26) (S.eC 3))=p+3:=fun env st h=>by
  show S.alu 1 (st.reg 26) (3%4294967296)=_
  rw [h,Zn7];unfold S.u32m;omega
 have e2:∀ (env:List Int) (st:S.Vw),st.reg 26=p+3->S.evE I lk env st (S.eRef (S.eSub (S.eR 26) (S.eC 3)))=4*p+1:=fun env st h=>by
  show S.alu 8 (S.alu 10 (S.alu 2 (st.reg 26) (3%4294967296)) (2%4294967296)) (1%4294967296)=_
  rw [h,Z2d,Z2c];have:S.u32m (S.u32m (p+3-3%4294967296)*4)=4*p:=by unfold S.u32m;omega
  rw [this,or1 (by omega) (by omega) (by omega)]
 rw [e1,e2]
 rotate_left
 ·exact Zj _ _ _
 ·exact h26
 refine ⟨rfl,?_⟩;have q1:S.coE (S.eR 26)=1:=rfl;have q2:S.coE (S.eC 67)=2:=rfl;have q3:S.coE (S.eL 0)=1:=rfl;have q4:S.coE (S.eL 1)=1:=rfl;have q5:S.coE (S.eAdd (S.eR 26) (S.eC 3))=4:=rfl;have q6:S.coE (S.eRef (S.eSub (S.eR 26) (S.eC 3)))=10:=rfl;rw [q1,q2,q3,q4,q5,q6]
 decide
end
end
section
open Go.RowKit
def S.b5 (st:S.Vw)(m:Int):S.Vw:={ st with mem:=fun a=>if a=8 then (if 6<m then 8 else m+1) else if a=6 then 0 else if a=16 then st.reg 1 else if a=23 then st.reg 10 else if 17<=a/\a<=22 then st.reg (a-13) else st.mem a }
section
variable {I:S.Img}(hI:I.Ok){cf:S.Cf}(hc:S.Cf.Ok I cf){T:S.Ob->Prop}
include hI hc
end
end
section
open Go.RowKit
def S.bq (I:S.Img)(mem:Int->Int)(lo hi e:Int):Int->List Int->Prop
 | v,[]=>v=e
 | v,x::r=>∃ a,v=4*a+1/\lo<=a/\a+3<=hi/\(∀ j:Nat,j<3->S.Dat I (a+j))/\mem a=67/\mem (a+1)=x/\S.bq I mem lo hi e (mem (a+2)) r
section
variable {I:S.Img}(hI:I.Ok){cf:S.Cf}(hlow:∀ a,0<=a->a<1056->S.Dat I a)
section
variable {dep lk:Int}{behind:Bool}{env:List Int}{st:S.Vw}{r:List S.BS}{c:Nat}{Q:List Int->S.Vw->Nat->Prop}{R:S.BO->Nat->Prop}
include hI
end
end
end
section
open Go.RowKit
structure S.cl (I:S.Img)(m:Nat)(L:List Int)(lo hi:Int)(s0:S.Vw)(v:Int)(i:Nat)(st:S.Vw):Prop where
 reg:st.reg=s0.reg
 inp:st.inp=s0.inp
 out:st.out=s0.out
 mem:∀ a,¬ (17+(m:Int)<=a/\a<17+m+i)->st.mem a=s0.mem a
 it:∀ (q:Nat) (x:Int),q<i->L[q]?=some x->st.mem (17+m+q)=x
 lst:S.bq I s0.mem lo hi 38 v (L.drop i)
section
variable {I:S.Img}(hI:I.Ok)(hlow:∀ a,0<=a->a<1056->S.Dat I a)
include hI hlow
end
end
section
open Go.RowKit
theorem Zqh:S.chkB S.rBegin=0:=by kernel_rfl
structure S.bo (I:S.Img)(hf:Int)(st st':S.Vw):Prop where
 r26:st'.reg 26=I.lab S.kEnd
 r27:st'.reg 27=I.lab S.kEnd+hf
 r2:st'.reg 2=0
 r28:st'.reg 28=st.reg 28
 glob:∀ a,1312<=a->a<I.lab S.kStatic->st'.mem a=70
 rest:∀ a,I.lab S.kStatic<=a->st'.mem a=st.mem a
section
variable {I:S.Img}(hI:I.Ok)(hlow:∀ a,0<=a->a<1056->S.Dat I a)
include hI hlow
theorem Zsw (r:S.BR)(code:Int)(hr:r.body=[S.sHlt (S.eC code)]/\r.params=0/\r.locals=0/\r.behind=false)(hchk:S.chkB r=0){iE:Nat}(hE:S.Seg I r.name iE (S.bItems r))(hc:0<=code/\code<4294967296){st:S.Vw} :
 S.Real I r.name r.behind st 15 (fun _ o k=>o=.halt code st/\k<=10):=by
 obtain ⟨h1,h2,h3,h4⟩:=hr;have:=Zew hI r hchk hE (dep:=0) (by decide) st (fun _ o k=>o=.halt code st/\k<=10) fun lk env _ _ hl hp=>by
  rw [h1,h2,h4];refine Zz7 rfl (Zbm code) ⟨?_,?_⟩
  ·rw [Z1g,Int.emod_eq_of_lt hc.1 hc.2]
  ·have:S.coE (S.eC code)=2:=rfl
   rw [this]
   decide
 rw [h3] at this;exact this
theorem Zz6 {dep lk:Int}{behind:Bool}{nm:ByteArray}{r:List S.BS}{env:List Int}{st:S.Vw}{c:Nat}{Q:List Int->S.Vw->Nat->Prop}{R:S.BO->Nat->Prop}(h:R (.left (I.lab nm) st) (c+4)):S.wpSs I dep lk behind (S.sJmp nm::r) env st c Q R:=by
 rw [Zeo,Zyu];exact h
theorem Zqi {iE:Nat}(hE:S.Seg I S.kBegin iE (S.bItems S.rBegin)){st:S.Vw}{heap:Int}(h1:st.mem 1=heap)(hh:0<=heap/\heap<4294967296){g:Nat}(hst:I.lab S.kStatic=1312+g)(hg:g<=1000)(hd:∀ a,1312<=a->a<1312+g->S.Dat I a)(hend:0<=I.lab S.kEnd/\I.lab S.kEnd+heap<4294967296) :
 S.Real I S.kBegin false st 16 (fun _ o k=>∃ st',o=.left (I.lab S.kF0) st'/\S.bo I (heap/2) st st'/\(k:Int)<=100+20*g):=by
 refine Zew hI S.rBegin Zqh hE (dep:=0) (by decide) st _ fun lk env _ _ hl hp=>?_
 obtain ⟨e0,rfl⟩:=Zxa hl;have qp:S.rBegin.params.toNat=0:=rfl;have qb:S.rBegin.behind=false:=rfl;rw [qp,qb];have hsz:=hI.size2;unfold S.rBegin;simp only;have dd:∀ j:Int,0<=j->j<1056->j<I.size/\¬ I.stk j/\¬ I.code j:=fun j h0 h1=>(hlow j h0 h1).2
 have wW:∀ (env:List Int) (s:S.Vw) (n:Int),0<=n->n<1056->S.okE I lk env s (S.eW n)/\S.evE I lk env s (S.eW n)=s.mem n:=fun env s n h0 h1=>by
  have hu:S.u32m (n%4294967296+0)=n:=by unfold S.u32m;omega
  refine ⟨Zyj (Zbm n) ?_,?_⟩
  ·rw [Z1g,hu];exact Zl7 (hlow n h0 h1)
  ·show s.mem (S.u32m (n%4294967296+0))=_
   rw [hu]
 have cc:∀ (env:List Int) (s:S.Vw),S.evE I lk env s (S.eC 0)=0:=fun _ _=>rfl
 have ea:∀ (env:List Int) (s:S.Vw) (nm:ByteArray),S.evE I lk env s (S.eA nm)=I.lab nm:=fun _ _ _=>rfl
 refine Zcz (a:=S.eC 4) (p:=4) rfl (Zbm 4) rfl (Zdu (by decide) (wW _ _ 1 (by decide) (by decide)).1 (Zbm 1)) rfl (dd 4 (by decide) (by decide)) ?_;have esh:S.evE I lk [e0] st (S.eShr (S.eW 1) 1)=heap/2:=by
  show S.alu 11 (S.evE I lk [e0] st (S.eW 1)) (1%4294967296)=_
  rw [(wW _ _ 1 (by decide) (by decide)).2,h1,Z2b]
 rw [esh];refine Zcz (a:=S.eC 2) (p:=2) rfl (Zbm 2) rfl (Z1w S.kEnd) rfl (dd 2 (by decide) (by decide)) ?_;rw [ea];refine Zcz (a:=S.eC 3) (p:=3) rfl (Zbm 3) rfl (Zdu (by decide) (wW _ _ 2 (by decide) (by decide)).1 (wW _ _ 4 (by decide) (by decide)).1) rfl (dd 3 (by decide) (by decide)) ?_;have e3:S.evE I lk [e0] ((st.sto 4 (heap/2)).sto 2 (I.lab S.kEnd)) (S.eAdd (S.eW 2) (S.eW 4))=I.lab S.kEnd+heap/2:=by
  show S.alu 1 (S.evE I lk [e0] _ (S.eW 2)) (S.evE I lk [e0] _ (S.eW 4))=_
  rw [(wW _ _ 2 (by decide) (by decide)).2,(wW _ _ 4 (by decide) (by decide)).2,Zn7]
  show S.u32m (I.lab S.kEnd+heap/2)=_
  unfold S.u32m;omega
 rw [e3];refine Zcz (a:=S.eC 6) (p:=6) rfl (Zbm 6) rfl (Zbm 0) rfl (dd 6 (by decide) (by decide)) ?_;refine Zcz (a:=S.eC 8) (p:=8) rfl (Zbm 8) rfl (Zbm 0) rfl (dd 8 (by decide) (by decide)) ?_;rw [cc,cc];obtain ⟨s1,hs1⟩:=Yx (((((st.sto 4 (heap/2)).sto 2 (I.lab S.kEnd)).sto 3 (I.lab S.kEnd+heap/2)).sto 6 0).sto 8 0);rw [<- hs1];have hm1:∀ a,s1.mem a=if a=8 then 0 else if a=6 then 0 else if a=3 then I.lab S.kEnd+heap/2 else if a=2 then I.lab S.kEnd else if a=4 then heap/2 else st.mem a:=fun a=>by rw [hs1];rfl
 have hr1:s1.reg=st.reg:=by rw [hs1];rfl
 refine Zd4 rfl (Zbm 1312) ?_;have hset:[e0].set (Int.toNat 0) (S.evE I lk [e0] s1 (S.eC 1312))=[1312]:=rfl;rw [hset];refine Zqj rfl (fun env st' c' k=>∃ i:Nat,i<=g/\k=g-i/\env=[1312+(i:Int)]/\st'.reg=st.reg/\(∀ a:Int,¬ (1312<=a/\a<1312+(i:Int))->st'.mem a=s1.mem a)/\(∀ a:Int,1312<=a->a<1312+(i:Int)->st'.mem a=70)/\(c':Int)<=60+20*i)
  (k0:=g) ⟨0,by omega,by omega,by simp,hr1,fun _ _=>rfl,fun a h1 h2=>by omega,by
   have t1:S.coE (S.eC 4)=2:=rfl;have t2:S.coE (S.eC 2)=2:=rfl;have t3:S.coE (S.eC 3)=2:=rfl;have t4:S.coE (S.eC 6)=2:=rfl;have t5:S.coE (S.eC 8)=2:=rfl;have t6:S.coE (S.eC 0)=2:=rfl;have t7:S.coE (S.eC 1312)=2:=rfl;have t8:S.coE (S.eA S.kEnd)=2:=rfl;have t9:S.coE (S.eShr (S.eW 1) 1)=6:=rfl;have t10:S.coE (S.eAdd (S.eW 2) (S.eW 4))=7:=rfl;rw [t1,t2,t3,t4,t5,t6,t7,t8,t9,t10]
   decide⟩ ?_
 rintro env st' c' k ⟨i,hi,rfl,rfl,hr,hm,hg70,hcc⟩;have q1:S.coE (S.eLt (S.eL 0) (S.eA S.kStatic))=4:=rfl;have elt:S.evE I lk [1312+(i:Int)] st' (S.eLt (S.eL 0) (S.eA S.kStatic))=if 1312+(i:Int)<I.lab S.kStatic then 1 else 0:=by
  show S.alu 14 (1312+(i:Int)) (I.lab S.kStatic)=_
  exact Zn8 _ _
 refine ⟨Zdu (by decide) (Zcg 0) (Z1w _),fun hz=>?_,fun hnz=>?_⟩
 ·have hig:i=g:=by
   refine Classical.byContradiction fun h=>?_
   rw [elt,if_pos (by omega)] at hz
   cases hz
  subst hig;have hm':∀ n:Int,0<=n->n<1056->st'.mem n=s1.mem n:=fun n h0 h1=>hm n (by omega)
  refine Zff rfl (wW _ _ 2 (by decide) (by decide)).1 ?_;rw [(wW _ _ 2 (by decide) (by decide)).2];refine Zff rfl (wW _ _ 3 (by decide) (by decide)).1 ?_;rw [(wW _ _ 3 (by decide) (by decide)).2];refine Zff rfl (Zbm 0) (Zff rfl (Zbm 0) ?_);rw [cc,cc];have v2:st'.mem 2=I.lab S.kEnd:=by rw [hm' 2 (by decide) (by decide),hm1];rfl
  have v3:(st'.set 26 (st'.mem 2)).mem 3=I.lab S.kEnd+heap/2:=by
   show st'.mem 3=_
   rw [hm' 3 (by decide) (by decide),hm1];rfl
  rw [v3,v2];obtain ⟨s4,hs4⟩:=Yx ((((st'.set 26 (I.lab S.kEnd)).set 27 (I.lab S.kEnd+heap/2)).set 1 0).set 2 0);rw [<- hs4];have hrg:∀ j,s4.reg j=if j=2 then 0 else if j=1 then 0 else if j=27 then I.lab S.kEnd+heap/2 else if j=26 then I.lab S.kEnd else st'.reg j:=fun j=>by rw [hs4];rfl
  have hm4:s4.mem=st'.mem:=by rw [hs4];rfl
  refine Zz6 hI hlow ⟨s4,rfl,⟨by rw [hrg];rfl,by rw [hrg];rfl,by rw [hrg];rfl,by rw [hrg];show st'.reg 28=_;rw [hr],fun a h1 h2=>by rw [hm4];exact hg70 a h1 (by omega),fun a ha=>?_⟩,?_⟩
  ·rw [hm4,hm a (by omega),hm1,if_neg (by omega),if_neg (by omega),if_neg (by omega),if_neg (by omega),if_neg (by omega)]
  ·have t1:S.coE (S.eW 2)=3:=rfl
   have t2:S.coE (S.eW 3)=3:=rfl;have t3:S.coE (S.eC 0)=2:=rfl;rw [q1,t1,t2,t3];omega
 ·have hlt:i<g:=Classical.byContradiction fun h=>by
   rw [elt,if_neg (by omega)] at hnz;exact hnz rfl
  have hp:S.u32m (S.evE I lk [1312+(i:Int)] st' (S.eL 0)+0)=1312+i:=by
   show S.u32m (1312+(i:Int)+0)=_
   unfold S.u32m;omega
  refine Zcz rfl (Zcg 0) rfl (Zbm 70) hp (hd (1312+i) (by omega) (by omega)).2 ?_;refine Zd4 rfl (Zdu (by decide) (Zcg 0) (Zbm 1)) (Zbo ?_);have e1:∀ s:S.Vw,S.evE I lk [1312+(i:Int)] s (S.eAdd (S.eL 0) (S.eC 1))=1312+((i+1:Nat):Int):=fun s=>by
   show S.alu 1 (1312+(i:Int)) (1%4294967296)=_
   rw [Zn7];unfold S.u32m;omega
  rw [e1];have e70:S.evE I lk [1312+(i:Int)] st' (S.eC 70)=70:=rfl;rw [e70];have hms:∀ a,(st'.sto (1312+(i:Int)) 70).mem a=if a=1312+(i:Int) then 70 else st'.mem a:=fun _=>rfl
  refine ⟨g-(i+1),by omega,i+1,by omega,rfl,rfl,hr,fun a ha=>?_,fun a h1 h2=>?_,?_⟩
  ·rw [hms,if_neg (by omega)];exact hm a (by omega)
  ·rw [hms]
   by_cases c:a=1312+(i:Int)
   ·rw [if_pos c]
   ·rw [if_neg c];exact hg70 a h1 (by omega)
  ·have t1:S.coE (S.eL 0)=1:=rfl
   have t2:S.coE (S.eC 70)=2:=rfl;have t3:S.coE (S.eAdd (S.eL 0) (S.eC 1))=4:=rfl;rw [q1,t1,t2,t3];omega
end
end
end Go.Proofs.YtdeepoikgfaecaaGreatDoor
