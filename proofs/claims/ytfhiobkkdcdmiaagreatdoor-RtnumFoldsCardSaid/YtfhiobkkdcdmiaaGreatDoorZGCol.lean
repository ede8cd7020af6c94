/- Parts. -/
import Derived.Test.YtfhiobkkdcdmiaaGreatDoorZNCmp
set_option linter.all false
open List renaming getElem?_eq_some_iff->Yg,length_cons->Yi,mem_cons_self->Yu,mem_cons_of_mem->Yw,mem_append->Y0,mem_of_getElem?->Y1,length_nil->Yad,mem_append_left->Ya5,nodup_cons->Yb7
open Int renaming le_refl->Y7,pow_pos->Yar,le_of_lt->Ya3,toNat->Ycd
open Bool renaming false_eq_true->Ybe
namespace Go.Proofs.YtfhiobkkdcdmiaaGreatDoor
open Go.RowKit
section
structure S.Sc (cf:S.Cf)(T:S.Ob->Prop)(X:Int->Prop)(ρ:List S.Ob)(st:S.Vw)(ρ':List S.Ob)(st':S.Vw):Prop where
 ext:∃δ,ρ'=ρ++δ/\∀o∈δ,T o
 ch:S.Ch cf ρ' st'
 reg:∀j,j≠4->j≠5->j≠29->st'.reg j=st.reg j
 mem:∀a,¬X a->¬(cf.fr<=a/\a<cf.fr+cf.hf)->¬(cf.to_+S.tot ρ<=a/\a<cf.to_+S.tot ρ')->st'.mem a=st.mem a
 root:∀a,X a->st'.mem a=S.mv cf.to_ ρ' (st.mem a)/\S.Cl cf ρ' (st.mem a)
 new:∀o∈ρ',o ∉ ρ->∀ν,S.nw cf.to_ ρ' o.at_=some ν->∀(k:Nat)(w:Int),o.ws[k]?=some w->st'.mem (ν+(k:Int))=w
 inp:st'.inp=st.inp
 out:st'.out=st.out
def S.a9 (cf:S.Cf)(a:Int):Prop:=¬(cf.fr<=a/\a<cf.fr+cf.hf)/\¬(cf.to_<=a/\a<cf.to_+cf.hf)/\a≠2/\a≠4
theorem Zjx {env:List Int}(h:(env.length:Int)=2):∃a b,env=[a,b]:=by
 match env,h with
 | [a,b],_=>exact⟨a,b,rfl⟩
 | [],h=>simp at h
 | [_],h=>simp at h
 | _::_::_::_,h=>simp only[Yi] at h;omega
theorem Zut:S.chkB S.rScan=0:=by kernel_rfl
section
variable {I:S.Img}(hI:I.Ok){cf:S.Cf}(hc:S.Cf.Ok I cf){T:S.Ob->Prop}
include hI hc
theorem Zuu {ρ:List S.Ob}{st st':S.Vw}(h:S.Ch cf ρ st)(h29:st'.reg 29=st.reg 29)(hm:st'.mem=st.mem):S.Ch cf ρ st' :=
 ⟨h.sub,h.nd,by rw[h29];exact h.r29,by rw[hm];exact h.m2,by rw[hm];exact h.m4,λ o ho hno k w hw=>by rw[hm];exact h.unc o ho hno k w hw,λ o ho ν hν=>by rw[hm];exact h.cop o ho ν hν⟩
theorem S.Sc.refl {X:Int->Prop}(hX:∀a,¬X a){ρ:List S.Ob}{st:S.Vw}(h:S.Ch cf ρ st):S.Sc cf T X ρ st ρ st :=
 ⟨⟨[],(List.append_nil _).symm,λ o ho=>by cases ho⟩,h,λ _ _ _ _=>rfl,λ _ _ _ _=>rfl,λ a ha=>absurd ha (hX a),λ o ho hno=>absurd ho hno,rfl,rfl⟩
theorem Zpp {ρ ρ' δ:List S.Ob}(e:ρ'=ρ++δ){w:Int}(hw:S.WOk cf T w)(hcl:S.Cl cf ρ w)(hs:∀o∈ρ',o∈cf.O):S.mv cf.to_ ρ' w=S.mv cf.to_ ρ w:=by
 unfold S.mv
 split
 .rename_i hp
  rcases hw.2.2 hp with⟨o,ho,_,rfl⟩|hout
  .obtain⟨ν,hν⟩:=Zff (t:=cf.to_) (hcl o ho rfl)
   have e1:(4*o.at_+1)/4=o.at_:=by omega
   rw[e1,hν,e,Zed δ hν]
  .have none_of:∀ρ:List S.Ob,(∀o∈ρ,o∈cf.O)->S.nw cf.to_ ρ (w/4)=none:=λ ρ hs=>by
    cases hq:S.nw cf.to_ ρ (w/4) with
    | none=>rfl
    | some ν =>
     exfalso
     obtain⟨o,ho,ea,_⟩:=Zf0 hq;have:=hc.obs o (hs o ho);have hl:=Zhb hc (hs o ho);rcases hout with q|q <;> omega
   rw[none_of ρ' hs,none_of ρ λ o ho=>hs o (by rw[e];exact Ya5 _ ho)]
 .rfl
theorem S.Sc.trans {X Y:Int->Prop}{ρ ρ' ρ2:List S.Ob}{st st' st2:S.Vw}(h:S.Sc cf T X ρ st ρ' st')(k:S.Sc cf T Y ρ' st' ρ2 st2)(hXY:∀a,X a->¬Y a)(hX:∀a,X a->S.a9 cf a)(hY:∀a,Y a->S.a9 cf a)
 (hw:∀a,X a->S.WOk cf T (st.mem a)):S.Sc cf T (λ a=>X a\/Y a) ρ st ρ2 st2:=by
 obtain⟨δ,e,hδ⟩:=h.ext;obtain⟨δ2,e2,hδ2⟩:=k.ext;have t1:S.tot ρ'=S.tot ρ+S.tot δ:=by rw[e,Zbn]
 have t2:S.tot ρ2=S.tot ρ'+S.tot δ2:=by rw[e2,Zbn]
 have p1:=Zy δ;have p2:=Zy δ2;have p0:=Zy ρ;have hsum:=Zci ρ2 cf.O k.ch.nd k.ch.sub;have hs:=hc.sum;refine⟨⟨δ++δ2,by rw[e2,e,List.append_assoc],λ o ho=>(Y0.1 ho).elim (hδ o) (hδ2 o)⟩,k.ch,λ j h4 h5 h29=>(k.reg j h4 h5 h29).trans (h.reg j h4 h5 h29),λ a hx ha hb=>?_,λ a hx=>?_,λ o ho hno ν hν i w hw=>?_,k.inp.trans h.inp,k.out.trans h.out⟩
 .rw[k.mem a (λ q=>hx (.inr q)) ha (λ q=>hb ⟨by omega,q.2⟩),h.mem a (λ q=>hx (.inl q)) ha (λ q=>hb ⟨q.1,by omega⟩)]
 .by_cases cx:X a
  .obtain⟨q1,q2⟩:=h.root a cx
   have ho:=hX a cx;rw[k.mem a (hXY a cx) ho.1 (λ q=>ho.2.1 ⟨by omega,by omega⟩),q1];exact⟨(Zpp hI hc e2 (hw a cx) q2 k.ch.sub).symm,λ o hoo he=>by rw[e2];exact Ya5 _ (q2 o hoo he)⟩
  .have cy:Y a:=hx.resolve_left cx
   have ho:=hY a cy;obtain⟨q1,q2⟩:=k.root a cy;have e3:st'.mem a=st.mem a:=h.mem a cx ho.1 (λ q=>ho.2.1 ⟨by omega,by omega⟩);rw[e3] at q1 q2;exact⟨q1,q2⟩
 .by_cases c:o∈ρ'
  .obtain⟨ν',hν'⟩:=Zff (t:=cf.to_) c
   have:=Zed δ2 hν';rw[<- e2,hν] at this
   cases this
   obtain⟨_,q1,q2⟩:=Zlk hc h.ch.sub (h.ch.sub o c) hν';have hi:=(Yg.1 hw).1;rw[k.mem (ν+(i:Int)) (λ q=>(hY _ q).2.1 ⟨by omega,by omega⟩) (λ q=>by rcases hc.apart with ap|ap <;> omega) (λ q=>by omega)];exact h.new o c hno _ hν' i w hw
  .exact k.new o ho c ν hν i w hw
theorem Zm4 {iM:Nat}(hM:S.Seg I S.kMove iM (S.bItems S.rMove)){dep lk:Int}{behind:Bool}(hd:19<=dep){ρ:List S.Ob}{st:S.Vw}(hch:S.Ch cf ρ st){p:Int}(hp:S.Dat I p)(hw:S.WOk cf T (st.mem p))
 {r:List Int} {c:Nat} {Q:List Int->S.Vw->Nat->Prop} {R:S.BO->Nat->Prop}
 (hQ:∀ρ' st2 (c':Nat),S.Tr cf T ρ (st.args [st.mem p]) ρ' st2->S.Cl cf ρ' (st.mem p)->(c':Int)<=c+116+40*(S.tot ρ'-S.tot ρ)->Q ((p+1)::r) (st2.sto p (S.mv cf.to_ ρ' (st.mem p))) c') :
 S.wpSs I dep lk behind S.bScan (p::r) st c Q R:=by
 have hsz:=hI.size2;have h0:=hp.1;have h1:=hp.2.1;have ep:S.u32m (p+0)=p:=by unfold S.u32m;omega
 unfold S.bScan;rw[Zbs,Zpl];refine Zbt rfl (Zcz 0) ?_;rw[Z3v];refine Zbt rfl (Z29 (Zcz 0) (by show S.u32m (p+0)<_/\¬I.stk (S.u32m (p+0));rw[ep];exact Za7 hp)) ?_;have em:S.evE I lk (p::r) st (S.eM (S.eL 0) 0)=st.mem p:=by
  show st.mem (S.u32m (p+0))=_
  rw[ep]
 rw[em];have hch2:S.Ch cf ρ (st.args [st.mem p]):=Zuu hI hc hch rfl rfl;refine⟨19,_,Zv5 hI hc hM hch2 (w:=st.mem p) rfl hw,hd,λ ret o k hR=>?_⟩;obtain⟨st2,ρ',rfl,htr,h4,hcl,hk⟩:=hR
 show S.u32m (p+0)<I.size/\¬I.stk (S.u32m (p+0))/\¬I.code (S.u32m (p+0))/\_
 rw[ep];refine⟨hp.2.1,hp.2.2.1,hp.2.2.2,?_⟩;rw[h4,show S.u32m (S.evE I lk (p::r) st (S.eL 0)+0)=p from ep];refine Ze4 rfl (Zfd (by decide) (Zcz 0) (Ze3 1)) (Zbm ?_);have e1:S.evE I lk (p::r) (st2.sto p (S.mv cf.to_ ρ' (st.mem p))) (S.eAdd (S.eL 0) (S.eC 1))=p+1:=by
  show S.alu 1 p (1%4294967296)=_
  rw[Zat];unfold S.u32m;omega
 rw[e1];refine hQ ρ' st2 _ htr hcl ?_;have q1:S.coE (S.eL 0)=1:=rfl;have q2:S.coE (S.eM (S.eL 0) 0)=2:=rfl;have q3:S.coE (S.eAdd (S.eL 0) (S.eC 1))=4:=rfl;simp only[Yi,Yad];omega
theorem Z4a {ρ ρ':List S.Ob}{st st2:S.Vw}{p:Int}(hp:S.a9 cf p)(ho:∀o∈cf.O,True)(htr:S.Tr cf T ρ (st.args [st.mem p]) ρ' st2)(hcl:S.Cl cf ρ' (st.mem p)) :
 S.Sc cf T (λ a=>a=p) ρ st ρ' (st2.sto p (S.mv cf.to_ ρ' (st.mem p))):=by
 have hm:∀a,(st2.sto p (S.mv cf.to_ ρ' (st.mem p))).mem a=if a=p then S.mv cf.to_ ρ' (st.mem p) else st2.mem a:=λ _=>rfl
 have hsum:=Zci ρ' cf.O htr.ch.nd htr.ch.sub;have hs:=hc.sum;have h0:=Zy ρ';refine⟨htr.ext,⟨htr.ch.sub,htr.ch.nd,htr.ch.r29,?_,?_,λ o ho hno k w hw=>?_,λ o ho ν hν=>?_⟩,λ j h4 h5 h29=>?_,λ a hx ha hb=>?_,λ a hx=>?_,λ o ho hno ν hν k w hw=>?_,htr.inp,htr.out⟩
 .rw[hm,if_neg (Ne.symm hp.2.2.1)];exact htr.ch.m2
 .rw[hm,if_neg (Ne.symm hp.2.2.2)];exact htr.ch.m4
 .have:=hc.obs o ho
  have hk:=(Yg.1 hw).1;rw[hm,if_neg (λ e=>hp.1 ⟨by omega,by omega⟩)];exact htr.ch.unc o ho hno k w hw
 .have:=hc.obs o (htr.ch.sub o ho)
  have hl:=Zhb hc (htr.ch.sub o ho);rw[hm,if_neg (λ e=>hp.1 ⟨by omega,by omega⟩)];exact htr.ch.cop o ho ν hν
 .show st2.reg j=st.reg j
  rw[htr.reg j h4 h5 h29]
  show(if 4<=j/\j<4+(1:Nat) then _ else st.reg j)=_
  rw[if_neg (by omega)]
 .rw[hm,if_neg hx]
  exact htr.mem a ha hb
 .subst hx
  rw[hm,if_pos rfl];exact⟨rfl,hcl⟩
 .obtain⟨_,q1,q2⟩:=Zlk hc htr.ch.sub (htr.ch.sub o ho) hν
  have hk:=(Yg.1 hw).1;rw[hm,if_neg (λ e=>hp.2.1 ⟨by omega,by omega⟩)];exact htr.new o ho hno ν hν k w hw
def S.cd (cf:S.Cf)(T:S.Ob->Prop)(a b:Int)(ρ:List S.Ob)(st:S.Vw)(o:S.BO)(k:Nat):Prop :=
 ∃st' ρ',o=.ret st'/\S.Sc cf T (λ x=>a<=x/\x<b) ρ st ρ' st'/\(k:Int)<=30+130*(if a<b then b-a else 0)+40*(S.tot ρ'-S.tot ρ)
theorem Zuv {iM iS:Nat}(hM:S.Seg I S.kMove iM (S.bItems S.rMove))(hS:S.Seg I S.kScan iS (S.bItems S.rScan)){ρ:List S.Ob}{st:S.Vw}(hch:S.Ch cf ρ st){a b:Int}(ha:st.reg 4=a)(hb:st.reg 5=b)(hb0:0<=a/\0<=b/\b<=335544320)
 (hdat:∀x,a<=x->x<b->S.Dat I x/\S.a9 cf x) (hw:∀x,a<=x->x<b->S.WOk cf T (st.mem x)) :
 S.Real I S.kScan false st 36 (λ _ o k=>S.cd cf T a b ρ st o k):=by
 have hp1:(1:Nat)=1:=rfl;refine Zgu hI S.rScan Zut hS (dep:=19) (by decide) st _ λ lk env _ _ hl hp=>?_
 obtain⟨e0,e1,rfl⟩:=Zjx hl;have h0:e0=st.reg 4:=hp 0 (show(0:Int)<2 by decide);have h1:e1=st.reg 5:=hp 1 (show(1:Int)<2 by decide);rw[ha] at h0;rw[hb] at h1;subst h0 h1;unfold S.rScan;simp only;refine Zuo rfl (λ env st' c k=>∃(i:Nat)(ρ':List S.Ob),(i=0\/e0+i<=e1)/\k=(e1-e0).toNat-i/\env=[e0+i,e1]/\S.Sc cf T (λ x=>e0<=x/\x<e0+i) ρ st ρ' st'/\(c:Int)<=6+127*i+40*(S.tot ρ'-S.tot ρ))
  (k0:=(e1-e0).toNat) ⟨0,ρ,.inl rfl,by omega,by simp,S.Sc.refl hI hc (λ x hx=>by omega) hch,by simp⟩ ?_
 rintro env st' c k ⟨i,ρ',hi,rfl,rfl,hsc,hcc⟩;have elt:S.evE I lk [e0+(i:Int),e1] st' (S.eLt (S.eL 0) (S.eL 1))=if e0+(i:Int)<e1 then 1 else 0:=by
  show S.alu 14 (e0+(i:Int)) e1=_
  exact Zcg _ _
 refine⟨Zfd (by decide) (Zcz 0) (Zcz 1),λ hz=>?_,λ hnz=>?_⟩
 .have hnlt:¬e0+(i:Int)<e1:=λ h=>by rw[elt,if_pos h] at hz;cases hz
  refine Zbm ⟨st',ρ',rfl,?_,?_⟩
  .have heq:(λ x=>e0<=x/\x<e0+(i:Int))=λ x=>e0<=x/\x<e1:=by
    funext x
    refine propext ⟨λ q=>?_,λ q=>?_⟩
    .rcases hi with rfl|hi
     .exact absurd q (by omega)
     .omega
    .rcases hi with rfl|hi
     .omega
     .omega
   rw[<- heq];exact hsc
  .have q1:S.coE (S.eLt (S.eL 0) (S.eL 1))=3:=rfl
   simp only[Ybe,if_false];rcases hi with rfl|hi
   .rw[if_neg (by omega)]
    omega
   .by_cases h:e0<e1
    .rw[if_pos h];omega
    .rw[if_neg h];omega
 .have hlt:e0+(i:Int)<e1:=Y_c λ h=>by
   rw[elt,if_neg h] at hnz;exact hnz rfl
  obtain⟨hd,hout⟩:=hdat (e0+i) (by omega) hlt;have hsum:=Zci ρ' cf.O hsc.ch.nd hsc.ch.sub;have hs:=hc.sum;have t0:=Zy ρ;have hsame:st'.mem (e0+i)=st.mem (e0+i):=hsc.mem _ (by omega) hout.1 (λ q=>hout.2.1 ⟨by omega,by omega⟩);refine Zm4 hI hc hM (Y7 _) hsc.ch hd (T:=T) (by rw[hsame];exact hw _ (by omega) hlt) λ ρ2 st2 c' htr hcl hcc'=>?_
  have hone:=Z4a hI hc hout (λ _ _=>trivial) htr hcl;have htrans:=S.Sc.trans hI hc hsc hone (λ x hx e=>by omega) (λ x hx=>(hdat x hx.1 (by omega)).2) (λ x hx=>by rw[hx];exact hout) (λ x hx=>hw x hx.1 (by omega));refine⟨(e1-e0).toNat-(i+1),by omega,i+1,ρ2,.inr (by omega),rfl,by congr 1;omega,?_,?_⟩
  .have heq:(λ x=>(e0<=x/\x<e0+(i:Int))\/x=e0+(i:Int))=λ x=>e0<=x/\x<e0+((i+1:Nat):Int):=by
    funext x
    refine propext ⟨λ q=>by omega,λ q=>by omega⟩
   rw[<- heq];exact htrans
  .have q1:S.coE (S.eLt (S.eL 0) (S.eL 1))=3:=rfl
   omega
end
end
section
theorem Zr7:S.chkB S.rFrame=0:=by kernel_rfl
theorem Z7f {env:List Int}(h:(env.length:Int)=5):∃a b c d e,env=[a,b,c,d,e]:=by
 match env,h with
 | [a,b,c,d,e],_=>exact⟨a,b,c,d,e,rfl⟩
 | [],h=>simp at h
 | [_],h=>simp at h
 | [_,_],h=>simp at h
 | [_,_,_],h=>simp at h
 | [_,_,_,_],h=>simp at h
 | _::_::_::_::_::_::_,h=>simp only[Yi] at h;omega
def S.bt (w:Int)(i:Nat):Bool:=w/2^i%2==1
def S.Sl (s w:Int)(i:Nat)(x:Int):Prop:=∃j:Nat,j<i/\x=s+j/\S.bt w j=true
theorem Z1q (s w:Int)(x:Int):¬S.Sl s w 0 x:=λ⟨j,h,_⟩=>by omega
theorem sl_step {s w:Int}{i:Nat}{x:Int}:S.Sl s w (i+1) x↔S.Sl s w i x\/(x=s+i/\S.bt w i=true):=by
 constructor
 .rintro⟨j,h,rfl,hb⟩
  by_cases c:j=i
  .subst c;exact .inr ⟨rfl,hb⟩
  .exact .inl ⟨j,by omega,rfl,hb⟩
 .rintro(⟨j,h,rfl,hb⟩|⟨rfl,hb⟩)
  .exact⟨j,by omega,rfl,hb⟩
  .exact⟨i,by omega,rfl,hb⟩
theorem Zuw (w:Int)(i:Nat):w/2^i/2=w/2^(i+1):=by
 rw[Int.ediv_ediv_of_nonneg (Ya3 (Yar (by decide))),Int.pow_succ]
section
variable {I:S.Img}(hI:I.Ok){cf:S.Cf}(hc:S.Cf.Ok I cf){T:S.Ob->Prop}
include hI hc
theorem Zux {X:Int->Prop}{ρ ρ':List S.Ob}{st st':S.Vw}{l:List Int}(hl:l.length<=2)(h:S.Sc cf T X ρ (st.args l) ρ' st'):S.Sc cf T X ρ st ρ' st' :=
 ⟨h.ext,h.ch,λ j h4 h5 h29=>by
  rw[h.reg j h4 h5 h29]
  show(if 4<=j/\j<4+(l.length:Int) then _ else st.reg j)=_
  rw[if_neg (by omega)],h.mem,h.root,h.new,h.inp,h.out⟩
theorem Zhc {X Y:Int->Prop}(e:∀x,X x↔Y x){ρ ρ':List S.Ob}{st st':S.Vw}(h:S.Sc cf T X ρ st ρ' st'):S.Sc cf T Y ρ st ρ' st':=by
 have:X=Y:=funext λ x=>propext (e x)
 subst this;exact h
theorem Zll {iM iS:Nat}(hM:S.Seg I S.kMove iM (S.bItems S.rMove))(hS:S.Seg I S.kScan iS (S.bItems S.rScan)){dep lk:Int}{behind:Bool}(hd:36<=dep){X:Int->Prop}{ρ0 ρ:List S.Ob}{st0 st:S.Vw}(hsc:S.Sc cf T X ρ0 st0 ρ st)
 {a b:Int} {l:List S.BE} {env:List Int} (hp:S.pureEs l=true) (hok:S.okEs I lk env st l) (he:S.evEs I lk env st l=[a,b]) (hb0:0<=a/\0<=b/\b<=335544320)
 (hdat:∀x,a<=x->x<b->S.Dat I x/\S.a9 cf x) (hw:∀x,a<=x->x<b->S.WOk cf T (st0.mem x)) (hX:∀x,X x->S.a9 cf x/\S.WOk cf T (st0.mem x)/\¬(a<=x/\x<b))
 {r:List S.BS} {c:Nat} {Q:List Int->S.Vw->Nat->Prop} {R:S.BO->Nat->Prop}
 (hQ:∀ρ' st' (c':Nat),S.Sc cf T (λ x=>X x\/(a<=x/\x<b)) ρ0 st0 ρ' st'->0<=S.tot ρ'-S.tot ρ->(c':Int)<=c+S.coEs l+36+130*(if a<b then b-a else 0)+40*(S.tot ρ'-S.tot ρ)->S.wpSs I dep lk behind r env st' c' Q R) :
 S.wpSs I dep lk behind (S.sDo (S.eF S.kScan l)::r) env st c Q R:=by
 have hsum:=Zci ρ cf.O hsc.ch.nd hsc.ch.sub;have hs:=hc.sum;have t0:=Zy ρ0;have hcha:S.Ch cf ρ (st.args [a,b]):=Zuu hI hc hsc.ch rfl rfl;have hsame:∀x,a<=x->x<b->st.mem x=st0.mem x:=λ x h1 h2=>by
  obtain⟨_,ho⟩:=hdat x h1 h2;exact hsc.mem x (λ q=>(hX x q).2.2 ⟨h1,h2⟩) ho.1 (λ q=>ho.2.1 ⟨by omega,by omega⟩)
 refine Z1n hp hok (d:=36) (T:=λ _ o k=>S.cd cf T a b ρ (st.args [a,b]) o k) (by rw[he];exact Zuv hI hc hM hS hcha rfl rfl hb0 hdat λ x h1 h2=>by show S.WOk cf T (st.mem x);rw[hsame x h1 h2];exact hw x h1 h2) hd λ ret o k hR=>?_
 obtain⟨st',ρ',rfl,h1,hk⟩:=hR;have h2:=Zux hI hc (by simp) h1;obtain⟨δ,e,_⟩:=h2.ext;have:=Zy δ;refine hQ ρ' st' _ (S.Sc.trans hI hc hsc h2 (λ x hx q=>(hX x hx).2.2 q) (λ x hx=>(hX x hx).1) (λ x hx=>(hdat x hx.1 hx.2).2) (λ x hx=>(hX x hx).2.1)) (by rw[e,Zbn];omega) ?_;rw[he];simp only[Yi,Yad];omega
theorem Zpq {iM iS:Nat}(hM:S.Seg I S.kMove iM (S.bItems S.rMove))(hS:S.Seg I S.kScan iS (S.bItems S.rScan)){dep lk:Int}{behind:Bool}(hd:36<=dep){X:Int->Prop}{ρ0 ρ:List S.Ob}{st0 st:S.Vw}(hsc:S.Sc cf T X ρ0 st0 ρ st)
 {a e1 s w:Int} (hw0:0<=w/\w<4294967296) (hs0:0<=s/\s+32<=335544320) (hdat:∀j:Nat,j<32->S.bt w j=true->S.Dat I (s+j)/\S.a9 cf (s+j)/\S.WOk cf T (st0.mem (s+j)))
 (hX:∀x,X x->S.a9 cf x/\S.WOk cf T (st0.mem x)/\¬(s<=x/\x<s+32))
 {r:List S.BS} {c:Nat} {Q:List Int->S.Vw->Nat->Prop} {R:S.BO->Nat->Prop}
 (hQ:∀ρ' st' w' (c':Nat),S.Sc cf T (λ x=>X x\/S.Sl s w 32 x) ρ0 st0 ρ' st'->0<=S.tot ρ'-S.tot ρ->(c':Int)<=c+10000+40*(S.tot ρ'-S.tot ρ)->S.wpSs I dep lk behind r [a,e1,s+32,w',s+32] st' c' Q R) :
 S.wpSs I dep lk behind (S.sWh (S.eLt (S.eL 2) (S.eL 4))
  [S.sWhen (S.eAnd (S.eL 3) (S.eC 1)) [S.sDo (S.eF S.kScan [S.eL 2,S.eAdd (S.eL 2) (S.eC 1)])],
   S.sAs 3 (S.eShr (S.eL 3) 1),S.sAs 2 (S.eAdd (S.eL 2) (S.eC 1))]::r) [a,e1,s,w,s+32] st c Q R:=by
 have hs:=hc.sum;refine Zuo rfl (λ env st' c' k=>∃(i:Nat)(ρ':List S.Ob),i<=32/\k=32-i/\env=[a,e1,s+i,w/2^i,s+32]/\S.Sc cf T (λ x=>X x\/S.Sl s w i x) ρ0 st0 ρ' st'/\0<=S.tot ρ'-S.tot ρ/\(c':Int)<=c+250*i+40*(S.tot ρ'-S.tot ρ))
  (k0:=32) ⟨0,ρ,by omega,rfl,by simp,Zhc hI hc (λ x=>⟨.inl,λ h=>h.resolve_right (Z1q s w x)⟩) hsc,by omega,by simp⟩ ?_
 rintro env st' c' k ⟨i,ρ',hi,rfl,rfl,hsc',hg,hcc⟩;have elt:S.evE I lk [a,e1,s+(i:Int),w/2^i,s+32] st' (S.eLt (S.eL 2) (S.eL 4))=if s+(i:Int)<s+32 then 1 else 0:=by
  show S.alu 14 (s+(i:Int)) (s+32)=_
  exact Zcg _ _
 have q1:S.coE (S.eLt (S.eL 2) (S.eL 4))=3:=rfl;refine⟨Zfd (by decide) (Zcz 2) (Zcz 4),λ hz=>?_,λ hnz=>?_⟩
 .have h32:i=32:=by
   refine Y_c λ h=>?_
   rw[elt,if_pos (by omega)] at hz
   cases hz
  subst h32;exact hQ ρ' st' _ _ hsc' hg (by rw[q1];omega)
 .have hlt:i<32:=Y_c λ h=>by
   rw[elt,if_neg (by omega)] at hnz;exact hnz rfl
  have hwi0:0<=w/2^i:=Int.ediv_nonneg hw0.1 (Ya3 (Yar (by decide)));have hwi1:w/2^i<4294967296:=Int.lt_of_le_of_lt (Int.ediv_le_self _ hw0.1) hw0.2;have eand:S.evE I lk [a,e1,s+(i:Int),w/2^i,s+32] st' (S.eAnd (S.eL 3) (S.eC 1))=w/2^i%2:=by
   show S.alu 7 (w/2^i) (1%4294967296)=_
   exact Z7a hwi0 hwi1
  have ea:∀st,S.evE I lk [a,e1,s+(i:Int),w/2^(i+1),s+32] st (S.eAdd (S.eL 2) (S.eC 1))=s+((i+1:Nat):Int):=λ st=>by
   show S.alu 1 (s+(i:Int)) (1%4294967296)=_
   rw[Zat];unfold S.u32m;omega
  have eb:∀st,S.evE I lk [a,e1,s+(i:Int),w/2^i,s+32] st (S.eAdd (S.eL 2) (S.eC 1))=s+((i+1:Nat):Int):=λ st=>by
   show S.alu 1 (s+(i:Int)) (1%4294967296)=_
   rw[Zat];unfold S.u32m;omega
  have esh:∀st,S.evE I lk [a,e1,s+(i:Int),w/2^i,s+32] st (S.eShr (S.eL 3) 1)=w/2^(i+1):=λ st=>by
   show S.alu 11 (w/2^i) (1%4294967296)=_
   rw[Z7b,Zuw]
  have q2:S.coE (S.eShr (S.eL 3) 1)=4:=rfl;have q3:S.coE (S.eAdd (S.eL 2) (S.eC 1))=4:=rfl;have q4:S.coE (S.eAnd (S.eL 3) (S.eC 1))=4:=rfl;have fin:∀(ρ2:List S.Ob)(st2:S.Vw)(c2:Nat),S.Sc cf T (λ x=>X x\/S.Sl s w (i+1) x) ρ0 st0 ρ2 st2->0<=S.tot ρ2-S.tot ρ->(c2:Int)<=c+250*i+220+40*(S.tot ρ2-S.tot ρ) ->
   S.wpSs I dep lk behind [S.sAs 3 (S.eShr (S.eL 3) 1),S.sAs 2 (S.eAdd (S.eL 2) (S.eC 1))] [a,e1,s+(i:Int),w/2^i,s+32] st2 c2 (λ Zjx st2 c2=>∃k2,k2<32-i/\∃(i:Nat)(ρ':List S.Ob),i<=32/\k2=32-i/\Zjx=[a,e1,s+i,w/2^i,s+32]/\S.Sc cf T (λ x=>X x\/S.Sl s w i x) ρ0 st0 ρ' st2/\0<=S.tot ρ'-S.tot ρ/\((c2+3:Nat):Int)<=c+250*i+40*(S.tot ρ'-S.tot ρ)) R:=by
   intro ρ2 st2 c2 h1 h2 h3;refine Ze4 rfl (Zfd (by decide) (Zcz 3) (Ze3 1)) ?_;rw[esh];refine Ze4 rfl (Zfd (by decide) (Zcz 2) (Ze3 1)) (Zbm ?_);refine⟨32-(i+1),by omega,i+1,ρ2,by omega,rfl,?_,h1,h2,by rw[q2,q3];omega⟩;exact congrArg (λ z=>[a,e1,z,w/2^(i+1),s+32]) (ea st2)
  refine Zlh rfl (Zfd (by decide) (Zcz 3) (Ze3 1)) (λ hz=>?_) (λ hnz=>?_)
  .rw[eand] at hz
   refine Zbm (fin ρ' st' _ (Zhc hI hc (λ x=>⟨λ h=>h.imp id λ q=>sl_step.2 (.inl q),λ h=>h.imp id λ q=>(sl_step.1 q).resolve_right λ q=>?_⟩) hsc') hg (by rw[q1,q4];omega));have:=q.2;unfold S.bt at this;rw[hz] at this
   cases this
  .rw[eand] at hnz
   have hbit:S.bt w i=true:=by
    unfold S.bt;rw[show w/2^i%2=1 from by omega];rfl
   obtain⟨d1,d2,d3⟩:=hdat i hlt hbit;refine Zll hI hc hM hS hd hsc' (a:=s+i) (b:=s+((i+1:Nat):Int)) (l:=[S.eL 2,S.eAdd (S.eL 2) (S.eC 1)]) rfl ⟨Zcz 2,Zfd (by decide) (Zcz 2) (Ze3 1),trivial⟩ (by show [_,_]=_;rw[eb];rfl) (by omega)
    (λ x h1 h2=>by
     have:x=s+i:=by omega
     rw[this];exact⟨d1,d2⟩) (λ x h1 h2=>by
     have:x=s+i:=by omega
     rw[this];exact d3) (λ x hx=>?_) λ ρ2 st2 c2 h1 h2 h3=>Zbm (fin ρ2 st2 _ (Zhc hI hc (λ x=>?_) h1) (by omega) ?_)
   .rcases hx with hx|⟨j,hj,rfl,hb⟩
    .exact⟨(hX x hx).1,(hX x hx).2.1,λ q=>(hX x hx).2.2 ⟨by omega,by omega⟩⟩
    .obtain⟨_,g2,g3⟩:=hdat j (by omega) hb
     exact⟨g2,g3,λ q=>by omega⟩
   .rw[or_assoc]
    refine or_congr Iff.rfl (Iff.trans ?_ sl_step.symm);exact or_congr Iff.rfl ⟨λ q=>⟨by omega,hbit⟩,λ q=>⟨by omega,by omega⟩⟩
   .have q5:S.coEs [S.eL 2,S.eAdd (S.eL 2) (S.eC 1)]=5:=rfl
    rw[q5,if_pos (by omega)] at h3;rw[q1,q4] at h3;omega
structure S.cz (I:S.Img)(cf:S.Cf)(T:S.Ob->Prop)(mem:Int->Int)(a:Int)(n:Nat):Prop where
 a0:0<=a
 n31:n<=31
 len:mem a=n
 rd:∀j:Nat,j<=n->a+j<I.size/\¬I.stk (a+j)/\S.a9 cf (a+j)
 off:a+n<32\/32+32*n<=a
 word:∀j:Nat,j<n->0<=mem (a+1+j)/\mem (a+1+j)<4294967296
 slot:∀j i:Nat,j<n->i<32->S.bt (mem (a+1+j)) i=true->S.WOk cf T (mem (32+32*j+i))
def S.FX (mem:Int->Int)(a:Int)(n:Nat)(x:Int):Prop:=∃j:Nat,j<n/\S.Sl (32+32*j) (mem (a+1+j)) 32 x
def S.cg (cf:S.Cf)(T:S.Ob->Prop)(a:Int)(n:Nat)(ρ:List S.Ob)(st:S.Vw)(o:S.BO)(k:Nat):Prop :=
 ∃st' ρ',o=.ret st'/\S.Sc cf T (S.FX st.mem a n) ρ st ρ' st'/\(k:Int)<=60+10100*n+40*(S.tot ρ'-S.tot ρ)
theorem Zdo {mem:Int->Int}{a:Int}{n:Nat}{x:Int}(h:S.FX mem a n x):32<=x/\x<32+32*n:=by
 obtain⟨j,hj,i,hi,rfl,_⟩:=h;omega
theorem Zr8 {iM iS iF:Nat}(hM:S.Seg I S.kMove iM (S.bItems S.rMove))(hS:S.Seg I S.kScan iS (S.bItems S.rScan))(hF:S.Seg I S.kFrame iF (S.bItems S.rFrame)){ρ:List S.Ob}{st:S.Vw}(hch:S.Ch cf ρ st){a:Int}{n:Nat}(ha:st.reg 4=a)(hm:S.cz I cf T st.mem a n) :
 S.Real I S.kFrame false st 56 (λ _ o k=>S.cg cf T a n ρ st o k):=by
 refine Zgu hI S.rFrame Zr7 hF (dep:=36) (by decide) st _ λ lk env _ _ hl hp=>?_
 obtain⟨e0,e1,e2,e3,e4,rfl⟩:=Z7f hl;have h0:e0=st.reg 4:=hp 0 (show(0:Int)<1 by decide);rw[ha] at h0;subst h0;have hs:=hc.sum;have hsz:=hI.size2;have hm0:=hm.a0;have hn:=hm.n31;have hout0:∀x,32<=x->x<1056->S.a9 cf x:=λ x h1 h2=>⟨λ q=>by have:=hc.fr0;omega,λ q=>by have:=hc.to0;omega,by omega,by omega⟩
 have hrd:∀j:Nat,j<=n->e0+j<I.size/\¬I.stk (e0+j):=λ j hj=>⟨(hm.rd j hj).1,(hm.rd j hj).2.1⟩
 unfold S.rFrame;simp only;have hua:S.u32m (e0+0)=e0:=by have:=(hrd 0 (by omega)).1;unfold S.u32m;omega
 have okm:∀env st,S.u32m (S.evE I lk env st (S.eL 0)+0)=e0->S.okE I lk env st (S.eM (S.eL 0) 0):=λ env st h=>Z29 (Zcz 0) (by rw[h];have:=hrd 0 (by omega);simpa using this)
 refine Ze4 rfl (Zfd (by decide) (Zcz 0) (okm _ _ hua)) ?_;have ev1:S.evE I lk [e0,e1,e2,e3,e4] st (S.eAdd (S.eL 0) (S.eM (S.eL 0) 0))=e0+n:=by
  show S.alu 1 e0 (st.mem (S.u32m (e0+0)))=_
  rw[hua,hm.len,Zat];have:=(hrd n (by omega)).1;unfold S.u32m;omega
 rw[ev1];refine Ze4 rfl (Ze3 32) ?_;have hset:([e0,e1,e2,e3,e4].set (Ycd 1) (e0+n)).set (Ycd 2) (S.evE I lk ([e0,e1,e2,e3,e4].set (Ycd 1) (e0+n)) st (S.eC 32))=[e0,e0+n,32,e3,e4]:=rfl;rw[hset];refine Zuo rfl (λ env st' c' k=>∃(j:Nat)(ρ':List S.Ob)(e3 e4:Int),j<=n/\k=n-j/\env=[e0+j,e0+n,32+32*j,e3,e4]/\S.Sc cf T (S.FX st.mem e0 j) ρ st ρ' st'/\0<=S.tot ρ'-S.tot ρ/\(c':Int)<=30+10100*j+40*(S.tot ρ'-S.tot ρ))
  (k0:=n) ⟨0,ρ,e3,e4,by omega,by omega,by simp,S.Sc.refl hI hc (λ x ⟨j,h,_⟩=>by omega) hch,by omega,by
   have q1:S.coE (S.eAdd (S.eL 0) (S.eM (S.eL 0) 0))=4:=rfl;have q2:S.coE (S.eC 32)=2:=rfl;rw[q1,q2]
   show((3+4+1+2+1:Nat):Int)<=_
   omega⟩ ?_
 rintro env st' c' k ⟨j,ρ',e3,e4,hj,rfl,rfl,hsc,hg,hcc⟩;have q1:S.coE (S.eLt (S.eL 0) (S.eL 1))=3:=rfl;have elt:S.evE I lk [e0+(j:Int),e0+n,32+32*(j:Int),e3,e4] st' (S.eLt (S.eL 0) (S.eL 1))=if e0+(j:Int)<e0+n then 1 else 0:=by
  show S.alu 14 (e0+(j:Int)) (e0+n)=_
  exact Zcg _ _
 refine⟨Zfd (by decide) (Zcz 0) (Zcz 1),λ hz=>?_,λ hnz=>?_⟩
 .have he:j=n:=by
   refine Y_c λ h=>?_
   rw[elt,if_pos (by omega)] at hz
   cases hz
  subst he;exact Zbm ⟨st',ρ',rfl,hsc,by rw[q1];simp only[Ybe,if_false];omega⟩
 .have hlt:j<n:=Y_c λ h=>by
   rw[elt,if_neg (by omega)] at hnz;exact hnz rfl
  have hsum:=Zci ρ' cf.O hsc.ch.nd hsc.ch.sub;have t0:=Zy ρ;have hrj:=hrd (j+1) (by omega);refine Ze4 rfl (Zfd (by decide) (Zcz 0) (Ze3 1)) ?_;have ev2:S.evE I lk [e0+(j:Int),e0+n,32+32*(j:Int),e3,e4] st' (S.eAdd (S.eL 0) (S.eC 1))=e0+((j+1:Nat):Int):=by
   show S.alu 1 (e0+(j:Int)) (1%4294967296)=_
   rw[Zat];unfold S.u32m;omega
  rw[ev2];have huj:S.u32m (e0+((j+1:Nat):Int)+0)=e0+((j+1:Nat):Int):=by unfold S.u32m;omega
  refine Ze4 (e:=S.eM (S.eL 0) 0) rfl (Z29 (Zcz 0) (by show S.u32m (e0+((j+1:Nat):Int)+0)<_/\¬I.stk (S.u32m (e0+((j+1:Nat):Int)+0));rw[huj];exact hrj)) ?_;obtain⟨w,hw⟩:=Yx (st.mem (e0+1+j));have ev3:S.evE I lk ([e0+(j:Int),e0+n,32+32*(j:Int),e3,e4].set (Ycd 0) (e0+((j+1:Nat):Int))) st' (S.eM (S.eL 0) 0)=w:=by
   show st'.mem (S.u32m (e0+((j+1:Nat):Int)+0))=_
   have ho:=(hm.rd (j+1) (by omega)).2.2;rw[huj,hsc.mem _ (λ q=>by have:=Zdo hI hc q;have:=hm.off;omega) ho.1 (λ q=>ho.2.1 ⟨by omega,by omega⟩),hw]
   congr 1
   omega
  rw[ev3];have hset2:([e0+(j:Int),e0+n,32+32*(j:Int),e3,e4].set (Ycd 0) (e0+((j+1:Nat):Int))).set (Ycd 3) w=[e0+((j+1:Nat):Int),e0+n,32+32*(j:Int),w,e4]:=rfl;rw[hset2];have q5:S.coE (S.eQ (S.eL 2) (S.eC 1056))=3+3:=by decide
  refine Zlh rfl (Z1m (Zcz 2) (Ze3 1056)) (λ _=>Zbm ?_) (λ hq=>?_)
  .refine Ze4 rfl (Zfd (by decide) (Zcz 2) (Ze3 32)) ?_
   have ev4:S.evE I lk [e0+((j+1:Nat):Int),e0+n,32+32*(j:Int),w,e4] st' (S.eAdd (S.eL 2) (S.eC 32))=32+32*(j:Int)+32:=by
    show S.alu 1 (32+32*(j:Int)) (32%4294967296)=_
    rw[Zat];unfold S.u32m;omega
   rw[ev4];have hset3:[e0+((j+1:Nat):Int),e0+n,32+32*(j:Int),w,e4].set (Ycd 4) (32+32*(j:Int)+32)=[e0+((j+1:Nat):Int),e0+n,32+32*(j:Int),w,32+32*(j:Int)+32]:=rfl;rw[hset3];have q2:S.coE (S.eAdd (S.eL 0) (S.eC 1))=4:=rfl;have q3:S.coE (S.eM (S.eL 0) 0)=2:=rfl;have q4:S.coE (S.eAdd (S.eL 2) (S.eC 32))=4:=rfl;refine Zpq hI hc hM hS (Y7 _) hsc (hw ▸ hm.word j hlt) (by omega) (λ i hi hb=>⟨hc.low _ (by omega) (by omega),hout0 _ (by omega) (by omega),hm.slot j i hlt hi (hw ▸ hb)⟩)
    (λ x hx=>⟨hout0 x (by have:=Zdo hI hc hx;omega) (by have:=Zdo hI hc hx;omega),?_,by have:=Zdo hI hc hx;omega⟩) λ ρ2 st2 w' c2 h1 h2 h3=>Zbm ?_
   .obtain⟨q,hq,i,hi,rfl,hb⟩:=hx
    exact hm.slot q i (by omega) hi hb
   .refine⟨n-(j+1),by omega,j+1,ρ2,w',32+32*(j:Int)+32,hlt,rfl,?_,Zhc hI hc (λ x=>?_) h1,by omega,by rw[q1,q2,q3,q4,q5] at h3;omega⟩
    .exact congrArg (λ z=>[e0+((j+1:Nat):Int),e0+n,z,w',32+32*(j:Int)+32]) (by omega)
    .constructor
     .rintro(⟨q,hq,g⟩|g)
      .exact⟨q,by omega,g⟩
      .exact⟨j,by omega,hw ▸ g⟩
     .rintro⟨q,hq,g⟩
      by_cases c:q=j
      .subst c;exact .inr (hw ▸ g)
      .exact .inl ⟨q,by omega,g⟩
  .exfalso
   refine hq ?_
   show(if 32+32*(j:Int)=1056%4294967296 then(1:Int) else 0)=0
   rw[if_neg (by omega)]
end
end
section
structure S.Lo (cf:S.Cf)(T:S.Ob->Prop)(X:Int->Prop)(st0:S.Vw)(p:Int)(ρ:List S.Ob)(st:S.Vw):Prop where
 tin:∀o∈ρ,T o
 ch:S.Ch cf ρ st
 reg:∀j,j≠4->j≠5->j≠29->st.reg j=st0.reg j
 mem:∀a,¬X a->¬(cf.fr<=a/\a<cf.fr+cf.hf)->¬(cf.to_<=a/\a<cf.to_+S.tot ρ)->st.mem a=st0.mem a
 root:∀a,X a->st.mem a=S.mv cf.to_ ρ (st0.mem a)/\S.Cl cf ρ (st0.mem a)
 old:∀o∈ρ,∀ν,S.nw cf.to_ ρ o.at_=some ν->∀(k:Nat)(w:Int),o.ws[k]?=some w->(ν+(k:Int)<p->st.mem (ν+(k:Int))=S.mv cf.to_ ρ w/\S.Cl cf ρ w)/\(p<=ν+(k:Int)->st.mem (ν+(k:Int))=w)
 inp:st.inp=st0.inp
 out:st.out=st0.out
section
variable {I:S.Img}(hI:I.Ok){cf:S.Cf}(hc:S.Cf.Ok I cf){T:S.Ob->Prop}
include hc
theorem Zr9 {o:S.Ob}{r:List S.Ob}(hs:∀x∈o::r,x∈cf.O)(hn:(o::r).Nodup){x:S.Ob}(hx:x∈r):o.at_≠x.at_:=λ e=>by
 have:=Zus hc (hs o Yu) (hs x (Yw _ hx)) e;subst this;exact(Yb7.1 hn).1 hx
theorem Zq3:∀{ρ:List S.Ob} {t a:Int},(∀o∈ρ,o∈cf.O)->ρ.Nodup->t<=a->a<t+S.tot ρ->∃o∈ρ,∃(ν:Int)(k:Nat)(w:Int),S.nw t ρ o.at_=some ν/\a=ν+k/\o.ws[k]?=some w
 | [],t,a,_,_,h1,h2=>by rw[S.tot] at h2;omega
 | o::r,t,a,hs,hn,h1,h2=>by
  rw[S.tot] at h2;by_cases c:a<t+o.ws.length
  .obtain⟨k,hk⟩:∃k:Nat,a=t+k:=⟨(a-t).toNat,by omega⟩
   have hlt:k<o.ws.length:=by omega
   exact⟨o,Yu,t,k,o.ws[k],by rw[S.nw,if_pos rfl],hk,List.getElem?_eq_getElem hlt⟩
  .obtain⟨x,hx,ν,k,w,e1,e2,e3⟩:=Zq3 (ρ:=r) (t:=t+o.ws.length) (a:=a) (λ x hx=>hs x (Yw _ hx)) (Yb7.1 hn).2 (by omega) (by omega)
   exact⟨x,Yw _ hx,ν,k,w,by rw[S.nw,if_neg (Zr9 hc hs hn hx)];exact e1,e2,e3⟩
theorem Zm5 {a:Int}:∀{ρ:List S.Ob} {t ν:Int} {δ:List S.Ob},S.nw t ρ a=none->S.nw t (ρ++δ) a=some ν->t+S.tot ρ<=ν
 | [],t,ν,δ,_,h=>by
  obtain⟨_,_,_,h1,_⟩:=Zf0 h;rw[S.tot];omega
 | o::r,t,ν,δ,hn,h=>by
  rw[S.nw] at hn;rw[List.cons_append,S.nw] at h
  split at hn
  .cases hn
  .rename_i c
   rw[if_neg c] at h;have:=Zm5 hn h;rw[S.tot];omega
theorem Z50 {t:Int}{ρ:List S.Ob}(hs:∀o∈ρ,o∈cf.O){o:S.Ob}(ho:o∈cf.O)(hno:o ∉ ρ):S.nw t ρ o.at_=none:=by
 cases h:S.nw t ρ o.at_ with
 | none=>rfl
 | some ν=>exact absurd (Zlk hc hs ho h).1 hno
include hI
theorem Z1r {X:Int->Prop}(hX:∀a,X a->S.a9 cf a){st0:S.Vw}(hXw:∀a,X a->S.WOk cf T (st0.mem a)){p:Int}{ρ:List S.Ob}{st:S.Vw}(hL:S.Lo cf T X st0 p ρ st)(h0:cf.to_<=p)(h1:p<cf.to_+S.tot ρ)(hw:S.WOk cf T (st.mem p))
 {ρ':List S.Ob} {st2:S.Vw} (htr:S.Tr cf T ρ (st.args [st.mem p]) ρ' st2) (hcl:S.Cl cf ρ' (st.mem p)) (hwo:∀o∈ρ,∀w∈o.ws,S.WOk cf T w) :
 S.Lo cf T X st0 (p+1) ρ' (st2.sto p (S.mv cf.to_ ρ' (st.mem p))):=by
 obtain⟨δ,e,hδ⟩:=htr.ext;have t1:S.tot ρ'=S.tot ρ+S.tot δ:=by rw[e,Zbn]
 have p1:=Zy δ;have hsum:=Zci ρ' cf.O htr.ch.nd htr.ch.sub;have hs:=hc.sum;have hto0:=hc.to0;have hm:∀a,(st2.sto p (S.mv cf.to_ ρ' (st.mem p))).mem a=if a=p then S.mv cf.to_ ρ' (st.mem p) else st2.mem a:=λ _=>rfl
 have ap:∀a,cf.to_<=a->a<cf.to_+cf.hf->¬(cf.fr<=a/\a<cf.fr+cf.hf):=λ a q1 q2 q3=>by rcases hc.apart with ap|ap <;> omega
 refine⟨λ o ho=>?_,⟨htr.ch.sub,htr.ch.nd,htr.ch.r29,?_,?_,λ o ho hno k w hk=>?_,λ o ho ν hν=>?_⟩,λ j h4 h5 h29=>?_,λ a hx ha hb=>?_,λ a hx=>?_,λ o ho ν hν k w hk=>?_,htr.inp.trans hL.inp,htr.out.trans hL.out⟩
 .rw[e] at ho
  exact(Y0.1 ho).elim (hL.tin o) (hδ o)
 .rw[hm,if_neg (by omega)];exact htr.ch.m2
 .rw[hm,if_neg (by omega)];exact htr.ch.m4
 .have:=hc.obs o ho
  have hk1:=(Yg.1 hk).1;rw[hm,if_neg (λ q=>ap p h0 (by omega) ⟨by omega,by omega⟩)];exact htr.ch.unc o ho hno k w hk
 .have:=hc.obs o (htr.ch.sub o ho)
  have hl:=Zhb hc (htr.ch.sub o ho);rw[hm,if_neg (λ q=>ap p h0 (by omega) ⟨by omega,by omega⟩)];exact htr.ch.cop o ho ν hν
 .show st2.reg j=st0.reg j
  rw[htr.reg j h4 h5 h29,<- hL.reg j h4 h5 h29]
  show(if 4<=j/\j<4+(1:Nat) then _ else st.reg j)=_
  rw[if_neg (by omega)]
 .rw[hm,if_neg (by omega),htr.mem a ha (by omega)]
  exact hL.mem a hx ha (by omega)
 .have hO:=hX a hx
  obtain⟨q1,q2⟩:=hL.root a hx;rw[hm,if_neg (λ q=>hO.2.1 ⟨by omega,by omega⟩),htr.mem a hO.1 (λ q=>hO.2.1 ⟨by omega,by omega⟩)]
  show st.mem a=_/\_
  rw[q1];exact⟨(Zpp hI hc e (hXw a hx) q2 htr.ch.sub).symm,λ o hoo he=>htr.sub hc (q2 o hoo he)⟩
 .by_cases c:o∈ρ
  .obtain⟨ν',hν'⟩:=Zff (t:=cf.to_) c
   have hq:=Zed δ hν';rw[<- e,hν] at hq
   cases hq
   obtain⟨_,q1,q2⟩:=Zlk hc hL.ch.sub (hL.ch.sub o c) hν';have hk1:=(Yg.1 hk).1;obtain⟨g1,g2⟩:=hL.old o c _ hν' k w hk;by_cases cp:ν+(k:Int)=p
   .have hwe:w=st.mem p:=by rw[<- cp];exact(g2 (by omega)).symm
    refine⟨λ _=>?_,λ q=>by omega⟩;rw[hm,if_pos cp,hwe];exact⟨rfl,hcl⟩
   .have hsame:(st2.sto p (S.mv cf.to_ ρ' (st.mem p))).mem (ν+(k:Int))=st.mem (ν+(k:Int)):=by
     rw[hm,if_neg cp,htr.mem _ (ap _ (by omega) (by omega)) (by omega)];rfl
    rw[hsame];refine⟨λ q=>?_,λ q=>g2 (by omega)⟩;obtain⟨g3,g4⟩:=g1 (by omega);rw[g3];exact⟨(Zpp hI hc e (hwo o c w (Y1 hk)) g4 htr.ch.sub).symm,λ o hoo he=>htr.sub hc (g4 o hoo he)⟩
  .have hb:=Zm5 hc (Z50 hc (t:=cf.to_) hL.ch.sub (htr.ch.sub o ho) c) (e ▸ hν)
   refine⟨λ q=>by omega,λ q=>?_⟩;rw[hm,if_neg (by omega)];exact htr.new o ho c ν hν k w hk
theorem Zyi {iM:Nat}(hM:S.Seg I S.kMove iM (S.bItems S.rMove)){dep lk:Int}{behind:Bool}(hd:19<=dep){X:Int->Prop}(hX:∀a,X a->S.a9 cf a){st0:S.Vw}(hXw:∀a,X a->S.WOk cf T (st0.mem a))
 (hTw:∀o∈cf.O,T o->∀w∈o.ws,S.WOk cf T w) {ρ:List S.Ob} {st:S.Vw} (hL:S.Lo cf T X st0 cf.to_ ρ st)
 {r:List S.BS} {c:Nat} {Q:List Int->S.Vw->Nat->Prop} {R:S.BO->Nat->Prop}
 (hQ:∀ρ' st' (c':Nat),S.Lo cf T X st0 (cf.to_+S.tot ρ') ρ' st'->0<=S.tot ρ'-S.tot ρ->(c':Int)<=c+10+130*S.tot ρ'+40*(S.tot ρ'-S.tot ρ)->S.wpSs I dep lk behind r [cf.to_+S.tot ρ'] st' c' Q R) :
 S.wpSs I dep lk behind (S.sWh (S.eLt (S.eL 0) (S.eR 29)) S.bScan::r) [cf.to_] st c Q R:=by
 have hs:=hc.sum;refine Zuo rfl (λ env st' c' k=>∃(i:Nat)(ρ':List S.Ob),(i:Int)<=S.tot ρ'/\(k:Int)=cf.hf-i/\env=[cf.to_+i]/\S.Lo cf T X st0 (cf.to_+i) ρ' st'/\0<=S.tot ρ'-S.tot ρ/\(c':Int)<=c+130*i+40*(S.tot ρ'-S.tot ρ))
  (k0:=cf.hf.toNat) ⟨0,ρ,Zy ρ,by have:=hc.hf0;omega,by simp,by simpa using hL,by omega,by simp⟩ ?_
 rintro env st' c' k ⟨i,ρ',hi,hk,rfl,hL',hg,hcc⟩;have hsum:=Zci ρ' cf.O hL'.ch.nd hL'.ch.sub;have htoz:=hc.toz;have hto0:=hc.to0;have q1:S.coE (S.eLt (S.eL 0) (S.eR 29))=3:=rfl;have elt:S.evE I lk [cf.to_+(i:Int)] st' (S.eLt (S.eL 0) (S.eR 29))=if cf.to_+(i:Int)<cf.to_+S.tot ρ' then 1 else 0:=by
  show S.alu 14 (cf.to_+(i:Int)) (st'.reg 29)=_
  rw[hL'.ch.r29];exact Zcg _ _
 refine⟨Zfd (by decide) (Zcz 0) (Z1l 29),λ hz=>?_,λ hnz=>?_⟩
 .have he:(i:Int)=S.tot ρ':=by
   refine Y_c λ h=>?_
   rw[elt,if_pos (by omega)] at hz
   cases hz
  have:=hQ ρ' st' (c'+S.coE (S.eLt (S.eL 0) (S.eR 29))+4) (he ▸ hL') hg (by rw[q1];omega);rw[he];exact this
 .have hlt:(i:Int)<S.tot ρ':=Y_c λ h=>by
   rw[elt,if_neg (by omega)] at hnz;exact hnz rfl
  obtain⟨o,ho,ν,j,w,e1,e2,e3⟩:=Zq3 hc (t:=cf.to_) (a:=cf.to_+i) hL'.ch.sub hL'.ch.nd (by omega) (by omega);have hmw:st'.mem (cf.to_+i)=w:=by
   have:=(hL'.old o ho ν e1 j w e3).2 (by omega);rw[e2];exact this
  have hwo:∀o∈ρ',∀w∈o.ws,S.WOk cf T w:=λ o ho=>hTw o (hL'.ch.sub o ho) (hL'.tin o ho)
  have hww:S.WOk cf T (st'.mem (cf.to_+i)):=by
   rw[hmw];exact hwo o ho w (Y1 e3)
  refine Zm4 hI hc hM hd hL'.ch (hc.tod _ (by omega) (by omega)) hww λ ρ2 st2 c2 htr hcl hcc2=>?_
  have hst:=Z1r hI hc hX hXw hL' (by omega) (by omega) hww htr hcl hwo;obtain⟨δ,e,_⟩:=htr.ext;have t1:S.tot ρ2=S.tot ρ'+S.tot δ:=by rw[e,Zbn]
  have p1:=Zy δ;refine⟨k-1,by omega,i+1,ρ2,by omega,by omega,?_,?_,by omega,by rw[q1] at hcc2;omega⟩
  .rw[show cf.to_+((i+1:Nat):Int)=cf.to_+i+1 from by omega]
  .rw[show cf.to_+((i+1:Nat):Int)=cf.to_+i+1 from by omega]
   exact hst
end
end
section
theorem Zm6:S.chkB S.rCollect=0:=by kernel_rfl
theorem Zz0 {env:List Int}(h:(env.length:Int)=1):∃a,env=[a]:=by
 match env,h with
 | [a],_=>exact⟨a,rfl⟩
 | [],h=>simp at h
 | _::_::_,h=>simp only[Yi] at h;omega
def S.RX (I:S.Img)(mem:Int->Int)(cnt n:Nat)(x:Int):Prop:=((x=5\/(16<=x/\x<16+cnt))\/S.FX mem (mem 6) n x)\/(1312<=x/\x<I.lab S.kCode)
structure S.dc (I:S.Img)(cf:S.Cf)(T:S.Ob->Prop)(cnt n:Nat)(mem:Int->Int):Prop where
 m2:mem 2=cf.fr
 m3:mem 3=cf.to_
 m4:mem 4=cf.hf
 obj:∀o∈cf.O,∀(k:Nat)(w:Int),o.ws[k]?=some w->mem (o.at_+(k:Int))=w
 m8:mem 8=cnt
 c16:cnt<=16
 code1:1312<=I.lab S.kCode
 codef:I.lab S.kCode<=cf.fr
 codet:I.lab S.kCode<=cf.to_
 dat:∀x,1312<=x->x<I.lab S.kCode->S.Dat I x
 fm:(mem 6=0/\n=0)\/(mem 6≠0/\S.cz I cf T mem (mem 6) n/\∀j:Nat,j<=n->mem 6+j≠5/\¬(16<=mem 6+j/\mem 6+j<16+cnt))
 root:∀x,S.RX I mem cnt n x->S.WOk cf T (mem x)
 tobj:∀o∈cf.O,T o->∀w∈o.ws,S.WOk cf T w
structure S.Cd (cf:S.Cf)(T:S.Ob->Prop)(X:Int->Prop)(st:S.Vw)(ρ:List S.Ob)(st':S.Vw):Prop where
 tin:∀o∈ρ,T o
 sub:∀o∈ρ,o∈cf.O
 nd:ρ.Nodup
 m2:st'.mem 2=cf.to_
 m3:st'.mem 3=cf.fr
 r26:st'.reg 26=cf.to_+S.tot ρ
 r27:st'.reg 27=cf.to_+cf.hf
 reg:∀j,j≠4->j≠5->j≠26->j≠27->j≠29->st'.reg j=st.reg j
 mem:∀a,a≠2->a≠3->¬X a->¬(cf.fr<=a/\a<cf.fr+cf.hf)->¬(cf.to_<=a/\a<cf.to_+S.tot ρ)->st'.mem a=st.mem a
 root:∀a,X a->st'.mem a=S.mv cf.to_ ρ (st.mem a)/\S.Cl cf ρ (st.mem a)
 new:∀o∈ρ,∀ν,S.nw cf.to_ ρ o.at_=some ν->∀(k:Nat)(w:Int),o.ws[k]?=some w->st'.mem (ν+(k:Int))=S.mv cf.to_ ρ w/\S.Cl cf ρ w
 inp:st'.inp=st.inp
 out:st'.out=st.out
def S.bl (I:S.Img)(cf:S.Cf)(T:S.Ob->Prop)(cnt n:Nat)(st:S.Vw)(o:S.BO)(k:Nat):Prop :=
 ∃st' ρ,o=.ret st'/\S.Cd cf T (S.RX I st.mem cnt n) st ρ st'/\(k:Int)<=700+130*(cnt+(I.lab S.kCode-1312))+10100*n+170*S.tot ρ
section
variable {I:S.Img}(hI:I.Ok){cf:S.Cf}(hc:S.Cf.Ok I cf){T:S.Ob->Prop}
include hI hc
theorem Zcj {x:Int}(h0:4<x)(h1:x<1312):S.a9 cf x:=⟨λ q=>by have:=hc.fr0;omega,λ q=>by have:=hc.to0;omega,by omega,by omega⟩
theorem Z51 {m m':Int->Int}{a:Int}{n:Nat}(h:∀j:Nat,j<n->m' (a+1+j)=m (a+1+j))(x:Int):S.FX m' a n x↔S.FX m a n x:=by
 constructor
 .rintro⟨j,hj,g⟩
  exact⟨j,hj,h j hj ▸ g⟩
 .rintro⟨j,hj,g⟩
  exact⟨j,hj,(h j hj).symm ▸ g⟩
theorem Zm7 {iM iS iF iC:Nat}(hM:S.Seg I S.kMove iM (S.bItems S.rMove))(hS:S.Seg I S.kScan iS (S.bItems S.rScan))(hF:S.Seg I S.kFrame iF (S.bItems S.rFrame))(hC:S.Seg I S.kCollect iC (S.bItems S.rCollect)){st:S.Vw}{cnt n:Nat}(h:S.dc I cf T cnt n st.mem) :
 S.Real I S.kCollect false st 72 (λ _ o k=>S.bl I cf T cnt n st o k):=by
 refine Zgu hI S.rCollect Zm6 hC (dep:=56) (by decide) st _ λ lk env _ _ hl hp=>?_
 obtain⟨e0,rfl⟩:=Zz0 hl;have hs:=hc.sum;have hsz:=hI.size2;have hfr0:=hc.fr0;have hto0:=hc.to0;have hhf:=hc.hf0;have hfrz:=hc.frz;have htoz:=hc.toz;have hcode1:=h.code1;have hcodef:=h.codef;have hc16:=h.c16;unfold S.rCollect;simp only;obtain⟨o3,v3⟩:=Zv4 hI hc (lk:=lk) (env:=[e0]) (st:=st) (n:=3) (by decide) (by decide);refine Zqz rfl o3 ?_;rw[v3,h.m3];have hch0:S.Ch cf [] (st.set 29 cf.to_):=⟨(λ o ho=>by cases ho),List.nodup_nil,(Zj _ _ _).trans (by rw[S.tot,Int.add_zero]),h.m2,h.m4,λ o ho _ k w hk=>h.obj o ho k w hk,λ o ho=>by cases ho⟩
 have hsc0:S.Sc cf T (λ _=>False) [] (st.set 29 cf.to_) [] (st.set 29 cf.to_):=S.Sc.refl hI hc (λ _ q=>q) hch0;refine Zll hI hc hM hS (dep:=56) (by decide) hsc0 (a:=5) (b:=6) (l:=[S.eC 5,S.eC 6]) rfl ⟨Ze3 5,Ze3 6,trivial⟩ rfl (by decide) (λ x h1 h2=>⟨hc.low x (by omega) (by omega),Zcj hI hc (by omega) (by omega)⟩)
  (λ x h1 h2=>h.root x (.inl (.inl (.inl (by omega))))) (λ x hx=>hx.elim) λ ρ1 st1 c1 hsc1 hg1 hc1=>?_
 replace hsc1:=Zhc hI hc (Y:=λ x=>x=5) (λ x=>⟨λ q=>by rcases q with q|q;exact q.elim;omega,λ q=>.inr (by omega)⟩) hsc1
 have mem1:∀x:Int,0<=x->x<1312->x≠5->st1.mem x=st.mem x:=λ x h1 h2 h3=>hsc1.mem x h3 (λ q=>by omega) (λ q=>by simp only[S.tot] at q;omega)
 obtain⟨o8,v8⟩:=Zv4 hI hc (lk:=lk) (env:=[e0]) (st:=st1) (n:=8) (by decide) (by decide);rw[mem1 8 (by decide) (by decide) (by decide),h.m8] at v8;have he2:S.evEs I lk [e0] st1 [S.eC 16,S.eAdd (S.eC 16) (S.eW 8)]=[16,16+(cnt:Int)]:=by
  show [16%4294967296,S.alu 1 (16%4294967296) (S.evE I lk [e0] st1 (S.eW 8))]=_
  rw[v8,Zat];unfold S.u32m
  congr 2
  omega
 refine Zll hI hc hM hS (dep:=56) (by decide) hsc1 (a:=16) (b:=16+cnt) (l:=[S.eC 16,S.eAdd (S.eC 16) (S.eW 8)]) rfl ⟨Ze3 16,Zfd (by decide) (Ze3 16) o8,trivial⟩ he2 (by omega)
  (λ x h1 h2=>⟨hc.low x (by omega) (by omega),Zcj hI hc (by omega) (by omega)⟩) (λ x h1 h2=>h.root x (.inl (.inl (.inr ⟨h1,h2⟩)))) (λ x hx=>⟨Zcj hI hc (by omega) (by omega),h.root x (.inl (.inl (.inl hx))),by omega⟩) λ ρ2 st2 c2 hsc2 hg2 hc2=>?_
 have mem2:∀x:Int,0<=x->x≠5->¬(16<=x/\x<16+cnt)->¬(cf.fr<=x/\x<cf.fr+cf.hf)->¬(cf.to_<=x/\x<cf.to_+cf.hf)->st2.mem x=st.mem x:=λ x h1 h2 h3 h4 h5=>hsc2.mem x (λ q=>q.elim h2 h3) h4 (λ q=>by
  have:=Zci ρ2 cf.O hsc2.ch.nd hsc2.ch.sub;simp only[S.tot] at q;exact h5 ⟨by omega,by omega⟩)
 obtain⟨o6,v6⟩:=Zv4 hI hc (lk:=lk) (env:=[e0]) (st:=st2) (n:=6) (by decide) (by decide);rw[mem2 6 (by decide) (by decide) (by omega) (by omega) (by omega)] at v6;have q1:S.coEs [S.eC 5,S.eC 6]=4:=rfl;have q2:S.coEs [S.eC 16,S.eAdd (S.eC 16) (S.eW 8)]=8:=rfl;have q3:S.coE (S.eW 3)=3:=rfl;have q6:S.coE (S.eW 6)=3:=rfl;have q7:S.coEs [S.eW 6]=3:=rfl;have q8:S.coEs [S.eC 1312,S.eA S.kCode]=4:=rfl;have q9:S.coE (S.eW 2)=3:=rfl;have rest:∀(ρ3:List S.Ob)(st3:S.Vw)(c3:Nat),S.Sc cf T (λ x=>(x=5\/(16<=x/\x<16+cnt))\/S.FX st.mem (st.mem 6) n x) [] (st.set 29 cf.to_) ρ3 st3->(c3:Int)<=300+130*cnt+10100*n+40*S.tot ρ3 ->
  S.wpSs I 56 lk false [S.sDo (S.eF S.kScan [S.eC 1312,S.eA S.kCode]),S.sAs 0 (S.eW 3),S.sWh (S.eLt (S.eL 0) (S.eR 29)) S.bScan,S.sAs 0 (S.eW 2),S.sKeep 2 (S.eW 3),S.sKeep 3 (S.eL 0),S.sSet 26 (S.eR 29),S.sSet 27 (S.eAdd (S.eW 2) (S.eW 4))] [e0] st3 c3
   (λ _ st' c'=>S.bl I cf T cnt n st (.ret st') (c'+(if false=true then 5 else 3))) (λ o k=>S.bl I cf T cnt n st o k):=by
  intro ρ3 st3 c3 hsc3 hc3;have hfx:∀x,S.FX st.mem (st.mem 6) n x->32<=x/\x<1056:=λ x q=>by
   have:=Zdo hI hc q;have hn:n<=31:=by
    rcases h.fm with⟨_,rfl⟩|⟨_,hf,_⟩
    .omega
    .exact hf.n31
   omega
  refine Zll hI hc hM hS (dep:=56) (by decide) hsc3 (a:=1312) (b:=I.lab S.kCode) (l:=[S.eC 1312,S.eA S.kCode]) rfl ⟨Ze3 1312,Z69 _,trivial⟩ rfl (by omega)
   (λ x h1 h2=>⟨h.dat x h1 h2,⟨λ q=>by omega,λ q=>by have:=h.codet;omega,by omega,by omega⟩⟩) (λ x h1 h2=>h.root x (.inr ⟨h1,h2⟩))
   (λ x hx=>⟨?_,h.root x (.inl hx),?_⟩) λ ρ4 st4 c4 hsc4 hg4 hc4=>?_
  .rcases hx with(rfl|q) | q
   .exact Zcj hI hc (by decide) (by decide)
   .exact Zcj hI hc (by omega) (by omega)
   .have:=hfx x q
    exact Zcj hI hc (by omega) (by omega)
  .rcases hx with(rfl|q) | q
   .omega
   .omega
   .have:=hfx x q
    omega
  have hout:∀a,S.RX I st.mem cnt n a->S.a9 cf a:=λ a hx=>by
   rcases hx with((rfl|q) | q) | q
   .exact Zcj hI hc (by decide) (by decide)
   .exact Zcj hI hc (by omega) (by omega)
   .have:=hfx a q
    exact Zcj hI hc (by omega) (by omega)
   .exact⟨λ q2=>by omega,λ q2=>by have:=h.codet;omega,by omega,by omega⟩
  have hm3:st4.mem 3=cf.to_:=by
   rw[hsc4.mem 3 (λ q=>by
    rcases q with((q|q) | q) | q
    .omega
    .omega
    .have:=hfx 3 q;omega
    .omega) (λ q=>by omega) (λ q=>by simp only[S.tot] at q;omega)]
   exact h.m3
  obtain⟨o3b,v3b⟩:=Zv4 hI hc (lk:=lk) (env:=[e0]) (st:=st4) (n:=3) (by decide) (by decide);rw[hm3] at v3b;refine Ze4 rfl o3b ?_;rw[v3b];have hset:[e0].set (Ycd 0) cf.to_=[cf.to_]:=rfl;rw[hset];obtain⟨δ,eδ,hδ⟩:=hsc4.ext;rw[List.nil_append] at eδ;have hL:S.Lo cf T (S.RX I st.mem cnt n) (st.set 29 cf.to_) cf.to_ ρ4 st4:=⟨λ o ho=>hδ o (eδ ▸ ho),hsc4.ch,hsc4.reg,λ a hx ha hb=>hsc4.mem a hx ha (λ q=>hb (by simp only[S.tot] at q;omega)),hsc4.root,
   λ o ho ν hν k w hk=>⟨λ q=>by
    have:=(Zlk hc hsc4.ch.sub (hsc4.ch.sub o ho) hν).2.1;omega,λ _=>hsc4.new o ho (λ q=>by cases q) ν hν k w hk⟩,hsc4.inp,hsc4.out⟩
  refine Zyi hI hc hM (by decide) hout (st0:=st.set 29 cf.to_) (λ a ha=>h.root a ha) h.tobj hL λ ρ5 st5 c5 hL5 hg5 hc5=>?_
  have hsum5:=Zci ρ5 cf.O hL5.ch.nd hL5.ch.sub;have t5:=Zy ρ5;have hm3':st5.mem 3=cf.to_:=by
   rw[hL5.mem 3 (λ q=>by
    rcases q with((q|q) | q) | q
    .omega
    .omega
    .have:=hfx 3 q;omega
    .omega) (λ q=>by omega) (λ q=>by omega)]
   exact h.m3
  obtain⟨o2,v2⟩:=Zv4 hI hc (lk:=lk) (env:=[cf.to_+S.tot ρ5]) (st:=st5) (n:=2) (by decide) (by decide);refine Ze4 rfl o2 ?_;rw[v2,hL5.ch.m2];have hset2:[cf.to_+S.tot ρ5].set (Ycd 0) cf.fr=[cf.fr]:=rfl;rw[hset2];obtain⟨o3c,v3c⟩:=Zv4 hI hc (lk:=lk) (env:=[cf.fr]) (st:=st5) (n:=3) (by decide) (by decide);have d2:=hc.low 2 (by decide) (by decide);have d3:=hc.low 3 (by decide) (by decide);refine Zq0 (a:=S.eC 2) rfl (Ze3 2) rfl o3c (p:=2) rfl d2.2 ?_;rw[v3c,hm3'];refine Zq0 (a:=S.eC 3) rfl (Ze3 3) rfl (Zcz 0) (p:=3) rfl d3.2 ?_;have hl0:∀st,S.evE I lk [cf.fr] st (S.eL 0)=cf.fr:=λ _=>rfl
  rw[hl0];refine Zqz rfl (Z1l 29) ?_;have hr29:S.evE I lk [cf.fr] ((st5.sto 2 cf.to_).sto 3 cf.fr) (S.eR 29)=cf.to_+S.tot ρ5:=hL5.ch.r29;rw[hr29];obtain⟨st6,h6⟩:=Yx (((st5.sto 2 cf.to_).sto 3 cf.fr).set 26 (cf.to_+S.tot ρ5));have hm6:∀a,st6.mem a=if a=3 then cf.fr else if a=2 then cf.to_ else st5.mem a:=λ a=>by rw[h6];rfl
  rw[<- h6];obtain⟨o2d,v2d⟩:=Zv4 hI hc (lk:=lk) (env:=[cf.fr]) (st:=st6) (n:=2) (by decide) (by decide);obtain⟨o4d,v4d⟩:=Zv4 hI hc (lk:=lk) (env:=[cf.fr]) (st:=st6) (n:=4) (by decide) (by decide);refine Zqz rfl (Zfd (by decide) o2d o4d) (Zbm ?_);have hsum:S.evE I lk [cf.fr] st6 (S.eAdd (S.eW 2) (S.eW 4))=cf.to_+cf.hf:=by
   show S.alu 1 (S.evE I lk [cf.fr] st6 (S.eW 2)) (S.evE I lk [cf.fr] st6 (S.eW 4))=_
   rw[v2d,v4d,hm6,hm6,if_neg (by decide),if_pos rfl,if_neg (by decide),if_neg (by decide),hL5.ch.m4,Zat];unfold S.u32m;omega
  rw[hsum];have q10:S.coE (S.eC 2)=2:=rfl;have q11:S.coE (S.eC 3)=2:=rfl;have q12:S.coE (S.eL 0)=1:=rfl;have q13:S.coE (S.eR 29)=1:=rfl;have q14:S.coE (S.eAdd (S.eW 2) (S.eW 4))=7:=rfl;have hfn:∀(st:S.Vw)(j v:Int),(st.set j v).mem=st.mem:=λ _ _ _=>rfl
  have notlow:∀a,S.RX I st.mem cnt n a->a≠2/\a≠3:=λ a hx=>by
   rcases hx with((rfl|q) | q) | q
   .omega
   .omega
   .have:=hfx a q;omega
   .omega
  refine⟨_,ρ5,rfl,⟨hL5.tin,hL5.ch.sub,hL5.ch.nd,?_,?_,?_,?_,λ j h4 h5 h26 h27 h29=>?_,λ a ha2 ha3 hx hfa hta=>?_,λ a hx=>?_,λ o ho ν hν k w hk=>?_,by rw[h6];exact hL5.inp,by rw[h6];exact hL5.out⟩,?_⟩
  .rw[hfn,hm6];rfl
  .rw[hfn,hm6];rfl
  .rw[h6];rfl
  .rfl
  .rw[h6]
   show(if j=27 then _ else if j=26 then _ else st5.reg j)=_
   rw[if_neg h27,if_neg h26,hL5.reg j h4 h5 h29]
   show(if j=29 then _ else st.reg j)=_
   rw[if_neg h29]
  .rw[hfn,hm6,if_neg ha3,if_neg ha2]
   exact hL5.mem a hx hfa hta
  .obtain⟨n2,n3⟩:=notlow a hx
   rw[hfn,hm6,if_neg n3,if_neg n2];exact hL5.root a hx
  .obtain⟨_,g1,g2⟩:=Zlk hc hL5.ch.sub (hL5.ch.sub o ho) hν
   have hk1:=(Yg.1 hk).1;rw[hfn,hm6,if_neg (by omega),if_neg (by omega)];exact(hL5.old o ho ν hν k w hk).1 (by omega)
  .rw[q3] at hc5
   rw[q8] at hc4;rw[q9,q10,q11,q12,q13,q14];simp only[Ybe,if_false];have hd:(if (1312:Int)<I.lab S.kCode then I.lab S.kCode-1312 else 0)=I.lab S.kCode-1312:=by split <;> omega
   rw[hd] at hc4;have q15:S.coE (S.eW 3)=3:=rfl;rw[q15];omega
 refine Zlh rfl o6 (λ hz=>Zbm ?_) (λ hnz=>?_)
 .rw[v6] at hz
  have hn0:n=0:=by
   rcases h.fm with⟨_,q⟩|⟨q,_⟩
   .exact q
   .exact absurd hz q
  subst hn0;refine rest ρ2 st2 _ (Zhc hI hc (λ x=>⟨.inl,λ q=>q.resolve_right λ⟨j,hj,_⟩=>by omega⟩) (Zhc hI hc (λ x=>Iff.rfl) hsc2)) ?_;rw[q1,q3] at hc1;rw[q2] at hc2;rw[q6];simp only[S.tot] at *;have hd:(if (16:Int)<16+cnt then 16+(cnt:Int)-16 else 0)=cnt:=by split <;> omega
  rw[hd] at hc2;rw[if_pos (by decide)] at hc1;omega
 .rw[v6] at hnz
  obtain⟨_,hf,hfo⟩:=h.fm.resolve_left λ q=>hnz q.1
  have hf0:=hf.a0;have hn31:=hf.n31;obtain⟨a,ha⟩:=Yx (st.mem 6);rw[<- ha] at hf hfo hf0 v6;have same:∀j:Nat,j<=n->st2.mem (a+j)=st.mem (a+j):=λ j hj=>by
   obtain⟨_,_,ho⟩:=hf.rd j hj;exact mem2 _ (by omega) (hfo j hj).1 (hfo j hj).2 ho.1 ho.2.1
  have same1:∀j:Nat,j<n->st2.mem (a+1+j)=st.mem (a+1+j):=λ j hj=>by
   have:=same (j+1) (by omega);rw[show a+((j+1:Nat):Int)=a+1+j from by omega] at this;exact this
  have hslot:∀x:Int,32<=x->x<1056->st2.mem x=st.mem x:=λ x h1 h2=>mem2 x (by omega) (by omega) (by omega) (by omega) (by omega)
  have hf2:S.cz I cf T st2.mem a n:=⟨hf.a0,hf.n31,by rw[<- hf.len];simpa using same 0 (by omega),hf.rd,hf.off,λ j hj=>by rw[same1 j hj];exact hf.word j hj,
   λ j i hj hi hb=>by rw[hslot _ (by omega) (by omega)];rw[same1 j hj] at hb;exact hf.slot j i hj hi hb⟩
  refine Z1n (l:=[S.eW 6]) rfl ⟨o6,trivial⟩ (d:=56) (T:=λ _ o k=>S.cg cf T a n ρ2 (st2.args [a]) o k) (by
   rw[show S.evEs I lk [e0] st2 [S.eW 6]=[a] from by show [S.evE I lk [e0] st2 (S.eW 6)]=_;rw[v6]];exact Zr8 hI hc hM hS hF (st:=st2.args [a]) (a:=a) (Zuu hI hc hsc2.ch rfl rfl) rfl hf2) (by decide) λ ret o k hR=>?_
  obtain⟨st3,ρ3,rfl,hsc3,hk⟩:=hR;have h3:=Zux hI hc (by simp) hsc3;refine Zbm (rest ρ3 st3 _ (Zhc hI hc (λ x=>?_) (S.Sc.trans hI hc hsc2 h3 (λ x hx q=>?_) (λ x hx=>Zcj hI hc (by omega) (by omega)) (λ x hx=>?_) (λ x hx=>h.root x (.inl (.inl ?_))))) ?_)
  .rw[<- ha]
   exact or_congr Iff.rfl (Z51 hI hc same1 x)
  .have:=Zdo hI hc q
   omega
  .have:=Zdo hI hc hx
   exact Zcj hI hc (by omega) (by omega)
  .exact hx
  .rw[q1,q3] at hc1
   rw[q2] at hc2;rw[q6,q7];have hd:(if (16:Int)<16+cnt then 16+(cnt:Int)-16 else 0)=cnt:=by split <;> omega
   rw[hd] at hc2;rw[if_pos (by decide)] at hc1;simp only[S.tot] at *;have hlen:(S.evEs I lk [e0] st2 [S.eW 6]).length=1:=rfl;rw[hlen];omega
end
end
