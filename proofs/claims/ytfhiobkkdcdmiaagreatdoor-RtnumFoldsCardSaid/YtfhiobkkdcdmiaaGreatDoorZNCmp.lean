/- Parts. -/
import Derived.Test.YtfhiobkkdcdmiaaGreatDoorZGCh
set_option linter.all false
open Nat renaming le_refl->Yb,zero_le->Yag,lt_or_ge->Ycf
open List renaming getD_eq_getElem?_getD->Ye,getElem?_eq_some_iff->Yg,length_cons->Yi,mem_cons_self->Yu,mem_cons->Yz,mem_append->Y0,not_mem_nil->Yap,mem_append_right->Ybh
open Int renaming le_refl->Y7,toNat_natCast->Yah,add_zero->Ybj
namespace Go.Proofs.YtfhiobkkdcdmiaaGreatDoor
open Go.RowKit
section
theorem Zv3:S.chkB S.rMove=0:=by kernel_rfl
theorem Z6t {env:List Int}(h:(env.length:Int)=4):∃a b c d,env=[a,b,c,d]:=by
 match env,h with
 | [a,b,c,d],_=>exact⟨a,b,c,d,rfl⟩
 | [],h=>simp at h
 | [_],h=>simp at h
 | [_,_],h=>simp at h
 | [_,_,_],h=>simp at h
 | _::_::_::_::_::_,h=>simp at h;omega
def S.cn (cf:S.Cf)(T:S.Ob->Prop)(ρ:List S.Ob)(st:S.Vw)(w:Int)(o:S.BO)(k:Nat):Prop :=
 ∃st' ρ',o=.ret st'/\S.Tr cf T ρ st ρ' st'/\st'.reg 4=S.mv cf.to_ ρ' w/\S.Cl cf ρ' w/\(k:Int)<=100+40*(S.tot ρ'-S.tot ρ)
theorem Za7 {I:S.Img}{a:Int}(h:S.Dat I a):a<I.size/\¬I.stk a:=⟨h.2.1,h.2.2.1⟩
section
variable {I:S.Img}(hI:I.Ok){cf:S.Cf}(hc:S.Cf.Ok I cf){T:S.Ob->Prop}
include hI hc
theorem Z2c {ρ:List S.Ob}{st:S.Vw}(h:S.Ch cf ρ st)(v:Int):S.Ch cf ρ (st.set 4 v):=⟨h.sub,h.nd,h.r29,h.m2,h.m4,h.unc,h.cop⟩
theorem Z2d {ρ:List S.Ob}{st:S.Vw}(h:S.Ch cf ρ st)(v:Int):S.Tr cf T ρ st ρ (st.set 4 v) :=
 ⟨⟨[],(List.append_nil _).symm,λ o ho=>by cases ho⟩,Z2c hI hc h v,λ j h4 _ _=>by show(if j=4 then v else st.reg j)=_;rw[if_neg h4],λ _ _ _=>rfl,λ o ho hno=>absurd ho hno,rfl,rfl⟩
theorem Zv4 {lk:Int}{env:List Int}{st:S.Vw}{n:Int}(h0:0<=n)(h1:n<1056):S.okE I lk env st (S.eW n)/\S.evE I lk env st (S.eW n)=st.mem n:=by
 have e:S.u32m (n%4294967296+0)=n:=by unfold S.u32m;omega
 refine⟨Z29 (Ze3 n) ?_,?_⟩
 .rw[Z6n,e];exact Za7 (hc.low n h0 h1)
 .show st.mem (S.u32m (S.evE I lk env st (S.eC n)+0))=_
  rw[Z6n,e]
structure Z7h (cf:S.Cf)(st:S.Vw)(f:Int)(ws:List Int)(i:Nat)(st':S.Vw):Prop where
 reg:st'.reg=st.reg
 inp:st'.inp=st.inp
 out:st'.out=st.out
 mem:∀a,¬(f<=a/\a<f+i)->st'.mem a=st.mem a
 new:∀(j:Nat)(w:Int),j<i->ws[j]?=some w->st'.mem (f+(j:Int))=w
theorem Zv5 {i:Nat}(hs:S.Seg I S.kMove i (S.bItems S.rMove)){ρ:List S.Ob}{st:S.Vw}(hch:S.Ch cf ρ st){w:Int}(hw:st.reg 4=w)(hok:S.WOk cf T w) :
 S.Real I S.kMove false st 19 (λ _ o k=>S.cn cf T ρ st w o k):=by
 refine Zgu hI S.rMove Zv3 hs (dep:=0) (Y7 _) st _ λ lk env _ _ hl hp=>?_
 obtain⟨e0,e1,e2,e3,rfl⟩:=Z6t hl;have h0:e0=st.reg 4:=hp 0 (show(0:Int)<1 by decide);rw[hw] at h0;subst h0;obtain⟨w0,w1,hwp⟩:=hok;have nop:∀(v:Int)(c:Nat),v=S.mv cf.to_ ρ e0->S.Cl cf ρ e0->c<=100->S.cn cf T ρ st e0 (.ret (st.set 4 v)) c:=λ v c hv hcl hcc =>
  ⟨_,ρ,rfl,Z2d hI hc hch v,by rw[<- hv];exact Zj _ _ _,hcl,by omega⟩
 have hand:S.evE I lk [e0,e1,e2,e3] st (S.eAnd (S.eL 0) (S.eC 3))=e0%4:=by
  show S.alu 7 e0 (3%4294967296)=_
  exact Z37 w0 w1
 have okand:∀env,S.okE I lk env st (S.isRef (S.eL 0)):=λ env=>Z1m (Zfd (by decide) (Zcz 0) (Ze3 3)) (Ze3 1)
 have href:S.evE I lk [e0,e1,e2,e3] st (S.isRef (S.eL 0))=if e0%4=1 then 1 else 0:=by
  show(if S.evE I lk [e0,e1,e2,e3] st (S.eAnd (S.eL 0) (S.eC 3))=_ then(1:Int) else 0)=_
  rw[hand];rfl
 unfold S.rMove;simp only;refine Zlh rfl (Z1m (okand _) (Ze3 0)) (λ hz=>?_) (λ hnz=>?_)
 rotate_left
 .-- no pointer
  have hnp:¬e0%4=1:=λ hp=>hnz (by
   show(if S.evE I lk [e0,e1,e2,e3] st (S.isRef (S.eL 0))=(0:Int)%4294967296 then(1:Int) else 0)=0
   rw[href,if_pos hp];rfl)
  refine Zq1 rfl (Zcz 0) (nop _ _ ?_ ?_ (by decide))
  .show e0=S.mv cf.to_ ρ e0
   unfold S.mv;rw[if_neg hnp]
  .intro o ho he
   omega
 have hp:e0%4=1:=Y_c λ hnp=>by
  have:S.evE I lk [e0,e1,e2,e3] st (S.eNot (S.isRef (S.eL 0)))=1:=by
   show(if S.evE I lk [e0,e1,e2,e3] st (S.isRef (S.eL 0))=(0:Int)%4294967296 then(1:Int) else 0)=1
   rw[href,if_neg hnp];rfl
  rw[hz] at this
  cases this
 refine Zbm ?_;refine Ze4 rfl (Zfd (by decide) (Zcz 0) (Ze3 2)) ?_;have ea:S.evE I lk [e0,e1,e2,e3] st (S.eAdr (S.eL 0))=e0/4:=by show S.alu 11 e0 (2%4294967296)=_;exact Z3a _
 rw[ea]
 show S.wpSs I 0 lk false _ [e0,e0/4,e2,e3] st _ _ _
 obtain⟨a,ha⟩:=Yx (e0/4);rw[<- ha];rw[<- ha] at hwp;have a0:0<=a/\a<1073741824:=by omega
 have he0:e0=4*a+1:=by omega
 obtain⟨okW2,evW2⟩:=Zv4 hI hc (lk:=lk) (env:=[e0,a,e2,e3]) (st:=st) (n:=2) (by decide) (by decide);obtain⟨okW4,evW4⟩:=Zv4 hI hc (lk:=lk) (env:=[e0,a,e2,e3]) (st:=st) (n:=4) (by decide) (by decide);rw[hch.m2] at evW2;rw[hch.m4] at evW4;have hfr0:=hc.fr0;have hhf0:=hc.hf0;have hfrz:=hc.frz;have eout:S.evE I lk [e0,a,e2,e3] st (S.eLt (S.eSub (S.eL 1) (S.eW 2)) (S.eW 4))=if S.u32m (a-cf.fr)<cf.hf then 1 else 0:=by
  show S.alu 14 (S.alu 2 a (S.evE I lk [e0,a,e2,e3] st (S.eW 2))) (S.evE I lk [e0,a,e2,e3] st (S.eW 4))=_
  rw[evW2,evW4,Zcg,Zjw]
 have hin:S.u32m (a-cf.fr)<cf.hf↔cf.fr<=a/\a<cf.fr+cf.hf:=by
  unfold S.u32m
  constructor
  .intro h;omega
  .intro h;omega
 refine Zlh rfl (Z1m (Zfd (by decide) (Zfd (by decide) (Zcz 1) okW2) okW4) (Ze3 0)) (λ hz2=>?_) (λ hnz2=>?_)
 rotate_left
 .-- elsewhere
  have hno:¬(cf.fr<=a/\a<cf.fr+cf.hf):=λ hq=>hnz2 (by
   show(if S.evE I lk [e0,a,e2,e3] st (S.eLt (S.eSub (S.eL 1) (S.eW 2)) (S.eW 4))=(0:Int)%4294967296 then(1:Int) else 0)=0
   rw[eout,if_pos (hin.2 hq)];rfl)
  have hnone:S.nw cf.to_ ρ a=none:=by
   cases hq:S.nw cf.to_ ρ a with
   | none=>rfl
   | some ν =>
    exfalso
    obtain⟨o,ho,eo,_⟩:=Zf0 hq;have:=hc.obs o (hch.sub o ho);have hl:=Zhb hc (hch.sub o ho);omega
  refine Zq1 rfl (Zcz 0) (nop _ _ ?_ ?_ (by decide))
  .show e0=S.mv cf.to_ ρ e0
   unfold S.mv;rw[if_pos hp,<- ha,hnone]
  .intro o ho he
   have:=hc.obs o ho;have hl:=Zhb hc ho;omega
 have hat:cf.fr<=a/\a<cf.fr+cf.hf:=Y_c λ hq=>by
  have:S.evE I lk [e0,a,e2,e3] st (S.eNot (S.eLt (S.eSub (S.eL 1) (S.eW 2)) (S.eW 4)))=1:=by
   show(if S.evE I lk [e0,a,e2,e3] st (S.eLt (S.eSub (S.eL 1) (S.eW 2)) (S.eW 4))=(0:Int)%4294967296 then(1:Int) else 0)=1
   rw[eout,if_neg (λ h=>hq (hin.1 h))];rfl
  rw[hz2] at this
  cases this
 refine Zbm ?_;obtain⟨ob,hob,hT,hobe⟩:∃o∈cf.O,T o/\e0=4*o.at_+1:=by
  rcases hwp hp with h|h|h
  .exact h
  .omega
  .omega
 have haob:a=ob.at_:=by omega
 subst haob;obtain⟨hobok,hob1,hob2⟩:=hc.obs ob hob;obtain⟨hd,ws,hws,hd3,hdl⟩:=hobok.head;have hlen:(ob.ws.length:Int)=hd/32+1:=by rw[hws,hdl];simp
 have hdb:=hobok.word hd (by rw[hws];exact Yu);have hw0:ob.ws[0]?=some hd:=by rw[hws];rfl
 have u1:S.u32m (ob.at_+0)=ob.at_:=by unfold S.u32m;omega
 have datA:S.Dat I ob.at_:=hc.frd _ hat.1 hat.2;have okm:∀(env:List Int)(st:S.Vw),S.evE I lk env st (S.eL 1)=ob.at_->S.okE I lk env st (S.eM (S.eL 1) 0):=λ env st he=>Z29 (Zcz 1) (by rw[he,u1];exact Za7 datA)
 refine Ze4 rfl (okm _ _ rfl) ?_;have em:S.evE I lk [e0,ob.at_,e2,e3] st (S.eM (S.eL 1) 0)=st.mem ob.at_:=by
  show st.mem (S.u32m (ob.at_+0))=_
  rw[u1]
 rw[em]
 show S.wpSs I 0 lk false _ [e0,ob.at_,st.mem ob.at_,e3] st _ _ _
 by_cases hmem:ob∈ρ
 .-- it has been copied
  obtain⟨ν,hν⟩:=Zff (t:=cf.to_) hmem;have hcop:=hch.cop ob hmem ν hν;obtain⟨_,hν1,hν2⟩:=Zlk hc hch.sub hob hν;have hto0:=hc.to0;have htoz:=hc.toz;have hsum:=Zci ρ cf.O hch.nd hch.sub;have hsum2:=hc.sum;rw[hcop];have hand2:S.evE I lk [e0,ob.at_,4*ν+1,e3] st (S.isRef (S.eL 2))=1:=by
   show(if S.alu 7 (4*ν+1) (3%4294967296)=(1:Int)%4294967296 then(1:Int) else 0)=1
   rw[Z37 (by omega) (by omega),if_pos (by omega)]
  refine Zlh rfl (Z1m (Zfd (by decide) (Zcz 2) (Ze3 3)) (Ze3 1)) (λ h=>by rw[hand2] at h;cases h) (λ _=>?_);refine Zq1 rfl (Zcz 2) (nop _ _ ?_ ?_ (by decide))
  .show 4*ν+1=S.mv cf.to_ ρ e0
   unfold S.mv;rw[if_pos hp,show e0/4=ob.at_ by omega,hν]
  .intro o ho he
   have:=Zus hc ho hob (by omega);rw[this];exact hmem
 have hhd:st.mem ob.at_=hd:=by
  have:=hch.unc ob hob hmem 0 hd hw0;rw[show ob.at_+((0:Nat):Int)=ob.at_ by omega] at this;exact this
 rw[hhd];have hand2:S.evE I lk [e0,ob.at_,hd,e3] st (S.isRef (S.eL 2))=0:=by
  show(if S.alu 7 hd (3%4294967296)=(1:Int)%4294967296 then(1:Int) else 0)=0
  rw[Z37 hdb.1 hdb.2,if_neg (by omega)]
 refine Zlh rfl (Z1m (Zfd (by decide) (Zcz 2) (Ze3 3)) (Ze3 1)) (λ _=>?_) (λ h=>absurd hand2 h);refine Zbm ?_;refine Ze4 rfl (Zfd (by decide) (Zcz 2) (Ze3 5)) ?_;have es:S.evE I lk [e0,ob.at_,hd,e3] st (S.eShr (S.eL 2) 5)=hd/32:=by show S.alu 11 hd (5%4294967296)=_;exact Z6o _
 rw[es];refine Ze4 rfl (Ze3 0) ?_
 show S.wpSs I 0 lk false _ [e0,ob.at_,hd/32,0] st _ _ _
 obtain⟨f,hf⟩:=Yx (cf.to_+S.tot ρ);have hr29:st.reg 29=f:=by rw[hch.r29,hf]
 have hroom:=Zyh hch.nd hch.sub hob hmem;have hsum2:=hc.sum;have hto0:=hc.to0;have htoz:=hc.toz;have htot0:=Zy ρ;have datT:∀x,f<=x->x<f+ob.ws.length->S.Dat I x:=λ x h1 h2=>hc.tod x (by omega) (by omega)
 have datF:∀x,ob.at_<=x->x<ob.at_+ob.ws.length->S.Dat I x:=λ x h1 h2=>hc.frd x (by omega) (by omega)
 have hsep:∀x y,ob.at_<=x->x<ob.at_+ob.ws.length->f<=y->y<f+ob.ws.length->x≠y:=λ x y h1 h2 h3 h4=>by
  rcases hc.apart with ap|ap <;> omega
 refine Zuo rfl (λ env st' c k=>∃i:Nat,i<=ob.ws.length/\k=ob.ws.length-i/\env=[e0,ob.at_,hd/32,(i:Int)]/\Z7h cf st f ob.ws i st'/\c<=70+36*i)
  (k0:=ob.ws.length) ⟨0,Yag _,rfl,rfl,⟨rfl,rfl,rfl,λ _ _=>rfl,λ j w hj=>by omega⟩,by decide⟩ ?_
 rintro env st' c k ⟨n,hn,rfl,rfl,hC,hcc⟩;have elt:S.evE I lk [e0,ob.at_,hd/32,(n:Int)] st' (S.eLt (S.eL 2) (S.eL 3))=if hd/32<(n:Int) then 1 else 0:=by
  show S.alu 14 (hd/32) (n:Int)=_
  exact Zcg _ _
 have enot:S.evE I lk [e0,ob.at_,hd/32,(n:Int)] st' (S.eNot (S.eLt (S.eL 2) (S.eL 3)))=if hd/32<(n:Int) then 0 else 1:=by
  show(if S.evE I lk [e0,ob.at_,hd/32,(n:Int)] st' (S.eLt (S.eL 2) (S.eL 3))=(0:Int)%4294967296 then(1:Int) else 0)=_
  rw[elt]
  split <;> rfl
 refine⟨Z1m (Zfd (by decide) (Zcz 2) (Zcz 3)) (Ze3 0),λ hz3=>?_,λ hnz3=>?_⟩
 rotate_left
 .-- one word more
  have hlt:n<ob.ws.length:=by
   rcases Ycf n ob.ws.length with h|h
   .exact h
   .exfalso
    rw[enot,if_pos (by omega)] at hnz3;exact hnz3 rfl
  have hr29':st'.reg 29=f:=by rw[hC.reg];exact hr29
  have ep:S.u32m (S.evE I lk [e0,ob.at_,hd/32,(n:Int)] st' (S.eAdd (S.eR 29) (S.eL 3))+0)=f+n:=by
   show S.u32m (S.alu 1 (st'.reg 29) (n:Int)+0)=_
   rw[hr29',Zat];unfold S.u32m;omega
  have eq_:S.u32m (S.evE I lk [e0,ob.at_,hd/32,(n:Int)] st' (S.eAdd (S.eL 1) (S.eL 3))+0)=ob.at_+n:=by
   show S.u32m (S.alu 1 ob.at_ (n:Int)+0)=_
   rw[Zat];unfold S.u32m;omega
  have hdat1:=datT (f+n) (by omega) (by omega);have hdat2:=datF (ob.at_+n) (by omega) (by omega);refine Zq0 rfl (Zfd (by decide) (Z1l 29) (Zcz 3)) rfl (Z29 (Zfd (by decide) (Zcz 1) (Zcz 3)) (by rw[eq_];exact Za7 hdat2)) ep ⟨hdat1.2.1,hdat1.2.2.1,hdat1.2.2.2⟩ ?_;have ev:S.evE I lk [e0,ob.at_,hd/32,(n:Int)] st' (S.eM (S.eAdd (S.eL 1) (S.eL 3)) 0)=st.mem (ob.at_+n):=by
   rw[Z68,eq_];exact hC.mem _ (λ q=>hsep (ob.at_+n) (ob.at_+n) (by omega) (by omega) q.1 (by omega) rfl)
  rw[ev];refine Ze4 rfl (Zfd (by decide) (Zcz 3) (Ze3 1)) ?_;have ei:S.evE I lk [e0,ob.at_,hd/32,(n:Int)] (st'.sto (f+n) (st.mem (ob.at_+n))) (S.eAdd (S.eL 3) (S.eC 1))=((n+1:Nat):Int):=by
   show S.alu 1 (n:Int) (1%4294967296)=_
   rw[Zat];unfold S.u32m;omega
  rw[ei];refine Zbm ⟨ob.ws.length-(n+1),by omega,n+1,hlt,rfl,rfl,⟨hC.reg,hC.inp,hC.out,λ x hx=>?_,λ j w hj hw'=>?_⟩,?_⟩
  .show(if x=f+n then _ else st'.mem x)=_
   rw[if_neg (λ e=>hx (by omega)),hC.mem x (λ q=>hx (by omega))]
  .show(if f+(j:Int)=f+n then _ else st'.mem (f+(j:Int)))=w
   by_cases c2:j=n
   .subst c2
    rw[if_pos rfl];exact hch.unc ob hob hmem j w hw'
   .rw[if_neg (by omega)]
    exact hC.new j w (by omega) hw'
  .have q1:S.coE (S.eNot (S.eLt (S.eL 2) (S.eL 3)))=8:=rfl
   have q2:S.coE (S.eAdd (S.eR 29) (S.eL 3))=3:=rfl;have q3:S.coE (S.eM (S.eAdd (S.eL 1) (S.eL 3)) 0)=4:=rfl;have q4:S.coE (S.eAdd (S.eL 3) (S.eC 1))=4:=rfl;omega
 have hnn:n=ob.ws.length:=by
  rcases Ycf n ob.ws.length with h|h
  .exfalso
   rw[enot,if_neg (by omega)] at hz3
   cases hz3
  .omega
 subst hnn;have hr29':st'.reg 29=f:=by rw[hC.reg];exact hr29
 have ref:S.evE I lk [e0,ob.at_,hd/32,(ob.ws.length:Int)] st' (S.eRef (S.eR 29))=4*f+1:=by
  show S.alu 8 (S.alu 10 (st'.reg 29) (2%4294967296)) (1%4294967296)=_
  rw[hr29',Z3b];have e4:S.u32m (f*4)=f*4:=by unfold S.u32m;omega
  rw[e4,or1 (by omega) (by omega) (by omega)];omega
 refine Zq0 rfl (Zcz 1) rfl (Zfd (by decide) (Zfd (by decide) (Z1l 29) (Ze3 2)) (Ze3 1)) u1 ⟨datA.2.1,datA.2.2.1,datA.2.2.2⟩ ?_;rw[ref];refine Zqz rfl (Zfd (by decide) (Z1l 29) (Zcz 3)) ?_;have e29:S.evE I lk [e0,ob.at_,hd/32,(ob.ws.length:Int)] (st'.sto ob.at_ (4*f+1)) (S.eAdd (S.eR 29) (S.eL 3))=f+ob.ws.length:=by
  show S.alu 1 (st'.reg 29) (ob.ws.length:Int)=_
  rw[hr29',Zat];unfold S.u32m;omega
 rw[e29];refine Zq1 rfl (okm _ _ rfl) ?_;have eret:S.evE I lk [e0,ob.at_,hd/32,(ob.ws.length:Int)] ((st'.sto ob.at_ (4*f+1)).set 29 (f+ob.ws.length)) (S.eM (S.eL 1) 0)=4*f+1:=by
  show(if S.u32m (ob.at_+0)=ob.at_ then 4*f+1 else st'.mem (S.u32m (ob.at_+0)))=_
  rw[u1,if_pos rfl]
 rw[eret];have hnw:S.nw cf.to_ (ρ++[ob]) ob.at_=some f:=by rw[hf];exact Zur (λ x hx e=>hmem (Zus hc (hch.sub x hx) hob e ▸ hx)) rfl
 have htot:S.tot (ρ++[ob])=S.tot ρ+ob.ws.length:=by rw[Zbn,S.tot,S.tot,Ybj]
 have hmemv:∀x,(((st'.sto ob.at_ (4*f+1)).set 29 (f+ob.ws.length)).set 4 (4*f+1)).mem x=if x=ob.at_ then 4*f+1 else st'.mem x:=λ _=>rfl
 have hfar:∀o∈cf.O,o≠ob->∀k:Nat,k<o.ws.length->o.at_+(k:Int)≠ob.at_/\¬(f<=o.at_+(k:Int)/\o.at_+(k:Int)<f+ob.ws.length):=λ o ho hne k hk=>by
  have h1:=hc.dis o ho ob hob hne;have h2:=(hc.obs o ho).2;refine⟨by omega,λ q=>?_⟩;rcases hc.apart with ap|ap <;> omega
 refine⟨_,ρ++[ob],rfl,⟨⟨[ob],rfl,λ o ho=>?_⟩,⟨λ o ho=>?_,?_,?_,?_,?_,λ o ho hno k w hw'=>?_,λ o ho ν hν=>?_⟩,λ j h4 h5 h29=>?_,λ x hx hx2=>?_,λ o ho hno ν hν k w hw'=>?_,hC.inp,hC.out⟩,?_,λ o ho he=>?_,?_⟩
 .simp only[Yz,Yap,or_false] at ho
  subst ho;exact hT
 .rcases Y0.1 ho with ho|ho
  .exact hch.sub o ho
  .simp only[Yz,Yap,or_false] at ho
   subst ho;exact hob
 .rw[List.nodup_append]
  refine⟨hch.nd,by simp,λ x hx y hy=>?_⟩;simp only[Yz,Yap,or_false] at hy;subst hy;intro e;subst e;exact hmem hx
 .show(f+ob.ws.length:Int)=_
  rw[htot];omega
 .rw[hmemv,if_neg (by omega),hC.mem 2 (by omega)]
  exact hch.m2
 .rw[hmemv,if_neg (by omega),hC.mem 4 (by omega)]
  exact hch.m4
 .have hno1:o ∉ ρ:=λ q=>hno (List.mem_append_left _ q)
  have hne:o≠ob:=λ e=>hno (by rw[e];exact Ybh _ Yu)
  obtain⟨q1,q2⟩:=hfar o ho hne k (Yg.1 hw').1;rw[hmemv,if_neg q1,hC.mem _ q2];exact hch.unc o ho hno1 k w hw'
 .by_cases hne:o=ob
  .subst hne
   rw[hnw] at hν
   cases hν
   rw[hmemv,if_pos rfl]
  .have hoρ:o∈ρ:=by
    rcases Y0.1 ho with ho|ho
    .exact ho
    .simp only[Yz,Yap,or_false] at ho
     exact absurd ho hne
   obtain⟨ν',hν'⟩:=Zff (t:=cf.to_) hoρ;have:=Zed [ob] hν';rw[hν] at this
   cases this
   have hl:=Zhb hc (hch.sub o hoρ);obtain⟨q1,q2⟩:=hfar o (hch.sub o hoρ) hne 0 (by omega);rw[show o.at_+((0:Nat):Int)=o.at_ by omega] at q1 q2;rw[hmemv,if_neg q1,hC.mem _ q2];exact hch.cop o hoρ ν hν'
 .show(if j=4 then _ else if j=29 then _ else st'.reg j)=_
  rw[if_neg h4,if_neg h29,hC.reg]
 .rw[htot] at hx2
  rw[hmemv,if_neg (λ e=>hx (by omega)),hC.mem x (λ q=>hx2 (by omega))]
 .have hne:o=ob:=by
   rcases Y0.1 ho with ho|ho
   .exact absurd ho hno
   .simpa using ho
  subst hne;rw[hnw] at hν
  cases hν
  have hk:=(Yg.1 hw').1;rw[hmemv,if_neg (λ e=>hsep o.at_ (f+(k:Int)) (Y7 _) (by omega) (by omega) (by omega) e.symm)];exact hC.new k w hk hw'
 .rw[Zj]
  unfold S.mv;rw[if_pos hp,show e0/4=ob.at_ by omega,hnw]
 .have:=Zus hc ho hob (by omega)
  rw[this];exact Ybh _ Yu
 .rw[htot]
  have q1:S.coE (S.eNot (S.eLt (S.eL 2) (S.eL 3)))=8:=rfl;have q2:S.coE (S.eL 1)=1:=rfl;have q3:S.coE (S.eRef (S.eR 29))=7:=rfl;have q4:S.coE (S.eAdd (S.eR 29) (S.eL 3))=3:=rfl;have q5:S.coE (S.eM (S.eL 1) 0)=2:=rfl;simp only[Bool.false_eq_true,if_false];omega
end
end
section
namespace S
def fixM (v:Int):Int:=if v<2147483648 then v/4 else(4294967296-v)/4
structure NumAt (I:Img)(mem:Int->Int)(v neg:Int)(ds:List Int):Prop where
 vb:0<=v/\v<4294967296
 sg:neg=0\/neg=1
 dig:∀d∈ds,0<=d/\d<65536
 few:ds.length<=1000
 cases:(v%4=0/\neg=v/2147483648/\ds=[fixM v%65536,fixM v/65536]) \/
  (∃p,v=4*p+1/\(∀j:Nat,j<ds.length+2->Dat I (p+j))/\mem p=32*(ds.length+1)+31/\mem (p+1)=4*neg/\∀i:Nat,i<ds.length->mem (p+2+i)=4*ds.getD i 0)
structure NSegs (I:Img):Prop where
 ok:I.Ok
 int:∃i,Seg I kNInt i (bItems rNInt)
 len:∃i,Seg I kNLen i (bItems rNLen)
 neg:∃i,Seg I kNNeg i (bItems rNNeg)
 dig:∃i,Seg I kNDig i (bItems rNDig)
 cmp:∃i,Seg I kNCmp i (bItems rNCmp)
 fin:∃i,Seg I kNFin i (bItems rNFin)
 add:∃i,Seg I kNAdd i (bItems rNAdd)
 sub:∃i,Seg I kNSub i (bItems rNSub)
 sum:∃i,Seg I kNSum i (bItems rNSum)
 mul:∃i,Seg I kNMul i (bItems rNMul)
 top:∃i,Seg I kNTop i (bItems rNTop)
 shl:∃i,Seg I kNShl i (bItems rNShl)
 take:∃i,Seg I kNTake i (bItems rNTake)
 back:∃i,Seg I kNBack i (bItems rNBack)
 div:∃i,Seg I kNDiv i (bItems rNDiv)
end S
theorem Zv6 {env:List Int}(h:(env.length:Int)=3):∃a b c,env=[a,b,c]:=by
 match env,h with
 | [a,b,c],_=>exact⟨a,b,c,rfl⟩
 | [],h=>simp at h
 | [_],h=>simp at h
 | [_,_],h=>simp at h
 | _::_::_::_::_,h=>simp only[Yi] at h;omega
theorem Z2e {env:List Int}(h:(env.length:Int)=1):∃a,env=[a]:=by
 match env,h with
 | [a],_=>exact⟨a,rfl⟩
 | [],h=>simp at h
 | _::_::_,h=>simp only[Yi] at h;omega
theorem Zv7 {v:Int}(h:0<=v/\v<4294967296):0<=S.fixM v/\S.fixM v<=536870912:=by
 unfold S.fixM
 split <;> omega
theorem S.NumAt.same {I:S.Img}{mem mem':Int->Int}{v neg:Int}{ds:List Int}(h:S.NumAt I mem v neg ds)(hm:∀p,v=4*p+1->∀j:Nat,j<ds.length+2->mem' (p+j)=mem (p+j)):S.NumAt I mem' v neg ds:=by
 refine⟨h.vb,h.sg,h.dig,h.few,?_⟩;rcases h.cases with q|⟨p,e,hd,h0,h1,h2⟩
 .exact .inl q
 .refine .inr ⟨p,e,hd,?_,?_,λ i hi=>?_⟩
  .have:=hm p e 0 (by omega)
   simp only[Int.natCast_zero,Ybj] at this;rw[this];exact h0
  .have:=hm p e 1 (by omega)
   rw[show p+((1:Nat):Int)=p+1 by omega] at this;rw[this];exact h1
  .have:=hm p e (i+2) (by omega)
   rw[show p+((i+2:Nat):Int)=p+2+i by omega] at this;rw[this];exact h2 i hi
section
variable {I:S.Img}{dep lk:Int}{env:List Int}{st:S.Vw}
theorem Zra {e:S.BE}{v:Int}{K:Nat}(h:S.Yl I dep lk env st e v K)(hv:0<=v/\v<4294967296):S.Yl I dep lk env st (S.eFix e) (if v%4=0 then 1 else 0) (K+8):=by
 refine(Zow (Zn (by decide) h (Zp 3)) (Zp 0)).to_ ?_ (by omega);rw[Z37 hv.1 hv.2];rfl
theorem Zrb {e:S.BE}{p:Int}{K:Nat}(h:S.Yl I dep lk env st e (4*p+1) K):S.Yl I dep lk env st (S.eAdr e) p (K+3):=by
 refine(Zn (by decide) h (Zp 2)).to_ ?_ (by omega);rw[Z3a];omega
theorem Zdu {p:Int}:¬(4*p+1)%4=0:=by omega
end
section
variable {I:S.Img}(hN:S.NSegs I)
include hN
theorem Za8 {st:S.Vw}{v neg:Int}{ds:List Int}(h:S.NumAt I st.mem v neg ds):S.Tells I S.kNLen st [v] 16 ds.length 60:=by
 obtain⟨i,hi⟩:=hN.len;refine Zes hN.ok S.rNLen (by kernel_rfl) hi (dep:=0) (by decide) rfl rfl λ lk env s1 hl hp hs1 Q=>?_
 obtain⟨e0,rfl⟩:=Z2e hl;have h0:e0=v:=hp 0 (show 0<1 by decide);subst h0;have hl0:S.Yl I 0 lk [e0] s1 (S.eL 0) e0 1:=Zs 0;have hf:=Zra hl0 h.vb
 show S.WS I 0 lk false [S.sWhen (S.eFix (S.eL 0)) [S.sVal (S.eC 2)],S.sVal (S.eSub (S.eShr (S.eM (S.eAdr (S.eL 0)) 0) 5) (S.eC 1))] [e0] s1 8 _ _
 have hm:s1.mem=st.mem:=hs1.mem;rcases h.cases with⟨q1,q2,q3⟩|⟨p,e,hd,m0,m1,m2⟩
 .exact Zv (hf.to_ (if_pos q1) (Yb _)) (by decide) (λ h=>by cases h) λ _=>Zch ((Zp 2).to_ (by rw[q3];rfl) (Yb _)) (by decide) hs1 (by decide)
 .refine Zv (hf.to_ (if_neg (by rw[e];exact Zdu)) (Yb _)) (by decide) (λ _=>?_) λ h=>absurd rfl h
  have hd0:=hd 0 (by omega);rw[show p+((0:Nat):Int)=p by omega] at hd0;have hsz:=hN.ok.size2;have hp0:S.u32m (p+0)=p:=by
   have:=hd0.1;have:=hd0.2.1;unfold S.u32m;omega
  have y1:=Zli (n:=0) (Zrb (hl0.to_ e (Yb _))) hp0 (Za7 hd0);rw[hm,m0] at y1;have hfew:=h.few;have y2:=(Zn (op:=2) (by decide) (Zn (op:=11) (by decide) y1 (Zp 5)) (Zp 1)).to_ (y:=ds.length) (by rw[Z6o,Zjw];unfold S.u32m;omega) (Yb _);exact Zch y2 (by decide) hs1 (by decide)
theorem Zb4 {st:S.Vw}{v neg:Int}{ds:List Int}(h:S.NumAt I st.mem v neg ds):S.Tells I S.kNNeg st [v] 16 neg 60:=by
 obtain⟨i,hi⟩:=hN.neg;refine Zes hN.ok S.rNNeg (by kernel_rfl) hi (dep:=0) (by decide) rfl rfl λ lk env s1 hl hp hs1 Q=>?_
 obtain⟨e0,rfl⟩:=Z2e hl;have h0:e0=v:=hp 0 (show 0<1 by decide);subst h0;have hl0:S.Yl I 0 lk [e0] s1 (S.eL 0) e0 1:=Zs 0;have hf:=Zra hl0 h.vb
 show S.WS I 0 lk false [S.sWhen (S.eFix (S.eL 0)) [S.sVal (S.eShr (S.eL 0) 31)],S.sVal (S.eShr (S.eM (S.eAdr (S.eL 0)) 1) 2)] [e0] s1 8 _ _
 have hm:s1.mem=st.mem:=hs1.mem;rcases h.cases with⟨q1,q2,q3⟩|⟨p,e,hd,m0,m1,m2⟩
 .exact Zv (hf.to_ (if_pos q1) (Yb _)) (by decide) (λ h=>by cases h) λ _=>Zch ((Zn (op:=11) (by decide) hl0 (Zp 31)).to_ (by rw[q2];rfl) (Yb _)) (by decide) hs1 (by decide)
 .refine Zv (hf.to_ (if_neg (by rw[e];exact Zdu)) (Yb _)) (by decide) (λ _=>?_) λ h=>absurd rfl h
  have hd1:=hd 1 (by omega);rw[show p+((1:Nat):Int)=p+1 by omega] at hd1;have hsz:=hN.ok.size2;have hp1:S.u32m (p+1)=p+1:=by
   have:=hd1.1;have:=hd1.2.1;unfold S.u32m;omega
  have y1:=Zli (n:=1) (Zrb (hl0.to_ e (Yb _))) hp1 (Za7 hd1);rw[hm,m1] at y1;have y2:=(Zn (op:=11) (by decide) y1 (Zp 2)).to_ (y:=neg) (by rw[Z3a];omega) (Yb _);exact Zch y2 (by decide) hs1 (by decide)
theorem Zn8 {st:S.Vw}{v neg:Int}{ds:List Int}(h:S.NumAt I st.mem v neg ds):S.Tells I S.kNInt st [v] 16 1 80:=by
 obtain⟨i,hi⟩:=hN.int;refine Zes hN.ok S.rNInt (by kernel_rfl) hi (dep:=0) (by decide) rfl rfl λ lk env s1 hl hp hs1 Q=>?_
 obtain⟨e0,rfl⟩:=Z2e hl;have h0:e0=v:=hp 0 (show 0<1 by decide);subst h0;have hl0:S.Yl I 0 lk [e0] s1 (S.eL 0) e0 1:=Zs 0;have hf:=Zra hl0 h.vb
 show S.WS I 0 lk false [S.sWhen (S.eFix (S.eL 0)) [S.sVal (S.eC 1)],S.sWhen (S.eNot (S.isRef (S.eL 0))) [S.sVal (S.eC 0)],S.sVal (S.eQ (S.eAnd (S.eM (S.eAdr (S.eL 0)) 0) (S.eC 31)) (S.eC 31))] [e0] s1 8 _ _
 have hm:s1.mem=st.mem:=hs1.mem;rcases h.cases with⟨q1,q2,q3⟩|⟨p,e,hd,m0,m1,m2⟩
 .exact Zv (hf.to_ (if_pos q1) (Yb _)) (by decide) (λ h=>by cases h) λ _=>Zch (Zp 1) (by decide) hs1 (by decide)
 .refine Zv (hf.to_ (if_neg (by rw[e];exact Zdu)) (Yb _)) (by decide) (λ _=>?_) λ h=>absurd rfl h
  have hv:=h.vb;have e3:S.alu 7 e0 (3%4294967296)=1:=by
   rw[Z37 hv.1 hv.2];omega
  have y0:=Zn (op:=7) (by decide) hl0 (Zp 3);rw[e3] at y0;refine Zv ((Zow (Zow y0 (Zp 1)) (Zp 0)).to_ (y:=0) rfl (Yb _)) (by decide) (λ _=>?_) λ h=>absurd rfl h
  have hd0:=hd 0 (by omega);rw[show p+((0:Nat):Int)=p by omega] at hd0;have hsz:=hN.ok.size2;have hp0:S.u32m (p+0)=p:=by
   have:=hd0.1;have:=hd0.2.1;unfold S.u32m;omega
  have y1:=Zli (n:=0) (Zrb (hl0.to_ e (Yb _))) hp0 (Za7 hd0);rw[hm,m0] at y1;have hfew:=h.few;have y2:=(Zow (Zn (op:=7) (by decide) y1 (Zp 31)) (Zp 31)).to_ (y:=1) (by
   rw[Z5z (by omega) (by omega),if_pos (by omega)]) (Yb _)
  exact Zch y2 (by decide) hs1 (by decide)
end
end
section
theorem Zn9 {x:Int}(h0:0<=x)(h1:x<4294967296):S.alu 7 x (65535%4294967296)=x%65536:=Zht 16 65535 (by decide) (by decide) h0 h1
theorem Zj3 (x:Int):S.alu 11 x (16%4294967296)=x/65536:=rfl
theorem Z7i (x:Int):S.alu 12 x (2%4294967296)=S.u32m (S.sgn x/4):=rfl
theorem Z6u (x y:Int):S.alu 3 x y=S.u32m (x*y):=rfl
theorem Z2f {v:Int}(h:0<=v/\v<4294967296)(h4:v%4=0):(v/2147483648=0->S.u32m (S.sgn v/4)=S.fixM v)/\(v/2147483648≠0->S.u32m (0-S.u32m (S.sgn v/4))=S.fixM v):=by
 unfold S.u32m S.sgn S.fixM
 constructor
 .intro h1
  split <;> split <;> omega
 .intro h1
  split <;> split <;> omega
section
variable {I:S.Img}(hN:S.NSegs I)
include hN
theorem Za9 {st:S.Vw}{v neg i:Int}{ds:List Int}(h:S.NumAt I st.mem v neg ds)(hi:0<=i/\i<4294967296):S.Tells I S.kNDig st [v,i] 34 (ds.getD i.toNat 0) 250:=by
 obtain⟨iD,hD⟩:=hN.dig;refine Zes hN.ok S.rNDig (by kernel_rfl) hD (dep:=16) (by decide) rfl rfl λ lk env s1 hl hp hs1 Q=>?_
 obtain⟨e0,e1,e2,rfl⟩:=Zv6 hl;have h0:e0=v:=hp 0 (show 0<2 by decide);have h1:e1=i:=hp 1 (show 1<2 by decide);subst h0 h1;have hm:s1.mem=st.mem:=hs1.mem;have h':S.NumAt I s1.mem e0 neg ds:=by rw[hm];exact h
 have hl0:∀e2,S.Yl I 16 lk [e0,e1,e2] s1 (S.eL 0) e0 1:=λ e2=>Zs 0
 have hl1:∀e2,S.Yl I 16 lk [e0,e1,e2] s1 (S.eL 1) e1 1:=λ e2=>Zs 1
 have hl2:∀e2,S.Yl I 16 lk [e0,e1,e2] s1 (S.eL 2) e2 1:=λ e2=>Zs 2
 have hf:=Zra (hl0 e2) h.vb
 show S.WS I 16 lk false [S.sIf (S.eFix (S.eL 0))
  [S.sAs 2 (S.eB 12 (S.eL 0) (S.eC 2)),S.sWhen (S.eShr (S.eL 0) 31) [S.sAs 2 (S.eSub (S.eC 0) (S.eL 2))],S.sWhen (S.eNot (S.eL 1)) [S.sVal (S.eAnd (S.eL 2) (S.eC 65535))],S.sWhen (S.eQ (S.eL 1) (S.eC 1)) [S.sVal (S.eShr (S.eL 2) 16)]]
  [S.sWhen (S.eLt (S.eL 1) (S.eF S.kNLen [S.eL 0])) [S.sVal (S.eShr (S.eM (S.eAdd (S.eAdr (S.eL 0)) (S.eL 1)) 2) 2)]],S.sVal (S.eC 0)] [e0,e1,e2] s1 8 Q _
 have z1:∀e2,S.Yl I 16 lk [e0,e1,e2] s1 (S.eNot (S.eL 1)) (if e1=0 then 1 else 0) 6:=λ e2=>Zow (hl1 e2) (Zp 0)
 rcases h.cases with⟨q1,q2,q3⟩|⟨p,e,hd,m0,m1,m2⟩
 .refine Z1o (hf.to_ (if_pos q1) (Yb _)) (by decide) (λ h=>by cases h) λ _=>?_
  have hb:=Zv7 h.vb;obtain⟨r1,r2⟩:=Z2f h.vb q1;refine Zo (Zn (op:=12) (by decide) (hl0 e2) (Zp 2)) (by decide) ?_;rw[Z7i]
  show S.WS I 16 lk false _ [e0,e1,S.u32m (S.sgn e0/4)] s1 _ _ _
  have rest:∀(C:Nat)(Q:List Int->S.Vw->Nat->Prop),C<=100->S.WS I 16 lk false [S.sWhen (S.eNot (S.eL 1)) [S.sVal (S.eAnd (S.eL 2) (S.eC 65535))],S.sWhen (S.eQ (S.eL 1) (S.eC 1)) [S.sVal (S.eShr (S.eL 2) 16)]] [e0,e1,S.fixM e0] s1 C
   (λ en sx c=>S.wpSs I 16 lk false [S.sVal (S.eC 0)] en sx (c+3) Q (S.RetN st (ds.getD e1.toNat 0) 250)) (S.RetN st (ds.getD e1.toNat 0) 250):=λ C Q hC=>by
   refine Zv (z1 _) (by decide) (λ hz=>?_) (λ hnz=>?_)
   .have hne:e1≠0:=λ q=>by rw[if_pos q] at hz;cases hz
    refine Zv (Zow (hl1 _) (Zp 1)) (by decide) (λ hz1=>Zbj 3 ?_) (λ hnz1=>?_)
    .have hne1:e1≠1:=λ q=>by rw[if_pos (by rw[q];rfl)] at hz1;cases hz1
     refine Zch ((Zp 0).to_ ?_ (Yb _)) (by decide) hs1 (by omega);rw[q3,Ye,List.getElem?_eq_none (by simp only[Yi,List.length_nil];omega)];rfl
    .have he1:e1=1:=Y_c λ q=>hnz1 (if_neg (λ h=>q (h.trans rfl)))
     refine Zch ((Zn (op:=11) (by decide) (hl2 _) (Zp 16)).to_ ?_ (Yb _)) (by decide) hs1 (by omega);rw[Zj3,he1,q3];rfl
   .have he0:e1=0:=Y_c λ q=>hnz (if_neg q)
    refine Zch ((Zn (op:=7) (by decide) (hl2 _) (Zp 65535)).to_ ?_ (Yb _)) (by decide) hs1 (by omega);rw[Zn9 hb.1 (by omega),he0,q3];rfl
  refine Zv (Zn (op:=11) (by decide) (hl0 _) (Zp 31)) (by decide) (λ hz=>?_) (λ hnz=>?_)
  .rw[r1 hz]
   exact rest _ Q (by decide)
  .refine Zo (Zn (op:=2) (by decide) (Zp 0) (hl2 _)) (by decide) (Zbj 3 ?_)
   rw[Zjw]
   show S.WS I 16 lk false _ [e0,e1,S.u32m (0-S.u32m (S.sgn e0/4))] s1 _ _ _
   rw[r2 hnz];exact rest _ Q (by decide)
 .refine Z1o (hf.to_ (if_neg (by rw[e];exact Zdu)) (Yb _)) (by decide) (λ _=>?_) λ h=>absurd rfl h
  have hfew:=h.few;have y:=Zn (op:=14) (by decide) (hl1 e2) (Zd1 (Za (hl0 e2) Zh) (by simp) (Za8 hN h') (by decide));rw[Zcg] at y;refine Zv y (by decide) (λ hz=>Zq2 ?_) (λ hnz=>?_)
  .have hge:¬e1<(ds.length:Int):=λ q=>by rw[if_pos q] at hz;cases hz
   have e0':ds.getD e1.toNat 0=0:=by
    rw[Ye,List.getElem?_eq_none (by omega)];rfl
   rw[e0'];exact Zch (Zp 0) (by decide) hs1 (by decide)
  .have hlt:e1<(ds.length:Int):=Y_c λ q=>hnz (if_neg q)
   have hdj:=hd (e1.toNat+2) (by omega);have hsz:=hN.ok.size2;rw[show p+((e1.toNat+2:Nat):Int)=p+e1+2 by omega] at hdj;have hd0:=hd 0 (by omega);have hp0:=hd0.1;have hpb:=hdj.2.1;have ya:=(Zn (op:=1) (by decide) (Zrb ((hl0 e2).to_ e (Yb _))) (hl1 e2)).to_ (y:=p+e1) (by rw[Zat];unfold S.u32m;omega) (Yb _);have y1:=Zli (n:=2) (p:=p+e1+2) ya (by unfold S.u32m;omega) (Za7 hdj);have hmv:=m2 e1.toNat (by omega);rw[show p+2+((e1.toNat:Nat):Int)=p+e1+2 by omega] at hmv;rw[hm,hmv] at y1;have y2:=(Zn (op:=11) (by decide) y1 (Zp 2)).to_ (y:=ds.getD e1.toNat 0) (by rw[Z3a];omega) (Yb _);exact Zch y2 (by decide) hs1 (by decide)
end
end
section
namespace S
def dval:List Int->Int
 | []=>0
 | d::r=>d+65536*dval r
def Digs (l:List Int):Prop:=∀d∈l,0<=d/\d<65536
def cmpV (x y:List Int):Int:=if dval x<dval y then 0 else if dval y<dval x then 2 else 1
end S
theorem Zoa {d:Int}{r:List Int}(h:S.Digs (d::r)):(0<=d/\d<65536)/\S.Digs r:=⟨h d Yu,λ x hx=>h x (List.mem_cons_of_mem _ hx)⟩
theorem Zz {l:List Int}(h:S.Digs l)(j:Nat):0<=l.getD j 0/\l.getD j 0<65536:=by
 rw[Ye]
 cases hq:l[j]? with
 | none=>exact⟨by decide,by decide⟩
 | some x=>exact h x (List.mem_of_getElem? hq)
theorem Zk:∀{l:List Int},S.Digs l->0<=S.dval l
 | [],_=>Y7 _
 | d::r,h=>by
  obtain⟨h1,h2⟩:=Zoa h;have:=Zk h2;rw[S.dval];omega
theorem Zeg:∀{l:List Int},(∀j:Nat,l.getD j 0=0)->S.dval l=0
 | [],_=>rfl
 | d::r,h=>by
  have h0:d=0:=h 0;have:=Zeg (l:=r) λ j=>h (j+1)
  rw[S.dval,this,h0];rfl
theorem Zhw:∀{x y:List Int},(∀j:Nat,x.getD j 0=y.getD j 0)->S.dval x=S.dval y
 | [],y,h=>(Zeg λ j=>(h j).symm).symm
 | d::r,[],h=>Zeg h
 | d::r,e::s,h=>by
  have h0:d=e:=h 0;have:=Zhw (x:=r) (y:=s) λ j=>h (j+1)
  rw[S.dval,S.dval,this,h0]
theorem Za3 (x:List Int):S.dval x=x.getD 0 0+65536*S.dval x.tail:=by
 cases x with
 | nil=>rfl
 | cons d r=>rfl
theorem Zaz (x:List Int)(j:Nat):x.tail.getD j 0=x.getD (j+1) 0:=by
 cases x with
 | nil=>rfl
 | cons d r=>rfl
theorem Zb5 {x:List Int}(h:S.Digs x):S.Digs x.tail:=λ d hd=>h d (List.mem_of_mem_tail hd)
theorem Zp4:∀(k:Nat) {x y:List Int},S.Digs x->S.Digs y->(∀j:Nat,k<j->x.getD j 0=y.getD j 0)->x.getD k 0<y.getD k 0->S.dval x<S.dval y
 | 0,x,y,hx,hy,h,hlt=>by
  have:=Zhw (x:=x.tail) (y:=y.tail) λ j=>by rw[Zaz,Zaz];exact h (j+1) (by omega)
  rw[Za3 x,Za3 y,this];omega
 | k+1,x,y,hx,hy,h,hlt=>by
  have:=Zp4 k (Zb5 hx) (Zb5 hy) (λ j hj=>by rw[Zaz,Zaz];exact h (j+1) (by omega)) (by rw[Zaz,Zaz];exact hlt);have b1:=Zz hx 0;have b2:=Zz hy 0;rw[Za3 x,Za3 y];omega
theorem Z2g {env:List Int}(h:(env.length:Int)=5):∃a b c d e,env=[a,b,c,d,e]:=by
 match env,h with
 | [a,b,c,d,e],_=>exact⟨a,b,c,d,e,rfl⟩
 | [],h=>simp at h
 | [_],h=>simp at h
 | [_,_],h=>simp at h
 | [_,_,_],h=>simp at h
 | [_,_,_,_],h=>simp at h
 | _::_::_::_::_::_::_,h=>simp only[Yi] at h;omega
section
variable {I:S.Img}(hN:S.NSegs I)
include hN
theorem Zob {st:S.Vw}{v u nv nu:Int}{x y:List Int}(hx:S.NumAt I st.mem v nv x)(hy:S.NumAt I st.mem u nu y):S.Tells I S.kNCmp st [v,u] 54 (S.cmpV x y) (400+1000*(x.length+y.length)):=by
 obtain⟨iD,hD⟩:=hN.cmp;refine Zes hN.ok S.rNCmp (by kernel_rfl) hD (dep:=34) (by decide) rfl rfl λ lk env s1 hl hp hs1 Q=>?_
 obtain⟨e0,e1,e2,e3,e4,rfl⟩:=Z2g hl;have h0:e0=v:=hp 0 (show 0<2 by decide);have h1:e1=u:=hp 1 (show 1<2 by decide);subst h0 h1;have hm:s1.mem=st.mem:=hs1.mem;have hx':S.NumAt I s1.mem e0 nv x:=by rw[hm];exact hx
 have hy':S.NumAt I s1.mem e1 nu y:=by rw[hm];exact hy
 have fx:=hx.few;have fy:=hy.few;have dx:S.Digs x:=hx.dig;have dy:S.Digs y:=hy.dig;have hl0:∀a b c,S.Yl I 34 lk [e0,e1,a,b,c] s1 (S.eL 0) e0 1:=λ a b c=>Zs 0
 have hl1:∀a b c,S.Yl I 34 lk [e0,e1,a,b,c] s1 (S.eL 1) e1 1:=λ a b c=>Zs 1
 have hl2:∀a b c,S.Yl I 34 lk [e0,e1,a,b,c] s1 (S.eL 2) a 1:=λ a b c=>Zs 2
 have hl3:∀a b c,S.Yl I 34 lk [e0,e1,a,b,c] s1 (S.eL 3) b 1:=λ a b c=>Zs 3
 have hl4:∀a b c,S.Yl I 34 lk [e0,e1,a,b,c] s1 (S.eL 4) c 1:=λ a b c=>Zs 4
 show S.WS I 34 lk false [S.sAs 2 (S.eAdd (S.eF S.kNLen [S.eL 0]) (S.eF S.kNLen [S.eL 1])),
  S.sWh (S.eL 2) [S.sAs 2 (S.eSub (S.eL 2) (S.eC 1)),S.sAs 3 (S.eF S.kNDig [S.eL 0,S.eL 2]),S.sAs 4 (S.eF S.kNDig [S.eL 1,S.eL 2]),S.sWhen (S.eLt (S.eL 3) (S.eL 4)) [S.sVal (S.eC 0)],S.sWhen (S.eLt (S.eL 4) (S.eL 3)) [S.sVal (S.eC 2)]],
  S.sVal (S.eC 1)] [e0,e1,e2,e3,e4] s1 8 Q _
 refine Zo ((Zn (op:=1) (by decide) (Zd1 (Za (hl0 _ _ _) Zh) (by simp) (Za8 hN hx') (by decide)) (Zd1 (Za (hl1 _ _ _) Zh) (by simp) (Za8 hN hy') (by decide))).to_ (y:=((x.length+y.length:Nat):Int)) (by rw[Zat];unfold S.u32m;omega) (Yb _)) (by decide) ?_
 show S.WS I 34 lk false _ [e0,e1,((x.length+y.length:Nat):Int),e3,e4] s1 _ _ _
 refine Zfe (by decide) (λ env s C k=>s=s1/\∃a b,env=[e0,e1,(k:Int),a,b]/\k<=x.length+y.length/\C<=300+1000*(x.length+y.length-k)/\∀j:Nat,k<=j->x.getD j 0=y.getD j 0) (k0:=x.length+y.length)
  ⟨rfl,e3,e4,rfl,Yb _,by omega,λ j hj=>by rw[Ye,List.getElem?_eq_none (by omega),Ye,List.getElem?_eq_none (by omega)]⟩ ?_
 rintro env s C k ⟨rfl,a,b,rfl,hk,hC,hj⟩;refine⟨(k:Int),1,Zs 2,λ hz=>?_,λ hnz=>?_⟩
 .have hk0:k=0:=by omega
  subst hk0;have he:=Zhw (x:=x) (y:=y) λ j=>hj j (Yag j)
  refine Zch ((Zp 1).to_ ?_ (Yb _)) (by decide) hs1 (by omega);unfold S.cmpV;rw[if_neg (by omega),if_neg (by omega)];rfl
 .obtain⟨i,rfl⟩:∃i,k=i+1:=⟨k-1,by omega⟩
  refine Zo ((Zn (op:=2) (by decide) (hl2 _ _ _) (Zp 1)).to_ (y:=(i:Int)) (by rw[Zjw];unfold S.u32m;omega) (Yb _)) (by decide) ?_
  show S.WS I 34 lk false _ [e0,e1,(i:Int),a,b] s _ _ _
  refine Zo (Zd1 (Za (hl0 _ _ _) (Za (hl2 _ _ _) Zh)) (by simp) (Za9 hN hx' ⟨by omega,by omega⟩) (by decide)) (by decide) ?_;rw[Yah]
  show S.WS I 34 lk false _ [e0,e1,(i:Int),x.getD i 0,b] s _ _ _
  refine Zo (Zd1 (Za (hl1 _ _ _) (Za (hl2 _ _ _) Zh)) (by simp) (Za9 hN hy' ⟨by omega,by omega⟩) (by decide)) (by decide) ?_;rw[Yah]
  show S.WS I 34 lk false _ [e0,e1,(i:Int),x.getD i 0,y.getD i 0] s _ _ _
  have yl1:=Zn (op:=14) (by decide) (hl3 (i:Int) (x.getD i 0) (y.getD i 0)) (hl4 _ _ _);have yl2:=Zn (op:=14) (by decide) (hl4 (i:Int) (x.getD i 0) (y.getD i 0)) (hl3 _ _ _);rw[Zcg] at yl1 yl2;refine Zv yl1 (by decide) (λ hz=>?_) (λ hnz=>?_)
  .have n1:¬x.getD i 0<y.getD i 0:=λ q=>by rw[if_pos q] at hz;cases hz
   refine Zv yl2 (by decide) (λ hz=>Z3 (k2:=i) (by omega) ?_) (λ hnz=>?_)
   .have n2:¬y.getD i 0<x.getD i 0:=λ q=>by rw[if_pos q] at hz;cases hz
    refine⟨rfl,_,_,rfl,by omega,by omega,λ j hj2=>?_⟩;by_cases c:j=i
    .subst c;omega
    .exact hj j (by omega)
   .have hlt:y.getD i 0<x.getD i 0:=Y_c λ q=>hnz (if_neg q)
    have:=Zp4 i dy dx (λ j hj2=>(hj j (by omega)).symm) hlt;refine Zch ((Zp 2).to_ ?_ (Yb _)) (by decide) hs1 (by omega);unfold S.cmpV;rw[if_neg (by omega),if_pos this];rfl
  .have hlt:x.getD i 0<y.getD i 0:=Y_c λ q=>hnz (if_neg q)
   have:=Zp4 i dx dy (λ j hj2=>hj j (by omega)) hlt;refine Zch ((Zp 0).to_ ?_ (Yb _)) (by decide) hs1 (by omega);unfold S.cmpV;rw[if_pos this];rfl
end
end
