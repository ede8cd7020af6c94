/- Parts. -/
import Derived.Test.YtfhiobkkdcdmiaaGreatDoorZGCol
import Derived.Test.YtfhiobkkdcdmiaaGreatDoorZNDiw
set_option linter.all false
open Nat renaming le_refl->Yb
open List renaming length_append->Yd,any_eq_true->Ybx,nodup_nil->Yc5
namespace Go.Proofs.YtfhiobkkdcdmiaaGreatDoor
open Go.RowKit
section
theorem Zm8:S.chkB S.rReserve=0:=by kernel_rfl
def S.cm (I:S.Img)(cf:S.Cf)(T:S.Ob->Prop)(cnt n:Nat)(want:Int)(st:S.Vw)(o:S.BO)(k:Nat):Prop :=
 (want<=st.reg 27-st.reg 26/\o=.ret st/\k<=40) \/
 (st.reg 27-st.reg 26<want/\∃st' ρ,S.Cd cf T (S.RX I st.mem cnt n) st ρ st'/\((want<=cf.hf-S.tot ρ/\o=.ret st')\/(cf.hf-S.tot ρ<want/\o=.halt 255 st')) /\
  (k:Int)<=800+130*(cnt+(I.lab S.kCode-1312))+10100*n+170*S.tot ρ)
theorem Zyj (st:S.Vw):st.args []=st:=by
 have:(st.args []).reg=st.reg:=by
  funext j
  show(if 4<=j/\j<4+(0:Nat) then _ else st.reg j)=_
  rw[if_neg (by omega)]
 cases st
 show S.Vw.mk _ _ _ _=_
 congr
section
variable {I:S.Img}(hI:I.Ok){cf:S.Cf}(hc:S.Cf.Ok I cf){T:S.Ob->Prop}
include hI hc
theorem Zm9 {iM iS iF iC iR:Nat}(hM:S.Seg I S.kMove iM (S.bItems S.rMove))(hS:S.Seg I S.kScan iS (S.bItems S.rScan))(hF:S.Seg I S.kFrame iF (S.bItems S.rFrame))(hC:S.Seg I S.kCollect iC (S.bItems S.rCollect))(hR:S.Seg I S.kReserve iR (S.bItems S.rReserve))
 {st:S.Vw} {cnt n:Nat} (h:S.dc I cf T cnt n st.mem) {need spare:Int} (h4:st.reg 4=need) (h7:st.mem 7=spare) (hn0:0<=need/\0<=spare/\need+spare<4294967296) (h26:0<=st.reg 26/\st.reg 26<=st.reg 27/\st.reg 27<4294967296) :
 S.Real I S.kReserve false st 88 (λ _ o k=>S.cm I cf T cnt n (need+spare) st o k):=by
 refine Zgu hI S.rReserve Zm8 hR (dep:=72) (by decide) st _ λ lk env _ _ hl hp=>?_
 obtain⟨e0,rfl⟩:=Zz0 hl;have h0:e0=st.reg 4:=hp 0 (show(0:Int)<1 by decide);rw[h4] at h0;subst h0;have htoz:=hc.toz;have hto0:=hc.to0;have hhf:=hc.hf0;unfold S.rReserve;simp only;obtain⟨o7,v7⟩:=Zv4 hI hc (lk:=lk) (env:=[e0]) (st:=st) (n:=7) (by decide) (by decide);refine Ze4 rfl (Zfd (by decide) (Zcz 0) o7) ?_;have ev1:S.evE I lk [e0] st (S.eAdd (S.eL 0) (S.eW 7))=e0+spare:=by
  show S.alu 1 e0 (S.evE I lk [e0] st (S.eW 7))=_
  rw[v7,h7,Zat];unfold S.u32m;omega
 rw[ev1];have hset:[e0].set (Int.toNat 0) (e0+spare)=[e0+spare]:=rfl;rw[hset];have eshort:∀st:S.Vw,S.evE I lk [e0+spare] st S.eShort=if S.u32m (st.reg 27-st.reg 26)<e0+spare then 1 else 0:=λ st=>Zcg _ _
 have okshort:∀st:S.Vw,S.okE I lk [e0+spare] st S.eShort:=λ st=>Zfd (by decide) (Zfd (by decide) (Z1l 27) (Z1l 26)) (Zcz 0)
 have q1:S.coE (S.eAdd (S.eL 0) (S.eW 7))=5:=rfl;have q2:S.coE S.eShort=5:=rfl;have q3:S.coEs ([]:List S.BE)=0:=rfl;have q4:S.coE (S.eC 255)=2:=rfl;have hu:S.u32m (st.reg 27-st.reg 26)=st.reg 27-st.reg 26:=by unfold S.u32m;omega
 refine Zlh rfl (okshort st) (λ hz=>Zbm (Zbm ?_)) (λ hnz=>?_)
 .rw[eshort,hu] at hz
  have:¬st.reg 27-st.reg 26<e0+spare:=λ q=>by rw[if_pos q] at hz;cases hz
  refine .inl ⟨by omega,rfl,?_⟩;rw[q1,q2]
  decide
 .rw[eshort,hu] at hnz
  have hlt:st.reg 27-st.reg 26<e0+spare:=Y_c λ q=>by rw[if_neg q] at hnz;exact hnz rfl
  refine Z1n (l:=[]) rfl trivial (d:=72) (T:=λ _ o k=>S.bl I cf T cnt n (st.args []) o k) (Zm7 hI hc hM hS hF hC (st:=st.args []) h) (by decide) λ ret o k hR=>?_
  rw[Zyj] at hR;obtain⟨st',ρ,rfl,hcd,hk⟩:=hR;have hu':S.u32m (st'.reg 27-st'.reg 26)=cf.hf-S.tot ρ:=by
   have hsum:=Zci ρ cf.O hcd.nd hcd.sub;have hs:=hc.sum;have t0:=Zy ρ;rw[hcd.r26,hcd.r27];unfold S.u32m;omega
  have hlen:(S.evEs I lk [e0+spare] st []).length=0:=rfl;refine Zlh rfl (okshort st') (λ hz=>Zbm (Zbm (Zbm ?_))) (λ hnz=>?_)
  .rw[eshort,hu'] at hz
   have:¬cf.hf-S.tot ρ<e0+spare:=λ q=>by rw[if_pos q] at hz;cases hz
   refine .inr ⟨hlt,st',ρ,hcd,.inl ⟨by omega,rfl⟩,?_⟩;rw[q1,q2,q3,hlen];simp only[Bool.false_eq_true,if_false];omega
  .rw[eshort,hu'] at hnz
   have hlt2:cf.hf-S.tot ρ<e0+spare:=Y_c λ q=>by rw[if_neg q] at hnz;exact hnz rfl
   refine Z36 rfl (Ze3 255) (.inr ⟨hlt,st',ρ,hcd,.inr ⟨hlt2,rfl⟩,?_⟩);rw[q1,q2,q3,q4,hlen];omega
end
section
variable {I:S.Img}(hI:I.Ok)
include hI
end
end
def S.ah (I:S.Img)(name:ByteArray)(behind:Bool)(st:S.Vw)(d ret:Int)(R:S.BO->Nat->Prop):Prop :=
 ∀V top,S.Mt I V st->V.reg 28=top->V.reg 31=ret->0<=ret->ret<I.size->I.lo<=top->top+d<=I.hi->∃o k,R o k/\S.Done I V (I.lab name) k top ret behind o
theorem Z1s {I:S.Img}(hI:I.Ok)(r:S.BR)(hc:S.chkB r=0){i:Nat}(hs:S.Seg I r.name i (S.bItems r)){dep:Int}(hdep:0<=dep)(st:S.Vw)(ret:Int)(R:S.BO->Nat->Prop)
 (hw:∀(env:List Int),(env.length:Int)=r.locals->(∀k:Nat,(k:Int)<r.params->env.getD k 0=st.reg (4+k)) ->
  S.wpSs I dep ret r.behind r.body env st (r.params.toNat+2) (λ _ st' c'=>R (.ret st') (c'+(if r.behind=true then 5 else 3))) R) :
 S.ah I r.name r.behind st (r.locals+15+dep) ret R:=by
 obtain⟨hn,p0,p4,pL,L200,hbody⟩:=Zc5 hc;intro V top hmt hsp h31 r0 r1 hlo hhi;have cx:S.Cx I r.locals dep ret top:=⟨hI,hlo,by omega,hdep,by omega,L200,r0,r1⟩
 have q1:=hI.lo0;have q2:=hI.hisz;have q3:=hI.size2;have hfr:S.frameB r=r.locals+15:=by unfold S.frameB;rw[if_neg (by simp[hc])]
 obtain⟨np,hnp⟩:=Yx r.params.toNat;unfold S.bItems S.bHead at hs;rw[hfr,<- hnp] at hs;have hsA:S.Seg I r.name i ([S.bL r.name,S.bI 25 0 28 31 0]:List S.Item):=hs.left.left.left.left;have hsP:S.Seg I r.name (i+2) (S.bParams np):=hs.left.left.left.right;have hsQ:S.Seg I r.name (i+2+np) [S.bI 15 28 28 0 (r.locals+15)]:=by
  have h:=hs.left.left.right;rw[Yd,Zbo] at h;have e:i+(([S.bL r.name,S.bI 25 0 28 31 0]:List S.Item).length+np)=i+2+np:=by simp;omega
  rw[e] at h;exact h
 have hsB:S.Seg I r.name (i+2+np+1) (S.bStmts (r.locals+15) r.locals r.behind r.body 0).1:=by
  have h:=hs.left.right;rw[Yd,Yd,Zbo] at h;have e:i+(([S.bL r.name,S.bI 25 0 28 31 0]:List S.Item).length+np+([S.bI 15 28 28 0 (r.locals+15)]:List S.Item).length)=i+2+np+1:=by simp;omega
  rw[e] at h;exact h
 have hsR:S.Seg I r.name (i+2+np+1+(S.bStmts (r.locals+15) r.locals r.behind r.body 0).1.length) (S.bBack (r.locals+15) r.behind):=by
  have h:=hs.right;rw[Yd,Yd,Yd,Zbo] at h;have e:i+(([S.bL r.name,S.bI 25 0 28 31 0]:List S.Item).length+np+([S.bI 15 28 28 0 (r.locals+15)]:List S.Item).length+(S.bStmts (r.locals+15) r.locals r.behind r.body 0).1.length)=i+2+np+1+(S.bStmts (r.locals+15) r.locals r.behind r.body 0).1.length:=by simp;omega
  rw[e] at h;exact h
 have hlab:I.lab r.name=I.adr i:=by
  have:=Zkc cx hsA;rw[Zeo _ hn] at this;exact this
 have g0:=Zem hI hsA.lo hsA.lt (V:=V) hsA.head;have et:top=S.u32m (V.reg 28+0):=by rw[hsp];unfold S.u32m;omega
 have hct:¬I.code top:=by
  rintro⟨c0,c1⟩;rcases hI.apart with h|h <;> omega
 have g1:=Ztu hI hsA.tail.lo hsA.tail.lt (V:=V) (a:=28) (b:=31) (n:=0) hsA.tail.head (by decide) (by decide) et (by omega) hct;rw[h31] at g1;obtain⟨V2,g2,e2r,e2a,e2m,e2i,e2o⟩:=Zio cx (V:=V.sto top ret) hsp np (by omega) hsP;have g3:=Zd8 hI hsQ.lo hsQ.lt (V:=V2) (d:=28) (a:=28) (n:=r.locals+15) hsQ.head (by decide) (by decide) (by decide);have e3:S.u32m (V2.reg 28+(r.locals+15))=top+r.locals+15:=by
  have:V2.reg 28=top:=by rw[e2r];exact hsp
  rw[this];unfold S.u32m;omega
 rw[e3] at g3;have gg:S.Go I V (I.lab r.name) (np+2) (V2.set 28 (top+r.locals+15)) (I.adr (i+2+np+1)):=by
  rw[hlab];exact(((g0.trans g1).trans g2).trans g3).more (by omega)
 have hmem:∀a:Int,a<top\/top+1+np<=a->(V2.set 28 (top+r.locals+15)).mem a=V.mem a:=λ a ha=>by
  show V2.mem a=_
  rw[e2m a (by omega),Zab _ _ (by omega)]
 obtain⟨env,henv⟩:∃env:List Int,env=(List.range r.locals.toNat).map λ k:Nat=>(V2.set 28 (top+r.locals+15)).mem (top+1+(k:Int)):=⟨_,rfl⟩
 have hel:env.length=r.locals.toNat:=by rw[henv];simp
 have hge:∀k:Nat,k<env.length->env.getD k 0=(V2.set 28 (top+r.locals+15)).mem (top+1+(k:Int)):=λ k hk=>by
  rw[henv,Zcx _ _ _ (by rw[<- hel];exact hk)]
 have hF:S.Fm I (V2.set 28 (top+r.locals+15)) st top ret env []:=by
  refine⟨⟨λ j hj=>?_,λ a a0 a1 ha=>?_,?_,?_⟩,?_,?_,λ k hk=>(hge k hk).symm,λ k hk=>by simp at hk⟩
  .have:=Zke hj
   rw[Zg _ _ (by omega),e2r];exact hmt.vis j hj
  .by_cases hin:top<=a/\a<top+1+np
   .exact absurd ⟨by omega,by omega⟩ ha
   .rw[hmem a (by omega)];exact hmt.mem a a0 a1 ha
  .show V2.inp=_;rw[e2i];exact hmt.inp
  .show V2.out=_;rw[e2o];exact hmt.out
  .rw[Zj];omega
  .show V2.mem top=ret
   rw[e2m top (by omega),Zd9]
 have hargs:∀k:Nat,(k:Int)<r.params->env.getD k 0=st.reg (4+k):=λ k hk=>by
  rw[hge k (by omega)]
  show V2.mem (top+1+(k:Int))=_
  rw[e2a k (by omega)];exact hmt.vis _ (by unfold S.visB;rw[decide_eq_true_eq];omega)
 have hL:(env.length:Int)=r.locals:=by omega
 have hkp:S.Kp I top V (V2.set 28 (top+r.locals+15)):=λ a a0 a1=>hmem a (by omega)
 have hb:=hw env hL hargs;rw[<- hnp] at hb;have h:=Zen cx (obj:=r.name) (behind:=r.behind) r.body 0 0 env _ st _ (np+2) _ _ hL hbody hb hsB hF;rcases h with⟨env',st',c',V',h1,h2,h3,h4,h5,h6⟩|⟨o,c',h1,h2,h3⟩
 .have hbk:=Zpa cx (obj:=r.name) (behind:=r.behind) (r:=[]) h3 (by rw[List.append_nil];exact hsR) h5
  have hd:=Zbl h4 h6 hbk (Yb _);refine⟨.ret st',c'+(if r.behind=true then 5 else 3),h2,Zbl gg hkp hd ?_⟩;omega
 .exact⟨o,c',h2,Zbl gg hkp h3 (by omega)⟩
theorem Zgt {I:S.Img}(hI:I.Ok)(r:S.BR)(hc:S.chkB r=0){i:Nat}(hs:S.Seg I r.name i (S.bItems r)){dep:Int}(hdep:0<=dep)(st:S.Vw)(ret:Int)(R:S.BO->Nat->Prop)
 (hw:∀(env:List Int),(env.length:Int)=r.locals->(∀k:Nat,(k:Int)<r.params->env.getD k 0=st.reg (4+k))->S.WS I dep ret r.behind r.body env st 8 (λ _ st' c'=>R (.ret st') (c'+(if r.behind=true then 5 else 3))) R) :
 S.ah I r.name r.behind st (r.locals+15+dep) ret R:=by
 have p4:=(Zc5 hc).2.2.1;exact Z1s hI r hc hs hdep st ret R λ env hl hp=>hw env hl hp st _ (.refl st) (by omega)
section
namespace S
structure CSegs (I:Img):Prop where
 move:∃i,Seg I kMove i (bItems rMove)
 scan:∃i,Seg I kScan i (bItems rScan)
 frame:∃i,Seg I kFrame i (bItems rFrame)
 collect:∃i,Seg I kCollect i (bItems rCollect)
 reserve:∃i,Seg I kReserve i (bItems rReserve)
def NumO (I:Img)(cf:Cf)(T:Ob->Prop)(mem:Int->Int)(v neg:Int)(ds:List Int):Prop:=NumAt I mem v neg ds/\∀p,v=4*p+1->∃o∈cf.O,T o/\o.at_=p
structure Rdy (I:Img)(cf:Cf)(T:Ob->Prop)(H spare lk:Int)(st:Vw):Prop where
 r26:st.reg 26=H
 r27:st.reg 27=cf.fr+cf.hf
 H0:cf.fr<=H
 H1:H<=cf.fr+cf.hf
 m2:st.mem 2=cf.fr
 m3:st.mem 3=cf.to_
 m4:st.mem 4=cf.hf
 m5:st.mem 5%4≠1/\0<=st.mem 5/\st.mem 5<4294967296
 m7:st.mem 7=spare
 sp:0<=spare/\spare<1000000
 obj:∀o∈cf.O,∀(k:Nat)(w:Int),o.ws[k]?=some w->st.mem (o.at_+(k:Int))=w
 below:∀o∈cf.O,o.at_+o.ws.length<=H
 plain:∀o∈cf.O,T o->∀w∈o.ws,w%4≠1
 code:I.lab kCode=1312
 lk0:st.mem lk=0
 lk1:1312<=lk/\lk<I.size/\¬I.stk lk/\¬(cf.fr<=lk/\lk<cf.fr+cf.hf)/\¬(cf.to_<=lk/\lk<cf.to_+cf.hf)
end S
theorem Zet (st:S.Vw)(p x a:Int):(st.sto p x).mem a=if a=p then x else st.mem a:=rfl
theorem Zuy {I:S.Img}{cf:S.Cf}(hc:S.Cf.Ok I cf){T:S.Ob->Prop}{mem:Int->Int}{v neg:Int}{ds:List Int}(h:S.NumAt I mem v neg ds)(hobj:∀o∈cf.O,∀(k:Nat)(w:Int),o.ws[k]?=some w->mem (o.at_+(k:Int))=w){o:S.Ob}(ho:o∈cf.O)(hv:v=4*o.at_+1):o.ws.length=ds.length+2:=by
 obtain⟨⟨hw,hd,r,e,h3,h32⟩,f0,f1⟩:=hc.obs o ho;rcases h.cases with⟨q,_⟩|⟨p,e2,_,m0,_⟩
 .omega
 .have ep:p=o.at_:=by omega
  have:=hobj o ho 0 hd (by rw[e];rfl);rw[show o.at_+((0:Nat):Int)=p by omega,m0] at this;rw[e,List.length_cons];omega
theorem Zna {I:S.Img}{cf:S.Cf}(hc:S.Cf.Ok I cf){T:S.Ob->Prop}{H spare lk:Int}{st:S.Vw}(hr:S.Rdy I cf T H spare lk st){v neg:Int}{ds:List Int}(h:S.NumO I cf T st.mem v neg ds):S.NumIn I st.mem H v neg ds:=by
 refine⟨h.1,λ p e=>?_⟩;obtain⟨o,ho,hT,e2⟩:=h.2 p e;have:=Zuy (T:=T) hc h.1 hr.obj ho (by rw[e2];exact e);have:=hr.below o ho;omega
theorem Znb {I:S.Img}{cf:S.Cf}(hc:S.Cf.Ok I cf){T:S.Ob->Prop}{X:Int->Prop}{st st':S.Vw}{ρ:List S.Ob}(hobj:∀o∈cf.O,∀(k:Nat)(w:Int),o.ws[k]?=some w->st.mem (o.at_+(k:Int))=w)(hpl:∀o∈cf.O,T o->∀w∈o.ws,w%4≠1)(hcd:S.Cd cf T X st ρ st'){a v neg:Int}{ds:List Int}(hX:X a)(ha:st.mem a=v)(h:S.NumO I cf T st.mem v neg ds):S.NumIn I st'.mem (cf.to_+S.tot ρ) (st'.mem a) neg ds:=by
 obtain⟨hmv,hcl⟩:=hcd.root a hX;rw[ha] at hmv hcl;rw[hmv];rcases h.1.cases with⟨q1,q2,q3⟩|⟨p,e,hd,m0,m1,m2⟩
 .have e:S.mv cf.to_ ρ v=v:=by unfold S.mv;rw[if_neg (by omega)]
  rw[e];exact⟨⟨h.1.vb,h.1.sg,h.1.dig,h.1.few,.inl ⟨q1,q2,q3⟩⟩,λ p e=>by omega⟩
 .obtain⟨o,ho,hT,e2⟩:=h.2 p e
  have hv:v=4*o.at_+1:=by omega
  have hmem:=hcl o ho hv;obtain⟨ν,hν⟩:=Zff (t:=cf.to_) hmem;have hlen:=Zuy (T:=T) hc h.1 hobj ho hv;obtain⟨_,n1,n2⟩:=Zlk hc hcd.sub ho hν;have e3:S.mv cf.to_ ρ v=4*ν+1:=by
   unfold S.mv;rw[if_pos (by omega),show v/4=o.at_ by omega,hν]
  rw[e3];have htoz:=hc.toz;have hsum:=Zci ρ cf.O hcd.nd hcd.sub;have hs:=hc.sum;have hto0:=hc.to0;have key:∀j:Nat,j<ds.length+2->st'.mem (ν+j)=st.mem (p+j):=λ j hj=>by
   have hw:o.ws[j]?=some (o.ws[j]'(by omega)):=List.getElem?_eq_getElem _;have h1:=(hcd.new o hmem ν hν j _ hw).1;have h2:=hobj o ho j _ hw;have h3:=hpl o ho hT _ (List.getElem_mem (by omega:j<o.ws.length));rw[h1,show p+(j:Int)=o.at_+j by omega,h2];unfold S.mv;rw[if_neg h3]
  refine⟨⟨by omega,h.1.sg,h.1.dig,h.1.few,.inr ⟨ν,rfl,λ j hj=>hc.tod _ (by omega) (by omega),?_,?_,λ i hi=>?_⟩⟩,λ p' e'=>by omega⟩
  .have:=key 0 (by omega)
   simp only[Int.natCast_zero,Int.add_zero] at this;rw[this];exact m0
  .have:=key 1 (by omega)
   rw[show p+((1:Nat):Int)=p+1 by omega,show ν+((1:Nat):Int)=ν+1 by omega] at this;rw[this];exact m1
  .have:=key (i+2) (by omega)
   rw[show p+((i+2:Nat):Int)=p+2+i by omega,show ν+((i+2:Nat):Int)=ν+2+i by omega] at this;rw[this];exact m2 i hi
section
variable {I:S.Img}(hN:S.NSegs I)(hG:S.CSegs I){cf:S.Cf}(hc:S.Cf.Ok I cf){T:S.Ob->Prop}
include hN hG hc
theorem Z1t {dep lk:Int}{s:S.Vw}{C:Nat}{Q:List Int->S.Vw->Nat->Prop}{R:S.BO->Nat->Prop}{behind:Bool}{H spare p q e2 nv nu tT:Int}{x y:List Int}{rest:List S.BS}{KR:Nat}(hdep:88<=dep)(hr:S.Rdy I cf T H spare lk s)(hx:S.NumO I cf T s.mem p nv x)(hy:S.NumO I cf T s.mem q nu y)(hfew:x.length+y.length<=1000)
 (hT:∀ρ:List S.Ob,ρ.Nodup->(∀o∈ρ,o∈cf.O/\T o)->S.tot ρ<=tT) (hKR:1600+170*tT<=KR)
 (hret:∀(s':S.Vw)(p' q' H' L:Int),s'.reg 26=H'->S.NumIn I s'.mem H' p' nv x->S.NumIn I s'.mem H' q' nu y->(∀a,H'<=a->a<H'+3*(x.length+y.length)+20->S.Dat I a)->1312<=H'->s'.mem 6=0->s'.mem 8=0->s'.inp=s.inp->s'.out=s.out ->
  S.WS I dep lk behind rest [p',q',L] s' (C+KR) Q R)
 (hhalt:∀s' c,cf.hf<tT+(3*(x.length+y.length)+20)+spare->c<=C+KR->R (.halt 255 s') c) :
 S.WS I dep lk behind (S.bNRoom++rest) [p,q,e2] s C Q R:=by
 obtain⟨iM,hM⟩:=hG.move;obtain⟨iS,hS⟩:=hG.scan;obtain⟨iF,hF⟩:=hG.frame;obtain⟨iC,hC⟩:=hG.collect;obtain⟨iR,hR⟩:=hG.reserve;have tT0:0<=tT:=hT [] Yc5 (λ o ho=>by cases ho);have hsz:=hN.ok.size2;have hfr0:=hc.fr0;have hto0:=hc.to0;have hfrz:=hc.frz;have htoz:=hc.toz;have hhf:=hc.hf0;have xb:=hx.1.vb;have yb:=hy.1.vb;obtain⟨lk1,lk2,lk3,lk4,lk5⟩:=hr.lk1;have low:∀n:Int,0<=n->n<1056->S.u32m (n%4294967296+0)=n/\S.Dat I n:=λ n h0 h1=>⟨by unfold S.u32m;omega,hc.low n h0 h1⟩
 have keep:∀(s:S.Vw)(n:Int)(e:S.BE)(v:Int)(env:List Int)(K C:Nat)(r:List S.BS),0<=n->n<1056->S.Yl I dep lk env s e v K->S.dE e<=19->S.WS I dep lk behind r env (s.sto n v) (C+2+K+1) Q R->S.WS I dep lk behind (S.sKeep n e::r) env s C Q R:=λ s n e v env K C r h0 h1 he hd h=>Zb3 (Zp n) he (by rw[S.eC,S.dE,S.dEs];omega) hd (low n h0 h1).1 (low n h0 h1).2.2 h
 show S.WS I dep lk behind (S.sKeep 16 (S.eL 0)::S.sKeep 17 (S.eL 1)::S.sKeep 8 (S.eC 2)::S.sKeep 6 S.eK::S.sAs 2 (S.eAdd (S.eF S.kNLen [S.eL 0]) (S.eF S.kNLen [S.eL 1]))::S.sDo (S.eF S.kReserve [S.eAdd (S.eAdd (S.eL 2) (S.eShl (S.eL 2) 1)) (S.eC 20)])::S.sAs 0 (S.eW 16)::S.sAs 1 (S.eW 17)::S.sKeep 8 (S.eC 0)::S.sKeep 6 (S.eC 0)::rest) [p,q,e2] s C Q R
 refine keep s 16 _ p _ 1 _ _ (by decide) (by decide) (Zs 0) (by decide) ?_;refine keep _ 17 _ q _ 1 _ _ (by decide) (by decide) (Zs 1) (by decide) ?_;refine keep _ 8 _ 2 _ 2 _ _ (by decide) (by decide) (Zp 2) (by decide) ?_;refine keep _ 6 _ lk _ 1 _ _ (by decide) (by decide) Z7d (by decide) ?_;obtain⟨s4,hs4⟩:=Yx ((((s.sto 16 p).sto 17 q).sto 8 2).sto 6 lk);rw[<- hs4];have m4:∀a,s4.mem a=if a=6 then lk else if a=8 then 2 else if a=17 then q else if a=16 then p else s.mem a:=λ a=>by
  rw[hs4,Zet,Zet,Zet,Zet]
 have m4o:∀a,1312<=a->s4.mem a=s.mem a:=λ a ha=>by
  rw[m4,if_neg (by omega),if_neg (by omega),if_neg (by omega),if_neg (by omega)]
 have r4:s4.reg=s.reg:=by rw[hs4];rfl
 have i4:s4.inp=s.inp:=by rw[hs4];rfl
 have o4:s4.out=s.out:=by rw[hs4];rfl
 have num4:∀{v neg:Int} {ds:List Int},S.NumO I cf T s.mem v neg ds->S.NumO I cf T s4.mem v neg ds:=λ {v neg ds} h=>⟨h.1.same λ p e j hj=>by
  obtain⟨o,ho,_,e2⟩:=h.2 p e;have:=(hc.obs o ho).2.1;exact m4o _ (by omega),h.2⟩
 have hx4:=num4 hx;have hy4:=num4 hy;have obj4:∀o∈cf.O,∀(k:Nat)(w:Int),o.ws[k]?=some w->s4.mem (o.at_+(k:Int))=w:=λ o ho k w hw=>by
  rw[m4o _ (by have:=(hc.obs o ho).2.1;omega)];exact hr.obj o ho k w hw
 have wok:∀{v neg:Int} {ds:List Int},S.NumO I cf T s.mem v neg ds->S.WOk cf T v:=λ {v neg ds} h=>⟨h.1.vb.1,h.1.vb.2,λ h1=>by
  obtain⟨o,ho,hT,e2⟩:=h.2 (v/4) (by omega);exact .inl ⟨o,ho,hT,by omega⟩⟩
 have hlkm:s4.mem lk=0:=by rw[m4o _ lk1];exact hr.lk0
 have m46:s4.mem 6=lk:=by rw[m4,if_pos rfl]
 have hcol:∀sA:S.Vw,S.Sim s4 sA->S.dc I cf T 2 0 sA.mem:=λ sA hA=>by
  rw[hA.mem];refine⟨by rw[m4,if_neg (by decide),if_neg (by decide),if_neg (by decide),if_neg (by decide)];exact hr.m2,by rw[m4,if_neg (by decide),if_neg (by decide),if_neg (by decide),if_neg (by decide)];exact hr.m3,by rw[m4,if_neg (by decide),if_neg (by decide),if_neg (by decide),if_neg (by decide)];exact hr.m4,obj4,by rw[m4,if_neg (by decide),if_pos rfl];rfl,by decide,by rw[hr.code];decide,by rw[hr.code];exact hfr0,by rw[hr.code];exact hto0,λ x h1 h2=>by rw[hr.code] at h2;omega,.inr ⟨by rw[m46];omega,?_,?_⟩,?_,λ o ho hTo w hw=>?_⟩
  .rw[m46]
   refine⟨by omega,by decide,hlkm,λ j hj=>?_,.inr (by omega),λ j hj=>absurd hj (Nat.not_lt_zero _),λ j i hj=>absurd hj (Nat.not_lt_zero _)⟩;have:(j:Int)=0:=by omega
   rw[this,Int.add_zero];exact⟨lk2,lk3,⟨lk4,lk5,by omega,by omega⟩⟩
  .intro j hj
   rw[m46];omega
  .rintro x ((q|q) | q)
   .rcases q with rfl|⟨q1,q2⟩
    .rw[m4,if_neg (by decide),if_neg (by decide),if_neg (by decide),if_neg (by decide)]
     exact⟨hr.m5.2.1,hr.m5.2.2,λ h=>absurd h hr.m5.1⟩
    .have:x=16\/x=17:=by omega
     rcases this with rfl|rfl
     .rw[m4,if_neg (by decide),if_neg (by decide),if_neg (by decide),if_pos rfl]
      exact wok hx
     .rw[m4,if_neg (by decide),if_neg (by decide),if_pos rfl]
      exact wok hy
   .obtain⟨j,hj,_⟩:=q
    exact absurd hj (Nat.not_lt_zero _)
   .rw[hr.code] at q
    omega
  .obtain⟨⟨hwd,_⟩,_⟩:=hc.obs o ho
   exact⟨(hwd w hw).1,(hwd w hw).2,λ h=>absurd h (hr.plain o ho hTo w hw)⟩
 obtain⟨L,hL⟩:∃L:Int,L=x.length+y.length:=⟨_,rfl⟩
 have L0:0<=L/\L<=1000:=by omega
 refine Zo ((Zn (op:=1) (by decide) (Zd1 (Za (Zs 0) Zh) (by simp) (Za8 hN hx4.1) (by omega)) (Zd1 (Za (Zs 1) Zh) (by simp) (Za8 hN hy4.1) (by omega))).to_ (y:=L) (by rw[Zat];unfold S.u32m;omega) (Yb _)) (by decide) ?_
 show S.WS I dep lk behind _ [p,q,L] s4 _ _ _
 obtain⟨need,hneed⟩:∃n:Int,n=3*L+20:=⟨_,rfl⟩
 refine Z1p (d:=88) (xs:=[need]) (T:=λ o k=>∃sA,S.Sim s4 sA/\S.cm I cf T 2 0 (need+spare) sA o k) (Za ((Zn (op:=1) (by decide) (Zn (op:=1) (by decide) (Zs 2) (Zn (op:=10) (by decide) (Zs 2) (Zp 1))) (Zp 20)).to_ (y:=need) (by
  show S.alu 1 (S.alu 1 L (S.alu 10 L (1%4294967296))) (20%4294967296)=need
  rw[Z7c,Zat,Zat];unfold S.u32m;omega) (Yb _)) Zh) (by decide) (by simp) (λ st1 hs1=>?_) hdep λ o k hTk=>?_
 .have hA:S.Sim s4 (st1.args [need]):=hs1.args (by simp)
  have:=Zm9 hN.ok hc hM hS hF hC hR (st:=st1.args [need]) (cnt:=2) (n:=0) (hcol _ hA) (need:=need) (spare:=spare) (by rfl) (by rw[hA.mem,m4,if_neg (by decide),if_neg (by decide),if_neg (by decide),if_neg (by decide)];exact hr.m7) ⟨by omega,hr.sp.1,by have:=hr.sp.2;omega⟩ (by
   rw[hA.reg 26 (by decide),hA.reg 27 (by decide),r4,hr.r26,hr.r27];have:=hr.H0;have:=hr.H1;omega)
  exact this.mono λ _ o k h=>⟨_,hA,h⟩
 obtain⟨sA,hA,hRes⟩:=hTk;have mA:=hA.mem;have fin:∀(s5:S.Vw)(p' q' H':Int)(C5:Nat),s5.mem 16=p'->s5.mem 17=q'->s5.reg 26=H'->S.NumIn I s5.mem H' p' nv x->S.NumIn I s5.mem H' q' nu y->(∀a,H'<=a->a<H'+need->S.Dat I a)->1312<=H'->(∀v pp,(v=p'\/v=q')->v=4*pp+1->1312<=pp)->s5.inp=s.inp->s5.out=s.out->C5<=C+KR-40 ->
  S.WS I dep lk behind (S.sAs 0 (S.eW 16)::S.sAs 1 (S.eW 17)::S.sKeep 8 (S.eC 0)::S.sKeep 6 (S.eC 0)::rest) [p,q,L] s5 C5 Q R:=λ s5 p' q' H' C5 e16 e17 e26 n1 n2 hd h13 hlow hi ho hC5=>by
  have yW:∀(env:List Int)(n v:Int),0<=n->n<1056->s5.mem n=v->S.Yl I dep lk env s5 (S.eW n) v 3:=λ env n v h0 h1 hv=>(Zli (n:=0) (p:=n) (Zp n) (low n h0 h1).1 (Za7 (low n h0 h1).2)).to_ hv (Yb _)
  refine Zo (yW _ 16 p' (by decide) (by decide) e16) (by decide) ?_
  show S.WS I dep lk behind _ [p',q,L] s5 _ _ _
  refine Zo (yW _ 17 q' (by decide) (by decide) e17) (by decide) ?_
  show S.WS I dep lk behind _ [p',q',L] s5 _ _ _
  refine keep _ 8 _ 0 _ 2 _ _ (by decide) (by decide) (Zp 0) (by decide) ?_;refine keep _ 6 _ 0 _ 2 _ _ (by decide) (by decide) (Zp 0) (by decide) ?_;have m6:∀a,((s5.sto 8 0).sto 6 0).mem a=if a=6 then 0 else if a=8 then 0 else s5.mem a:=λ a=>by rw[Zet,Zet]
  refine(hret ((s5.sto 8 0).sto 6 0) p' q' H' L e26 ⟨n1.1.same λ pp e j hj=>?_,n1.2⟩ ⟨n2.1.same λ pp e j hj=>?_,n2.2⟩ (λ a h0 h1=>hd a h0 (by omega)) h13 ?_ ?_ hi ho).more (by omega)
  .have:=hlow p' pp (.inl rfl) e
   rw[m6,if_neg (by omega),if_neg (by omega)]
  .have:=hlow q' pp (.inr rfl) e
   rw[m6,if_neg (by omega),if_neg (by omega)]
  .rw[m6,if_pos rfl]
  .rw[m6,if_neg (by decide),if_pos rfl]
 rcases hRes with⟨w1,rfl,hk⟩|⟨w1,st',ρ,hcd,hcase,hk⟩
 .-- there is Zs9
  show S.WS I dep lk behind _ _ sA _ _ _
  rw[hA.reg 26 (by decide),hA.reg 27 (by decide),r4,hr.r26,hr.r27] at w1;have n1:=Zna hc hr hx;have n2:=Zna hc hr hy;have hsp:=hr.sp.1;have hH0:=hr.H0;have hlo:∀v pp,(v=p\/v=q)->v=4*pp+1->1312<=pp:=λ v pp h e=>by
   rcases h with rfl|rfl
   .obtain⟨o,ho,_,e2⟩:=hx.2 pp e
    have:=(hc.obs o ho).2.1;omega
   .obtain⟨o,ho,_,e2⟩:=hy.2 pp e
    have:=(hc.obs o ho).2.1;omega
  refine fin sA p q H _ (by rw[mA,m4,if_neg (by decide),if_neg (by decide),if_neg (by decide),if_pos rfl]) (by rw[mA,m4,if_neg (by decide),if_neg (by decide),if_pos rfl]) (by rw[hA.reg 26 (by decide),r4];exact hr.r26) ⟨by rw[mA];exact hx4.1,n1.2⟩ ⟨by rw[mA];exact hy4.1,n2.2⟩ (λ a h0 h1=>hc.frd a (by omega) (by omega)) (by omega) hlo (hA.inp.trans i4) (hA.out.trans o4) (by omega)
 .have htt:=hT ρ hcd.nd λ o ho=>⟨hcd.sub o ho,hcd.tin o ho⟩
  have t0:=Zy ρ;have hk':k+500<=KR:=by
   rw[hr.code] at hk;omega
  rcases hcase with⟨w2,rfl⟩|⟨w2,rfl⟩
  .show S.WS I dep lk behind _ _ st' _ _ _
   have xO:S.NumO I cf T sA.mem p nv x:=by rw[mA];exact hx4
   have yO:S.NumO I cf T sA.mem q nu y:=by rw[mA];exact hy4
   have objA:∀o∈cf.O,∀(k:Nat)(w:Int),o.ws[k]?=some w->sA.mem (o.at_+(k:Int))=w:=by rw[mA];exact obj4
   have X16:S.RX I sA.mem 2 0 16:=.inl (.inl (.inr ⟨by decide,by decide⟩));have X17:S.RX I sA.mem 2 0 17:=.inl (.inl (.inr ⟨by decide,by decide⟩));have n1:=Znb hc objA hr.plain hcd X16 (by rw[mA,m4,if_neg (by decide),if_neg (by decide),if_neg (by decide),if_pos rfl]) xO;have n2:=Znb hc objA hr.plain hcd X17 (by rw[mA,m4,if_neg (by decide),if_neg (by decide),if_pos rfl]) yO;have hsp:=hr.sp.1;have hmvlo:∀a pp v neg ds,S.RX I sA.mem 2 0 a->sA.mem a=v->S.NumO I cf T sA.mem v neg ds->st'.mem a=4*pp+1->1312<=pp:=λ a pp v neg ds hX ha h e=>by
    obtain⟨hmv,hcl⟩:=hcd.root a hX;rw[ha] at hmv hcl;rw[hmv] at e;by_cases c:v%4=1
    .obtain⟨o,ho,hTo,e2⟩:=h.2 (v/4) (by omega)
     have hv:v=4*o.at_+1:=by omega
     obtain⟨ν,hν⟩:=Zff (t:=cf.to_) (hcl o ho hv);obtain⟨_,n1,_⟩:=Zlk hc hcd.sub ho hν;unfold S.mv at e;rw[if_pos c,show v/4=o.at_ by omega,hν] at e;have e':4*ν+1=4*pp+1:=e;omega
    .unfold S.mv at e
     rw[if_neg c] at e;omega
   refine fin st' _ _ (cf.to_+S.tot ρ) _ rfl rfl hcd.r26 n1 n2 (λ a h0 h1=>hc.tod a (by omega) (by omega)) (by omega) (λ v pp h e=>?_) (hcd.inp.trans (hA.inp.trans i4)) (hcd.out.trans (hA.out.trans o4)) (by omega);rcases h with rfl|rfl
   .exact hmvlo 16 pp p nv x X16 (by rw[mA,m4,if_neg (by decide),if_neg (by decide),if_neg (by decide),if_pos rfl]) xO e
   .exact hmvlo 17 pp q nu y X17 (by rw[mA,m4,if_neg (by decide),if_neg (by decide),if_pos rfl]) yO e
  .intro c hc2
   exact hhalt st' c (by omega) (by omega)
end
end
section
namespace S
def MkR (I:Img)(st:Vw)(z:Int):Prop :=
 (-536870912<=z/\z<536870912/\st.reg 4=u32m (4*z)) \/
 ((z < -536870912\/536870912<=z)/\∃(H neg:Int)(ds:List Int),(neg=0\/neg=1)/\Digs ds/\0<ds.length/\ds.getD (ds.length-1) 0≠0/\signed neg (dval ds)=z/\st.reg 4=4*H+1/\st.reg 26=H+ds.length+2 /\
  st.mem H=32*(ds.length+1)+31/\st.mem (H+1)=4*neg/\(∀i:Nat,i<ds.length->st.mem (H+2+i)=4*ds.getD i 0)/\(∀j:Nat,j<ds.length+2->Dat I (H+j))/\1312<=H/\ds.length<=1000)
def PrmR (I:Img)(st:Vw)(z:Int)(short:Prop)(N:Nat)(o:BO)(k:Nat):Prop :=
 k<=N/\((∃st',o=.ret st'/\MkR I st' z/\st'.mem 6=0/\st'.mem 8=0/\st'.inp=st.inp/\st'.out=st.out)\/∃st',o=.halt 255 st'/\short)
end S
theorem Zyk {I:S.Img}{s:S.Vw}{H z:Int}{M N k:Nat}{o:S.BO}(h:S.ao I s H z M N o k)(hH:1312<=H):∃st',o=.ret st'/\S.MkR I (st'.set 4 (st'.reg 4)) z/\(∀a,a<1312->st'.mem a=s.mem a)/\st'.inp=s.inp/\st'.out=s.out/\k<=N:=by
 obtain⟨neg,val,hneg,hv,hz,s2,ds,⟨h26,hdg,hfew,hdat,hmem⟩,hdv,hm,hr,hi,ho,st',rfl,hk,hc⟩:=h;have e4:(st'.set 4 (st'.reg 4)).reg 4=st'.reg 4:=Zj _ _ _;rcases hc with⟨q1,q2,q3⟩|⟨q1,n,hT,q3,q4⟩
 .refine⟨st',rfl,.inl ⟨?_,?_,?_⟩,λ a ha=>?_,q3.inp.trans hi,q3.out.trans ho,hk⟩
  .rw[<- hz,<- hdv] at *
   have:=Zk hdg;unfold S.signed;rcases hneg with rfl|rfl
   .rw[if_pos rfl];omega
   .rw[if_neg (by decide)];omega
  .rw[<- hz,<- hdv] at *
   have:=Zk hdg;unfold S.signed;rcases hneg with rfl|rfl
   .rw[if_pos rfl];omega
   .rw[if_neg (by decide)];omega
  .rw[e4,q2,hdv,hz]
  .rw[q3.mem];exact hm a (by omega)
 .have hdt:=Zap hdg n
  have hl:(ds.take n).length=n:=by rw[List.length_take];have:=hT.1;omega
  have hn0:0<n:=by
   refine Y_c λ c=>?_
   have e0:n=0:=by omega
   have:=Zda hT;rw[e0] at this;have e1:S.dval (ds.take 0)=0:=rfl;omega
  have m2:∀a,st'.mem a=if a=H+1 then 4*neg else if a=H then 32*(n+1)+31 else s2.mem a:=λ a=>by
   rw[q4.mem];rfl
  refine⟨st',rfl,.inr ⟨?_,H,neg,ds.take n,hneg,hdt,by omega,?_,?_,e4.trans q3,?_,?_,?_,λ i hi=>?_,λ j hj=>hdat j (by have:=hT.1;omega),hH,by have:=hT.1;omega⟩,λ a ha=>?_,q4.inp.trans hi,q4.out.trans ho,hk⟩
  .rw[<- hz,<- hdv]
   unfold S.signed;rcases hneg with rfl|rfl
   .rw[if_pos rfl];omega
   .rw[if_neg (by decide)];omega
  .rw[hl,Zaq (by omega)]
   exact hT.2.2.resolve_left (by omega)
  .rw[<- Zda hT,hdv];exact hz
  .rw[hl]
   exact(Zg st' (d:=4) (j:=26) _ (by decide)).trans ((q4.reg 26 (by decide)).trans (Zj _ _ _))
  .rw[hl]
   show st'.mem H=_
   rw[m2,if_neg (by omega),if_pos rfl]
  .show st'.mem (H+1)=_
   rw[m2,if_pos rfl]
  .rw[hl] at hi
   rw[Zaq hi]
   show st'.mem (H+2+i)=_
   rw[m2,if_neg (by omega),if_neg (by omega)];exact hmem i (by have:=hT.1;omega)
  .rw[m2,if_neg (by omega),if_neg (by omega)]
   exact hm a (by omega)
section
variable {I:S.Img}(hN:S.NSegs I)
include hN
theorem Zlm {dep lk:Int}{s:S.Vw}{C:Nat}{Q:List Int->S.Vw->Nat->Prop}{R:S.BO->Nat->Prop}{behind:Bool}{p q e2 nv nu:Int}{x y:List Int}{l:List S.BS}(hdep:16<=dep)(hx:S.NumAt I s.mem p nv x)(hy:S.NumAt I s.mem q nu y)(h:S.WS I dep lk behind l [p,q,e2] s (C+300) Q R):S.WS I dep lk behind (S.bTypes++l) [p,q,e2] s C Q R:=by
 show S.WS I dep lk behind (S.sWhen (S.eNot (S.eF S.kNInt [S.eL 0])) [S.sHlt (S.eC 2)]::S.sWhen (S.eNot (S.eF S.kNInt [S.eL 1])) [S.sHlt (S.eC 2)]::l) [p,q,e2] s C Q R
 refine Zv (Zow (Zd1 (Za (Zs 0) Zh) (by simp) (Zn8 hN hx) hdep) (Zp 0)) (by decide) (λ _=>?_) (λ h=>absurd rfl h);refine Zv (Zow (Zd1 (Za (Zs 1) Zh) (by simp) (Zn8 hN hy) hdep) (Zp 0)) (by decide) (λ _=>?_) (λ h=>absurd rfl h);exact h.more (by omega)
end
def S.ac (neg:Int)(ds:List Int):Int:=S.signed neg (S.dval ds)
section
variable {I:S.Img}(hN:S.NSegs I)(hG:S.CSegs I){cf:S.Cf}(hc:S.Cf.Ok I cf){T:S.Ob->Prop}
include hN hG hc
theorem Zpr {lk:Int}{s:S.Vw}{C:Nat}{Q:List Int->S.Vw->Nat->Prop}{H spare p q e2 nv nu tT z:Int}{x y:List Int}{name:ByteArray}{l:List S.BE}{d:Int}{M N:Nat}(hr:S.Rdy I cf T H spare lk s)(hx:S.NumO I cf T s.mem p nv x)(hy:S.NumO I cf T s.mem q nu y)(hfew:x.length<=40/\y.length<=40)(hd:d<=88)
 (hT:∀ρ:List S.Ob,ρ.Nodup->(∀o∈ρ,o∈cf.O/\T o)->S.tot ρ<=tT) (htT:tT<=1000) (hC:C<=2000) (hNb:N<=1700000)
 (hl:∀s' p' q' L,∃xs K,S.Yls I 88 lk [p',q',L] s' l xs K/\xs.length<=4/\K<=20/\(∀H',s'.reg 26=H'->S.NumIn I s'.mem H' p' nv x->S.NumIn I s'.mem H' q' nu y->(∀a,H'<=a->a<H'+3*(x.length+y.length)+20->S.Dat I a)->∀st1,S.Sim s' st1->S.Real I name false (st1.args xs) d (λ _ o k=>S.ao I s' H' z M N o k)))
 (hdl:S.dEs l<=20) :
 S.WS I 88 lk true (S.bNRoom++[S.sVal (S.eF name l)]) [p,q,e2] s C Q (S.PrmR I s z (cf.hf<tT+(3*(x.length+y.length)+20)+spare) 2000000):=by
 have tT0:0<=tT:=hT [] Yc5 (λ o ho=>by cases ho);refine Z1t hN hG hc (by decide) hr hx hy (by omega) hT (KR:=171600) (by omega) (λ s' p' q' H' L h26 n1 n2 hdat h13 m6 m8 hi ho=>?_) (λ s' c hsh hc2=>⟨by omega,.inr ⟨s',rfl,hsh⟩⟩);obtain⟨xs,K,hy',hlen,hK,hreal⟩:=hl s' p' q' L;refine Zlj (T:=λ o k=>S.ao I s' H' z M N o k) hy' hdl hlen (hreal H' h26 n1 n2 hdat) hd λ o k hz=>?_
 obtain⟨st',rfl,hmk,hm,hi2,ho2,hk⟩:=Zyk hz h13;intro c hc2;exact⟨by omega,.inl ⟨_,rfl,hmk,(hm 6 (by decide)).trans m6,(hm 8 (by decide)).trans m8,hi2.trans hi,ho2.trans ho⟩⟩
theorem Znc {st:S.Vw}{ret k:Int}{i:Nat}(hk:k=0\/k=1)(hs:S.Seg I (S.rPAdd k).name i (S.bItems (S.rPAdd k))){H spare p q nv nu tT:Int}{x y:List Int}(h4:st.reg 4=p)(h5:st.reg 5=q)(hr:S.Rdy I cf T H spare ret st)(hx:S.NumO I cf T st.mem p nv x)(hy:S.NumO I cf T st.mem q nu y)(hfew:x.length<=40/\y.length<=40)
 (hT:∀ρ:List S.Ob,ρ.Nodup->(∀o∈ρ,o∈cf.O/\T o)->S.tot ρ<=tT) (htT:tT<=1000) :
 S.ah I (S.rPAdd k).name true st 106 ret (S.PrmR I st (if k=0 then S.ac nv x+S.ac nu y else S.ac nv x-S.ac nu y) (cf.hf<tT+(3*(x.length+y.length)+20)+spare) 2000000):=by
 have hz:∀(z:Int),z=S.signed nv (S.dval x)+S.signed (if k=0 then nu else 1-nu) (S.dval y)->z=(if k=0 then S.ac nv x+S.ac nu y else S.ac nv x-S.ac nu y):=λ z e=>by
  rw[e];unfold S.ac;rcases hk with rfl|rfl
  .rw[if_pos rfl,if_pos rfl]
  .rw[if_neg (by decide),if_neg (by decide)]
   unfold S.signed;rcases hy.1.sg with rfl|rfl
   .simp;omega
   .simp
 rw[<- hz _ rfl];refine Zgt hN.ok (S.rPAdd k) (by rcases hk with rfl|rfl <;> kernel_rfl) hs (dep:=88) (by decide) st ret (S.PrmR I st _ (cf.hf<tT+(3*(x.length+y.length)+20)+spare) 2000000) λ env hl hp=>?_
 obtain⟨e0,e1,e2,rfl⟩:=Zv6 hl;have h0:e0=p:=(hp 0 (show(0:Int)<2 by decide)).trans h4;have h1:e1=q:=(hp 1 (show(1:Int)<2 by decide)).trans h5;subst h0 h1;refine Zlm hN (by decide) hx.1 hy.1 ?_;refine Zpr hN hG hc hr hx hy hfew (d:=75) (M:=max x.length y.length+3) (N:=3000+2800*max x.length y.length) (by decide) hT htT (by decide) (by omega) (λ s' p' q' L=>⟨[p',q',k],4,Za (Zs 0) (Za (Zs 1) (Za ((Zp k).to_ (y:=k) (by omega) (Yb _)) Zh)),by simp,by decide,λ H' h26 n1 n2 hdat st1 hs1=>?_⟩) (show(3:Nat)<=20 by decide);exact Zwg hN n1 n2 hk h26 (λ j hj=>hdat _ (by omega) (by omega)) (by omega) st1 hs1
theorem Zuz {st:S.Vw}{ret:Int}{i:Nat}(hs:S.Seg I S.rPMul.name i (S.bItems S.rPMul)){H spare p q nv nu tT:Int}{x y:List Int}(h4:st.reg 4=p)(h5:st.reg 5=q)(hr:S.Rdy I cf T H spare ret st)(hx:S.NumO I cf T st.mem p nv x)(hy:S.NumO I cf T st.mem q nu y)(hfew:x.length<=40/\y.length<=40)
 (hT:∀ρ:List S.Ob,ρ.Nodup->(∀o∈ρ,o∈cf.O/\T o)->S.tot ρ<=tT) (htT:tT<=1000) :
 S.ah I S.rPMul.name true st 106 ret (S.PrmR I st (S.ac nv x*S.ac nu y) (cf.hf<tT+(3*(x.length+y.length)+20)+spare) 2000000):=by
 have hz:S.ac nv x*S.ac nu y=S.signed (if nv=nu then 0 else 1) (S.dval x*S.dval y):=by
  unfold S.ac S.signed;rcases hx.1.sg with rfl|rfl <;> rcases hy.1.sg with rfl|rfl <;> simp[Int.neg_mul,Int.mul_neg]
 rw[hz];refine Zgt hN.ok S.rPMul (by kernel_rfl) hs (dep:=88) (by decide) st ret (S.PrmR I st _ (cf.hf<tT+(3*(x.length+y.length)+20)+spare) 2000000) λ env hl hp=>?_
 obtain⟨e0,e1,e2,rfl⟩:=Zv6 hl;have h0:e0=p:=(hp 0 (show(0:Int)<2 by decide)).trans h4;have h1:e1=q:=(hp 1 (show(1:Int)<2 by decide)).trans h5;subst h0 h1;refine Zlm hN (by decide) hx.1 hy.1 ?_;have hmul:x.length*(800*y.length+900)<=40*(800*40+900):=Nat.mul_le_mul hfew.1 (by omega);refine Zpr hN hG hc hr hx hy hfew (d:=56) (M:=x.length+y.length+3) (N:=2000+200*(x.length+y.length)+x.length*(800*y.length+900)) (by decide) hT htT (by decide) (by omega) (λ s' p' q' L=>⟨[p',q'],2,Za (Zs 0) (Za (Zs 1) Zh),by simp,by decide,λ H' h26 n1 n2 hdat st1 hs1=>?_⟩) (by decide);refine(Zwi hN n1 n2 h26 (λ j hj=>hdat _ (by omega) (by omega)) (by omega) rfl st1 hs1).mono λ _ o k h=>⟨_,_,?_,?_,rfl,h⟩
 .split <;> omega
 .exact Int.mul_nonneg (Zk n1.1.dig) (Zk n2.1.dig)
theorem Znd {st:S.Vw}{ret k:Int}{i:Nat}(hk:k=0\/k=1)(hs:S.Seg I (S.rPQuo k).name i (S.bItems (S.rPQuo k))){H spare p q nv nu tT:Int}{x y:List Int}(h4:st.reg 4=p)(h5:st.reg 5=q)(hr:S.Rdy I cf T H spare ret st)(hx:S.NumO I cf T st.mem p nv x)(hy:S.NumO I cf T st.mem q nu y)(hfew:x.length<=40/\y.length<=40)(hq:q≠0)(hY:0<S.dval y)
 (hT:∀ρ:List S.Ob,ρ.Nodup->(∀o∈ρ,o∈cf.O/\T o)->S.tot ρ<=tT) (htT:tT<=1000) :
 S.ah I (S.rPQuo k).name true st 106 ret (S.PrmR I st (S.al k nv nu (S.dval x) (S.dval y)) (cf.hf<tT+(3*(x.length+y.length)+20)+spare) 2000000):=by
 refine Zgt hN.ok (S.rPQuo k) (by rcases hk with rfl|rfl <;> kernel_rfl) hs (dep:=88) (by decide) st ret (S.PrmR I st _ (cf.hf<tT+(3*(x.length+y.length)+20)+spare) 2000000) λ env hl hp=>?_
 obtain⟨e0,e1,e2,rfl⟩:=Zv6 hl;have h0:e0=p:=(hp 0 (show(0:Int)<2 by decide)).trans h4;have h1:e1=q:=(hp 1 (show(1:Int)<2 by decide)).trans h5;subst h0 h1;refine Zlm hN (by decide) hx.1 hy.1 ?_
 show S.WS I 88 ret true (S.sWhen (S.eNot (S.eL 1)) [S.sHlt (S.eC 4)]::(S.bNRoom++[S.sVal (S.eF S.kNDiv [S.eL 0,S.eL 1,S.eC k])])) [e0,e1,e2] st _ _ _
 refine Zv (x:=0) ((Zow (Zs 1) (Zp 0)).to_ (if_neg hq) (Yb _)) (by decide) (λ _=>?_) (λ h=>absurd rfl h);have hmul:(x.length+1)*(850+250*y.length)<=41*(850+250*40):=Nat.mul_le_mul (by omega) (by omega);refine Zpr hN hG hc hr hx hy hfew (d:=81) (M:=2*x.length+y.length+7) (N:=5000+3000*(x.length+y.length)+(x.length+1)*(850+250*y.length)) (by decide) hT htT (by decide) (by omega) (λ s' p' q' L=>⟨[p',q',k],4,Za (Zs 0) (Za (Zs 1) (Za ((Zp k).to_ (y:=k) (by omega) (Yb _)) Zh)),by simp,by decide,λ H' h26 n1 n2 hdat st1 hs1=>?_⟩) (show(3:Nat)<=20 by decide);exact Zwb hN n1 n2 hk h26 hY (λ a h0 h1=>hdat a h0 (by omega)) (by omega) (by omega) rfl st1 hs1
end
end
section
def S.df (st:S.Vw)(m:Int):S.Vw:={ st with mem:=λ a=>if a=8 then(if 6<m then 8 else m+1) else if a=6 then 0 else if a=16 then st.reg 1 else if a=23 then st.reg 10 else if 17<=a/\a<=22 then st.reg (a-13) else st.mem a }
section
variable {I:S.Img}(hI:I.Ok){cf:S.Cf}(hc:S.Cf.Ok I cf){T:S.Ob->Prop}
include hI hc
end
end
namespace S
def bSp (n:Int):Item:=⟨8,⟨0,0,0,0,0⟩,bNo,n⟩
def bHalt:Item:=bI 36 0 0 0 0
def nodupB:List ByteArray->Bool
 | []=>true
 | x::r=>!(r.any λ y=>decide (x=y)) && nodupB r
def subB (a b:List ByteArray):Bool:=a.all λ s=>b.any λ t=>decide (s=t)
end S
theorem Zln:∀{l:List ByteArray},S.nodupB l=true->l.Nodup
 | [],_=>Yc5
 | x::r,h=>by
  rw[S.nodupB,Bool.and_eq_true] at h;refine List.nodup_cons.2 ⟨λ hx=>?_,Zln h.2⟩;have:(r.any λ y=>decide (x=y))=true:=Ybx.2 ⟨x,hx,decide_eq_true rfl⟩;rw[this] at h;exact absurd h.1 (by decide)
theorem Zz1 {a b:List ByteArray}(h:S.subB a b=true):∀s∈a,s∈b:=λ s hs=>by
 obtain⟨t,ht,he⟩:=Ybx.1 (List.all_eq_true.1 h s hs);rw[of_decide_eq_true he];exact ht
theorem Zf1 (a b:List S.Obj):S.joined (a++b)=S.joined a++S.joined b:=List.flatMap_append
theorem Zne:∀{os:List S.Obj} {j:Nat} {o:S.Obj},os[j]?=some o->∃A B,S.joined os=A++(o.items.map (S.ownItem o.name)++B)
 | [],j,o,h=>by cases h
 | x::r,0,o,h=>by
  cases h
  exact⟨[],S.joined r,rfl⟩
 | x::r,j+1,o,h=>by
  obtain⟨A,B,e⟩:=Zne (os:=r) (j:=j) h;refine⟨S.itemsOf x++A,B,?_⟩
  show S.itemsOf x++S.joined r=_
  rw[e,List.append_assoc]
section
section
variable {I:S.Img}(hI:I.Ok){i:Nat}(h0:I.i0<=i)(h1:i<I.i1)
include hI h0 h1
theorem Z1u {V:S.Vw}{s:ByteArray}{w:Int}(hx:I.xs[i]?=some ⟨1,⟨36,0,0,0,0⟩,s,w⟩){m:S.Mach}(hm:S.On I m V (I.adr i)):S.Off I (m.steps_ 1) V (V.reg 0)/\(m.steps_ 1).place=I.adr i:=by
 obtain⟨hw,hg,hn⟩:=Zaa hI h0 h1 hx;have e1:=hm.reg 0 (by decide) (by decide) (by decide);have ha':m.act ⟨36,0,0,0,0⟩=({ m with state:=1,code:=V.reg 0 },m.place,0):=by
  unfold S.Mach.act;simp only[e1];rw[if_neg (by decide),if_neg (by decide),if_neg (by decide),if_neg (by decide),if_neg (by decide),if_neg (by decide),if_neg (by decide),if_neg (by decide),if_neg (by decide),if_neg (by decide)]
 obtain⟨hs,hp1⟩:=Z1 hI hm h0 h1 (j:=0) (y:=⟨36,0,0,0,0⟩) (by rw[hw];rfl) (by simp) hg (by rw[ha']);have hk:=Zo5 hm.ok (x:=⟨36,0,0,0,0⟩) (Int.le_refl _);rw[ha'] at hk;rw[Zc3,hs,ha'];have l1:=Zdw hI h0;have l2:=Zdw hI (i:=i+1) (j:=I.i1) h1;have hp:=hm.place;exact⟨⟨placed hk.1 hk.2,rfl,rfl,hm.len,hm.code,⟨by show I.adr I.i0<=m.place;omega,by show m.place<I.adr I.i1;omega⟩,hm.reg,hm.mem,hm.inp,hm.out⟩,hp⟩
end
structure S.b5 (I:S.Img)(m:S.Mach)(st:S.Vw):Prop where
 ok:m.Ok
 len:(m.mem.length:Int)=I.size
 code:I.In m.mem
 reg:∀j,S.visB j=true->m.rd j=st.reg j
 mem:∀a,0<=a->a<I.size->¬I.stk a->m.mv a=st.mem a
theorem Zu0 {j:Int}(h:S.visB j=true):0<=j/\j<=31/\j≠25:=by
 unfold S.visB at h;have:=of_decide_eq_true h;omega
theorem Zyl {I:S.Img}{m:S.Mach}{V st:S.Vw}{c:Int}(h:S.Off I m V c)(hm:S.Mt I V st):S.b5 I m st :=
 ⟨h.ok,h.len,h.code,λ j hj=>by
  obtain⟨h1,h2,h3⟩:=Zu0 hj;rw[h.reg j h1 h2 h3];exact hm.vis j hj,λ a h1 h2 h3=>by rw[h.mem a h1 h2];exact hm.mem a h1 h2 h3⟩
end
