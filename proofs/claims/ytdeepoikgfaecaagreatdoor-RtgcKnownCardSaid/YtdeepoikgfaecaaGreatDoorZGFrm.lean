/- Parts. -/
import Derived.Test.YtdeepoikgfaecaaGreatDoorZGSpec
set_option linter.all false
open List renaming getElem?_eq_some_iff->Ye,length_cons->Yl,mem_cons->Yu,cons_append->Yv,mem_cons_of_mem->Yw,mem_cons_self->Yy,not_mem_nil->Y3,mem_append->Y8,length_nil->Yat,append_nil->Ya0,mem_append_left->Yba,mem_append_right->Ybu,nodup_cons->Ybx
open Bool renaming and_eq_true->Yp,false_eq_true->Ybm
open Int renaming le_refl->Yar,toNat->Ycn,add_zero->Ycq,le_of_lt->Ydk,pow_pos->Ydw
namespace Go.Proofs.YtdeepoikgfaecaaGreatDoor
section
open Go.RowKit
namespace S
mutual
def pureE:BE->Bool
 | .mk op _ _ kids=>decide (op=1\/op=2\/op=3\/op=4\/op=5\/op=7\/op=9\/op=10) && pureEs kids
def pureEs:List BE->Bool
 | []=>true
 | e::r=>pureE e && pureEs r
end
def opV (I:Img)(lk:Int)(op n:Int)(name:ByteArray)(env vs:List Int)(st:Vw):Int :=
 if op=1 then n%4294967296 else if op=2 then env.getD n.toNat 0 else if op=3 then st.reg n else if op=4 then alu n (vs.getD 0 0) (vs.getD 1 0)
 else if op=5 then st.mem (u32m (vs.getD 0 0+n)) else if op=7 then (if vs.getD 0 0=vs.getD 1 0 then 1 else 0) else if op=9 then I.lab name else lk
def opOk (I:Img)(op n:Int)(vs:List Int):Prop :=
 if op=4 then (vs.getD 1 0=0->n≠5/\n≠6) else if op=5 then u32m (vs.getD 0 0+n)<I.size/\¬ I.stk (u32m (vs.getD 0 0+n)) else True
def opC (op:Int):Nat:=if op=1\/op=9 then 2 else if op=7 then 3 else 1
mutual
def evE (I:Img)(lk:Int)(env:List Int)(st:Vw):BE->Int
 | .mk op n name kids=>opV I lk op n name env (evEs I lk env st kids) st
def evEs (I:Img)(lk:Int)(env:List Int)(st:Vw):List BE->List Int
 | []=>[]
 | e::r=>evE I lk env st e::evEs I lk env st r
end
mutual
def okE (I:Img)(lk:Int)(env:List Int)(st:Vw):BE->Prop
 | .mk op n name kids=>okEs I lk env st kids/\opOk I op n (evEs I lk env st kids)
def okEs (I:Img)(lk:Int)(env:List Int)(st:Vw):List BE->Prop
 | []=>True
 | e::r=>okE I lk env st e/\okEs I lk env st r
end
mutual
def coE:BE->Nat
 | .mk op _ _ kids=>coEs kids+opC op
def coEs:List BE->Nat
 | []=>0
 | e::r=>coE e+coEs r
end
end S
section
variable {I:S.Img}{dep lk:Int}
mutual
theorem Za6:∀ {e:S.BE} {env:List Int} {at_:Nat} {st:S.Vw} {c:Nat} {Q H:Int->S.Vw->Nat->Prop},S.pureE e=true->S.okE I lk env st e->Q (S.evE I lk env st e) st (c+S.coE e)->S.wpE I dep lk env e at_ st c Q H
 | .mk op n name kids,env,at_,st,c,Q,H,hp,hok,hQ=>by
  simp only [S.pureE,Yp,decide_eq_true_eq] at hp;obtain ⟨hop,hpk⟩:=hp;rw [S.okE] at hok;rw [S.evE,S.coE] at hQ;rw [Zxb];refine Zhk hpk hok.1 ?_;have hok2:=hok.2;unfold S.opOk at hok2;unfold S.opV S.opC at hQ;unfold S.wpOp;rw [<- Nat.add_assoc] at hQ;rcases hop with rfl | rfl | rfl | rfl | rfl | rfl | rfl | rfl
  ·exact hQ
  ·exact hQ
  ·exact hQ
  ·exact ⟨hok2,hQ⟩
  ·exact ⟨hok2.1,hok2.2,hQ⟩
  ·exact hQ
  ·exact hQ
  ·exact hQ
theorem Zhk:∀ {l:List S.BE} {env:List Int} {at_:Nat} {st:S.Vw} {c:Nat} {Q:List Int->S.Vw->Nat->Prop} {H:Int->S.Vw->Nat->Prop},S.pureEs l=true->S.okEs I lk env st l->Q (S.evEs I lk env st l) st (c+S.coEs l)->S.wpEs I dep lk env l at_ st c Q H
 | [],env,at_,st,c,Q,H,_,_,hQ=>by
  rw [S.wpEs];exact hQ
 | e::r,env,at_,st,c,Q,H,hp,hok,hQ=>by
  simp only [S.pureEs,Yp] at hp;rw [S.okEs] at hok;rw [S.evEs,S.coEs] at hQ;rw [S.wpEs];refine Za6 hp.1 hok.1 (Zhk hp.2 hok.2 ?_);rw [Nat.add_assoc];exact hQ
end
section
variable {env:List Int}{st:S.Vw}
theorem Z1g (n:Int):S.evE I lk env st (S.eC n)=n%4294967296:=rfl
theorem Z1v (n:Int):S.evE I lk env st (S.eR n)=st.reg n:=rfl
theorem Z2o (a:S.BE)(n:Int):S.evE I lk env st (S.eM a n)=st.mem (S.u32m (S.evE I lk env st a+n)):=rfl
theorem Zbm (n:Int):S.okE I lk env st (S.eC n):=⟨trivial,trivial⟩
theorem Zcg (n:Int):S.okE I lk env st (S.eL n):=⟨trivial,trivial⟩
theorem Zus (n:Int):S.okE I lk env st (S.eR n):=⟨trivial,trivial⟩
theorem Z1w (s:ByteArray):S.okE I lk env st (S.eA s):=⟨trivial,trivial⟩
theorem Zdu {op:Int}{a b:S.BE}(ho:op≠5/\op≠6)(ha:S.okE I lk env st a)(hb:S.okE I lk env st b):S.okE I lk env st (S.eB op a b):=⟨⟨ha,hb,trivial⟩,fun _=>ho⟩
theorem Zyi {a b:S.BE}(ha:S.okE I lk env st a)(hb:S.okE I lk env st b):S.okE I lk env st (S.eQ a b):=⟨⟨ha,hb,trivial⟩,trivial⟩
theorem Zyj {a:S.BE}{n:Int}(ha:S.okE I lk env st a)(h:S.u32m (S.evE I lk env st a+n)<I.size/\¬ I.stk (S.u32m (S.evE I lk env st a+n))):S.okE I lk env st (S.eM a n):=⟨⟨ha,trivial⟩,h⟩
end
section
variable {behind:Bool}{env:List Int}{st:S.Vw}{c:Nat}{Q:List Int->S.Vw->Nat->Prop}{R:S.BO->Nat->Prop}
theorem Zd4 {n:Int}{e:S.BE}{r:List S.BS}(hp:S.pureE e=true)(hok:S.okE I lk env st e)(h:S.wpSs I dep lk behind r (env.set n.toNat (S.evE I lk env st e)) st (c+S.coE e+1) Q R):S.wpSs I dep lk behind (S.sAs n e::r) env st c Q R:=by
 rw [Zeo,Z0h];exact Za6 hp hok h
theorem Zff {n:Int}{e:S.BE}{r:List S.BS}(hp:S.pureE e=true)(hok:S.okE I lk env st e)(h:S.wpSs I dep lk behind r env (st.set n (S.evE I lk env st e)) (c+S.coE e+1) Q R):S.wpSs I dep lk behind (S.sSet n e::r) env st c Q R:=by
 rw [Zeo,Zyt];exact Za6 hp hok h
theorem Zcz {a e:S.BE}{n:Int}{r:List S.BS}(hpa:S.pureE a=true)(hoka:S.okE I lk env st a)(hp:S.pureE e=true)(hok:S.okE I lk env st e){p:Int}(hpe:S.u32m (S.evE I lk env st a+n)=p)
 (h1:p<I.size/\¬ I.stk p/\¬ I.code p) (h:S.wpSs I dep lk behind r env (st.sto p (S.evE I lk env st e)) (c+S.coE a+S.coE e+1) Q R):S.wpSs I dep lk behind (S.sPut a n e::r) env st c Q R:=by
 subst hpe;rw [Zeo,Zth];exact Za6 hpa hoka (Za6 hp hok ⟨h1.1,h1.2.1,h1.2.2,h⟩)
theorem Zn6 {e:S.BE}{b l r:List S.BS}(hp:S.pureE e=true)(hok:S.okE I lk env st e)(h0:S.evE I lk env st e=0->S.wpSs I dep lk behind l env st (c+S.coE e+4) (fun env st c=>S.wpSs I dep lk behind r env st c Q R) R)
 (h1:S.evE I lk env st e≠0->S.wpSs I dep lk behind b env st (c+S.coE e+4) (fun env st c=>S.wpSs I dep lk behind r env st (c+3) Q R) R):S.wpSs I dep lk behind (S.sIf e b l::r) env st c Q R:=by
 rw [Zeo,Z0i];refine Za6 hp hok ?_
 split
 ·rename_i h;exact h0 h
 ·rename_i h;exact h1 h
theorem Zqj {e:S.BE}{b r:List S.BS}(hp:S.pureE e=true)(J:List Int->S.Vw->Nat->Nat->Prop){k0:Nat}(h0:J env st c k0)
 (hJ:∀ env st c k,J env st c k->S.okE I lk env st e/\(S.evE I lk env st e=0->S.wpSs I dep lk behind r env st (c+S.coE e+4) Q R) /\
  (S.evE I lk env st e≠0->S.wpSs I dep lk behind b env st (c+S.coE e+4) (fun Zk3 st2 c2=>∃ k2,k2<k/\J Zk3 st2 (c2+3) k2) R)):S.wpSs I dep lk behind (S.sWh e b::r) env st c Q R:=by
 rw [Zeo,Z0j];refine ⟨J,⟨k0,h0⟩,fun env st c k h=>?_⟩;obtain ⟨h1,h2,h3⟩:=hJ env st c k h;refine Za6 hp h1 ?_
 split
 ·rename_i h;exact h2 h
 ·rename_i h;exact h3 h
theorem Zl5 {e:S.BE}{r:List S.BS}(hp:S.pureE e=true)(hok:S.okE I lk env st e)(h:R (.ret (st.set 4 (S.evE I lk env st e))) (c+S.coE e+1+(if behind=true then 5 else 3))):S.wpSs I dep lk behind (S.sVal e::r) env st c Q R:=by
 rw [Zeo,S.sVal,Z0k];exact Za6 hp hok h
theorem Zz7 {e:S.BE}{r:List S.BS}(hp:S.pureE e=true)(hok:S.okE I lk env st e)(h:R (.halt (S.evE I lk env st e) st) (c+S.coE e+1)):S.wpSs I dep lk behind (S.sHlt e::r) env st c Q R:=by
 rw [Zeo,Zys];exact Za6 hp hok h
theorem Zbo (h:Q env st c):S.wpSs I dep lk behind [] env st c Q R:=by
 rw [Z0g];exact h
theorem Zz8 {name:ByteArray}{l:List S.BE}{r:List S.BS}(hp:S.pureEs l=true)(hok:S.okEs I lk env st l){d:Int}{T:Int->S.BO->Nat->Prop}(hreal:S.Real I name false (st.args (S.evEs I lk env st l)) d T)(hd:d<=dep)
 (h:∀ ret o k,T ret o k->(match o with
  | .ret st2=>S.wpSs I dep lk behind r env st2 (c+S.coEs l+2*0+(S.evEs I lk env st l).length+4+k) Q R
  | .halt code st2=>R (.halt code st2) (c+S.coEs l+2*0+(S.evEs I lk env st l).length+4+k)
  | .left _ _=>False)):S.wpSs I dep lk behind (S.sDo (S.eF name l)::r) env st c Q R:=by
 rw [Zeo,Z0l,Z0d];refine Zhk hp hok ⟨d,T,hreal,hd,fun ret o k hT=>?_⟩;have:=h ret o k hT
 cases o <;> exact this
end
end
theorem Zo9 {x:Int}(i:Nat)(m:Int)(hm:m=2^i-1)(hi:i<=32)(h0:0<=x)(h1:x<4294967296):S.alu 7 x m=x%(m+1):=by
 show bits .and .u32 x m=_
 exact Zy i x (m+1) m (by omega) (by omega) hi h0 h1
theorem Z1x {x:Int}(h0:0<=x)(h1:x<4294967296):S.alu 7 x (3%4294967296)=x%4:=Zo9 2 3 (by decide) (by decide) h0 h1
theorem Z2p {x:Int}(h0:0<=x)(h1:x<4294967296):S.alu 7 x (1%4294967296)=x%2:=Zo9 1 1 (by decide) (by decide) h0 h1
theorem Z2q (x:Int):S.alu 11 x (2%4294967296)=x/4:=rfl
theorem Z2r (x:Int):S.alu 11 x (5%4294967296)=x/32:=rfl
theorem Z2b (x:Int):S.alu 11 x (1%4294967296)=x/2:=rfl
theorem Z2c (x:Int):S.alu 10 x (2%4294967296)=S.u32m (x*4):=rfl
theorem Zn7 (x y:Int):S.alu 1 x y=S.u32m (x+y):=rfl
theorem Z2d (x y:Int):S.alu 2 x y=S.u32m (x-y):=rfl
theorem Zn8 (x y:Int):S.alu 14 x y=if x<y then 1 else 0:=by
 show S.truth (x<y)=_
 unfold S.truth
 split <;> simp_all
theorem or1 {x:Int}(h0:0<=x)(h1:x<4294967296)(h:x%4=0):S.alu 8 x (1%4294967296)=x+1:=by
 show bits .or .u32 x 1=_
 exact Z3 2 x 1 4 (by decide) h0 h h1 (by decide) (by decide) (by decide)
end
section
open Go.RowKit
namespace S
structure Ob where
 at_:Int
 ws:List Int
def tot:List Ob->Int
 | []=>0
 | o::r=>o.ws.length+tot r
def nw (t:Int):List Ob->Int->Option Int
 | [],_=>none
 | o::r,a=>if o.at_=a then some t else nw (t+o.ws.length) r a
def mv (t:Int)(ρ:List Ob)(w:Int):Int:=if w%4=1 then (match nw t ρ (w/4) with | some ν=>4*ν+1 | none=>w) else w
def Dat (I:Img)(a:Int):Prop:=0<=a/\a<I.size/\¬ I.stk a/\¬ I.code a
structure Cf where
 O:List Ob
 fr:Int
 to_:Int
 hf:Int
structure ObOk (o:Ob):Prop where
 word:∀ w∈o.ws,0<=w/\w<4294967296
 head:∃ h r,o.ws=h::r/\h%4=3/\h/32=r.length
structure Cf.Ok (I:Img)(cf:Cf):Prop where
 frd:∀ a,cf.fr<=a->a<cf.fr+cf.hf->Dat I a
 tod:∀ a,cf.to_<=a->a<cf.to_+cf.hf->Dat I a
 apart:cf.fr+cf.hf<=cf.to_\/cf.to_+cf.hf<=cf.fr
 fr0:1312<=cf.fr
 to0:1312<=cf.to_
 hf0:0<=cf.hf
 frz:cf.fr+cf.hf<=335544320
 toz:cf.to_+cf.hf<=335544320
 low:∀ a,0<=a->a<1056->Dat I a
 obs:∀ o∈cf.O,ObOk o/\cf.fr<=o.at_/\o.at_+o.ws.length<=cf.fr+cf.hf
 dis:∀ o∈cf.O,∀ o'∈cf.O,o≠o'->o.at_+o.ws.length<=o'.at_\/o'.at_+o'.ws.length<=o.at_
 nd:cf.O.Nodup
 sum:tot cf.O<=cf.hf
structure Ch (cf:Cf)(ρ:List Ob)(st:Vw):Prop where
 sub:∀ o∈ρ,o∈cf.O
 nd:ρ.Nodup
 r29:st.reg 29=cf.to_+tot ρ
 m2:st.mem 2=cf.fr
 m4:st.mem 4=cf.hf
 unc:∀ o∈cf.O,o ∉ ρ->∀ (k:Nat) (w:Int),o.ws[k]?=some w->st.mem (o.at_+(k:Int))=w
 cop:∀ o∈ρ,∀ ν,nw cf.to_ ρ o.at_=some ν->st.mem o.at_=4*ν+1
def WOk (cf:Cf)(T:Ob->Prop)(w:Int):Prop:=0<=w/\w<4294967296/\(w%4=1->(∃ o∈cf.O,T o/\w=4*o.at_+1)\/w/4<cf.fr\/cf.fr+cf.hf<=w/4)
def Cl (cf:Cf)(ρ:List Ob)(w:Int):Prop:=∀ o∈cf.O,w=4*o.at_+1->o∈ρ
structure Tr (cf:Cf)(T:Ob->Prop)(ρ:List Ob)(st:Vw)(ρ':List Ob)(st':Vw):Prop where
 ext:∃ δ,ρ'=ρ++δ/\∀ o∈δ,T o
 ch:Ch cf ρ' st'
 reg:∀ j,j≠4->j≠5->j≠29->st'.reg j=st.reg j
 mem:∀ a,¬ (cf.fr<=a/\a<cf.fr+cf.hf)->¬ (cf.to_+tot ρ<=a/\a<cf.to_+tot ρ')->st'.mem a=st.mem a
 new:∀ o∈ρ',o ∉ ρ->∀ ν,nw cf.to_ ρ' o.at_=some ν->∀ (k:Nat) (w:Int),o.ws[k]?=some w->st'.mem (ν+(k:Int))=w
 inp:st'.inp=st.inp
 out:st'.out=st.out
end S
theorem Za2 (a b:List S.Ob):S.tot (a++b)=S.tot a+S.tot b:=by
 induction a with
 | nil=>simp [S.tot]
 | cons o r ih=>rw [Yv,S.tot,S.tot,ih];omega
theorem Zt:∀ l:List S.Ob,0<=S.tot l
 | []=>by simp [S.tot]
 | o::r=>by have:=Zt r;rw [S.tot];omega
theorem Zbj:∀ (ρ O:List S.Ob),ρ.Nodup->(∀ o∈ρ,o∈O)->S.tot ρ<=S.tot O
 | [],O,_,_=>by rw [S.tot];exact Zt O
 | o::r,O,hn,hs=>by
  obtain ⟨A,B,rfl⟩:=List.append_of_mem (hs o Yy);obtain ⟨h1,h2⟩:=Ybx.1 hn;have:=Zbj r (A++B) h2 fun x hx=>by
   have hm:=hs x (Yw _ hx);rw [Y8,Yu] at hm;rcases hm with hm | rfl | hm
   ·exact Yba _ hm
   ·exact absurd hx h1
   ·exact Ybu _ hm
  rw [S.tot,Za2,S.tot];rw [Za2] at this;omega
theorem Zvw {ρ O:List S.Ob}{o:S.Ob}(hn:ρ.Nodup)(hs:∀ o∈ρ,o∈O)(ho:o∈O)(hno:o ∉ ρ):S.tot ρ+o.ws.length<=S.tot O:=by
 have:=Zbj (o::ρ) O (Ybx.2 ⟨hno,hn⟩) fun x hx=>by
  rcases Yu.1 hx with rfl | hx
  ·exact ho
  ·exact hs x hx
 rw [S.tot] at this;omega
theorem Zd5 {t:Int}{a:Int}:∀ {ρ:List S.Ob} {ν:Int} (δ:List S.Ob),S.nw t ρ a=some ν->S.nw t (ρ++δ) a=some ν
 | [],ν,δ,h=>by simp [S.nw] at h
 | o::r,ν,δ,h=>by
  rw [Yv,S.nw];rw [S.nw] at h
  split
  ·rename_i c;rw [if_pos c] at h;exact h
  ·rename_i c;rw [if_neg c] at h;exact Zd5 δ h
theorem Zsx {t a:Int}:∀ {ρ:List S.Ob},S.nw t ρ a=none->∀ o∈ρ,o.at_≠a
 | [],_,o,ho=>by cases ho
 | x::r,h,o,ho=>by
  rw [S.nw] at h
  split at h
  ·cases h
  ·rename_i c
   rcases Yu.1 ho with rfl | ho
   ·exact c
   ·exact Zsx h o ho
theorem Zsy {t a:Int}:∀ {ρ:List S.Ob} {o:S.Ob},(∀ x∈ρ,x.at_≠a)->o.at_=a->S.nw t (ρ++[o]) a=some (t+S.tot ρ)
 | [],o,_,ho=>by rw [List.nil_append,S.nw,if_pos ho,S.tot,Ycq]
 | x::r,o,h,ho=>by
  rw [Yv,S.nw,if_neg (h x Yy),Zsy (fun y hy=>h y (Yw _ hy)) ho,S.tot]
  congr 1
  omega
theorem Zdk {a:Int}:∀ {ρ:List S.Ob} {t ν:Int},S.nw t ρ a=some ν->∃ o∈ρ,o.at_=a/\t<=ν/\ν+o.ws.length<=t+S.tot ρ
 | [],t,ν,h=>by simp [S.nw] at h
 | x::r,t,ν,h=>by
  rw [S.nw] at h;have hr:=Zt r
  split at h
  ·rename_i c
   cases h
   exact ⟨x,Yy,c,Yar _,by rw [S.tot];omega⟩
  ·obtain ⟨o,ho,h1,h2,h3⟩:=Zdk h
   exact ⟨o,Yw _ ho,h1,by omega,by rw [S.tot];omega⟩
theorem Zfw {t:Int}{ρ:List S.Ob}{o:S.Ob}(h:o∈ρ):∃ ν,S.nw t ρ o.at_=some ν:=by
 cases hq:S.nw t ρ o.at_ with
 | some ν=>exact ⟨ν,rfl⟩
 | none=>exact absurd rfl (Zsx hq o h)
section
variable {I:S.Img}{cf:S.Cf}(hc:S.Cf.Ok I cf)
include hc
theorem Zf7 {o:S.Ob}(ho:o∈cf.O):1<=o.ws.length:=by
 obtain ⟨h,r,e,_⟩:=(hc.obs o ho).1.head;rw [e];simp
theorem Zqk {o o':S.Ob}(ho:o∈cf.O)(ho':o'∈cf.O)(h:o.at_=o'.at_):o=o':=by
 refine Classical.byContradiction fun hne=>?_
 have h1:=Zf7 hc ho;have h2:=Zf7 hc ho';rcases hc.dis o ho o' ho' hne with h3 | h3 <;> omega
theorem Zl6 {t:Int}{ρ:List S.Ob}(hs:∀ o∈ρ,o∈cf.O){o:S.Ob}(ho:o∈cf.O){ν:Int}(h:S.nw t ρ o.at_=some ν):o∈ρ/\t<=ν/\ν+o.ws.length<=t+S.tot ρ:=by
 obtain ⟨x,hx,e,h1,h2⟩:=Zdk h;have:=Zqk hc (hs x hx) ho e;subst this;exact ⟨hx,h1,h2⟩
theorem S.Tr.sub {T:S.Ob->Prop}{ρ ρ':List S.Ob}{st st':S.Vw}(h:S.Tr cf T ρ st ρ' st'){o:S.Ob}(ho:o∈ρ):o∈ρ':=by
 obtain ⟨δ,e,_⟩:=h.ext;rw [e];exact Yba _ ho
end
end
section
open Go.RowKit
theorem Zsz:S.chkB S.rMove=0:=by kernel_rfl
theorem Z2s {env:List Int}(h:(env.length:Int)=4):∃ a b c d,env=[a,b,c,d]:=by
 match env,h with
 | [a,b,c,d],_=>exact ⟨a,b,c,d,rfl⟩
 | [],h=>simp at h
 | [_],h=>simp at h
 | [_,_],h=>simp at h
 | [_,_,_],h=>simp at h
 | _::_::_::_::_::_,h=>simp at h;omega
def S.bt (cf:S.Cf)(T:S.Ob->Prop)(ρ:List S.Ob)(st:S.Vw)(w:Int)(o:S.BO)(k:Nat):Prop :=
 ∃ st' ρ',o=.ret st'/\S.Tr cf T ρ st ρ' st'/\st'.reg 4=S.mv cf.to_ ρ' w/\S.Cl cf ρ' w/\(k:Int)<=100+40*(S.tot ρ'-S.tot ρ)
theorem Zl7 {I:S.Img}{a:Int}(h:S.Dat I a):a<I.size/\¬ I.stk a:=⟨h.2.1,h.2.2.1⟩
section
variable {I:S.Img}(hI:I.Ok){cf:S.Cf}(hc:S.Cf.Ok I cf){T:S.Ob->Prop}
include hI hc
theorem Zyk {ρ:List S.Ob}{st:S.Vw}(h:S.Ch cf ρ st)(v:Int):S.Ch cf ρ (st.set 4 v):=⟨h.sub,h.nd,h.r29,h.m2,h.m4,h.unc,h.cop⟩
theorem Zyl {ρ:List S.Ob}{st:S.Vw}(h:S.Ch cf ρ st)(v:Int):S.Tr cf T ρ st ρ (st.set 4 v) :=
 ⟨⟨[],(Ya0 _).symm,fun o ho=>by cases ho⟩,Zyk hI hc h v,fun j h4 _ _=>by show (if j=4 then v else st.reg j)=_;rw [if_neg h4],fun _ _ _=>rfl,fun o ho hno=>absurd ho hno,rfl,rfl⟩
theorem Zut {lk:Int}{env:List Int}{st:S.Vw}{n:Int}(h0:0<=n)(h1:n<1056):S.okE I lk env st (S.eW n)/\S.evE I lk env st (S.eW n)=st.mem n:=by
 have e:S.u32m (n%4294967296+0)=n:=by unfold S.u32m;omega
 refine ⟨Zyj (Zbm n) ?_,?_⟩
 ·rw [Z1g,e];exact Zl7 (hc.low n h0 h1)
 ·show st.mem (S.u32m (S.evE I lk env st (S.eC n)+0))=_
  rw [Z1g,e]
structure Z2t (cf:S.Cf)(st:S.Vw)(f:Int)(ws:List Int)(i:Nat)(st':S.Vw):Prop where
 reg:st'.reg=st.reg
 inp:st'.inp=st.inp
 out:st'.out=st.out
 mem:∀ a,¬ (f<=a/\a<f+i)->st'.mem a=st.mem a
 new:∀ (j:Nat) (w:Int),j<i->ws[j]?=some w->st'.mem (f+(j:Int))=w
theorem Zs0 {i:Nat}(hs:S.Seg I S.kMove i (S.bItems S.rMove)){ρ:List S.Ob}{st:S.Vw}(hch:S.Ch cf ρ st){w:Int}(hw:st.reg 4=w)(hok:S.WOk cf T w) :
 S.Real I S.kMove false st 19 (fun _ o k=>S.bt cf T ρ st w o k):=by
 refine Zew hI S.rMove Zsz hs (dep:=0) (Yar _) st _ fun lk env _ _ hl hp=>?_
 obtain ⟨e0,e1,e2,e3,rfl⟩:=Z2s hl;have h0:e0=st.reg 4:=hp 0 (show (0:Int)<1 by decide);rw [hw] at h0;subst h0;obtain ⟨w0,w1,hwp⟩:=hok;have nop:∀ (v:Int) (c:Nat),v=S.mv cf.to_ ρ e0->S.Cl cf ρ e0->c<=100->S.bt cf T ρ st e0 (.ret (st.set 4 v)) c:=fun v c hv hcl hcc =>
  ⟨_,ρ,rfl,Zyl hI hc hch v,by rw [<- hv];exact Zj _ _ _,hcl,by omega⟩
 have hand:S.evE I lk [e0,e1,e2,e3] st (S.eAnd (S.eL 0) (S.eC 3))=e0%4:=by
  show S.alu 7 e0 (3%4294967296)=_
  exact Z1x w0 w1
 have okand:∀ env,S.okE I lk env st (S.isRef (S.eL 0)):=fun env=>Zyi (Zdu (by decide) (Zcg 0) (Zbm 3)) (Zbm 1)
 have href:S.evE I lk [e0,e1,e2,e3] st (S.isRef (S.eL 0))=if e0%4=1 then 1 else 0:=by
  show (if S.evE I lk [e0,e1,e2,e3] st (S.eAnd (S.eL 0) (S.eC 3))=_ then (1:Int) else 0)=_
  rw [hand];rfl
 unfold S.rMove;simp only;refine Zn6 rfl (Zyi (okand _) (Zbm 0)) (fun hz=>?_) (fun hnz=>?_)
 rotate_left
 ·-- no pointer
  have hnp:¬ e0%4=1:=fun hp=>hnz (by
   show (if S.evE I lk [e0,e1,e2,e3] st (S.isRef (S.eL 0))=(0:Int)%4294967296 then (1:Int) else 0)=0
   rw [href,if_pos hp];rfl)
  refine Zl5 rfl (Zcg 0) (nop _ _ ?_ ?_ (by decide))
  ·show e0=S.mv cf.to_ ρ e0
   unfold S.mv;rw [if_neg hnp]
  ·intro o ho he
   omega
 have hp:e0%4=1:=Classical.byContradiction fun hnp=>by
  have:S.evE I lk [e0,e1,e2,e3] st (S.eNot (S.isRef (S.eL 0)))=1:=by
   show (if S.evE I lk [e0,e1,e2,e3] st (S.isRef (S.eL 0))=(0:Int)%4294967296 then (1:Int) else 0)=1
   rw [href,if_neg hnp];rfl
  rw [hz] at this
  cases this
 refine Zbo ?_;refine Zd4 rfl (Zdu (by decide) (Zcg 0) (Zbm 2)) ?_;have ea:S.evE I lk [e0,e1,e2,e3] st (S.eAdr (S.eL 0))=e0/4:=by show S.alu 11 e0 (2%4294967296)=_;exact Z2q _
 rw [ea]
 show S.wpSs I 0 lk false _ [e0,e0/4,e2,e3] st _ _ _
 obtain ⟨a,ha⟩:=Yx (e0/4);rw [<- ha];rw [<- ha] at hwp;have a0:0<=a/\a<1073741824:=by omega
 have he0:e0=4*a+1:=by omega
 obtain ⟨okW2,evW2⟩:=Zut hI hc (lk:=lk) (env:=[e0,a,e2,e3]) (st:=st) (n:=2) (by decide) (by decide);obtain ⟨okW4,evW4⟩:=Zut hI hc (lk:=lk) (env:=[e0,a,e2,e3]) (st:=st) (n:=4) (by decide) (by decide);rw [hch.m2] at evW2;rw [hch.m4] at evW4;have hfr0:=hc.fr0;have hhf0:=hc.hf0;have hfrz:=hc.frz;have eout:S.evE I lk [e0,a,e2,e3] st (S.eLt (S.eSub (S.eL 1) (S.eW 2)) (S.eW 4))=if S.u32m (a-cf.fr)<cf.hf then 1 else 0:=by
  show S.alu 14 (S.alu 2 a (S.evE I lk [e0,a,e2,e3] st (S.eW 2))) (S.evE I lk [e0,a,e2,e3] st (S.eW 4))=_
  rw [evW2,evW4,Zn8,Z2d]
 have hin:S.u32m (a-cf.fr)<cf.hf↔cf.fr<=a/\a<cf.fr+cf.hf:=by
  unfold S.u32m
  constructor
  ·intro h;omega
  ·intro h;omega
 refine Zn6 rfl (Zyi (Zdu (by decide) (Zdu (by decide) (Zcg 1) okW2) okW4) (Zbm 0)) (fun hz2=>?_) (fun hnz2=>?_)
 rotate_left
 ·-- elsewhere
  have hno:¬ (cf.fr<=a/\a<cf.fr+cf.hf):=fun hq=>hnz2 (by
   show (if S.evE I lk [e0,a,e2,e3] st (S.eLt (S.eSub (S.eL 1) (S.eW 2)) (S.eW 4))=(0:Int)%4294967296 then (1:Int) else 0)=0
   rw [eout,if_pos (hin.2 hq)];rfl)
  have hnone:S.nw cf.to_ ρ a=none:=by
   cases hq:S.nw cf.to_ ρ a with
   | none=>rfl
   | some ν =>
    exfalso
    obtain ⟨o,ho,eo,_⟩:=Zdk hq;have:=hc.obs o (hch.sub o ho);have hl:=Zf7 hc (hch.sub o ho);omega
  refine Zl5 rfl (Zcg 0) (nop _ _ ?_ ?_ (by decide))
  ·show e0=S.mv cf.to_ ρ e0
   unfold S.mv;rw [if_pos hp,<- ha,hnone]
  ·intro o ho he
   have:=hc.obs o ho;have hl:=Zf7 hc ho;omega
 have hat:cf.fr<=a/\a<cf.fr+cf.hf:=Classical.byContradiction fun hq=>by
  have:S.evE I lk [e0,a,e2,e3] st (S.eNot (S.eLt (S.eSub (S.eL 1) (S.eW 2)) (S.eW 4)))=1:=by
   show (if S.evE I lk [e0,a,e2,e3] st (S.eLt (S.eSub (S.eL 1) (S.eW 2)) (S.eW 4))=(0:Int)%4294967296 then (1:Int) else 0)=1
   rw [eout,if_neg (fun h=>hq (hin.1 h))];rfl
  rw [hz2] at this
  cases this
 refine Zbo ?_;obtain ⟨ob,hob,hT,hobe⟩:∃ o∈cf.O,T o/\e0=4*o.at_+1:=by
  rcases hwp hp with h | h | h
  ·exact h
  ·omega
  ·omega
 have haob:a=ob.at_:=by omega
 subst haob;obtain ⟨hobok,hob1,hob2⟩:=hc.obs ob hob;obtain ⟨hd,ws,hws,hd3,hdl⟩:=hobok.head;have hlen:(ob.ws.length:Int)=hd/32+1:=by rw [hws,hdl];simp
 have hdb:=hobok.word hd (by rw [hws];exact Yy);have hw0:ob.ws[0]?=some hd:=by rw [hws];rfl
 have u1:S.u32m (ob.at_+0)=ob.at_:=by unfold S.u32m;omega
 have datA:S.Dat I ob.at_:=hc.frd _ hat.1 hat.2;have okm:∀ (env:List Int) (st:S.Vw),S.evE I lk env st (S.eL 1)=ob.at_->S.okE I lk env st (S.eM (S.eL 1) 0):=fun env st he=>Zyj (Zcg 1) (by rw [he,u1];exact Zl7 datA)
 refine Zd4 rfl (okm _ _ rfl) ?_;have em:S.evE I lk [e0,ob.at_,e2,e3] st (S.eM (S.eL 1) 0)=st.mem ob.at_:=by
  show st.mem (S.u32m (ob.at_+0))=_
  rw [u1]
 rw [em]
 show S.wpSs I 0 lk false _ [e0,ob.at_,st.mem ob.at_,e3] st _ _ _
 by_cases hmem:ob∈ρ
 ·-- it has been copied
  obtain ⟨ν,hν⟩:=Zfw (t:=cf.to_) hmem;have hcop:=hch.cop ob hmem ν hν;obtain ⟨_,hν1,hν2⟩:=Zl6 hc hch.sub hob hν;have hto0:=hc.to0;have htoz:=hc.toz;have hsum:=Zbj ρ cf.O hch.nd hch.sub;have hsum2:=hc.sum;rw [hcop];have hand2:S.evE I lk [e0,ob.at_,4*ν+1,e3] st (S.isRef (S.eL 2))=1:=by
   show (if S.alu 7 (4*ν+1) (3%4294967296)=(1:Int)%4294967296 then (1:Int) else 0)=1
   rw [Z1x (by omega) (by omega),if_pos (by omega)]
  refine Zn6 rfl (Zyi (Zdu (by decide) (Zcg 2) (Zbm 3)) (Zbm 1)) (fun h=>by rw [hand2] at h;cases h) (fun _=>?_);refine Zl5 rfl (Zcg 2) (nop _ _ ?_ ?_ (by decide))
  ·show 4*ν+1=S.mv cf.to_ ρ e0
   unfold S.mv;rw [if_pos hp,show e0/4=ob.at_ by omega,hν]
  ·intro o ho he
   have:=Zqk hc ho hob (by omega);rw [this];exact hmem
 have hhd:st.mem ob.at_=hd:=by
  have:=hch.unc ob hob hmem 0 hd hw0;rw [show ob.at_+((0:Nat):Int)=ob.at_ by omega] at this;exact this
 rw [hhd];have hand2:S.evE I lk [e0,ob.at_,hd,e3] st (S.isRef (S.eL 2))=0:=by
  show (if S.alu 7 hd (3%4294967296)=(1:Int)%4294967296 then (1:Int) else 0)=0
  rw [Z1x hdb.1 hdb.2,if_neg (by omega)]
 refine Zn6 rfl (Zyi (Zdu (by decide) (Zcg 2) (Zbm 3)) (Zbm 1)) (fun _=>?_) (fun h=>absurd hand2 h);refine Zbo ?_;refine Zd4 rfl (Zdu (by decide) (Zcg 2) (Zbm 5)) ?_;have es:S.evE I lk [e0,ob.at_,hd,e3] st (S.eShr (S.eL 2) 5)=hd/32:=by show S.alu 11 hd (5%4294967296)=_;exact Z2r _
 rw [es];refine Zd4 rfl (Zbm 0) ?_
 show S.wpSs I 0 lk false _ [e0,ob.at_,hd/32,0] st _ _ _
 obtain ⟨f,hf⟩:=Yx (cf.to_+S.tot ρ);have hr29:st.reg 29=f:=by rw [hch.r29,hf]
 have hroom:=Zvw hch.nd hch.sub hob hmem;have hsum2:=hc.sum;have hto0:=hc.to0;have htoz:=hc.toz;have htot0:=Zt ρ;have datT:∀ x,f<=x->x<f+ob.ws.length->S.Dat I x:=fun x h1 h2=>hc.tod x (by omega) (by omega)
 have datF:∀ x,ob.at_<=x->x<ob.at_+ob.ws.length->S.Dat I x:=fun x h1 h2=>hc.frd x (by omega) (by omega)
 have hsep:∀ x y,ob.at_<=x->x<ob.at_+ob.ws.length->f<=y->y<f+ob.ws.length->x≠y:=fun x y h1 h2 h3 h4=>by
  rcases hc.apart with ap | ap <;> omega
 refine Zqj rfl (fun env st' c k=>∃ i:Nat,i<=ob.ws.length/\k=ob.ws.length-i/\env=[e0,ob.at_,hd/32,(i:Int)]/\Z2t cf st f ob.ws i st'/\c<=70+36*i)
  (k0:=ob.ws.length) ⟨0,Nat.zero_le _,rfl,rfl,⟨rfl,rfl,rfl,fun _ _=>rfl,fun j w hj=>by omega⟩,by decide⟩ ?_
 rintro env st' c k ⟨n,hn,rfl,rfl,hC,hcc⟩;have elt:S.evE I lk [e0,ob.at_,hd/32,(n:Int)] st' (S.eLt (S.eL 2) (S.eL 3))=if hd/32<(n:Int) then 1 else 0:=by
  show S.alu 14 (hd/32) (n:Int)=_
  exact Zn8 _ _
 have enot:S.evE I lk [e0,ob.at_,hd/32,(n:Int)] st' (S.eNot (S.eLt (S.eL 2) (S.eL 3)))=if hd/32<(n:Int) then 0 else 1:=by
  show (if S.evE I lk [e0,ob.at_,hd/32,(n:Int)] st' (S.eLt (S.eL 2) (S.eL 3))=(0:Int)%4294967296 then (1:Int) else 0)=_
  rw [elt]
  split <;> rfl
 refine ⟨Zyi (Zdu (by decide) (Zcg 2) (Zcg 3)) (Zbm 0),fun hz3=>?_,fun hnz3=>?_⟩
 rotate_left
 ·-- one word more
  have hlt:n<ob.ws.length:=by
   rcases Nat.lt_or_ge n ob.ws.length with h | h
   ·exact h
   ·exfalso
    rw [enot,if_pos (by omega)] at hnz3;exact hnz3 rfl
  have hr29':st'.reg 29=f:=by rw [hC.reg];exact hr29
  have ep:S.u32m (S.evE I lk [e0,ob.at_,hd/32,(n:Int)] st' (S.eAdd (S.eR 29) (S.eL 3))+0)=f+n:=by
   show S.u32m (S.alu 1 (st'.reg 29) (n:Int)+0)=_
   rw [hr29',Zn7];unfold S.u32m;omega
  have eq_:S.u32m (S.evE I lk [e0,ob.at_,hd/32,(n:Int)] st' (S.eAdd (S.eL 1) (S.eL 3))+0)=ob.at_+n:=by
   show S.u32m (S.alu 1 ob.at_ (n:Int)+0)=_
   rw [Zn7];unfold S.u32m;omega
  have hdat1:=datT (f+n) (by omega) (by omega);have hdat2:=datF (ob.at_+n) (by omega) (by omega);refine Zcz rfl (Zdu (by decide) (Zus 29) (Zcg 3)) rfl (Zyj (Zdu (by decide) (Zcg 1) (Zcg 3)) (by rw [eq_];exact Zl7 hdat2)) ep ⟨hdat1.2.1,hdat1.2.2.1,hdat1.2.2.2⟩ ?_;have ev:S.evE I lk [e0,ob.at_,hd/32,(n:Int)] st' (S.eM (S.eAdd (S.eL 1) (S.eL 3)) 0)=st.mem (ob.at_+n):=by
   rw [Z2o,eq_];exact hC.mem _ (fun q=>hsep (ob.at_+n) (ob.at_+n) (by omega) (by omega) q.1 (by omega) rfl)
  rw [ev];refine Zd4 rfl (Zdu (by decide) (Zcg 3) (Zbm 1)) ?_;have ei:S.evE I lk [e0,ob.at_,hd/32,(n:Int)] (st'.sto (f+n) (st.mem (ob.at_+n))) (S.eAdd (S.eL 3) (S.eC 1))=((n+1:Nat):Int):=by
   show S.alu 1 (n:Int) (1%4294967296)=_
   rw [Zn7];unfold S.u32m;omega
  rw [ei];refine Zbo ⟨ob.ws.length-(n+1),by omega,n+1,hlt,rfl,rfl,⟨hC.reg,hC.inp,hC.out,fun x hx=>?_,fun j w hj hw'=>?_⟩,?_⟩
  ·show (if x=f+n then _ else st'.mem x)=_
   rw [if_neg (fun e=>hx (by omega)),hC.mem x (fun q=>hx (by omega))]
  ·show (if f+(j:Int)=f+n then _ else st'.mem (f+(j:Int)))=w
   by_cases c2:j=n
   ·subst c2
    rw [if_pos rfl];exact hch.unc ob hob hmem j w hw'
   ·rw [if_neg (by omega)]
    exact hC.new j w (by omega) hw'
  ·have q1:S.coE (S.eNot (S.eLt (S.eL 2) (S.eL 3)))=8:=rfl
   have q2:S.coE (S.eAdd (S.eR 29) (S.eL 3))=3:=rfl;have q3:S.coE (S.eM (S.eAdd (S.eL 1) (S.eL 3)) 0)=4:=rfl;have q4:S.coE (S.eAdd (S.eL 3) (S.eC 1))=4:=rfl;omega
 have hnn:n=ob.ws.length:=by
  rcases Nat.lt_or_ge n ob.ws.length with h | h
  ·exfalso
   rw [enot,if_neg (by omega)] at hz3
   cases hz3
  ·omega
 subst hnn;have hr29':st'.reg 29=f:=by rw [hC.reg];exact hr29
 have ref:S.evE I lk [e0,ob.at_,hd/32,(ob.ws.length:Int)] st' (S.eRef (S.eR 29))=4*f+1:=by
  show S.alu 8 (S.alu 10 (st'.reg 29) (2%4294967296)) (1%4294967296)=_
  rw [hr29',Z2c];have e4:S.u32m (f*4)=f*4:=by unfold S.u32m;omega
  rw [e4,or1 (by omega) (by omega) (by omega)];omega
 refine Zcz rfl (Zcg 1) rfl (Zdu (by decide) (Zdu (by decide) (Zus 29) (Zbm 2)) (Zbm 1)) u1 ⟨datA.2.1,datA.2.2.1,datA.2.2.2⟩ ?_;rw [ref];refine Zff rfl (Zdu (by decide) (Zus 29) (Zcg 3)) ?_;have e29:S.evE I lk [e0,ob.at_,hd/32,(ob.ws.length:Int)] (st'.sto ob.at_ (4*f+1)) (S.eAdd (S.eR 29) (S.eL 3))=f+ob.ws.length:=by
  show S.alu 1 (st'.reg 29) (ob.ws.length:Int)=_
  rw [hr29',Zn7];unfold S.u32m;omega
 rw [e29];refine Zl5 rfl (okm _ _ rfl) ?_;have eret:S.evE I lk [e0,ob.at_,hd/32,(ob.ws.length:Int)] ((st'.sto ob.at_ (4*f+1)).set 29 (f+ob.ws.length)) (S.eM (S.eL 1) 0)=4*f+1:=by
  show (if S.u32m (ob.at_+0)=ob.at_ then 4*f+1 else st'.mem (S.u32m (ob.at_+0)))=_
  rw [u1,if_pos rfl]
 rw [eret];have hnw:S.nw cf.to_ (ρ++[ob]) ob.at_=some f:=by rw [hf];exact Zsy (fun x hx e=>hmem (Zqk hc (hch.sub x hx) hob e ▸ hx)) rfl
 have htot:S.tot (ρ++[ob])=S.tot ρ+ob.ws.length:=by rw [Za2,S.tot,S.tot,Ycq]
 have hmemv:∀ x,(((st'.sto ob.at_ (4*f+1)).set 29 (f+ob.ws.length)).set 4 (4*f+1)).mem x=if x=ob.at_ then 4*f+1 else st'.mem x:=fun _=>rfl
 have hfar:∀ o∈cf.O,o≠ob->∀ k:Nat,k<o.ws.length->o.at_+(k:Int)≠ob.at_/\¬ (f<=o.at_+(k:Int)/\o.at_+(k:Int)<f+ob.ws.length):=fun o ho hne k hk=>by
  have h1:=hc.dis o ho ob hob hne;have h2:=(hc.obs o ho).2;refine ⟨by omega,fun q=>?_⟩;rcases hc.apart with ap | ap <;> omega
 refine ⟨_,ρ++[ob],rfl,⟨⟨[ob],rfl,fun o ho=>?_⟩,⟨fun o ho=>?_,?_,?_,?_,?_,fun o ho hno k w hw'=>?_,fun o ho ν hν=>?_⟩,fun j h4 h5 h29=>?_,fun x hx hx2=>?_,fun o ho hno ν hν k w hw'=>?_,hC.inp,hC.out⟩,?_,fun o ho he=>?_,?_⟩
 ·simp only [Yu,Y3,or_false] at ho
  subst ho;exact hT
 ·rcases Y8.1 ho with ho | ho
  ·exact hch.sub o ho
  ·simp only [Yu,Y3,or_false] at ho
   subst ho;exact hob
 ·rw [List.nodup_append]
  refine ⟨hch.nd,by simp,fun x hx y hy=>?_⟩;simp only [Yu,Y3,or_false] at hy;subst hy;intro e;subst e;exact hmem hx
 ·show (f+ob.ws.length:Int)=_
  rw [htot];omega
 ·rw [hmemv,if_neg (by omega),hC.mem 2 (by omega)]
  exact hch.m2
 ·rw [hmemv,if_neg (by omega),hC.mem 4 (by omega)]
  exact hch.m4
 ·have hno1:o ∉ ρ:=fun q=>hno (Yba _ q)
  have hne:o≠ob:=fun e=>hno (by rw [e];exact Ybu _ Yy)
  obtain ⟨q1,q2⟩:=hfar o ho hne k (Ye.1 hw').1;rw [hmemv,if_neg q1,hC.mem _ q2];exact hch.unc o ho hno1 k w hw'
 ·by_cases hne:o=ob
  ·subst hne
   rw [hnw] at hν
   cases hν
   rw [hmemv,if_pos rfl]
  ·have hoρ:o∈ρ:=by
    rcases Y8.1 ho with ho | ho
    ·exact ho
    ·simp only [Yu,Y3,or_false] at ho
     exact absurd ho hne
   obtain ⟨ν',hν'⟩:=Zfw (t:=cf.to_) hoρ;have:=Zd5 [ob] hν';rw [hν] at this
   cases this
   have hl:=Zf7 hc (hch.sub o hoρ);obtain ⟨q1,q2⟩:=hfar o (hch.sub o hoρ) hne 0 (by omega);rw [show o.at_+((0:Nat):Int)=o.at_ by omega] at q1 q2;rw [hmemv,if_neg q1,hC.mem _ q2];exact hch.cop o hoρ ν hν'
 ·show (if j=4 then _ else if j=29 then _ else st'.reg j)=_
  rw [if_neg h4,if_neg h29,hC.reg]
 ·rw [htot] at hx2
  rw [hmemv,if_neg (fun e=>hx (by omega)),hC.mem x (fun q=>hx2 (by omega))]
 ·have hne:o=ob:=by
   rcases Y8.1 ho with ho | ho
   ·exact absurd ho hno
   ·simpa using ho
  subst hne;rw [hnw] at hν
  cases hν
  have hk:=(Ye.1 hw').1;rw [hmemv,if_neg (fun e=>hsep o.at_ (f+(k:Int)) (Yar _) (by omega) (by omega) (by omega) e.symm)];exact hC.new k w hk hw'
 ·rw [Zj]
  unfold S.mv;rw [if_pos hp,show e0/4=ob.at_ by omega,hnw]
 ·have:=Zqk hc ho hob (by omega)
  rw [this];exact Ybu _ Yy
 ·rw [htot]
  have q1:S.coE (S.eNot (S.eLt (S.eL 2) (S.eL 3)))=8:=rfl;have q2:S.coE (S.eL 1)=1:=rfl;have q3:S.coE (S.eRef (S.eR 29))=7:=rfl;have q4:S.coE (S.eAdd (S.eR 29) (S.eL 3))=3:=rfl;have q5:S.coE (S.eM (S.eL 1) 0)=2:=rfl;simp only [Ybm,if_false];omega
end
end
section
open Go.RowKit
structure S.Sc (cf:S.Cf)(T:S.Ob->Prop)(X:Int->Prop)(ρ:List S.Ob)(st:S.Vw)(ρ':List S.Ob)(st':S.Vw):Prop where
 ext:∃ δ,ρ'=ρ++δ/\∀ o∈δ,T o
 ch:S.Ch cf ρ' st'
 reg:∀ j,j≠4->j≠5->j≠29->st'.reg j=st.reg j
 mem:∀ a,¬ X a->¬ (cf.fr<=a/\a<cf.fr+cf.hf)->¬ (cf.to_+S.tot ρ<=a/\a<cf.to_+S.tot ρ')->st'.mem a=st.mem a
 root:∀ a,X a->st'.mem a=S.mv cf.to_ ρ' (st.mem a)/\S.Cl cf ρ' (st.mem a)
 new:∀ o∈ρ',o ∉ ρ->∀ ν,S.nw cf.to_ ρ' o.at_=some ν->∀ (k:Nat) (w:Int),o.ws[k]?=some w->st'.mem (ν+(k:Int))=w
 inp:st'.inp=st.inp
 out:st'.out=st.out
def S.Out (cf:S.Cf)(a:Int):Prop:=¬ (cf.fr<=a/\a<cf.fr+cf.hf)/\¬ (cf.to_<=a/\a<cf.to_+cf.hf)/\a≠2/\a≠4
theorem Zk3 {env:List Int}(h:(env.length:Int)=2):∃ a b,env=[a,b]:=by
 match env,h with
 | [a,b],_=>exact ⟨a,b,rfl⟩
 | [],h=>simp at h
 | [_],h=>simp at h
 | _::_::_::_,h=>simp only [Yl] at h;omega
theorem Zs1:S.chkB S.rScan=0:=by kernel_rfl
section
variable {I:S.Img}(hI:I.Ok){cf:S.Cf}(hc:S.Cf.Ok I cf){T:S.Ob->Prop}
include hI hc
theorem Zs2 {ρ:List S.Ob}{st st':S.Vw}(h:S.Ch cf ρ st)(h29:st'.reg 29=st.reg 29)(hm:st'.mem=st.mem):S.Ch cf ρ st' :=
 ⟨h.sub,h.nd,by rw [h29];exact h.r29,by rw [hm];exact h.m2,by rw [hm];exact h.m4,fun o ho hno k w hw=>by rw [hm];exact h.unc o ho hno k w hw,fun o ho ν hν=>by rw [hm];exact h.cop o ho ν hν⟩
theorem S.Sc.refl {X:Int->Prop}(hX:∀ a,¬ X a){ρ:List S.Ob}{st:S.Vw}(h:S.Ch cf ρ st):S.Sc cf T X ρ st ρ st :=
 ⟨⟨[],(Ya0 _).symm,fun o ho=>by cases ho⟩,h,fun _ _ _ _=>rfl,fun _ _ _ _=>rfl,fun a ha=>absurd ha (hX a),fun o ho hno=>absurd ho hno,rfl,rfl⟩
theorem Zn9 {ρ ρ' δ:List S.Ob}(e:ρ'=ρ++δ){w:Int}(hw:S.WOk cf T w)(hcl:S.Cl cf ρ w)(hs:∀ o∈ρ',o∈cf.O):S.mv cf.to_ ρ' w=S.mv cf.to_ ρ w:=by
 unfold S.mv
 split
 ·rename_i hp
  rcases hw.2.2 hp with ⟨o,ho,_,rfl⟩ | hout
  ·obtain ⟨ν,hν⟩:=Zfw (t:=cf.to_) (hcl o ho rfl)
   have e1:(4*o.at_+1)/4=o.at_:=by omega
   rw [e1,hν,e,Zd5 δ hν]
  ·have none_of:∀ ρ:List S.Ob,(∀ o∈ρ,o∈cf.O)->S.nw cf.to_ ρ (w/4)=none:=fun ρ hs=>by
    cases hq:S.nw cf.to_ ρ (w/4) with
    | none=>rfl
    | some ν =>
     exfalso
     obtain ⟨o,ho,ea,_⟩:=Zdk hq;have:=hc.obs o (hs o ho);have hl:=Zf7 hc (hs o ho);rcases hout with q | q <;> omega
   rw [none_of ρ' hs,none_of ρ fun o ho=>hs o (by rw [e];exact Yba _ ho)]
 ·rfl
theorem S.Sc.trans {X Y:Int->Prop}{ρ ρ' ρ2:List S.Ob}{st st' st2:S.Vw}(h:S.Sc cf T X ρ st ρ' st')(k:S.Sc cf T Y ρ' st' ρ2 st2)(hXY:∀ a,X a->¬ Y a)(hX:∀ a,X a->S.Out cf a)(hY:∀ a,Y a->S.Out cf a)
 (hw:∀ a,X a->S.WOk cf T (st.mem a)):S.Sc cf T (fun a=>X a\/Y a) ρ st ρ2 st2:=by
 obtain ⟨δ,e,hδ⟩:=h.ext;obtain ⟨δ2,e2,hδ2⟩:=k.ext;have t1:S.tot ρ'=S.tot ρ+S.tot δ:=by rw [e,Za2]
 have t2:S.tot ρ2=S.tot ρ'+S.tot δ2:=by rw [e2,Za2]
 have p1:=Zt δ;have p2:=Zt δ2;have p0:=Zt ρ;have hsum:=Zbj ρ2 cf.O k.ch.nd k.ch.sub;have hs:=hc.sum;refine ⟨⟨δ++δ2,by rw [e2,e,List.append_assoc],fun o ho=>(Y8.1 ho).elim (hδ o) (hδ2 o)⟩,k.ch,fun j h4 h5 h29=>(k.reg j h4 h5 h29).trans (h.reg j h4 h5 h29),fun a hx ha hb=>?_,fun a hx=>?_,fun o ho hno ν hν i w hw=>?_,k.inp.trans h.inp,k.out.trans h.out⟩
 ·rw [k.mem a (fun q=>hx (.inr q)) ha (fun q=>hb ⟨by omega,q.2⟩),h.mem a (fun q=>hx (.inl q)) ha (fun q=>hb ⟨q.1,by omega⟩)]
 ·by_cases cx:X a
  ·obtain ⟨q1,q2⟩:=h.root a cx
   have ho:=hX a cx;rw [k.mem a (hXY a cx) ho.1 (fun q=>ho.2.1 ⟨by omega,by omega⟩),q1];exact ⟨(Zn9 hI hc e2 (hw a cx) q2 k.ch.sub).symm,fun o hoo he=>by rw [e2];exact Yba _ (q2 o hoo he)⟩
  ·have cy:Y a:=hx.resolve_left cx
   have ho:=hY a cy;obtain ⟨q1,q2⟩:=k.root a cy;have e3:st'.mem a=st.mem a:=h.mem a cx ho.1 (fun q=>ho.2.1 ⟨by omega,by omega⟩);rw [e3] at q1 q2;exact ⟨q1,q2⟩
 ·by_cases c:o∈ρ'
  ·obtain ⟨ν',hν'⟩:=Zfw (t:=cf.to_) c
   have:=Zd5 δ2 hν';rw [<- e2,hν] at this
   cases this
   obtain ⟨_,q1,q2⟩:=Zl6 hc h.ch.sub (h.ch.sub o c) hν';have hi:=(Ye.1 hw).1;rw [k.mem (ν+(i:Int)) (fun q=>(hY _ q).2.1 ⟨by omega,by omega⟩) (fun q=>by rcases hc.apart with ap | ap <;> omega) (fun q=>by omega)];exact h.new o c hno _ hν' i w hw
  ·exact k.new o ho c ν hν i w hw
theorem Zl8 {iM:Nat}(hM:S.Seg I S.kMove iM (S.bItems S.rMove)){dep lk:Int}{behind:Bool}(hd:19<=dep){ρ:List S.Ob}{st:S.Vw}(hch:S.Ch cf ρ st){p:Int}(hp:S.Dat I p)(hw:S.WOk cf T (st.mem p))
 {r:List Int} {c:Nat} {Q:List Int->S.Vw->Nat->Prop} {R:S.BO->Nat->Prop}
 (hQ:∀ ρ' st2 (c':Nat),S.Tr cf T ρ (st.args [st.mem p]) ρ' st2->S.Cl cf ρ' (st.mem p)->(c':Int)<=c+116+40*(S.tot ρ'-S.tot ρ)->Q ((p+1)::r) (st2.sto p (S.mv cf.to_ ρ' (st.mem p))) c') :
 S.wpSs I dep lk behind S.bScan (p::r) st c Q R:=by
 have hsz:=hI.size2;have h0:=hp.1;have h1:=hp.2.1;have ep:S.u32m (p+0)=p:=by unfold S.u32m;omega
 unfold S.bScan;rw [Zeo,Zth];refine Za6 rfl (Zcg 0) ?_;rw [Z0e];refine Za6 rfl (Zyj (Zcg 0) (by show S.u32m (p+0)<_/\¬ I.stk (S.u32m (p+0));rw [ep];exact Zl7 hp)) ?_;have em:S.evE I lk (p::r) st (S.eM (S.eL 0) 0)=st.mem p:=by
  show st.mem (S.u32m (p+0))=_
  rw [ep]
 rw [em];have hch2:S.Ch cf ρ (st.args [st.mem p]):=Zs2 hI hc hch rfl rfl;refine ⟨19,_,Zs0 hI hc hM hch2 (w:=st.mem p) rfl hw,hd,fun ret o k hR=>?_⟩;obtain ⟨st2,ρ',rfl,htr,h4,hcl,hk⟩:=hR
 show S.u32m (p+0)<I.size/\¬ I.stk (S.u32m (p+0))/\¬ I.code (S.u32m (p+0))/\_
 rw [ep];refine ⟨hp.2.1,hp.2.2.1,hp.2.2.2,?_⟩;rw [h4,show S.u32m (S.evE I lk (p::r) st (S.eL 0)+0)=p from ep];refine Zd4 rfl (Zdu (by decide) (Zcg 0) (Zbm 1)) (Zbo ?_);have e1:S.evE I lk (p::r) (st2.sto p (S.mv cf.to_ ρ' (st.mem p))) (S.eAdd (S.eL 0) (S.eC 1))=p+1:=by
  show S.alu 1 p (1%4294967296)=_
  rw [Zn7];unfold S.u32m;omega
 rw [e1];refine hQ ρ' st2 _ htr hcl ?_;have q1:S.coE (S.eL 0)=1:=rfl;have q2:S.coE (S.eM (S.eL 0) 0)=2:=rfl;have q3:S.coE (S.eAdd (S.eL 0) (S.eC 1))=4:=rfl;simp only [Yl,Yat];omega
theorem Zz9 {ρ ρ':List S.Ob}{st st2:S.Vw}{p:Int}(hp:S.Out cf p)(ho:∀ o∈cf.O,True)(htr:S.Tr cf T ρ (st.args [st.mem p]) ρ' st2)(hcl:S.Cl cf ρ' (st.mem p)) :
 S.Sc cf T (fun a=>a=p) ρ st ρ' (st2.sto p (S.mv cf.to_ ρ' (st.mem p))):=by
 have hm:∀ a,(st2.sto p (S.mv cf.to_ ρ' (st.mem p))).mem a=if a=p then S.mv cf.to_ ρ' (st.mem p) else st2.mem a:=fun _=>rfl
 have hsum:=Zbj ρ' cf.O htr.ch.nd htr.ch.sub;have hs:=hc.sum;have h0:=Zt ρ';refine ⟨htr.ext,⟨htr.ch.sub,htr.ch.nd,htr.ch.r29,?_,?_,fun o ho hno k w hw=>?_,fun o ho ν hν=>?_⟩,fun j h4 h5 h29=>?_,fun a hx ha hb=>?_,fun a hx=>?_,fun o ho hno ν hν k w hw=>?_,htr.inp,htr.out⟩
 ·rw [hm,if_neg (Ne.symm hp.2.2.1)];exact htr.ch.m2
 ·rw [hm,if_neg (Ne.symm hp.2.2.2)];exact htr.ch.m4
 ·have:=hc.obs o ho
  have hk:=(Ye.1 hw).1;rw [hm,if_neg (fun e=>hp.1 ⟨by omega,by omega⟩)];exact htr.ch.unc o ho hno k w hw
 ·have:=hc.obs o (htr.ch.sub o ho)
  have hl:=Zf7 hc (htr.ch.sub o ho);rw [hm,if_neg (fun e=>hp.1 ⟨by omega,by omega⟩)];exact htr.ch.cop o ho ν hν
 ·show st2.reg j=st.reg j
  rw [htr.reg j h4 h5 h29]
  show (if 4<=j/\j<4+(1:Nat) then _ else st.reg j)=_
  rw [if_neg (by omega)]
 ·rw [hm,if_neg hx]
  exact htr.mem a ha hb
 ·subst hx
  rw [hm,if_pos rfl];exact ⟨rfl,hcl⟩
 ·obtain ⟨_,q1,q2⟩:=Zl6 hc htr.ch.sub (htr.ch.sub o ho) hν
  have hk:=(Ye.1 hw).1;rw [hm,if_neg (fun e=>hp.2.1 ⟨by omega,by omega⟩)];exact htr.new o ho hno ν hν k w hw
def S.bu (cf:S.Cf)(T:S.Ob->Prop)(a b:Int)(ρ:List S.Ob)(st:S.Vw)(o:S.BO)(k:Nat):Prop :=
 ∃ st' ρ',o=.ret st'/\S.Sc cf T (fun x=>a<=x/\x<b) ρ st ρ' st'/\(k:Int)<=30+130*(if a<b then b-a else 0)+40*(S.tot ρ'-S.tot ρ)
theorem Zs3 {iM iS:Nat}(hM:S.Seg I S.kMove iM (S.bItems S.rMove))(hS:S.Seg I S.kScan iS (S.bItems S.rScan)){ρ:List S.Ob}{st:S.Vw}(hch:S.Ch cf ρ st){a b:Int}(ha:st.reg 4=a)(hb:st.reg 5=b)(hb0:0<=a/\0<=b/\b<=335544320)
 (hdat:∀ x,a<=x->x<b->S.Dat I x/\S.Out cf x) (hw:∀ x,a<=x->x<b->S.WOk cf T (st.mem x)) :
 S.Real I S.kScan false st 36 (fun _ o k=>S.bu cf T a b ρ st o k):=by
 have hp1:(1:Nat)=1:=rfl;refine Zew hI S.rScan Zs1 hS (dep:=19) (by decide) st _ fun lk env _ _ hl hp=>?_
 obtain ⟨e0,e1,rfl⟩:=Zk3 hl;have h0:e0=st.reg 4:=hp 0 (show (0:Int)<2 by decide);have h1:e1=st.reg 5:=hp 1 (show (1:Int)<2 by decide);rw [ha] at h0;rw [hb] at h1;subst h0 h1;unfold S.rScan;simp only;refine Zqj rfl (fun env st' c k=>∃ (i:Nat) (ρ':List S.Ob),(i=0\/e0+i<=e1)/\k=(e1-e0).toNat-i/\env=[e0+i,e1]/\S.Sc cf T (fun x=>e0<=x/\x<e0+i) ρ st ρ' st'/\(c:Int)<=6+127*i+40*(S.tot ρ'-S.tot ρ))
  (k0:=(e1-e0).toNat) ⟨0,ρ,.inl rfl,by omega,by simp,S.Sc.refl hI hc (fun x hx=>by omega) hch,by simp⟩ ?_
 rintro env st' c k ⟨i,ρ',hi,rfl,rfl,hsc,hcc⟩;have elt:S.evE I lk [e0+(i:Int),e1] st' (S.eLt (S.eL 0) (S.eL 1))=if e0+(i:Int)<e1 then 1 else 0:=by
  show S.alu 14 (e0+(i:Int)) e1=_
  exact Zn8 _ _
 refine ⟨Zdu (by decide) (Zcg 0) (Zcg 1),fun hz=>?_,fun hnz=>?_⟩
 ·have hnlt:¬ e0+(i:Int)<e1:=fun h=>by rw [elt,if_pos h] at hz;cases hz
  refine Zbo ⟨st',ρ',rfl,?_,?_⟩
  ·have heq:(fun x=>e0<=x/\x<e0+(i:Int))=fun x=>e0<=x/\x<e1:=by
    funext x
    refine propext ⟨fun q=>?_,fun q=>?_⟩
    ·rcases hi with rfl | hi
     ·exact absurd q (by omega)
     ·omega
    ·rcases hi with rfl | hi
     ·omega
     ·omega
   rw [<- heq];exact hsc
  ·have q1:S.coE (S.eLt (S.eL 0) (S.eL 1))=3:=rfl
   simp only [Ybm,if_false];rcases hi with rfl | hi
   ·rw [if_neg (by omega)]
    omega
   ·by_cases h:e0<e1
    ·rw [if_pos h];omega
    ·rw [if_neg h];omega
 ·have hlt:e0+(i:Int)<e1:=Classical.byContradiction fun h=>by
   rw [elt,if_neg h] at hnz;exact hnz rfl
  obtain ⟨hd,hout⟩:=hdat (e0+i) (by omega) hlt;have hsum:=Zbj ρ' cf.O hsc.ch.nd hsc.ch.sub;have hs:=hc.sum;have t0:=Zt ρ;have hsame:st'.mem (e0+i)=st.mem (e0+i):=hsc.mem _ (by omega) hout.1 (fun q=>hout.2.1 ⟨by omega,by omega⟩);refine Zl8 hI hc hM (Yar _) hsc.ch hd (T:=T) (by rw [hsame];exact hw _ (by omega) hlt) fun ρ2 st2 c' htr hcl hcc'=>?_
  have hone:=Zz9 hI hc hout (fun _ _=>trivial) htr hcl;have htrans:=S.Sc.trans hI hc hsc hone (fun x hx e=>by omega) (fun x hx=>(hdat x hx.1 (by omega)).2) (fun x hx=>by rw [hx];exact hout) (fun x hx=>hw x hx.1 (by omega));refine ⟨(e1-e0).toNat-(i+1),by omega,i+1,ρ2,.inr (by omega),rfl,by congr 1;omega,?_,?_⟩
  ·have heq:(fun x=>(e0<=x/\x<e0+(i:Int))\/x=e0+(i:Int))=fun x=>e0<=x/\x<e0+((i+1:Nat):Int):=by
    funext x
    refine propext ⟨fun q=>by omega,fun q=>by omega⟩
   rw [<- heq];exact htrans
  ·have q1:S.coE (S.eLt (S.eL 0) (S.eL 1))=3:=rfl
   omega
end
end
section
open Go.RowKit
theorem Zql:S.chkB S.rFrame=0:=by kernel_rfl
theorem Z2u {env:List Int}(h:(env.length:Int)=5):∃ a b c d e,env=[a,b,c,d,e]:=by
 match env,h with
 | [a,b,c,d,e],_=>exact ⟨a,b,c,d,e,rfl⟩
 | [],h=>simp at h
 | [_],h=>simp at h
 | [_,_],h=>simp at h
 | [_,_,_],h=>simp at h
 | [_,_,_,_],h=>simp at h
 | _::_::_::_::_::_::_,h=>simp only [Yl] at h;omega
def S.bk (w:Int)(i:Nat):Bool:=w/2^i%2==1
def S.Sl (s w:Int)(i:Nat)(x:Int):Prop:=∃ j:Nat,j<i/\x=s+j/\S.bk w j=true
theorem Zym (s w:Int)(x:Int):¬ S.Sl s w 0 x:=fun ⟨j,h,_⟩=>by omega
theorem sl_step {s w:Int}{i:Nat}{x:Int}:S.Sl s w (i+1) x↔S.Sl s w i x\/(x=s+i/\S.bk w i=true):=by
 constructor
 ·rintro ⟨j,h,rfl,hb⟩
  by_cases c:j=i
  ·subst c;exact .inr ⟨rfl,hb⟩
  ·exact .inl ⟨j,by omega,rfl,hb⟩
 ·rintro (⟨j,h,rfl,hb⟩ | ⟨rfl,hb⟩)
  ·exact ⟨j,by omega,rfl,hb⟩
  ·exact ⟨i,by omega,rfl,hb⟩
theorem Zs4 (w:Int)(i:Nat):w/2^i/2=w/2^(i+1):=by
 rw [Int.ediv_ediv_of_nonneg (Ydk (Ydw (by decide))),Int.pow_succ]
section
variable {I:S.Img}(hI:I.Ok){cf:S.Cf}(hc:S.Cf.Ok I cf){T:S.Ob->Prop}
include hI hc
theorem Zs5 {X:Int->Prop}{ρ ρ':List S.Ob}{st st':S.Vw}{l:List Int}(hl:l.length<=2)(h:S.Sc cf T X ρ (st.args l) ρ' st'):S.Sc cf T X ρ st ρ' st' :=
 ⟨h.ext,h.ch,fun j h4 h5 h29=>by
  rw [h.reg j h4 h5 h29]
  show (if 4<=j/\j<4+(l.length:Int) then _ else st.reg j)=_
  rw [if_neg (by omega)],h.mem,h.root,h.new,h.inp,h.out⟩
theorem Zf8 {X Y:Int->Prop}(e:∀ x,X x↔Y x){ρ ρ':List S.Ob}{st st':S.Vw}(h:S.Sc cf T X ρ st ρ' st'):S.Sc cf T Y ρ st ρ' st':=by
 have:X=Y:=funext fun x=>propext (e x)
 subst this;exact h
theorem Zka {iM iS:Nat}(hM:S.Seg I S.kMove iM (S.bItems S.rMove))(hS:S.Seg I S.kScan iS (S.bItems S.rScan)){dep lk:Int}{behind:Bool}(hd:36<=dep){X:Int->Prop}{ρ0 ρ:List S.Ob}{st0 st:S.Vw}(hsc:S.Sc cf T X ρ0 st0 ρ st)
 {a b:Int} {l:List S.BE} {env:List Int} (hp:S.pureEs l=true) (hok:S.okEs I lk env st l) (he:S.evEs I lk env st l=[a,b]) (hb0:0<=a/\0<=b/\b<=335544320)
 (hdat:∀ x,a<=x->x<b->S.Dat I x/\S.Out cf x) (hw:∀ x,a<=x->x<b->S.WOk cf T (st0.mem x)) (hX:∀ x,X x->S.Out cf x/\S.WOk cf T (st0.mem x)/\¬ (a<=x/\x<b))
 {r:List S.BS} {c:Nat} {Q:List Int->S.Vw->Nat->Prop} {R:S.BO->Nat->Prop}
 (hQ:∀ ρ' st' (c':Nat),S.Sc cf T (fun x=>X x\/(a<=x/\x<b)) ρ0 st0 ρ' st'->0<=S.tot ρ'-S.tot ρ->(c':Int)<=c+S.coEs l+36+130*(if a<b then b-a else 0)+40*(S.tot ρ'-S.tot ρ)->S.wpSs I dep lk behind r env st' c' Q R) :
 S.wpSs I dep lk behind (S.sDo (S.eF S.kScan l)::r) env st c Q R:=by
 have hsum:=Zbj ρ cf.O hsc.ch.nd hsc.ch.sub;have hs:=hc.sum;have t0:=Zt ρ0;have hcha:S.Ch cf ρ (st.args [a,b]):=Zs2 hI hc hsc.ch rfl rfl;have hsame:∀ x,a<=x->x<b->st.mem x=st0.mem x:=fun x h1 h2=>by
  obtain ⟨_,ho⟩:=hdat x h1 h2;exact hsc.mem x (fun q=>(hX x q).2.2 ⟨h1,h2⟩) ho.1 (fun q=>ho.2.1 ⟨by omega,by omega⟩)
 refine Zz8 hp hok (d:=36) (T:=fun _ o k=>S.bu cf T a b ρ (st.args [a,b]) o k) (by rw [he];exact Zs3 hI hc hM hS hcha rfl rfl hb0 hdat fun x h1 h2=>by show S.WOk cf T (st.mem x);rw [hsame x h1 h2];exact hw x h1 h2) hd fun ret o k hR=>?_
 obtain ⟨st',ρ',rfl,h1,hk⟩:=hR;have h2:=Zs5 hI hc (by simp) h1;obtain ⟨δ,e,_⟩:=h2.ext;have:=Zt δ;refine hQ ρ' st' _ (S.Sc.trans hI hc hsc h2 (fun x hx q=>(hX x hx).2.2 q) (fun x hx=>(hX x hx).1) (fun x hx=>(hdat x hx.1 hx.2).2) (fun x hx=>(hX x hx).2.1)) (by rw [e,Za2];omega) ?_;rw [he];simp only [Yl,Yat];omega
theorem Zoa {iM iS:Nat}(hM:S.Seg I S.kMove iM (S.bItems S.rMove))(hS:S.Seg I S.kScan iS (S.bItems S.rScan)){dep lk:Int}{behind:Bool}(hd:36<=dep){X:Int->Prop}{ρ0 ρ:List S.Ob}{st0 st:S.Vw}(hsc:S.Sc cf T X ρ0 st0 ρ st)
 {a e1 s w:Int} (hw0:0<=w/\w<4294967296) (hs0:0<=s/\s+32<=335544320) (hdat:∀ j:Nat,j<32->S.bk w j=true->S.Dat I (s+j)/\S.Out cf (s+j)/\S.WOk cf T (st0.mem (s+j)))
 (hX:∀ x,X x->S.Out cf x/\S.WOk cf T (st0.mem x)/\¬ (s<=x/\x<s+32))
 {r:List S.BS} {c:Nat} {Q:List Int->S.Vw->Nat->Prop} {R:S.BO->Nat->Prop}
 (hQ:∀ ρ' st' w' (c':Nat),S.Sc cf T (fun x=>X x\/S.Sl s w 32 x) ρ0 st0 ρ' st'->0<=S.tot ρ'-S.tot ρ->(c':Int)<=c+10000+40*(S.tot ρ'-S.tot ρ)->S.wpSs I dep lk behind r [a,e1,s+32,w',s+32] st' c' Q R) :
 S.wpSs I dep lk behind (S.sWh (S.eLt (S.eL 2) (S.eL 4))
  [S.sWhen (S.eAnd (S.eL 3) (S.eC 1)) [S.sDo (S.eF S.kScan [S.eL 2,S.eAdd (S.eL 2) (S.eC 1)])],
   S.sAs 3 (S.eShr (S.eL 3) 1),S.sAs 2 (S.eAdd (S.eL 2) (S.eC 1))]::r) [a,e1,s,w,s+32] st c Q R:=by
 have hs:=hc.sum;refine Zqj rfl (fun env st' c' k=>∃ (i:Nat) (ρ':List S.Ob),i<=32/\k=32-i/\env=[a,e1,s+i,w/2^i,s+32]/\S.Sc cf T (fun x=>X x\/S.Sl s w i x) ρ0 st0 ρ' st'/\0<=S.tot ρ'-S.tot ρ/\(c':Int)<=c+250*i+40*(S.tot ρ'-S.tot ρ))
  (k0:=32) ⟨0,ρ,by omega,rfl,by simp,Zf8 hI hc (fun x=>⟨.inl,fun h=>h.resolve_right (Zym s w x)⟩) hsc,by omega,by simp⟩ ?_
 rintro env st' c' k ⟨i,ρ',hi,rfl,rfl,hsc',hg,hcc⟩;have elt:S.evE I lk [a,e1,s+(i:Int),w/2^i,s+32] st' (S.eLt (S.eL 2) (S.eL 4))=if s+(i:Int)<s+32 then 1 else 0:=by
  show S.alu 14 (s+(i:Int)) (s+32)=_
  exact Zn8 _ _
 have q1:S.coE (S.eLt (S.eL 2) (S.eL 4))=3:=rfl;refine ⟨Zdu (by decide) (Zcg 2) (Zcg 4),fun hz=>?_,fun hnz=>?_⟩
 ·have h32:i=32:=by
   refine Classical.byContradiction fun h=>?_
   rw [elt,if_pos (by omega)] at hz
   cases hz
  subst h32;exact hQ ρ' st' _ _ hsc' hg (by rw [q1];omega)
 ·have hlt:i<32:=Classical.byContradiction fun h=>by
   rw [elt,if_neg (by omega)] at hnz;exact hnz rfl
  have hwi0:0<=w/2^i:=Int.ediv_nonneg hw0.1 (Ydk (Ydw (by decide)));have hwi1:w/2^i<4294967296:=Int.lt_of_le_of_lt (Int.ediv_le_self _ hw0.1) hw0.2;have eand:S.evE I lk [a,e1,s+(i:Int),w/2^i,s+32] st' (S.eAnd (S.eL 3) (S.eC 1))=w/2^i%2:=by
   show S.alu 7 (w/2^i) (1%4294967296)=_
   exact Z2p hwi0 hwi1
  have ea:∀ st,S.evE I lk [a,e1,s+(i:Int),w/2^(i+1),s+32] st (S.eAdd (S.eL 2) (S.eC 1))=s+((i+1:Nat):Int):=fun st=>by
   show S.alu 1 (s+(i:Int)) (1%4294967296)=_
   rw [Zn7];unfold S.u32m;omega
  have eb:∀ st,S.evE I lk [a,e1,s+(i:Int),w/2^i,s+32] st (S.eAdd (S.eL 2) (S.eC 1))=s+((i+1:Nat):Int):=fun st=>by
   show S.alu 1 (s+(i:Int)) (1%4294967296)=_
   rw [Zn7];unfold S.u32m;omega
  have esh:∀ st,S.evE I lk [a,e1,s+(i:Int),w/2^i,s+32] st (S.eShr (S.eL 3) 1)=w/2^(i+1):=fun st=>by
   show S.alu 11 (w/2^i) (1%4294967296)=_
   rw [Z2b,Zs4]
  have q2:S.coE (S.eShr (S.eL 3) 1)=4:=rfl;have q3:S.coE (S.eAdd (S.eL 2) (S.eC 1))=4:=rfl;have q4:S.coE (S.eAnd (S.eL 3) (S.eC 1))=4:=rfl;have fin:∀ (ρ2:List S.Ob) (st2:S.Vw) (c2:Nat),S.Sc cf T (fun x=>X x\/S.Sl s w (i+1) x) ρ0 st0 ρ2 st2->0<=S.tot ρ2-S.tot ρ->(c2:Int)<=c+250*i+220+40*(S.tot ρ2-S.tot ρ) ->
   S.wpSs I dep lk behind [S.sAs 3 (S.eShr (S.eL 3) 1),S.sAs 2 (S.eAdd (S.eL 2) (S.eC 1))] [a,e1,s+(i:Int),w/2^i,s+32] st2 c2 (fun Zk3 st2 c2=>∃ k2,k2<32-i/\∃ (i:Nat) (ρ':List S.Ob),i<=32/\k2=32-i/\Zk3=[a,e1,s+i,w/2^i,s+32]/\S.Sc cf T (fun x=>X x\/S.Sl s w i x) ρ0 st0 ρ' st2/\0<=S.tot ρ'-S.tot ρ/\((c2+3:Nat):Int)<=c+250*i+40*(S.tot ρ'-S.tot ρ)) R:=by
   intro ρ2 st2 c2 h1 h2 h3;refine Zd4 rfl (Zdu (by decide) (Zcg 3) (Zbm 1)) ?_;rw [esh];refine Zd4 rfl (Zdu (by decide) (Zcg 2) (Zbm 1)) (Zbo ?_);refine ⟨32-(i+1),by omega,i+1,ρ2,by omega,rfl,?_,h1,h2,by rw [q2,q3];omega⟩;exact congrArg (fun z=>[a,e1,z,w/2^(i+1),s+32]) (ea st2)
  refine Zn6 rfl (Zdu (by decide) (Zcg 3) (Zbm 1)) (fun hz=>?_) (fun hnz=>?_)
  ·rw [eand] at hz
   refine Zbo (fin ρ' st' _ (Zf8 hI hc (fun x=>⟨fun h=>h.imp id fun q=>sl_step.2 (.inl q),fun h=>h.imp id fun q=>(sl_step.1 q).resolve_right fun q=>?_⟩) hsc') hg (by rw [q1,q4];omega));have:=q.2;unfold S.bk at this;rw [hz] at this
   cases this
  ·rw [eand] at hnz
   have hbit:S.bk w i=true:=by
    unfold S.bk;rw [show w/2^i%2=1 from by omega];rfl
   obtain ⟨d1,d2,d3⟩:=hdat i hlt hbit;refine Zka hI hc hM hS hd hsc' (a:=s+i) (b:=s+((i+1:Nat):Int)) (l:=[S.eL 2,S.eAdd (S.eL 2) (S.eC 1)]) rfl ⟨Zcg 2,Zdu (by decide) (Zcg 2) (Zbm 1),trivial⟩ (by show [_,_]=_;rw [eb];rfl) (by omega)
    (fun x h1 h2=>by
     have:x=s+i:=by omega
     rw [this];exact ⟨d1,d2⟩) (fun x h1 h2=>by
     have:x=s+i:=by omega
     rw [this];exact d3) (fun x hx=>?_) fun ρ2 st2 c2 h1 h2 h3=>Zbo (fin ρ2 st2 _ (Zf8 hI hc (fun x=>?_) h1) (by omega) ?_)
   ·rcases hx with hx | ⟨j,hj,rfl,hb⟩
    ·exact ⟨(hX x hx).1,(hX x hx).2.1,fun q=>(hX x hx).2.2 ⟨by omega,by omega⟩⟩
    ·obtain ⟨_,g2,g3⟩:=hdat j (by omega) hb
     exact ⟨g2,g3,fun q=>by omega⟩
   ·rw [or_assoc]
    refine or_congr Iff.rfl (Iff.trans ?_ sl_step.symm);exact or_congr Iff.rfl ⟨fun q=>⟨by omega,hbit⟩,fun q=>⟨by omega,by omega⟩⟩
   ·have q5:S.coEs [S.eL 2,S.eAdd (S.eL 2) (S.eC 1)]=5:=rfl
    rw [q5,if_pos (by omega)] at h3;rw [q1,q4] at h3;omega
structure S.bx (I:S.Img)(cf:S.Cf)(T:S.Ob->Prop)(mem:Int->Int)(a:Int)(n:Nat):Prop where
 a0:0<=a
 n31:n<=31
 len:mem a=n
 rd:∀ j:Nat,j<=n->a+j<I.size/\¬ I.stk (a+j)/\S.Out cf (a+j)
 off:a+n<32\/32+32*n<=a
 word:∀ j:Nat,j<n->0<=mem (a+1+j)/\mem (a+1+j)<4294967296
 slot:∀ j i:Nat,j<n->i<32->S.bk (mem (a+1+j)) i=true->S.WOk cf T (mem (32+32*j+i))
def S.FX (mem:Int->Int)(a:Int)(n:Nat)(x:Int):Prop:=∃ j:Nat,j<n/\S.Sl (32+32*j) (mem (a+1+j)) 32 x
def S.bp (cf:S.Cf)(T:S.Ob->Prop)(a:Int)(n:Nat)(ρ:List S.Ob)(st:S.Vw)(o:S.BO)(k:Nat):Prop :=
 ∃ st' ρ',o=.ret st'/\S.Sc cf T (S.FX st.mem a n) ρ st ρ' st'/\(k:Int)<=60+10100*n+40*(S.tot ρ'-S.tot ρ)
theorem Zdl {mem:Int->Int}{a:Int}{n:Nat}{x:Int}(h:S.FX mem a n x):32<=x/\x<32+32*n:=by
 obtain ⟨j,hj,i,hi,rfl,_⟩:=h;omega
theorem Zqm {iM iS iF:Nat}(hM:S.Seg I S.kMove iM (S.bItems S.rMove))(hS:S.Seg I S.kScan iS (S.bItems S.rScan))(hF:S.Seg I S.kFrame iF (S.bItems S.rFrame)){ρ:List S.Ob}{st:S.Vw}(hch:S.Ch cf ρ st){a:Int}{n:Nat}(ha:st.reg 4=a)(hm:S.bx I cf T st.mem a n) :
 S.Real I S.kFrame false st 56 (fun _ o k=>S.bp cf T a n ρ st o k):=by
 refine Zew hI S.rFrame Zql hF (dep:=36) (by decide) st _ fun lk env _ _ hl hp=>?_
 obtain ⟨e0,e1,e2,e3,e4,rfl⟩:=Z2u hl;have h0:e0=st.reg 4:=hp 0 (show (0:Int)<1 by decide);rw [ha] at h0;subst h0;have hs:=hc.sum;have hsz:=hI.size2;have hm0:=hm.a0;have hn:=hm.n31;have hout0:∀ x,32<=x->x<1056->S.Out cf x:=fun x h1 h2=>⟨fun q=>by have:=hc.fr0;omega,fun q=>by have:=hc.to0;omega,by omega,by omega⟩
 have hrd:∀ j:Nat,j<=n->e0+j<I.size/\¬ I.stk (e0+j):=fun j hj=>⟨(hm.rd j hj).1,(hm.rd j hj).2.1⟩
 unfold S.rFrame;simp only;have hua:S.u32m (e0+0)=e0:=by have:=(hrd 0 (by omega)).1;unfold S.u32m;omega
 have okm:∀ env st,S.u32m (S.evE I lk env st (S.eL 0)+0)=e0->S.okE I lk env st (S.eM (S.eL 0) 0):=fun env st h=>Zyj (Zcg 0) (by rw [h];have:=hrd 0 (by omega);simpa using this)
 refine Zd4 rfl (Zdu (by decide) (Zcg 0) (okm _ _ hua)) ?_;have ev1:S.evE I lk [e0,e1,e2,e3,e4] st (S.eAdd (S.eL 0) (S.eM (S.eL 0) 0))=e0+n:=by
  show S.alu 1 e0 (st.mem (S.u32m (e0+0)))=_
  rw [hua,hm.len,Zn7];have:=(hrd n (by omega)).1;unfold S.u32m;omega
 rw [ev1];refine Zd4 rfl (Zbm 32) ?_;have hset:([e0,e1,e2,e3,e4].set (Ycn 1) (e0+n)).set (Ycn 2) (S.evE I lk ([e0,e1,e2,e3,e4].set (Ycn 1) (e0+n)) st (S.eC 32))=[e0,e0+n,32,e3,e4]:=rfl;rw [hset];refine Zqj rfl (fun env st' c' k=>∃ (j:Nat) (ρ':List S.Ob) (e3 e4:Int),j<=n/\k=n-j/\env=[e0+j,e0+n,32+32*j,e3,e4]/\S.Sc cf T (S.FX st.mem e0 j) ρ st ρ' st'/\0<=S.tot ρ'-S.tot ρ/\(c':Int)<=30+10100*j+40*(S.tot ρ'-S.tot ρ))
  (k0:=n) ⟨0,ρ,e3,e4,by omega,by omega,by simp,S.Sc.refl hI hc (fun x ⟨j,h,_⟩=>by omega) hch,by omega,by
   have q1:S.coE (S.eAdd (S.eL 0) (S.eM (S.eL 0) 0))=4:=rfl;have q2:S.coE (S.eC 32)=2:=rfl;rw [q1,q2]
   show ((3+4+1+2+1:Nat):Int)<=_
   omega⟩ ?_
 rintro env st' c' k ⟨j,ρ',e3,e4,hj,rfl,rfl,hsc,hg,hcc⟩;have q1:S.coE (S.eLt (S.eL 0) (S.eL 1))=3:=rfl;have elt:S.evE I lk [e0+(j:Int),e0+n,32+32*(j:Int),e3,e4] st' (S.eLt (S.eL 0) (S.eL 1))=if e0+(j:Int)<e0+n then 1 else 0:=by
  show S.alu 14 (e0+(j:Int)) (e0+n)=_
  exact Zn8 _ _
 refine ⟨Zdu (by decide) (Zcg 0) (Zcg 1),fun hz=>?_,fun hnz=>?_⟩
 ·have he:j=n:=by
   refine Classical.byContradiction fun h=>?_
   rw [elt,if_pos (by omega)] at hz
   cases hz
  subst he;exact Zbo ⟨st',ρ',rfl,hsc,by rw [q1];simp only [Ybm,if_false];omega⟩
 ·have hlt:j<n:=Classical.byContradiction fun h=>by
   rw [elt,if_neg (by omega)] at hnz;exact hnz rfl
  have hsum:=Zbj ρ' cf.O hsc.ch.nd hsc.ch.sub;have t0:=Zt ρ;have hrj:=hrd (j+1) (by omega);refine Zd4 rfl (Zdu (by decide) (Zcg 0) (Zbm 1)) ?_;have ev2:S.evE I lk [e0+(j:Int),e0+n,32+32*(j:Int),e3,e4] st' (S.eAdd (S.eL 0) (S.eC 1))=e0+((j+1:Nat):Int):=by
   show S.alu 1 (e0+(j:Int)) (1%4294967296)=_
   rw [Zn7];unfold S.u32m;omega
  rw [ev2];have huj:S.u32m (e0+((j+1:Nat):Int)+0)=e0+((j+1:Nat):Int):=by unfold S.u32m;omega
  refine Zd4 (e:=S.eM (S.eL 0) 0) rfl (Zyj (Zcg 0) (by show S.u32m (e0+((j+1:Nat):Int)+0)<_/\¬ I.stk (S.u32m (e0+((j+1:Nat):Int)+0));rw [huj];exact hrj)) ?_;obtain ⟨w,hw⟩:=Yx (st.mem (e0+1+j));have ev3:S.evE I lk ([e0+(j:Int),e0+n,32+32*(j:Int),e3,e4].set (Ycn 0) (e0+((j+1:Nat):Int))) st' (S.eM (S.eL 0) 0)=w:=by
   show st'.mem (S.u32m (e0+((j+1:Nat):Int)+0))=_
   have ho:=(hm.rd (j+1) (by omega)).2.2;rw [huj,hsc.mem _ (fun q=>by have:=Zdl hI hc q;have:=hm.off;omega) ho.1 (fun q=>ho.2.1 ⟨by omega,by omega⟩),hw]
   congr 1
   omega
  rw [ev3];have hset2:([e0+(j:Int),e0+n,32+32*(j:Int),e3,e4].set (Ycn 0) (e0+((j+1:Nat):Int))).set (Ycn 3) w=[e0+((j+1:Nat):Int),e0+n,32+32*(j:Int),w,e4]:=rfl;rw [hset2];have q5:S.coE (S.eQ (S.eL 2) (S.eC 1056))=3+3:=by decide
  refine Zn6 rfl (Zyi (Zcg 2) (Zbm 1056)) (fun _=>Zbo ?_) (fun hq=>?_)
  ·refine Zd4 rfl (Zdu (by decide) (Zcg 2) (Zbm 32)) ?_
   have ev4:S.evE I lk [e0+((j+1:Nat):Int),e0+n,32+32*(j:Int),w,e4] st' (S.eAdd (S.eL 2) (S.eC 32))=32+32*(j:Int)+32:=by
    show S.alu 1 (32+32*(j:Int)) (32%4294967296)=_
    rw [Zn7];unfold S.u32m;omega
   rw [ev4];have hset3:[e0+((j+1:Nat):Int),e0+n,32+32*(j:Int),w,e4].set (Ycn 4) (32+32*(j:Int)+32)=[e0+((j+1:Nat):Int),e0+n,32+32*(j:Int),w,32+32*(j:Int)+32]:=rfl;rw [hset3];have q2:S.coE (S.eAdd (S.eL 0) (S.eC 1))=4:=rfl;have q3:S.coE (S.eM (S.eL 0) 0)=2:=rfl;have q4:S.coE (S.eAdd (S.eL 2) (S.eC 32))=4:=rfl;refine Zoa hI hc hM hS (Yar _) hsc (hw ▸ hm.word j hlt) (by omega) (fun i hi hb=>⟨hc.low _ (by omega) (by omega),hout0 _ (by omega) (by omega),hm.slot j i hlt hi (hw ▸ hb)⟩)
    (fun x hx=>⟨hout0 x (by have:=Zdl hI hc hx;omega) (by have:=Zdl hI hc hx;omega),?_,by have:=Zdl hI hc hx;omega⟩) fun ρ2 st2 w' c2 h1 h2 h3=>Zbo ?_
   ·obtain ⟨q,hq,i,hi,rfl,hb⟩:=hx
    exact hm.slot q i (by omega) hi hb
   ·refine ⟨n-(j+1),by omega,j+1,ρ2,w',32+32*(j:Int)+32,hlt,rfl,?_,Zf8 hI hc (fun x=>?_) h1,by omega,by rw [q1,q2,q3,q4,q5] at h3;omega⟩
    ·exact congrArg (fun z=>[e0+((j+1:Nat):Int),e0+n,z,w',32+32*(j:Int)+32]) (by omega)
    ·constructor
     ·rintro (⟨q,hq,g⟩ | g)
      ·exact ⟨q,by omega,g⟩
      ·exact ⟨j,by omega,hw ▸ g⟩
     ·rintro ⟨q,hq,g⟩
      by_cases c:q=j
      ·subst c;exact .inr (hw ▸ g)
      ·exact .inl ⟨q,by omega,g⟩
  ·exfalso
   refine hq ?_
   show (if 32+32*(j:Int)=1056%4294967296 then (1:Int) else 0)=0
   rw [if_neg (by omega)]
end
end
end Go.Proofs.YtdeepoikgfaecaaGreatDoor
