/- Parts. -/
import Derived.Test.YtlldagdhlfpihaaGreatDoorZGSpec
set_option linter.unusedVariables false
set_option linter.unusedSimpArgs false
set_option linter.unusedSectionVars false
namespace Go.Proofs.YtlldagdhlfpihaaGreatDoor
section
open Go.RowKit
namespace S
mutual
def pureE:BE->Bool
 | .mk op _ _ kids=>decide (op=1\/op=2\/op=3\/op=4\/op=5\/op=7\/op=9\/op=10) && pureEs kids
def pureEs:List BE->Bool
 | []=>true
 | e::r=>pureE e && pureEs r
end
def opV (I:Img)(lk:Int)(op n:Int)(name:ByteArray)(env vs:List Int)(st:Vw):Int :=
 if op=1 then n%4294967296 else if op=2 then env.getD n.toNat 0 else if op=3 then st.reg n else if op=4 then alu n (vs.getD 0 0) (vs.getD 1 0)
 else if op=5 then st.mem (u32m (vs.getD 0 0+n)) else if op=7 then (if vs.getD 0 0=vs.getD 1 0 then 1 else 0) else if op=9 then I.lab name else lk
def opOk (I:Img)(op n:Int)(vs:List Int):Prop :=
 if op=4 then (vs.getD 1 0=0->n≠5/\n≠6) else if op=5 then u32m (vs.getD 0 0+n)<I.size/\¬ I.stk (u32m (vs.getD 0 0+n)) else True
def opC (op:Int):Nat:=if op=1\/op=9 then 2 else if op=7 then 3 else 1
mutual
def evE (I:Img)(lk:Int)(env:List Int)(st:Vw):BE->Int
 | .mk op n name kids=>opV I lk op n name env (evEs I lk env st kids) st
def evEs (I:Img)(lk:Int)(env:List Int)(st:Vw):List BE->List Int
 | []=>[]
 | e::r=>evE I lk env st e::evEs I lk env st r
end
mutual
def okE (I:Img)(lk:Int)(env:List Int)(st:Vw):BE->Prop
 | .mk op n name kids=>okEs I lk env st kids/\opOk I op n (evEs I lk env st kids)
def okEs (I:Img)(lk:Int)(env:List Int)(st:Vw):List BE->Prop
 | []=>True
 | e::r=>okE I lk env st e/\okEs I lk env st r
end
mutual
def coE:BE->Nat
 | .mk op _ _ kids=>coEs kids+opC op
def coEs:List BE->Nat
 | []=>0
 | e::r=>coE e+coEs r
end
end S
section
variable {I:S.Img}{dep lk:Int}
mutual
theorem wpE_pure:∀ {e:S.BE} {env:List Int} {at_:Nat} {st:S.Vw} {c:Nat} {Q H:Int->S.Vw->Nat->Prop},S.pureE e=true->S.okE I lk env st e->Q (S.evE I lk env st e) st (c+S.coE e)->S.wpE I dep lk env e at_ st c Q H
 | .mk op n name kids,env,at_,st,c,Q,H,hp,hok,hQ=>by
  simp only [S.pureE,Bool.and_eq_true,decide_eq_true_eq] at hp
  obtain ⟨hop,hpk⟩:=hp
  rw [S.okE] at hok
  rw [S.evE,S.coE] at hQ
  rw [wpE_mk]
  refine wpEs_pure hpk hok.1 ?_
  have hok2:=hok.2
  unfold S.opOk at hok2
  unfold S.opV S.opC at hQ
  unfold S.wpOp
  rw [<- Nat.add_assoc] at hQ
  rcases hop with rfl | rfl | rfl | rfl | rfl | rfl | rfl | rfl
  ·exact hQ
  ·exact hQ
  ·exact hQ
  ·exact ⟨hok2,hQ⟩
  ·exact ⟨hok2.1,hok2.2,hQ⟩
  ·exact hQ
  ·exact hQ
  ·exact hQ
theorem wpEs_pure:∀ {l:List S.BE} {env:List Int} {at_:Nat} {st:S.Vw} {c:Nat} {Q:List Int->S.Vw->Nat->Prop} {H:Int->S.Vw->Nat->Prop},S.pureEs l=true->S.okEs I lk env st l->Q (S.evEs I lk env st l) st (c+S.coEs l)->S.wpEs I dep lk env l at_ st c Q H
 | [],env,at_,st,c,Q,H,_,_,hQ=>by
  rw [S.wpEs]
  exact hQ
 | e::r,env,at_,st,c,Q,H,hp,hok,hQ=>by
  simp only [S.pureEs,Bool.and_eq_true] at hp
  rw [S.okEs] at hok
  rw [S.evEs,S.coEs] at hQ
  rw [S.wpEs]
  refine wpE_pure hp.1 hok.1 (wpEs_pure hp.2 hok.2 ?_)
  rw [Nat.add_assoc]
  exact hQ
end
section
variable {env:List Int}{st:S.Vw}
theorem ev_c (n:Int):S.evE I lk env st (S.eC n)=n%4294967296:=rfl
theorem ev_m (a:S.BE)(n:Int):S.evE I lk env st (S.eM a n)=st.mem (S.u32m (S.evE I lk env st a+n)):=rfl
theorem ok_c (n:Int):S.okE I lk env st (S.eC n):=⟨trivial,trivial⟩
theorem ok_l (n:Int):S.okE I lk env st (S.eL n):=⟨trivial,trivial⟩
theorem ok_r (n:Int):S.okE I lk env st (S.eR n):=⟨trivial,trivial⟩
theorem ok_a (s:ByteArray):S.okE I lk env st (S.eA s):=⟨trivial,trivial⟩
theorem ok_b {op:Int}{a b:S.BE}(ho:op≠5/\op≠6)(ha:S.okE I lk env st a)(hb:S.okE I lk env st b):S.okE I lk env st (S.eB op a b):=⟨⟨ha,hb,trivial⟩,fun _=>ho⟩
theorem ok_q {a b:S.BE}(ha:S.okE I lk env st a)(hb:S.okE I lk env st b):S.okE I lk env st (S.eQ a b):=⟨⟨ha,hb,trivial⟩,trivial⟩
theorem ok_m {a:S.BE}{n:Int}(ha:S.okE I lk env st a)(h:S.u32m (S.evE I lk env st a+n)<I.size/\¬ I.stk (S.u32m (S.evE I lk env st a+n))):S.okE I lk env st (S.eM a n):=⟨⟨ha,trivial⟩,h⟩
end
section
variable {behind:Bool}{env:List Int}{st:S.Vw}{c:Nat}{Q:List Int->S.Vw->Nat->Prop}{R:S.BO->Nat->Prop}
theorem ws_as {n:Int}{e:S.BE}{r:List S.BS}(hp:S.pureE e=true)(hok:S.okE I lk env st e)(h:S.wpSs I dep lk behind r (env.set n.toNat (S.evE I lk env st e)) st (c+S.coE e+1) Q R):S.wpSs I dep lk behind (S.sAs n e::r) env st c Q R:=by
 rw [wpSs_c,wpS_as]
 exact wpE_pure hp hok h
theorem ws_set {n:Int}{e:S.BE}{r:List S.BS}(hp:S.pureE e=true)(hok:S.okE I lk env st e)(h:S.wpSs I dep lk behind r env (st.set n (S.evE I lk env st e)) (c+S.coE e+1) Q R):S.wpSs I dep lk behind (S.sSet n e::r) env st c Q R:=by
 rw [wpSs_c,wpS_set]
 exact wpE_pure hp hok h
theorem ws_put {a e:S.BE}{n:Int}{r:List S.BS}(hpa:S.pureE a=true)(hoka:S.okE I lk env st a)(hp:S.pureE e=true)(hok:S.okE I lk env st e){p:Int}(hpe:S.u32m (S.evE I lk env st a+n)=p)
 (h1:p<I.size/\¬ I.stk p/\¬ I.code p) (h:S.wpSs I dep lk behind r env (st.sto p (S.evE I lk env st e)) (c+S.coE a+S.coE e+1) Q R):S.wpSs I dep lk behind (S.sPut a n e::r) env st c Q R:=by
 subst hpe
 rw [wpSs_c,wpS_put]
 exact wpE_pure hpa hoka (wpE_pure hp hok ⟨h1.1,h1.2.1,h1.2.2,h⟩)
theorem ws_if {e:S.BE}{b l r:List S.BS}(hp:S.pureE e=true)(hok:S.okE I lk env st e)(h0:S.evE I lk env st e=0->S.wpSs I dep lk behind l env st (c+S.coE e+4) (fun env st c=>S.wpSs I dep lk behind r env st c Q R) R)
 (h1:S.evE I lk env st e≠0->S.wpSs I dep lk behind b env st (c+S.coE e+4) (fun env st c=>S.wpSs I dep lk behind r env st (c+3) Q R) R):S.wpSs I dep lk behind (S.sIf e b l::r) env st c Q R:=by
 rw [wpSs_c,wpS_if]
 refine wpE_pure hp hok ?_
 split
 ·rename_i h;exact h0 h
 ·rename_i h;exact h1 h
theorem ws_wh {e:S.BE}{b r:List S.BS}(hp:S.pureE e=true)(J:List Int->S.Vw->Nat->Nat->Prop){k0:Nat}(h0:J env st c k0)
 (hJ:∀ env st c k,J env st c k->S.okE I lk env st e/\(S.evE I lk env st e=0->S.wpSs I dep lk behind r env st (c+S.coE e+4) Q R) /\
  (S.evE I lk env st e≠0->S.wpSs I dep lk behind b env st (c+S.coE e+4) (fun env2 st2 c2=>∃ k2,k2<k/\J env2 st2 (c2+3) k2) R)):S.wpSs I dep lk behind (S.sWh e b::r) env st c Q R:=by
 rw [wpSs_c,wpS_wh]
 refine ⟨J,⟨k0,h0⟩,fun env st c k h=>?_⟩
 obtain ⟨h1,h2,h3⟩:=hJ env st c k h
 refine wpE_pure hp h1 ?_
 split
 ·rename_i h;exact h2 h
 ·rename_i h;exact h3 h
theorem ws_val {e:S.BE}{r:List S.BS}(hp:S.pureE e=true)(hok:S.okE I lk env st e)(h:R (.ret (st.set 4 (S.evE I lk env st e))) (c+S.coE e+1+(if behind=true then 5 else 3))):S.wpSs I dep lk behind (S.sVal e::r) env st c Q R:=by
 rw [wpSs_c,S.sVal,wpS_bk]
 exact wpE_pure hp hok h
theorem ws_nil (h:Q env st c):S.wpSs I dep lk behind [] env st c Q R:=by
 rw [wpSs_0]
 exact h
theorem ws_do {name:ByteArray}{l:List S.BE}{r:List S.BS}(hp:S.pureEs l=true)(hok:S.okEs I lk env st l){d:Int}{T:Int->S.BO->Nat->Prop}(hreal:S.Real I name false (st.args (S.evEs I lk env st l)) d T)(hd:d<=dep)
 (h:∀ ret o k,T ret o k->(match o with
  | .ret st2=>S.wpSs I dep lk behind r env st2 (c+S.coEs l+2*0+(S.evEs I lk env st l).length+4+k) Q R
  | .halt code st2=>R (.halt code st2) (c+S.coEs l+2*0+(S.evEs I lk env st l).length+4+k)
  | .left _ _=>False)):S.wpSs I dep lk behind (S.sDo (S.eF name l)::r) env st c Q R:=by
 rw [wpSs_c,wpS_do,wpE_f]
 refine wpEs_pure hp hok ⟨d,T,hreal,hd,fun ret o k hT=>?_⟩
 have:=h ret o k hT
 cases o <;> exact this
end
end
theorem and_mask {x:Int}(i:Nat)(m:Int)(hm:m=2^i-1)(hi:i<=32)(h0:0<=x)(h1:x<4294967296):S.alu 7 x m=x%(m+1):=by
 show bits .and .u32 x m=_
 exact u32_mask i x (m+1) m (by omega) (by omega) hi h0 h1
theorem and3 {x:Int}(h0:0<=x)(h1:x<4294967296):S.alu 7 x (3%4294967296)=x%4:=and_mask 2 3 (by decide) (by decide) h0 h1
theorem and1 {x:Int}(h0:0<=x)(h1:x<4294967296):S.alu 7 x (1%4294967296)=x%2:=and_mask 1 1 (by decide) (by decide) h0 h1
theorem shr2 (x:Int):S.alu 11 x (2%4294967296)=x/4:=rfl
theorem shr5 (x:Int):S.alu 11 x (5%4294967296)=x/32:=rfl
theorem shr1 (x:Int):S.alu 11 x (1%4294967296)=x/2:=rfl
theorem shl2 (x:Int):S.alu 10 x (2%4294967296)=S.u32m (x*4):=rfl
theorem alu1 (x y:Int):S.alu 1 x y=S.u32m (x+y):=rfl
theorem alu2 (x y:Int):S.alu 2 x y=S.u32m (x-y):=rfl
theorem alu14 (x y:Int):S.alu 14 x y=if x<y then 1 else 0:=by
 show S.truth (x<y)=_
 unfold S.truth
 split <;> simp_all
theorem or1 {x:Int}(h0:0<=x)(h1:x<4294967296)(h:x%4=0):S.alu 8 x (1%4294967296)=x+1:=by
 show bits .or .u32 x 1=_
 exact u32_join 2 x 1 4 (by decide) h0 h h1 (by decide) (by decide) (by decide)
end
section
open Go.RowKit
namespace S
structure Ob where
 at_:Int
 ws:List Int
def tot:List Ob->Int
 | []=>0
 | o::r=>o.ws.length+tot r
def nw (t:Int):List Ob->Int->Option Int
 | [],_=>none
 | o::r,a=>if o.at_=a then some t else nw (t+o.ws.length) r a
def mv (t:Int)(ρ:List Ob)(w:Int):Int:=if w%4=1 then (match nw t ρ (w/4) with | some ν=>4*ν+1 | none=>w) else w
def Dat (I:Img)(a:Int):Prop:=0<=a/\a<I.size/\¬ I.stk a/\¬ I.code a
structure Cf where
 O:List Ob
 fr:Int
 to_:Int
 hf:Int
structure ObOk (o:Ob):Prop where
 word:∀ w∈o.ws,0<=w/\w<4294967296
 head:∃ h r,o.ws=h::r/\h%4=3/\h/32=r.length
structure Cf.Ok (I:Img)(cf:Cf):Prop where
 frd:∀ a,cf.fr<=a->a<cf.fr+cf.hf->Dat I a
 tod:∀ a,cf.to_<=a->a<cf.to_+cf.hf->Dat I a
 apart:cf.fr+cf.hf<=cf.to_\/cf.to_+cf.hf<=cf.fr
 fr0:1312<=cf.fr
 to0:1312<=cf.to_
 hf0:0<=cf.hf
 frz:cf.fr+cf.hf<=335544320
 toz:cf.to_+cf.hf<=335544320
 low:∀ a,0<=a->a<1056->Dat I a
 obs:∀ o∈cf.O,ObOk o/\cf.fr<=o.at_/\o.at_+o.ws.length<=cf.fr+cf.hf
 dis:∀ o∈cf.O,∀ o'∈cf.O,o≠o'->o.at_+o.ws.length<=o'.at_\/o'.at_+o'.ws.length<=o.at_
 nd:cf.O.Nodup
 sum:tot cf.O<=cf.hf
structure Ch (cf:Cf)(ρ:List Ob)(st:Vw):Prop where
 sub:∀ o∈ρ,o∈cf.O
 nd:ρ.Nodup
 r29:st.reg 29=cf.to_+tot ρ
 m2:st.mem 2=cf.fr
 m4:st.mem 4=cf.hf
 unc:∀ o∈cf.O,o ∉ ρ->∀ (k:Nat) (w:Int),o.ws[k]?=some w->st.mem (o.at_+(k:Int))=w
 cop:∀ o∈ρ,∀ ν,nw cf.to_ ρ o.at_=some ν->st.mem o.at_=4*ν+1
def WOk (cf:Cf)(T:Ob->Prop)(w:Int):Prop:=0<=w/\w<4294967296/\(w%4=1->(∃ o∈cf.O,T o/\w=4*o.at_+1)\/w/4<cf.fr\/cf.fr+cf.hf<=w/4)
def Cl (cf:Cf)(ρ:List Ob)(w:Int):Prop:=∀ o∈cf.O,w=4*o.at_+1->o∈ρ
structure Tr (cf:Cf)(T:Ob->Prop)(ρ:List Ob)(st:Vw)(ρ':List Ob)(st':Vw):Prop where
 ext:∃ δ,ρ'=ρ++δ/\∀ o∈δ,T o
 ch:Ch cf ρ' st'
 reg:∀ j,j≠4->j≠5->j≠29->st'.reg j=st.reg j
 mem:∀ a,¬ (cf.fr<=a/\a<cf.fr+cf.hf)->¬ (cf.to_+tot ρ<=a/\a<cf.to_+tot ρ')->st'.mem a=st.mem a
 new:∀ o∈ρ',o ∉ ρ->∀ ν,nw cf.to_ ρ' o.at_=some ν->∀ (k:Nat) (w:Int),o.ws[k]?=some w->st'.mem (ν+(k:Int))=w
 inp:st'.inp=st.inp
 out:st'.out=st.out
end S
theorem tot_append (a b:List S.Ob):S.tot (a++b)=S.tot a+S.tot b:=by
 induction a with
 | nil=>simp [S.tot]
 | cons o r ih=>rw [List.cons_append,S.tot,S.tot,ih];omega
theorem tot_nonneg:∀ l:List S.Ob,0<=S.tot l
 | []=>by simp [S.tot]
 | o::r=>by have:=tot_nonneg r;rw [S.tot];omega
theorem tot_le:∀ (ρ O:List S.Ob),ρ.Nodup->(∀ o∈ρ,o∈O)->S.tot ρ<=S.tot O
 | [],O,_,_=>by rw [S.tot];exact tot_nonneg O
 | o::r,O,hn,hs=>by
  obtain ⟨A,B,rfl⟩:=List.append_of_mem (hs o List.mem_cons_self)
  obtain ⟨h1,h2⟩:=List.nodup_cons.1 hn
  have:=tot_le r (A++B) h2 fun x hx=>by
   have hm:=hs x (List.mem_cons_of_mem _ hx)
   rw [List.mem_append,List.mem_cons] at hm
   rcases hm with hm | rfl | hm
   ·exact List.mem_append_left _ hm
   ·exact absurd hx h1
   ·exact List.mem_append_right _ hm
  rw [S.tot,tot_append,S.tot]
  rw [tot_append] at this
  omega
theorem tot_room {ρ O:List S.Ob}{o:S.Ob}(hn:ρ.Nodup)(hs:∀ o∈ρ,o∈O)(ho:o∈O)(hno:o ∉ ρ):S.tot ρ+o.ws.length<=S.tot O:=by
 have:=tot_le (o::ρ) O (List.nodup_cons.2 ⟨hno,hn⟩) fun x hx=>by
  rcases List.mem_cons.1 hx with rfl | hx
  ·exact ho
  ·exact hs x hx
 rw [S.tot] at this
 omega
theorem nw_append {t:Int}{a:Int}:∀ {ρ:List S.Ob} {ν:Int} (δ:List S.Ob),S.nw t ρ a=some ν->S.nw t (ρ++δ) a=some ν
 | [],ν,δ,h=>by simp [S.nw] at h
 | o::r,ν,δ,h=>by
  rw [List.cons_append,S.nw]
  rw [S.nw] at h
  split
  ·rename_i c;rw [if_pos c] at h;exact h
  ·rename_i c;rw [if_neg c] at h;exact nw_append δ h
theorem nw_none {t a:Int}:∀ {ρ:List S.Ob},S.nw t ρ a=none->∀ o∈ρ,o.at_≠a
 | [],_,o,ho=>by cases ho
 | x::r,h,o,ho=>by
  rw [S.nw] at h
  split at h
  ·cases h
  ·rename_i c
   rcases List.mem_cons.1 ho with rfl | ho
   ·exact c
   ·exact nw_none h o ho
theorem nw_last {t a:Int}:∀ {ρ:List S.Ob} {o:S.Ob},(∀ x∈ρ,x.at_≠a)->o.at_=a->S.nw t (ρ++[o]) a=some (t+S.tot ρ)
 | [],o,_,ho=>by rw [List.nil_append,S.nw,if_pos ho,S.tot,Int.add_zero]
 | x::r,o,h,ho=>by
  rw [List.cons_append,S.nw,if_neg (h x List.mem_cons_self),nw_last (fun y hy=>h y (List.mem_cons_of_mem _ hy)) ho,S.tot]
  congr 1
  omega
theorem nw_range {a:Int}:∀ {ρ:List S.Ob} {t ν:Int},S.nw t ρ a=some ν->∃ o∈ρ,o.at_=a/\t<=ν/\ν+o.ws.length<=t+S.tot ρ
 | [],t,ν,h=>by simp [S.nw] at h
 | x::r,t,ν,h=>by
  rw [S.nw] at h
  have hr:=tot_nonneg r
  split at h
  ·rename_i c
   cases h
   exact ⟨x,List.mem_cons_self,c,Int.le_refl _,by rw [S.tot];omega⟩
  ·obtain ⟨o,ho,h1,h2,h3⟩:=nw_range h
   exact ⟨o,List.mem_cons_of_mem _ ho,h1,by omega,by rw [S.tot];omega⟩
theorem nw_some {t:Int}{ρ:List S.Ob}{o:S.Ob}(h:o∈ρ):∃ ν,S.nw t ρ o.at_=some ν:=by
 cases hq:S.nw t ρ o.at_ with
 | some ν=>exact ⟨ν,rfl⟩
 | none=>exact absurd rfl (nw_none hq o h)
section
variable {I:S.Img}{cf:S.Cf}(hc:S.Cf.Ok I cf)
include hc
theorem ob_len {o:S.Ob}(ho:o∈cf.O):1<=o.ws.length:=by
 obtain ⟨h,r,e,_⟩:=(hc.obs o ho).1.head
 rw [e]
 simp
theorem ob_eq {o o':S.Ob}(ho:o∈cf.O)(ho':o'∈cf.O)(h:o.at_=o'.at_):o=o':=by
 refine Classical.byContradiction fun hne=>?_
 have h1:=ob_len hc ho
 have h2:=ob_len hc ho'
 rcases hc.dis o ho o' ho' hne with h3 | h3 <;> omega
theorem nw_of {t:Int}{ρ:List S.Ob}(hs:∀ o∈ρ,o∈cf.O){o:S.Ob}(ho:o∈cf.O){ν:Int}(h:S.nw t ρ o.at_=some ν):o∈ρ/\t<=ν/\ν+o.ws.length<=t+S.tot ρ:=by
 obtain ⟨x,hx,e,h1,h2⟩:=nw_range h
 have:=ob_eq hc (hs x hx) ho e
 subst this
 exact ⟨hx,h1,h2⟩
theorem S.Tr.sub {T:S.Ob->Prop}{ρ ρ':List S.Ob}{st st':S.Vw}(h:S.Tr cf T ρ st ρ' st'){o:S.Ob}(ho:o∈ρ):o∈ρ':=by
 obtain ⟨δ,e,_⟩:=h.ext
 rw [e]
 exact List.mem_append_left _ ho
end
end
section
open Go.RowKit
theorem chk_rMove:S.chkB S.rMove=0:=by kernel_rfl
theorem env4 {env:List Int}(h:(env.length:Int)=4):∃ a b c d,env=[a,b,c,d]:=by
 match env,h with
 | [a,b,c,d],_=>exact ⟨a,b,c,d,rfl⟩
 | [],h=>simp at h
 | [_],h=>simp at h
 | [_,_],h=>simp at h
 | [_,_,_],h=>simp at h
 | _::_::_::_::_::_,h=>simp at h;omega
def S.MovR (cf:S.Cf)(T:S.Ob->Prop)(ρ:List S.Ob)(st:S.Vw)(w:Int)(o:S.BO)(k:Nat):Prop :=
 ∃ st' ρ',o=.ret st'/\S.Tr cf T ρ st ρ' st'/\st'.reg 4=S.mv cf.to_ ρ' w/\S.Cl cf ρ' w/\(k:Int)<=100+40*(S.tot ρ'-S.tot ρ)
theorem dat_ok {I:S.Img}{a:Int}(h:S.Dat I a):a<I.size/\¬ I.stk a:=⟨h.2.1,h.2.2.1⟩
section
variable {I:S.Img}(hI:I.Ok){cf:S.Cf}(hc:S.Cf.Ok I cf){T:S.Ob->Prop}
include hI hc
theorem ch_set4 {ρ:List S.Ob}{st:S.Vw}(h:S.Ch cf ρ st)(v:Int):S.Ch cf ρ (st.set 4 v):=⟨h.sub,h.nd,h.r29,h.m2,h.m4,h.unc,h.cop⟩
theorem tr_set4 {ρ:List S.Ob}{st:S.Vw}(h:S.Ch cf ρ st)(v:Int):S.Tr cf T ρ st ρ (st.set 4 v) :=
 ⟨⟨[],(List.append_nil _).symm,fun o ho=>by cases ho⟩,ch_set4 hI hc h v,fun j h4 _ _=>by show (if j=4 then v else st.reg j)=_;rw [if_neg h4],fun _ _ _=>rfl,fun o ho hno=>absurd ho hno,rfl,rfl⟩
theorem ev_W {lk:Int}{env:List Int}{st:S.Vw}{n:Int}(h0:0<=n)(h1:n<1056):S.okE I lk env st (S.eW n)/\S.evE I lk env st (S.eW n)=st.mem n:=by
 have e:S.u32m (n%4294967296+0)=n:=by unfold S.u32m;omega
 refine ⟨ok_m (ok_c n) ?_,?_⟩
 ·rw [ev_c,e];exact dat_ok (hc.low n h0 h1)
 ·show st.mem (S.u32m (S.evE I lk env st (S.eC n)+0))=_
  rw [ev_c,e]
structure CopI (cf:S.Cf)(st:S.Vw)(f:Int)(ws:List Int)(i:Nat)(st':S.Vw):Prop where
 reg:st'.reg=st.reg
 inp:st'.inp=st.inp
 out:st'.out=st.out
 mem:∀ a,¬ (f<=a/\a<f+i)->st'.mem a=st.mem a
 new:∀ (j:Nat) (w:Int),j<i->ws[j]?=some w->st'.mem (f+(j:Int))=w
theorem real_move {i:Nat}(hs:S.Seg I S.kMove i (S.bItems S.rMove)){ρ:List S.Ob}{st:S.Vw}(hch:S.Ch cf ρ st){w:Int}(hw:st.reg 4=w)(hok:S.WOk cf T w) :
 S.Real I S.kMove false st 19 (fun _ o k=>S.MovR cf T ρ st w o k):=by
 refine real_of hI S.rMove chk_rMove hs (dep:=0) (Int.le_refl _) st _ fun lk env _ _ hl hp=>?_
 obtain ⟨e0,e1,e2,e3,rfl⟩:=env4 hl
 have h0:e0=st.reg 4:=hp 0 (show (0:Int)<1 by decide)
 rw [hw] at h0
 subst h0
 obtain ⟨w0,w1,hwp⟩:=hok
 have nop:∀ (v:Int) (c:Nat),v=S.mv cf.to_ ρ e0->S.Cl cf ρ e0->c<=100->S.MovR cf T ρ st e0 (.ret (st.set 4 v)) c:=fun v c hv hcl hcc =>
  ⟨_,ρ,rfl,tr_set4 hI hc hch v,by rw [<- hv];exact vset_same _ _ _,hcl,by omega⟩
 have hand:S.evE I lk [e0,e1,e2,e3] st (S.eAnd (S.eL 0) (S.eC 3))=e0%4:=by
  show S.alu 7 e0 (3%4294967296)=_
  exact and3 w0 w1
 have okand:∀ env,S.okE I lk env st (S.isRef (S.eL 0)):=fun env=>ok_q (ok_b (by decide) (ok_l 0) (ok_c 3)) (ok_c 1)
 have href:S.evE I lk [e0,e1,e2,e3] st (S.isRef (S.eL 0))=if e0%4=1 then 1 else 0:=by
  show (if S.evE I lk [e0,e1,e2,e3] st (S.eAnd (S.eL 0) (S.eC 3))=_ then (1:Int) else 0)=_
  rw [hand]
  rfl
 unfold S.rMove
 simp only
 refine ws_if rfl (ok_q (okand _) (ok_c 0)) (fun hz=>?_) (fun hnz=>?_)
 rotate_left
 ·-- no pointer
  have hnp:¬ e0%4=1:=fun hp=>hnz (by
   show (if S.evE I lk [e0,e1,e2,e3] st (S.isRef (S.eL 0))=(0:Int)%4294967296 then (1:Int) else 0)=0
   rw [href,if_pos hp]
   rfl)
  refine ws_val rfl (ok_l 0) (nop _ _ ?_ ?_ (by decide))
  ·show e0=S.mv cf.to_ ρ e0
   unfold S.mv
   rw [if_neg hnp]
  ·intro o ho he
   omega
 have hp:e0%4=1:=Classical.byContradiction fun hnp=>by
  have:S.evE I lk [e0,e1,e2,e3] st (S.eNot (S.isRef (S.eL 0)))=1:=by
   show (if S.evE I lk [e0,e1,e2,e3] st (S.isRef (S.eL 0))=(0:Int)%4294967296 then (1:Int) else 0)=1
   rw [href,if_neg hnp]
   rfl
  rw [hz] at this
  cases this
 refine ws_nil ?_
 refine ws_as rfl (ok_b (by decide) (ok_l 0) (ok_c 2)) ?_
 have ea:S.evE I lk [e0,e1,e2,e3] st (S.eAdr (S.eL 0))=e0/4:=by show S.alu 11 e0 (2%4294967296)=_;exact shr2 _
 rw [ea]
 show S.wpSs I 0 lk false _ [e0,e0/4,e2,e3] st _ _ _
 obtain ⟨a,ha⟩:∃ a,a=e0/4:=⟨_,rfl⟩
 rw [<- ha]
 rw [<- ha] at hwp
 have a0:0<=a/\a<1073741824:=by omega
 have he0:e0=4*a+1:=by omega
 obtain ⟨okW2,evW2⟩:=ev_W hI hc (lk:=lk) (env:=[e0,a,e2,e3]) (st:=st) (n:=2) (by decide) (by decide)
 obtain ⟨okW4,evW4⟩:=ev_W hI hc (lk:=lk) (env:=[e0,a,e2,e3]) (st:=st) (n:=4) (by decide) (by decide)
 rw [hch.m2] at evW2
 rw [hch.m4] at evW4
 have hfr0:=hc.fr0
 have hhf0:=hc.hf0
 have hfrz:=hc.frz
 have eout:S.evE I lk [e0,a,e2,e3] st (S.eLt (S.eSub (S.eL 1) (S.eW 2)) (S.eW 4))=if S.u32m (a-cf.fr)<cf.hf then 1 else 0:=by
  show S.alu 14 (S.alu 2 a (S.evE I lk [e0,a,e2,e3] st (S.eW 2))) (S.evE I lk [e0,a,e2,e3] st (S.eW 4))=_
  rw [evW2,evW4,alu14,alu2]
 have hin:S.u32m (a-cf.fr)<cf.hf↔cf.fr<=a/\a<cf.fr+cf.hf:=by
  unfold S.u32m
  constructor
  ·intro h;omega
  ·intro h;omega
 refine ws_if rfl (ok_q (ok_b (by decide) (ok_b (by decide) (ok_l 1) okW2) okW4) (ok_c 0)) (fun hz2=>?_) (fun hnz2=>?_)
 rotate_left
 ·-- elsewhere
  have hno:¬ (cf.fr<=a/\a<cf.fr+cf.hf):=fun hq=>hnz2 (by
   show (if S.evE I lk [e0,a,e2,e3] st (S.eLt (S.eSub (S.eL 1) (S.eW 2)) (S.eW 4))=(0:Int)%4294967296 then (1:Int) else 0)=0
   rw [eout,if_pos (hin.2 hq)]
   rfl)
  have hnone:S.nw cf.to_ ρ a=none:=by
   cases hq:S.nw cf.to_ ρ a with
   | none=>rfl
   | some ν =>
    exfalso
    obtain ⟨o,ho,eo,_⟩:=nw_range hq
    have:=hc.obs o (hch.sub o ho)
    have hl:=ob_len hc (hch.sub o ho)
    omega
  refine ws_val rfl (ok_l 0) (nop _ _ ?_ ?_ (by decide))
  ·show e0=S.mv cf.to_ ρ e0
   unfold S.mv
   rw [if_pos hp,<- ha,hnone]
  ·intro o ho he
   have:=hc.obs o ho
   have hl:=ob_len hc ho
   omega
 have hat:cf.fr<=a/\a<cf.fr+cf.hf:=Classical.byContradiction fun hq=>by
  have:S.evE I lk [e0,a,e2,e3] st (S.eNot (S.eLt (S.eSub (S.eL 1) (S.eW 2)) (S.eW 4)))=1:=by
   show (if S.evE I lk [e0,a,e2,e3] st (S.eLt (S.eSub (S.eL 1) (S.eW 2)) (S.eW 4))=(0:Int)%4294967296 then (1:Int) else 0)=1
   rw [eout,if_neg (fun h=>hq (hin.1 h))]
   rfl
  rw [hz2] at this
  cases this
 refine ws_nil ?_
 obtain ⟨ob,hob,hT,hobe⟩:∃ o∈cf.O,T o/\e0=4*o.at_+1:=by
  rcases hwp hp with h | h | h
  ·exact h
  ·omega
  ·omega
 have haob:a=ob.at_:=by omega
 subst haob
 obtain ⟨hobok,hob1,hob2⟩:=hc.obs ob hob
 obtain ⟨hd,ws,hws,hd3,hdl⟩:=hobok.head
 have hlen:(ob.ws.length:Int)=hd/32+1:=by rw [hws,hdl];simp
 have hdb:=hobok.word hd (by rw [hws];exact List.mem_cons_self)
 have hw0:ob.ws[0]?=some hd:=by rw [hws];rfl
 have u1:S.u32m (ob.at_+0)=ob.at_:=by unfold S.u32m;omega
 have datA:S.Dat I ob.at_:=hc.frd _ hat.1 hat.2
 have okm:∀ (env:List Int) (st:S.Vw),S.evE I lk env st (S.eL 1)=ob.at_->S.okE I lk env st (S.eM (S.eL 1) 0):=fun env st he=>ok_m (ok_l 1) (by rw [he,u1];exact dat_ok datA)
 refine ws_as rfl (okm _ _ rfl) ?_
 have em:S.evE I lk [e0,ob.at_,e2,e3] st (S.eM (S.eL 1) 0)=st.mem ob.at_:=by
  show st.mem (S.u32m (ob.at_+0))=_
  rw [u1]
 rw [em]
 show S.wpSs I 0 lk false _ [e0,ob.at_,st.mem ob.at_,e3] st _ _ _
 by_cases hmem:ob∈ρ
 ·-- it has been copied
  obtain ⟨ν,hν⟩:=nw_some (t:=cf.to_) hmem
  have hcop:=hch.cop ob hmem ν hν
  obtain ⟨_,hν1,hν2⟩:=nw_of hc hch.sub hob hν
  have hto0:=hc.to0
  have htoz:=hc.toz
  have hsum:=tot_le ρ cf.O hch.nd hch.sub
  have hsum2:=hc.sum
  rw [hcop]
  have hand2:S.evE I lk [e0,ob.at_,4*ν+1,e3] st (S.isRef (S.eL 2))=1:=by
   show (if S.alu 7 (4*ν+1) (3%4294967296)=(1:Int)%4294967296 then (1:Int) else 0)=1
   rw [and3 (by omega) (by omega),if_pos (by omega)]
  refine ws_if rfl (ok_q (ok_b (by decide) (ok_l 2) (ok_c 3)) (ok_c 1)) (fun h=>by rw [hand2] at h;cases h) (fun _=>?_)
  refine ws_val rfl (ok_l 2) (nop _ _ ?_ ?_ (by decide))
  ·show 4*ν+1=S.mv cf.to_ ρ e0
   unfold S.mv
   rw [if_pos hp,show e0/4=ob.at_ by omega,hν]
  ·intro o ho he
   have:=ob_eq hc ho hob (by omega)
   rw [this]
   exact hmem
 have hhd:st.mem ob.at_=hd:=by
  have:=hch.unc ob hob hmem 0 hd hw0
  rw [show ob.at_+((0:Nat):Int)=ob.at_ by omega] at this
  exact this
 rw [hhd]
 have hand2:S.evE I lk [e0,ob.at_,hd,e3] st (S.isRef (S.eL 2))=0:=by
  show (if S.alu 7 hd (3%4294967296)=(1:Int)%4294967296 then (1:Int) else 0)=0
  rw [and3 hdb.1 hdb.2,if_neg (by omega)]
 refine ws_if rfl (ok_q (ok_b (by decide) (ok_l 2) (ok_c 3)) (ok_c 1)) (fun _=>?_) (fun h=>absurd hand2 h)
 refine ws_nil ?_
 refine ws_as rfl (ok_b (by decide) (ok_l 2) (ok_c 5)) ?_
 have es:S.evE I lk [e0,ob.at_,hd,e3] st (S.eShr (S.eL 2) 5)=hd/32:=by show S.alu 11 hd (5%4294967296)=_;exact shr5 _
 rw [es]
 refine ws_as rfl (ok_c 0) ?_
 show S.wpSs I 0 lk false _ [e0,ob.at_,hd/32,0] st _ _ _
 obtain ⟨f,hf⟩:∃ f,f=cf.to_+S.tot ρ:=⟨_,rfl⟩
 have hr29:st.reg 29=f:=by rw [hch.r29,hf]
 have hroom:=tot_room hch.nd hch.sub hob hmem
 have hsum2:=hc.sum
 have hto0:=hc.to0
 have htoz:=hc.toz
 have htot0:=tot_nonneg ρ
 have datT:∀ x,f<=x->x<f+ob.ws.length->S.Dat I x:=fun x h1 h2=>hc.tod x (by omega) (by omega)
 have datF:∀ x,ob.at_<=x->x<ob.at_+ob.ws.length->S.Dat I x:=fun x h1 h2=>hc.frd x (by omega) (by omega)
 have hsep:∀ x y,ob.at_<=x->x<ob.at_+ob.ws.length->f<=y->y<f+ob.ws.length->x≠y:=fun x y h1 h2 h3 h4=>by
  rcases hc.apart with ap | ap <;> omega
 refine ws_wh rfl (fun env st' c k=>∃ i:Nat,i<=ob.ws.length/\k=ob.ws.length-i/\env=[e0,ob.at_,hd/32,(i:Int)]/\CopI cf st f ob.ws i st'/\c<=70+36*i)
  (k0:=ob.ws.length) ⟨0,Nat.zero_le _,rfl,rfl,⟨rfl,rfl,rfl,fun _ _=>rfl,fun j w hj=>by omega⟩,by decide⟩ ?_
 rintro env st' c k ⟨n,hn,rfl,rfl,hC,hcc⟩
 have elt:S.evE I lk [e0,ob.at_,hd/32,(n:Int)] st' (S.eLt (S.eL 2) (S.eL 3))=if hd/32<(n:Int) then 1 else 0:=by
  show S.alu 14 (hd/32) (n:Int)=_
  exact alu14 _ _
 have enot:S.evE I lk [e0,ob.at_,hd/32,(n:Int)] st' (S.eNot (S.eLt (S.eL 2) (S.eL 3)))=if hd/32<(n:Int) then 0 else 1:=by
  show (if S.evE I lk [e0,ob.at_,hd/32,(n:Int)] st' (S.eLt (S.eL 2) (S.eL 3))=(0:Int)%4294967296 then (1:Int) else 0)=_
  rw [elt]
  split <;> rfl
 refine ⟨ok_q (ok_b (by decide) (ok_l 2) (ok_l 3)) (ok_c 0),fun hz3=>?_,fun hnz3=>?_⟩
 rotate_left
 ·-- one word more
  have hlt:n<ob.ws.length:=by
   rcases Nat.lt_or_ge n ob.ws.length with h | h
   ·exact h
   ·exfalso
    rw [enot,if_pos (by omega)] at hnz3
    exact hnz3 rfl
  have hr29':st'.reg 29=f:=by rw [hC.reg];exact hr29
  have ep:S.u32m (S.evE I lk [e0,ob.at_,hd/32,(n:Int)] st' (S.eAdd (S.eR 29) (S.eL 3))+0)=f+n:=by
   show S.u32m (S.alu 1 (st'.reg 29) (n:Int)+0)=_
   rw [hr29',alu1]
   unfold S.u32m
   omega
  have eq_:S.u32m (S.evE I lk [e0,ob.at_,hd/32,(n:Int)] st' (S.eAdd (S.eL 1) (S.eL 3))+0)=ob.at_+n:=by
   show S.u32m (S.alu 1 ob.at_ (n:Int)+0)=_
   rw [alu1]
   unfold S.u32m
   omega
  have hdat1:=datT (f+n) (by omega) (by omega)
  have hdat2:=datF (ob.at_+n) (by omega) (by omega)
  refine ws_put rfl (ok_b (by decide) (ok_r 29) (ok_l 3)) rfl (ok_m (ok_b (by decide) (ok_l 1) (ok_l 3)) (by rw [eq_];exact dat_ok hdat2)) ep ⟨hdat1.2.1,hdat1.2.2.1,hdat1.2.2.2⟩ ?_
  have ev:S.evE I lk [e0,ob.at_,hd/32,(n:Int)] st' (S.eM (S.eAdd (S.eL 1) (S.eL 3)) 0)=st.mem (ob.at_+n):=by
   rw [ev_m,eq_]
   exact hC.mem _ (fun q=>hsep (ob.at_+n) (ob.at_+n) (by omega) (by omega) q.1 (by omega) rfl)
  rw [ev]
  refine ws_as rfl (ok_b (by decide) (ok_l 3) (ok_c 1)) ?_
  have ei:S.evE I lk [e0,ob.at_,hd/32,(n:Int)] (st'.sto (f+n) (st.mem (ob.at_+n))) (S.eAdd (S.eL 3) (S.eC 1))=((n+1:Nat):Int):=by
   show S.alu 1 (n:Int) (1%4294967296)=_
   rw [alu1]
   unfold S.u32m
   omega
  rw [ei]
  refine ws_nil ⟨ob.ws.length-(n+1),by omega,n+1,hlt,rfl,rfl,⟨hC.reg,hC.inp,hC.out,fun x hx=>?_,fun j w hj hw'=>?_⟩,?_⟩
  ·show (if x=f+n then _ else st'.mem x)=_
   rw [if_neg (fun e=>hx (by omega)),hC.mem x (fun q=>hx (by omega))]
  ·show (if f+(j:Int)=f+n then _ else st'.mem (f+(j:Int)))=w
   by_cases c2:j=n
   ·subst c2
    rw [if_pos rfl]
    exact hch.unc ob hob hmem j w hw'
   ·rw [if_neg (by omega)]
    exact hC.new j w (by omega) hw'
  ·have q1:S.coE (S.eNot (S.eLt (S.eL 2) (S.eL 3)))=8:=rfl
   have q2:S.coE (S.eAdd (S.eR 29) (S.eL 3))=3:=rfl
   have q3:S.coE (S.eM (S.eAdd (S.eL 1) (S.eL 3)) 0)=4:=rfl
   have q4:S.coE (S.eAdd (S.eL 3) (S.eC 1))=4:=rfl
   omega
 have hnn:n=ob.ws.length:=by
  rcases Nat.lt_or_ge n ob.ws.length with h | h
  ·exfalso
   rw [enot,if_neg (by omega)] at hz3
   cases hz3
  ·omega
 subst hnn
 have hr29':st'.reg 29=f:=by rw [hC.reg];exact hr29
 have ref:S.evE I lk [e0,ob.at_,hd/32,(ob.ws.length:Int)] st' (S.eRef (S.eR 29))=4*f+1:=by
  show S.alu 8 (S.alu 10 (st'.reg 29) (2%4294967296)) (1%4294967296)=_
  rw [hr29',shl2]
  have e4:S.u32m (f*4)=f*4:=by unfold S.u32m;omega
  rw [e4,or1 (by omega) (by omega) (by omega)]
  omega
 refine ws_put rfl (ok_l 1) rfl (ok_b (by decide) (ok_b (by decide) (ok_r 29) (ok_c 2)) (ok_c 1)) u1 ⟨datA.2.1,datA.2.2.1,datA.2.2.2⟩ ?_
 rw [ref]
 refine ws_set rfl (ok_b (by decide) (ok_r 29) (ok_l 3)) ?_
 have e29:S.evE I lk [e0,ob.at_,hd/32,(ob.ws.length:Int)] (st'.sto ob.at_ (4*f+1)) (S.eAdd (S.eR 29) (S.eL 3))=f+ob.ws.length:=by
  show S.alu 1 (st'.reg 29) (ob.ws.length:Int)=_
  rw [hr29',alu1]
  unfold S.u32m
  omega
 rw [e29]
 refine ws_val rfl (okm _ _ rfl) ?_
 have eret:S.evE I lk [e0,ob.at_,hd/32,(ob.ws.length:Int)] ((st'.sto ob.at_ (4*f+1)).set 29 (f+ob.ws.length)) (S.eM (S.eL 1) 0)=4*f+1:=by
  show (if S.u32m (ob.at_+0)=ob.at_ then 4*f+1 else st'.mem (S.u32m (ob.at_+0)))=_
  rw [u1,if_pos rfl]
 rw [eret]
 have hnw:S.nw cf.to_ (ρ++[ob]) ob.at_=some f:=by rw [hf];exact nw_last (fun x hx e=>hmem (ob_eq hc (hch.sub x hx) hob e ▸ hx)) rfl
 have htot:S.tot (ρ++[ob])=S.tot ρ+ob.ws.length:=by rw [tot_append,S.tot,S.tot,Int.add_zero]
 have hmemv:∀ x,(((st'.sto ob.at_ (4*f+1)).set 29 (f+ob.ws.length)).set 4 (4*f+1)).mem x=if x=ob.at_ then 4*f+1 else st'.mem x:=fun _=>rfl
 have hfar:∀ o∈cf.O,o≠ob->∀ k:Nat,k<o.ws.length->o.at_+(k:Int)≠ob.at_/\¬ (f<=o.at_+(k:Int)/\o.at_+(k:Int)<f+ob.ws.length):=fun o ho hne k hk=>by
  have h1:=hc.dis o ho ob hob hne
  have h2:=(hc.obs o ho).2
  refine ⟨by omega,fun q=>?_⟩
  rcases hc.apart with ap | ap <;> omega
 refine ⟨_,ρ++[ob],rfl,⟨⟨[ob],rfl,fun o ho=>?_⟩,⟨fun o ho=>?_,?_,?_,?_,?_,fun o ho hno k w hw'=>?_,fun o ho ν hν=>?_⟩,fun j h4 h5 h29=>?_,fun x hx hx2=>?_,fun o ho hno ν hν k w hw'=>?_,hC.inp,hC.out⟩,?_,fun o ho he=>?_,?_⟩
 ·simp only [List.mem_cons,List.not_mem_nil,or_false] at ho
  subst ho
  exact hT
 ·rcases List.mem_append.1 ho with ho | ho
  ·exact hch.sub o ho
  ·simp only [List.mem_cons,List.not_mem_nil,or_false] at ho
   subst ho
   exact hob
 ·rw [List.nodup_append]
  refine ⟨hch.nd,by simp,fun x hx y hy=>?_⟩
  simp only [List.mem_cons,List.not_mem_nil,or_false] at hy
  subst hy
  intro e
  subst e
  exact hmem hx
 ·show (f+ob.ws.length:Int)=_
  rw [htot]
  omega
 ·rw [hmemv,if_neg (by omega),hC.mem 2 (by omega)]
  exact hch.m2
 ·rw [hmemv,if_neg (by omega),hC.mem 4 (by omega)]
  exact hch.m4
 ·have hno1:o ∉ ρ:=fun q=>hno (List.mem_append_left _ q)
  have hne:o≠ob:=fun e=>hno (by rw [e];exact List.mem_append_right _ List.mem_cons_self)
  obtain ⟨q1,q2⟩:=hfar o ho hne k (List.getElem?_eq_some_iff.1 hw').1
  rw [hmemv,if_neg q1,hC.mem _ q2]
  exact hch.unc o ho hno1 k w hw'
 ·by_cases hne:o=ob
  ·subst hne
   rw [hnw] at hν
   cases hν
   rw [hmemv,if_pos rfl]
  ·have hoρ:o∈ρ:=by
    rcases List.mem_append.1 ho with ho | ho
    ·exact ho
    ·simp only [List.mem_cons,List.not_mem_nil,or_false] at ho
     exact absurd ho hne
   obtain ⟨ν',hν'⟩:=nw_some (t:=cf.to_) hoρ
   have:=nw_append [ob] hν'
   rw [hν] at this
   cases this
   have hl:=ob_len hc (hch.sub o hoρ)
   obtain ⟨q1,q2⟩:=hfar o (hch.sub o hoρ) hne 0 (by omega)
   rw [show o.at_+((0:Nat):Int)=o.at_ by omega] at q1 q2
   rw [hmemv,if_neg q1,hC.mem _ q2]
   exact hch.cop o hoρ ν hν'
 ·show (if j=4 then _ else if j=29 then _ else st'.reg j)=_
  rw [if_neg h4,if_neg h29,hC.reg]
 ·rw [htot] at hx2
  rw [hmemv,if_neg (fun e=>hx (by omega)),hC.mem x (fun q=>hx2 (by omega))]
 ·have hne:o=ob:=by
   rcases List.mem_append.1 ho with ho | ho
   ·exact absurd ho hno
   ·simpa using ho
  subst hne
  rw [hnw] at hν
  cases hν
  have hk:=(List.getElem?_eq_some_iff.1 hw').1
  rw [hmemv,if_neg (fun e=>hsep o.at_ (f+(k:Int)) (Int.le_refl _) (by omega) (by omega) (by omega) e.symm)]
  exact hC.new k w hk hw'
 ·rw [vset_same]
  unfold S.mv
  rw [if_pos hp,show e0/4=ob.at_ by omega,hnw]
 ·have:=ob_eq hc ho hob (by omega)
  rw [this]
  exact List.mem_append_right _ List.mem_cons_self
 ·rw [htot]
  have q1:S.coE (S.eNot (S.eLt (S.eL 2) (S.eL 3)))=8:=rfl
  have q2:S.coE (S.eL 1)=1:=rfl
  have q3:S.coE (S.eRef (S.eR 29))=7:=rfl
  have q4:S.coE (S.eAdd (S.eR 29) (S.eL 3))=3:=rfl
  have q5:S.coE (S.eM (S.eL 1) 0)=2:=rfl
  simp only [Bool.false_eq_true,if_false]
  omega
end
end
end Go.Proofs.YtlldagdhlfpihaaGreatDoor
