/- Parts. -/
import Derived.Test.YtldbnjajjfgipaaGreatDoorZGFrm
import Derived.BigQuiet
set_option linter.all false
open List renaming getD_eq_getElem?_getD->Ye,getElem?_eq_some_iff->Yg,mem_cons_self->Yv,mem_cons_of_mem->Yy,mem_of_getElem?->Y0,cons_append->Y8,nil_append->Yal,all_eq_true->Ya9,flatMap_cons->Ybf,getElem?_set_ne->Ybg,any_eq_true->Ybz,nodup_cons->Yb7,nodup_nil->Yc4
open Bool renaming and_eq_true->Yu,false_eq_true->Ybn
namespace Go.Proofs.YtldbnjajjfgipaaGreatDoor
open S Go.RowKit
section
structure S.Lo (cf:Cf)(T:Ob->Prop)(X:Int->Prop)(st0:Vw)(p:Int)(ρ:List Ob)(st:Vw):Prop where
 tin:∀o∈ρ,T o
 ch:Ch cf ρ st
 reg:∀j,j≠4->j≠5->j≠29->st.reg j=st0.reg j
 mem:∀a,¬X a->¬(cf.fr<=a/\a<cf.fr+cf.hf)->¬(cf.to_<=a/\a<cf.to_+tot ρ)->st.mem a=st0.mem a
 root:∀a,X a->st.mem a=mv cf.to_ ρ (st0.mem a)/\Cl cf ρ (st0.mem a)
 old:∀o∈ρ,∀ν,nw cf.to_ ρ o.at_=some ν->∀(k:Nat)(w:Int),o.ws[k]?=some w->(ν+(k:Int)<p->st.mem (ν+(k:Int))=mv cf.to_ ρ w/\Cl cf ρ w)/\(p<=ν+(k:Int)->st.mem (ν+(k:Int))=w)
 inp:st.inp=st0.inp
 out:st.out=st0.out
section
variable {I:Img}(hI:I.Ok){cf:Cf}(hc:Cf.Ok I cf){T:Ob->Prop}
include hc
theorem Zsx {o:Ob}{r:List Ob}(a:∀x∈o::r,x∈cf.O)(d:(o::r).Nodup){x:Ob}(c:x∈r):o.at_≠x.at_:=λ e=>by
 have:=Zu4 hc (a o Yv) (a x (Yy _ c)) e;subst this;exact(Yb7.1 d).1 c
theorem Zrg:∀{ρ:List Ob} {t a:Int},(∀o∈ρ,o∈cf.O)->ρ.Nodup->t<=a->a<t+tot ρ->∃o∈ρ,∃(ν:Int)(k:Nat)(w:Int),nw t ρ o.at_=some ν/\a=ν+k/\o.ws[k]?=some w
 | [],t,a,_,_,h1,h2=>by rw[tot] at h2;omega
 | o::r,t,a,hs,hn,h1,h2=>by
  rw[tot] at h2;by_cases c:a<t+o.ws.length
  .obtain⟨k,hk⟩:∃k:Nat,a=t+k:=⟨(a-t).toNat,by omega⟩
   have e:k<o.ws.length:=by omega
   exact⟨o,Yv,t,k,o.ws[k],by rw[nw,if_pos rfl],hk,List.getElem?_eq_getElem e⟩
  .obtain⟨x,d,ν,k,w,e1,e2,e3⟩:=Zrg (ρ:=r) (t:=t+o.ws.length) (a:=a) (λ x d=>hs x (Yy _ d)) (Yb7.1 hn).2 (by omega) (by omega)
   exact⟨x,Yy _ d,ν,k,w,by rw[nw,if_neg (Zsx hc hs hn d)];exact e1,e2,e3⟩
theorem Znz {a:Int}:∀{ρ:List Ob} {t ν:Int} {δ:List Ob},nw t ρ a=none->nw t (ρ++δ) a=some ν->t+tot ρ<=ν
 | [],t,ν,δ,_,h=>by
  obtain⟨_,_,_,h1,_⟩:=Zf4 h;rw[tot];omega
 | o::r,t,ν,δ,hn,h=>by
  rw[nw] at hn;rw[Y8,nw] at h
  split at hn
  .cases hn
  .rename_i c
   rw[if_neg c] at h;have:=Znz hn h;rw[tot];omega
theorem Z62 {t:Int}{ρ:List Ob}(d:∀o∈ρ,o∈cf.O){o:Ob}(c:o∈cf.O)(a:o ∉ ρ):nw t ρ o.at_=none:=by
 cases h:nw t ρ o.at_ with
 | none=>rfl
 | some ν=>exact absurd (Zl2 hc d c h).1 a
include hI
theorem Z2w {X:Int->Prop}(R:∀a,X a->bn cf a){st0:Vw}(E:∀a,X a->WOk cf T (st0.mem a)){p:Int}{ρ:List Ob}{st:Vw}(h:Lo cf T X st0 p ρ st)(h0:cf.to_<=p)(h1:p<cf.to_+tot ρ)(hw:WOk cf T (st.mem p))
 {ρ':List Ob} {f:Vw} (d:Tr cf T ρ (st.args [st.mem p]) ρ' f) (x:Cl cf ρ' (st.mem p)) (D:∀o∈ρ,∀w∈o.ws,WOk cf T w) :
 Lo cf T X st0 (p+1) ρ' (f.sto p (mv cf.to_ ρ' (st.mem p))):=by
 obtain⟨δ,e,U⟩:=d.ext;have t1:tot ρ'=tot ρ+tot δ:=by rw[e,Zbm]
 have p1:=Zw δ;have L:=Zb6 ρ' cf.O d.ch.nd d.ch.sub;have hs:=hc.sum;have M:=hc.to0;have hm:∀a,(f.sto p (mv cf.to_ ρ' (st.mem p))).mem a=if a=p then mv cf.to_ ρ' (st.mem p) else f.mem a:=λ _=>rfl
 have u:∀a,cf.to_<=a->a<cf.to_+cf.hf->¬(cf.fr<=a/\a<cf.fr+cf.hf):=λ a y v q3=>by rcases hc.apart with u|u <;> omega
 refine⟨λ o g=>?_,⟨d.ch.sub,d.ch.nd,d.ch.r29,?_,?_,λ o g A k w l=>?_,λ o g ν r=>?_⟩,λ j K N n=>?_,λ a s F P=>?_,λ a s=>?_,λ o g ν r k w l=>?_,d.inp.trans h.inp,d.out.trans h.out⟩
 .rw[e] at g
  exact(List.mem_append.1 g).elim (h.tin o) (U o)
 .rw[hm,if_neg (by omega)];exact d.ch.m2
 .rw[hm,if_neg (by omega)];exact d.ch.m4
 .have:=hc.obs o g
  have B:=(Yg.1 l).1;rw[hm,if_neg (λ q=>u p h0 (by omega) ⟨by omega,by omega⟩)];exact d.ch.unc o g A k w l
 .have:=hc.obs o (d.ch.sub o g)
  have hl:=Zhm hc (d.ch.sub o g);rw[hm,if_neg (λ q=>u p h0 (by omega) ⟨by omega,by omega⟩)];exact d.ch.cop o g ν r
 .show f.reg j=st0.reg j
  rw[d.reg j K N n,<- h.reg j K N n]
  show(if 4<=j/\j<4+(1:Nat) then _ else st.reg j)=_
  rw[if_neg (by omega)]
 .rw[hm,if_neg (by omega),d.mem a F (by omega)]
  exact h.mem a s F (by omega)
 .have hO:=R a s
  obtain⟨y,v⟩:=h.root a s;rw[hm,if_neg (λ q=>hO.2.1 ⟨by omega,by omega⟩),d.mem a hO.1 (λ q=>hO.2.1 ⟨by omega,by omega⟩)]
  show st.mem a=_/\_
  rw[y];exact⟨(Zp7 hI hc e (E a s) v d.ch.sub).symm,λ o m C=>d.sub hc (v o m C)⟩
 .by_cases c:o∈ρ
  .obtain⟨ν',hν'⟩:=Zfm (t:=cf.to_) c
   have J:=Zei δ hν';rw[<- e,r] at J
   cases J
   obtain⟨_,y,v⟩:=Zl2 hc h.ch.sub (h.ch.sub o c) hν';have B:=(Yg.1 l).1;obtain⟨g1,g2⟩:=h.old o c _ hν' k w l;by_cases z:ν+(k:Int)=p
   .have hwe:w=st.mem p:=by rw[<- z];exact(g2 (by omega)).symm
    refine⟨λ _=>?_,λ q=>by omega⟩;rw[hm,if_pos z,hwe];exact⟨rfl,x⟩
   .have hsame:(f.sto p (mv cf.to_ ρ' (st.mem p))).mem (ν+(k:Int))=st.mem (ν+(k:Int)):=by
     rw[hm,if_neg z,d.mem _ (u _ (by omega) (by omega)) (by omega)];rfl
    rw[hsame];refine⟨λ q=>?_,λ q=>g2 (by omega)⟩;obtain⟨Q,G⟩:=g1 (by omega);rw[Q];exact⟨(Zp7 hI hc e (D o c w (Y0 l)) G d.ch.sub).symm,λ o m C=>d.sub hc (G o m C)⟩
  .have P:=Znz hc (Z62 hc (t:=cf.to_) h.ch.sub (d.ch.sub o g) c) (e ▸ r)
   refine⟨λ q=>by omega,λ q=>?_⟩;rw[hm,if_neg (by omega)];exact d.new o g c ν r k w l
theorem Zzc {W:Nat}(J:Seg I kMove W (bItems rMove)){dep lk:Int}{behind:Bool}(M:19<=dep){X:Int->Prop}(P:∀a,X a->bn cf a){st0:Vw}(A:∀a,X a->WOk cf T (st0.mem a))
 (z:∀o∈cf.O,T o->∀w∈o.ws,WOk cf T w) {ρ:List Ob} {st:Vw} (L:Lo cf T X st0 cf.to_ ρ st)
 {r:List BS} {c:Nat} {Q:List Int->Vw->Nat->Prop} {R:BO->Nat->Prop}
 (U:∀ρ' f (g:Nat),Lo cf T X st0 (cf.to_+tot ρ') ρ' f->0<=tot ρ'-tot ρ->(g:Int)<=c+10+130*tot ρ'+40*(tot ρ'-tot ρ)->wpSs I dep lk behind r [cf.to_+tot ρ'] f g Q R) :
 wpSs I dep lk behind (sWh (eLt (eL 0) (eR 29)) bScan::r) [cf.to_] st c Q R:=by
 have hs:=hc.sum;refine Zu1 rfl (λ env f g k=>∃(i:Nat)(ρ':List Ob),(i:Int)<=tot ρ'/\(k:Int)=cf.hf-i/\env=[cf.to_+i]/\Lo cf T X st0 (cf.to_+i) ρ' f/\0<=tot ρ'-tot ρ/\(g:Int)<=c+130*i+40*(tot ρ'-tot ρ))
  (k0:=cf.hf.toNat) ⟨0,ρ,Zw ρ,by have:=hc.hf0;omega,by simp,by simpa using L,by omega,by simp⟩ ?_
 rintro env f g k ⟨i,ρ',hi,hk,rfl,d,hg,V⟩;have D:=Zb6 ρ' cf.O d.ch.nd d.ch.sub;have F:=hc.toz;have E:=hc.to0;have B:coE (eLt (eL 0) (eR 29))=3:=rfl;have n:evE I lk [cf.to_+(i:Int)] f (eLt (eL 0) (eR 29))=if cf.to_+(i:Int)<cf.to_+tot ρ' then 1 else 0:=by
  show alu 14 (cf.to_+(i:Int)) (f.reg 29)=_
  rw[d.ch.r29];exact Zcj _ _
 refine⟨Zfl (by decide) (Zcz 0) (Z2q 29),λ C=>?_,λ p=>?_⟩
 .have he:(i:Int)=tot ρ':=by
   refine Y_c λ h=>?_
   rw[n,if_pos (by omega)] at C
   cases C
  have:=U ρ' f (g+coE (eLt (eL 0) (eR 29))+4) (he ▸ d) hg (by rw[B];omega);rw[he];exact this
 .have hlt:(i:Int)<tot ρ':=Y_c λ h=>by
   rw[n,if_neg (by omega)] at p;exact p rfl
  obtain⟨o,s,ν,j,w,N,K,G⟩:=Zrg hc (t:=cf.to_) (a:=cf.to_+i) d.ch.sub d.ch.nd (by omega) (by omega);have x:f.mem (cf.to_+i)=w:=by
   have:=(d.old o s ν N j w G).2 (by omega);rw[K];exact this
  have l:∀o∈ρ',∀w∈o.ws,WOk cf T w:=λ o s=>z o (d.ch.sub o s) (d.tin o s)
  have q:WOk cf T (f.mem (cf.to_+i)):=by
   rw[x];exact l o s w (Y0 G)
  refine Zny hI hc J M d.ch (hc.tod _ (by omega) (by omega)) q λ ρ2 Y c2 m v u=>?_
  have y:=Z2w hI hc P A d (by omega) (by omega) q m v l;obtain⟨δ,e,_⟩:=m.ext;have t1:tot ρ2=tot ρ'+tot δ:=by rw[e,Zbm]
  have p1:=Zw δ;refine⟨k-1,by omega,i+1,ρ2,by omega,by omega,?_,?_,by omega,by rw[B] at u;omega⟩
  .rw[show cf.to_+((i+1:Nat):Int)=cf.to_+i+1 from by omega]
  .rw[show cf.to_+((i+1:Nat):Int)=cf.to_+i+1 from by omega]
   exact y
end
end
section
theorem Zn0:chkB rCollect=0:=by kernel_rfl
theorem Z1a {env:List Int}(h:(env.length:Int)=1):∃a,env=[a]:=by
 match env,h with
 | [a],_=>exact⟨a,rfl⟩
 | [],h=>simp at h
 | _::_::_,h=>simp only[List.length_cons] at h;omega
def S.RX (I:Img)(mem:Int->Int)(cnt n:Nat)(x:Int):Prop:=((x=5\/(16<=x/\x<16+cnt))\/FX mem (mem 6) n x)\/(1312<=x/\x<I.lab kCode)
structure S.dm (I:Img)(cf:Cf)(T:Ob->Prop)(cnt n:Nat)(mem:Int->Int):Prop where
 m2:mem 2=cf.fr
 m3:mem 3=cf.to_
 m4:mem 4=cf.hf
 obj:∀o∈cf.O,∀(k:Nat)(w:Int),o.ws[k]?=some w->mem (o.at_+(k:Int))=w
 m8:mem 8=cnt
 c16:cnt<=16
 code1:1312<=I.lab kCode
 codef:I.lab kCode<=cf.fr
 codet:I.lab kCode<=cf.to_
 dat:∀x,1312<=x->x<I.lab kCode->Dat I x
 fm:(mem 6=0/\n=0)\/(mem 6≠0/\dl I cf T mem (mem 6) n/\∀j:Nat,j<=n->mem 6+j≠5/\¬(16<=mem 6+j/\mem 6+j<16+cnt))
 root:∀x,RX I mem cnt n x->WOk cf T (mem x)
 tobj:∀o∈cf.O,T o->∀w∈o.ws,WOk cf T w
structure S.Cd (cf:Cf)(T:Ob->Prop)(X:Int->Prop)(st:Vw)(ρ:List Ob)(st':Vw):Prop where
 tin:∀o∈ρ,T o
 sub:∀o∈ρ,o∈cf.O
 nd:ρ.Nodup
 m2:st'.mem 2=cf.to_
 m3:st'.mem 3=cf.fr
 r26:st'.reg 26=cf.to_+tot ρ
 r27:st'.reg 27=cf.to_+cf.hf
 reg:∀j,j≠4->j≠5->j≠26->j≠27->j≠29->st'.reg j=st.reg j
 mem:∀a,a≠2->a≠3->¬X a->¬(cf.fr<=a/\a<cf.fr+cf.hf)->¬(cf.to_<=a/\a<cf.to_+tot ρ)->st'.mem a=st.mem a
 root:∀a,X a->st'.mem a=mv cf.to_ ρ (st.mem a)/\Cl cf ρ (st.mem a)
 new:∀o∈ρ,∀ν,nw cf.to_ ρ o.at_=some ν->∀(k:Nat)(w:Int),o.ws[k]?=some w->st'.mem (ν+(k:Int))=mv cf.to_ ρ w/\Cl cf ρ w
 inp:st'.inp=st.inp
 out:st'.out=st.out
def S.cd (I:Img)(cf:Cf)(T:Ob->Prop)(cnt n:Nat)(st:Vw)(o:BO)(k:Nat):Prop :=
 ∃st' ρ,o=.ret st'/\Cd cf T (RX I st.mem cnt n) st ρ st'/\(k:Int)<=700+130*(cnt+(I.lab kCode-1312))+10100*n+170*tot ρ
section
variable {I:Img}(hI:I.Ok){cf:Cf}(hc:Cf.Ok I cf){T:Ob->Prop}
include hI hc
theorem Zck {x:Int}(h0:4<x)(h1:x<1312):bn cf x:=⟨λ q=>by have:=hc.fr0;omega,λ q=>by have:=hc.to0;omega,by omega,by omega⟩
theorem Z63 {m c:Int->Int}{a:Int}{n:Nat}(h:∀j:Nat,j<n->c (a+1+j)=m (a+1+j))(x:Int):FX c a n x↔FX m a n x:=by
 constructor
 .rintro⟨j,hj,g⟩
  exact⟨j,hj,h j hj ▸ g⟩
 .rintro⟨j,hj,g⟩
  exact⟨j,hj,(h j hj).symm ▸ g⟩
theorem Zn1 {iM iS iF iC:Nat}(X:Seg I kMove iM (bItems rMove))(hS:Seg I kScan iS (bItems rScan))(hF:Seg I kFrame iF (bItems rFrame))(hC:Seg I kCollect iC (bItems rCollect)){st:Vw}{cnt n:Nat}(h:dm I cf T cnt n st.mem) :
 Real I kCollect false st 72 (λ _ o k=>cd I cf T cnt n st o k):=by
 refine Zg4 hI rCollect Zn0 hC (dep:=56) (by decide) st _ λ lk env _ _ hl hp=>?_
 obtain⟨E,rfl⟩:=Z1a hl;have hs:=hc.sum;have f8:=hI.size2;have f0:=hc.fr0;have f4:=hc.to0;have g5:=hc.hf0;have f2:=hc.frz;have f5:=hc.toz;have b4:=h.code1;have b3:=h.codef;have f1:=h.c16;unfold rCollect;simp only;obtain⟨o3,v3⟩:=Zu6 hI hc (lk:=lk) (env:=[E]) (st:=st) (n:=3) (by decide) (by decide);refine Zrd rfl o3 ?_;rw[v3,h.m3];have b2:Ch cf [] (st.set 29 cf.to_):=⟨(λ o r=>by cases r),Yc4,(Zj _ _ _).trans (by rw[tot,Int.add_zero]),h.m2,h.m4,λ o r _ k w P=>h.obj o r k w P,λ o r=>by cases r⟩
 have a9:Sc cf T (λ _=>False) [] (st.set 29 cf.to_) [] (st.set 29 cf.to_):=Sc.refl hI hc (λ _ q=>q) b2;refine Zl3 hI hc X hS (dep:=56) (by decide) a9 (a:=5) (b:=6) (l:=[eC 5,eC 6]) rfl ⟨Zfa 5,Zfa 6,trivial⟩ rfl (by decide) (λ x h1 h2=>⟨hc.low x (by omega) (by omega),Zck hI hc (by omega) (by omega)⟩)
  (λ x h1 h2=>h.root x (.inl (.inl (.inl (by omega))))) (λ x g=>g.elim) λ ρ1 K c1 y g3 M=>?_
 replace y:=Zhn hI hc (Y:=λ x=>x=5) (λ x=>⟨λ q=>by rcases q with q|q;exact q.elim;omega,λ q=>.inr (by omega)⟩) y
 have Z:∀x:Int,0<=x->x<1312->x≠5->K.mem x=st.mem x:=λ x h1 h2 h3=>y.mem x h3 (λ q=>by omega) (λ q=>by simp only[tot] at q;omega)
 obtain⟨o8,v8⟩:=Zu6 hI hc (lk:=lk) (env:=[E]) (st:=K) (n:=8) (by decide) (by decide);rw[Z 8 (by decide) (by decide) (by decide),h.m8] at v8;have c9:evEs I lk [E] K [eC 16,eAdd (eC 16) (eW 8)]=[16,16+(cnt:Int)]:=by
  show [16%4294967296,alu 1 (16%4294967296) (evE I lk [E] K (eW 8))]=_
  rw[v8,Zar];unfold u32m
  congr 2
  omega
 refine Zl3 hI hc X hS (dep:=56) (by decide) y (a:=16) (b:=16+cnt) (l:=[eC 16,eAdd (eC 16) (eW 8)]) rfl ⟨Zfa 16,Zfl (by decide) (Zfa 16) o8,trivial⟩ c9 (by omega)
  (λ x h1 h2=>⟨hc.low x (by omega) (by omega),Zck hI hc (by omega) (by omega)⟩) (λ x h1 h2=>h.root x (.inl (.inl (.inr ⟨h1,h2⟩)))) (λ x g=>⟨Zck hI hc (by omega) (by omega),h.root x (.inl (.inl (.inl g))),by omega⟩) λ ρ2 f c2 m f6 L=>?_
 have G:∀x:Int,0<=x->x≠5->¬(16<=x/\x<16+cnt)->¬(cf.fr<=x/\x<cf.fr+cf.hf)->¬(cf.to_<=x/\x<cf.to_+cf.hf)->f.mem x=st.mem x:=λ x h1 h2 h3 h4 h5=>m.mem x (λ q=>q.elim h2 h3) h4 (λ q=>by
  have:=Zb6 ρ2 cf.O m.ch.nd m.ch.sub;simp only[tot] at q;exact h5 ⟨by omega,by omega⟩)
 obtain⟨o6,v6⟩:=Zu6 hI hc (lk:=lk) (env:=[E]) (st:=f) (n:=6) (by decide) (by decide);rw[G 6 (by decide) (by decide) (by omega) (by omega) (by omega)] at v6;have q1:coEs [eC 5,eC 6]=4:=rfl;have q2:coEs [eC 16,eAdd (eC 16) (eW 8)]=8:=rfl;have q3:coE (eW 3)=3:=rfl;have q6:coE (eW 6)=3:=rfl;have q7:coEs [eW 6]=3:=rfl;have q8:coEs [eC 1312,eA kCode]=4:=rfl;have q9:coE (eW 2)=3:=rfl;have rest:∀(ρ3:List Ob)(B:Vw)(c3:Nat),Sc cf T (λ x=>(x=5\/(16<=x/\x<16+cnt))\/FX st.mem (st.mem 6) n x) [] (st.set 29 cf.to_) ρ3 B->(c3:Int)<=300+130*cnt+10100*n+40*tot ρ3 ->
  wpSs I 56 lk false [sDo (eF kScan [eC 1312,eA kCode]),sAs 0 (eW 3),sWh (eLt (eL 0) (eR 29)) bScan,sAs 0 (eW 2),sKeep 2 (eW 3),sKeep 3 (eL 0),sSet 26 (eR 29),sSet 27 (eAdd (eW 2) (eW 4))] [E] B c3
   (λ _ e5 c'=>cd I cf T cnt n st (.ret e5) (c'+(if false=true then 5 else 3))) (λ o k=>cd I cf T cnt n st o k):=by
  intro ρ3 B c3 F g0;have A:∀x,FX st.mem (st.mem 6) n x->32<=x/\x<1056:=λ x q=>by
   have:=Zdp hI hc q;have hn:n<=31:=by
    rcases h.fm with⟨_,rfl⟩|⟨_,hf,_⟩
    .omega
    .exact hf.n31
   omega
  refine Zl3 hI hc X hS (dep:=56) (by decide) F (a:=1312) (b:=I.lab kCode) (l:=[eC 1312,eA kCode]) rfl ⟨Zfa 1312,Z8l _,trivial⟩ rfl (by omega)
   (λ x h1 h2=>⟨h.dat x h1 h2,⟨λ q=>by omega,λ q=>by have:=h.codet;omega,by omega,by omega⟩⟩) (λ x h1 h2=>h.root x (.inr ⟨h1,h2⟩))
   (λ x g=>⟨?_,h.root x (.inl g),?_⟩) λ ρ4 Q c4 e f9 b1=>?_
  .rcases g with(rfl|q) | q
   .exact Zck hI hc (by decide) (by decide)
   .exact Zck hI hc (by omega) (by omega)
   .have:=A x q
    exact Zck hI hc (by omega) (by omega)
  .rcases g with(rfl|q) | q
   .omega
   .omega
   .have:=A x q
    omega
  have a4:∀a,RX I st.mem cnt n a->bn cf a:=λ a g=>by
   rcases g with((rfl|q) | q) | q
   .exact Zck hI hc (by decide) (by decide)
   .exact Zck hI hc (by omega) (by omega)
   .have:=A a q
    exact Zck hI hc (by omega) (by omega)
   .exact⟨λ q2=>by omega,λ q2=>by have:=h.codet;omega,by omega,by omega⟩
  have e6:Q.mem 3=cf.to_:=by
   rw[e.mem 3 (λ q=>by
    rcases q with((q|q) | q) | q
    .omega
    .omega
    .have:=A 3 q;omega
    .omega) (λ q=>by omega) (λ q=>by simp only[tot] at q;omega)]
   exact h.m3
  obtain⟨d9,a1⟩:=Zu6 hI hc (lk:=lk) (env:=[E]) (st:=Q) (n:=3) (by decide) (by decide);rw[e6] at a1;refine Zfb rfl d9 ?_;rw[a1];have a6:[E].set (Int.toNat 0) cf.to_=[cf.to_]:=rfl;rw[a6];obtain⟨δ,eδ,hδ⟩:=e.ext;rw[Yal] at eδ;have hL:Lo cf T (RX I st.mem cnt n) (st.set 29 cf.to_) cf.to_ ρ4 Q:=⟨λ o r=>hδ o (eδ ▸ r),e.ch,e.reg,λ a g W hb=>e.mem a g W (λ q=>hb (by simp only[tot] at q;omega)),e.root,
   λ o r ν hν k w P=>⟨λ q=>by
    have:=(Zl2 hc e.ch.sub (e.ch.sub o r) hν).2.1;omega,λ _=>e.new o r (λ q=>by cases q) ν hν k w P⟩,e.inp,e.out⟩
  refine Zzc hI hc X (by decide) a4 (st0:=st.set 29 cf.to_) (λ a W=>h.root a W) h.tobj hL λ ρ5 t c5 c f7 d0=>?_
  have e4:=Zb6 ρ5 cf.O c.ch.nd c.ch.sub;have t5:=Zw ρ5;have a8:t.mem 3=cf.to_:=by
   rw[c.mem 3 (λ q=>by
    rcases q with((q|q) | q) | q
    .omega
    .omega
    .have:=A 3 q;omega
    .omega) (λ q=>by omega) (λ q=>by omega)]
   exact h.m3
  obtain⟨o2,v2⟩:=Zu6 hI hc (lk:=lk) (env:=[cf.to_+tot ρ5]) (st:=t) (n:=2) (by decide) (by decide);refine Zfb rfl o2 ?_;rw[v2,c.ch.m2];have N:[cf.to_+tot ρ5].set (Int.toNat 0) cf.fr=[cf.fr]:=rfl;rw[N];obtain⟨d1,c6⟩:=Zu6 hI hc (lk:=lk) (env:=[cf.fr]) (st:=t) (n:=3) (by decide) (by decide);have d2:=hc.low 2 (by decide) (by decide);have d3:=hc.low 3 (by decide) (by decide);refine Zre (a:=eC 2) rfl (Zfa 2) rfl d1 (p:=2) rfl d2.2 ?_;rw[c6,a8];refine Zre (a:=eC 3) rfl (Zfa 3) rfl (Zcz 0) (p:=3) rfl d3.2 ?_;have c8:∀st,evE I lk [cf.fr] st (eL 0)=cf.fr:=λ _=>rfl
  rw[c8];refine Zrd rfl (Z2q 29) ?_;have a2:evE I lk [cf.fr] ((t.sto 2 cf.to_).sto 3 cf.fr) (eR 29)=cf.to_+tot ρ5:=c.ch.r29;rw[a2];obtain⟨z,V⟩:=Yx (((t.sto 2 cf.to_).sto 3 cf.fr).set 26 (cf.to_+tot ρ5));have u:∀a,z.mem a=if a=3 then cf.fr else if a=2 then cf.to_ else t.mem a:=λ a=>by rw[V];rfl
  rw[<- V];obtain⟨c0,e7⟩:=Zu6 hI hc (lk:=lk) (env:=[cf.fr]) (st:=z) (n:=2) (by decide) (by decide);obtain⟨b6,d8⟩:=Zu6 hI hc (lk:=lk) (env:=[cf.fr]) (st:=z) (n:=4) (by decide) (by decide);refine Zrd rfl (Zfl (by decide) c0 b6) (Zbl ?_);have b0:evE I lk [cf.fr] z (eAdd (eW 2) (eW 4))=cf.to_+cf.hf:=by
   show alu 1 (evE I lk [cf.fr] z (eW 2)) (evE I lk [cf.fr] z (eW 4))=_
   rw[e7,d8,u,u,if_neg (by decide),if_pos rfl,if_neg (by decide),if_neg (by decide),c.ch.m4,Zar];unfold u32m;omega
  rw[b0];have d6:coE (eC 2)=2:=rfl;have d5:coE (eC 3)=2:=rfl;have d4:coE (eL 0)=1:=rfl;have b5:coE (eR 29)=1:=rfl;have d7:coE (eAdd (eW 2) (eW 4))=7:=rfl;have C:∀(st:Vw)(j v:Int),(st.set j v).mem=st.mem:=λ _ _ _=>rfl
  have J:∀a,RX I st.mem cnt n a->a≠2/\a≠3:=λ a g=>by
   rcases g with((rfl|q) | q) | q
   .omega
   .omega
   .have:=A a q;omega
   .omega
  refine⟨_,ρ5,rfl,⟨c.tin,c.ch.sub,c.ch.nd,?_,?_,?_,?_,λ j h4 h5 e3 e1 a7=>?_,λ a b7 b8 g e8 e2=>?_,λ a g=>?_,λ o r ν hν k w P=>?_,by rw[V];exact c.inp,by rw[V];exact c.out⟩,?_⟩
  .rw[C,u];rfl
  .rw[C,u];rfl
  .rw[V];rfl
  .rfl
  .rw[V]
   show(if j=27 then _ else if j=26 then _ else t.reg j)=_
   rw[if_neg e1,if_neg e3,c.reg j h4 h5 a7]
   show(if j=29 then _ else st.reg j)=_
   rw[if_neg a7]
  .rw[C,u,if_neg b8,if_neg b7]
   exact c.mem a g e8 e2
  .obtain⟨n2,n3⟩:=J a g
   rw[C,u,if_neg n3,if_neg n2];exact c.root a g
  .obtain⟨_,g1,g2⟩:=Zl2 hc c.ch.sub (c.ch.sub o r) hν
   have g4:=(Yg.1 P).1;rw[C,u,if_neg (by omega),if_neg (by omega)];exact(c.old o r ν hν k w P).1 (by omega)
  .rw[q3] at d0
   rw[q8] at b1;rw[q9,d6,d5,d4,b5,d7];simp only[Ybn,if_false];have hd:(if (1312:Int)<I.lab kCode then I.lab kCode-1312 else 0)=I.lab kCode-1312:=by split <;> omega
   rw[hd] at b1;have b9:coE (eW 3)=3:=rfl;rw[b9];omega
 refine Zl1 rfl o6 (λ hz=>Zbl ?_) (λ a3=>?_)
 .rw[v6] at hz
  have e9:n=0:=by
   rcases h.fm with⟨_,q⟩|⟨q,_⟩
   .exact q
   .exact absurd hz q
  subst e9;refine rest ρ2 f _ (Zhn hI hc (λ x=>⟨.inl,λ q=>q.resolve_right λ⟨j,D,_⟩=>by omega⟩) (Zhn hI hc (λ x=>Iff.rfl) m)) ?_;rw[q1,q3] at M;rw[q2] at L;rw[q6];simp only[tot] at *;have hd:(if (16:Int)<16+cnt then 16+(cnt:Int)-16 else 0)=cnt:=by split <;> omega
  rw[hd] at L;rw[if_pos (by decide)] at M;omega
 .rw[v6] at a3
  obtain⟨_,hf,U⟩:=h.fm.resolve_left λ q=>a3 q.1
  have hf0:=hf.a0;have f3:=hf.n31;obtain⟨a,W⟩:=Yx (st.mem 6);rw[<- W] at hf U hf0 v6;have same:∀j:Nat,j<=n->f.mem (a+j)=st.mem (a+j):=λ j D=>by
   obtain⟨_,_,r⟩:=hf.rd j D;exact G _ (by omega) (U j D).1 (U j D).2 r.1 r.2.1
  have s:∀j:Nat,j<n->f.mem (a+1+j)=st.mem (a+1+j):=λ j D=>by
   have:=same (j+1) (by omega);rw[show a+((j+1:Nat):Int)=a+1+j from by omega] at this;exact this
  have R:∀x:Int,32<=x->x<1056->f.mem x=st.mem x:=λ x h1 h2=>G x (by omega) (by omega) (by omega) (by omega) (by omega)
  have c7:dl I cf T f.mem a n:=⟨hf.a0,hf.n31,by rw[<- hf.len];simpa using same 0 (by omega),hf.rd,hf.off,λ j D=>by rw[s j D];exact hf.word j D,
   λ j i D hi hb=>by rw[R _ (by omega) (by omega)];rw[s j D] at hb;exact hf.slot j i D hi hb⟩
  refine Z2s (l:=[eW 6]) rfl ⟨o6,trivial⟩ (d:=56) (T:=λ _ o k=>di cf T a n ρ2 (f.args [a]) o k) (by
   rw[show evEs I lk [E] f [eW 6]=[a] from by show [evE I lk [E] f (eW 6)]=_;rw[v6]];exact Zsw hI hc X hS hF (st:=f.args [a]) (a:=a) (Zu9 hI hc m.ch rfl rfl) rfl c7) (by decide) λ ret o k hR=>?_
  obtain⟨B,ρ3,rfl,F,P⟩:=hR;have h3:=Zvc hI hc (by simp) F;refine Zbl (rest ρ3 B _ (Zhn hI hc (λ x=>?_) (Sc.trans hI hc m h3 (λ x g q=>?_) (λ x g=>Zck hI hc (by omega) (by omega)) (λ x g=>?_) (λ x g=>h.root x (.inl (.inl ?_))))) ?_)
  .rw[<- W]
   exact or_congr Iff.rfl (Z63 hI hc s x)
  .have:=Zdp hI hc q
   omega
  .have:=Zdp hI hc g
   exact Zck hI hc (by omega) (by omega)
  .exact g
  .rw[q1,q3] at M
   rw[q2] at L;rw[q6,q7];have hd:(if (16:Int)<16+cnt then 16+(cnt:Int)-16 else 0)=cnt:=by split <;> omega
   rw[hd] at L;rw[if_pos (by decide)] at M;simp only[tot] at *;have a5:(evEs I lk [E] f [eW 6]).length=1:=rfl;rw[a5];omega
end
end
section
theorem Zn2:chkB rReserve=0:=by kernel_rfl
def S.dj (I:Img)(cf:Cf)(T:Ob->Prop)(cnt n:Nat)(want:Int)(st:Vw)(o:BO)(k:Nat):Prop :=
 (want<=st.reg 27-st.reg 26/\o=.ret st/\k<=40) \/
 (st.reg 27-st.reg 26<want/\∃st' ρ,Cd cf T (RX I st.mem cnt n) st ρ st'/\((want<=cf.hf-tot ρ/\o=.ret st')\/(cf.hf-tot ρ<want/\o=.halt 255 st')) /\
  (k:Int)<=800+130*(cnt+(I.lab kCode-1312))+10100*n+170*tot ρ)
theorem Zzd (st:Vw):st.args []=st:=by
 have:(st.args []).reg=st.reg:=by
  funext j
  show(if 4<=j/\j<4+(0:Nat) then _ else st.reg j)=_
  rw[if_neg (by omega)]
 cases st
 show Vw.mk _ _ _ _=_
 congr
section
variable {I:Img}(hI:I.Ok){cf:Cf}(hc:Cf.Ok I cf){T:Ob->Prop}
include hI hc
theorem Zn3 {iM N R K P:Nat}(F:Seg I kMove iM (bItems rMove))(Q:Seg I kScan N (bItems rScan))(hF:Seg I kFrame R (bItems rFrame))(V:Seg I kCollect K (bItems rCollect))(v:Seg I kReserve P (bItems rReserve))
 {st:Vw} {cnt n:Nat} (h:dm I cf T cnt n st.mem) {need spare:Int} (L:st.reg 4=need) (M:st.mem 7=spare) (X:0<=need/\0<=spare/\need+spare<4294967296) (U:0<=st.reg 26/\st.reg 26<=st.reg 27/\st.reg 27<4294967296) :
 Real I kReserve false st 88 (λ _ o k=>dj I cf T cnt n (need+spare) st o k):=by
 refine Zg4 hI rReserve Zn2 v (dep:=72) (by decide) st _ λ lk env _ _ Y hp=>?_
 obtain⟨c,rfl⟩:=Z1a Y;have h0:c=st.reg 4:=hp 0 (show(0:Int)<1 by decide);rw[L] at h0;subst h0;have E:=hc.toz;have D:=hc.to0;have W:=hc.hf0;unfold rReserve;simp only;obtain⟨G,J⟩:=Zu6 hI hc (lk:=lk) (env:=[c]) (st:=st) (n:=7) (by decide) (by decide);refine Zfb rfl (Zfl (by decide) (Zcz 0) G) ?_;have y:evE I lk [c] st (eAdd (eL 0) (eW 7))=c+spare:=by
  show alu 1 c (evE I lk [c] st (eW 7))=_
  rw[J,M,Zar];unfold u32m;omega
 rw[y];have u:[c].set (Int.toNat 0) (c+spare)=[c+spare]:=rfl;rw[u];have a:∀st:Vw,evE I lk [c+spare] st eShort=if u32m (st.reg 27-st.reg 26)<c+spare then 1 else 0:=λ st=>Zcj _ _
 have e:∀st:Vw,okE I lk [c+spare] st eShort:=λ st=>Zfl (by decide) (Zfl (by decide) (Z2q 27) (Z2q 26)) (Zcz 0)
 have x:coE (eAdd (eL 0) (eW 7))=5:=rfl;have z:coE eShort=5:=rfl;have B:coEs ([]:List BE)=0:=rfl;have Z:coE (eC 255)=2:=rfl;have A:u32m (st.reg 27-st.reg 26)=st.reg 27-st.reg 26:=by unfold u32m;omega
 refine Zl1 rfl (e st) (λ p=>Zbl (Zbl ?_)) (λ f=>?_)
 .rw[a,A] at p
  have:¬st.reg 27-st.reg 26<c+spare:=λ q=>by rw[if_pos q] at p;cases p
  refine .inl ⟨by omega,rfl,?_⟩;rw[x,z]
  decide
 .rw[a,A] at f
  have s:st.reg 27-st.reg 26<c+spare:=Y_c λ q=>by rw[if_neg q] at f;exact f rfl
  refine Z2s (l:=[]) rfl trivial (d:=72) (T:=λ _ o k=>cd I cf T cnt n (st.args []) o k) (Zn1 hI hc F Q hF V (st:=st.args []) h) (by decide) λ ret o k v=>?_
  rw[Zzd] at v;obtain⟨j,ρ,rfl,g,hk⟩:=v;have r:u32m (j.reg 27-j.reg 26)=cf.hf-tot ρ:=by
   have C:=Zb6 ρ cf.O g.nd g.sub;have hs:=hc.sum;have t0:=Zw ρ;rw[g.r26,g.r27];unfold u32m;omega
  have m:(evEs I lk [c+spare] st []).length=0:=rfl;refine Zl1 rfl (e j) (λ p=>Zbl (Zbl (Zbl ?_))) (λ f=>?_)
  .rw[a,r] at p
   have:¬cf.hf-tot ρ<c+spare:=λ q=>by rw[if_pos q] at p;cases p
   refine .inr ⟨s,j,ρ,g,.inl ⟨by omega,rfl⟩,?_⟩;rw[x,z,B,m];simp only[Ybn,if_false];omega
  .rw[a,r] at f
   have t:cf.hf-tot ρ<c+spare:=Y_c λ q=>by rw[if_neg q] at f;exact f rfl
   refine Z44 rfl (Zfa 255) (.inr ⟨s,j,ρ,g,.inr ⟨t,rfl⟩,?_⟩);rw[x,z,B,Z,m];omega
end
section
variable {I:Img}(hI:I.Ok)
include hI
end
end
section
def S.dp (st:Vw)(m:Int):Vw:={ st with mem:=λ a=>if a=8 then(if 6<m then 8 else m+1) else if a=6 then 0 else if a=16 then st.reg 1 else if a=23 then st.reg 10 else if 17<=a/\a<=22 then st.reg (a-13) else st.mem a }
section
variable {I:Img}(hI:I.Ok){cf:Cf}(hc:Cf.Ok I cf){T:Ob->Prop}
include hI hc
end
end
namespace S
def bSp (n:Int):Item:=⟨8,⟨0,0,0,0,0⟩,bNo,n⟩
def bHalt:Item:=bI 36 0 0 0 0
def nodupB:List ByteArray->Bool
 | []=>true
 | x::r=>!(r.any λ y=>decide (x=y)) && nodupB r
def subB (a b:List ByteArray):Bool:=a.all λ s=>b.any λ t=>decide (s=t)
end S
theorem Zl4:∀{l:List ByteArray},S.nodupB l=true->l.Nodup
 | [],_=>Yc4
 | x::r,h=>by
  rw[S.nodupB,Yu] at h;refine Yb7.2 ⟨λ a=>?_,Zl4 h.2⟩;have:(r.any λ y=>decide (x=y))=true:=Ybz.2 ⟨x,a,decide_eq_true rfl⟩;rw[this] at h;exact absurd h.1 (by decide)
theorem Z1b {a b:List ByteArray}(h:S.subB a b=true):∀s∈a,s∈b:=λ s e=>by
 obtain⟨t,c,d⟩:=Ybz.1 (Ya9.1 h s e);rw[of_decide_eq_true d];exact c
theorem Zf5 (a b:List S.Obj):joined (a++b)=joined a++joined b:=List.flatMap_append
theorem Zn4:∀{os:List S.Obj} {j:Nat} {o:S.Obj},os[j]?=some o->∃A B,joined os=A++(o.items.map (ownItem o.name)++B)
 | [],j,o,h=>by cases h
 | x::r,0,o,h=>by
  cases h
  exact⟨[],joined r,rfl⟩
 | x::r,j+1,o,h=>by
  obtain⟨A,B,e⟩:=Zn4 (os:=r) (j:=j) h;refine⟨itemsOf x++A,B,?_⟩
  show itemsOf x++joined r=_
  rw[e,List.append_assoc]
theorem Zbt {w:World}{base:Nat}{e:TypeId}{size n c:Nat}{A:Option Addr}{xs:List Value}(h:w.ownsRow base e size (.slice A n c) n xs):A=none->n=0:=by
 intro hA;rcases h.2 with⟨_,h1⟩|⟨g,cap,d,a,_⟩
 .exact h1
 .rw[hA] at a
  cases a
theorem Za8 {w:World}{base:Nat}{e:TypeId}{size n c:Nat}{A:Option Addr}{xs:List Value}(h:w.ownsRow base e size (.slice A n c) n xs):Reads w w.heap.size A xs:=λ hp=>by
 rcases h.2 with⟨_,h1⟩|⟨g,cap,l,j,hb,hg,_,_,_,f⟩
 .have:=h.1
  rw[h1,Nat.zero_mul] at this;omega
 .cases j
  refine⟨g,0,rfl,(Array.getElem?_eq_some_iff.1 hg).1,λ i x a=>?_⟩;rw[Zfx hg,Nat.zero_add];rw[<- f] at a;have d:i<n*size:=by
   have h2:=(Yg.1 a).1;rw[List.length_take] at h2;omega
  rw[List.getElem?_take_of_lt d,Array.getElem?_toList] at a;exact a
theorem Zl5 {w:World}{base:Nat}{e:TypeId}{size n:Nat}{cs:Array Value}{xs:List Value}(d:base<=w.heap.size)(a:cs.size=n*size)(c:cs.toList=xs)(f:n<=maxLen):(w.alloc (.cells cs e)).ownsRow base e size (.slice (some ⟨w.heap.size,0,none⟩) n n) n xs :=
 ⟨by rw[<- c,Array.length_toList,a],.inr ⟨w.heap.size,n,cs,rfl,d,heap_alloc_new w _,Nat.le_refl _,f,a,by rw[c,List.take_of_length_le];rw[<- c,Array.length_toList,a];exact Nat.le_refl _⟩⟩
section
section
variable {H:Zv}{w:World}(hH:∀b k,H b=some k->b<w.heap.size)
theorem Zg3:∀{xs:List S.Item} {b o:Nat},RepC H w (encItems xs) b o->(∀x∈xs,0<=x.word/\x.word<=4294967295)->∀(i:Nat)(x:S.Item),xs[i]?=some x->ItemAt w b (o+i*8) x
 | [],b,o,_,_,i,x,h=>by cases h
 | y::r,b,o,hr,hw,i,x,h=>by
  have c:RepC H w ([.int .i64 y.kind,.int .i64 y.inst.op,.int .i64 y.inst.d,.int .i64 y.inst.a,.int .i64 y.inst.b,.int .i64 y.inst.imm,.str y.label,.int .u32 y.word]++encItems r) b o:=hr;simp only[Y8,Yal,RepC,RepV] at c;obtain⟨_,⟨v0,c0,rfl⟩,_,⟨v1,c1,rfl⟩,_,⟨v2,c2,rfl⟩,_,⟨v3,c3,rfl⟩,_,⟨v4,c4,rfl⟩,_,⟨v5,c5,rfl⟩,_,⟨v6,c6,rfl⟩,_,⟨v7,c7,rfl⟩,e⟩:=c
  cases i with
  | zero =>
   cases h
   rw[Nat.zero_mul,Nat.add_zero];exact⟨c0,c1,c2,c3,c4,c5,c6,c7,(hw y Yv).1,(hw y Yv).2⟩
  | succ i =>
   have:=Zg3 (xs:=r) e (λ z f=>hw z (Yy _ f)) i x h;rw[show o+(i+1)*8=o+1+1+1+1+1+1+1+1+i*8 from by omega];exact this
include hH
theorem Zsy {xs:List S.Item}{v:Value}(h:RepV H w (.row xs.length (encItems xs)) v)(f:∀x∈xs,0<=x.word/\x.word<=4294967295):∃A c,v=.slice A xs.length c/\Items w w.heap.size A xs:=by
 simp only[RepV] at h;obtain⟨A,c,rfl,_,_,hc⟩:=h;refine⟨A,c,rfl,λ hp=>?_⟩;rcases hc with e|⟨b,o,k,rfl,a,_,d⟩
 .cases xs with
  | nil=>simp at hp
  | cons y r=>cases e
 .exact⟨b,o,rfl,hH b k a,Zg3 d f⟩
end
def S.bi (os:List S.Obj):Bool:=os.all λ o=>o.items.all (λ x=>decide (0<=x.word/\x.word<=4294967295)) && decide (o.name.size<=1000) && o.items.all (λ x=>decide (x.label.size<=1000))
theorem Zrh:bi (objs26++[oMain])=true:=by kernel_rfl
theorem Zl6 {os:List S.Obj}(h:bi os=true):∀x∈os,(∀y∈x.items,0<=y.word/\y.word<=4294967295)/\x.name.size<=maxLen/\∀y∈x.items,y.label.size<=maxLen:=λ x d=>by
 have:=Ya9.1 h x d;simp only[Yu] at this;obtain⟨⟨h1,h2⟩,h3⟩:=this;have c:=of_decide_eq_true h2;refine⟨λ y a=>of_decide_eq_true (Ya9.1 h1 y a),by simp only[maxLen];omega,λ y a=>?_⟩;have:=of_decide_eq_true (Ya9.1 h3 y a);simp only[maxLen];omega
end
def ReadsP (w:World)(B:Nat)(A:Option Addr)(L:List (ByteArray×Int)):Prop :=
 0<L.length->∃b off,A=some ⟨b,off,none⟩/\b<B/\∀i p,L[i]?=some p->w.cell? ⟨b,off+i*2,none⟩=some (.string p.1)/\w.cell? ⟨b,off+i*2+1,none⟩=some (.int .i64 p.2)
theorem ReadsP.below {w w':World}{B:Nat}{A:Option Addr}{L:List (ByteArray×Int)}(h:ReadsP w B A L)(c:Below B w w'):ReadsP w' B A L:=λ hp=>by
 obtain⟨b,off,e,a,hc⟩:=h hp;exact⟨b,off,e,a,λ i p d=>⟨(c.cell (p:=⟨b,off+i*2,none⟩) a).trans (hc i p d).1,(c.cell (p:=⟨b,off+i*2+1,none⟩) a).trans (hc i p d).2⟩⟩
theorem Zze (L:List (ByteArray×Int))(i:Nat)(p:ByteArray×Int)(h:L[i]?=some p):(L.flatMap Zag)[i*2]?=some (.string p.1)/\(L.flatMap Zag)[i*2+1]?=some (.int .i64 p.2):=by
 induction L generalizing i with
 | nil=>simp at h
 | cons q L ih =>
  cases i with
  | zero =>
   simp only[List.getElem?_cons_zero,Option.some.injEq] at h;subst h;simp[Zag]
  | succ i =>
   have h1:=ih i (by simpa using h);have a:(i+1)*2=i*2+1+1:=by omega
   rw[Ybf,a]
   simpa[Zag] using h1
theorem Zzf (L:List (ByteArray×Int)):(L.flatMap Zag).length=L.length*2:=by
 induction L with
 | nil=>rfl
 | cons q L ih=>rw[Ybf,List.length_append,ih];simp[Zag];omega
theorem ReadsP.of_own {w:World}{base:Nat}{e:TypeId}{A:Option Addr}{m c n:Nat}{L:List (ByteArray×Int)}(h:w.ownsRow base e 2 (.slice A m c) n (L.flatMap Zag)):ReadsP w w.heap.size A L:=λ hp=>by
 have o:(L.flatMap Zag).length=n*2:=h.1;rw[Zzf] at o;obtain⟨g,rfl,l,d,j,a,_⟩:=Z9 h (by omega);refine⟨g,0,rfl,d,λ i p f=>?_⟩;have hi:=(Yg.1 f).1;obtain⟨f1,f2⟩:=Zze L i p f;refine⟨?_,?_⟩
 .rw[Nat.zero_add,a _ (by omega),f1]
 .rw[Nat.zero_add,a _ (by omega),f2]
section
section
variable {I:Img}(hI:I.Ok){i:Nat}(h0:I.i0<=i)(h1:i<I.i1)
include hI h0 h1
theorem Z2x {V:Vw}{s:ByteArray}{w:Int}(h:I.xs[i]?=some ⟨1,⟨36,0,0,0,0⟩,s,w⟩){m:Mach}(hm:On I m V (I.adr i)):Off I (m.steps_ 1) V (V.reg 0)/\(m.steps_ 1).place=I.adr i:=by
 obtain⟨g,hg,hn⟩:=Z8 hI h0 h1 h;have f:=hm.reg 0 (by decide) (by decide) (by decide);have a:m.act ⟨36,0,0,0,0⟩=({ m with state:=1,code:=V.reg 0 },m.place,0):=by
  unfold Mach.act;simp only[f];rw[if_neg (by decide),if_neg (by decide),if_neg (by decide),if_neg (by decide),if_neg (by decide),if_neg (by decide),if_neg (by decide),if_neg (by decide),if_neg (by decide),if_neg (by decide)]
 obtain⟨e,d⟩:=Zz hI hm h0 h1 (j:=0) (y:=⟨36,0,0,0,0⟩) (by rw[g];rfl) (by simp) hg (by rw[a]);have c:=Zpp hm.ok (x:=⟨36,0,0,0,0⟩) (Int.le_refl _);rw[a] at c;rw[Zc3,e,a];have l1:=Zd0 hI h0;have l2:=Zd0 hI (i:=i+1) (j:=I.i1) h1;have hp:=hm.place;exact⟨⟨placed c.1 c.2,rfl,rfl,hm.len,hm.code,⟨by show I.adr I.i0<=m.place;omega,by show m.place<I.adr I.i1;omega⟩,hm.reg,hm.mem,hm.inp,hm.out⟩,hp⟩
end
structure S.cm (I:Img)(m:Mach)(st:Vw):Prop where
 ok:m.Ok
 len:(m.mem.length:Int)=I.size
 code:I.In m.mem
 reg:∀j,visB j=true->m.rd j=st.reg j
 mem:∀a,0<=a->a<I.size->¬I.stk a->m.mv a=st.mem a
theorem Zvd {j:Int}(h:visB j=true):0<=j/\j<=31/\j≠25:=by
 unfold visB at h;have:=of_decide_eq_true h;omega
theorem Zzg {I:Img}{m:Mach}{V st:Vw}{c:Int}(h:Off I m V c)(hm:Mt I V st):cm I m st :=
 ⟨h.ok,h.len,h.code,λ j d=>by
  obtain⟨h1,h2,h3⟩:=Zvd d;rw[h.reg j h1 h2 h3];exact hm.vis j d,λ a h1 h2 h3=>by rw[h.mem a h1 h2];exact hm.mem a h1 h2 h3⟩
end
namespace S
def plain (w:Int):Int:=if w%4=1\/w%4=3 then w-1 else w
end S
theorem Zi5 {m:Mach}{i v:Int}(h0:0<=i)(h1:i<m.mem.length):m.putV i v={ m with mem:=m.mem.set i.toNat v }:=by
 unfold Mach.putV;rw[if_pos ⟨h0,h1⟩]
theorem Zcl (m:Mach)(i v:Int):(m.putV i v).reg=m.reg/\(m.putV i v).place=m.place/\(m.putV i v).input=m.input/\(m.putV i v).out=m.out/\(m.putV i v).state=m.state/\(m.putV i v).steps=m.steps/\(m.putV i v).mem.length=m.mem.length:=by
 unfold Mach.putV
 split <;> simp
theorem Zi6 {m:Mach}{i v a:Int}(h0:0<=i)(h1:i<m.mem.length)(ha:0<=a):(m.putV i v).mv a=if a=i then v else m.mv a:=by
 rw[Zi5 h0 h1]
 show(m.mem.set i.toNat v).getD a.toNat 0=if a=i then v else m.mem.getD a.toNat 0
 by_cases c:a=i
 .subst c
  rw[if_pos rfl];have:a.toNat<m.mem.length:=by omega
  simp[this]
 .rw[if_neg c]
  have:¬i.toNat=a.toNat:=by omega
  simp only[Ye,Ybg this]
theorem Zl7 (m:Mach)(i v j:Int):(m.putV i v).rd j=m.rd j:=by
 unfold Mach.rd;rw[(Zcl m i v).1]
theorem Zi7 {m:Mach}{i v:Int}(h0:0<i)(h1:i<32):m.setV i v={ m with reg:=m.reg.set i.toNat v }:=by
 unfold Mach.setV Mach.put;rw[if_pos ⟨by omega,h1⟩,if_neg (by omega)]
theorem Zve {m:Mach}(h:m.Ok){i v j:Int}(h0:0<i)(h1:i<32):(m.setV i v).rd j=if j=i then v else m.rd j:=by
 rw[Zi7 h0 h1];have hr:=h.regs
 show(m.reg.set i.toNat v).getD j.toNat 0=if j=i then v else m.reg.getD j.toNat 0
 by_cases c:j=i
 .subst c
  rw[if_pos rfl];have:j.toNat<m.reg.length:=by omega
  simp[this]
 .rw[if_neg c]
  have:¬i.toNat=j.toNat:=by omega
  simp only[Ye,Ybg this]
theorem Zvf {m:Mach}{i v a:Int}(h0:0<i)(h1:i<32):(m.setV i v).mv a=m.mv a:=by
 rw[Zi7 h0 h1];rfl
theorem Zho {m:Mach}{i:Int}(h0:0<=i)(h1:i<32):m.regV i=m.rd i:=by
 unfold Mach.regV;rw[if_pos ⟨h0,h1⟩];rfl
theorem Zvg {m:Mach}{i:Int}(h0:0<=i)(h1:i<m.mem.length):m.memV i=m.mv i:=by
 unfold Mach.memV;rw[if_pos ⟨h0,h1⟩];rfl
theorem Zl8 {I:Img}(hI:I.Ok){mem:List Int}(h:I.In mem){p:Int}(hp:0<=p)(hc:¬I.code p)(v:Int):I.In (mem.set p.toNat v):=λ k k0 g j w d=>by
 have a:=h k k0 g j w d;have m:=(Yg.1 d).1;have f:=Za4 (base:=0) (Zay hI) (Zcu (Zch hI)) hI.words k;have l:I.adr (k+1)=I.adr k+sizeAt I.xs I.F k:=rfl;have l1:=Zd0 hI (i:=I.i0) (j:=k) k0;have l2:=Zd0 hI (i:=k+1) (j:=I.i1) g;have l3:=Zpq hI k;have c:¬p.toNat=(I.adr k).toNat+j:=by
  intro e;exact hc ⟨by omega,by omega⟩
 rw[<- a];simp only[Ye,Ybg c]
theorem Zl9 {m:Mach}(h:m.Ok){i v:Int}(a:0<=v/\v<=4294967295):(m.putV i v).Ok:=by
 unfold Mach.putV
 split
 .rename_i c
  refine⟨h.regs,h.word,h.zero,by simpa using h.mem,λ j=>?_,h.place0,h.place1,h.inp,h.outp,h.code0,h.code1⟩
  show 0<=(m.mem.set i.toNat v).getD j 0/\(m.mem.set i.toNat v).getD j 0<=4294967295
  by_cases e:i.toNat=j
  .subst e
   have:i.toNat<m.mem.length:=by omega
   simp[this];exact a
  .have:=h.memw j
   simp only[Ye,Ybg e] at this⊢;exact this
 .exact h
theorem Zsz (n f a t:Int):wordsOf (S.bSp n) f a t=List.replicate n.toNat 0:=by
 have c:(S.bSp n).kind=8:=rfl;unfold wordsOf;rw[c,if_neg (by decide),if_neg (λ h=>absurd h.1 (by decide)),if_neg (λ h=>absurd h.1 (by decide)),if_neg (by decide),if_neg (λ h=>absurd h.1 (by decide)),if_neg (by decide),if_neg (by decide),if_neg (by decide),if_neg (by decide),if_pos rfl];rfl
theorem Zvh (n f a t:Int):wordsOf (bW n) f a t=[n]:=by
 have c:(bW n).kind=6:=rfl;unfold wordsOf;rw[c,if_neg (by decide),if_neg (λ h=>absurd h.1 (by decide)),if_neg (λ h=>absurd h.1 (by decide)),if_neg (by decide),if_neg (λ h=>absurd h.1 (by decide)),if_neg (by decide),if_neg (by decide),if_pos rfl];rfl
