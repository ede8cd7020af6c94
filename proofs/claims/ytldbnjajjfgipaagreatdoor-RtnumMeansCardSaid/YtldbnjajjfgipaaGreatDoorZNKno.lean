/- Parts. -/
import Derived.Test.YtldbnjajjfgipaaGreatDoorZNIv
set_option linter.all false
set_option maxHeartbeats 4000000
open Go.Lib renaming hid->Ya
open Nat renaming le_refl->Yb,le_trans->Ym
open List renaming getD_eq_getElem?_getD->Ye,getElem?_eq_getElem->Yf,replicate->Yt,mem_singleton->Y2,length_replicate->Ybw,eq_of_mem_replicate->Yby
open Go.Value renaming int->Ys
namespace Go.Proofs.YtldbnjajjfgipaaGreatDoor
open S Go.Proofs.Tryz Go.RowKit
set_option maxRecDepth 100000
section
attribute [local irreducible] aj nL nMid
section
variable {op:Int}{F:List Int}{half a:Int}(hW:au op F half a)(hh:1<=half/\half<=1000000)
include hW hh
theorem Zw8 {m:Mach}{n s s' g:Int}{O Q:List Ob}(h:bt op F half a s g m n O Q)(hs:0<=s'/\s'<=4294967295):bt op F half a s' g (m.putV 7 s') n O Q:=by
 have hp:=hW.lab.a0;have r:=h.mlen;have f:=h.nb;obtain⟨e1,j,e3,e4,p,e6,q⟩:=Zcl m 7 s';have b:∀c,0<=c->(m.putV 7 s').mv c=if c=7 then s' else m.mv c:=λ c e=>Zi6 (by decide) (by omega) e
 have d:(aa true op F (a+4+2*half)).In (m.putV 7 s').mem:=by
  rw[Zi5 (by decide) (by omega)];exact Zl8 (hW.ok true) h.code (by decide) (λ e=>by have:=(Zk3 (hW.ok true) hW.lab e).1;omega) _
 refine⟨Zl9 h.ok hs,p.trans h.run,by rw[q];exact r,d,j.trans h.place,(Zl7 m 7 s' 28).trans h.r28,by rw[b 2 (by decide),if_neg (by decide)];exact h.m2,by rw[b 3 (by decide),if_neg (by decide)];exact h.m3,by rw[b 4 (by decide),if_neg (by decide)];exact h.m4,by rw[b 5 (by decide),if_neg (by decide)];exact h.m5,λ c h0 h1=>?_,λ c h0=>?_,f,λ o i k w l=>?_,h.inb,h.dis,h.nd,h.sum,h.sub,h.sumQ,h.plain⟩
 .rw[b c (by omega)]
  by_cases c7:c=7
  .rw[if_pos c7,if_pos c7]
  .rw[if_neg c7,if_neg c7,h.low c h0 h1,if_neg c7]
 .rw[b c (by omega),if_neg (by omega)]
  exact h.zero c h0
 .have hi:=(h.inb o i).2.1
  rw[b _ (by omega),if_neg (by omega)];exact h.obj o i k w l
theorem Z0h {m:Mach}{s g ty:Int}(k:Nat)(hk:1<=k)(h:bt op F half a s g m (a+4) [] [])(u:0<=ty/\ty<8)(hn:(k:Int)<=half):bt op F half a s (a+4+k) (m.putV (a+4) (32*((k:Int)-1)+4*ty+3)) (a+4+k) [⟨a+4,(32*((k:Int)-1)+4*ty+3)::Yt (k-1) 0⟩] []:=by
 have hp:=hW.lab.a0;have G:=h.mlen;have D:=h.nb;obtain⟨v,B⟩:=Yx (32*((k:Int)-1)+4*ty+3);rw[<- B];obtain⟨e1,z,e3,e4,C,e6,E⟩:=Zcl m (a+4) v;have b:∀c,0<=c->(m.putV (a+4) v).mv c=if c=a+4 then v else m.mv c:=λ c p=>Zi6 (by omega) (by omega) p
 have l:(aa true op F (a+4+2*half)).In (m.putV (a+4) v).mem:=by
  rw[Zi5 (by omega) (by omega)];exact Zl8 (hW.ok true) h.code (by omega) (λ p=>by have:=(Zk3 (hW.ok true) hW.lab p).2;omega) _
 have e:(v::Yt (k-1) (0:Int)).length=k:=by rw[List.length_cons,Ybw];omega
 have t:ObOk ⟨a+4,v::Yt (k-1) 0⟩:=⟨λ w q=>by
  rcases List.mem_cons.1 q with rfl|q
  .omega
  .rw[Yby q];decide,v,_,rfl,by omega,by rw[Ybw];omega⟩
 refine⟨Zl9 h.ok ⟨by omega,by omega⟩,C.trans h.run,by rw[E];exact G,l,z.trans h.place,(Zl7 m _ _ 28).trans h.r28,by rw[b 2 (by decide),if_neg (by omega)];exact h.m2,by rw[b 3 (by decide),if_neg (by omega)];exact h.m3,by rw[b 4 (by decide),if_neg (by omega)];exact h.m4,by rw[b 5 (by decide),if_neg (by omega)];exact h.m5,λ c h0 h1=>by rw[b c (by omega),if_neg (by omega)];exact h.low c h0 h1,λ c h0=>by rw[b c (by omega),if_neg (by omega)];exact h.zero c (by omega),⟨by omega,by omega⟩,λ o d j w A=>?_,λ o d=>?_,λ o d o' i r=>?_,by simp,?_,λ o d=>(by cases d),by show(0:Int)<=_;omega,λ o d=>(by cases d)⟩
 .rw[Y2] at d
  subst d;have f:(v::Yt (k-1) (0:Int))[j]?=some w:=A
  show(m.putV (a+4) v).mv (a+4+j)=w
  rw[b _ (by omega)]
  cases j with
  | zero=>cases f;rw[if_pos (by omega)]
  | succ j =>
   rw[List.getElem?_cons_succ] at f;rw[if_neg (by omega),h.zero _ (by omega)];exact(Yby (List.mem_of_getElem? f)).symm
 .rw[Y2] at d
  subst d;exact⟨t,Int.le_refl _,by show a+4+((v::Yt (k-1) (0:Int)).length:Int)<=a+4+k;rw[e];exact Int.le_refl _⟩
 .rw[Y2] at d i
  exact absurd (d.trans i.symm) r
 .show((v::Yt (k-1) (0:Int)).length:Int)+0<=_
  rw[e];omega
end
end
section
attribute [local irreducible] aj nL nMid
theorem Zru {I:Img}{f:Mach}{st:Vw}{z:Int}(hs:cm I f st)(h:MkR I st z)(E:(if z<0 then -z else z)<65536^250):∃l,readV f (f.regV 4)=some l/\Wz z l:=by
 have L:f.regV 4=st.reg 4:=(Zho (by decide) (by decide)).trans (hs.reg 4 (by decide));rw[L];rcases h with⟨u,z1,A⟩|⟨u,H,neg,e,g,o,w,r,b,A,_,G,m1,J,q,hH,C⟩
 .rw[A]
  refine⟨[u32m (4*z)],?_,.inl ⟨u,z1,rfl⟩⟩;unfold readV;rw[if_pos (by unfold u32m;omega)]
 .have hdv:=Zg o
  have N:(neg=0/\z=dval e)\/(neg=1/\z=-dval e):=by
   unfold signed at b;rcases g with rfl|rfl
   .rw[if_pos rfl] at b;exact .inl ⟨rfl,b.symm⟩
   .rw[if_neg (by decide)] at b;exact .inr ⟨rfl,b.symm⟩
  have t:dval e=if z<0 then -z else z:=by
   by_cases c:z<0
   .rw[if_pos c];omega
   .rw[if_neg c];omega
  have p:Cn 65536 e (if z<0 then -z else z):=⟨o,.inr r,by rw[<- Zsa];exact t⟩
  have hl:=Z1p p E;have v:4*neg=if z<0 then 4 else 0:=by
   by_cases c:z<0
   .rw[if_pos c];omega
   .rw[if_neg c];omega
  have d:∀j:Nat,j<e.length+2->f.memV (H+j)=st.mem (H+j)/\f.memB (H+j)=true:=λ j K=>by
   obtain⟨d0,d1,d2,d3⟩:=q j K;have B:=hs.len;refine⟨(Zvg d0 (by omega)).trans (hs.mem _ d0 d1 d2),?_⟩;unfold Mach.memB;exact decide_eq_true ⟨d0,by omega⟩
  have h0:=d 0 (by omega);rw[show H+((0:Nat):Int)=H by omega,G] at h0;refine⟨_,?_,.inr ⟨u,e,p,rfl⟩⟩;have D:st.reg 4/4=H:=by omega
  unfold readV;rw[if_neg (by omega),D,h0.1,if_pos ⟨by omega,h0.2,by omega,by omega⟩]
  congr 1
  rw[show(32*((e.length:Int)+1)+31)/32=((e.length+1:Nat):Int) by omega,Int.toNat_natCast,List.range_succ_eq_map,List.map_cons,List.map_map]
  congr 1
  congr 1
  .have h1:=d 1 (by omega)
   rw[show H+((1:Nat):Int)=H+1 by omega,m1] at h1
   show f.memV (H+(((0:Nat):Int)+1))=_
   rw[show H+(((0:Nat):Int)+1)=H+1 by omega,h1.1,v]
  .refine List.ext_getElem (by simp) λ i h1 h2=>?_
   rw[List.getElem_map,List.getElem_range,List.getElem_map];have hi:i<e.length:=by simpa using h1
   have h3:=(d (i+2) (by omega)).1;rw[show H+((i+2:Nat):Int)=H+2+i by omega,J i hi,Ye,Yf hi] at h3
   show f.memV (H+(((i+1:Nat):Int)+1))=_
   rw[show H+(((i+1:Nat):Int)+1)=H+2+i by omega];exact h3
section
variable {op:Int}{F:List Int}{half a:Int}(hW:au op F half a)(hh:1<=half/\half<=1000000)
include hW hh
theorem Zrv {M:Mach}{O Q:List Ob}{s n v1 v2 z:Int}{b:Prop}(u:bm op F half a s M O Q n v1 v2)(d:ae (aa true op F (a+4+2*half)) (kRt op) true (viewOf M) 106 (a+2) (PrmR (aa true op F (a+4+2*half)) (viewOf M) z b 2000000))(g:¬b)(q:(if z<0 then -z else z)<65536^250):∃l,a9 (M.steps_ 5000000) (a+3)=(l,-1)/\Wz z l:=by
 have h:=Zzq (hW.ok true) hW.lab (by omega) u.st (by decide) d (λ o k h=>Ym h.1 (by decide)) (λ t st k h=>by
  rcases h.2 with⟨c,e,_⟩|⟨c,e,_⟩ <;> cases e) (λ r st k h=>by
  rcases h.2 with⟨c,e,_⟩|⟨c,e,hs⟩
  .cases e
  .exact absurd hs g)
 generalize M.steps_ 5000000=MM at h⊢;obtain⟨h1,h2⟩:=h;rcases h2 with⟨c,k,⟨_,i⟩,f,p,_⟩|⟨c,k,r,⟨_,i⟩,_⟩
 .rcases i with⟨st2,e,hmk,_⟩|⟨st2,e,_⟩
  .cases e
   obtain⟨l,v,j⟩:=Zru f hmk q;refine⟨l,?_,j⟩;unfold a9;rw[if_neg (λ h=>h h1),if_neg (λ h=>h p),v];rfl
  .cases e
 .rcases i with⟨st2,e,_⟩|⟨st2,e,hs⟩
  .cases e
  .exact absurd hs g
end
end
section
attribute [local irreducible] aj nL nMid
structure S.dk (op:Int)(F:List Int)(half a:Int)(M:Mach)(v1 v2 z1 z2:Int)(O Q:List Ob)(n nv nu:Int)(x y:List Int):Prop where
 rdy:bm op F half a 0 M O Q n v1 v2
 nx:NumO (aa true op F (a+4+2*half)) ⟨O,a+4,a+4+half,half⟩ (λ o=>o∈Q) (viewOf M).mem v1 nv x
 ny:NumO (aa true op F (a+4+2*half)) ⟨O,a+4,a+4+half,half⟩ (λ o=>o∈Q) (viewOf M).mem v2 nu y
 zx:ac nv x=z1
 zy:ac nu y=z2
 x0:dval x=0->nv=0
 y0:dval y=0->nu=0
 few:x.length<=40/\y.length<=40
 tot:∀ρ:List Ob,ρ.Nodup->(∀o∈ρ,o∈O/\o∈Q)->S.tot ρ<=84
 segs:NSegs (aa true op F (a+4+2*half))
 csegs:CSegs (aa true op F (a+4+2*half))
section
variable {op:Int}{F:List Int}{half a:Int}(hW:au op F half a)(hh:400<=half/\half<=1000000)
include hW hh
theorem Z51 {v1 v2 z1 z2 n1 n2:Int}{m1 m2:Mach}(hp:az z1 ((aj (nL op F) half).goV (a+1)) (a+4) v1 m1 n1)(v:az z2 m1 n1 v2 m2 n2)(h1:(if z1<0 then -z1 else z1)<65536^40)(h2:(if z2<0 then -z2 else z2)<65536^40) :
 ∃O Q nv nu x y,dk op F half a (am m2 n2 (a+4+half) v1 v2) v1 v2 z1 z2 O Q n2 nv nu x y:=by
 have b:1<=half/\half<=1000000:=by omega
 have ha:=hW.lab.a0;have V:=hW.small;have f0:=Zoy hW b;obtain⟨O1,Q1,g1,s1,i1,b1,l1⟩:=Zmt hW b f0 hp h1 (by decide) (by decide) (by omega);obtain⟨R,w,g2,z,i2,b2,l2⟩:=Zmt hW b g1 v h2 (by decide) (by decide) (by omega);have l:=Zoz g1 i1 z l2 (by omega);obtain⟨C,q,u,g⟩:=hp;obtain⟨L,i,t,f⟩:=v;obtain⟨r,d⟩:=Zmu hW b g2 (by decide) (Zfr q u g ⟨by omega,by omega⟩).1 (Zfr i t f ⟨by omega,by omega⟩).1;obtain⟨nv,x,G,K,H,U,I⟩:=l;obtain⟨nu,y,B,J,D,T,A⟩:=i2;refine⟨R,w,nv,nu,x,y,⟨r,⟨?_,λ p e=>?_⟩,⟨?_,λ p e=>?_⟩,K,J,H,D,⟨U,T⟩,λ ρ h3 E=>?_,Zd3 (hW.ok true),Zg5 (hW.ok true)⟩⟩
 .exact G.same λ p e j N=>d _
 .obtain⟨o,c,e2⟩:=I p e
  exact⟨o,g2.sub o c,c,e2⟩
 .exact B.same λ p e j N=>d _
 .obtain⟨o,c,e2⟩:=A p e
  exact⟨o,g2.sub o c,c,e2⟩
 .have h5:=Zb6 ρ w h3 (λ o c=>(E o c).2)
  have h6:=g2.sumQ;omega
end
section
variable {F:List Int}{half a:Int}{M:Mach}{v1 v2 z1 z2 n nv nu:Int}{O Q:List Ob}{x y:List Int}
theorem Zo0 {op:Int}(h:dk op F half a M v1 v2 z1 z2 O Q n nv nu x y)(hh:400<=half/\half<=1000000):¬half<84+(3*((x.length:Int)+y.length)+20)+0:=by
 have:=h.few;omega
theorem Z3s (hW:au 8 F half a)(hh:400<=half/\half<=1000000)(h:dk 8 F half a M v1 v2 z1 z2 O Q n nv nu x y)(c:(if z1+z2<0 then -(z1+z2) else z1+z2)<65536^250):∃l,a9 (M.steps_ 5000000) (a+3)=(l,-1)/\Wz (z1+z2) l:=by
 obtain⟨i,hs⟩:=Z6 (op:=8) (F:=F) (size:=a+4+2*half) (r:=rPAdd 0) (j:=30) rfl;have b:=Zgf h.segs h.csegs h.rdy.ok (k:=0) (.inl rfl) hs (tT:=84) h.rdy.r4 h.rdy.r5 h.rdy.rdy h.nx h.ny h.few h.tot (by decide);rw[if_pos rfl,h.zx,h.zy] at b;exact Zrv hW (by omega) h.rdy b (Zo0 h hh) c
theorem Z3t (hW:au 9 F half a)(hh:400<=half/\half<=1000000)(h:dk 9 F half a M v1 v2 z1 z2 O Q n nv nu x y)(c:(if z1-z2<0 then -(z1-z2) else z1-z2)<65536^250):∃l,a9 (M.steps_ 5000000) (a+3)=(l,-1)/\Wz (z1-z2) l:=by
 obtain⟨i,hs⟩:=Z6 (op:=9) (F:=F) (size:=a+4+2*half) (r:=rPAdd 1) (j:=32) rfl;have b:=Zgf h.segs h.csegs h.rdy.ok (k:=1) (.inr rfl) hs (tT:=84) h.rdy.r4 h.rdy.r5 h.rdy.rdy h.nx h.ny h.few h.tot (by decide);rw[if_neg (by decide),h.zx,h.zy] at b;exact Zrv hW (by omega) h.rdy b (Zo0 h hh) c
theorem Z0i {I:Img}{mem:Int->Int}{nu:Int}{y:List Int}(h:NumAt I mem 0 nu y):dval y=0:=by
 rcases h.cases with⟨_,_,rfl⟩|⟨p,e,_⟩
 .rfl
 .omega
theorem Z52 {I:Img}{mem:Int->Int}{v nu z:Int}{y:List Int}(h:NumAt I mem v nu y)(b:ac nu y=z)(h0:z≠0):v≠0/\0<dval y:=by
 have hd:=Zg h.dig;have hp:dval y≠0:=λ e=>by
  unfold ac signed at b;rw[e] at b
  split at b <;> omega
 refine⟨λ e=>?_,by omega⟩;subst e;exact hp (Z0i h)
theorem Z1q {nv nu X Y:Int}(h1:nv=0\/nv=1)(h2:nu=0\/nu=1)(c:0<=X)(hY:0<=Y):ax 0 nv nu X Y=Int.tdiv (signed nv X) (signed nu Y)/\ax 1 nv nu X Y=Int.tmod (signed nv X) (signed nu Y):=by
 unfold ax signed;have e:=Int.tdiv_eq_ediv_of_nonneg (b:=Y) c;have d:Int.tmod X Y=X%Y:=Int.tmod_eq_emod_of_nonneg c;rcases h1 with rfl|rfl <;> rcases h2 with rfl|rfl <;> simp[Int.tdiv_neg,Int.neg_tdiv,Int.neg_tmod,Int.tmod_neg,e,d]
end
end
section
attribute [local irreducible] aj nL nMid
structure S.aq (MM:Mach)(a z:Int):Prop where
 run:MM.state=1
 place:MM.place=a+3
 made:∃l,readV MM (MM.regV 4)=some l/\Wz z l/\((z < -536870912\/536870912<=z)->MM.regV 4/4+l.length=MM.regV 26)
 r28:MM.regV 28=1056
 m6:MM.memV 6=0
 m8:MM.memV 8=0
structure S.ah (MM:Mach)(a c:Int):Prop where
 run:MM.state=1
 place:MM.place≠a+3
 code:MM.code=c
structure S.ao (MM:Mach)(a v:Int):Prop where
 run:MM.state=1
 place:MM.place=a+3
 word:MM.regV 4=v
theorem Z0j {I:Img}{f:Mach}{st:Vw}{z a:Int}(hs:cm I f st)(h:MkR I st z)(t:(if z<0 then -z else z)<65536^250)(hI:1312<=I.size)(d:∀c,c<1056->¬I.stk c)(r:st.mem 6=0)(v:st.mem 8=0)(j:f.rd 28=1056)(b:f.state=1)(o:f.place=a+3):aq f a z:=by
 obtain⟨l,u,q⟩:=Zru hs h t;have p:=hs.len;refine⟨b,o,⟨l,u,q,λ h0=>?_⟩,(Zho (by decide) (by decide)).trans j,?_,?_⟩
 .rcases h with⟨z0,z1,_⟩|⟨_,H,neg,ds,hneg,hdg,hpos,htop,hsg,e4,e26,_,_,_,_,hH,hfew⟩
  .omega
  .have hdv:=Zg hdg
   have g:dval ds=if z<0 then -z else z:=by
    unfold signed at hsg;rcases hneg with rfl|rfl
    .rw[if_pos rfl] at hsg
     rw[if_neg (by omega)];exact hsg
    .rw[if_neg (by decide)] at hsg
     by_cases c:z<0
     .rw[if_pos c];omega
     .rw[if_neg c];omega
   have i:Cn 65536 ds (if z<0 then -z else z):=⟨hdg,.inr htop,by rw[<- Zsa];exact g⟩
   have e:=Zsb q (.inr ⟨h0,ds,i,rfl⟩);have el:l.length=ds.length+2:=by rw[e];simp
   rw[Zho (by decide) (by decide),Zho (by decide) (by decide),hs.reg 4 (by decide),hs.reg 26 (by decide),e4,e26,el];omega
 .rw[Zvg (by decide) (by omega),hs.mem 6 (by decide) (by omega) (d 6 (by decide))]
  exact r
 .rw[Zvg (by decide) (by omega),hs.mem 8 (by decide) (by omega) (d 8 (by decide))]
  exact v
section
variable {op:Int}{F:List Int}{half a:Int}(hW:au op F half a)(hh:1<=half/\half<=1000000)
include hW hh
theorem Z53 (c:Int)(hc:c<1056):¬(aa true op F (a+4+2*half)).stk c:=λ h=>by
 have:(1056:Int)<=c:=h.1;omega
theorem Z7f:1312<=(aa true op F (a+4+2*half)).size:=by
 have:=hW.lab.a0
 show 1312<=a+4+2*half
 omega
theorem Zmv {M:Mach}{O Q:List Ob}{s n v1 v2 c:Int}(p:bm op F half a s M O Q n v1 v2)(b:ae (aa true op F (a+4+2*half)) (kRt op) true (viewOf M) 106 (a+2) (b7 c))(l:c≠0):ah (M.steps_ 5000000) a c:=by
 have h:=Zzq (hW.ok true) hW.lab (by omega) p.st (by decide) b (λ o k h=>Ym h.1 (by decide)) (λ t st k h=>by obtain⟨_,d,e⟩:=h;cases e) (λ j st k h=>by obtain⟨_,d,e⟩:=h;cases e;exact l);generalize M.steps_ 5000000=MM at h⊢;obtain⟨h1,h2⟩:=h;rcases h2 with⟨d,k,⟨_,i,e⟩,_⟩|⟨d,k,j,⟨_,i,e⟩,f,g⟩
 .cases e
 .cases e
  exact⟨h1,g,f⟩
theorem Zo1 {M:Mach}{O Q:List Ob}{s n v1 v2:Int}{p:Prop}[Decidable p](l:bm op F half a s M O Q n v1 v2)(b:ae (aa true op F (a+4+2*half)) (kRt op) true (viewOf M) 106 (a+2) (bq (viewOf M) p)):ao (M.steps_ 5000000) a (if p then 22 else 6):=by
 have h:=Zzq (hW.ok true) hW.lab (by omega) l.st (by decide) b (λ o k h=>Ym h.1 (by decide)) (λ t st k h=>by obtain⟨_,c,e,_⟩:=h;cases e) (λ j st k h=>by obtain⟨_,c,e,_⟩:=h;cases e);generalize M.steps_ 5000000=MM at h⊢;obtain⟨h1,h2⟩:=h;rcases h2 with⟨c,k,⟨_,g,e,i⟩,d,f,_⟩|⟨c,k,j,⟨_,g,e,_⟩,_⟩
 .cases e
  exact⟨h1,f,by rw[Zho (by decide) (by decide),d.reg 4 (by decide)];exact i⟩
 .cases e
theorem Zgg {M:Mach}{O Q:List Ob}{s n v1 v2 z:Int}{b:Prop}(v:bm op F half a s M O Q n v1 v2)(d:ae (aa true op F (a+4+2*half)) (kRt op) true (viewOf M) 106 (a+2) (PrmR (aa true op F (a+4+2*half)) (viewOf M) z b 2000000))(r:(if z<0 then -z else z)<65536^250):aq (M.steps_ 5000000) a z\/(ah (M.steps_ 5000000) a 255/\b):=by
 have h:=Zzq (hW.ok true) hW.lab (by omega) v.st (by decide) d (λ o k h=>Ym h.1 (by decide)) (λ t st k h=>by
  rcases h.2 with⟨c,e,_⟩|⟨c,e,_⟩ <;> cases e) (λ u st k h=>by
  rcases h.2 with⟨c,e,_⟩|⟨c,e,hs⟩
  .cases e
  .cases e;decide)
 have l:=Z7f hW hh;have j:=Z53 hW hh;generalize M.steps_ 5000000=MM at h⊢;obtain⟨h1,h2⟩:=h;rcases h2 with⟨c,k,⟨_,p⟩,i,f,q⟩|⟨c,k,u,⟨_,p⟩,g,f⟩
 .rcases p with⟨st2,e,hmk,m6,m8,_⟩|⟨st2,e,_⟩
  .cases e
   exact .inl (Z0j i hmk r l j m6 m8 q h1 f)
  .cases e
 .rcases p with⟨st2,e,_⟩|⟨st2,e,hs⟩
  .cases e
  .cases e
   exact .inr ⟨⟨h1,f,g⟩,hs⟩
structure S.de (op:Int)(F:List Int)(half a s:Int)(k N1 N2:Nat)(m:Mach)(v1 v2 z1 z2 n:Int)(O Q:List Ob):Prop where
 hp:bt op F half a s (a+4+k) m n O Q
 i1:bl (aa true op F (a+4+2*half)) m Q v1 z1 N1
 i2:bl (aa true op F (a+4+2*half)) m Q v2 z2 N2
 n1:n<=a+4+k+N1+N2+4
 b1:0<=v1/\v1<=4294967295
 b2:0<=v2/\v2<=4294967295
theorem Z54 {k N1 N2:Nat}(E:1<=k){s v1 v2 z1 z2 n1 n2:Int}{m1 m2:Mach}(B:(k:Int)+N1+N2+4<=half)(r:2<=N1/\N1<=40)(l:2<=N2/\N2<=40)(hs:0<=s/\s<1000000)
 (hp:az z1 (((aj (nL op F) half).goV (a+1)).putV (a+4) (32*((k:Int)-1)+7)) (a+4+k) v1 m1 n1) (A:az z2 m1 n1 v2 m2 n2) (h1:(if z1<0 then -z1 else z1)<65536^N1) (h2:(if z2<0 then -z2 else z2)<65536^N2) :
 ∃O Q,de op F half a s k N1 N2 (m2.putV 7 s) v1 v2 z1 z2 n2 O Q:=by
 have ha:=hW.lab.a0;have U:=hW.small;have f0:=Z0h hW hh (ty:=1) k E (Zoy hW hh) (by decide) (by omega);rw[show 32*((k:Int)-1)+4*1+3=32*((k:Int)-1)+7 by omega] at f0;obtain⟨O1,Q1,g1,s1,i1,b1,l1⟩:=Zmt hW hh f0 hp h1 r.1 (by omega) (by omega);obtain⟨L,w,g2,G,i2,b2,l2⟩:=Zmt hW hh g1 A h2 l.1 (by omega) (by omega);have i:=Zoz g1 i1 G l2 (by omega);obtain⟨H,q,u,f⟩:=hp;obtain⟨J,g,t,d⟩:=A;have K:=Zw8 hW hh g2 (s':=s) (by omega);have hl:=g2.mlen;have b:∀c,a+4<=c->(m2.putV 7 s).mv c=m2.mv c:=λ c hc=>by rw[Zi6 (by decide) (by omega) (by omega),if_neg (by omega)]
 have keep:∀{v z:Int} {N:Nat},bl (aa true op F (a+4+2*half)) m2 w v z N->bl (aa true op F (a+4+2*half)) (m2.putV 7 s) w v z N:=λ {v z N} h=>by
  obtain⟨neg,I,T,k2,D,R,C⟩:=h;refine⟨neg,I,T.same λ p e j hj=>?_,k2,D,R,C⟩;obtain⟨o,V,rfl⟩:=C p e;have:=(g2.inb o (g2.sub o V)).2.1;exact b _ (by omega)
 exact⟨L,w,K,keep i,keep i2,by omega,(Zfr q u f ⟨by omega,by omega⟩).1,(Zfr g t d ⟨by omega,by omega⟩).1⟩
end
def S.an (half s:Int)(N1 N2:Nat):Prop:=half<(N1:Int)+N2+4+(3*((N1:Int)+N2)+20)+s
section
variable {F:List Int}{half a s:Int}{k N1 N2:Nat}{m:Mach}{v1 v2 z1 z2 n:Int}{O Q:List Ob}
structure S.a8 (op:Int)(F:List Int)(half a s:Int)(N1 N2:Nat)(M:Mach)(v1 v2 z1 z2 n:Int)(O Q:List Ob)(nv nu:Int)(x y:List Int):Prop where
 rdy:bm op F half a s M O Q n v1 v2
 nx:NumO (aa true op F (a+4+2*half)) ⟨O,a+4,a+4+half,half⟩ (λ o=>o∈Q) (viewOf M).mem v1 nv x
 ny:NumO (aa true op F (a+4+2*half)) ⟨O,a+4,a+4+half,half⟩ (λ o=>o∈Q) (viewOf M).mem v2 nu y
 zx:ac nv x=z1
 zy:ac nu y=z2
 x0:dval x=0->nv=0
 y0:dval y=0->nu=0
 few:x.length<=N1/\y.length<=N2
 tot:∀ρ:List Ob,ρ.Nodup->(∀o∈ρ,o∈O/\o∈Q)->S.tot ρ<=(N1:Int)+N2+4
theorem Z3u {op:Int}(hW:au op F half a)(hh:1<=half/\half<=1000000)(hs:0<=s/\s<1000000)(h:de op F half a s k N1 N2 m v1 v2 z1 z2 n O Q):∃nv nu x y,a8 op F half a s N1 N2 (am m n (a+4+half) v1 v2) v1 v2 z1 z2 n O Q nv nu x y:=by
 obtain⟨r,c⟩:=Zmu hW hh h.hp hs h.b1 h.b2;obtain⟨nv,x,q,v,l,z,t⟩:=h.i1;obtain⟨nu,y,f,u,i,A,d⟩:=h.i2;refine⟨nv,nu,x,y,r,⟨q.same λ p e j w=>c _,λ p e=>?_⟩,⟨f.same λ p e j w=>c _,λ p e=>?_⟩,v,u,l,i,⟨z,A⟩,λ ρ h3 g=>?_⟩
 .obtain⟨o,b,e2⟩:=t p e
  exact⟨o,h.hp.sub o b,b,e2⟩
 .obtain⟨o,b,e2⟩:=d p e
  exact⟨o,h.hp.sub o b,b,e2⟩
 .have h5:=Zb6 ρ Q h3 (λ o b=>(g o b).2)
  have h6:=h.hp.sumQ;have h7:=h.n1;omega
variable {M:Mach}{nv nu:Int}{x y:List Int}(hN:N1<=40/\N2<=40)(hh:1<=half/\half<=1000000)
include hN hh
theorem Zep {op:Int}(h:a8 op F half a s N1 N2 M v1 v2 z1 z2 n O Q nv nu x y)(hs:half<(N1:Int)+N2+4+(3*((x.length:Int)+y.length)+20)+s):an half s N1 N2:=by
 have:=h.few;unfold an;omega
theorem Z3v (hW:au 8 F half a)(h:a8 8 F half a s N1 N2 M v1 v2 z1 z2 n O Q nv nu x y)(c:(if z1+z2<0 then -(z1+z2) else z1+z2)<65536^250):aq (M.steps_ 5000000) a (z1+z2)\/(ah (M.steps_ 5000000) a 255/\an half s N1 N2):=by
 obtain⟨i,hs⟩:=Z6 (op:=8) (F:=F) (size:=a+4+2*half) (r:=rPAdd 0) (j:=30) rfl;have b:=Zgf (Zd3 (hW.ok true)) (Zg5 (hW.ok true)) h.rdy.ok (k:=0) (.inl rfl) hs (tT:=(N1:Int)+N2+4) h.rdy.r4 h.rdy.r5 h.rdy.rdy h.nx h.ny ⟨by have:=h.few;omega,by have:=h.few;omega⟩ h.tot (by omega);rw[if_pos rfl,h.zx,h.zy] at b;exact(Zgg hW hh h.rdy b c).imp_right λ q=>⟨q.1,Zep hN hh h q.2⟩
theorem Z3w (hW:au 9 F half a)(h:a8 9 F half a s N1 N2 M v1 v2 z1 z2 n O Q nv nu x y)(c:(if z1-z2<0 then -(z1-z2) else z1-z2)<65536^250):aq (M.steps_ 5000000) a (z1-z2)\/(ah (M.steps_ 5000000) a 255/\an half s N1 N2):=by
 obtain⟨i,hs⟩:=Z6 (op:=9) (F:=F) (size:=a+4+2*half) (r:=rPAdd 1) (j:=32) rfl;have b:=Zgf (Zd3 (hW.ok true)) (Zg5 (hW.ok true)) h.rdy.ok (k:=1) (.inr rfl) hs (tT:=(N1:Int)+N2+4) h.rdy.r4 h.rdy.r5 h.rdy.rdy h.nx h.ny ⟨by have:=h.few;omega,by have:=h.few;omega⟩ h.tot (by omega);rw[if_neg (by decide),h.zx,h.zy] at b;exact(Zgg hW hh h.rdy b c).imp_right λ q=>⟨q.1,Zep hN hh h q.2⟩
theorem Z3x (hW:au 10 F half a)(h:a8 10 F half a s N1 N2 M v1 v2 z1 z2 n O Q nv nu x y)(c:(if z1*z2<0 then -(z1*z2) else z1*z2)<65536^250):aq (M.steps_ 5000000) a (z1*z2)\/(ah (M.steps_ 5000000) a 255/\an half s N1 N2):=by
 obtain⟨i,hs⟩:=Z6 (op:=10) (F:=F) (size:=a+4+2*half) (r:=rPMul) (j:=34) rfl;have b:=Zw3 (Zd3 (hW.ok true)) (Zg5 (hW.ok true)) h.rdy.ok hs (tT:=(N1:Int)+N2+4) h.rdy.r4 h.rdy.r5 h.rdy.rdy h.nx h.ny ⟨by have:=h.few;omega,by have:=h.few;omega⟩ h.tot (by omega);rw[h.zx,h.zy] at b;exact(Zgg hW hh h.rdy b c).imp_right λ q=>⟨q.1,Zep hN hh h q.2⟩
theorem Z3y (hW:au 11 F half a)(h:a8 11 F half a s N1 N2 M v1 v2 z1 z2 n O Q nv nu x y)(h0:z2≠0)(c:(if Int.tdiv z1 z2<0 then -(Int.tdiv z1 z2) else Int.tdiv z1 z2)<65536^250):aq (M.steps_ 5000000) a (Int.tdiv z1 z2)\/(ah (M.steps_ 5000000) a 255/\an half s N1 N2):=by
 obtain⟨i,hs⟩:=Z6 (op:=11) (F:=F) (size:=a+4+2*half) (r:=rPQuo 0) (j:=31) rfl;obtain⟨d,k2⟩:=Z52 h.ny.1 h.zy h0;have b:=Zow (Zd3 (hW.ok true)) (Zg5 (hW.ok true)) h.rdy.ok (k:=0) (.inl rfl) hs (tT:=(N1:Int)+N2+4) h.rdy.r4 h.rdy.r5 h.rdy.rdy h.nx h.ny ⟨by have:=h.few;omega,by have:=h.few;omega⟩ d k2 h.tot (by omega);have e:ax 0 nv nu (dval x) (dval y)=Int.tdiv z1 z2:=by rw[(Z1q h.nx.1.sg h.ny.1.sg (Zg h.nx.1.dig) (Zg h.ny.1.dig)).1,<- h.zx,<- h.zy];rfl
 rw[e] at b;exact(Zgg hW hh h.rdy b c).imp_right λ q=>⟨q.1,Zep hN hh h q.2⟩
theorem Z3z (hW:au 12 F half a)(h:a8 12 F half a s N1 N2 M v1 v2 z1 z2 n O Q nv nu x y)(h0:z2≠0)(c:(if Int.tmod z1 z2<0 then -(Int.tmod z1 z2) else Int.tmod z1 z2)<65536^250):aq (M.steps_ 5000000) a (Int.tmod z1 z2)\/(ah (M.steps_ 5000000) a 255/\an half s N1 N2):=by
 obtain⟨i,hs⟩:=Z6 (op:=12) (F:=F) (size:=a+4+2*half) (r:=rPQuo 1) (j:=33) rfl;obtain⟨d,k2⟩:=Z52 h.ny.1 h.zy h0;have b:=Zow (Zd3 (hW.ok true)) (Zg5 (hW.ok true)) h.rdy.ok (k:=1) (.inr rfl) hs (tT:=(N1:Int)+N2+4) h.rdy.r4 h.rdy.r5 h.rdy.rdy h.nx h.ny ⟨by have:=h.few;omega,by have:=h.few;omega⟩ d k2 h.tot (by omega);have e:ax 1 nv nu (dval x) (dval y)=Int.tmod z1 z2:=by rw[(Z1q h.nx.1.sg h.ny.1.sg (Zg h.nx.1.dig) (Zg h.ny.1.dig)).2,<- h.zx,<- h.zy];rfl
 rw[e] at b;exact(Zgg hW hh h.rdy b c).imp_right λ q=>⟨q.1,Zep hN hh h q.2⟩
theorem Z0k (hW:au 14 F half a)(h:a8 14 F half a s N1 N2 M v1 v2 z1 z2 n O Q nv nu x y):ao (M.steps_ 5000000) a (if z1<z2 then 22 else 6):=by
 obtain⟨i,hs⟩:=Z6 (op:=14) (F:=F) (size:=a+4+2*half) (r:=rPLess) (j:=36) rfl;have b:=Ztl (Zd3 (hW.ok true)) hs h.rdy.r4 h.rdy.r5 (ret:=a+2) h.nx.1 h.ny.1 ⟨by have:=h.few;omega,by have:=h.few;omega⟩ h.x0 h.y0;have:=Zo1 hW hh h.rdy b;rw[h.zx,h.zy] at this;exact this
theorem Z55 (hW:au 13 F half a)(h:a8 13 F half a s N1 N2 M v1 v2 z1 z2 n O Q nv nu x y):ao (M.steps_ 5000000) a (if z1=z2 then 22 else 6):=by
 obtain⟨i,hs⟩:=Z6 (op:=13) (F:=F) (size:=a+4+2*half) (r:=rPEq) (j:=35) rfl;have b:=Z0b (Zd3 (hW.ok true)) hs h.rdy.r4 h.rdy.r5 (ret:=a+2) h.nx.1 h.ny.1 ⟨by have:=h.few;omega,by have:=h.few;omega⟩ h.x0 h.y0;have:=Zo1 hW hh h.rdy b;rw[h.zx,h.zy] at this;exact this
theorem Zw9 (hW:au 11 F half a)(h:a8 11 F half a s N1 N2 M v1 0 z1 z2 n O Q nv nu x y):ah (M.steps_ 5000000) a 4:=by
 obtain⟨i,hs⟩:=Z6 (op:=11) (F:=F) (size:=a+4+2*half) (r:=rPQuo 0) (j:=31) rfl;have b:=Zlc (Zd3 (hW.ok true)) (k:=0) (.inl rfl) (ret:=a+2) hs h.rdy.r4 h.rdy.r5 h.nx.1 h.ny.1;exact Zmv hW hh h.rdy b (by decide)
theorem Zxa (hW:au 12 F half a)(h:a8 12 F half a s N1 N2 M v1 0 z1 z2 n O Q nv nu x y):ah (M.steps_ 5000000) a 4:=by
 obtain⟨i,hs⟩:=Z6 (op:=12) (F:=F) (size:=a+4+2*half) (r:=rPQuo 1) (j:=33) rfl;have b:=Zlc (Zd3 (hW.ok true)) (k:=1) (.inr rfl) (ret:=a+2) hs h.rdy.r4 h.rdy.r5 h.nx.1 h.ny.1;exact Zmv hW hh h.rdy b (by decide)
end
theorem Zrw {op:Int}(hop:isOp op):∃(r:BR)(j:Nat)(l:List BS),nMidO[j]?=some (ofR r)/\r.name=kRt op/\chkB r=0/\r.behind=true/\r.locals=3/\r.params=2/\r.body=bTypes++l:=by
 have h1:(8:Int)<=op:=hop.1;have h2:op<=14:=hop.2;have e:op=8\/op=9\/op=10\/op=11\/op=12\/op=13\/op=14:=by omega
 rcases e with rfl|rfl|rfl|rfl|rfl|rfl|rfl
 .exact⟨rPAdd 0,30,(rPAdd 0).body.drop bTypes.length,rfl,rfl,by kernel_rfl,rfl,rfl,rfl,rfl⟩
 .exact⟨rPAdd 1,32,(rPAdd 1).body.drop bTypes.length,rfl,rfl,by kernel_rfl,rfl,rfl,rfl,rfl⟩
 .exact⟨rPMul,34,rPMul.body.drop bTypes.length,rfl,rfl,by kernel_rfl,rfl,rfl,rfl,rfl⟩
 .exact⟨rPQuo 0,31,(rPQuo 0).body.drop bTypes.length,rfl,rfl,by kernel_rfl,rfl,rfl,rfl,rfl⟩
 .exact⟨rPQuo 1,33,(rPQuo 1).body.drop bTypes.length,rfl,rfl,by kernel_rfl,rfl,rfl,rfl,rfl⟩
 .exact⟨rPEq,35,rPEq.body.drop bTypes.length,rfl,rfl,by kernel_rfl,rfl,rfl,rfl,rfl⟩
 .exact⟨rPLess,36,rPLess.body.drop bTypes.length,rfl,rfl,by kernel_rfl,rfl,rfl,rfl,rfl⟩
section
variable {op:Int}{F:List Int}{half a s:Int}{k N1 N2:Nat}{m:Mach}{v1 v2 z1 z2 n:Int}{O Q:List Ob}(hop:isOp op)(hW:au op F half a)(hh:1<=half/\half<=1000000)(hs:0<=s/\s<1000000)(h:de op F half a s k N1 N2 m v1 v2 z1 z2 n O Q)
include hop hW hh hs h
theorem Zxb:ah ((am m n (a+4+half) 22 v2).steps_ 5000000) a 2:=by
 obtain⟨r,e⟩:=Zmu hW hh h.hp hs (show(0:Int)<=22/\(22:Int)<=4294967295 by decide) h.b2;obtain⟨b,j,l,g,q,u,t,o,p,f⟩:=Zrw hop;obtain⟨i,d⟩:=Z6 (op:=op) (F:=F) (size:=a+4+2*half) (r:=b) (j:=j) g;have c:=Zlb (Zd3 (hW.ok true)) (r:=b) u t o p (l:=l) f (ret:=a+2) d r.r4 r.r5 (.inl ⟨by decide,by decide⟩);rw[q] at c;exact Zmv hW hh r c (by decide)
theorem Zxc:ah ((am m n (a+4+half) v1 22).steps_ 5000000) a 2:=by
 obtain⟨r,f⟩:=Zmu hW hh h.hp hs h.b1 (show(0:Int)<=22/\(22:Int)<=4294967295 by decide);obtain⟨b,j,l,g,v,A,z,q,u,o⟩:=Zrw hop;obtain⟨i,d⟩:=Z6 (op:=op) (F:=F) (size:=a+4+2*half) (r:=b) (j:=j) g;obtain⟨nv,x,t,_⟩:=h.i1;have w:NumAt (aa true op F (a+4+2*half)) (viewOf (am m n (a+4+half) v1 22)).mem v1 nv x:=t.same λ p e j hj=>f _
 have c:=Zlb (Zd3 (hW.ok true)) (r:=b) A z q u (l:=l) o (ret:=a+2) d r.r4 r.r5 (.inr ⟨⟨nv,x,w⟩,by decide,by decide⟩);rw[v] at c;exact Zmv hW hh r c (by decide)
end
end
section
attribute [local irreducible] aj nL nMid
theorem Zxd (b:List UInt8)(neg:Bool)(c:List Int)(hp:(b=[]/\neg=false)\/(b=[45]/\neg=true))(g:∀d∈c,0<=d/\d<10)(h0:0<c.length):Tz ⟨(b++c.map λ d=>UInt8.ofNat (48+d.toNat)).toArray⟩ b.length neg c.reverse:=by
 have e:(⟨(b++c.map λ d=>UInt8.ofNat (48+d.toNat)).toArray⟩:ByteArray).size=b.length+c.length:=by
  show(b++c.map λ d=>UInt8.ofNat (48+d.toNat)).toArray.size=_
  simp
 refine⟨by rw[e,List.length_reverse],by rw[List.length_reverse];exact h0,λ d l=>g d (List.mem_reverse.1 l),λ i hi o=>?_,?_⟩
 .rw[e] at hi
  obtain⟨j,rfl⟩:∃j,i=b.length+j:=⟨i-b.length,by omega⟩
  have f:j<c.length:=by omega
  have hb:=g c[j] (List.getElem_mem f);have p:((⟨(b++c.map λ d=>UInt8.ofNat (48+d.toNat)).toArray⟩:ByteArray)[b.length+j]'(by rw[e];omega))=UInt8.ofNat (48+(c[j]).toNat):=by
   show(b++c.map λ d=>UInt8.ofNat (48+d.toNat)).toArray[b.length+j]'(by simp;omega)=_
   rw[List.getElem_toArray,List.getElem_append_right (by omega)];simp
  rw[p,e,Ye,List.getElem?_reverse (by omega),show c.length-1-(b.length+c.length-1-(b.length+j))=j by omega,Yf f]
  show((UInt8.ofNat (48+(c[j]).toNat)).toNat:Int)=48+c[j]
  rw[UInt8.toNat_ofNat'];omega
 .rcases hp with⟨rfl,rfl⟩|⟨rfl,rfl⟩
  .exact .inl ⟨rfl,rfl⟩
  .exact .inr ⟨rfl,rfl,λ h=>rfl⟩
theorem Zjn {z n v n':Int}{m d:Mach}(h:az z m n v d n')(b:z=0):v=0:=by
 subst b;obtain⟨ws,b,hl,c⟩:=h;rcases b with⟨_,_,rfl⟩|⟨h0,_⟩
 .rcases c with⟨_,e,_⟩|⟨h2,_⟩
  .rw[e];rfl
  .simp at h2
 .omega
def Zjo (w:World)(L:List Int)(C:Int)(e:Ending)(w':World):Prop :=
 ∃(A:Option Addr)(c:Nat),e=.returned (.tuple #[.slice A L.length c,.int .i64 C])/\Reads w' w'.heap.size A (L.map (Ys .u32))/\Below w.heap.size w w'
theorem Zxe (op:Int)(hop:isOp op)(d f:ByteArray)(q o:Nat)(g1 g2:Bool)(l1 l2:List Int)(t1:Tz d q g1 l1)(t2:Tz f o g2 l2)(G:d.size<=1000000)(k2:f.size<=1000000)(h1:(if tz g1 l1<0 then -tz g1 l1 else tz g1 l1)<65536^40)(h2:(if tz g2 l2<0 then -tz g2 l2 else tz g2 l2)<65536^40)(L:List Int)(C:Int)
 (g:∀(F:List Int)(a v1 v2 n nv nu:Int)(M:Mach)(O Q:List Ob)(x y:List Int),au op F 2000 a->dk op F 2000 a M v1 v2 (tz g1 l1) (tz g2 l2) O Q n nv nu x y->(tz g2 l2=0->v2=0)->a9 (M.steps_ 5000000) (a+3)=(L,C)) (w:World) (E:LVE w) :
 Calls prog 45 #[.int .i64 op,.func (.func 78) #[] #[.pointer (some ⟨w.heap.size,0,none⟩)],.func (.func 78) #[] #[.pointer (some ⟨w.heap.size+1,0,none⟩)]] ((w.alloc (.cells #[.string d] 9 (0,0))).alloc (.cells #[.string f] 9 (0,0))) (Zjo w L C):=by
 have r:(65536:Int)^40<=aw:=Za3 (b:=65536) (by decide) (by decide);have b1:=(Below.refl w.heap.size w).alloc (Yb _) (.cells #[.string d] 9 (0,0));have j:(w.alloc (.cells #[.string d] 9 (0,0))).heap.size=w.heap.size+1:=by simp
 have b2:=b1.alloc b1.size (.cells #[.string f] 9 (0,0));have D:=heap_alloc_new w (.cells #[.string d] 9 (0,0));have u:=heap_alloc_new (w.alloc (.cells #[.string d] 9 (0,0))) (.cells #[.string f] 9 (0,0));have I:=(((Below.refl (w.heap.size+1) (w.alloc (.cells #[.string d] 9 (0,0)))).alloc (Nat.le_of_eq j.symm) (.cells #[.string f] 9 (0,0))).block w.heap.size (Nat.lt_succ_self _)).trans D;rw[j] at u;refine(Z6k op hop _ _ w.heap.size (w.heap.size+1) _ _ _ _ (Zj4 d q g1 l1 t1 G (by omega) _) (Zj4 f o g2 l2 t2 k2 (by omega) _) _ (E.on b2) ⟨by rw[World.size_alloc,j];omega,I⟩ ⟨by rw[World.size_alloc,j];omega,u⟩).mono ?_;rintro e w' ⟨F,a,v1,v2,n1,n2,m1,m2,A,n,c,l,code,hW,hp,p,rfl,z,B,H,t,v⟩;obtain⟨O,Q,nv,nu,x,y,i⟩:=Z51 hW (by decide) hp p h1 h2;rw[g F a v1 v2 n2 nv nu _ O Q x y hW i (Zjn p)] at t
 cases t
 subst z;exact⟨A,c,rfl,H,b2.trans (v.mono b2.size)⟩
end
section
attribute [local irreducible] aj nL nMid
def S.af (op z1 z2:Int):Int:=if op=8 then z1+z2 else if op=9 then z1-z2 else if op=10 then z1*z2 else if op=11 then Int.tdiv z1 z2 else Int.tmod z1 z2
theorem Z30 (z:Int):(if z<0 then -z else z)=(z.natAbs:Int):=by split <;> omega
theorem Z0l {op z1 z2 X:Int}(b:1<=X)(h1:(z1.natAbs:Int)<=X)(h2:(z2.natAbs:Int)<=X):((af op z1 z2).natAbs:Int)<=X*X+X:=by
 have c:=Int.mul_le_mul_of_nonneg_left b (show(0:Int)<=X by omega);rw[Int.mul_one] at c;unfold af
 split
 .have:=Int.natAbs_add_le z1 z2;omega
 .split
  .have:=Int.natAbs_sub_le z1 z2;omega
  .split
   .rw[Int.natAbs_mul,Int.natCast_mul]
    have a1:=Int.mul_le_mul_of_nonneg_left h2 (show(0:Int)<=z1.natAbs by omega);have a2:=Int.mul_le_mul_of_nonneg_right h1 (show(0:Int)<=X by omega);omega
   .split
    .rw[Int.natAbs_tdiv]
     exact Int.le_trans (Int.ofNat_le.2 (Nat.div_le_self _ _)) (by omega)
    .rw[Int.natAbs_tmod]
     exact Int.le_trans (Int.ofNat_le.2 (Nat.mod_le _ _)) (by omega)
theorem Z31 {X Y:Int}(h0:65536<=X)(h:X*X*65536<=Y):X*X+X<Y:=by
 have b:=Int.mul_le_mul_of_nonneg_left (show 1<=X by omega) (show(0:Int)<=X by omega);rw[Int.mul_one] at b;omega
theorem Zjp {op z1 z2:Int}{N1 N2:Nat}(hN:N1<=40/\N2<=40)(h1:(if z1<0 then -z1 else z1)<65536^N1)(h2:(if z2<0 then -z2 else z2)<65536^N2):(if af op z1 z2<0 then -(af op z1 z2) else af op z1 z2)<65536^250:=by
 have p1:=Za3 (b:=65536) (by decide) (show N1<=40 by omega);have p2:=Za3 (b:=65536) (by decide) (show N2<=40 by omega);have f:=Za3 (b:=65536) (by decide) (show 1<=40 by decide);have d:(65536:Int)^1=65536:=Int.pow_one _;have e:(65536:Int)^40*65536^40*65536=65536^81:=by rw[<- Int.pow_add,<- Int.pow_succ]
 have c:=Za3 (b:=65536) (by decide) (show 81<=250 by decide);rw[Z30] at h1 h2⊢;rw[d] at f;rw[<- e] at c;clear e d;generalize (65536:Int)^250=Y at *;generalize (65536:Int)^40=X at *;generalize (65536:Int)^N1=X1 at *;generalize (65536:Int)^N2=X2 at *;have q:=Z0l (op:=op) (z1:=z1) (z2:=z2) (X:=X) (by omega) (by omega) (by omega);have:=Z31 f c;omega
end
section
attribute [local irreducible] aj nL nMid
section
variable {op:Int}{F:List Int}{half a s:Int}{k N1 N2:Nat}{m1 m2:Mach}{va vb z1 z2 na nb:Int}{t1 t2:Bool}{P Q:Int}
theorem Z32 (hop:isOp op)(hW:au op F half a)(hh:1<=half/\half<=1000000)(r:1<=k)(p:(k:Int)+N1+N2+4<=half)(i:2<=N1/\N1<=40)(g:2<=N2/\N2<=40)(hs:0<=s/\s<1000000)
 (hp:az z1 (((aj (nL op F) half).goV (a+1)).putV (a+4) (32*((k:Int)-1)+7)) (a+4+k) va m1 na) (q:az z2 m1 na vb m2 nb) (h1:(if z1<0 then -z1 else z1)<65536^N1) (h2:(if z2<0 then -z2 else z2)<65536^N2) (t:¬(t1=true/\t2=true)) (l:P=if t1=true then 22 else va) (o:Q=if t2=true then 22 else vb) {j:Mach} (f:j=(am (m2.putV 7 s) nb (a+4+half) P Q).steps_ 5000000) :
 ((t1=true\/t2=true)/\ah j a 2)\/((t1=false/\t2=false)/\(((op=11\/op=12)/\z2=0/\ah j a 4)\/((op=13\/op=14)/\ao j a (if (op=13/\z1=z2)\/(op=14/\z1<z2) then 22 else 6))\/(op<=12/\(11<=op->z2≠0)/\(aq j a (af op z1 z2)\/(ah j a 255/\an half s N1 N2))))):=by
 obtain⟨O,Qo,hm⟩:=Z54 hW hh r p i g hs hp q h1 h2
 cases t1 with
 | true =>
  cases t2 with
  | true=>exact absurd ⟨rfl,rfl⟩ t
  | false =>
   rw[if_pos rfl] at l;rw[if_neg (by decide)] at o;subst l o;rw[f];exact .inl ⟨.inl rfl,Zxb hop hW hh hs hm⟩
 | false =>
  cases t2 with
  | true =>
   rw[if_neg (by decide)] at l;rw[if_pos rfl] at o;subst l o;rw[f];exact .inl ⟨.inr rfl,Zxc hop hW hh hs hm⟩
  | false =>
   refine .inr ⟨⟨rfl,rfl⟩,?_⟩;rw[if_neg (by decide)] at l o;subst l o;obtain⟨nv,nu,x,y,b⟩:=Z3u hW hh hs hm;have d:=Zjp (op:=op) ⟨i.2,g.2⟩ h1 h2;have hN:N1<=40/\N2<=40:=⟨i.2,g.2⟩
   rw[f];clear f j;generalize am (m2.putV 7 s) nb (a+4+half) P Q=M0 at b⊢;have b1:(8:Int)<=op:=hop.1;have b2:op<=14:=hop.2;have e:op=8\/op=9\/op=10\/op=11\/op=12\/op=13\/op=14:=by omega
   rcases e with rfl|rfl|rfl|rfl|rfl|rfl|rfl
   .have e:af 8 z1 z2=z1+z2:=rfl
    rw[e] at d⊢;exact .inr (.inr ⟨by decide,λ h=>by omega,Z3v hN hh hW b d⟩)
   .have e:af 9 z1 z2=z1-z2:=rfl
    rw[e] at d⊢;exact .inr (.inr ⟨by decide,λ h=>by omega,Z3w hN hh hW b d⟩)
   .have e:af 10 z1 z2=z1*z2:=rfl
    rw[e] at d⊢;exact .inr (.inr ⟨by decide,λ h=>by omega,Z3x hN hh hW b d⟩)
   .by_cases hz:z2=0
    .have e0:=Zjn q hz
     subst e0;exact .inl ⟨.inl rfl,hz,Zw9 hN hh hW b⟩
    .have e:af 11 z1 z2=Int.tdiv z1 z2:=rfl
     rw[e] at d⊢;exact .inr (.inr ⟨by decide,λ _=>hz,Z3y hN hh hW b hz d⟩)
   .by_cases hz:z2=0
    .have e0:=Zjn q hz
     subst e0;exact .inl ⟨.inr rfl,hz,Zxa hN hh hW b⟩
    .have e:af 12 z1 z2=Int.tmod z1 z2:=rfl
     rw[e] at d⊢;exact .inr (.inr ⟨by decide,λ _=>hz,Z3z hN hh hW b hz d⟩)
   .refine .inr (.inl ⟨.inl rfl,?_⟩)
    have:=Z55 hN hh hW b;by_cases c:z1=z2
    .rw[if_pos c] at this
     rw[if_pos (.inl ⟨rfl,c⟩)];exact this
    .rw[if_neg c] at this
     rw[if_neg (by omega)];exact this
   .refine .inr (.inl ⟨.inr rfl,?_⟩)
    have:=Z0k hN hh hW b;by_cases c:z1<z2
    .rw[if_pos c] at this
     rw[if_pos (.inr ⟨rfl,c⟩)];exact this
    .rw[if_neg c] at this
     rw[if_neg (by omega)];exact this
end
end
section
attribute [local irreducible] aj nL nMid
theorem Ze5 {z:Int}{N:Nat}(h:z<65536^8)(hN:8<=N):z<65536^N:=by
 have:=Za3 (b:=65536) (by decide) hN;omega
theorem Zo2:Tz ⟨#[53,51,54,56,55,48,57,49,49]⟩ 0 false [1,1,9,0,7,8,6,3,5]:=Zxd [] false [5,3,6,8,7,0,9,1,1] (.inl ⟨rfl,rfl⟩) (by decide) (by decide)
theorem Zhu:tz false [1,1,9,0,7,8,6,3,5]=536870911:=by decide
theorem Z8b:Tz ⟨#[49]⟩ 0 false [1]:=Zxd [] false [1] (.inl ⟨rfl,rfl⟩) (by decide) (by decide)
theorem Z4o:tz false [1]=1:=by decide
theorem Zo3:Tz ⟨#[53,51,54,56,55,48,57,49,50]⟩ 0 false [2,1,9,0,7,8,6,3,5]:=Zxd [] false [5,3,6,8,7,0,9,1,2] (.inl ⟨rfl,rfl⟩) (by decide) (by decide)
theorem Zhv:tz false [2,1,9,0,7,8,6,3,5]=536870912:=by decide
theorem Zqu:Wz (536870912) [127,0,0,32768]:=.inr ⟨by decide,[0,8192],⟨by unfold DgB;decide,by decide,by decide⟩,by decide⟩
theorem Zqv:Wz (536870911) [2147483644]:=.inl ⟨by decide,by decide,by decide⟩
theorem Z56 (w:World)(f:LVE w):Calls prog 45 #[.int .i64 8,.func (.func 78) #[] #[.pointer (some ⟨w.heap.size,0,none⟩)],.func (.func 78) #[] #[.pointer (some ⟨w.heap.size+1,0,none⟩)]] ((w.alloc (.cells #[.string ⟨#[53,51,54,56,55,48,57,49,49]⟩] 9 (0,0))).alloc (.cells #[.string ⟨#[49]⟩] 9 (0,0))) (Zjo w [127,0,0,32768] (-1)) :=
 Zxe 8 ⟨by decide,by decide⟩ _ _ _ _ _ _ _ _ Zo2 Z8b (by decide) (by decide) (by rw[Zhu];exact Ze5 (by decide) (by decide)) (by rw[Z4o];exact Ze5 (by decide) (by decide)) _ _ (λ F a v1 v2 n nv nu M O Q x y hW b h0=>by
  rw[Zhu,Z4o] at b;rw[Z4o] at h0;have d:(536870911)+(1)=(536870912:Int):=by decide
  obtain⟨l,e,c⟩:=Z3s hW (by decide) b (by rw[d];exact Ze5 (by decide) (by decide));rw[d] at c;rw[e,Zsb c Zqu]) w f
theorem Z7g (w:World)(f:LVE w):Calls prog 45 #[.int .i64 9,.func (.func 78) #[] #[.pointer (some ⟨w.heap.size,0,none⟩)],.func (.func 78) #[] #[.pointer (some ⟨w.heap.size+1,0,none⟩)]] ((w.alloc (.cells #[.string ⟨#[53,51,54,56,55,48,57,49,50]⟩] 9 (0,0))).alloc (.cells #[.string ⟨#[49]⟩] 9 (0,0))) (Zjo w [2147483644] (-1)) :=
 Zxe 9 ⟨by decide,by decide⟩ _ _ _ _ _ _ _ _ Zo3 Z8b (by decide) (by decide) (by rw[Zhv];exact Ze5 (by decide) (by decide)) (by rw[Z4o];exact Ze5 (by decide) (by decide)) _ _ (λ F a v1 v2 n nv nu M O Q x y hW b h0=>by
  rw[Zhv,Z4o] at b;rw[Z4o] at h0;have d:(536870912)-(1)=(536870911:Int):=by decide
  obtain⟨l,e,c⟩:=Z3t hW (by decide) b (by rw[d];exact Ze5 (by decide) (by decide));rw[d] at c;rw[e,Zsb c Zqv]) w f
theorem Z1r (L:List Int)(A:Option Addr)(c:Nat)(w:World)(d:Reads w w.heap.size A (L.map (Ys .u32)))(hN:L.length<=1000000):Calls prog 47 #[.slice A L.length c,.int .i64 (-1),.slice (some ⟨w.heap.size,0,none⟩) L.length L.length] (w.alloc (.cells (L.map (Ys .u32)).toArray 31 (0,0))) λ e w'=>e=.returned (.bool true)/\Below w.heap.size w w':=by
 have b:=(Below.refl w.heap.size w).alloc (Yb _) (.cells (L.map (Ys .u32)).toArray 31 (0,0));have f:=Zl5 (w:=w) (base:=w.heap.size) (e:=31) (size:=1) (n:=L.length) (cs:=(L.map (Ys .u32)).toArray) (xs:=L.map (Ys .u32)) (Yb _) (by simp) rfl (by simp only[maxLen];omega);refine(Z8r A (some ⟨w.heap.size,0,none⟩) L.length c L.length L.length (-1) L L rfl rfl _ ((d.below b).moreM b.size) (Za8 f) hN hN).mono ?_;rintro e w' ⟨rfl,h⟩;refine⟨?_,b.trans (h.mono b.size)⟩;unfold b9;rw[decide_eq_true rfl,decide_eq_true rfl];rfl
theorem Zeq (w0:World)(z:LVE w0):Calls prog 18 #[] w0 λ e w'=>e=.returned (.bool true)/\Below w0.heap.size w0 w':=by
 have w:=Ya z;have g:=Ya (Below.refl w0.heap.size w0);clear z;go_enter func18,ntmps18
 go_wp2_with fail
 refine(Zm5 _ _).mono ?_;rintro e K ⟨rfl,rfl⟩;go_wp2_with fail
 refine(Zm5 _ _).mono ?_;rintro e J ⟨rfl,rfl⟩;go_wp2_with fail
 refine(Z56 w0 (w.out.on g.out)).mono ?_;rintro e w1 ⟨I,c1,rfl,q,f⟩;have v:=Ya q;have d:=Ya (g.out.trans (f.mono g.out.size));have B:=Ya f;clear q f;go_wp2_with fail
 refine(Zm5 _ _).mono ?_;rintro e D ⟨rfl,rfl⟩;go_wp2_with fail
 refine(Zm5 _ _).mono ?_;rintro e G ⟨rfl,rfl⟩;go_wp2_with fail
 refine(Z7g w1 (w.out.on d.out)).mono ?_;rintro e E ⟨C,c2,rfl,o,c⟩;have t:=Ya o;have j:=Ya (d.out.trans (c.mono d.out.size));have r:=Ya c;clear o c;go_wp2_with fail
 refine(Z1r [127,0,0,32768] I c1 E (((v.out).below r.out).moreM r.out.size) (by decide)).mono ?_;rintro e A ⟨rfl,b⟩;have p:=Ya b;have l:=Ya (j.out.trans (b.mono j.out.size));clear b;go_wp2_with fail
 refine(Z1r [2147483644] C c2 A (((t.out).below p.out).moreM p.out.size) (by decide)).mono ?_;rintro e w4 ⟨rfl,i⟩;have H:=Ya i;have u:=Ya (l.out.trans (i.mono l.out.size));clear i;go_wp2_with fail
 go_ret
 exact⟨rfl,u.out⟩
end
