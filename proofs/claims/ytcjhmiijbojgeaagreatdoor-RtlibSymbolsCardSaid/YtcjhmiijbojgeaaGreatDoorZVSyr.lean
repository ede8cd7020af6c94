/- Parts. -/
import Derived.Test.YtcjhmiijbojgeaaGreatDoorZVInn
import Derived.Test.YtcjhmiijbojgeaaGreatDoorZVKno
set_option linter.all false
open List renaming getElem?_eq_getElem->Ye,getD_eq_getElem?_getD->Yh,length_cons->Yk,mem_cons->Yr,not_mem_nil->Yv,length_nil->Yad
namespace Go.Proofs.YtcjhmiijbojgeaaGreatDoor
open S Go.RowKit
section
attribute [local irreducible] midV
namespace S
def symO (H:Int)(xa:List Int)(H4:Int)(xb:List Int):List Ob :=
 [⟨H,(32*xa.length+19)::xa⟩,⟨H+xa.length+1,[55,4*H+1]⟩,⟨H+xa.length+3,[67,4*(H+xa.length+1)+1,38]⟩,⟨H4,(32*xb.length+19)::xb⟩]
def CharW (xa:List Int):Prop:=∀x∈xa,0<=x/\x<4294967296/\x%4=2
end S
section
variable {I:Img}{H H4 fr to_ hf:Int}{xa xb:List Int}(hc:Cf.Ok I ⟨S.symO H xa H4 xb,fr,to_,hf⟩)
include hc
theorem Zsx {T:S.Ob->Prop}{X:Int->Prop}{st h:Vw}{ρ:List S.Ob}(c:Cd ⟨S.symO H xa H4 xb,fr,to_,hf⟩ T X st ρ h)(ha:S.CharW xa)(hb:S.CharW xb)(U:xa.length<=1000)(a6:xb.length<=1000)(x5:X 5)(a5:X 16)(V:X 17)
 (m5:st.mem 5=4*(H+xa.length+3)+1) (O:st.mem 16=4*(H+xa.length+1)+1) (L:st.mem 17=4*H4+1) :
 ∃s p,h.mem 16=4*s+1/\h.mem 17=4*p+1/\(∀b:Int->Int,(∀a,to_<=a->a<to_+hf->b a=h.mem a)->b 5=h.mem 5->S.SymL I b (b 5) [(s,xa)]/\StrAt I b p xb)/\(to_<=s/\s+2<=to_+tot ρ)/\(to_<=p/\p+xb.length+1<=to_+tot ρ)/\tot ρ<=xa.length+xb.length+7:=by
 obtain⟨D,n⟩:∃o:S.Ob,o=⟨H,(32*xa.length+19)::xa⟩:=⟨_,rfl⟩
 obtain⟨C,m⟩:∃o:S.Ob,o=⟨H+xa.length+1,[55,4*H+1]⟩:=⟨_,rfl⟩
 obtain⟨v,g⟩:∃o:S.Ob,o=⟨H+xa.length+3,[67,4*(H+xa.length+1)+1,38]⟩:=⟨_,rfl⟩
 obtain⟨z,r⟩:∃o:S.Ob,o=⟨H4,(32*xb.length+19)::xb⟩:=⟨_,rfl⟩
 have Q:S.symO H xa H4 xb=[D,C,v,z]:=by rw[n,m,g,r];rfl
 have iS:D∈S.symO H xa H4 xb:=by rw[Q];simp
 have iY:C∈S.symO H xa H4 xb:=by rw[Q];simp
 have iP:v∈S.symO H xa H4 xb:=by rw[Q];simp
 have iB:z∈S.symO H xa H4 xb:=by rw[Q];simp
 have G:tot ρ<=xa.length+xb.length+7:=by
  have q:=Zb9 ρ _ c.nd c.sub;simp only at q;have e:tot (S.symO H xa H4 xb)=xa.length+xb.length+7:=by
   show(((32*(xa.length:Int)+19)::xa).length:Int)+((2:Nat)+((3:Nat)+((((32*(xb.length:Int)+19)::xb).length:Int)+0)))=_
   rw[Yk,Yk];omega
  omega
 have l:=hc.tod;have J:=Zb9 ρ _ c.nd c.sub;have W:=hc.sum;have t0:=Zp ρ;have P:=hc.to0;have M:=hc.toz;simp only at J W P M l;have i:∀(o:S.Ob),o∈S.symO H xa H4 xb->o∈ρ->∃ν,nw to_ ρ o.at_=some ν/\mv to_ ρ (4*o.at_+1)=4*ν+1/\to_<=ν/\ν+o.ws.length<=to_+tot ρ:=λ o ho hm=>by
  obtain⟨ν,hν⟩:=Zgg (t:=to_) hm;obtain⟨_,n1,n2⟩:=Zng hc c.sub ho hν;refine⟨ν,hν,?_,n1,n2⟩;unfold mv;rw[if_pos (by omega),show(4*o.at_+1)/4=o.at_ by omega,hν]
 have d:∀w:Int,w%4≠1->mv to_ ρ w=w:=λ w hw=>by
  unfold mv;rw[if_neg hw]
 obtain⟨g5,c5⟩:=c.root 5 x5;obtain⟨N,c16⟩:=c.root 16 a5;obtain⟨K,a2⟩:=c.root 17 V;have R:v∈ρ:=c5 v iP (by rw[m5,g]);have Z:C∈ρ:=c16 C iY (by rw[O,m]);have jB:z∈ρ:=a2 z iB (by rw[L,r]);obtain⟨νP,eP,vP,a8,b0⟩:=i v iP R;obtain⟨νY,eY,vY,b1,a9⟩:=i C iY Z;obtain⟨νB,eB,vB,a0,a4⟩:=i z iB jB;have E:=c.new C Z νY eY 1 (4*H+1) (by rw[m];rfl);have jS:D∈ρ:=E.2 D iS (by rw[n]);obtain⟨νS,eS,vS,a1,Y⟩:=i D iS jS;have y:=(c.new C Z νY eY 0 55 (by rw[m];rfl)).1;have B:=(c.new v R νP eP 0 67 (by rw[g];rfl)).1;have A:=(c.new v R νP eP 1 (4*(H+xa.length+1)+1) (by rw[g];rfl)).1;have x:=(c.new v R νP eP 2 38 (by rw[g];rfl)).1;have nS:=c.new D jS νS eS;have nB:=c.new z jB νB eB;have lP:(v.ws.length:Int)=3:=by rw[g];rfl
 have lY:(C.ws.length:Int)=2:=by rw[m];rfl
 have lS:(D.ws.length:Int)=xa.length+1:=by rw[n];simp
 have lB:(z.ws.length:Int)=xb.length+1:=by rw[r];simp
 have aP:v.at_=H+xa.length+3:=by rw[g]
 have aY:C.at_=H+xa.length+1:=by rw[m]
 have aS:D.at_=H:=by rw[n]
 have aB:z.at_=H4:=by rw[r]
 rw[aP] at vP;rw[aY] at vY;rw[aS] at vS;rw[aB] at vB;simp only at y B A x E g5 N K nS nB;rw[d 55 (by decide),show νY+((0:Nat):Int)=νY by omega] at y;rw[d 67 (by decide),show νP+((0:Nat):Int)=νP by omega] at B;rw[vY,show νP+((1:Nat):Int)=νP+1 by omega] at A;rw[d 38 (by decide),show νP+((2:Nat):Int)=νP+2 by omega] at x;have u:=E.1;rw[vS,show νY+((1:Nat):Int)=νY+1 by omega] at u;have str:∀(b:Int->Int),(∀a,to_<=a->a<to_+hf->b a=h.mem a)->∀(o:S.Ob)(ν:Int)(ws:List Int),o.ws=(32*(ws.length:Int)+19)::ws->S.CharW ws->ws.length<=1000->to_<=ν->ν+o.ws.length<=to_+tot ρ->(∀(k:Nat)(w:Int),o.ws[k]?=some w->h.mem (ν+(k:Int))=mv to_ ρ w/\Cl ⟨S.symO H xa H4 xb,fr,to_,hf⟩ ρ w)->StrAt I b ν ws:=λ b f o ν ws he a3 hl h1 h2 hn=>by
  have a7:(o.ws.length:Int)=ws.length+1:=by rw[he,Yk];omega
  refine⟨⟨by decide,by omega,λ j hj=>l _ (by omega) (by omega),?_⟩,λ k hk=>?_⟩
  .have:=(hn 0 (32*(ws.length:Int)+19) (by rw[he];rfl)).1
   rw[d _ (by omega),show ν+((0:Nat):Int)=ν by omega] at this;rw[f ν (by omega) (by omega),this];omega
  .have hg:o.ws[k+1]?=some (ws.getD k 0):=by
    rw[he,List.getElem?_cons_succ,Yh,Ye hk];rfl
   have:=(hn (k+1) _ hg).1;have hm:ws.getD k 0∈ws:=by
    rw[Yh,Ye hk];exact List.getElem_mem hk
   rw[d _ (by have:=(a3 _ hm).2.2;omega),show ν+((k+1:Nat):Int)=ν+1+k by omega] at this;rw[f _ (by omega) (by omega)];exact this
 refine⟨νY,νB,by rw[N,O,vY],by rw[K,L,vB],λ b f h5=>⟨?_,str b f z νB xb (by rw[r]) hb a6 a0 a4 nB⟩,by omega,by omega,G⟩;rw[<- f νP (by omega) (by omega)] at B;rw[<- f (νP+1) (by omega) (by omega)] at A;rw[<- f (νP+2) (by omega) (by omega)] at x;rw[<- f νY (by omega) (by omega)] at y;rw[<- f (νY+1) (by omega) (by omega)] at u;rw[h5,g5,m5,vP];refine .cons (t:=νS) ⟨by decide,by decide,λ j hj=>l _ (by omega) (by omega),B⟩ A ⟨by decide,by decide,λ j hj=>l _ (by omega) (by omega),y⟩ u (str b f D νS xa (by rw[n]) ha U a1 Y nS) ?_;rw[x];exact .nil
end
theorem Zzt {H H4 fr r26:Int}{xa xb:List Int}(l:S.CharW xa)(m:S.CharW xb)(i:xa.length<=1000)(k:xb.length<=1000)(h0:fr<=H)(hf0:0<=fr)(h1:H+xa.length+6<=H4)(h2:H4+xb.length+1<=r26)(h3:r26<=1000000000) :
 (∀o∈S.symO H xa H4 xb,ObOk o/\fr<=o.at_/\o.at_+o.ws.length<=r26)/\(∀o∈S.symO H xa H4 xb,∀g∈S.symO H xa H4 xb,o≠g->o.at_+o.ws.length<=g.at_\/g.at_+g.ws.length<=o.at_)/\(S.symO H xa H4 xb).Nodup:=by
 have b:∀(a:Int)(ws:List Int),S.CharW ws->ws.length<=1000->ObOk ⟨a,(32*(ws.length:Int)+19)::ws⟩:=λ a ws h hl=>⟨λ w c=>by
  rcases Yr.1 c with rfl|c
  .omega
  .exact⟨(h w c).1,(h w c).2.1⟩,_,ws,rfl,by omega,by omega⟩
 unfold S.symO;refine⟨λ o d=>?_,λ o d g f j=>?_,?_⟩
 .simp only[Yr,Yv,or_false] at d
  rcases d with rfl|rfl|rfl|rfl
  .exact⟨b _ _ l i,by simp only;omega,by simp only[Yk];omega⟩
  .refine⟨⟨λ w c=>?_,55,[4*H+1],rfl,by decide,rfl⟩,by simp only;omega,by simp only[Yk,Yad];omega⟩
   simp only[Yr,Yv,or_false] at c;rcases c with rfl|rfl <;> omega
  .refine⟨⟨λ w c=>?_,67,[4*(H+xa.length+1)+1,38],rfl,by decide,rfl⟩,by simp only;omega,by simp only[Yk,Yad];omega⟩
   simp only[Yr,Yv,or_false] at c;rcases c with rfl|rfl|rfl <;> omega
  .exact⟨b _ _ m k,by simp only;omega,by simp only[Yk];omega⟩
 .simp only[Yr,Yv,or_false] at d f
  rcases d with rfl|rfl|rfl|rfl <;> rcases f with rfl|rfl|rfl|rfl <;> first
   | exact absurd rfl j
   | (simp only[Yk,Yad];omega)
 .simp only[List.nodup_cons,Yr,Yv,or_false,not_or,not_false_eq_true,List.nodup_nil,and_true]
  refine⟨⟨λ e=>?_,λ e=>?_,λ e=>?_⟩,⟨λ e=>?_,λ e=>?_⟩,λ e=>?_⟩ <;> (injection e with e1 e2;omega)
end
section
attribute [local irreducible] midV
namespace S
def againM (m0 m:Mach):Mach:={ m0 with reg:=m.reg,mem:=m.mem }
structure SymF (mem:Int->Int)(H:Int)(xa:List Int):Prop where
 m5:mem 5=4*(H+xa.length+3)+1
 hd:mem H=32*xa.length+19
 chars:∀k:Nat,k<xa.length->mem (H+1+k)=xa.getD k 0
 s0:mem (H+xa.length+1)=55
 s1:mem (H+xa.length+2)=4*H+1
 p0:mem (H+xa.length+3)=67
 p1:mem (H+xa.length+4)=4*(H+xa.length+1)+1
 p2:mem (H+xa.length+5)=38
structure RdyI (gw sw F:List Int)(size:Int)(m:Mach)(H top:Int)(l:List (Int×List Int)):Prop where
 wd:WdV gw sw F size m
 m7:m.mv 7=0
 r26:m.rd 26=H
 r27:m.rd 27=top
 H0:(wImgV true gw sw F size).lab kEnd<=H
 top:top<=size
 sym:SymL (wImgV true gw sw F size) m.mv (m.mv 5) l
end S
theorem Zw5 {I:Img}{mem:Int->Int}{H:Int}{xa:List Int}(h:S.SymF mem H xa)(hl:xa.length<=1000)(hd:∀a,H<=a->a<H+xa.length+6->Dat I a):S.SymL I mem (mem 5) [(H+xa.length+1,xa)]:=by
 rw[h.m5];refine .cons (t:=H) ⟨by decide,by decide,λ j b=>hd _ (by omega) (by omega),h.p0⟩ ?_ ⟨by decide,by decide,λ j b=>hd _ (by omega) (by omega),h.s0⟩ ?_ ⟨⟨by decide,by omega,λ j b=>hd _ (by omega) (by omega),?_⟩,h.chars⟩ ?_
 .rw[show H+(xa.length:Int)+3+1=H+xa.length+4 by omega];exact h.p1
 .rw[show H+(xa.length:Int)+1+1=H+xa.length+2 by omega];exact h.s1
 .rw[h.hd];omega
 .rw[show H+(xa.length:Int)+3+2=H+xa.length+5 by omega,h.p2]
  exact .nil
theorem Zjd {mem b:Int->Int}{H:Int}{xa:List Int}(h:S.SymF mem H xa)(c:b 5=mem 5)(hm:∀a,H<=a->a<H+xa.length+6->b a=mem a):S.SymF b H xa:=by
 refine⟨c.trans h.m5,?_,λ k d=>?_,?_,?_,?_,?_,?_⟩
 .rw[hm _ (by omega) (by omega)];exact h.hd
 .rw[hm _ (by omega) (by omega)];exact h.chars k d
 .rw[hm _ (by omega) (by omega)];exact h.s0
 .rw[hm _ (by omega) (by omega)];exact h.s1
 .rw[hm _ (by omega) (by omega)];exact h.p0
 .rw[hm _ (by omega) (by omega)];exact h.p1
 .rw[hm _ (by omega) (by omega)];exact h.p2
theorem Zzu {st a:Vw}{H:Int}{xa:List Int}(h:az st a H xa)(b:st.mem 5=38):S.SymF a.mem H xa:=⟨h.m5,h.hd,h.chars,h.s0,h.s1,h.p0,h.p1,h.p2.trans b⟩
section
variable {gw sw F:List Int}{size:Int}(hI:(S.wImgV true gw sw F size).Ok)
include hI
theorem Zqx {a:Int}(h0:(S.wImgV true gw sw F size).lab S.kEnd<=a)(b:a<size):Dat (S.wImgV true gw sw F size) a:=by
 have he:=Zas hI;refine⟨by omega,b,λ q=>?_,λ q=>?_⟩
 .have q1:=q.2
  have e2:(S.wImgV true gw sw F size).hi=1312:=rfl;omega
 .have:=(Zbm hI).1 q
  omega
theorem Z6n {a:Int}(h0:0<=a)(h1:a<1056):Dat (S.wImgV true gw sw F size) a:=by
 have he:=Zas hI;refine⟨h0,by show a<size;omega,λ q=>?_,λ q=>?_⟩
 .have q1:=q.1
  have e2:(S.wImgV true gw sw F size).lo=1056:=rfl;omega
 .have:=(Zbm hI).1 q
  omega
theorem Zl1 {m:S.Mach}{H top p:Int}{ws:List Int}{l:List (Int×List Int)}(h:S.RdyI gw sw F size m H top l)(E:m.rd 4=4*p+1)(K:StrAt (S.wImgV true gw sw F size) m.mv p ws)(hl:ws.length<=200)(u:l.length<=1)(hp:1312<=p)(n:p+ws.length<H)(A:H+ws.length+6<=top){N:Nat}(hN:100000<=N) :
 ax (callP (S.wImgV true gw sw F size) m (kRt 25) N) ((S.wImgV true gw sw F size).lab kMapped+1)=0 /\
 ∃b,bj (S.wImgV true gw sw F size) (callP (S.wImgV true gw sw F size) m (kRt 25) N) b/\(callP (S.wImgV true gw sw F size) m (kRt 25) N).rd 28=1056 /\
  match findW ws l with
  | some s=>(callP (S.wImgV true gw sw F size) m (kRt 25) N).rd 4=4*s+1
  | none=>(callP (S.wImgV true gw sw F size) m (kRt 25) N).rd 4=4*(H+ws.length+1)+1/\az (viewOf (m.setV 31 ((S.wImgV true gw sw F size).lab kMapped))) b H ws:=by
 obtain⟨f,z,v3,v4⟩:=Zqr hI h.wd ((S.wImgV true gw sw F size).lab kMapped);obtain⟨i0,P⟩:=Zsp (gw:=gw) (sw:=sw) (F:=F) (size:=size) (j:=5) (r:=vIntern) rfl;have he:=Zas hI;have w:=Zah hI;have J:=hI.size2;have D:(S.wImgV true gw sw F size).size=size:=rfl;have O:=h.H0;have y:=h.top;have M:=Zph (Z58 gw sw F size hI) P (ret:=(S.wImgV true gw sw F size).lab kMapped) (H:=H) (p:=p) (ws:=ws) (l:=l) ((f 4 (by decide)).trans E) (by rw[z];exact K) (by omega) (by rw[z];exact h.sym)
  ⟨λ x C Q=>Z6n hI C Q,(f 26 (by decide)).trans h.r26,by rw[f 27 (by decide),h.r27];omega,by rw[f 27 (by decide),h.r27];omega,by omega,by rw[z];exact h.m7,λ a a0 a1=>Zqx hI (by omega) (by omega)⟩ hp n (by have:=w.2.2.2.1;omega)
 obtain⟨L,G⟩:=Znw hI h.wd has_rtsV.2.2.2.1 (by decide) M (N:=N) (λ o k d=>by
  have h1:=d.1;have h2:(400+60*ws.length)*l.length<=(400+60*200)*1:=Nat.mul_le_mul (by omega) u;omega) (λ t st k d=>by obtain⟨_,b,e,_⟩:=d;cases e) (λ c st k d=>by obtain⟨_,b,e,_⟩:=d;cases e)
 rcases G with⟨b,k,g,B,v,i,ho⟩|⟨b,k,c,g,_⟩
 .obtain⟨_,st2,e,hm⟩:=g
  cases e
  refine⟨?_,b,B,i,?_⟩
  .unfold ax
   rw[if_neg (λ q=>q L),if_pos v]
  .have r4:=B.reg 4 (by decide)
   split
   .rename_i s hfs
    rw[hfs] at hm;exact r4.trans hm.1
   .rename_i hfs
    rw[hfs] at hm;exact⟨r4.trans hm.1,hm.2⟩
 .obtain⟨_,st2,e,_⟩:=g
  cases e
theorem Zqy {m0 m:S.Mach}{st:Vw}(h0:S.WdV gw sw F size m0)(c:bj (S.wImgV true gw sw F size) m st)(b:m.rd 28=1056):S.WdV gw sw F size (S.againM m0 m)/\(∀j,(S.againM m0 m).rd j=m.rd j)/\(∀a,(S.againM m0 m).mv a=m.mv a):=by
 have k:=h0.ok;have q:=c.ok;exact⟨⟨⟨q.regs,q.word,q.zero,q.mem,q.memw,k.place0,k.place1,k.inp,k.outp,k.code0,k.code1⟩,h0.run,c.len,c.code,b,h0.out,h0.steps⟩,λ _=>rfl,λ _=>rfl⟩
end
end
