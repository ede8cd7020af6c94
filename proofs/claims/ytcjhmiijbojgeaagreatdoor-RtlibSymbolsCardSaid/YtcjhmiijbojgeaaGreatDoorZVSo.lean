/- Parts. -/
import Derived.Test.YtcjhmiijbojgeaaGreatDoorZVSm
import Derived.BigRegion
import Derived.Deep.DeepCutAuto
import Derived.Deep.RegionWith
set_option linter.all false
set_option maxHeartbeats 4000000
open Go.Lib renaming hid->Ya,cell_of_heap->Yb,frozen_of_heap->Yy
open Nat renaming le_refl->Yc,lt_of_lt_of_le->Ys,le_trans->Yz,zero_le->Yao
open List renaming getElem?_eq_getElem->Ye,length_cons->Yk,mem_cons->Yr,not_mem_nil->Yv,getElem_mem->Yas
open Go.AllReady renaming cons->Yf,nil->Yi
open Go.RowKit.Below renaming refl->Yj,heap_setCell->Yal
open Go.IntWalk renaming i64_in->Ym
open Go.Value renaming oneCell'->Yt,ownBlock->Yah
namespace Go.Proofs.YtcjhmiijbojgeaaGreatDoor
open S Go.Proofs.Tryz Go.RowKit
set_option maxRecDepth 100000
section
set_option maxRecDepth 2000
attribute [local irreducible] midV takeM againM Mach.mv Mach.rd Mach.putV Mach.setV callM callP
section
variable {F:List Int}{size H0 half:Int}{m0:Mach}(hF:FirstV F size H0 half m0){xa xb:List Int}(ha:CharW xa)(hb:CharW xb)(hal:xa.length<=100)(hbl:xb.length<=100)
include hF ha hal hb hbl
theorem Zw1:ax (callP (wImgV true [] [] F size) (symB F size m0 xa xb) (kRt 25) 100000) ((wImgV true [] [] F size).lab kMapped+1)=0 /\
 ((callP (wImgV true [] [] F size) (symB F size m0 xa xb) (kRt 25) 100000).rd 4=(symA F size m0 xa).rd 4↔xa=xb):=by
 have Q:=Zce hF ha hal;have P:=Zek hF ha hb hal hbl;generalize symA F size m0 xa=A at *;generalize symB F size m0 xa xb=B at *;obtain⟨-,E,-,-,-,-,-,-,-,-,C,-⟩:=Q;obtain⟨H4,J,w,v,h,g,U,y,K,z⟩:=P;have t:=(z 7 (by decide) (by decide) (by decide)).trans C;rw[E];have k:=Ya v;have f:=Ya h;have b:=Ya g;have r:=Ya y;have l:=Ya t;clear E C v h g y z t;have i:=hF.ok true;have hsz:=hF.hsz;have hhf:=hF.hhf;have R:=hF.h0;have he:=Zas i;have I:(wImgV true [] [] F size).lab kEnd<=H4+1+xb.length:=by omega
 have L:H0+half<=size:=by omega
 have G:xa.length<=1000:=by omega
 have u:∀a:Int,H0+1+xa.length<=a->a<H0+1+xa.length+xa.length+6->(wImgV true [] [] F size).lab kEnd<=a/\a<size:=λ a a0 o=>by omega
 have x:∀j:Nat,(j:Int)<=(xb.length:Int)->(wImgV true [] [] F size).lab kEnd<=H4+j/\H4+j<size:=λ j s=>by omega
 have m:1312<=H4/\H4+xb.length<H4+1+xb.length/\H4+1+xb.length+xb.length+6<=H0+half:=by omega
 have D:xb.length<=200/\(0:Int)<=(xb.length:Int)/\(xb.length:Int)<=100000000:=by omega
 have O:∀n:Int,4*(H0+1+xa.length+xa.length+1)+1≠4*(H4+1+xb.length+xb.length+1)+1:=λ n=>by omega
 have e:RdyI [] [] F size B (H4+1+xb.length) (H0+half) [(H0+1+xa.length+xa.length+1,xa)] :=
  ⟨w,l.out,f.out,b.out,I,L,Zw5 U G λ a a0 o=>Zqx i (u a a0 o).1 (u a a0 o).2⟩
 have d:StrAt (wImgV true [] [] F size) B.mv H4 xb:=⟨⟨by decide,D.2,λ j s=>Zqx i (x j s).1 (x j s).2,by rw[r.out];rfl⟩,K⟩
 obtain⟨T,M,hS,H,hm⟩:=Zl1 i e (p:=H4) (ws:=xb) k.out d D.1 (Yc _) m.1 m.2.1 m.2.2 (N:=100000) (by decide);refine⟨T,?_⟩;rw[findW] at hm;by_cases c:xb=xa
 .rw[if_pos c] at hm
  simp only at hm;exact⟨λ _=>c.symm,λ _=>hm⟩
 .rw[if_neg c,findW] at hm
  simp only at hm;refine⟨λ q=>?_,λ q=>absurd q.symm c⟩;rw[hm.1] at q;exact absurd q.symm (O 0)
theorem Zqw:(symC F size m0 xa xb).state=1/\(symC F size m0 xa xb).place=(wImgV true [] [] F size).lab kStub /\
 ax (callP (wImgV true [] [] F size) (symD F size m0 xa xb) (kRt 25) 100000) ((wImgV true [] [] F size).lab kMapped+1)=0 /\
 ((callP (wImgV true [] [] F size) (symD F size m0 xa xb) (kRt 25) 100000).rd 4=(symC F size m0 xa xb).mv 16↔xa=xb):=by
 have J:=Zce hF ha hal;obtain⟨H4,c3,w,b4,b2,c1,bF,bh,bc,bl⟩:=Zek hF ha hb hal hbl;obtain⟨A,hA⟩:=Yx (symA F size m0 xa);obtain⟨B,hB⟩:=Yx (symB F size m0 xa xb);have hC:symC F size m0 xa xb=callM (wImgV true [] [] F size) (((B.putV 16 (A.rd 4)).putV 17 (4*A.rd 26+1)).putV 8 2) kCollect 100000:=by rw[hA,hB];rfl
 have hD:symD F size m0 xa xb=((againM m0 (symC F size m0 xa xb)).putV 8 0).setV 4 ((symC F size m0 xa xb).mv 17):=rfl;rw[<- hA] at J bl;rw[<- hB] at w b4 b2 c1 bF bh bc bl;obtain⟨-,g4,b8,-,-,-,n2,n3,n4,n6,n7,-⟩:=J;have b3:=Ya g4;have R:=Ya b8;have c7:=Ya n2;have c5:=Ya n3;have d0:=Ya n4;have c6:=Ya n6;have d3:=Ya n7;have d9:=Ya bh;clear g4 b8 n2 n3 n4 n6 n7 b4 b2 c1 bh;have u:=hF.ok true;have hsz:=hF.hsz;have hhf:=hF.hhf;have e9:=hF.h0;have he:=Zas u;have e6:=u.size2;have f1:(wImgV true [] [] F size).size=size:=rfl;have c2:0<=A.rd 4/\A.rd 4<=4294967295:=by rw[b3.out];omega
 have K:0<=4*A.rd 26+1/\4*A.rd 26+1<=4294967295:=by rw[R.out];omega
 have d6:=Ya c2;have b9:=Ya K;clear c2 K;obtain⟨C,T⟩:=Yx (symC F size m0 xa xb);rw[hD,<- T];rw[<- T] at hC;clear hD T;have e:∀a:Int,a<1056->¬(wImgV true [] [] F size).code a:=λ a ha q=>by have:=(Zbm u).1 q;omega
 have w1:=Zgo u w (i:=16) (v:=A.rd 4) (by omega) (e _ (by decide)) d6.out;have w2:=Zgo u w1 (i:=17) (v:=4*A.rd 26+1) (by omega) (e _ (by decide)) b9.out;have w3:=Zgo u w2 (i:=8) (v:=2) (by omega) (e _ (by decide)) (by omega);obtain⟨m6,V⟩:=Yx (((B.putV 16 (A.rd 4)).putV 17 (4*A.rd 26+1)).putV 8 2);have l0:=w.len;have l1:=w1.len;have l2:=w2.len;have f0:∀j,m6.rd j=B.rd j:=λ j=>by rw[V,Zdz,Zdz,Zdz]
 have n:∀a,0<=a->m6.mv a=if a=8 then 2 else if a=17 then 4*H4+1 else if a=16 then A.rd 4 else B.mv a:=λ a a0=>by
  rw[V,Ze2 (by decide) (by omega) a0,Ze2 (by decide) (by omega) a0,Ze2 (by decide) (by omega) a0,R.out,<- c3]
 rw[<- V] at w3 hC;have g:∀a,0<=a->a<1056->a≠8->a≠16->a≠17->a≠26->m6.mv a=A.mv a:=λ a a0 G a8 e0 c4 d7=>by
  rw[n a a0,if_neg a8,if_neg c4,if_neg e0];exact bl a a0 G d7
 have L:SymF m6.mv (H0+1+xa.length) xa:=Zjd bF (by rw[n 5 (by decide)];rfl) λ a a0 G=>by rw[n a (by omega),if_neg (by omega),if_neg (by omega),if_neg (by omega)]
 have a5:=Zzt (H:=H0+1+xa.length) (H4:=H4) (fr:=H0) (r26:=H4+1+xb.length) ha hb (by omega) (by omega) (by omega) (by omega) (by omega) (by omega) (by omega);have d2:tot (symO (H0+1+xa.length) xa H4 xb)=xa.length+xb.length+7:=by
  show(((32*(xa.length:Int)+19)::xa).length:Int)+((2:Nat)+((3:Nat)+((((32*(xb.length:Int)+19)::xb).length:Int)+0)))=_
  rw[Yk,Yk];omega
 have b0:=Zwm (gw:=[]) (sw:=[]) (F:=F) (size:=size) true hF.ok (half:=half) (fr:=H0) (to_:=H0+half) (r26:=H4+1+xb.length) ⟨by omega,by omega,.inl ⟨by omega,by omega⟩⟩ (O:=symO (H0+1+xa.length) xa H4 xb) a5 (by omega) (by omega);have d:(wImgV true [] [] F size).lab kCode=1312:=(Zah u).2.1;obtain⟨y1,y,y3,y4⟩:=Zqr u w3 ((wImgV true [] [] F size).lab kStub);obtain⟨st,a4⟩:=Yx (viewOf (m6.setV 31 ((wImgV true [] [] F size).lab kStub)));rw[<- a4] at y1 y y3 y4;have b7:∀x,RX (wImgV true [] [] F size) st.mem 2 0 x->x=5\/x=16\/x=17:=λ x hx=>by
  rcases hx with((q|q) | q) | q
  .exact .inl q
  .omega
  .obtain⟨j,hj,_⟩:=q
   exact absurd hj (Nat.not_lt_zero _)
  .rw[d] at q
   omega
 have s5:st.mem 5=4*(H0+1+xa.length+xa.length+3)+1:=by rw[y];exact L.m5
 have b1:st.mem 16=4*(H0+1+xa.length+xa.length+1)+1:=by rw[y,n 16 (by decide)];exact b3.out
 have a7:st.mem 17=4*H4+1:=by rw[y,n 17 (by decide)];rfl
 have c0:dh (wImgV true [] [] F size) ⟨symO (H0+1+xa.length) xa H4 xb,H0,H0+half,half⟩ (λ _=>True) 2 0 st.mem:=by
  have b6:∀o∈symO (H0+1+xa.length) xa H4 xb,o=⟨H0+1+xa.length,(32*xa.length+19)::xa⟩\/o=⟨H0+1+xa.length+xa.length+1,[55,4*(H0+1+xa.length)+1]⟩\/o=⟨H0+1+xa.length+xa.length+3,[67,4*(H0+1+xa.length+xa.length+1)+1,38]⟩\/o=⟨H4,(32*xb.length+19)::xb⟩:=λ o ho=>by
   unfold symO at ho
   simpa only[Yr,Yv,or_false] using ho
  have E:∀(a:Int)(l:List Int),(⟨a,l⟩:Ob)∈symO (H0+1+xa.length) xa H4 xb->∀w,w=4*a+1->0<=a->a<335544320->WOk ⟨symO (H0+1+xa.length) xa H4 xb,H0,H0+half,half⟩ (λ _=>True) w:=λ a l hm w r a0 G=>⟨by omega,by omega,λ _=>.inl ⟨_,hm,trivial,r⟩⟩
  have t:∀w:Int,0<=w/\w<4294967296->w%4≠1->WOk ⟨symO (H0+1+xa.length) xa H4 xb,H0,H0+half,half⟩ (λ _=>True) w:=λ w J h2=>⟨J.1,J.2,λ q=>absurd q h2⟩
  have mS:(⟨H0+1+xa.length,(32*xa.length+19)::xa⟩:Ob)∈symO (H0+1+xa.length) xa H4 xb:=by unfold symO;simp
  have mY:(⟨H0+1+xa.length+xa.length+1,[55,4*(H0+1+xa.length)+1]⟩:Ob)∈symO (H0+1+xa.length) xa H4 xb:=by unfold symO;simp
  have mP:(⟨H0+1+xa.length+xa.length+3,[67,4*(H0+1+xa.length+xa.length+1)+1,38]⟩:Ob)∈symO (H0+1+xa.length) xa H4 xb:=by unfold symO;simp
  have mB:(⟨H4,(32*xb.length+19)::xb⟩:Ob)∈symO (H0+1+xa.length) xa H4 xb:=by unfold symO;simp
  have M:∀(mem:Int->Int)(p:Int)(ws:List Int),mem p=32*ws.length+19->(∀k:Nat,k<ws.length->mem (p+1+k)=ws.getD k 0)->∀(k:Nat)(w:Int),((32*(ws.length:Int)+19)::ws)[k]?=some w->mem (p+k)=w:=λ mem p ws J h2 k w b=>by
   cases k with
   | zero=>cases b;rw[show p+((0:Nat):Int)=p by omega];exact J
   | succ k =>
    rw[List.getElem?_cons_succ] at b;have d8:=(List.getElem?_eq_some_iff.1 b).1;rw[show p+((k+1:Nat):Int)=p+1+k by omega,h2 k d8,List.getD_eq_getElem?_getD,b];rfl
  refine⟨by rw[y];exact(g 2 (by decide) (by decide) (by decide) (by decide) (by decide) (by decide)).trans c7.out,by rw[y];exact(g 3 (by decide) (by decide) (by decide) (by decide) (by decide) (by decide)).trans c5.out,by rw[y];exact(g 4 (by decide) (by decide) (by decide) (by decide) (by decide) (by decide)).trans d0.out,λ o ho k w b=>?_,by rw[y,n 8 (by decide)];rfl,by decide,by rw[d];decide,by rw[d];show 1312<=H0;omega,by rw[d];show 1312<=H0+half;omega,λ x x1 x2=>by rw[d] at x2;omega,.inl ⟨by rw[y];exact(g 6 (by decide) (by decide) (by decide) (by decide) (by decide) (by decide)).trans c6.out,rfl⟩,λ x hx=>?_,λ o ho _ w r=>?_⟩
  .rw[y]
   rcases b6 o ho with rfl|rfl|rfl|rfl
   .exact M _ _ _ L.hd L.chars k w b
   .match k,b with
    | 0,b=>cases b;show m6.mv (_+((0:Nat):Int))=55;rw[show H0+1+(xa.length:Int)+xa.length+1+((0:Nat):Int)=H0+1+xa.length+xa.length+1 by omega];exact L.s0
    | 1,b=>cases b;show m6.mv (_+((1:Nat):Int))=_;rw[show H0+1+(xa.length:Int)+xa.length+1+((1:Nat):Int)=H0+1+xa.length+xa.length+2 by omega];exact L.s1
    | k+2,b=>cases b
   .match k,b with
    | 0,b=>cases b;show m6.mv (_+((0:Nat):Int))=67;rw[show H0+1+(xa.length:Int)+xa.length+3+((0:Nat):Int)=H0+1+xa.length+xa.length+3 by omega];exact L.p0
    | 1,b=>cases b;show m6.mv (_+((1:Nat):Int))=_;rw[show H0+1+(xa.length:Int)+xa.length+3+((1:Nat):Int)=H0+1+xa.length+xa.length+4 by omega];exact L.p1
    | 2,b=>cases b;show m6.mv (_+((2:Nat):Int))=38;rw[show H0+1+(xa.length:Int)+xa.length+3+((2:Nat):Int)=H0+1+xa.length+xa.length+5 by omega];exact L.p2
    | k+3,b=>cases b
   .refine M m6.mv H4 xb ?_ (λ k b=>?_) k w b
    .rw[n H4 (by omega),if_neg (by omega),if_neg (by omega),if_neg (by omega)];exact d9.out
    .rw[n _ (by omega),if_neg (by omega),if_neg (by omega),if_neg (by omega)];exact bc k b
  .rcases b7 x hx with rfl|rfl|rfl
   .exact E _ _ mP _ s5 (by omega) (by omega)
   .exact E _ _ mY _ b1 (by omega) (by omega)
   .exact E _ _ mB _ a7 (by omega) (by omega)
  .rcases b6 o ho with rfl|rfl|rfl|rfl
   .rcases Yr.1 r with rfl|r
    .exact t _ (by omega) (by omega)
    .exact t _ ⟨(ha w r).1,(ha w r).2.1⟩ (by have:=(ha w r).2.2;omega)
   .simp only[Yr,Yv,or_false] at r
    rcases r with rfl|rfl
    .exact t _ (by decide) (by decide)
    .exact E _ _ mS _ rfl (by omega) (by omega)
   .simp only[Yr,Yv,or_false] at r
    rcases r with rfl|rfl|rfl
    .exact t _ (by decide) (by decide)
    .exact E _ _ mY _ rfl (by omega) (by omega)
    .exact t _ (by decide) (by decide)
   .rcases Yr.1 r with rfl|r
    .exact t _ (by omega) (by omega)
    .exact t _ ⟨(hb w r).1,(hb w r).2.1⟩ (by have:=(hb w r).2.2;omega)
 obtain⟨iM,hM⟩:=Zwn (gw:=[]) (sw:=[]) (F:=F) (size:=size) true;obtain⟨iS,hS⟩:=Zwo (gw:=[]) (sw:=[]) (F:=F) (size:=size) true;obtain⟨iF,d1⟩:=Zso (gw:=[]) (sw:=[]) (F:=F) (size:=size) true;obtain⟨iC,c9⟩:=Znu (gw:=[]) (sw:=[]) (F:=F) (size:=size) true;have D:=Zmf u b0 hM hS d1 c9 c0;rw[a4] at D;obtain⟨I,hP,m,Q,a6,b5⟩:=Zsn hF.ok w3 (Zdq (by kernel_rfl)) (by decide) D (N:=100000) (P:=λ I=>∃ρ,Cd ⟨symO (H0+1+xa.length) xa H4 xb,H0,H0+half,half⟩ (λ _=>True) (RX (wImgV true [] [] F size) st.mem 2 0) st ρ I) λ ret o k hR=>by
  obtain⟨e3,ρ,rfl,f,b⟩:=hR;rw[<- a4] at f;refine⟨e3,.inl rfl,?_,ρ,f⟩;have:=Zb9 ρ _ f.nd f.sub;simp only at this;rw[d] at b;omega
 obtain⟨ρ,f⟩:=hP;rw[<- hC] at m Q a6 b5;refine⟨Q,a6,?_⟩;obtain⟨s,p,d4,d5,bL,bs,bp,bt⟩:=Zsx b0 f ha hb (by omega) (by omega) (.inl (.inl (.inl rfl))) (.inl (.inl (.inr ⟨by decide,by decide⟩))) (.inl (.inl (.inr ⟨by decide,by decide⟩))) s5 b1 a7;have t0:=Zp ρ;have X:∀a,(a<1056\/H0<=a)->¬(wImgV true [] [] F size).stk a:=λ a ha q=>by
  have q1:=q.1;have q2:=q.2;have e1:(wImgV true [] [] F size).lo=1056:=rfl;have e2:(wImgV true [] [] F size).hi=1312:=rfl;omega
 have z:∀a,0<=a->a<size->(a<1056\/H0<=a)->C.mv a=I.mem a:=λ a a0 G a2=>m.mem a a0 G (X a a2)
 have c16:C.mv 16=4*s+1:=(z 16 (by decide) (by omega) (.inl (by decide))).trans d4;have c8:C.mv 17=4*p+1:=(z 17 (by decide) (by omega) (.inl (by decide))).trans d5;rw[c16,c8];obtain⟨G,a2,a3⟩:=Zqy u hF.wd m b5;have x1:=Zgo u G (i:=8) (v:=0) (by omega) (e _ (by decide)) (by omega);have x2:=Zd7 u x1 (i:=4) (v:=4*p+1) (by decide) (λ h=>absurd h (by decide)) (by omega);have la:=G.len;obtain⟨U,Y⟩:=Yx (((againM m0 C).putV 8 0).setV 4 (4*p+1));rw[<- Y] at x2⊢;have Z:∀j,U.rd j=if j=4 then 4*p+1 else C.rd j:=λ j=>by rw[Y,Zby x1.ok (by decide) (by decide),Zdz,a2]
 have W:∀a,0<=a->a<size->a≠8->(a<1056\/H0<=a)->U.mv a=I.mem a:=λ a h0 J h8 h2=>by
  rw[Y,Zcn (by decide) (by decide),Ze2 (by decide) (by omega) h0,if_neg h8,a3];exact z a h0 J h2
 have r26:U.rd 26=H0+half+tot ρ:=by rw[Z,if_neg (by decide),m.reg 26 (by decide),f.r26]
 have r27:U.rd 27=H0+half+half:=by rw[Z,if_neg (by decide),m.reg 27 (by decide),f.r27]
 have e7:U.mv 7=0:=by
  rw[W 7 (by decide) (by omega) (by decide) (.inl (by decide)),f.mem 7 (by decide) (by decide) (λ q=>by have:=b7 _ q;omega) (λ q=>by have:H0<=7:=q.1;omega) (λ q=>by have:H0+half<=7:=q.1;omega),y];exact(g 7 (by decide) (by decide) (by decide) (by decide) (by decide) (by decide)).trans d3.out
 obtain⟨L9,S9⟩:=bL U.mv (λ a a0 G=>W a (by omega) (by omega) (by omega) (.inr (by omega))) (W 5 (by decide) (by omega) (by decide) (.inl (by decide)));have a9:RdyI [] [] F size U (H0+half+tot ρ) (H0+half+half) [(s,xa)]:=⟨x2,e7,r26,r27,by omega,by omega,L9⟩
 obtain⟨e1,e5,e8,e4,hm⟩:=Zl1 u a9 (p:=p) (ws:=xb) (by rw[Z,if_pos rfl]) S9 (by omega) (by simp) (by omega) (by omega) (by omega) (N:=100000) (by decide);refine⟨e1,?_⟩;rw[findW] at hm;by_cases c:xb=xa
 .rw[if_pos c] at hm
  simp only at hm;exact⟨λ _=>c.symm,λ _=>hm⟩
 .rw[if_neg c,findW] at hm
  simp only at hm;refine⟨λ q=>?_,λ q=>absurd q.symm c⟩;rw[hm.1] at q;omega
end
end
theorem Zkx:(prog.info? 141).map (λ i=>(i.zero,i.size,i.bytes))=some (some (.agg #[.int .i64 0,.int .i64 0]),2,16):=by kernel_rfl
theorem Zgm:(prog.info? 196).map (λ i=>(i.zero,i.size,i.bytes))=some (some (.agg #[.int .i64 0,.int .i64 0,.slice none 0 0,.bool false,.slice none 0 0]),5,72):=by kernel_rfl
structure StAt (lo b K:Nat)(w:World):Prop where
 low:lo<=b
 at_:∃c0 v c2 c3 c4 c5 c6 n xs,w.heap[b]?=some (.cells #[c0,v,c2,c3,c4,c5,c6] 109)/\n<=K/\w.ownsRow lo 196 5 v n xs
structure SK (lo:Nat)(w w':World):Prop where
 below:Below lo w w'
 keep:∀(k:Nat)(r:Array Value)(T:TypeId)(o:Nat×Nat),w.heap[k]?=some (.cells r T o)->T≠196->T≠109->w'.heap[k]?=some (.cells r T o)
theorem Zam {w:World}{k:Nat}{o:Obj}(h:w.heap[k]?=some o):k<w.heap.size:=by
 rcases Nat.lt_or_ge k w.heap.size with a|a
 .exact a
 .simp[Array.getElem?_eq_none a] at h
theorem StAt.lt {lo b K:Nat}{w:World}(H:StAt lo b K w):b<w.heap.size:=by
 obtain⟨_,_,_,_,_,_,_,_,_,_,hb,_⟩:=H;exact Zam hb
theorem StAt.below {lo b K:Nat}{w w':World}(H:StAt lo b K w)(hb:Below w.heap.size w w'):StAt lo b K w':=by
 have a:=H.lt;obtain⟨e,c0,v,c2,c3,c4,c5,c6,n,xs,c,f,d⟩:=H;exact⟨e,c0,v,c2,c3,c4,c5,c6,n,xs,(hb.block b a).trans c,f,Zc d hb⟩
theorem SK.size {lo:Nat}{w w':World}(h:SK lo w w'):w.heap.size<=w'.heap.size:=h.below.size
theorem SK.trans {lo:Nat}{w w' d:World}(h:SK lo w w')(b:SK lo w' d):SK lo w d:=⟨h.below.trans b.below,λ k r T o e a c=>b.keep k r T o (h.keep k r T o e a c) a c⟩
theorem SK.refl (lo:Nat)(w:World):SK lo w w:=⟨Yj _ _,λ _ _ _ _ a _ _=>a⟩
theorem SK.of {lo:Nat}{w w':World}(h:Below w.heap.size w w')(hb:lo<=w.heap.size):SK lo w w':=⟨h.mono hb,λ k r T o a _ _=>(h.block k (Zam a)).trans a⟩
theorem Zbn {w:World}{B:Nat}{e T:TypeId}{size:Nat}{v:Value}{n:Nat}{xs:List Value}{b:Nat}{cs:Array Value}{fr:Nat×Nat}(a:w.ownsRow B e size v n xs)(hb:w.heap[b]?=some (.cells cs T fr))(c:T≠e):v.ownBlock≠some b:=by
 rcases a.2 with⟨rfl,_⟩|⟨g,cap,d,rfl,_,hg,_⟩
 .simp[Yah]
 .intro h
  simp only[Yah,Option.some.injEq] at h;subst h;rw[hg] at hb;simp only[Option.some.injEq,Obj.cells.injEq] at hb;exact c hb.2.1.symm
theorem Zjc {lo b K n:Nat}{w d:World}{v h c0 c2 c3 c4 c5 c6:Value}{xs ys:List Value}(a:lo<=b)(f:w.heap[b]?=some (.cells #[c0,v,c2,c3,c4,c5,c6] 109))(t:w.ownsRow lo 196 5 v n xs)(hn:n<=K)
 (i:d.ownsRow lo 196 5 h (n+1) ys) (hg:w.grownBy d v.ownBlock) (hb:Below lo w d):StAt lo b (K+1) (d.setCell ⟨b,1,none⟩ h)/\SK lo w (d.setCell ⟨b,1,none⟩ h):=by
 have l:=Zbn t f (by decide);have q:=Zam f;have c:=(hg.block b q (λ e=>l e.symm)).trans f;have s:(d.setCell ⟨b,1,none⟩ h).heap[b]?=some (.cells #[c0,h,c2,c3,c4,c5,c6] 109):=by
  rw[setCell_eq_setRow _ _ _ _ _ _ _ c];exact setRow_heap _ _ _ _ _ _ c
 have m:=Zbn i c (by decide);refine⟨⟨a,c0,h,c2,c3,c4,c5,c6,n+1,ys,s,by omega,?_⟩,hb.setCell (p:=⟨b,1,none⟩) a _,λ k r T o g x u=>?_⟩
 .exact i.kept (row:=some b) ⟨rfl,rfl,rfl,by simp[World.setCell],λ k _ f=>Yal _ _ _ _ (λ e=>f (by simp[e]))⟩ (Or.inr m)
 .have hkp:k≠b:=by
   rintro rfl;rw[f] at g;simp only[Option.some.injEq,Obj.cells.injEq] at g;exact u g.2.1.symm
  have j:v.ownBlock≠some k:=Zbn t g x;rw[Yal _ _ _ _ hkp];exact(hg.block k (Zam g) (λ e=>j e.symm)).trans g
theorem StAt.set {lo b K:Nat}{w:World}(H:StAt lo b K w){k:Nat}{cs:Array Value}(c:w.heap[k]?=some (.cells cs 141))(o:Nat)(u:Value):StAt lo b K (w.setCell ⟨k,o,none⟩ u)/\∃d,(w.setCell ⟨k,o,none⟩ u).heap[k]?=some (.cells d 141):=by
 obtain⟨h,c0,v,c2,c3,c4,c5,c6,n,xs,a,i,g⟩:=H;have f:b≠k:=by
  rintro rfl;rw[c] at a;simp only[Option.some.injEq,Obj.cells.injEq] at a;exact absurd a.2.1 (by decide)
 refine⟨⟨h,c0,v,c2,c3,c4,c5,c6,n,xs,(Yal _ _ _ _ f).trans a,i,g.kept (row:=some k) ⟨rfl,rfl,rfl,by simp[World.setCell],λ j _ l=>Yal _ _ _ _ (λ e=>l (by simp[e]))⟩ (Or.inr (Zbn g c (by decide)))⟩,?_⟩;rw[setCell_eq_setRow _ _ _ _ _ _ _ c];exact⟨_,setRow_heap _ _ _ _ _ _ c⟩
theorem SK.set {lo:Nat}{w w':World}(h:SK lo w w'){k:Nat}(c:lo<=k)(hk:w.heap.size<=k)(o:Nat)(u:Value):SK lo w (w'.setCell ⟨k,o,none⟩ u) :=
 ⟨h.below.setCell (p:=⟨k,o,none⟩) c _,λ j r T o a d b=>(Yal _ _ _ _ (λ e=>by have:=Zam a;have e2:j=k:=e;omega)).trans (h.keep j r T o a d b)⟩
theorem Z3c (b:Nat)(n:Int)(a:n<=64)(w:World):Calls prog 191 #[.pointer (some ⟨b,0,none⟩),.int .i64 n,.int .i64 64] w λ e w'=>e=.returned (.bool false)/\w=w':=by
 have d1:decide (n<=64)=true:=decide_eq_true a;go_enter func191,ntmps191
 go_wp2_with fail
 go_ret
 exact⟨rfl,rfl⟩
theorem Z6j {lo b K:Nat}{w:World}(H:StAt lo b K w)(U:lo<=w.heap.size)(a:K<=1000)(A:Option Addr)(m c:Nat)(hm:m<=64):Calls prog 166 #[.pointer (some ⟨b,0,none⟩),.agg #[.int .i64 4,.int .i64 0,.slice A m c,.bool false,.slice none 0 0]] w λ e w'=>(∃j:Int,e=.returned (.agg #[.int .i64 7,.int .i64 j]))/\StAt lo b (K+1) w'/\SK lo w w':=by
 have a7:=H.lt;have HH:=Ya (λ W=>Z3c b m (by omega) W);have e1:IntKind.i64.wrap (m:Int)=(m:Int):=Ym _ ⟨by omega,by omega⟩;obtain⟨z,c0,v,c2,c3,c4,c5,c6,n,xs,hk,hn,ho⟩:=H;obtain⟨Q,O,rfl⟩:=Za ho;have a5:=Ya hk;have a6:=Ya ho;clear hk ho;go_enter func166,ntmps166
 go_wp2_with fail
 refine(HH.out _).mono ?_;rintro e w1 ⟨rfl,rfl⟩;go_upto_region 2 with fail
 have T:=heap_alloc_new w (.cells #[.int .i64 4,.int .i64 0,.slice A m c,.bool false,.slice none 0 0] 196);obtain⟨I,E⟩:=Yx (w.alloc (.cells #[.int .i64 4,.int .i64 0,.slice A m c,.bool false,.slice none 0 0] 196));have a0:Below w.heap.size w I:=by rw[E];exact(Yj _ _).alloc (Yc _) _
 have a1:I.heap.size=w.heap.size+1:=by rw[E];simp
 rw[<- E] at T⊢;clear E;have R:Below I.heap.size I (I.alloc (.cells #[.int .i64 0,.int .i64 0] 141)):=(Yj _ _).alloc (Yc _) _;have y:=heap_alloc_new I (.cells #[.int .i64 0,.int .i64 0] 141);have a4:(I.alloc (.cells #[.int .i64 0,.int .i64 0] 141)).heap.size=I.heap.size+1:=by simp
 generalize I.alloc (.cells #[.int .i64 0,.int .i64 0] 141)=w1 at *;have t:=(R.block w.heap.size (by omega)).trans T;have G:=a0.trans (R.mono (by omega));have P:=Ya G;have s:=Ya ((G.block b a7).trans a5.out);have q:=Ya (Zc a6.out G);rw[a1] at y;have q1:w1.cell? ⟨b,1,none⟩=some (.slice Q n O):=by rw[Yb s.out];rfl
 have o0:w1.cell? ⟨w.heap.size,0,none⟩=some (.int .i64 4):=by rw[Yb t];rfl
 have o1:w1.cell? ⟨w.heap.size,1,none⟩=some (.int .i64 0):=by rw[Yb t];rfl
 have o2:w1.cell? ⟨w.heap.size,2,none⟩=some (.slice A m c):=by rw[Yb t];rfl
 have o3:w1.cell? ⟨w.heap.size,3,none⟩=some (.bool false):=by rw[Yb t];rfl
 have o4:w1.cell? ⟨w.heap.size,4,none⟩=some (.slice none 0 0):=by rw[Yb t];rfl
 have C:b<w1.heap.size:=by omega
 have D:lo<=w1.heap.size:=by omega
 have a8:w.heap.size<w1.heap.size:=by omega
 have B:w.heap.size+1<w1.heap.size:=by omega
 clear T a0 R G a1 a4;refine wp_region_any (by kernel_rfl) ?_;change wpAny _ _ _ _ _ _ _ (World.drew _);refine wpAny_take (i:=0) (v:=.pointer (some ⟨b,0,none⟩)) rfl (by kernel_rfl) (by kernel_rfl) (by kernel_rfl) (λ _ _ _ h=>h) (Or.inl ⟨by rfl,λ w=>rfl⟩) ?_;refine wpAny_take (i:=1) (v:=.pointer (some ⟨b,0,none⟩)) rfl (by kernel_rfl) (by kernel_rfl) (by kernel_rfl) (λ _ _ _ h=>h) (Or.inl ⟨by rfl,λ w=>rfl⟩) ?_;refine wpAny_take (i:=2) (v:=.pointer (some ⟨b,0,none⟩)) rfl (by kernel_rfl) (by kernel_rfl) (by kernel_rfl) (λ _ _ _ h=>h) (Or.inl ⟨by rfl,λ w=>by go_simp⟩) ?_;refine wpAny_take (i:=3) (v:=.pointer (some ⟨b,1,none⟩)) rfl (by kernel_rfl) (by kernel_rfl) (by kernel_rfl) (λ _ _ _ h=>h) (Or.inl ⟨by rfl,λ w=>by go_simp⟩) ?_;refine wpAny_ready (rs:=[4,5]) (by kernel_rfl) (by simp) ?_;refine Yf rfl (λ K a=>?_) ?_
 .go_simp
  refine a _ _ ?_;clear a K;refine wpAny_ready (rs:=[5]) (by kernel_rfl) (by simp) ?_;refine Yf rfl (λ K a=>?_) Yi;go_simp
  refine a _ _ ?_;clear a K;refine wpAny_ready (rs:=[6]) (by kernel_rfl) (by simp) ?_;refine Yf rfl (λ K a=>?_) Yi;go_simp
  refine a _ _ ?_;clear a K;refine wpAny_ready (rs:=[7]) (by kernel_rfl) (by simp) ?_;refine Yf rfl (λ K a=>?_) Yi;refine Zb3 (.tmp 19) (.tmp 21) _ rfl lo 196 Zgm underlying107 rfl (by decide) #[.int .i64 4,.int .i64 0,.slice A m c,.bool false,.slice none 0 0] (.slice Q n O) _ _ rfl (w0:=w1.drew) q.out rfl rfl rfl (by simp[Yt]) (by simp only[maxLen];omega) (by omega) D ?_;intro v' l r d u _;refine a _ _ ?_;clear a K;obtain⟨p,o,rfl⟩:=Za r;have g:=(d.block b C (λ e=>Zbn q.out s.out (by decide) e.symm)).trans s.out;have x:=(d.block (w.heap.size+1) B (λ e=>Zbn q.out y (by decide) e.symm)).trans y;have f6:l.frozen? ⟨b,1,none⟩=false:=Yy g 1;have d6:l.cell? ⟨b,1,none⟩=some (.slice Q n O):=by rw[Yb g];rfl
  refine wpAny_ready (rs:=[8]) (by kernel_rfl) (by simp) ?_;refine Yf rfl (λ K a=>?_) Yi;go_simp
  refine a _ _ ?_;clear a K;refine wpAny_ready (rs:=[9]) (by kernel_rfl) (by simp) ?_;refine Yf rfl (λ K a=>?_) Yi;go_simp
  refine a _ _ ?_;clear a K;refine wpAny_ready (rs:=[10]) (by kernel_rfl) (by simp) ?_;refine Yf rfl (λ K a=>?_) Yi;go_simp
  refine a _ _ ?_;clear a K;refine wpAny_done (by kernel_rfl) ?_ _;obtain⟨J,M⟩:=Zjc z s.out q.out hn r ⟨d.os,d.tape,d.output,d.size,d.block⟩ ((Yj lo w1).drew.trans u);have f:(l.setCell ⟨b,1,none⟩ (.slice p (n+1) o)).heap[w.heap.size+1]?=_:=(Yal _ _ _ _ (show w.heap.size+1≠b by omega)).trans x;have Y:(l.setCell ⟨b,1,none⟩ (.slice p (n+1) o)).cell? ⟨b,1,none⟩=some (.slice p (n+1) o):=by
   rw[setCell_eq_setRow _ _ _ _ _ _ _ g];rw[Yb (setRow_heap _ _ _ _ _ _ g)];rfl
  have X1:=Ya J;have X:=Ya M;have V8:=Ya f;have z8:w.heap.size+1<(l.setCell ⟨b,1,none⟩ (.slice p (n+1) o)).heap.size:=Zam f;have y0:(l.setCell ⟨b,1,none⟩ (.slice p (n+1) o)).cell? ⟨w.heap.size+1,0,none⟩=some (.int .i64 0):=by rw[Yb f];rfl
  have y1:(l.setCell ⟨b,1,none⟩ (.slice p (n+1) o)).cell? ⟨w.heap.size+1,1,none⟩=some (.int .i64 0):=by rw[Yb f];rfl
  have y2:(l.setCell ⟨b,1,none⟩ (.slice p (n+1) o)).frozen? ⟨w.heap.size+1,0,none⟩=false:=Yy f 0;have y3:(l.setCell ⟨b,1,none⟩ (.slice p (n+1) o)).frozen? ⟨w.heap.size+1,1,none⟩=false:=Yy f 1;clear J M f f6 d6 g x r d u;generalize l.setCell ⟨b,1,none⟩ (.slice p (n+1) o)=w8 at *;have e2:IntKind.i64.wrap (((n+1:Nat):Int)-1)=(n:Int):=by rw[Ym _ ⟨by omega,by omega⟩];omega
  go_wp2_with fail
  have X0:=Ya ((SK.of P.out U).trans X.out);obtain⟨s1,a2,L⟩:=X1.out.set V8.out 0 (.int .i64 7);obtain⟨N,a3,V⟩:=s1.set L 1 (.int .i64 (n:Int));have Z:=Ya N;have X3:=Ya ((X0.out.set (k:=w.heap.size+1) (by omega) (by omega) 0 (.int .i64 7)).set (k:=w.heap.size+1) (by omega) (by omega) 1 (.int .i64 (n:Int)));clear s1 L N V;refine bodyPost_ret (v:=.agg #[.int .i64 7,.int .i64 (n:Int)]) (by simp only[results,results166];go_simp) rfl ?_;exact⟨⟨_,rfl⟩,Z.out,X3.out⟩
 refine Yf rfl (λ K a=>?_) Yi;go_simp
 refine a _ _ ?_;clear a K;refine wpAny_ready (rs:=[4,6]) (by kernel_rfl) (by simp) ?_;refine Yf rfl (λ K a=>?_) ?_
 .go_simp
  refine a _ _ ?_;clear a K;refine wpAny_ready (rs:=[6]) (by kernel_rfl) (by simp) ?_;refine Yf rfl (λ K a=>?_) Yi;go_simp
  refine a _ _ ?_;clear a K;refine wpAny_ready (rs:=[7]) (by kernel_rfl) (by simp) ?_;refine Yf rfl (λ K a=>?_) Yi;refine Zb3 (.tmp 19) (.tmp 21) _ rfl lo 196 Zgm underlying107 rfl (by decide) #[.int .i64 4,.int .i64 0,.slice A m c,.bool false,.slice none 0 0] (.slice Q n O) _ _ rfl (w0:=w1.drew) q.out rfl rfl rfl (by simp[Yt]) (by simp only[maxLen];omega) (by omega) D ?_;intro v' l r d u _;refine a _ _ ?_;clear a K;obtain⟨p,o,rfl⟩:=Za r;have g:=(d.block b C (λ e=>Zbn q.out s.out (by decide) e.symm)).trans s.out;have x:=(d.block (w.heap.size+1) B (λ e=>Zbn q.out y (by decide) e.symm)).trans y;have f6:l.frozen? ⟨b,1,none⟩=false:=Yy g 1;have d6:l.cell? ⟨b,1,none⟩=some (.slice Q n O):=by rw[Yb g];rfl
  refine wpAny_ready (rs:=[8]) (by kernel_rfl) (by simp) ?_;refine Yf rfl (λ K a=>?_) Yi;go_simp
  refine a _ _ ?_;clear a K;refine wpAny_ready (rs:=[9]) (by kernel_rfl) (by simp) ?_;refine Yf rfl (λ K a=>?_) Yi;go_simp
  refine a _ _ ?_;clear a K;refine wpAny_ready (rs:=[10]) (by kernel_rfl) (by simp) ?_;refine Yf rfl (λ K a=>?_) Yi;go_simp
  refine a _ _ ?_;clear a K;refine wpAny_done (by kernel_rfl) ?_ _;obtain⟨J,M⟩:=Zjc z s.out q.out hn r ⟨d.os,d.tape,d.output,d.size,d.block⟩ ((Yj lo w1).drew.trans u);have f:(l.setCell ⟨b,1,none⟩ (.slice p (n+1) o)).heap[w.heap.size+1]?=_:=(Yal _ _ _ _ (show w.heap.size+1≠b by omega)).trans x;have Y:(l.setCell ⟨b,1,none⟩ (.slice p (n+1) o)).cell? ⟨b,1,none⟩=some (.slice p (n+1) o):=by
   rw[setCell_eq_setRow _ _ _ _ _ _ _ g];rw[Yb (setRow_heap _ _ _ _ _ _ g)];rfl
  have X1:=Ya J;have X:=Ya M;have V8:=Ya f;have z8:w.heap.size+1<(l.setCell ⟨b,1,none⟩ (.slice p (n+1) o)).heap.size:=Zam f;have y0:(l.setCell ⟨b,1,none⟩ (.slice p (n+1) o)).cell? ⟨w.heap.size+1,0,none⟩=some (.int .i64 0):=by rw[Yb f];rfl
  have y1:(l.setCell ⟨b,1,none⟩ (.slice p (n+1) o)).cell? ⟨w.heap.size+1,1,none⟩=some (.int .i64 0):=by rw[Yb f];rfl
  have y2:(l.setCell ⟨b,1,none⟩ (.slice p (n+1) o)).frozen? ⟨w.heap.size+1,0,none⟩=false:=Yy f 0;have y3:(l.setCell ⟨b,1,none⟩ (.slice p (n+1) o)).frozen? ⟨w.heap.size+1,1,none⟩=false:=Yy f 1;clear J M f f6 d6 g x r d u;generalize l.setCell ⟨b,1,none⟩ (.slice p (n+1) o)=w8 at *;have e2:IntKind.i64.wrap (((n+1:Nat):Int)-1)=(n:Int):=by rw[Ym _ ⟨by omega,by omega⟩];omega
  go_wp2_with fail
  have X0:=Ya ((SK.of P.out U).trans X.out);obtain⟨s1,a2,L⟩:=X1.out.set V8.out 0 (.int .i64 7);obtain⟨N,a3,V⟩:=s1.set L 1 (.int .i64 (n:Int));have Z:=Ya N;have X3:=Ya ((X0.out.set (k:=w.heap.size+1) (by omega) (by omega) 0 (.int .i64 7)).set (k:=w.heap.size+1) (by omega) (by omega) 1 (.int .i64 (n:Int)));clear s1 L N V;refine bodyPost_ret (v:=.agg #[.int .i64 7,.int .i64 (n:Int)]) (by simp only[results,results166];go_simp) rfl ?_;exact⟨⟨_,rfl⟩,Z.out,X3.out⟩
 refine Yf rfl (λ K a=>?_) Yi
 .go_simp
  refine a _ _ ?_;clear a K;refine wpAny_ready (rs:=[4]) (by kernel_rfl) (by simp) ?_;refine Yf rfl (λ K a=>?_) Yi;go_simp
  refine a _ _ ?_;clear a K;refine wpAny_ready (rs:=[7]) (by kernel_rfl) (by simp) ?_;refine Yf rfl (λ K a=>?_) Yi;refine Zb3 (.tmp 19) (.tmp 21) _ rfl lo 196 Zgm underlying107 rfl (by decide) #[.int .i64 4,.int .i64 0,.slice A m c,.bool false,.slice none 0 0] (.slice Q n O) _ _ rfl (w0:=w1.drew) q.out rfl rfl rfl (by simp[Yt]) (by simp only[maxLen];omega) (by omega) D ?_;intro v' l r d u _;refine a _ _ ?_;clear a K;obtain⟨p,o,rfl⟩:=Za r;have g:=(d.block b C (λ e=>Zbn q.out s.out (by decide) e.symm)).trans s.out;have x:=(d.block (w.heap.size+1) B (λ e=>Zbn q.out y (by decide) e.symm)).trans y;have f6:l.frozen? ⟨b,1,none⟩=false:=Yy g 1;have d6:l.cell? ⟨b,1,none⟩=some (.slice Q n O):=by rw[Yb g];rfl
  refine wpAny_ready (rs:=[8]) (by kernel_rfl) (by simp) ?_;refine Yf rfl (λ K a=>?_) Yi;go_simp
  refine a _ _ ?_;clear a K;refine wpAny_ready (rs:=[9]) (by kernel_rfl) (by simp) ?_;refine Yf rfl (λ K a=>?_) Yi;go_simp
  refine a _ _ ?_;clear a K;refine wpAny_ready (rs:=[10]) (by kernel_rfl) (by simp) ?_;refine Yf rfl (λ K a=>?_) Yi;go_simp
  refine a _ _ ?_;clear a K;refine wpAny_done (by kernel_rfl) ?_ _;obtain⟨J,M⟩:=Zjc z s.out q.out hn r ⟨d.os,d.tape,d.output,d.size,d.block⟩ ((Yj lo w1).drew.trans u);have f:(l.setCell ⟨b,1,none⟩ (.slice p (n+1) o)).heap[w.heap.size+1]?=_:=(Yal _ _ _ _ (show w.heap.size+1≠b by omega)).trans x;have Y:(l.setCell ⟨b,1,none⟩ (.slice p (n+1) o)).cell? ⟨b,1,none⟩=some (.slice p (n+1) o):=by
   rw[setCell_eq_setRow _ _ _ _ _ _ _ g];rw[Yb (setRow_heap _ _ _ _ _ _ g)];rfl
  have X1:=Ya J;have X:=Ya M;have V8:=Ya f;have z8:w.heap.size+1<(l.setCell ⟨b,1,none⟩ (.slice p (n+1) o)).heap.size:=Zam f;have y0:(l.setCell ⟨b,1,none⟩ (.slice p (n+1) o)).cell? ⟨w.heap.size+1,0,none⟩=some (.int .i64 0):=by rw[Yb f];rfl
  have y1:(l.setCell ⟨b,1,none⟩ (.slice p (n+1) o)).cell? ⟨w.heap.size+1,1,none⟩=some (.int .i64 0):=by rw[Yb f];rfl
  have y2:(l.setCell ⟨b,1,none⟩ (.slice p (n+1) o)).frozen? ⟨w.heap.size+1,0,none⟩=false:=Yy f 0;have y3:(l.setCell ⟨b,1,none⟩ (.slice p (n+1) o)).frozen? ⟨w.heap.size+1,1,none⟩=false:=Yy f 1;clear J M f f6 d6 g x r d u;generalize l.setCell ⟨b,1,none⟩ (.slice p (n+1) o)=w8 at *;have e2:IntKind.i64.wrap (((n+1:Nat):Int)-1)=(n:Int):=by rw[Ym _ ⟨by omega,by omega⟩];omega
  go_wp2_with fail
  have X0:=Ya ((SK.of P.out U).trans X.out);obtain⟨s1,a2,L⟩:=X1.out.set V8.out 0 (.int .i64 7);obtain⟨N,a3,V⟩:=s1.set L 1 (.int .i64 (n:Int));have Z:=Ya N;have X3:=Ya ((X0.out.set (k:=w.heap.size+1) (by omega) (by omega) 0 (.int .i64 7)).set (k:=w.heap.size+1) (by omega) (by omega) 1 (.int .i64 (n:Int)));clear s1 L N V;refine bodyPost_ret (v:=.agg #[.int .i64 7,.int .i64 (n:Int)]) (by simp only[results,results166];go_simp) rfl ?_;exact⟨⟨_,rfl⟩,Z.out,X3.out⟩
theorem Zw2 {l:List Int}{w:World}{e:Ending}{w':World}(h:Zfy l w e w'):Below w.heap.size w w'/\∃(A:Option Addr)(m c:Nat)(b:Int)(cs:List Int),e=.returned (.tuple #[.slice A m c,.int .i64 b])/\m=cs.length/\Reads w' w'.heap.size A (cs.map (Value.int .i64))/\m<=l.length:=by
 obtain⟨hb,a⟩:=h;refine⟨hb,?_⟩
 cases hl:codesU l with
 | none =>
  rw[hl] at a;exact⟨none,0,0,4,[],a,rfl,λ hp=>by simp at hp,Yao _⟩
 | some cs =>
  rw[hl] at a;obtain⟨A,m,c,rfl,hm,d⟩:=a;have hf:=Zbk _ _ _ hl;exact⟨A,m,c,0,cs,rfl,hm,Zap d,by rw[hm];exact hf.2.2⟩
theorem Z3d (t:ByteArray)(ht:t.size<=64)(w:World):Calls prog 167 #[.string t] w λ e w'=>∃(A:Option Addr)(m c:Nat),e=.returned (.slice A m c)/\m<=64/\Below w.heap.size w w':=by
 go_enter func167,ntmps167
 go_wp2_with fail
 refine(Zlw t (by omega) w).mono ?_;rintro e w1 hp;obtain⟨l,A,m,c,ev,cs,rfl,hm,C,r⟩:=Zw2 hp;have i:=Ya l;have K:=Ya hm;have I:=Ya C;rw[Zdl] at r;clear hp l hm C;go_wp2_with fail
 go_loopw [3,6] (λ J q wr=>∃(k:Nat)(B:Option Addr)(d:Nat)(xs:List Value),k<=m/\q=.int .i64 k/\J=.slice B k d/\Hid (wr.ownsRow w1.heap.size 141 2 (.slice B k d) k xs)/\Hid (Below w1.heap.size w1 wr)) (λ _ q _=>m-(intOf q).toNat)
 case atStart=>exact⟨0,none,0,[],Yao _,rfl,rfl,Ya ⟨rfl,.inl ⟨rfl,rfl⟩⟩,Ya (Yj _ _)⟩
 case round =>
  obtain⟨k,B,d,xs,hk,rfl,rfl,D,f⟩:=hrel;by_cases x:k<m
  .have d1:decide ((k:Int)<(m:Int))=true:=decide_eq_true (by omega)
   have i3:(k:Int)<(m:Int):=by omega
   have s:k<cs.length:=by rw[<- K.out];exact x
   obtain⟨g,off,rfl,hg,a⟩:=I.out (by rw[List.length_map];omega);have v:=a k (.int .i64 cs[k]) (by rw[List.getElem?_map,Ye s];rfl);obtain⟨u,E⟩:=Yx cs[k];rw[<- E] at v;have L:wr.cell? ⟨g,off+k,none⟩=some (.int .i64 u):=(f.out.cell (p:=⟨g,off+k,none⟩) hg).trans v;have e2:IntKind.i64.wrap ((k:Int)+1)=(k:Int)+1:=Ym _ ⟨by omega,by omega⟩;have o:=f.out.size;clear a v E;go_wp2_with (at_builtin;refine Zl rfl (.tmp 18) (.tmp 24) _ rfl w1.heap.size 141 Zkx underlying106 rfl (by decide) #[.int .i64 2,.int .i64 u] _ _ _ rfl D.out rfl rfl rfl (by simp[Yt]) (by simp only[maxLen];omega) (by omega) o ?_;intro v' H b n j h;obtain⟨G,c2,rfl⟩:=Za b;have y:=Ya b;have z:Hid (Below w1.heap.size w1 H):=Ya (f.out.trans j);clear b n j h D f)
   go_roundw
   case rel=>exact⟨k+1,G,c2,_,by omega,by go_num,rfl,y,z⟩
   case measure=>simp[intOf] <;> omega
  .have hke:k=m:=by omega
   subst hke;have d1:decide ((k:Int)<(k:Int))=false:=by simp
   go_wp2_with fail
   go_ret
   exact⟨B,k,d,rfl,by omega,i.out.trans (f.out.mono i.out.size)⟩
theorem Z3e {lo b K:Nat}{w:World}(H:StAt lo b K w)(p:lo<=w.heap.size)(C:K<=1000)(t:ByteArray)(J:t.size<=64):Calls prog 90 #[.pointer (some ⟨b,0,none⟩),.agg (Zho t)] w λ e w'=>(∃j:Int,e=.returned (.agg #[.int .i64 7,.int .i64 j]))/\StAt lo b (K+1) w'/\SK lo w w':=by
 have O:=Ya (λ W=>Z3d t J W);have D:=Ya H;clear H;unfold Zho;go_enter func90,ntmps90
 go_wp2_with fail
 refine(O.out _).mono ?_;rintro e w3 ⟨A,m,c,rfl,hm,f⟩;have i:Below w.heap.size w ((w.alloc (.cells #[.int .i64 4,.int .i64 0,.string t,.slice none 0 0,.int .i64 0] 24)).alloc (.cells #[.int .i64 0,.int .i64 0] 141)):=((Yj _ _).alloc (Yc _) _).alloc (by simp) _;have o:((w.alloc (.cells #[.int .i64 4,.int .i64 0,.string t,.slice none 0 0,.int .i64 0] 24)).alloc (.cells #[.int .i64 0,.int .i64 0] 141)).heap[w.heap.size+1]?=some (.cells #[.int .i64 0,.int .i64 0] 141):=by
  have:=heap_alloc_new (w.alloc (.cells #[.int .i64 4,.int .i64 0,.string t,.slice none 0 0,.int .i64 0] 24)) (.cells #[.int .i64 0,.int .i64 0] 141)
  rwa[World.size_alloc] at this
 have s:((w.alloc (.cells #[.int .i64 4,.int .i64 0,.string t,.slice none 0 0,.int .i64 0] 24)).alloc (.cells #[.int .i64 0,.int .i64 0] 141)).heap.size=w.heap.size+1+1:=by simp
 have g:=Ya (i.trans (f.mono (by omega)));have l:=(f.block (w.heap.size+1) (by omega)).trans o;have q:=D.out.below g.out;have L:=Ya (Z6j q (Yz p g.out.size) C A m c hm);have r:=Ya l;clear i o s f l q;go_wp2_with fail
 refine L.out.mono ?_;rintro e h ⟨⟨j,rfl⟩,n,d⟩;have a:=d.keep _ _ _ _ r.out (by decide) (by decide);have G:=Ya n;have y:=Ya ((SK.of g.out p).trans d);have N:=Ya a;have z4:w.heap.size+1<h.heap.size:=Zam a;have y0:h.cell? ⟨w.heap.size+1,0,none⟩=some (.int .i64 0):=by rw[Yb a];rfl
 have y1:h.cell? ⟨w.heap.size+1,1,none⟩=some (.int .i64 0):=by rw[Yb a];rfl
 have y2:h.frozen? ⟨w.heap.size+1,0,none⟩=false:=Yy a 0;have y3:h.frozen? ⟨w.heap.size+1,1,none⟩=false:=Yy a 1;clear n d a;go_wp2_with fail
 obtain⟨s1,M,u⟩:=G.out.set N.out 0 (.int .i64 7);obtain⟨x,z,B⟩:=s1.set u 1 (.int .i64 j);have E:=Ya x;have I:=Ya ((y.out.set (k:=w.heap.size+1) (by omega) (by omega) 0 (.int .i64 7)).set (k:=w.heap.size+1) (by omega) (by omega) 1 (.int .i64 j));clear s1 u x B;refine bodyPost_ret (v:=.agg #[.int .i64 7,.int .i64 j]) (by simp only[results,results90];go_simp) rfl ?_;exact⟨⟨_,rfl⟩,E.out,I.out⟩
theorem Z6k {w w':World}{lo B n size:Nat}{e:TypeId}{v:Value}{xs:List Value}(h:w.ownsRow B e size v n xs)(j:SK lo w w')(i:e≠196)(f:e≠109):w'.ownsRow B e size v n xs:=by
 refine⟨h.1,?_⟩;rcases h.2 with h|⟨g,cap,a,d,k,b,c⟩
 .exact .inl h
 .exact .inr ⟨g,cap,a,d,k,j.keep _ _ _ _ b i f,c⟩
theorem StAt.grown {lo b K n size base:Nat}{w w':World}{e:TypeId}{v:Value}{xs:List Value}(H:StAt lo b K w)(d:w.ownsRow base e size v n xs)(i:196≠e)(h:109≠e)(hg:w.grownBy w' v.ownBlock):StAt lo b K w':=by
 obtain⟨l,c0,u,c2,c3,c4,c5,c6,m,ys,c,hm,f⟩:=H;refine⟨l,c0,u,c2,c3,c4,c5,c6,m,ys,(hg.block b (Zam c) (λ q=>Zbn d c h q.symm)).trans c,hm,f.kept hg ?_⟩
 cases hu:u.ownBlock with
 | none=>simp
 | some k =>
  right
  intro q;rcases f.2 with⟨rfl,_⟩|⟨g,cap,j,rfl,_,a,_⟩
  .cases hu
  .have e1:g=k:=by simpa[Yah] using hu
   subst e1;exact Zbn d a i q.symm
theorem SK.grown {lo n size:Nat}{w wr w':World}{e:TypeId}{v:Value}{xs:List Value}(h:SK lo w wr)(c:wr.ownsRow w.heap.size e size v n xs)(hg:wr.grownBy w' v.ownBlock)(hb:Below lo wr w'):SK lo w w' :=
 ⟨h.below.trans hb,λ k r T o a d b=>(hg.block k (Ys (Zam a) h.size) (λ q=>by have:=(c.lt k q.symm).1;have:=Zam a;omega)).trans (h.keep k r T o a d b)⟩
def TxAt (w:World)(B:Nat)(A:Option Addr)(ts:List ByteArray):Prop:=Reads w B A (ts.flatMap λ t=>(Zho t).toList)
theorem Z6l (ts:List ByteArray)(k:Nat)(a:k<ts.length)(j:Nat)(hj:j<5):(ts.flatMap λ t=>(Zho t).toList)[k*5+j]?=(Zho ts[k]).toList[j]?:=by
 induction ts generalizing k with
 | nil=>exact absurd a (Nat.not_lt_zero _)
 | cons t r ih =>
  rw[List.flatMap_cons]
  cases k with
  | zero =>
   rw[List.getElem?_append_left (by show 0*5+j<5;omega)];rw[show 0*5+j=j by omega];rfl
  | succ k =>
   rw[List.getElem?_append_right (by show 5<=(k+1)*5+j;omega),show(k+1)*5+j-(Zho t).toList.length=k*5+j by show(k+1)*5+j-5=_;omega];exact ih k (by simpa using a)
theorem TxAt.cells {w wr:World}{B:Nat}{A:Option Addr}{ts:List ByteArray}(h:TxAt w B A ts){k:Nat}(c:k<ts.length)(hb:∀b o,b<B->wr.cell? ⟨b,o,none⟩=w.cell? ⟨b,o,none⟩) :
 ∃g off,A=some ⟨g,off,none⟩/\g<B/\wr.cell? ⟨g,off+k*5,none⟩=some (.int .i64 4)/\wr.cell? ⟨g,off+k*5+1,none⟩=some (.int .i64 0)/\wr.cell? ⟨g,off+k*5+2,none⟩=some (.string ts[k])/\wr.cell? ⟨g,off+k*5+3,none⟩=some (.slice none 0 0)/\wr.cell? ⟨g,off+k*5+4,none⟩=some (.int .i64 0):=by
 obtain⟨g,off,rfl,hg,d⟩:=h (by
  have:=Z6l ts k c 0 (by decide);by_cases q:0<(ts.flatMap λ t=>(Zho t).toList).length
  .exact q
  .rw[List.getElem?_eq_none (by omega)] at this
   cases this)
 have a:∀j v,j<5->(Zho ts[k]).toList[j]?=some v->wr.cell? ⟨g,off+k*5+j,none⟩=some v:=λ j v e f=>(hb g _ hg).trans (by rw[Nat.add_assoc];exact d (k*5+j) v (by rw[Z6l ts k c j e];exact f))
 exact⟨g,off,rfl,hg,a 0 _ (by decide) rfl,a 1 _ (by decide) rfl,a 2 _ (by decide) rfl,a 3 _ (by decide) rfl,a 4 _ (by decide) rfl⟩
theorem Zgn {B:Nat}{w wr:World}(hb:Below B w wr):∀b o,b<B->wr.cell? ⟨b,o,none⟩=w.cell? ⟨b,o,none⟩:=λ b o h=>hb.cell (p:=⟨b,o,none⟩) h
theorem Z6m {lo b K:Nat}{w:World}(H:StAt lo b K w)(q:lo<=w.heap.size)(ts:List ByteArray)(A:Option Addr)(n c:Nat)(R:n=ts.length)(hK:K+n<=1000)(z:∀t∈ts,t.size<=64)(U:TxAt w lo A ts) :
 Calls prog 50 #[.pointer (some ⟨b,0,none⟩),.slice A n c] w λ e w'=>(∃A' m' Z,e=.returned (.slice A' m' Z))/\StAt lo b (K+n) w'/\SK lo w w':=by
 have HH:=Ya H;have Y:=Ya U;have HN:=Ya R;have M:=Ya z;clear H U R z;go_enter func50,ntmps50
 go_wp2_with fail
 go_loopw [5,6] (λ v5 L wr=>∃(k:Nat)(B:Option Addr)(d:Nat)(xs:List Value),k<=n/\L=.int .i64 k/\v5=.slice B k d/\Hid (wr.ownsRow w.heap.size 141 2 (.slice B k d) k xs)/\Hid (StAt lo b (K+k) wr)/\Hid (SK lo w wr)) (λ _ L _=>n-(intOf L).toNat)
 case atStart=>exact⟨0,none,0,[],Yao _,rfl,rfl,Ya ⟨rfl,.inl ⟨rfl,rfl⟩⟩,HH,Ya (SK.refl _ _)⟩
 case round =>
  obtain⟨k,B,d,xs,hk,rfl,rfl,W,E,y⟩:=hrel;by_cases O:k<n
  .have d1:decide ((k:Int)<(n:Int))=true:=decide_eq_true (by omega)
   have i3:(k:Int)<(n:Int):=by omega
   have D:k<ts.length:=by rw[<- HN.out];exact O
   obtain⟨g,off,rfl,hg,c0,c1,c2,c3,c4⟩:=Y.out.cells D (Zgn y.out.below);have h:=M.out ts[k] (Yas D);obtain⟨t,C⟩:=Yx ts[k];rw[<- C] at c2 h;have G:=Z3e E.out (Yz q y.out.size) (by omega) t h;unfold Zho at G;have X:=Ya G;have e2:IntKind.i64.wrap ((k:Int)+1)=(k:Int)+1:=Ym _ ⟨by omega,by omega⟩;clear C G h;go_wp2_with fail
   refine X.out.mono ?_;rintro e m ⟨⟨j,rfl⟩,s,o⟩;have p:=y.out.trans o;have J:=p.size;have V:=Ya s;have u:=Ya (Z6k W.out o (by decide) (by decide));have Q:=Ya p;clear s o p W E y X c0 c1 c2 c3 c4;go_upto_region 6 with fail
   have a:Below m.heap.size m (m.alloc (.cells #[.int .i64 7,.int .i64 j] 141)):=(Yj _ _).alloc (Yc _) _;have i:=heap_alloc_new m (.cells #[.int .i64 7,.int .i64 j] 141);generalize m.alloc (.cells #[.int .i64 7,.int .i64 j] 141)=w3 at *;have T:=Ya (V.out.below a);have I:=Ya (Q.out.trans (SK.of a (Yz q J)));have f:=Ya (Zc u.out a);have P:w.heap.size<=w3.heap.size:=I.out.size;have g0:w3.cell? ⟨m.heap.size,0,none⟩=some (.int .i64 7):=by rw[Yb i];rfl
   have g1:w3.cell? ⟨m.heap.size,1,none⟩=some (.int .i64 j):=by rw[Yb i];rfl
   clear a i V u Q;go_wp2_with (at_builtin;refine Zl rfl (.tmp 20) (.tmp 22) _ rfl w.heap.size 141 Zkx underlying106 rfl (by decide) #[.int .i64 7,.int .i64 j] _ _ _ rfl f.out rfl rfl rfl (by simp[Yt]) (by simp only[maxLen];omega) (by omega) P ?_;intro v' w4 r l x v;obtain⟨A2,c2,rfl⟩:=Za r;have N:=Ya r;have S4:=Ya (T.out.grown f.out (by decide) (by decide) l);have X4:=Ya (I.out.grown f.out l (x.mono q));clear r l x v f T I)
   go_roundw
   case rel=>exact⟨k+1,A2,c2,_,by omega,by go_num,rfl,N,S4,X4⟩
   case measure=>simp[intOf] <;> omega
  .have hke:k=n:=by omega
   subst hke;have d1:decide ((k:Int)<(k:Int))=false:=by simp
   go_wp2_with fail
   go_ret
   exact⟨⟨B,k,d,rfl⟩,E.out,y.out⟩
theorem Zw3:(prog.info? 5).map (λ i=>(i.zero,i.size,i.bytes))=some (some (.int .u8 0),1,1):=by kernel_rfl
def Za7 (ts:List ByteArray):Bool:=ts.all λ t=>(codesU (octs t)).isSome
theorem Zpn {ts:List ByteArray}(h:Za7 ts=true){k:Nat}(a:k<ts.length):(codesU (octs ts[k])).isSome=true:=by
 unfold Za7 at h;rw[List.all_eq_true] at h;exact h _ (Yas a)
theorem TxAt.keep {w w':World}{B:Nat}{A:Option Addr}{ts:List ByteArray}(h:TxAt w B A ts)(hb:Below B w w'):TxAt w' B A ts:=λ hp=>by
 obtain⟨g,off,e,hg,a⟩:=h hp;exact⟨g,off,e,hg,λ i x b=>(hb.cell (p:=⟨g,off+i,none⟩) hg).trans (a i x b)⟩
theorem TxAt.mono {w:World}{B B':Nat}{A:Option Addr}{ts:List ByteArray}(h:TxAt w B A ts)(hb:B<=B'):TxAt w B' A ts:=λ hp=>by
 obtain⟨g,off,e,hg,a⟩:=h hp;exact⟨g,off,e,Ys hg hb,a⟩
theorem Zzs {ts:List ByteArray}{k:Nat}(a:k<ts.length)(h:(codesU (octs ts[k])).isSome=false):Za7 ts=false:=by
 unfold Za7;rw[List.all_eq_false];exact⟨ts[k],Yas a,by rw[h];decide⟩
theorem Zw4 {ts:List ByteArray}{k:Nat}(b:k<ts.length)(h:Za7 (ts.take k)=true)(a:(codesU (octs ts[k])).isSome=true):Za7 (ts.take (k+1))=true:=by
 unfold Za7 at h⊢;rw[List.take_add_one,Ye b,List.all_append,h];simp[a]
theorem Z8k (ts:List ByteArray)(A:Option Addr)(n c:Nat)(hn:n=ts.length)(hK:n<=100)(J:∀t∈ts,t.size<=40)(C:Za7 ts=true)(w:World)(hT:TxAt w w.heap.size A ts) :
 Calls prog 36 #[.slice A n c,.slice none 0 0] w λ e w'=>∃b:Nat,e=.returned (.tuple #[.pointer (some ⟨b,0,none⟩),.int .i64 0])/\Below w.heap.size w w':=by
 have HT:=Ya hT;have HN:=Ya hn;have N:=Ya J;have T:=Ya C;clear hT hn J C;go_enter func36,ntmps36
 go_wp2_with fail
 go_loopw [6] (λ v6 wr=>∃k:Nat,k<=n/\v6=.int .i64 k/\Hid (Below w.heap.size w wr)) (λ v6 _=>n-(intOf v6).toNat)
 case atStart=>exact⟨0,Yao _,rfl,Ya (Yj _ _)⟩
 case round =>
  obtain⟨k,hk,rfl,f⟩:=hrel;by_cases a2:k<n
  .have d1:decide ((k:Int)<(n:Int))=true:=decide_eq_true (by omega)
   have i3:(k:Int)<(n:Int):=by omega
   have x:k<ts.length:=by rw[<- HN.out];exact a2
   obtain⟨g,off,rfl,hg,c0,c1,c2,c3,c4⟩:=HT.out.cells x (Zgn f.out);have y:=N.out ts[k] (Yas x);have r:=Zpn T.out x;obtain⟨t,L⟩:=Yx ts[k];rw[<- L] at c2 y r;have Q:=Z6i t (by omega) wr;unfold Zho at Q;rw[r] at Q;have HM:=Ya Q;have HP:=Ya (λ W=>Z3a t W);unfold Zho at HP;have e2:IntKind.i64.wrap ((k:Int)+1)=(k:Int)+1:=Ym _ ⟨by omega,by omega⟩;clear L Q y r;go_wp2_with fail
   refine HM.out.mono ?_;rintro e w2 ⟨rfl,a⟩;have d:g<wr.heap.size:=Ys hg f.out.size;have Z:=(a.cell (p:=⟨g,off+k*5,none⟩) d).trans c0;have x1:=(a.cell (p:=⟨g,off+k*5+1,none⟩) d).trans c1;have x2:=(a.cell (p:=⟨g,off+k*5+2,none⟩) d).trans c2;have x3:=(a.cell (p:=⟨g,off+k*5+3,none⟩) d).trans c3;have x4:=(a.cell (p:=⟨g,off+k*5+4,none⟩) d).trans c4;have s:=Ya (f.out.trans (a.mono f.out.size));clear a c0 c1 c2 c3 c4 f;go_wp2_with fail
   refine(HP.out _).mono ?_;rintro e w3 ⟨rfl,M⟩;have Y:=Ya (s.out.trans (M.mono s.out.size));clear M Z x1 x2 x3 x4 s;go_wp2_with fail
   go_roundw
   case rel=>exact⟨k+1,by omega,by go_num,Y⟩
   case measure=>simp[intOf] <;> omega
  .have hke:k=n:=by omega
   subst hke;have d1:decide ((k:Int)<(k:Int))=false:=by simp
   go_upto_region 7 with fail
   have j:=heap_alloc_new wr (.cells #[.slice none 0 0,.slice none 0 0,.slice none 0 0,.slice none 0 0,.slice none 0 0,.int .i64 0,.bool false] 109);have I:Below wr.heap.size wr (wr.alloc (.cells #[.slice none 0 0,.slice none 0 0,.slice none 0 0,.slice none 0 0,.slice none 0 0,.int .i64 0,.bool false] 109)):=(Yj _ _).alloc (Yc _) _;generalize wr.alloc (.cells #[.slice none 0 0,.slice none 0 0,.slice none 0 0,.slice none 0 0,.slice none 0 0,.int .i64 0,.bool false] 109)=ws at *;have zs:wr.heap.size<ws.heap.size:=Zam j;have q3:ws.cell? ⟨wr.heap.size,3,none⟩=some (.slice none 0 0):=by rw[Yb j];rfl
   have B:=Ya (f.out.trans (I.mono f.out.size));have m:=f.out.size;have X:=Ya j;clear j I f;go_upto_region 8 with(at_builtin;refine Zs rfl (.tmp 34) (.tmp 35) _ rfl ws.heap.size 5 Zw3 underlying52 rfl (by decide) (.slice none 0 0) 0 [] rfl ⟨rfl,.inl ⟨rfl,rfl⟩⟩ 0 none 0 0 [] rfl rfl (λ _=>rfl) (λ hp=>by simp at hp) (λ u hu=>by cases hu) (by decide) (by decide) (Yc _) ?_;intro v' z P E H D;obtain⟨R,c4,rfl⟩:=Za P;have l:=(E.block wr.heap.size zs (λ e=>by cases e)).trans X.out;have q:=Ya l;have K:=Ya (B.out.trans (H.mono B.out.size));have f3:z.frozen? ⟨wr.heap.size,3,none⟩=false:=Yy l 3;have d3:z.cell? ⟨wr.heap.size,3,none⟩=some (.slice none 0 0):=(by rw[Yb l];rfl);clear P E H D l q3)
   have G:(z.setCell ⟨wr.heap.size,3,none⟩ (.slice R 0 c4)).heap[wr.heap.size]?=some (.cells #[.slice none 0 0,.slice none 0 0,.slice none 0 0,.slice R 0 c4,.slice none 0 0,.int .i64 0,.bool false] 109):=by
    rw[setCell_eq_setRow _ _ _ _ _ _ _ q.out];exact setRow_heap _ _ _ _ _ _ q.out
   have i:Below w.heap.size w (z.setCell ⟨wr.heap.size,3,none⟩ (.slice R 0 c4)):=K.out.setCell (p:=⟨wr.heap.size,3,none⟩) m _;generalize z.setCell ⟨wr.heap.size,3,none⟩ (.slice R 0 c4)=w5 at *;have a0:=Ya i;have U:Hid (StAt w.heap.size wr.heap.size 0 w5):=Ya ⟨m,_,_,_,_,_,_,_,0,[],G,Yc _,rfl,.inl ⟨rfl,rfl⟩⟩;have HD:=Ya (Z6m U.out i.size ts A k c HN.out (by omega) (λ t h=>Yz (N.out t h) (by decide)) (HT.out.keep i));clear G i f3 d3 q K;go_wp2_with fail
   refine HD.out.mono ?_;rintro e w6 ⟨⟨A6,m6,c6,rfl⟩,a1,O⟩;obtain⟨_,Z,x1,x2,x3,x4,x5,x6,_,_,o,_⟩:=a1;have V:=Ya (a0.out.trans O.below);have f0:w6.frozen? ⟨wr.heap.size,0,none⟩=false:=Yy o 0;have d0:w6.cell? ⟨wr.heap.size,0,none⟩=some Z:=by rw[Yb o];rfl
   clear O o;go_wp2_with fail
   refine bodyPost_ret (v:=.tuple #[.pointer (some ⟨wr.heap.size,0,none⟩),.int .i64 0]) (by simp[results,results36,go_sem]) rfl ?_;exact⟨_,rfl,V.out.setCell (p:=⟨wr.heap.size,0,none⟩) m _⟩
theorem Z3f (ts:List ByteArray)(A:Option Addr)(n c:Nat)(i:n=ts.length)(h:n<=100)(a:∀t∈ts,t.size<=40)(d:Za7 ts=true)(w:World)(g:TxAt w w.heap.size A ts) :
 Calls prog 18 #[.slice A n c,.slice none 0 0] w λ e w'=>∃b:Nat,e=.returned (.pointer (some ⟨b,0,none⟩))/\Below w.heap.size w w':=by
 have j:=Ya (Z8k ts A n c i h a d w g);clear i h a d g;go_enter func18,ntmps18
 go_wp2_with fail
 refine j.out.mono ?_;rintro e w1 ⟨b,rfl,f⟩;go_wp2_with fail
 go_ret
 exact⟨b,rfl,f⟩
theorem Z3g (ts:List ByteArray)(A:Option Addr)(n c:Nat)(K:n=ts.length)(hK:n<=3)(x:∀t∈ts,t.size<=40)(w:World)(P:TxAt w w.heap.size A ts) :
 Calls prog 4 #[.slice A n c] w λ e w'=>e=.returned (.bool (Za7 ts))/\Below w.heap.size w w':=by
 have J:=Ya P;have I:=Ya K;have z:=Ya x;clear P K x;go_enter func4,ntmps4
 go_wp2_with fail
 go_loopw [3,4] (λ v3 B wr=>∃(k:Nat)(o:Int),k<=n/\B=.int .i64 k/\v3=.int .i64 o/\0<=o/\o<=100*(k:Int)/\Hid (Za7 (ts.take k)=true)/\Hid (Below w.heap.size w wr)) (λ _ B _=>n-(intOf B).toNat)
 case atStart=>exact⟨0,0,Yao _,rfl,rfl,Int.le_refl _,by decide,Ya rfl,Ya (Yj _ _)⟩
 case round =>
  obtain⟨k,o,hk,rfl,rfl,X,Y,T,j⟩:=hrel;by_cases H:k<n
  .have d1:decide ((k:Int)<(n:Int))=true:=decide_eq_true (by omega)
   have i3:(k:Int)<(n:Int):=by omega
   have m:k<ts.length:=by rw[<- I.out];exact H
   obtain⟨g,off,rfl,hg,c0,c1,c2,c3,c4⟩:=J.out.cells m (Zgn j.out);have q:=z.out ts[k] (Yas m);obtain⟨t,s⟩:=Yx ts[k];rw[<- s] at c2 q;have y:=Ya s;have U:=Ya (λ W=>Zzq t q W);have u:=Ya (λ W=>Z6h t q W);have R:=Ya (λ W=>Z6i t (by omega) W);unfold Zho at U u R;have e2:IntKind.i64.wrap ((k:Int)+1)=(k:Int)+1:=Ym _ ⟨by omega,by omega⟩;have e3:IntKind.i64.wrap (o+(6+(t.size:Int)))=o+(6+(t.size:Int)):=Ym _ ⟨by omega,by omega⟩;clear s;go_wp2_with fail
   refine(U.out _).mono ?_;rintro e M ⟨rfl,a⟩;have i:g<wr.heap.size:=Ys hg j.out.size;have Q:=(a.cell (p:=⟨g,off+k*5,none⟩) i).trans c0;have L:=(a.cell (p:=⟨g,off+k*5+1,none⟩) i).trans c1;have O:=(a.cell (p:=⟨g,off+k*5+2,none⟩) i).trans c2;have N:=(a.cell (p:=⟨g,off+k*5+3,none⟩) i).trans c3;have V:=(a.cell (p:=⟨g,off+k*5+4,none⟩) i).trans c4;have h:=Ya (j.out.trans (a.mono j.out.size));clear a c0 c1 c2 c3 c4 j;go_wp2_with fail
   refine(R.out _).mono ?_;rintro e w3 ⟨rfl,f⟩;have d:g<M.heap.size:=Ys hg h.out.size;have Z:=(f.cell (p:=⟨g,off+k*5,none⟩) d).trans Q;have y1:=(f.cell (p:=⟨g,off+k*5+1,none⟩) d).trans L;have y2:=(f.cell (p:=⟨g,off+k*5+2,none⟩) d).trans O;have y3:=(f.cell (p:=⟨g,off+k*5+3,none⟩) d).trans N;have y4:=(f.cell (p:=⟨g,off+k*5+4,none⟩) d).trans V;have l:=Ya (h.out.trans (f.mono h.out.size));clear f Q L O N V h
   cases hcd:(codesU (octs t)).isSome with
   | false =>
    go_wp2_with fail
    go_ret
    refine⟨?_,l.out⟩;rw[Zzs m (by rw[<- y.out];exact hcd)];rfl
   | true =>
    have D:Hid (Za7 (ts.take (k+1))=true):=Ya (Zw4 m T.out (by rw[<- y.out];exact hcd));go_wp2_with fail
    refine(u.out _).mono ?_;rintro e w4 ⟨rfl,v⟩;have G:=Ya (l.out.trans (v.mono l.out.size));clear v Z y1 y2 y3 y4 l;go_wp2_with fail
    go_roundw
    case rel=>exact⟨k+1,o+(6+(t.size:Int)),by omega,by go_num,rfl,by omega,by omega,D,G⟩
    case measure=>simp[intOf] <;> omega
  .have hke:k=n:=by omega
   subst hke;have d1:decide ((k:Int)<(k:Int))=false:=by simp
   have d2:decide ((k:Int)<=3)=true:=decide_eq_true (by omega);have d3:decide (o<=2900)=true:=decide_eq_true (by omega);have r:Za7 ts=true:=by
    have:=T.out
    rwa[List.take_of_length_le (by rw[I.out];exact Yc _)] at this
   have E:=Ya (Z3f ts A k c I.out (by omega) z.out r wr (J.out.keep j.out |>.mono j.out.size));have C:=Ya r;clear r;go_wp2_with fail
   refine E.out.mono ?_;rintro e M ⟨b,rfl,a⟩;have h:=Ya (j.out.trans (a.mono j.out.size));clear a;go_wp2_with fail
   go_ret
   refine⟨?_,h.out⟩;rw[C.out];rfl
