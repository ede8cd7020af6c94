/- Parts. -/
import Derived.Test.YtldbnjajjfgipaaGreatDoorZBXpr
set_option linter.all false
set_option maxHeartbeats 8000000
open Go.Lib renaming hid->Ya,cell_of_heap->Yb
open List renaming length_append->Yc,getElem?_eq_getElem->Ye,length_cons->Yk,append_assoc->Yo,mem_of_getElem?->Y2,length_take->Y9,cons_append->Yab,length_nil->Yae,nil_append->Yag,take_length->Yal
open Nat renaming le_refl->Yd,zero_add->Yw,le_trans->Yaa
open Go.RowKit.Below renaming refl->Yj
open Bool renaming and_eq_true->Yq
namespace Go.Proofs.YtldbnjajjfgipaaGreatDoor
open S Go.Proofs.Tryz Go.RowKit
set_option maxRecDepth 100000
theorem Zcm (fr L:Int)(a:Bool)(m:List BS):∀(l:List BS)(i:Int),bStmts fr L a (l++m) i=((bStmts fr L a l i).1++(bStmts fr L a m (bStmts fr L a l i).2).1,(bStmts fr L a m (bStmts fr L a l i).2).2)
 | [],i=>by simp[bStmts]
 | x::r,i=>by
  rw[Yab,bStmts,Zcm fr L a m r,bStmts];simp[Yo]
theorem Zmr (fr L:Int)(a:Bool)(s:BS)(l:List BS)(i:Int):bStmts fr L a (l++[s]) i=((bStmts fr L a l i).1++(bStmt fr L a s (bStmts fr L a l i).2).1,(bStmt fr L a s (bStmts fr L a l i).2).2):=by
 rw[Zcm];simp[bStmts]
theorem Zms (fr L:Int)(a:Bool)(l:List BS)(i:Int)(k:Nat):(bStmts fr L a (l.take k) i).1.length<=(bStmts fr L a l i).1.length:=by
 have:=Zcm fr L a (l.drop k) (l.take k) i;rw[List.take_append_drop] at this;rw[this];simp
mutual
theorem Zra (fr L:Int)(a:Bool):∀(s:BS)(l:Int),l<=(bStmt fr L a s l).2/\(bStmt fr L a s l).2<=l+(bStmt fr L a s l).1.length
 | .mk op n nm exprs regs body els,l=>by
  have h1:=Zb2 fr L a body (l+2);have h2:=Zb2 fr L a els (bStmts fr L a body (l+2)).2;rw[bStmt]
  split
  .simp only[Yc,Yk,Yae]
   omega
  .split
   .simp only[Yc,Yk,Yae]
    omega
   .simp only
    omega
theorem Zb2 (fr L:Int)(a:Bool):∀(m:List BS)(l:Int),l<=(bStmts fr L a m l).2/\(bStmts fr L a m l).2<=l+(bStmts fr L a m l).1.length
 | [],l=>by rw[bStmts];simp
 | s::r,l=>by
  have h1:=Zra fr L a s l;have h2:=Zb2 fr L a r (bStmt fr L a s l).2;rw[bStmts];simp only[Yc];omega
end
theorem Zk0 {L:Int}{d:Nat}:∀{l:List BS},chkSs L l d=0->∀s∈l,chkS L s d=0
 | x::r,h,s,a=>by
  rw[chkSs] at h;by_cases c:chkS L x d≠0
  .rw[if_pos c] at h;exact absurd h c
  .rw[if_neg c] at h
   rcases List.mem_cons.1 a with rfl|a
   .simpa using c
   .exact Zk0 h s a
abbrev bS (h:CH) (s:BS) (l:Int):List S.Item×Int:=bStmt h.fr h.r.locals h.r.behind s l
abbrev bSs (h:CH) (m:List BS) (l:Int):List S.Item×Int:=bStmts h.fr h.r.locals h.r.behind m l
def Zx7 (base p:Nat)(h:CH)(xs:List S.Item)(r:List S.Item×Int)(w:World)(e:Ending)(w':World):Prop:=e=.returned (.tuple #[])/\CAt base p h (xs++r.1) r.2 w'/\CK base w w'
def Stm (base p:Nat)(h:CH)(n:Nat):Prop:=∀(s:BS)(A1 A2 A3 A4:Option Addr)(c1 c2 c3 c4:Nat)(d:Nat)(xs:List S.Item)(lab:Int)(w:World),szS s<=n->chkS h.r.locals s d=0->CAt base p h xs lab w->base<=w.heap.size->SPart w base s A1 A2 A3 A4->LVE w->0<=lab->lab+(bS h s lab).1.length+10<=1000000000 ->
 xs.length+(bS h s lab).1.length+10<=100000000 ->
 Calls prog 229 #[.pointer (some ⟨p,0,none⟩),.agg #[.int .i64 s.op,.int .i64 s.n,.string s.name,.slice A1 s.exprs.length c1,.slice A2 s.regs.length c2,.slice A3 s.body.length c3,.slice A4 s.els.length c4]] w (Zx7 base p h xs (bS h s lab) w)
theorem Zdi {base p n:Nat}{h:CH}(ih:Stm base p h n)(h3:3<=base){l:List BS}(hl:Zf3 l<=n){d:Nat}(t:chkSs h.r.locals l d=0){A:Option Addr}{W:World}(hA:SList W base A l){k:Nat}{s:BS}(u:l[k]?=some s){q:List S.Item}{l0:Int}
 (P:CAt base p h (q++(bSs h (l.take k) l0).1) (bSs h (l.take k) l0).2 W) (j:base<=W.heap.size) (E:LVE W) (h0:0<=l0) (h1:l0+(bSs h l l0).1.length+10<=1000000000) (z:q.length+(bSs h l l0).1.length+10<=100000000) :
 ∃b off m c1 f c2 g c3 i c4 v y w x op B nm,A=some ⟨b,off,none⟩/\b<base/\W.cell? ⟨b,off+k*7,none⟩=some (.int .i64 op)/\W.cell? ⟨b,off+k*7+1,none⟩=some (.int .i64 B)/\W.cell? ⟨b,off+k*7+2,none⟩=some (.string nm) /\
  W.cell? ⟨b,off+k*7+3,none⟩=some (.slice m v c1)/\W.cell? ⟨b,off+k*7+4,none⟩=some (.slice f y c2)/\W.cell? ⟨b,off+k*7+5,none⟩=some (.slice g w c3)/\W.cell? ⟨b,off+k*7+6,none⟩=some (.slice i x c4) /\
  ∀c,Below W.heap.size W c->Calls prog 229 #[.pointer (some ⟨p,0,none⟩),.agg #[.int .i64 op,.int .i64 B,.string nm,.slice m v c1,.slice f y c2,.slice g w c3,.slice i x c4]] c λ e w' =>
   e=.returned (.tuple #[])/\CAt base p h (q++(bSs h (l.take (k+1)) l0).1) (bSs h (l.take (k+1)) l0).2 w'/\CK base c w':=by
 obtain⟨b,off,m,c1,f,c2,g,c3,i,c4,I,F,C,M,Q,J,T,G,D,hp⟩:=hA.at_ u;refine⟨b,off,m,c1,f,c2,g,c3,i,c4,_,_,_,_,_,_,_,I,F,C,M,Q,J,T,G,D,λ c o=>?_⟩;have hm:=Y2 u;have H:=Zmw hm;have R:l0<=(bSs h (l.take k) l0).2/\(bSs h (l.take k) l0).2<=l0+(bSs h (l.take k) l0).1.length:=Zb2 h.fr h.r.locals h.r.behind (l.take k) l0;have N:(bSs h (l.take (k+1)) l0).1.length<=(bSs h l l0).1.length:=Zms h.fr h.r.locals h.r.behind l l0 (k+1);have a:bSs h (l.take (k+1)) l0=((bSs h (l.take k) l0).1++(bS h s (bSs h (l.take k) l0).2).1,(bS h s (bSs h (l.take k) l0).2).2):=by
  show bStmts _ _ _ _ _=_
  rw[Zcl l u,Zmr]
 have L:(bSs h (l.take (k+1)) l0).1.length=(bSs h (l.take k) l0).1.length+(bS h s (bSs h (l.take k) l0).2).1.length:=by rw[a,Yc]
 refine(ih s m f g i c1 c2 c3 c4 d _ _ c (by omega) (Zk0 t s hm) (P.keep o) (Yaa j o.size) (hp.below (o.mono j)) (E.keep o (by omega)) (by omega) (by omega) (by rw[Yc];omega)).mono ?_;rintro e w' ⟨rfl,K,O⟩;refine⟨rfl,?_,O⟩;rw[a,<- Yo];exact K
abbrev Zrb (p:Nat):Value:=.func (.func 229) #[.pointer (some ⟨p,0,none⟩)] #[]
theorem Zu7 {base p n:Nat}{h:CH}(ih:Stm base p h n)(A:3<=base)(s:BS)(A1 A2 A3 A4:Option Addr)(c1 c2 c3 c4 d:Nat)(u:List S.Item)(lab:Int)(w:World)(d7:Zf3 s.body<=n)(d4:Zf3 s.els<=n)(e8:chkSs h.r.locals s.body d=0)(c7:chkSs h.r.locals s.els d=0)(hn:n<=1000000)
 (H:CAt base p h u lab w) (d8:base<=w.heap.size) (hp:SPart w base s A1 A2 A3 A4) (hL:LVE w) (h0:0<=lab)
 (ys:List S.Item) (a5:ys=[bU 11 (bLab (lab+1))]++(bSs h s.body (lab+2)).1++[bJ 0 (bLab (lab+2)),bL (bLab (lab+1))]++(bSs h s.els (bSs h s.body (lab+2)).2).1++[bL (bLab (lab+2))]) (hl:u.length+ys.length+10<=100000000) (h1:lab+ys.length+10<=1000000000) :
 Calls prog 261 #[.pointer (some ⟨p,0,none⟩),.agg #[.int .i64 s.op,.int .i64 s.n,.string s.name,.slice A1 s.exprs.length c1,.slice A2 s.regs.length c2,.slice A3 s.body.length c3,.slice A4 s.els.length c4],Zrb p] w (Zx7 base p h u (ys,(bSs h s.els (bSs h s.body (lab+2)).2).2) w):=by
 have b4:=Zck s.body;have a8:=Zck s.els;have HB:=Ya hp.body;have HE:=Ya hp.els;obtain⟨op,en,nm,N1,N2,d2⟩:∃op en nm N1 N2,op=s.op/\en=s.n/\nm=s.name/\N1=s.exprs.length/\N2=s.regs.length:=⟨_,_,_,_,_,rfl,rfl,rfl,rfl,rfl⟩
 obtain⟨o1,o2,o3,o4,o5⟩:=d2;rw[<- o1,<- o2,<- o3,<- o4,<- o5];clear o1 o2 o3 o4 o5 hp;generalize s.body=B at *;generalize s.els=E at *;obtain⟨v,K⟩:∃N,N=B.length:=⟨_,rfl⟩
 obtain⟨x,a4⟩:∃N,N=E.length:=⟨_,rfl⟩
 rw[<- K] at b4⊢;rw[<- a4] at a8⊢;have c6:=Ya K;have c0:=Ya a4;have c5:ys.length=1+(bSs h B (lab+2)).1.length+2+(bSs h E (bSs h B (lab+2)).2).1.length+1:=by
  rw[a5];simp only[Yc,Yk,Yae]
 rw[c5] at hl h1;have d9:=Ya a5;have y:Below w.heap.size w (w.alloc (.cells #[.int .i64 op,.int .i64 en,.string nm,.slice A1 N1 c1,.slice A2 N2 c2,.slice A3 v c3,.slice A4 x c4] 149)):=(Yj _ _).alloc (Yd _) _;have b3:=heap_alloc_new w (.cells #[.int .i64 op,.int .i64 en,.string nm,.slice A1 N1 c1,.slice A2 N2 c2,.slice A3 v c3,.slice A4 x c4] 149);have D:=Ya (CK.of y d8);have H2:=Ya (H.keep y);have HL:=Ya (hL.on y);have a9:=Ya b3;clear K a4 c5 a5 y b3 H hL;go_enter func261,ntmps261
 go_upto_region 1 with fail
 generalize w.alloc (.cells #[.int .i64 op,.int .i64 en,.string nm,.slice A1 N1 c1,.slice A2 N2 c2,.slice A3 v c3,.slice A4 x c4] 149)=w2 at *;have a6:base<=w2.heap.size:=by have:=D.out.size;omega
 go_wp2_with fail
 refine(Zjq H2.out a6 A HL.out ⟨h0,by omega⟩).mono ?_;rintro e w3 ⟨rfl,j,c⟩;have b9:base<=w3.heap.size:=by have:=c.size;omega
 go_wp2_with fail
 refine(Zjq j b9 A (HL.out.keep c.below A) ⟨by omega,by omega⟩).mono ?_;rintro e w4 ⟨rfl,g3,F⟩;have b6:base<=w4.heap.size:=by have:=F.size;omega
 rw[show lab+1+1=lab+2 from by omega] at g3⊢;have Hc:=Ya (Zn3 g3 b6 (by omega) 11 (bLab (lab+1)));generalize bLab (lab+1)=l1 at *;generalize bLab (lab+2)=l2 at *;go_wp2_with fail
 refine Hc.out.mono ?_;rintro e w5 ⟨rfl,g5,g6⟩;have f1:base<=w5.heap.size:=by have:=g6.size;omega
 have o:=Ya (((c.trans F).trans g6));have V:=Ya (HL.out.keep o.out.below A);have a0:=Ya (o.out.keep _ _ _ _ a9.out (by decide) (by decide));have q5:w5.cell? ⟨w.heap.size,5,none⟩=some (.slice A3 v c3):=by rw[Yb a0.out];rfl
 have c8:=Ya g5;have b5:=Ya (HB.out.below (D.out.trans o.out).below);have b7:=Ya (HE.out.below (D.out.trans o.out).below);clear j c g3 F g5 g6 Hc a6 b9 b6 HL a9 HB HE H2;have C:=Ya (show(u++[bU 11 l1]).length=u.length+1 from by rw[Yc];rfl);go_wp2_with fail
 go_loopw [22] (λ a2 wr=>∃k:Nat,k<=v/\a2=.int .i64 k/\Hid (CAt base p h (u++[bU 11 l1]++(bSs h (B.take k) (lab+2)).1) (bSs h (B.take k) (lab+2)).2 wr)/\Hid (CK base w5 wr)) (λ a2 _=>v-(intOf a2).toNat)
 case atStart=>exact⟨0,by omega,rfl,Ya (by simpa[bStmts] using c8.out),Ya (CK.refl _ _)⟩
 case round =>
  obtain⟨k,hk,rfl,G,i⟩:=hrel;obtain⟨wo,d0⟩:=Yx wr;subst d0;have I:base<=wo.heap.size:=by have:=i.out.size;omega
  by_cases R:k<v
  .obtain⟨s1,hs1⟩:∃s1,B[k]?=some s1:=⟨_,Ye (by rw[<- c6.out];exact R)⟩
   obtain⟨b,off,a1,L,Z,Y,a3,M,X,U,M1,M2,M3,M4,O,T,J,rfl,d6,e0,e1,e2,e3,e4,e5,e6,a⟩:=Zdi ih A d7 e8 (b5.out.below i.out.below) hs1 G.out I (V.out.keep i.out.below A) (by omega) (by omega) (by rw[C.out];omega);have e9:b<wo.heap.size:=by omega
   have f:Below wo.heap.size wo (wo.alloc (.cells #[.int .i64 O,.int .i64 T,.string J,.slice a1 M1 L,.slice Z M2 Y,.slice a3 M3 M,.slice X M4 U] 149)):=(Yj _ _).alloc (Yd _) _;have l:=Ya (a _ f);have P:=Ya (CK.of f I);clear a f hs1;go_wp2_with fail
   refine l.out.mono ?_;rintro e w6 ⟨rfl,j,c⟩;go_wp2_with fail
   go_roundw
   case rel=>exact⟨k+1,by omega,by go_num,Ya j,Ya (i.out.trans (P.out.trans c))⟩
   case measure=>simp[intOf];omega
  .have hkN:v=k:=by omega
   subst hkN;have ht:B.take v=B:=by rw[c6.out,Yal]
   rw[ht] at G;clear ht q5;have f0:lab+2<=(bSs h B (lab+2)).2/\(bSs h B (lab+2)).2<=lab+2+(bSs h B (lab+2)).1.length:=Zb2 h.fr h.r.locals h.r.behind B (lab+2);generalize bSs h B (lab+2)=RB at *;have Hj:=Ya (Zn2 G.out I (by rw[Yc,C.out];omega) 0 l2);go_wp2_with fail
   refine Hj.out.mono ?_;rintro e w6 ⟨rfl,j,c⟩;have a7:base<=w6.heap.size:=by have:=c.size;omega
   have b0:=Ya (Zgq j a7 (by rw[Yc,Yc,C.out];show _+1<=_;omega) l1);go_wp2_with fail
   refine b0.out.mono ?_;rintro e w7 ⟨rfl,g3,F⟩;have f2:base<=w7.heap.size:=by have:=F.size;omega
   have d1:=Ya (o.out.trans (i.out.trans (c.trans F)));have g:=Ya (i.out.trans (c.trans F));have e7:=Ya (V.out.keep g.out.below A);have d3:=Ya (g.out.keep _ _ _ _ a0.out (by decide) (by decide));have q6:w7.cell? ⟨w.heap.size,6,none⟩=some (.slice A4 x c4):=by rw[Yb d3.out];rfl
   have b2:=Ya g3;have c9:=Ya (b7.out.below g.out.below);have W:=Ya (show(u++[bU 11 l1]++RB.1++[bJ 0 l2]++[bL l1]).length=u.length+1+RB.1.length+2 from by simp only[Yc,Yk,Yae]);clear j c g3 F Hj b0 a7 G i V a0 b5 b7 g C;obtain⟨d5,m⟩:∃z,z=u++[bU 11 l1]++RB.1++[bJ 0 l2]++[bL l1]:=⟨_,rfl⟩
   rw[<- m] at b2 W;have b8:=Ya m;clear m;go_wp2_with fail
   go_loopw [39] (λ Q wr=>∃k:Nat,k<=x/\Q=.int .i64 k/\Hid (CAt base p h (d5++(bSs h (E.take k) RB.2).1) (bSs h (E.take k) RB.2).2 wr)/\Hid (CK base w7 wr)) (λ Q _=>x-(intOf Q).toNat)
   case atStart=>exact⟨0,by omega,rfl,Ya (by simpa[bStmts] using b2.out),Ya (CK.refl _ _)⟩
   case round =>
    obtain⟨k,hk,rfl,G,i⟩:=hrel;obtain⟨t,b1⟩:∃wo,wo=wr:=⟨_,rfl⟩
    subst b1;have q:base<=t.heap.size:=by have:=i.out.size;omega
    by_cases R:k<x
    .obtain⟨s1,hs1⟩:∃s1,E[k]?=some s1:=⟨_,Ye (by rw[<- c0.out];exact R)⟩
     obtain⟨b,off,a1,L,Z,Y,a3,M,X,U,M1,M2,M3,M4,O,T,J,rfl,d6,e0,e1,e2,e3,e4,e5,e6,a⟩:=Zdi ih A d4 c7 (c9.out.below i.out.below) hs1 G.out q (e7.out.keep i.out.below A) (by omega) (by omega) (by rw[W.out];omega);have e9:b<t.heap.size:=by omega
     have f:Below t.heap.size t (t.alloc (.cells #[.int .i64 O,.int .i64 T,.string J,.slice a1 M1 L,.slice Z M2 Y,.slice a3 M3 M,.slice X M4 U] 149)):=(Yj _ _).alloc (Yd _) _;have l:=Ya (a _ f);have P:=Ya (CK.of f q);clear a f hs1;go_wp2_with fail
     refine l.out.mono ?_;rintro e w8 ⟨rfl,j,c⟩;go_wp2_with fail
     go_roundw
     case rel=>exact⟨k+1,by omega,by go_num,Ya j,Ya (i.out.trans (P.out.trans c))⟩
     case measure=>simp[intOf];omega
    .have hkN:x=k:=by omega
     subst hkN;have ht:E.take x=E:=by rw[c0.out,Yal]
     rw[ht] at G;clear ht q6;generalize bSs h E RB.2=RE' at *;have Hj:=Ya (Zgq G.out q (by rw[Yc,W.out];omega) l2);go_wp2_with fail
     refine Hj.out.mono ?_;rintro e w9 ⟨rfl,j,c⟩;go_wp2_with fail
     go_end0
     refine⟨rfl,?_,D.out.trans (d1.out.trans (i.out.trans c))⟩;rw[b8.out] at j
     show CAt base p h (u++ys) _ w9
     rw[d9.out]
     simpa[Yo] using j
theorem Z0b {base p n:Nat}{h:CH}(hO:HOk h)(ih:Stm base p h n)(C:3<=base)(s:BS)(c:BE)(a2:s.exprs=[c])(b2:formedE h.r.locals c=true)(f0:szE c<=1000000)(K A2 J A4:Option Addr)(c1 c2 c3 c4 d:Nat)(F:List S.Item)(lab:Int)(w:World)(d1:Zf3 s.body<=n)(d9:chkSs h.r.locals s.body d=0)(hn:n<=1000000)
 (H:CAt base p h F lab w) (d5:base<=w.heap.size) (hp:SPart w base s K A2 J A4) (hL:LVE w) (h0:0<=lab)
 (ys:List S.Item) (I:ys=[bL (bLab (lab+1))]++bExpr h.fr h.r.locals c 0++[bU 11 (bLab (lab+2))]++(bSs h s.body (lab+2)).1++[bJ 0 (bLab (lab+1)),bL (bLab (lab+2))]) (hl:F.length+ys.length+10<=100000000) (h1:lab+ys.length+10<=1000000000) :
 Calls prog 258 #[.pointer (some ⟨p,0,none⟩),.agg #[.int .i64 s.op,.int .i64 s.n,.string s.name,.slice K s.exprs.length c1,.slice A2 s.regs.length c2,.slice J s.body.length c3,.slice A4 s.els.length c4],Zrb p] w (Zx7 base p h F (ys,(bSs h s.body (lab+2)).2) w):=by
 have Y:=Zck s.body;have HB:=Ya hp.body;have A:=hp.exprs;rw[a2] at A⊢;have HE:=Ya A;obtain⟨op,R,nm,V,M,b7⟩:∃op R nm V M,op=s.op/\R=s.n/\nm=s.name/\V=s.regs.length/\M=s.els.length:=⟨_,_,_,_,_,rfl,rfl,rfl,rfl,rfl⟩
 obtain⟨o1,o2,o3,o4,o5⟩:=b7;rw[<- o1,<- o2,<- o3,<- o4,<- o5,show [c].length=1 from rfl];clear o1 o2 o3 o4 o5 hp a2 A;generalize s.body=B at *;obtain⟨j,y⟩:∃N,N=B.length:=⟨_,rfl⟩
 rw[<- y] at Y⊢;have a6:=Ya y;have a5:ys.length=1+(bExpr h.fr h.r.locals c 0).length+1+(bSs h B (lab+2)).1.length+2:=by
  rw[I];simp only[Yc,Yk,Yae]
 rw[a5] at hl h1;have d6:=Ya I;have l:Below w.heap.size w (w.alloc (.cells #[.int .i64 op,.int .i64 R,.string nm,.slice K 1 c1,.slice A2 V c2,.slice J j c3,.slice A4 M c4] 149)):=(Yj _ _).alloc (Yd _) _;have W:=heap_alloc_new w (.cells #[.int .i64 op,.int .i64 R,.string nm,.slice K 1 c1,.slice A2 V c2,.slice J j c3,.slice A4 M c4] 149);have u:=Ya (CK.of l d5);have H2:=Ya (H.keep l);have HL:=Ya (hL.on l);have T:=Ya W;clear y a5 I l W H hL;go_enter func258,ntmps258
 go_upto_region 1 with fail
 generalize w.alloc (.cells #[.int .i64 op,.int .i64 R,.string nm,.slice K 1 c1,.slice A2 V c2,.slice J j c3,.slice A4 M c4] 149)=w2 at *;have O:base<=w2.heap.size:=by have:=u.out.size;omega
 go_wp2_with fail
 refine(Zjq H2.out O C HL.out ⟨h0,by omega⟩).mono ?_;rintro e w3 ⟨rfl,m,f⟩;have a4:base<=w3.heap.size:=by have:=f.size;omega
 go_wp2_with fail
 refine(Zjq m a4 C (HL.out.keep f.below C) ⟨by omega,by omega⟩).mono ?_;rintro e w4 ⟨rfl,o,q⟩;have a1:base<=w4.heap.size:=by have:=q.size;omega
 rw[show lab+1+1=lab+2 from by omega] at o⊢;have X:=Ya (Zgq o a1 (by omega) (bLab (lab+1)));generalize bLab (lab+1)=l1 at *;generalize bLab (lab+2)=l2 at *;go_wp2_with fail
 refine X.out.mono ?_;rintro e w5 ⟨rfl,g5,g6⟩;have d3:base<=w5.heap.size:=by have:=g6.size;omega
 have i:=Ya (((f.trans q).trans g6));have a0:=Ya (HL.out.keep i.out.below C);have E:=Ya (i.out.keep _ _ _ _ T.out (by decide) (by decide));have q3:w5.cell? ⟨w.heap.size,3,none⟩=some (.slice K 1 c1):=by rw[Yb E.out];rfl
 obtain⟨b,off,A',c',rfl,f1,k0,k1,k2,k3,k4,k5,k6⟩:=(HE.out.below (u.out.trans i.out).below).at_ (k:=0) (e:=c) rfl;rw[Nat.zero_mul,Nat.add_zero] at k0 k1 k2 k3;have f3:b<w5.heap.size:=by omega
 have Hx:=Ya (Zw9 hO (szE c) c A' c' 0 _ _ w5 (Yd _) b2 (by omega) g5 d3 k6 k4 (by rw[Yc];show _+1+_+10<=_;omega));have Z:=Ya (HB.out.below (u.out.trans i.out).below);have a8:(bExpr h.fr h.r.locals c 0).length=(bExpr h.fr h.r.locals c 0).length:=rfl;generalize bExpr h.fr h.r.locals c 0=xe at *;generalize c.op=op0 at *;generalize c.n=en0 at *;generalize c.name=nm0 at *;generalize c.kids.length=kl0 at *;clear m f o q g5 g6 X O a4 a1 HL T HB HE H2 k4 k5 k6 a8;go_wp2_with fail
 refine Hx.out.mono ?_;rintro e w6 ⟨rfl,m,f⟩;have Q:base<=w6.heap.size:=by have:=f.size;omega
 have X:=Ya (Zn3 m Q (by simp only[Yc,Yk,Yae];omega) 11 l2);go_wp2_with fail
 refine X.out.mono ?_;rintro e w7 ⟨rfl,o,q⟩;have f2:base<=w7.heap.size:=by have:=q.size;omega
 have a:=Ya (f.trans q);have d8:=Ya (a0.out.keep a.out.below C);have b8:=Ya (a.out.keep _ _ _ _ E.out (by decide) (by decide));have q5:w7.cell? ⟨w.heap.size,5,none⟩=some (.slice J j c3):=by rw[Yb b8.out];rfl
 have U:=Ya o;have d4:=Ya (Z.out.below a.out.below);have b5:=Ya (i.out.trans a.out);have t:=Ya (show(F++[bL l1]++xe++[bU 11 l2]).length=F.length+1+xe.length+1 from by simp only[Yc,Yk,Yae]);obtain⟨c6,g⟩:∃z,z=F++[bL l1]++xe++[bU 11 l2]:=⟨_,rfl⟩
 rw[<- g] at U t;have a3:=Ya g;clear g m f o q X Hx Q Z a0 E a q3 k0 k1 k2 k3;go_wp2_with fail
 go_loopw [29] (λ G wr=>∃k:Nat,k<=j/\G=.int .i64 k/\Hid (CAt base p h (c6++(bSs h (B.take k) (lab+2)).1) (bSs h (B.take k) (lab+2)).2 wr)/\Hid (CK base w7 wr)) (λ G _=>j-(intOf G).toNat)
 case atStart=>exact⟨0,by omega,rfl,Ya (by simpa[bStmts] using U.out),Ya (CK.refl _ _)⟩
 case round =>
  obtain⟨k,hk,rfl,HC,P⟩:=hrel;obtain⟨wo,b4⟩:=Yx wr;subst b4;have x:base<=wo.heap.size:=by have:=P.out.size;omega
  by_cases b9:k<j
  .obtain⟨s1,hs1⟩:∃s1,B[k]?=some s1:=⟨_,Ye (by rw[<- a6.out];exact b9)⟩
   obtain⟨b',e7,d2,a9,d0,c9,d7,b0,c7,c5,M1,M2,M3,M4,b1,c0,a7,rfl,e8,c,e1,e2,e3,e4,e5,e6,v⟩:=Zdi ih C d1 d9 (d4.out.below P.out.below) hs1 HC.out x (d8.out.keep P.out.below C) (by omega) (by omega) (by rw[t.out];omega);have e9:b'<wo.heap.size:=by omega
   have D:Below wo.heap.size wo (wo.alloc (.cells #[.int .i64 b1,.int .i64 c0,.string a7,.slice d2 M1 a9,.slice d0 M2 c9,.slice d7 M3 b0,.slice c7 M4 c5] 149)):=(Yj _ _).alloc (Yd _) _;have L:=Ya (v _ D);have b3:=Ya (CK.of D x);clear v D hs1;go_wp2_with fail
   refine L.out.mono ?_;rintro e w8 ⟨rfl,m,f⟩;go_wp2_with fail
   go_roundw
   case rel=>exact⟨k+1,by omega,by go_num,Ya m,Ya (P.out.trans (b3.out.trans f))⟩
   case measure=>simp[intOf];omega
  .have hkN:j=k:=by omega
   subst hkN;have ht:B.take j=B:=by rw[a6.out,Yal]
   rw[ht] at HC;clear ht q5;generalize bSs h B (lab+2)=RB at *;have Hj:=Ya (Zn2 HC.out x (by rw[Yc,t.out];omega) 0 l1);go_wp2_with fail
   refine Hj.out.mono ?_;rintro e w8 ⟨rfl,m,f⟩;have c8:base<=w8.heap.size:=by have:=f.size;omega
   have b6:=Ya (Zgq m c8 (by rw[Yc,Yc,t.out];show _+1<=_;omega) l2);go_wp2_with fail
   refine b6.out.mono ?_;rintro e w9 ⟨rfl,o,q⟩;go_wp2_with fail
   go_end0
   refine⟨rfl,?_,u.out.trans (b5.out.trans (P.out.trans (f.trans q)))⟩;rw[a3.out] at o
   show CAt base p h (F++ys) _ w9
   rw[d6.out]
   simpa[Yo] using o
theorem Zir (n:Int):∀(l:List Int)(i:Nat),bRegs (l++[n]) i=bRegs l i++[bMove n (11+((i+l.length:Nat):Int))]
 | [],i=>by simp[bRegs]
 | x::r,i=>by
  rw[Yab,bRegs,bRegs,Zir n r (i+1),Yab,Yk];have:i+1+r.length=i+(r.length+1):=by omega
  rw[this]
theorem Zgs:∀(l:List Int)(i:Nat),(bRegs l i).length=l.length
 | [],i=>rfl
 | x::r,i=>by rw[bRegs,Yk,Zgs r,Yk]
theorem Zk1 (fr:Int)(a:Bool):(bBack fr a).length<=6:=by
 unfold bBack
 cases a <;> simp
abbrev Z0c (h:CH) (op n:Int) (nm:ByteArray) (regs:List Int):List S.Item :=
 if op=1 then [bStore h.fr 11 (1+n)] else if op=2 then [bI 25 0 11 12 n] else if op=5 then bRegs regs 0++bBack h.fr h.r.behind
 else if op=7 then [bI 35 0 11 0 0] else if op=8 then [bI 36 0 11 0 0] else if op=9 then [bMove n 11]
 else if op=10 then [bPop h.fr,bJ 0 nm] else if op=11 then [bPop h.fr,bI 33 0 11 0 0] else []
theorem Zx8 {h:CH}{s:BS}{l:Int}{b:BE}(a:s.op=4)(c:s.exprs=[b]) :
 bS h s l=([bL (bLab (l+1))]++bExpr h.fr h.r.locals b 0++[bU 11 (bLab (l+2))]++(bSs h s.body (l+2)).1++[bJ 0 (bLab (l+1)),bL (bLab (l+2))],(bSs h s.body (l+2)).2):=by
 obtain⟨op,n,nm,exprs,regs,body,els⟩:=s;change op=4 at a;change exprs=[b] at c;subst a c
 show bStmt _ _ _ _ _=_
 rw[bStmt,if_pos rfl,bTest];rfl
theorem Z0d {h:CH}{s:BS}{l:Int}(a:s.op=3) :
 bS h s l=(bExprs h.fr h.r.locals s.exprs 0++([bU 11 (bLab (l+1))]++(bSs h s.body (l+2)).1++[bJ 0 (bLab (l+2)),bL (bLab (l+1))]++(bSs h s.els (bSs h s.body (l+2)).2).1++[bL (bLab (l+2))]),(bSs h s.els (bSs h s.body (l+2)).2).2):=by
 obtain⟨op,n,nm,exprs,regs,body,els⟩:=s;change op=3 at a;subst a
 show bStmt _ _ _ _ _=_
 rw[bStmt,if_neg (by decide),if_pos rfl];simp only[Yo];rfl
theorem Zrc {h:CH}{s:BS}{l:Int}(a:s.op≠3)(b:s.op≠4):bS h s l=(bExprs h.fr h.r.locals s.exprs 0++Z0c h s.op s.n s.name s.regs,l):=by
 obtain⟨op,n,nm,exprs,regs,body,els⟩:=s;change op≠3 at a;change op≠4 at b
 show bStmt _ _ _ _ _=_
 rw[bStmt,if_neg b,if_neg a];rfl
theorem Zo7 {L:Int}{s:BS}{d:Nat}(h:chkS L s d=0):(1<=s.op/\s.op<=11)/\(s.op=1->0<=s.n/\s.n<L)/\s.exprs.length=exprsS s.op s.regs.length/\formedEs L s.exprs=true/\chkSs L s.body (d+1)=0/\chkSs L s.els (d+1)=0:=by
 rw[Zq3] at h;by_cases c1:(!(shapedS L s.op s.n s.name s.exprs.length s.regs s.body.length s.els.length && formedEs L s.exprs))=true
 .rw[if_pos c1] at h;cases h
 .rw[if_neg c1] at h
  by_cases c2:200<=d\/14<needEs s.exprs 0
  .rw[if_pos c2] at h;cases h
  .rw[if_neg c2] at h
   by_cases c3:chkSs L s.body (d+1)≠0
   .rw[if_pos c3] at h;exact absurd h c3
   .rw[if_neg c3] at h
    simp only[Bool.not_eq_true,Bool.not_eq_false',Yq] at c1;obtain⟨b,hf⟩:=c1;unfold shapedS at b;simp only[Yq,decide_eq_true_eq] at b;obtain⟨⟨⟨⟨⟨⟨⟨⟨f,_⟩,_⟩,_⟩,_⟩,a⟩,c⟩,_⟩,_⟩:=b;refine⟨f,λ e=>?_,c,hf,by simpa using c3,h⟩;rw[e] at a;unfold numS at a;rw[if_pos rfl] at a;exact of_decide_eq_true a
theorem Z0e {base p:Nat}{h:CH}(hO:HOk h)(u:3<=base):∀n,n<=1000000->Stm base p h n:=by
 intro n
 induction n with
 | zero=>intro _ s Y A2 A3 A4 c1 c2 c3 c4 d xs lab w hs;have:=Zgx s;omega
 | succ n ih =>
  intro hn s Y A2 A3 A4 c1 c2 c3 c4 d xs lab w hs b5 H d5 hp hL h0 h1 hl;obtain⟨⟨r1,r2⟩,g,o,Q,a7,d0⟩:=Zo7 b5;have a4:=Zgx s;have a8:=ih (by omega);have V:Below w.heap.size w (w.alloc (.cells #[.int .i64 s.op,.int .i64 s.n,.string s.name,.slice Y s.exprs.length c1,.slice A2 s.regs.length c2,.slice A3 s.body.length c3,.slice A4 s.els.length c4] 149)):=(Yj _ _).alloc (Yd _) _;have f1:=heap_alloc_new w (.cells #[.int .i64 s.op,.int .i64 s.n,.string s.name,.slice Y s.exprs.length c1,.slice A2 s.regs.length c2,.slice A3 s.body.length c3,.slice A4 s.els.length c4] 149);have D:=Ya (CK.of V d5);have H2:=Ya (H.keep V);have HL:=Ya (hL.on V);have m:=Ya f1;have a5:=hp.below (V.mono d5);have L:=Yaa d5 V.size;clear H hL V f1;by_cases f:s.op=4
  .have hex1:∃e0,s.exprs=[e0]:=by
    rw[f] at o
    match hm:s.exprs,o with
    | [e0],_=>exact⟨e0,rfl⟩
   obtain⟨e0,b0⟩:=hex1;have T:=Zx8 (h:=h) (l:=lab) f b0;rw[b0] at Q a4;rw[formedEs,Yq] at Q;have f9:Zf3 s.body<=n:=by rw[Zdy,Zdy] at a4;omega
   have a9:szE e0<=1000000:=by rw[Zdy,Zdy] at a4;omega
   have M:=congrArg Prod.fst T;have a2:=congrArg Prod.snd T;simp only at M a2;rw[T] at hl h1;have v:=Ya (λ(W:World) (H2:CAt base p h xs lab W) (L:base<=W.heap.size) (a5:SPart W base s Y A2 A3 A4) (HL:LVE W)=>Z0b hO a8 u s e0 b0 Q.1 a9 Y A2 A3 A4 c1 c2 c3 c4 (d+1) xs lab W f9 a7 (by omega) H2 L a5 HL h0 _ M (by rw[M];exact hl) (by rw[M];exact h1));rw[<- a2] at v;have e8:((bS h s lab).1,(bS h s lab).2)=bS h s lab:=rfl;have a3:=v.out _ H2.out L a5 HL.out;have h6:=Ya a3;clear v a3 T M a2 e8 hl h1 Q f9 a9 a4 o hs b5 g a7 d0 a8 ih;generalize bS h s lab=R at *;generalize s.op=op at *;subst f;generalize s.n=en at *;generalize s.name=nm at *;generalize s.exprs.length=Z at *;generalize s.regs.length=P at *;generalize s.body.length=N3 at *;generalize s.els.length=N4 at *;clear a5 b0 hp;go_enter func229,ntmps229
   go_upto_region 1 with fail
   generalize w.alloc (.cells #[.int .i64 4,.int .i64 en,.string nm,.slice Y Z c1,.slice A2 P c2,.slice A3 N3 c3,.slice A4 N4 c4] 149)=w2 at *;have k0:w2.cell? ⟨w.heap.size,0,none⟩=some (.int .i64 4):=by rw[Yb m.out];rfl
   have k1:w2.cell? ⟨w.heap.size,1,none⟩=some (.int .i64 en):=by rw[Yb m.out];rfl
   have k2:w2.cell? ⟨w.heap.size,2,none⟩=some (.string nm):=by rw[Yb m.out];rfl
   have k3:w2.cell? ⟨w.heap.size,3,none⟩=some (.slice Y Z c1):=by rw[Yb m.out];rfl
   have k4:w2.cell? ⟨w.heap.size,4,none⟩=some (.slice A2 P c2):=by rw[Yb m.out];rfl
   have k5:w2.cell? ⟨w.heap.size,5,none⟩=some (.slice A3 N3 c3):=by rw[Yb m.out];rfl
   have k6:w2.cell? ⟨w.heap.size,6,none⟩=some (.slice A4 N4 c4):=by rw[Yb m.out];rfl
   go_wp2_with fail
   refine h6.out.mono ?_;rintro e w3 ⟨rfl,g1,g2⟩;go_wp2_with fail
   go_end0
   exact⟨rfl,g1,D.out.trans g2⟩
  .have hzE:Zdy s.exprs<=n:=by omega
   have f5:Zf3 s.body<=n:=by omega
   have e6:Zf3 s.els<=n:=by omega
   have e2:=Zdg s.exprs;obtain⟨tail,U⟩:∃tail,bS h s lab=(bExprs h.fr h.r.locals s.exprs 0++tail,(bS h s lab).2):=by
    by_cases I:s.op=3
    .exact⟨_,by rw[Z0d I]⟩
    .exact⟨_,by rw[Zrc I f]⟩
   have c:=Ya (λ I:s.op=3=>(show tail=[bU 11 (bLab (lab+1))]++(bSs h s.body (lab+2)).1++[bJ 0 (bLab (lab+2)),bL (bLab (lab+1))]++(bSs h s.els (bSs h s.body (lab+2)).2).1++[bL (bLab (lab+2))]/\(bS h s lab).2=(bSs h s.els (bSs h s.body (lab+2)).2).2 from by
    have t:=Z0d (h:=h) (l:=lab) I;rw[t] at U;refine⟨(List.append_cancel_left (congrArg Prod.fst U)).symm,by rw[t]⟩))
   have a:=Ya (λ I:s.op≠3=>(show tail=Z0c h s.op s.n s.name s.regs/\(bS h s lab).2=lab from by
    have t:=Zrc (h:=h) (l:=lab) I f;rw[t] at U;refine⟨(List.append_cancel_left (congrArg Prod.fst U)).symm,by rw[t]⟩))
   rw[U] at hl h1⊢;simp only[Yc] at hl h1;generalize (bS h s lab).2=lab2 at *;have j:=Ya (λ(W:World) (h7:SPart W base s Y A2 A3 A4) (ys:List S.Item) (h9:ys=[bU 11 (bLab (lab+1))]++(bSs h s.body (lab+2)).1++[bJ 0 (bLab (lab+2)),bL (bLab (lab+1))]++(bSs h s.els (bSs h s.body (lab+2)).2).1++[bL (bLab (lab+2))]) (zs:List S.Item) (hc:CAt base p h zs lab W) (hb:base<=W.heap.size) (i0:LVE W) (hl:zs.length+ys.length+10<=100000000) (h1:lab+ys.length+10<=1000000000) =>
    Zu7 a8 u s Y A2 A3 A4 c1 c2 c3 c4 (d+1) zs lab W f5 e6 a7 d0 (by omega) hc hb h7 i0 h0 ys h9 hl h1)
   have HP:=Ya hp;have c5:=Ya Q;have HE:=Ya hp.exprs;have HR:=Ya hp.regs;have c7:=Ya (λ e' k (he:s.exprs[k]?=some e')=>(show 0+k+szE e'<=1000000 from by have:=Zmt he;omega));clear U b5 a8 ih Q a7 d0 a4 f5 e6 a5 hs hp;obtain⟨E,f4⟩:=Yx s.exprs;obtain⟨Z,b7⟩:∃N,N=E.length:=⟨_,rfl⟩
   obtain⟨G,hG⟩:=Yx s.regs;obtain⟨P,d3⟩:∃N,N=G.length:=⟨_,rfl⟩
   rw[<- f4] at hzE hl h1 HE c7 o e2 m D H2 HL L c5 j⊢;rw[<- hG] at o m D H2 HL L HR a j⊢;rw[<- b7] at o e2 m D H2 HL L j⊢;rw[<- d3] at o m D H2 HL L j⊢;have d8:=Ya b7;have X:=Ya d3;generalize s.op=op at *;generalize s.n=en at *;generalize s.name=nm at *;obtain⟨N3,b6⟩:∃N,N=s.body.length:=⟨_,rfl⟩
   obtain⟨N4,d9⟩:∃N,N=s.els.length:=⟨_,rfl⟩
   rw[<- b6,<- d9] at m D H2 HL L j;rw[<- b6,<- d9];have i:=Ya o;clear f4 hG b7 d3 b6 d9 o;have f7:=Ya (λ k=>Zgv h.fr h.r.locals E 0 k);go_enter func229,ntmps229
   go_upto_region 1 with fail
   generalize w.alloc (.cells #[.int .i64 op,.int .i64 en,.string nm,.slice Y Z c1,.slice A2 P c2,.slice A3 N3 c3,.slice A4 N4 c4] 149)=w2 at *;have k0:w2.cell? ⟨w.heap.size,0,none⟩=some (.int .i64 op):=by rw[Yb m.out];rfl
   have k3:w2.cell? ⟨w.heap.size,3,none⟩=some (.slice Y Z c1):=by rw[Yb m.out];rfl
   have C:(op==4)=false:=by simp[f]
   go_wp2_with fail
   go_loopw [19] (λ b8 wr=>∃k:Nat,k<=Z/\b8=.int .i64 k/\Hid (CAt base p h (xs++bExprs h.fr h.r.locals (E.take k) 0) lab wr)/\Hid (CK base w2 wr)) (λ b8 _=>Z-(intOf b8).toNat)
   case atStart=>exact⟨0,by omega,rfl,Ya (by simpa[bExprs] using H2.out),Ya (CK.refl _ _)⟩
   case round =>
    obtain⟨k,hk,rfl,HC,HK⟩:=hrel;obtain⟨O,h2⟩:=Yx wr;subst h2;have y:base<=O.heap.size:=by have:=HK.out.size;omega
    by_cases b9:k<Z
    .obtain⟨t,he1⟩:∃t,E[k]?=some t:=⟨_,Ye (by rw[<- d8.out];exact b9)⟩
     obtain⟨b,off,A',c',rfl,h5,q0,q1,q2,i3,q4,q5,q6⟩:=(HE.out.below (D.out.trans HK.out).below).at_ he1;have b3:=Y2 he1;have a9:=c7.out t k he1;have f0:(E.take k).length=k:=by have:=d8.out;rw[Y9];omega
     have d7:bExprs h.fr h.r.locals (E.take (k+1)) 0=bExprs h.fr h.r.locals (E.take k) 0++bExpr h.fr h.r.locals t k:=by rw[Zcl E he1,Zec,f0,Yw]
     have b2:=f7.out (k+1);rw[d7,Yc] at b2;have i1:b<O.heap.size:=by omega
     have a1:Below O.heap.size O (O.alloc (.cells #[.int .i64 t.op,.int .i64 t.n,.string t.name,.slice A' t.kids.length c'] 152)):=(Yj _ _).alloc (Yd _) _;have b4:=Zw9 hO (szE t) t A' c' k (xs++bExprs h.fr h.r.locals (E.take k) 0) lab (O.alloc (.cells #[.int .i64 t.op,.int .i64 t.n,.string t.name,.slice A' t.kids.length c'] 152)) (Yd _) (Zc3 _ c5.out t b3) (by omega) (HC.out.keep a1) (Yaa y a1.size) (q6.below (a1.mono y)) q4 (by rw[Yc];omega);have c9:=Ya d7;have g8:=Ya (CK.of a1 y);clear d7 b2 a1 f0;generalize bExpr h.fr h.r.locals t k=zs at *;generalize t.op=op' at *;generalize t.n=en' at *;generalize t.name=nm' at *;generalize t.kids.length=N' at *;have e4:=Ya b4;clear b4 q4 q5 q6 he1 b3 a9;go_wp2_with fail
     refine e4.out.mono ?_;rintro e F ⟨rfl,g3,g4⟩;go_wp2_with fail
     go_roundw
     case rel=>exact⟨k+1,by omega,by go_num,Ya (by rw[c9.out,<- Yo];exact g3),Ya (HK.out.trans (g8.out.trans g4))⟩
     case measure=>simp[intOf];omega
    .have hkN:Z=k:=by omega
     subst hkN;have q:=Ya (HK.out.keep w.heap.size _ _ _ m.out (by decide) (by decide));have ht:E.take Z=E:=by rw[d8.out,Yal]
     rw[ht] at HC;have g6:=Ya (HL.out.keep HK.out.below u);have A:=Ya (HP.out.below (D.out.trans HK.out).below);have h8:=Ya (HR.out.below (D.out.trans HK.out).below);clear ht k0 k3 HL HP HR HE c7 f7 c5 H2;have c0:O.cell? ⟨w.heap.size,0,none⟩=some (.int .i64 op):=by rw[Yb q.out];rfl
     have e5:O.cell? ⟨w.heap.size,1,none⟩=some (.int .i64 en):=by rw[Yb q.out];rfl
     have f8:O.cell? ⟨w.heap.size,2,none⟩=some (.string nm):=by rw[Yb q.out];rfl
     have e7:O.cell? ⟨w.heap.size,3,none⟩=some (.slice Y Z c1):=by rw[Yb q.out];rfl
     have f2:O.cell? ⟨w.heap.size,4,none⟩=some (.slice A2 P c2):=by rw[Yb q.out];rfl
     have f3:O.cell? ⟨w.heap.size,5,none⟩=some (.slice A3 N3 c3):=by rw[Yb q.out];rfl
     have f6:O.cell? ⟨w.heap.size,6,none⟩=some (.slice A4 N4 c4):=by rw[Yb q.out];rfl
     have z:(xs++bExprs h.fr h.r.locals E 0).length=xs.length+(bExprs h.fr h.r.locals E 0).length:=Yc;generalize bExprs h.fr h.r.locals E 0=ks at *;have B:=Ya (D.out.trans HK.out);have i4:=Ya hO;rcases(show op=1\/op=2\/op=3\/op=5\/op=6\/op=7\/op=8\/op=9\/op=10\/op=11 by omega) with rfl|rfl|rfl|rfl|rfl|rfl|rfl|rfl|rfl|rfl
     .obtain⟨t1,t2⟩:=a.out (by decide)
      subst t2;have K:=Ya (show tail=[bStore h.fr 11 (1+en)] from t1);clear t1 a c j A i C f;have g7:=Ya (Zmv en (by have:=g rfl;have:=hO.l1;omega) O);have v:=Ya (Zq6 HC.out y (by rw[z];omega) hO 11 (1+en) (by have:=g rfl;have:=hO.l1;omega));clear g;go_wp2_with fail
      refine g7.out.mono ?_;rintro e w3 ⟨rfl,rfl⟩;go_wp2_with fail
      refine v.out.mono ?_;rintro e F ⟨rfl,u,J⟩;go_wp2_with fail
      go_end0
      refine⟨rfl,?_,B.out.trans J⟩
      show CAt base p h (xs++(ks++tail)) _ F
      rw[K.out]
      simpa only[Yo,Yab,Yag] using u
     .obtain⟨t1,t2⟩:=a.out (by decide)
      subst t2;have K:=Ya (show tail=[bI 25 0 11 12 en] from t1);clear t1 a c j A i C f;have v:=Ya (Zaw HC.out y (by rw[z];omega) 25 0 11 12 en);clear g;go_wp2_with fail
      refine v.out.mono ?_;rintro e F ⟨rfl,u,J⟩;go_wp2_with fail
      go_end0
      refine⟨rfl,?_,B.out.trans J⟩
      show CAt base p h (xs++(ks++tail)) _ F
      rw[K.out]
      simpa only[Yo,Yab,Yag] using u
     .obtain⟨t1,t2⟩:=c.out rfl
      have v:=Ya (j.out O A.out tail t1 (xs++ks) HC.out y g6.out (by rw[z];omega) (by omega));rw[<- t2] at v;clear t1 t2 a c j A i C f g;go_wp2_with fail
      refine v.out.mono ?_;rintro e F ⟨rfl,u,J⟩;go_wp2_with fail
      go_end0
      refine⟨rfl,?_,B.out.trans J⟩
      show CAt base p h (xs++(ks++tail)) _ F
      rw[<- Yo];exact u
     .obtain⟨t1,t2⟩:=a.out (by decide)
      subst t2;have K:=Ya (show tail=bRegs G 0++bBack h.fr h.r.behind from t1);have i2:P<=1000000:=by
       have t:Z=P:=by rw[i.out];rfl
       omega
      have e3:tail.length=P+(bBack h.fr h.r.behind).length:=by rw[K.out,Yc,Zgs,X.out]
      rw[e3] at hl;clear e3;clear t1 a c j A i C f;have g5:∀k,k<=P->(bRegs (G.take k) 0).length=k:=λ k hk=>by rw[Zgs,Y9];have:=X.out;omega
      have g9:=Ya g5;clear g g5;go_wp2_with fail
      go_loopw [57] (λ d1 wr=>∃k:Nat,k<=P/\d1=.int .i64 k/\Hid (CAt base p h (xs++ks++bRegs (G.take k) 0) lab2 wr)/\Hid (CK base O wr)) (λ d1 _=>P-(intOf d1).toNat)
      case atStart=>exact⟨0,by omega,rfl,Ya (by simpa[bRegs] using HC.out),Ya (CK.refl _ _)⟩
      case round =>
       obtain⟨k,hk,rfl,c6,a6⟩:=hrel;obtain⟨g0,e9⟩:=Yx wr;subst e9;have b1:base<=g0.heap.size:=by have:=a6.out.size;omega
       have a0:(xs++ks++bRegs (G.take k) 0).length=xs.length+ks.length+k:=by rw[Yc,z,g9.out k hk]
       by_cases b9:k<P
       .obtain⟨b,off,rfl,h5,a3⟩:=(h8.out.below a6.out.below).two (by rw[<- X.out];omega)
        obtain⟨x,hx⟩:∃x,G[k]?=some x:=⟨_,Ye (by rw[<- X.out];exact b9)⟩
        have i5:=a3 k x hx;have i1:b<g0.heap.size:=by omega
        have c9:=Ya (show bRegs (G.take (k+1)) 0=bRegs (G.take k) 0++[bMove x (11+(k:Int))] from by
         rw[Zcl G hx,Zir,Yw];have:(G.take k).length=k:=by rw[Y9];have:=X.out;omega
         rw[this])
        have v:=Ya (Zkz c6.out b1 (by rw[a0];omega) x (11+(k:Int)));clear hx a3 a0;go_wp2_with fail
        refine v.out.mono ?_;rintro e F ⟨rfl,u,J⟩;go_wp2_with fail
        go_roundw
        case rel=>exact⟨k+1,by omega,by go_num,Ya (by rw[c9.out,<- Yo];exact u),Ya (a6.out.trans J)⟩
        case measure=>simp[intOf];omega
       .have hkN:P=k:=by omega
        subst hkN;have ht:G.take P=G:=by rw[X.out,Yal]
        rw[ht] at c6 a0;have T:=Zk1 h.fr h.r.behind;have v:=Ya (Zw8 c6.out b1 (by rw[a0];omega) hO);clear ht a0 T;go_wp2_with fail
        refine v.out.mono ?_;rintro e F ⟨rfl,u,J⟩;go_wp2_with fail
        go_end0
        refine⟨rfl,?_,B.out.trans (a6.out.trans J)⟩
        show CAt base p h (xs++(ks++tail)) _ F
        rw[K.out]
        simpa only[Yo,Yab,Yag] using u
     .obtain⟨t1,t2⟩:=a.out (by decide)
      subst t2;have K:=Ya (show tail=[] from t1);clear t1 a c j A i C f;clear g;have u:=HC.out;go_wp2_with fail
      go_end0
      refine⟨rfl,?_,B.out⟩
      show CAt base p h (xs++(ks++tail)) _ O
      rw[K.out,List.append_nil];exact u
     .obtain⟨t1,t2⟩:=a.out (by decide)
      subst t2;have K:=Ya (show tail=[bI 35 0 11 0 0] from t1);clear t1 a c j A i C f;have v:=Ya (Zaw HC.out y (by rw[z];omega) 35 0 11 0 0);clear g;go_wp2_with fail
      refine v.out.mono ?_;rintro e F ⟨rfl,u,J⟩;go_wp2_with fail
      go_end0
      refine⟨rfl,?_,B.out.trans J⟩
      show CAt base p h (xs++(ks++tail)) _ F
      rw[K.out]
      simpa only[Yo,Yab,Yag] using u
     .obtain⟨t1,t2⟩:=a.out (by decide)
      subst t2;have K:=Ya (show tail=[bI 36 0 11 0 0] from t1);clear t1 a c j A i C f;have v:=Ya (Zaw HC.out y (by rw[z];omega) 36 0 11 0 0);clear g;go_wp2_with fail
      refine v.out.mono ?_;rintro e F ⟨rfl,u,J⟩;go_wp2_with fail
      go_end0
      refine⟨rfl,?_,B.out.trans J⟩
      show CAt base p h (xs++(ks++tail)) _ F
      rw[K.out]
      simpa only[Yo,Yab,Yag] using u
     .obtain⟨t1,t2⟩:=a.out (by decide)
      subst t2;have K:=Ya (show tail=[bMove en 11] from t1);clear t1 a c j A i C f;have v:=Ya (Zkz HC.out y (by rw[z];omega) en 11);clear g;go_wp2_with fail
      refine v.out.mono ?_;rintro e F ⟨rfl,u,J⟩;go_wp2_with fail
      go_end0
      refine⟨rfl,?_,B.out.trans J⟩
      show CAt base p h (xs++(ks++tail)) _ F
      rw[K.out]
      simpa only[Yo,Yab,Yag] using u
     .obtain⟨t1,t2⟩:=a.out (by decide)
      subst t2;have K:=Ya (show tail=[bPop h.fr,bJ 0 nm] from t1);clear t1 a c j A i C f;have v:=Ya (Zx6 HC.out y (by rw[z];omega) hO);clear g;go_wp2_with fail
      refine v.out.mono ?_;rintro e F ⟨rfl,g3,g4⟩;have c8:base<=F.heap.size:=by have:=g4.size;omega
      have d2:(xs++ks++[bPop h.fr]).length<=100000000:=by rw[Yc,z];show _+1<=_;omega
      have d4:=Ya (g4.keep _ _ _ _ q.out (by decide) (by decide));have k2:F.cell? ⟨w.heap.size,2,none⟩=some (.string nm):=by rw[Yb d4.out];rfl
      have d6:=Ya (Zn2 g3 c8 d2 0 nm);clear c0 e5 f8 e7 f2 f3 f6;go_wp2_with fail
      refine d6.out.mono ?_;rintro e w5 ⟨rfl,u,J⟩;go_wp2_with fail
      go_end0
      refine⟨rfl,?_,B.out.trans (g4.trans J)⟩
      show CAt base p h (xs++(ks++tail)) _ w5
      rw[K.out]
      simpa only[Yo,Yab,Yag] using u
     .obtain⟨t1,t2⟩:=a.out (by decide)
      subst t2;have K:=Ya (show tail=[bPop h.fr,bI 33 0 11 0 0] from t1);clear t1 a c j A i C f;have v:=Ya (Zx6 HC.out y (by rw[z];omega) hO);clear g;go_wp2_with fail
      refine v.out.mono ?_;rintro e F ⟨rfl,g3,g4⟩;have c8:base<=F.heap.size:=by have:=g4.size;omega
      have d2:(xs++ks++[bPop h.fr]).length<=100000000:=by rw[Yc,z];show _+1<=_;omega
      have d4:=Ya (g4.keep _ _ _ _ q.out (by decide) (by decide));have k2:F.cell? ⟨w.heap.size,2,none⟩=some (.string nm):=by rw[Yb d4.out];rfl
      have d6:=Ya (Zaw g3 c8 d2 33 0 11 0 0);clear c0 e5 f8 e7 f2 f3 f6;go_wp2_with fail
      refine d6.out.mono ?_;rintro e w5 ⟨rfl,u,J⟩;go_wp2_with fail
      go_end0
      refine⟨rfl,?_,B.out.trans (g4.trans J)⟩
      show CAt base p h (xs++(ks++tail)) _ w5
      rw[K.out]
      simpa only[Yo,Yab,Yag] using u
