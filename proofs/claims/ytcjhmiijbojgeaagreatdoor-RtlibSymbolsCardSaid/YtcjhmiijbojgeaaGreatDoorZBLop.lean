/- Parts. -/
import Derived.Test.YtcjhmiijbojgeaaGreatDoorZUCd
import Derived.Test.YtcjhmiijbojgeaaGreatDoorZBXpr
import Derived.ProofKit
import Derived.OpenShut
import Derived.LaidMore
import Derived.LaidHandle
import Derived.MakeChecks
import Derived.Lib.LaidTab
import Derived.Stop.LaidErr
import Derived.Deep.DeepHandedRow
import Derived.Deep.DeepWitnessRowRef
set_option linter.all false
set_option maxHeartbeats 4000000
open Go.Lib renaming hid->Ya,cell_of_heap->Yb
open Nat renaming le_refl->Yc
open List renaming length_append->Yd,getElem?_eq_getElem->Ye,length_cons->Yk,append_assoc->Yp,length_nil->Yad,take_length->Yap
namespace Go.Proofs.YtcjhmiijbojgeaaGreatDoor
open S Go.Proofs.Tryz Go.RowKit
set_option maxRecDepth 100000
section
set_option maxRecDepth 100000
open Go.ChangeShapes Go.WideShapes Go.ChangeAt Go.RowKit
theorem Z8z : prog.globalNamed "internal/strconv.uint64pow10" = some 0 := by kernel_rfl
theorem Z80:(prog.globals[0]?).map (·.type)=some 257:=by kernel_rfl
theorem Z81:prog.cellsOf 257=20:=by kernel_rfl
theorem Z82:prog.cellsOf 133=1:=by kernel_rfl
def Z30:List (String×DataW Unit):=Rows.rtlibSymbolsRow.laid
noncomputable def laidWorld (os:Os):World:=World.doorLaid prog 100 os
theorem Zxq (os:Os)(args:Array Value):laidMetH prog Z30 ((laidWorld os).forCall (λ _ _=>0) ⟨#[],args,[]⟩).memory :=
 laidMetH_of_parts3 (fuel:=8) (laidMet_of_run' 8 (by kernel_rfl) (by kernel_rfl)) (by kernel_rfl) (by kernel_rfl)
theorem Z6z {W:World}(h:laidMetH prog Z30 W)(c:W.ShapedOpen prog):LVE W:=by
 rw[MakeChecks.laidMetH_plain _ _ _ (by kernel_rfl)] at h;have b:=laidMet.tail (laidMet.tail h);have hsz:3<=W.heap.size:=by
  obtain⟨cs,d,_⟩:=c.1 2 (Array.replicate 64 (.int .u8 0)) 264 (of_decide_eq_true (by kernel_rfl)) (by kernel_rfl);rcases Nat.lt_or_ge 2 W.heap.size with a|a
  .omega
  .simp[Array.getElem?_eq_none a] at d
 exact⟨Lib.tabIs_of_head Z8z Z80 underlying257 underlying133 Z82 Z81 b,hsz⟩
end
theorem Zdd (fr L:Int)(a:Bool)(m:List BS):∀(l:List BS)(i:Int),bStmts fr L a (l++m) i=((bStmts fr L a l i).1++(bStmts fr L a m (bStmts fr L a l i).2).1,(bStmts fr L a m (bStmts fr L a l i).2).2)
 | [],i=>by simp[bStmts]
 | x::r,i=>by
  rw[List.cons_append,bStmts,Zdd fr L a m r,bStmts];simp[Yp]
theorem Zod (fr L:Int)(a:Bool)(s:BS)(l:List BS)(i:Int):bStmts fr L a (l++[s]) i=((bStmts fr L a l i).1++(bStmt fr L a s (bStmts fr L a l i).2).1,(bStmt fr L a s (bStmts fr L a l i).2).2):=by
 rw[Zdd];simp[bStmts]
theorem Zoe (fr L:Int)(a:Bool)(l:List BS)(i:Int)(k:Nat):(bStmts fr L a (l.take k) i).1.length<=(bStmts fr L a l i).1.length:=by
 have:=Zdd fr L a (l.drop k) (l.take k) i;rw[List.take_append_drop] at this;rw[this];simp
mutual
theorem Ztk (fr L:Int)(a:Bool):∀(s:BS)(l:Int),l<=(bStmt fr L a s l).2/\(bStmt fr L a s l).2<=l+(bStmt fr L a s l).1.length
 | .mk op n nm exprs regs body els,l=>by
  have h1:=Zct fr L a body (l+2);have h2:=Zct fr L a els (bStmts fr L a body (l+2)).2;rw[bStmt]
  split
  .simp only[Yd,Yk,Yad]
   omega
  .split
   .simp only[Yd,Yk,Yad]
    omega
   .simp only
    omega
theorem Zct (fr L:Int)(a:Bool):∀(m:List BS)(l:Int),l<=(bStmts fr L a m l).2/\(bStmts fr L a m l).2<=l+(bStmts fr L a m l).1.length
 | [],l=>by rw[bStmts];simp
 | s::r,l=>by
  have h1:=Ztk fr L a s l;have h2:=Zct fr L a r (bStmt fr L a s l).2;rw[bStmts];simp only[Yd];omega
end
theorem Zmh {L:Int}{d:Nat}:∀{l:List BS},chkSs L l d=0->∀s∈l,chkS L s d=0
 | x::r,h,s,a=>by
  rw[chkSs] at h;by_cases c:chkS L x d≠0
  .rw[if_pos c] at h;exact absurd h c
  .rw[if_neg c] at h
   rcases List.mem_cons.1 a with rfl|a
   .simpa using c
   .exact Zmh h s a
abbrev bS (h:CH) (s:BS) (l:Int):List S.Item×Int:=bStmt h.fr h.r.locals h.r.behind s l
abbrev bSs (h:CH) (m:List BS) (l:Int):List S.Item×Int:=bStmts h.fr h.r.locals h.r.behind m l
def Z1h (base p:Nat)(h:CH)(xs:List S.Item)(r:List S.Item×Int)(w:World)(e:Ending)(w':World):Prop:=e=.returned (.tuple #[])/\CAt base p h (xs++r.1) r.2 w'/\CK base w w'
def Stm (base p:Nat)(h:CH)(n:Nat):Prop:=∀(s:BS)(A1 A2 A3 A4:Option Addr)(c1 c2 c3 c4:Nat)(d:Nat)(xs:List S.Item)(lab:Int)(w:World),szS s<=n->chkS h.r.locals s d=0->CAt base p h xs lab w->base<=w.heap.size->SPart w base s A1 A2 A3 A4->LVE w->0<=lab->lab+(bS h s lab).1.length+10<=1000000000 ->
 xs.length+(bS h s lab).1.length+10<=100000000 ->
 Calls prog 182 #[.pointer (some ⟨p,0,none⟩),.agg #[.int .i64 s.op,.int .i64 s.n,.string s.name,.slice A1 s.exprs.length c1,.slice A2 s.regs.length c2,.slice A3 s.body.length c3,.slice A4 s.els.length c4]] w (Z1h base p h xs (bS h s lab) w)
theorem Zd8 {base p n:Nat}{h:CH}(ih:Stm base p h n)(h3:3<=base){l:List BS}(hl:Zhe l<=n){d:Nat}(t:chkSs h.r.locals l d=0){A:Option Addr}{W:World}(hA:SList W base A l){k:Nat}{s:BS}(u:l[k]?=some s){q:List S.Item}{l0:Int}
 (J:CAt base p h (q++(bSs h (l.take k) l0).1) (bSs h (l.take k) l0).2 W) (m:base<=W.heap.size) (G:LVE W) (h0:0<=l0) (h1:l0+(bSs h l l0).1.length+10<=1000000000) (w:q.length+(bSs h l l0).1.length+10<=100000000) :
 ∃b off j c1 a c2 g c3 c c4 y B v x op z nm,A=some ⟨b,off,none⟩/\b<base/\W.cell? ⟨b,off+k*7,none⟩=some (.int .i64 op)/\W.cell? ⟨b,off+k*7+1,none⟩=some (.int .i64 z)/\W.cell? ⟨b,off+k*7+2,none⟩=some (.string nm) /\
  W.cell? ⟨b,off+k*7+3,none⟩=some (.slice j y c1)/\W.cell? ⟨b,off+k*7+4,none⟩=some (.slice a B c2)/\W.cell? ⟨b,off+k*7+5,none⟩=some (.slice g v c3)/\W.cell? ⟨b,off+k*7+6,none⟩=some (.slice c x c4) /\
  ∀i,Below W.heap.size W i->Calls prog 182 #[.pointer (some ⟨p,0,none⟩),.agg #[.int .i64 op,.int .i64 z,.string nm,.slice j y c1,.slice a B c2,.slice g v c3,.slice c x c4]] i λ e w' =>
   e=.returned (.tuple #[])/\CAt base p h (q++(bSs h (l.take (k+1)) l0).1) (bSs h (l.take (k+1)) l0).2 w'/\CK base i w':=by
 obtain⟨b,off,j,c1,a,c2,g,c3,c,c4,C,O,P,F,K,L,N,H,M,hp⟩:=hA.at_ u;refine⟨b,off,j,c1,a,c2,g,c3,c,c4,_,_,_,_,_,_,_,C,O,P,F,K,L,N,H,M,λ i o=>?_⟩;have hm:=List.mem_of_getElem? u;have hsz:=Zo6 hm;have Q:l0<=(bSs h (l.take k) l0).2/\(bSs h (l.take k) l0).2<=l0+(bSs h (l.take k) l0).1.length:=Zct h.fr h.r.locals h.r.behind (l.take k) l0;have D:(bSs h (l.take (k+1)) l0).1.length<=(bSs h l l0).1.length:=Zoe h.fr h.r.locals h.r.behind l l0 (k+1);have f:bSs h (l.take (k+1)) l0=((bSs h (l.take k) l0).1++(bS h s (bSs h (l.take k) l0).2).1,(bS h s (bSs h (l.take k) l0).2).2):=by
  show bStmts _ _ _ _ _=_
  rw[Zdf l u,Zod]
 have E:(bSs h (l.take (k+1)) l0).1.length=(bSs h (l.take k) l0).1.length+(bS h s (bSs h (l.take k) l0).2).1.length:=by rw[f,Yd]
 refine(ih s j a g c c1 c2 c3 c4 d _ _ i (by omega) (Zmh t s hm) (J.keep o) (Nat.le_trans m o.size) (hp.below (o.mono m)) (G.keep o (by omega)) (by omega) (by omega) (by rw[Yd];omega)).mono ?_;rintro e w' ⟨rfl,R,I⟩;refine⟨rfl,?_,I⟩;rw[f,<- Yp];exact R
abbrev Ztl (p:Nat):Value:=.func (.func 182) #[.pointer (some ⟨p,0,none⟩)] #[]
theorem Zxr {base p n:Nat}{h:CH}(ih:Stm base p h n)(C:3<=base)(s:BS)(A1 A2 A3 A4:Option Addr)(c1 c2 c3 c4 d:Nat)(u:List S.Item)(lab:Int)(w:World)(d7:Zhe s.body<=n)(d6:Zhe s.els<=n)(e7:chkSs h.r.locals s.body d=0)(d3:chkSs h.r.locals s.els d=0)(hn:n<=1000000)
 (H:CAt base p h u lab w) (f0:base<=w.heap.size) (hp:SPart w base s A1 A2 A3 A4) (hL:LVE w) (h0:0<=lab)
 (ys:List S.Item) (Q:ys=[bU 11 (bLab (lab+1))]++(bSs h s.body (lab+2)).1++[bJ 0 (bLab (lab+2)),bL (bLab (lab+1))]++(bSs h s.els (bSs h s.body (lab+2)).2).1++[bL (bLab (lab+2))]) (hl:u.length+ys.length+10<=100000000) (h1:lab+ys.length+10<=1000000000) :
 Calls prog 210 #[.pointer (some ⟨p,0,none⟩),.agg #[.int .i64 s.op,.int .i64 s.n,.string s.name,.slice A1 s.exprs.length c1,.slice A2 s.regs.length c2,.slice A3 s.body.length c3,.slice A4 s.els.length c4],Ztl p] w (Z1h base p h u (ys,(bSs h s.els (bSs h s.body (lab+2)).2).2) w):=by
 have b4:=Zdc s.body;have b1:=Zdc s.els;have HB:=Ya hp.body;have HE:=Ya hp.els;obtain⟨op,en,nm,N1,N2,d4⟩:∃op en nm N1 N2,op=s.op/\en=s.n/\nm=s.name/\N1=s.exprs.length/\N2=s.regs.length:=⟨_,_,_,_,_,rfl,rfl,rfl,rfl,rfl⟩
 obtain⟨o1,o2,o3,o4,o5⟩:=d4;rw[<- o1,<- o2,<- o3,<- o4,<- o5];clear o1 o2 o3 o4 o5 hp;generalize s.body=B at *;generalize s.els=E at *;obtain⟨x,Y⟩:∃N,N=B.length:=⟨_,rfl⟩
 obtain⟨v,W⟩:∃N,N=E.length:=⟨_,rfl⟩
 rw[<- Y] at b4⊢;rw[<- W] at b1⊢;have b2:=Ya Y;have b5:=Ya W;have c7:ys.length=1+(bSs h B (lab+2)).1.length+2+(bSs h E (bSs h B (lab+2)).2).1.length+1:=by
  rw[Q];simp only[Yd,Yk,Yad]
 rw[c7] at hl h1;have c8:=Ya Q;have D:Below w.heap.size w (w.alloc (.cells #[.int .i64 op,.int .i64 en,.string nm,.slice A1 N1 c1,.slice A2 N2 c2,.slice A3 x c3,.slice A4 v c4] 123)):=(Below.refl _ _).alloc (Yc _) _;have a7:=heap_alloc_new w (.cells #[.int .i64 op,.int .i64 en,.string nm,.slice A1 N1 c1,.slice A2 N2 c2,.slice A3 x c3,.slice A4 v c4] 123);have A:=Ya (CK.of D f0);have H2:=Ya (H.keep D);have HL:=Ya (hL.on D);have b7:=Ya a7;clear Y W c7 Q D a7 H hL;go_enter func210,ntmps210
 go_upto_region 1 with fail
 generalize w.alloc (.cells #[.int .i64 op,.int .i64 en,.string nm,.slice A1 N1 c1,.slice A2 N2 c2,.slice A3 x c3,.slice A4 v c4] 123)=w2 at *;have a8:base<=w2.heap.size:=by have:=A.out.size;omega
 go_wp2_with fail
 refine(Zk2 H2.out a8 C HL.out ⟨h0,by omega⟩).mono ?_;rintro e w3 ⟨rfl,j,f⟩;have c5:base<=w3.heap.size:=by have:=f.size;omega
 go_wp2_with fail
 refine(Zk2 j c5 C (HL.out.keep f.below C) ⟨by omega,by omega⟩).mono ?_;rintro e w4 ⟨rfl,g3,F⟩;have b0:base<=w4.heap.size:=by have:=F.size;omega
 rw[show lab+1+1=lab+2 from by omega] at g3⊢;have Hc:=Ya (Zpw g3 b0 (by omega) 11 (bLab (lab+1)));generalize bLab (lab+1)=l1 at *;generalize bLab (lab+2)=l2 at *;go_wp2_with fail
 refine Hc.out.mono ?_;rintro e w5 ⟨rfl,g5,g6⟩;have f2:base<=w5.heap.size:=by have:=g6.size;omega
 have l:=Ya (((f.trans F).trans g6));have a1:=Ya (HL.out.keep l.out.below C);have L:=Ya (l.out.keep _ _ _ _ b7.out (by decide) (by decide));have q5:w5.cell? ⟨w.heap.size,5,none⟩=some (.slice A3 x c3):=by rw[Yb L.out];rfl
 have d8:=Ya g5;have b8:=Ya (HB.out.below (A.out.trans l.out).below);have b6:=Ya (HE.out.below (A.out.trans l.out).below);clear j f g3 F g5 g6 Hc a8 c5 b0 HL b7 HB HE H2;have y:=Ya (show(u++[bU 11 l1]).length=u.length+1 from by rw[Yd];rfl);go_wp2_with fail
 go_loopw [22] (λ J wr=>∃k:Nat,k<=x/\J=.int .i64 k/\Hid (CAt base p h (u++[bU 11 l1]++(bSs h (B.take k) (lab+2)).1) (bSs h (B.take k) (lab+2)).2 wr)/\Hid (CK base w5 wr)) (λ J _=>x-(intOf J).toNat)
 case atStart=>exact⟨0,by omega,rfl,Ya (by simpa[bStmts] using d8.out),Ya (CK.refl _ _)⟩
 case round =>
  obtain⟨k,hk,rfl,G,i⟩:=hrel;obtain⟨U,c9⟩:=Yx wr;subst c9;have M:base<=U.heap.size:=by have:=i.out.size;omega
  by_cases a5:k<x
  .obtain⟨s1,hs1⟩:∃s1,B[k]?=some s1:=⟨_,Ye (by rw[<- b2.out];exact a5)⟩
   obtain⟨b,off,a0,K,I,X,a6,a4,Z,O,M1,M2,M3,M4,a3,T,a2,rfl,d2,e0,e1,e2,e3,e4,e5,e6,a⟩:=Zd8 ih C d7 e7 (b8.out.below i.out.below) hs1 G.out M (a1.out.keep i.out.below C) (by omega) (by omega) (by rw[y.out];omega);have d9:b<U.heap.size:=by omega
   have c:Below U.heap.size U (U.alloc (.cells #[.int .i64 a3,.int .i64 T,.string a2,.slice a0 M1 K,.slice I M2 X,.slice a6 M3 a4,.slice Z M4 O] 123)):=(Below.refl _ _).alloc (Yc _) _;have t:=Ya (a _ c);have P:=Ya (CK.of c M);clear a c hs1;go_wp2_with fail
   refine t.out.mono ?_;rintro e w6 ⟨rfl,j,f⟩;go_wp2_with fail
   go_roundw
   case rel=>exact⟨k+1,by omega,by go_num,Ya j,Ya (i.out.trans (P.out.trans f))⟩
   case measure=>simp[intOf];omega
  .have hkN:x=k:=by omega
   subst hkN;have ht:B.take x=B:=by rw[b2.out,Yap]
   rw[ht] at G;clear ht q5;have f3:lab+2<=(bSs h B (lab+2)).2/\(bSs h B (lab+2)).2<=lab+2+(bSs h B (lab+2)).1.length:=Zct h.fr h.r.locals h.r.behind B (lab+2);generalize bSs h B (lab+2)=RB at *;have Hj:=Ya (Zpv G.out M (by rw[Yd,y.out];omega) 0 l2);go_wp2_with fail
   refine Hj.out.mono ?_;rintro e w6 ⟨rfl,j,f⟩;have c0:base<=w6.heap.size:=by have:=f.size;omega
   have b9:=Ya (Zhx j c0 (by rw[Yd,Yd,y.out];show _+1<=_;omega) l1);go_wp2_with fail
   refine b9.out.mono ?_;rintro e w7 ⟨rfl,g3,F⟩;have f1:base<=w7.heap.size:=by have:=F.size;omega
   have e9:=Ya (l.out.trans (i.out.trans (f.trans F)));have g:=Ya (i.out.trans (f.trans F));have e8:=Ya (a1.out.keep g.out.below C);have d1:=Ya (g.out.keep _ _ _ _ L.out (by decide) (by decide));have q6:w7.cell? ⟨w.heap.size,6,none⟩=some (.slice A4 v c4):=by rw[Yb d1.out];rfl
   have c6:=Ya g3;have d5:=Ya (b6.out.below g.out.below);have R:=Ya (show(u++[bU 11 l1]++RB.1++[bJ 0 l2]++[bL l1]).length=u.length+1+RB.1.length+2 from by simp only[Yd,Yk,Yad]);clear j f g3 F Hj b9 c0 G i a1 L b8 b6 g y;obtain⟨d0,o⟩:∃z,z=u++[bU 11 l1]++RB.1++[bJ 0 l2]++[bL l1]:=⟨_,rfl⟩
   rw[<- o] at c6 R;have a9:=Ya o;clear o;go_wp2_with fail
   go_loopw [39] (λ V wr=>∃k:Nat,k<=v/\V=.int .i64 k/\Hid (CAt base p h (d0++(bSs h (E.take k) RB.2).1) (bSs h (E.take k) RB.2).2 wr)/\Hid (CK base w7 wr)) (λ V _=>v-(intOf V).toNat)
   case atStart=>exact⟨0,by omega,rfl,Ya (by simpa[bStmts] using c6.out),Ya (CK.refl _ _)⟩
   case round =>
    obtain⟨k,hk,rfl,G,i⟩:=hrel;obtain⟨q,b3⟩:∃U,U=wr:=⟨_,rfl⟩
    subst b3;have m:base<=q.heap.size:=by have:=i.out.size;omega
    by_cases a5:k<v
    .obtain⟨s1,hs1⟩:∃s1,E[k]?=some s1:=⟨_,Ye (by rw[<- b5.out];exact a5)⟩
     obtain⟨b,off,a0,K,I,X,a6,a4,Z,O,M1,M2,M3,M4,a3,T,a2,rfl,d2,e0,e1,e2,e3,e4,e5,e6,a⟩:=Zd8 ih C d6 d3 (d5.out.below i.out.below) hs1 G.out m (e8.out.keep i.out.below C) (by omega) (by omega) (by rw[R.out];omega);have d9:b<q.heap.size:=by omega
     have c:Below q.heap.size q (q.alloc (.cells #[.int .i64 a3,.int .i64 T,.string a2,.slice a0 M1 K,.slice I M2 X,.slice a6 M3 a4,.slice Z M4 O] 123)):=(Below.refl _ _).alloc (Yc _) _;have t:=Ya (a _ c);have P:=Ya (CK.of c m);clear a c hs1;go_wp2_with fail
     refine t.out.mono ?_;rintro e w8 ⟨rfl,j,f⟩;go_wp2_with fail
     go_roundw
     case rel=>exact⟨k+1,by omega,by go_num,Ya j,Ya (i.out.trans (P.out.trans f))⟩
     case measure=>simp[intOf];omega
    .have hkN:v=k:=by omega
     subst hkN;have ht:E.take v=E:=by rw[b5.out,Yap]
     rw[ht] at G;clear ht q6;generalize bSs h E RB.2=RE' at *;have Hj:=Ya (Zhx G.out m (by rw[Yd,R.out];omega) l2);go_wp2_with fail
     refine Hj.out.mono ?_;rintro e w9 ⟨rfl,j,f⟩;go_wp2_with fail
     go_end0
     refine⟨rfl,?_,A.out.trans (e9.out.trans (i.out.trans f))⟩;rw[a9.out] at j
     show CAt base p h (u++ys) _ w9
     rw[c8.out]
     simpa[Yp] using j
theorem Z31 {base p n:Nat}{h:CH}(hO:HOk h)(ih:Stm base p h n)(E:3<=base)(s:BS)(c:BE)(a7:s.exprs=[c])(hf0:formedE h.r.locals c=true)(f3:szE c<=1000000)(J V K A4:Option Addr)(c1 c2 c3 c4 d:Nat)(I:List S.Item)(lab:Int)(w:World)(c5:Zhe s.body<=n)(d5:chkSs h.r.locals s.body d=0)(hn:n<=1000000)
 (H:CAt base p h I lab w) (d9:base<=w.heap.size) (hp:SPart w base s J V K A4) (hL:LVE w) (h0:0<=lab)
 (ys:List S.Item) (C:ys=[bL (bLab (lab+1))]++bExpr h.fr h.r.locals c 0++[bU 11 (bLab (lab+2))]++(bSs h s.body (lab+2)).1++[bJ 0 (bLab (lab+1)),bL (bLab (lab+2))]) (hl:I.length+ys.length+10<=100000000) (h1:lab+ys.length+10<=1000000000) :
 Calls prog 207 #[.pointer (some ⟨p,0,none⟩),.agg #[.int .i64 s.op,.int .i64 s.n,.string s.name,.slice J s.exprs.length c1,.slice V s.regs.length c2,.slice K s.body.length c3,.slice A4 s.els.length c4],Ztl p] w (Z1h base p h I (ys,(bSs h s.body (lab+2)).2) w):=by
 have X:=Zdc s.body;have HB:=Ya hp.body;have A:=hp.exprs;rw[a7] at A⊢;have HE:=Ya A;obtain⟨op,T,nm,U,O,b6⟩:∃op T nm U O,op=s.op/\T=s.n/\nm=s.name/\U=s.regs.length/\O=s.els.length:=⟨_,_,_,_,_,rfl,rfl,rfl,rfl,rfl⟩
 obtain⟨o1,o2,o3,o4,o5⟩:=b6;rw[<- o1,<- o2,<- o3,<- o4,<- o5,show [c].length=1 from rfl];clear o1 o2 o3 o4 o5 hp a7 A;generalize s.body=B at *;obtain⟨l,D⟩:∃N,N=B.length:=⟨_,rfl⟩
 rw[<- D] at X⊢;have R:=Ya D;have a6:ys.length=1+(bExpr h.fr h.r.locals c 0).length+1+(bSs h B (lab+2)).1.length+2:=by
  rw[C];simp only[Yd,Yk,Yad]
 rw[a6] at hl h1;have a8:=Ya C;have t:Below w.heap.size w (w.alloc (.cells #[.int .i64 op,.int .i64 T,.string nm,.slice J 1 c1,.slice V U c2,.slice K l c3,.slice A4 O c4] 123)):=(Below.refl _ _).alloc (Yc _) _;have L:=heap_alloc_new w (.cells #[.int .i64 op,.int .i64 T,.string nm,.slice J 1 c1,.slice V U c2,.slice K l c3,.slice A4 O c4] 123);have o:=Ya (CK.of t d9);have H2:=Ya (H.keep t);have HL:=Ya (hL.on t);have Z:=Ya L;clear D a6 C t L H hL;go_enter func207,ntmps207
 go_upto_region 1 with fail
 generalize w.alloc (.cells #[.int .i64 op,.int .i64 T,.string nm,.slice J 1 c1,.slice V U c2,.slice K l c3,.slice A4 O c4] 123)=w2 at *;have M:base<=w2.heap.size:=by have:=o.out.size;omega
 go_wp2_with fail
 refine(Zk2 H2.out M E HL.out ⟨h0,by omega⟩).mono ?_;rintro e w3 ⟨rfl,u,f⟩;have a3:base<=w3.heap.size:=by have:=f.size;omega
 go_wp2_with fail
 refine(Zk2 u a3 E (HL.out.keep f.below E) ⟨by omega,by omega⟩).mono ?_;rintro e w4 ⟨rfl,j,q⟩;have Q:base<=w4.heap.size:=by have:=q.size;omega
 rw[show lab+1+1=lab+2 from by omega] at j⊢;have Y:=Ya (Zhx j Q (by omega) (bLab (lab+1)));generalize bLab (lab+1)=l1 at *;generalize bLab (lab+2)=l2 at *;go_wp2_with fail
 refine Y.out.mono ?_;rintro e w5 ⟨rfl,g5,g6⟩;have c0:base<=w5.heap.size:=by have:=g6.size;omega
 have g:=Ya (((f.trans q).trans g6));have a0:=Ya (HL.out.keep g.out.below E);have x:=Ya (g.out.keep _ _ _ _ Z.out (by decide) (by decide));have q3:w5.cell? ⟨w.heap.size,3,none⟩=some (.slice J 1 c1):=by rw[Yb x.out];rfl
 obtain⟨b,off,A',c',rfl,f0,k0,k1,k2,k3,k4,k5,k6⟩:=(HE.out.below (o.out.trans g.out).below).at_ (k:=0) (e:=c) rfl;rw[Nat.zero_mul,Nat.add_zero] at k0 k1 k2 k3;have f2:b<w5.heap.size:=by omega
 have Hx:=Ya (Z0a hO (szE c) c A' c' 0 _ _ w5 (Yc _) hf0 (by omega) g5 c0 k6 k4 (by rw[Yd];show _+1+_+10<=_;omega));have a1:=Ya (HB.out.below (o.out.trans g.out).below);have d1:(bExpr h.fr h.r.locals c 0).length=(bExpr h.fr h.r.locals c 0).length:=rfl;generalize bExpr h.fr h.r.locals c 0=xe at *;generalize c.op=op0 at *;generalize c.n=en0 at *;generalize c.name=nm0 at *;generalize c.kids.length=kl0 at *;clear u f j q g5 g6 Y M a3 Q HL Z HB HE H2 k4 k5 k6 d1;go_wp2_with fail
 refine Hx.out.mono ?_;rintro e w6 ⟨rfl,u,f⟩;have a2:base<=w6.heap.size:=by have:=f.size;omega
 have Y:=Ya (Zpw u a2 (by simp only[Yd,Yk,Yad];omega) 11 l2);go_wp2_with fail
 refine Y.out.mono ?_;rintro e w7 ⟨rfl,j,q⟩;have f1:base<=w7.heap.size:=by have:=q.size;omega
 have a:=Ya (f.trans q);have d6:=Ya (a0.out.keep a.out.below E);have b5:=Ya (a.out.keep _ _ _ _ x.out (by decide) (by decide));have q5:w7.cell? ⟨w.heap.size,5,none⟩=some (.slice K l c3):=by rw[Yb b5.out];rfl
 have a4:=Ya j;have b8:=Ya (a1.out.below a.out.below);have d7:=Ya (g.out.trans a.out);have m:=Ya (show(I++[bL l1]++xe++[bU 11 l2]).length=I.length+1+xe.length+1 from by simp only[Yd,Yk,Yad]);obtain⟨b2,i⟩:∃z,z=I++[bL l1]++xe++[bU 11 l2]:=⟨_,rfl⟩
 rw[<- i] at a4 m;have P:=Ya i;clear i u f j q Y Hx a2 a1 a0 x a q3 k0 k1 k2 k3;go_wp2_with fail
 go_loopw [29] (λ F wr=>∃k:Nat,k<=l/\F=.int .i64 k/\Hid (CAt base p h (b2++(bSs h (B.take k) (lab+2)).1) (bSs h (B.take k) (lab+2)).2 wr)/\Hid (CK base w7 wr)) (λ F _=>l-(intOf F).toNat)
 case atStart=>exact⟨0,by omega,rfl,Ya (by simpa[bStmts] using a4.out),Ya (CK.refl _ _)⟩
 case round =>
  obtain⟨k,hk,rfl,HC,HK⟩:=hrel;obtain⟨W,b1⟩:=Yx wr;subst b1;have y:base<=W.heap.size:=by have:=HK.out.size;omega
  by_cases d4:k<l
  .obtain⟨s1,hs1⟩:∃s1,B[k]?=some s1:=⟨_,Ye (by rw[<- R.out];exact d4)⟩
   obtain⟨b',e7,c8,b0,a9,b9,d8,d3,c6,b3,M1,M2,M3,M4,d2,b7,d0,rfl,e9,c,e1,e2,e3,e4,e5,e6,v⟩:=Zd8 ih E c5 d5 (b8.out.below HK.out.below) hs1 HC.out y (d6.out.keep HK.out.below E) (by omega) (by omega) (by rw[m.out];omega);have e8:b'<W.heap.size:=by omega
   have G:Below W.heap.size W (W.alloc (.cells #[.int .i64 d2,.int .i64 b7,.string d0,.slice c8 M1 b0,.slice a9 M2 b9,.slice d8 M3 d3,.slice c6 M4 b3] 123)):=(Below.refl _ _).alloc (Yc _) _;have a5:=Ya (v _ G);have b4:=Ya (CK.of G y);clear v G hs1;go_wp2_with fail
   refine a5.out.mono ?_;rintro e w8 ⟨rfl,u,f⟩;go_wp2_with fail
   go_roundw
   case rel=>exact⟨k+1,by omega,by go_num,Ya u,Ya (HK.out.trans (b4.out.trans f))⟩
   case measure=>simp[intOf];omega
  .have hkN:l=k:=by omega
   subst hkN;have ht:B.take l=B:=by rw[R.out,Yap]
   rw[ht] at HC;clear ht q5;generalize bSs h B (lab+2)=RB at *;have Hj:=Ya (Zpv HC.out y (by rw[Yd,m.out];omega) 0 l1);go_wp2_with fail
   refine Hj.out.mono ?_;rintro e w8 ⟨rfl,u,f⟩;have c7:base<=w8.heap.size:=by have:=f.size;omega
   have c9:=Ya (Zhx u c7 (by rw[Yd,Yd,m.out];show _+1<=_;omega) l2);go_wp2_with fail
   refine c9.out.mono ?_;rintro e w9 ⟨rfl,j,q⟩;go_wp2_with fail
   go_end0
   refine⟨rfl,?_,o.out.trans (d7.out.trans (HK.out.trans (f.trans q)))⟩;rw[P.out] at j
   show CAt base p h (I++ys) _ w9
   rw[a8.out]
   simpa[Yp] using j
