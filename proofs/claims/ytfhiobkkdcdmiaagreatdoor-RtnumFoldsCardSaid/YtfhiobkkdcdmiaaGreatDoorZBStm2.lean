/- Parts. -/
import Derived.Test.YtfhiobkkdcdmiaaGreatDoorZBXpr
set_option linter.all false
set_option maxHeartbeats 8000000
open Go.Lib renaming hid->Ya,cell_of_heap->Yc
open Nat renaming le_refl->Yb,le_trans->Y8,zero_add->Y9
open List renaming length_append->Yd,getElem?_eq_getElem->Yf,length_cons->Yi,append_assoc->Yn,length_take->Yq,mem_of_getElem?->Y1,cons_append->Yaa,length_nil->Yad,take_length->Yaf,nil_append->Yaj
open Go.RowKit.Below renaming refl->Yh
open Bool renaming and_eq_true->Yt
namespace Go.Proofs.YtfhiobkkdcdmiaaGreatDoor
open Go.RowKit
set_option maxRecDepth 100000
theorem Zdk (fr L:Int)(bh:Bool)(m:List S.BS):∀(l:List S.BS)(i:Int),S.bStmts fr L bh (l++m) i=((S.bStmts fr L bh l i).1++(S.bStmts fr L bh m (S.bStmts fr L bh l i).2).1,(S.bStmts fr L bh m (S.bStmts fr L bh l i).2).2)
 | [],i=>by simp[S.bStmts]
 | x::r,i=>by
  rw[Yaa,S.bStmts,Zdk fr L bh m r,S.bStmts];simp[Yn]
theorem Zpc (fr L:Int)(bh:Bool)(s:S.BS)(l:List S.BS)(i:Int):S.bStmts fr L bh (l++[s]) i=((S.bStmts fr L bh l i).1++(S.bStmt fr L bh s (S.bStmts fr L bh l i).2).1,(S.bStmt fr L bh s (S.bStmts fr L bh l i).2).2):=by
 rw[Zdk];simp[S.bStmts]
theorem Zpd (fr L:Int)(bh:Bool)(l:List S.BS)(i:Int)(k:Nat):(S.bStmts fr L bh (l.take k) i).1.length<=(S.bStmts fr L bh l i).1.length:=by
 have:=Zdk fr L bh (l.drop k) (l.take k) i;rw[List.take_append_drop] at this;rw[this];simp
mutual
theorem Zt0 (fr L:Int)(bh:Bool):∀(s:S.BS)(l:Int),l<=(S.bStmt fr L bh s l).2/\(S.bStmt fr L bh s l).2<=l+(S.bStmt fr L bh s l).1.length
 | .mk op n nm exprs regs body els,l=>by
  have h1:=Zc4 fr L bh body (l+2);have h2:=Zc4 fr L bh els (S.bStmts fr L bh body (l+2)).2;rw[S.bStmt]
  split
  .simp only[Yd,Yi,Yad]
   omega
  .split
   .simp only[Yd,Yi,Yad]
    omega
   .simp only
    omega
theorem Zc4 (fr L:Int)(bh:Bool):∀(m:List S.BS)(l:Int),l<=(S.bStmts fr L bh m l).2/\(S.bStmts fr L bh m l).2<=l+(S.bStmts fr L bh m l).1.length
 | [],l=>by rw[S.bStmts];simp
 | s::r,l=>by
  have h1:=Zt0 fr L bh s l;have h2:=Zc4 fr L bh r (S.bStmt fr L bh s l).2;rw[S.bStmts];simp only[Yd];omega
end
theorem Zm0 {L:Int}{d:Nat}:∀{l:List S.BS},S.chkSs L l d=0->∀s∈l,S.chkS L s d=0
 | x::r,h,s,hs=>by
  rw[S.chkSs] at h;by_cases c:S.chkS L x d≠0
  .rw[if_pos c] at h;exact absurd h c
  .rw[if_neg c] at h
   rcases List.mem_cons.1 hs with rfl|hs
   .simpa using c
   .exact Zm0 h s hs
abbrev bS (h:CH) (s:S.BS) (l:Int):List S.Item×Int:=S.bStmt h.fr h.r.locals h.r.behind s l
abbrev bSs (h:CH) (m:List S.BS) (l:Int):List S.Item×Int:=S.bStmts h.fr h.r.locals h.r.behind m l
def Z07 (base p:Nat)(h:CH)(xs:List S.Item)(r:List S.Item×Int)(w:World)(e:Ending)(w':World):Prop:=e=.returned (.tuple #[])/\CAt base p h (xs++r.1) r.2 w'/\CK base w w'
def Stm (base p:Nat)(h:CH)(n:Nat):Prop:=∀(s:S.BS)(A1 A2 A3 A4:Option Addr)(c1 c2 c3 c4:Nat)(d:Nat)(xs:List S.Item)(lab:Int)(w:World),szS s<=n->S.chkS h.r.locals s d=0->CAt base p h xs lab w->base<=w.heap.size->SPart w base s A1 A2 A3 A4->LVE w->0<=lab->lab+(bS h s lab).1.length+10<=1000000000 ->
 xs.length+(bS h s lab).1.length+10<=100000000 ->
 Calls Tryz.prog 189 #[.pointer (some ⟨p,0,none⟩),.agg #[.int .i64 s.op,.int .i64 s.n,.string s.name,.slice A1 s.exprs.length c1,.slice A2 s.regs.length c2,.slice A3 s.body.length c3,.slice A4 s.els.length c4]] w (Z07 base p h xs (bS h s lab) w)
theorem Zep {base p n:Nat}{h:CH}(ih:Stm base p h n)(h3:3<=base){l:List S.BS}(hl:Zhq l<=n){d:Nat}(hok:S.chkSs h.r.locals l d=0){A:Option Addr}{W:World}(hA:SList W base A l){k:Nat}{s:S.BS}(hs:l[k]?=some s){zs:List S.Item}{l0:Int}
 (hc:CAt base p h (zs++(bSs h (l.take k) l0).1) (bSs h (l.take k) l0).2 W) (hbw:base<=W.heap.size) (hL:LVE W) (h0:0<=l0) (h1:l0+(bSs h l l0).1.length+10<=1000000000) (hlen:zs.length+(bSs h l l0).1.length+10<=100000000) :
 ∃b off A1 c1 A2 c2 A3 c3 A4 c4 N1 N2 N3 N4 op en nm,A=some ⟨b,off,none⟩/\b<base/\W.cell? ⟨b,off+k*7,none⟩=some (.int .i64 op)/\W.cell? ⟨b,off+k*7+1,none⟩=some (.int .i64 en)/\W.cell? ⟨b,off+k*7+2,none⟩=some (.string nm) /\
  W.cell? ⟨b,off+k*7+3,none⟩=some (.slice A1 N1 c1)/\W.cell? ⟨b,off+k*7+4,none⟩=some (.slice A2 N2 c2)/\W.cell? ⟨b,off+k*7+5,none⟩=some (.slice A3 N3 c3)/\W.cell? ⟨b,off+k*7+6,none⟩=some (.slice A4 N4 c4) /\
  ∀W',Below W.heap.size W W'->Calls Tryz.prog 189 #[.pointer (some ⟨p,0,none⟩),.agg #[.int .i64 op,.int .i64 en,.string nm,.slice A1 N1 c1,.slice A2 N2 c2,.slice A3 N3 c3,.slice A4 N4 c4]] W' λ e w' =>
   e=.returned (.tuple #[])/\CAt base p h (zs++(bSs h (l.take (k+1)) l0).1) (bSs h (l.take (k+1)) l0).2 w'/\CK base W' w':=by
 obtain⟨b,off,A1,c1,A2,c2,A3,c3,A4,c4,e0,e1,q0,q1,q2,q3,q4,q5,q6,hp⟩:=hA.at_ hs;refine⟨b,off,A1,c1,A2,c2,A3,c3,A4,c4,_,_,_,_,_,_,_,e0,e1,q0,q1,q2,q3,q4,q5,q6,λ W' hb=>?_⟩;have hm:=Y1 hs;have hsz:=Zo8 hm;have hlb:l0<=(bSs h (l.take k) l0).2/\(bSs h (l.take k) l0).2<=l0+(bSs h (l.take k) l0).1.length:=Zc4 h.fr h.r.locals h.r.behind (l.take k) l0;have htk:(bSs h (l.take (k+1)) l0).1.length<=(bSs h l l0).1.length:=Zpd h.fr h.r.locals h.r.behind l l0 (k+1);have hsn:bSs h (l.take (k+1)) l0=((bSs h (l.take k) l0).1++(bS h s (bSs h (l.take k) l0).2).1,(bS h s (bSs h (l.take k) l0).2).2):=by
  show S.bStmts _ _ _ _ _=_
  rw[Zdl l hs,Zpc]
 have hln:(bSs h (l.take (k+1)) l0).1.length=(bSs h (l.take k) l0).1.length+(bS h s (bSs h (l.take k) l0).2).1.length:=by rw[hsn,Yd]
 refine(ih s A1 A2 A3 A4 c1 c2 c3 c4 d _ _ W' (by omega) (Zm0 hok s hm) (hc.keep hb) (Y8 hbw hb.size) (hp.below (hb.mono hbw)) (hL.keep hb (by omega)) (by omega) (by omega) (by rw[Yd];omega)).mono ?_;rintro e w' ⟨rfl,g1,g2⟩;refine⟨rfl,?_,g2⟩;rw[hsn,<- Yn];exact g1
abbrev Zt1 (p:Nat):Value:=.func (.func 189) #[.pointer (some ⟨p,0,none⟩)] #[]
theorem Zx0 {base p n:Nat}{h:CH}(ih:Stm base p h n)(h3:3<=base)(s:S.BS)(A1 A2 A3 A4:Option Addr)(c1 c2 c3 c4 d:Nat)(zs:List S.Item)(lab:Int)(w:World)(hz1:Zhq s.body<=n)(hz2:Zhq s.els<=n)(hk1:S.chkSs h.r.locals s.body d=0)(hk2:S.chkSs h.r.locals s.els d=0)(hn:n<=1000000)
 (H:CAt base p h zs lab w) (hbw:base<=w.heap.size) (hp:SPart w base s A1 A2 A3 A4) (hL:LVE w) (h0:0<=lab)
 (ys:List S.Item) (hys:ys=[S.bU 11 (S.bLab (lab+1))]++(bSs h s.body (lab+2)).1++[S.bJ 0 (S.bLab (lab+2)),S.bL (S.bLab (lab+1))]++(bSs h s.els (bSs h s.body (lab+2)).2).1++[S.bL (S.bLab (lab+2))]) (hl:zs.length+ys.length+10<=100000000) (h1:lab+ys.length+10<=1000000000) :
 Calls Tryz.prog 214 #[.pointer (some ⟨p,0,none⟩),.agg #[.int .i64 s.op,.int .i64 s.n,.string s.name,.slice A1 s.exprs.length c1,.slice A2 s.regs.length c2,.slice A3 s.body.length c3,.slice A4 s.els.length c4],Zt1 p] w (Z07 base p h zs (ys,(bSs h s.els (bSs h s.body (lab+2)).2).2) w):=by
 have hle3:=Zdm s.body;have hle4:=Zdm s.els;have HB:=Ya hp.body;have HE:=Ya hp.els;obtain⟨op,en,nm,N1,N2,hop⟩:∃op en nm N1 N2,op=s.op/\en=s.n/\nm=s.name/\N1=s.exprs.length/\N2=s.regs.length:=⟨_,_,_,_,_,rfl,rfl,rfl,rfl,rfl⟩
 obtain⟨o1,o2,o3,o4,o5⟩:=hop;rw[<- o1,<- o2,<- o3,<- o4,<- o5];clear o1 o2 o3 o4 o5 hp;generalize s.body=B at *;generalize s.els=E at *;obtain⟨N3,hN3⟩:∃N,N=B.length:=⟨_,rfl⟩
 obtain⟨N4,hN4⟩:∃N,N=E.length:=⟨_,rfl⟩
 rw[<- hN3] at hle3⊢;rw[<- hN4] at hle4⊢;have HN3:=Ya hN3;have HN4:=Ya hN4;have hyl:ys.length=1+(bSs h B (lab+2)).1.length+2+(bSs h E (bSs h B (lab+2)).2).1.length+1:=by
  rw[hys];simp only[Yd,Yi,Yad]
 rw[hyl] at hl h1;have Hys:=Ya hys;have hbX:Below w.heap.size w (w.alloc (.cells #[.int .i64 op,.int .i64 en,.string nm,.slice A1 N1 c1,.slice A2 N2 c2,.slice A3 N3 c3,.slice A4 N4 c4] 115)):=(Yh _ _).alloc (Yb _) _;have hrX:=heap_alloc_new w (.cells #[.int .i64 op,.int .i64 en,.string nm,.slice A1 N1 c1,.slice A2 N2 c2,.slice A3 N3 c3,.slice A4 N4 c4] 115);have HbX:=Ya (CK.of hbX hbw);have H2:=Ya (H.keep hbX);have HL:=Ya (hL.on hbX);have HRX:=Ya hrX;clear hN3 hN4 hyl hys hbX hrX H hL;go_enter Tryz.func214,Tryz.ntmps214
 go_upto_region 1 with fail
 generalize w.alloc (.cells #[.int .i64 op,.int .i64 en,.string nm,.slice A1 N1 c1,.slice A2 N2 c2,.slice A3 N3 c3,.slice A4 N4 c4] 115)=w2 at *;have hs2:base<=w2.heap.size:=by have:=HbX.out.size;omega
 go_wp2_with fail
 refine(Zlf H2.out hs2 h3 HL.out ⟨h0,by omega⟩).mono ?_;rintro e w3 ⟨rfl,g1,g2⟩;have hs3:base<=w3.heap.size:=by have:=g2.size;omega
 go_wp2_with fail
 refine(Zlf g1 hs3 h3 (HL.out.keep g2.below h3) ⟨by omega,by omega⟩).mono ?_;rintro e w4 ⟨rfl,g3,g4⟩;have hs4:base<=w4.heap.size:=by have:=g4.size;omega
 rw[show lab+1+1=lab+2 from by omega] at g3⊢;have Hc:=Ya (Zqw g3 hs4 (by omega) 11 (S.bLab (lab+1)));generalize S.bLab (lab+1)=l1 at *;generalize S.bLab (lab+2)=l2 at *;go_wp2_with fail
 refine Hc.out.mono ?_;rintro e w5 ⟨rfl,g5,g6⟩;have hs5:base<=w5.heap.size:=by have:=g6.size;omega
 have HK5:=Ya (((g2.trans g4).trans g6));have HL5:=Ya (HL.out.keep HK5.out.below h3);have Hr5:=Ya (HK5.out.keep _ _ _ _ HRX.out (by decide) (by decide));have q5:w5.cell? ⟨w.heap.size,5,none⟩=some (.slice A3 N3 c3):=by rw[Yc Hr5.out];rfl
 have HC5:=Ya g5;have HB5:=Ya (HB.out.below (HbX.out.trans HK5.out).below);have HE5:=Ya (HE.out.below (HbX.out.trans HK5.out).below);clear g1 g2 g3 g4 g5 g6 Hc hs2 hs3 hs4 HL HRX HB HE H2;have Ha1:=Ya (show(zs++[S.bU 11 l1]).length=zs.length+1 from by rw[Yd];rfl);go_wp2_with fail
 go_loopw [22] (λ v22 wr=>∃k:Nat,k<=N3/\v22=.int .i64 k/\Hid (CAt base p h (zs++[S.bU 11 l1]++(bSs h (B.take k) (lab+2)).1) (bSs h (B.take k) (lab+2)).2 wr)/\Hid (CK base w5 wr)) (λ v22 _=>N3-(intOf v22).toNat)
 case atStart=>exact⟨0,by omega,rfl,Ya (by simpa[S.bStmts] using HC5.out),Ya (CK.refl _ _)⟩
 case round =>
  obtain⟨k,hk,rfl,HC,HK⟩:=hrel;obtain⟨wo,hwo⟩:=Yx wr;subst hwo;have hso:base<=wo.heap.size:=by have:=HK.out.size;omega
  by_cases hlt:k<N3
  .obtain⟨s1,hs1⟩:∃s1,B[k]?=some s1:=⟨_,Yf (by rw[<- HN3.out];exact hlt)⟩
   obtain⟨b,off,A1',c1',A2',c2',A3',c3',A4',c4',M1,M2,M3,M4,op',en',nm',rfl,hbB,e0,e1,e2,e3,e4,e5,e6,hrec⟩:=Zep ih h3 hz1 hk1 (HB5.out.below HK.out.below) hs1 HC.out hso (HL5.out.keep HK.out.below h3) (by omega) (by omega) (by rw[Ha1.out];omega);have hbr:b<wo.heap.size:=by omega
   have hbY:Below wo.heap.size wo (wo.alloc (.cells #[.int .i64 op',.int .i64 en',.string nm',.slice A1' M1 c1',.slice A2' M2 c2',.slice A3' M3 c3',.slice A4' M4 c4'] 115)):=(Yh _ _).alloc (Yb _) _;have Hrec:=Ya (hrec _ hbY);have HbY:=Ya (CK.of hbY hso);clear hrec hbY hs1;go_wp2_with fail
   refine Hrec.out.mono ?_;rintro e w6 ⟨rfl,g1,g2⟩;go_wp2_with fail
   go_roundw
   case rel=>exact⟨k+1,by omega,by go_num,Ya g1,Ya (HK.out.trans (HbY.out.trans g2))⟩
   case measure=>simp[intOf];omega
  .have hkN:N3=k:=by omega
   subst hkN;have ht:B.take N3=B:=by rw[HN3.out,Yaf]
   rw[ht] at HC;clear ht q5;have hlb:lab+2<=(bSs h B (lab+2)).2/\(bSs h B (lab+2)).2<=lab+2+(bSs h B (lab+2)).1.length:=Zc4 h.fr h.r.locals h.r.behind B (lab+2);generalize bSs h B (lab+2)=RB at *;have Hj:=Ya (Zqv HC.out hso (by rw[Yd,Ha1.out];omega) 0 l2);go_wp2_with fail
   refine Hj.out.mono ?_;rintro e w6 ⟨rfl,g1,g2⟩;have hs6:base<=w6.heap.size:=by have:=g2.size;omega
   have Hj2:=Ya (Zil g1 hs6 (by rw[Yd,Yd,Ha1.out];show _+1<=_;omega) l1);go_wp2_with fail
   refine Hj2.out.mono ?_;rintro e w7 ⟨rfl,g3,g4⟩;have hs7:base<=w7.heap.size:=by have:=g4.size;omega
   have HK7:=Ya (HK5.out.trans (HK.out.trans (g2.trans g4)));have HK57:=Ya (HK.out.trans (g2.trans g4));have HL7:=Ya (HL5.out.keep HK57.out.below h3);have Hr7:=Ya (HK57.out.keep _ _ _ _ Hr5.out (by decide) (by decide));have q6:w7.cell? ⟨w.heap.size,6,none⟩=some (.slice A4 N4 c4):=by rw[Yc Hr7.out];rfl
   have HC7:=Ya g3;have HE7:=Ya (HE5.out.below HK57.out.below);have Ha2:=Ya (show(zs++[S.bU 11 l1]++RB.1++[S.bJ 0 l2]++[S.bL l1]).length=zs.length+1+RB.1.length+2 from by simp only[Yd,Yi,Yad]);clear g1 g2 g3 g4 Hj Hj2 hs6 HC HK HL5 Hr5 HB5 HE5 HK57 Ha1;obtain⟨zs2,hzs2⟩:∃z,z=zs++[S.bU 11 l1]++RB.1++[S.bJ 0 l2]++[S.bL l1]:=⟨_,rfl⟩
   rw[<- hzs2] at HC7 Ha2;have Hzs2:=Ya hzs2;clear hzs2;go_wp2_with fail
   go_loopw [39] (λ v39 wr=>∃k:Nat,k<=N4/\v39=.int .i64 k/\Hid (CAt base p h (zs2++(bSs h (E.take k) RB.2).1) (bSs h (E.take k) RB.2).2 wr)/\Hid (CK base w7 wr)) (λ v39 _=>N4-(intOf v39).toNat)
   case atStart=>exact⟨0,by omega,rfl,Ya (by simpa[S.bStmts] using HC7.out),Ya (CK.refl _ _)⟩
   case round =>
    obtain⟨k,hk,rfl,HC,HK⟩:=hrel;obtain⟨wo2,hwo2⟩:∃wo,wo=wr:=⟨_,rfl⟩
    subst hwo2;have hso2:base<=wo2.heap.size:=by have:=HK.out.size;omega
    by_cases hlt:k<N4
    .obtain⟨s1,hs1⟩:∃s1,E[k]?=some s1:=⟨_,Yf (by rw[<- HN4.out];exact hlt)⟩
     obtain⟨b,off,A1',c1',A2',c2',A3',c3',A4',c4',M1,M2,M3,M4,op',en',nm',rfl,hbB,e0,e1,e2,e3,e4,e5,e6,hrec⟩:=Zep ih h3 hz2 hk2 (HE7.out.below HK.out.below) hs1 HC.out hso2 (HL7.out.keep HK.out.below h3) (by omega) (by omega) (by rw[Ha2.out];omega);have hbr:b<wo2.heap.size:=by omega
     have hbY:Below wo2.heap.size wo2 (wo2.alloc (.cells #[.int .i64 op',.int .i64 en',.string nm',.slice A1' M1 c1',.slice A2' M2 c2',.slice A3' M3 c3',.slice A4' M4 c4'] 115)):=(Yh _ _).alloc (Yb _) _;have Hrec:=Ya (hrec _ hbY);have HbY:=Ya (CK.of hbY hso2);clear hrec hbY hs1;go_wp2_with fail
     refine Hrec.out.mono ?_;rintro e w8 ⟨rfl,g1,g2⟩;go_wp2_with fail
     go_roundw
     case rel=>exact⟨k+1,by omega,by go_num,Ya g1,Ya (HK.out.trans (HbY.out.trans g2))⟩
     case measure=>simp[intOf];omega
    .have hkN:N4=k:=by omega
     subst hkN;have ht:E.take N4=E:=by rw[HN4.out,Yaf]
     rw[ht] at HC;clear ht q6;generalize bSs h E RB.2=RE' at *;have Hj:=Ya (Zil HC.out hso2 (by rw[Yd,Ha2.out];omega) l2);go_wp2_with fail
     refine Hj.out.mono ?_;rintro e w9 ⟨rfl,g1,g2⟩;go_wp2_with fail
     go_end0
     refine⟨rfl,?_,HbX.out.trans (HK7.out.trans (HK.out.trans g2))⟩;rw[Hzs2.out] at g1
     show CAt base p h (zs++ys) _ w9
     rw[Hys.out]
     simpa[Yn] using g1
theorem Z3m {base p n:Nat}{h:CH}(hO:HOk h)(ih:Stm base p h n)(h3:3<=base)(s:S.BS)(e0:S.BE)(he0:s.exprs=[e0])(hf0:S.formedE h.r.locals e0=true)(hz0:szE e0<=1000000)(A1 A2 A3 A4:Option Addr)(c1 c2 c3 c4 d:Nat)(zs:List S.Item)(lab:Int)(w:World)(hz1:Zhq s.body<=n)(hk1:S.chkSs h.r.locals s.body d=0)(hn:n<=1000000)
 (H:CAt base p h zs lab w) (hbw:base<=w.heap.size) (hp:SPart w base s A1 A2 A3 A4) (hL:LVE w) (h0:0<=lab)
 (ys:List S.Item) (hys:ys=[S.bL (S.bLab (lab+1))]++S.bExpr h.fr h.r.locals e0 0++[S.bU 11 (S.bLab (lab+2))]++(bSs h s.body (lab+2)).1++[S.bJ 0 (S.bLab (lab+1)),S.bL (S.bLab (lab+2))]) (hl:zs.length+ys.length+10<=100000000) (h1:lab+ys.length+10<=1000000000) :
 Calls Tryz.prog 211 #[.pointer (some ⟨p,0,none⟩),.agg #[.int .i64 s.op,.int .i64 s.n,.string s.name,.slice A1 s.exprs.length c1,.slice A2 s.regs.length c2,.slice A3 s.body.length c3,.slice A4 s.els.length c4],Zt1 p] w (Z07 base p h zs (ys,(bSs h s.body (lab+2)).2) w):=by
 have hle3:=Zdm s.body;have HB:=Ya hp.body;have hE0:=hp.exprs;rw[he0] at hE0⊢;have HE:=Ya hE0;obtain⟨op,en,nm,N2,N4,hop⟩:∃op en nm N2 N4,op=s.op/\en=s.n/\nm=s.name/\N2=s.regs.length/\N4=s.els.length:=⟨_,_,_,_,_,rfl,rfl,rfl,rfl,rfl⟩
 obtain⟨o1,o2,o3,o4,o5⟩:=hop;rw[<- o1,<- o2,<- o3,<- o4,<- o5,show [e0].length=1 from rfl];clear o1 o2 o3 o4 o5 hp he0 hE0;generalize s.body=B at *;obtain⟨N3,hN3⟩:∃N,N=B.length:=⟨_,rfl⟩
 rw[<- hN3] at hle3⊢;have HN3:=Ya hN3;have hyl:ys.length=1+(S.bExpr h.fr h.r.locals e0 0).length+1+(bSs h B (lab+2)).1.length+2:=by
  rw[hys];simp only[Yd,Yi,Yad]
 rw[hyl] at hl h1;have Hys:=Ya hys;have hbX:Below w.heap.size w (w.alloc (.cells #[.int .i64 op,.int .i64 en,.string nm,.slice A1 1 c1,.slice A2 N2 c2,.slice A3 N3 c3,.slice A4 N4 c4] 115)):=(Yh _ _).alloc (Yb _) _;have hrX:=heap_alloc_new w (.cells #[.int .i64 op,.int .i64 en,.string nm,.slice A1 1 c1,.slice A2 N2 c2,.slice A3 N3 c3,.slice A4 N4 c4] 115);have HbX:=Ya (CK.of hbX hbw);have H2:=Ya (H.keep hbX);have HL:=Ya (hL.on hbX);have HRX:=Ya hrX;clear hN3 hyl hys hbX hrX H hL;go_enter Tryz.func211,Tryz.ntmps211
 go_upto_region 1 with fail
 generalize w.alloc (.cells #[.int .i64 op,.int .i64 en,.string nm,.slice A1 1 c1,.slice A2 N2 c2,.slice A3 N3 c3,.slice A4 N4 c4] 115)=w2 at *;have hs2:base<=w2.heap.size:=by have:=HbX.out.size;omega
 go_wp2_with fail
 refine(Zlf H2.out hs2 h3 HL.out ⟨h0,by omega⟩).mono ?_;rintro e w3 ⟨rfl,g1,g2⟩;have hs3:base<=w3.heap.size:=by have:=g2.size;omega
 go_wp2_with fail
 refine(Zlf g1 hs3 h3 (HL.out.keep g2.below h3) ⟨by omega,by omega⟩).mono ?_;rintro e w4 ⟨rfl,g3,g4⟩;have hs4:base<=w4.heap.size:=by have:=g4.size;omega
 rw[show lab+1+1=lab+2 from by omega] at g3⊢;have Hc:=Ya (Zil g3 hs4 (by omega) (S.bLab (lab+1)));generalize S.bLab (lab+1)=l1 at *;generalize S.bLab (lab+2)=l2 at *;go_wp2_with fail
 refine Hc.out.mono ?_;rintro e w5 ⟨rfl,g5,g6⟩;have hs5:base<=w5.heap.size:=by have:=g6.size;omega
 have HK5:=Ya (((g2.trans g4).trans g6));have HL5:=Ya (HL.out.keep HK5.out.below h3);have Hr5:=Ya (HK5.out.keep _ _ _ _ HRX.out (by decide) (by decide));have q3:w5.cell? ⟨w.heap.size,3,none⟩=some (.slice A1 1 c1):=by rw[Yc Hr5.out];rfl
 obtain⟨b,off,A',c',rfl,hbB,k0,k1,k2,k3,k4,k5,k6⟩:=(HE.out.below (HbX.out.trans HK5.out).below).at_ (k:=0) (e:=e0) rfl;rw[Nat.zero_mul,Nat.add_zero] at k0 k1 k2 k3;have hbr:b<w5.heap.size:=by omega
 have Hx:=Ya (Zzw hO (szE e0) e0 A' c' 0 _ _ w5 (Yb _) hf0 (by omega) g5 hs5 k6 k4 (by rw[Yd];show _+1+_+10<=_;omega));have HB5:=Ya (HB.out.below (HbX.out.trans HK5.out).below);have hxl:(S.bExpr h.fr h.r.locals e0 0).length=(S.bExpr h.fr h.r.locals e0 0).length:=rfl;generalize S.bExpr h.fr h.r.locals e0 0=xe at *;generalize e0.op=op0 at *;generalize e0.n=en0 at *;generalize e0.name=nm0 at *;generalize e0.kids.length=kl0 at *;clear g1 g2 g3 g4 g5 g6 Hc hs2 hs3 hs4 HL HRX HB HE H2 k4 k5 k6 hxl;go_wp2_with fail
 refine Hx.out.mono ?_;rintro e w6 ⟨rfl,g1,g2⟩;have hs6:base<=w6.heap.size:=by have:=g2.size;omega
 have Hc:=Ya (Zqw g1 hs6 (by simp only[Yd,Yi,Yad];omega) 11 l2);go_wp2_with fail
 refine Hc.out.mono ?_;rintro e w7 ⟨rfl,g3,g4⟩;have hs7:base<=w7.heap.size:=by have:=g4.size;omega
 have HK57:=Ya (g2.trans g4);have HL7:=Ya (HL5.out.keep HK57.out.below h3);have Hr7:=Ya (HK57.out.keep _ _ _ _ Hr5.out (by decide) (by decide));have q5:w7.cell? ⟨w.heap.size,5,none⟩=some (.slice A3 N3 c3):=by rw[Yc Hr7.out];rfl
 have HC7:=Ya g3;have HB7:=Ya (HB5.out.below HK57.out.below);have HK7:=Ya (HK5.out.trans HK57.out);have Ha1:=Ya (show(zs++[S.bL l1]++xe++[S.bU 11 l2]).length=zs.length+1+xe.length+1 from by simp only[Yd,Yi,Yad]);obtain⟨zs2,hzs2⟩:∃z,z=zs++[S.bL l1]++xe++[S.bU 11 l2]:=⟨_,rfl⟩
 rw[<- hzs2] at HC7 Ha1;have Hzs2:=Ya hzs2;clear hzs2 g1 g2 g3 g4 Hc Hx hs6 HB5 HL5 Hr5 HK57 q3 k0 k1 k2 k3;go_wp2_with fail
 go_loopw [29] (λ v29 wr=>∃k:Nat,k<=N3/\v29=.int .i64 k/\Hid (CAt base p h (zs2++(bSs h (B.take k) (lab+2)).1) (bSs h (B.take k) (lab+2)).2 wr)/\Hid (CK base w7 wr)) (λ v29 _=>N3-(intOf v29).toNat)
 case atStart=>exact⟨0,by omega,rfl,Ya (by simpa[S.bStmts] using HC7.out),Ya (CK.refl _ _)⟩
 case round =>
  obtain⟨k,hk,rfl,HC,HK⟩:=hrel;obtain⟨wo,hwo⟩:=Yx wr;subst hwo;have hso:base<=wo.heap.size:=by have:=HK.out.size;omega
  by_cases hlt:k<N3
  .obtain⟨s1,hs1⟩:∃s1,B[k]?=some s1:=⟨_,Yf (by rw[<- HN3.out];exact hlt)⟩
   obtain⟨b',off',A1',c1',A2',c2',A3',c3',A4',c4',M1,M2,M3,M4,op',en',nm',rfl,hbB',e0,e1,e2,e3,e4,e5,e6,hrec⟩:=Zep ih h3 hz1 hk1 (HB7.out.below HK.out.below) hs1 HC.out hso (HL7.out.keep HK.out.below h3) (by omega) (by omega) (by rw[Ha1.out];omega);have hbr':b'<wo.heap.size:=by omega
   have hbY:Below wo.heap.size wo (wo.alloc (.cells #[.int .i64 op',.int .i64 en',.string nm',.slice A1' M1 c1',.slice A2' M2 c2',.slice A3' M3 c3',.slice A4' M4 c4'] 115)):=(Yh _ _).alloc (Yb _) _;have Hrec:=Ya (hrec _ hbY);have HbY:=Ya (CK.of hbY hso);clear hrec hbY hs1;go_wp2_with fail
   refine Hrec.out.mono ?_;rintro e w8 ⟨rfl,g1,g2⟩;go_wp2_with fail
   go_roundw
   case rel=>exact⟨k+1,by omega,by go_num,Ya g1,Ya (HK.out.trans (HbY.out.trans g2))⟩
   case measure=>simp[intOf];omega
  .have hkN:N3=k:=by omega
   subst hkN;have ht:B.take N3=B:=by rw[HN3.out,Yaf]
   rw[ht] at HC;clear ht q5;generalize bSs h B (lab+2)=RB at *;have Hj:=Ya (Zqv HC.out hso (by rw[Yd,Ha1.out];omega) 0 l1);go_wp2_with fail
   refine Hj.out.mono ?_;rintro e w8 ⟨rfl,g1,g2⟩;have hs8:base<=w8.heap.size:=by have:=g2.size;omega
   have Hj2:=Ya (Zil g1 hs8 (by rw[Yd,Yd,Ha1.out];show _+1<=_;omega) l2);go_wp2_with fail
   refine Hj2.out.mono ?_;rintro e w9 ⟨rfl,g3,g4⟩;go_wp2_with fail
   go_end0
   refine⟨rfl,?_,HbX.out.trans (HK7.out.trans (HK.out.trans (g2.trans g4)))⟩;rw[Hzs2.out] at g3
   show CAt base p h (zs++ys) _ w9
   rw[Hys.out]
   simpa[Yn] using g3
theorem Zkf (n:Int):∀(l:List Int)(i:Nat),S.bRegs (l++[n]) i=S.bRegs l i++[S.bMove n (11+((i+l.length:Nat):Int))]
 | [],i=>by simp[S.bRegs]
 | x::r,i=>by
  rw[Yaa,S.bRegs,S.bRegs,Zkf n r (i+1),Yaa,Yi];have:i+1+r.length=i+(r.length+1):=by omega
  rw[this]
theorem Zie:∀(l:List Int)(i:Nat),(S.bRegs l i).length=l.length
 | [],i=>rfl
 | x::r,i=>by rw[S.bRegs,Yi,Zie r,Yi]
theorem Zm1 (fr:Int)(bh:Bool):(S.bBack fr bh).length<=6:=by
 unfold S.bBack
 cases bh <;> simp
abbrev Z3n (h:CH) (op n:Int) (nm:ByteArray) (regs:List Int):List S.Item :=
 if op=1 then [S.bStore h.fr 11 (1+n)] else if op=2 then [S.bI 25 0 11 12 n] else if op=5 then S.bRegs regs 0++S.bBack h.fr h.r.behind
 else if op=7 then [S.bI 35 0 11 0 0] else if op=8 then [S.bI 36 0 11 0 0] else if op=9 then [S.bMove n 11]
 else if op=10 then [S.bPop h.fr,S.bJ 0 nm] else if op=11 then [S.bPop h.fr,S.bI 33 0 11 0 0] else []
theorem Z08 {h:CH}{s:S.BS}{l:Int}{e0:S.BE}(hop:s.op=4)(he:s.exprs=[e0]) :
 bS h s l=([S.bL (S.bLab (l+1))]++S.bExpr h.fr h.r.locals e0 0++[S.bU 11 (S.bLab (l+2))]++(bSs h s.body (l+2)).1++[S.bJ 0 (S.bLab (l+1)),S.bL (S.bLab (l+2))],(bSs h s.body (l+2)).2):=by
 obtain⟨op,n,nm,exprs,regs,body,els⟩:=s;change op=4 at hop;change exprs=[e0] at he;subst hop he
 show S.bStmt _ _ _ _ _=_
 rw[S.bStmt,if_pos rfl,S.bTest];rfl
theorem Z3o {h:CH}{s:S.BS}{l:Int}(hop:s.op=3) :
 bS h s l=(S.bExprs h.fr h.r.locals s.exprs 0++([S.bU 11 (S.bLab (l+1))]++(bSs h s.body (l+2)).1++[S.bJ 0 (S.bLab (l+2)),S.bL (S.bLab (l+1))]++(bSs h s.els (bSs h s.body (l+2)).2).1++[S.bL (S.bLab (l+2))]),(bSs h s.els (bSs h s.body (l+2)).2).2):=by
 obtain⟨op,n,nm,exprs,regs,body,els⟩:=s;change op=3 at hop;subst hop
 show S.bStmt _ _ _ _ _=_
 rw[S.bStmt,if_neg (by decide),if_pos rfl];simp only[Yn];rfl
theorem Zt2 {h:CH}{s:S.BS}{l:Int}(h3:s.op≠3)(h4:s.op≠4):bS h s l=(S.bExprs h.fr h.r.locals s.exprs 0++Z3n h s.op s.n s.name s.regs,l):=by
 obtain⟨op,n,nm,exprs,regs,body,els⟩:=s;change op≠3 at h3;change op≠4 at h4
 show S.bStmt _ _ _ _ _=_
 rw[S.bStmt,if_neg h4,if_neg h3];rfl
theorem Zr4 {L:Int}{s:S.BS}{d:Nat}(h:S.chkS L s d=0):(1<=s.op/\s.op<=11)/\(s.op=1->0<=s.n/\s.n<L)/\s.exprs.length=S.exprsS s.op s.regs.length/\S.formedEs L s.exprs=true/\S.chkSs L s.body (d+1)=0/\S.chkSs L s.els (d+1)=0:=by
 rw[Zt6] at h;by_cases c1:(!(S.shapedS L s.op s.n s.name s.exprs.length s.regs s.body.length s.els.length && S.formedEs L s.exprs))=true
 .rw[if_pos c1] at h;cases h
 .rw[if_neg c1] at h
  by_cases c2:200<=d\/14<S.needEs s.exprs 0
  .rw[if_pos c2] at h;cases h
  .rw[if_neg c2] at h
   by_cases c3:S.chkSs L s.body (d+1)≠0
   .rw[if_pos c3] at h;exact absurd h c3
   .rw[if_neg c3] at h
    simp only[Bool.not_eq_true,Bool.not_eq_false',Yt] at c1;obtain⟨hs,hf⟩:=c1;unfold S.shapedS at hs;simp only[Yt,decide_eq_true_eq] at hs;obtain⟨⟨⟨⟨⟨⟨⟨⟨q1,_⟩,_⟩,_⟩,_⟩,q6⟩,q7⟩,_⟩,_⟩:=hs;refine⟨q1,λ e=>?_,q7,hf,by simpa using c3,h⟩;rw[e] at q6;unfold S.numS at q6;rw[if_pos rfl] at q6;exact of_decide_eq_true q6
theorem Z3p {base p:Nat}{h:CH}(hO:HOk h)(h3:3<=base):∀n,n<=1000000->Stm base p h n:=by
 intro n
 induction n with
 | zero=>intro _ s A1 A2 A3 A4 c1 c2 c3 c4 d xs lab w hs;have:=Zib s;omega
 | succ n ih =>
  intro hn s A1 A2 A3 A4 c1 c2 c3 c4 d xs lab w hs hck H hbw hp hL h0 h1 hl;obtain⟨⟨r1,r2⟩,hloc,hexl,hfe,hkb,hke⟩:=Zr4 hck;have hsp:=Zib s;have hih:=ih (by omega);have hbX:Below w.heap.size w (w.alloc (.cells #[.int .i64 s.op,.int .i64 s.n,.string s.name,.slice A1 s.exprs.length c1,.slice A2 s.regs.length c2,.slice A3 s.body.length c3,.slice A4 s.els.length c4] 115)):=(Yh _ _).alloc (Yb _) _;have hrX:=heap_alloc_new w (.cells #[.int .i64 s.op,.int .i64 s.n,.string s.name,.slice A1 s.exprs.length c1,.slice A2 s.regs.length c2,.slice A3 s.body.length c3,.slice A4 s.els.length c4] 115);have HbX:=Ya (CK.of hbX hbw);have H2:=Ya (H.keep hbX);have HL:=Ya (hL.on hbX);have HRX:=Ya hrX;have hpX:=hp.below (hbX.mono hbw);have hs2:=Y8 hbw hbX.size;clear H hL hbX hrX;by_cases hop4:s.op=4
  .have hex1:∃e0,s.exprs=[e0]:=by
    rw[hop4] at hexl
    match hm:s.exprs,hexl with
    | [e0],_=>exact⟨e0,rfl⟩
   obtain⟨e0,he0⟩:=hex1;have hbl:=Z08 (h:=h) (l:=lab) hop4 he0;rw[he0] at hfe hsp;rw[S.formedEs,Yt] at hfe;have hz1:Zhq s.body<=n:=by rw[Ze2,Ze2] at hsp;omega
   have hz2:szE e0<=1000000:=by rw[Ze2,Ze2] at hsp;omega
   have hbl1:=congrArg Prod.fst hbl;have hbl2:=congrArg Prod.snd hbl;simp only at hbl1 hbl2;rw[hbl] at hl h1;have Hc:=Ya (λ(W:World) (H2:CAt base p h xs lab W) (hs2:base<=W.heap.size) (hpX:SPart W base s A1 A2 A3 A4) (HL:LVE W)=>Z3m hO hih h3 s e0 he0 hfe.1 hz2 A1 A2 A3 A4 c1 c2 c3 c4 (d+1) xs lab W hz1 hkb (by omega) H2 hs2 hpX HL h0 _ hbl1 (by rw[hbl1];exact hl) (by rw[hbl1];exact h1));rw[<- hbl2] at Hc;have hbl3:((bS h s lab).1,(bS h s lab).2)=bS h s lab:=rfl;have hcc:=Hc.out _ H2.out hs2 hpX HL.out;have Hcc:=Ya hcc;clear Hc hcc hbl hbl1 hbl2 hbl3 hl h1 hfe hz1 hz2 hsp hexl hs hck hloc hkb hke hih ih;generalize bS h s lab=R at *;generalize s.op=op at *;subst hop4;generalize s.n=en at *;generalize s.name=nm at *;generalize s.exprs.length=N1 at *;generalize s.regs.length=N2 at *;generalize s.body.length=N3 at *;generalize s.els.length=N4 at *;clear hpX he0 hp;go_enter Tryz.func189,Tryz.ntmps189
   go_upto_region 1 with fail
   generalize w.alloc (.cells #[.int .i64 4,.int .i64 en,.string nm,.slice A1 N1 c1,.slice A2 N2 c2,.slice A3 N3 c3,.slice A4 N4 c4] 115)=w2 at *;have k0:w2.cell? ⟨w.heap.size,0,none⟩=some (.int .i64 4):=by rw[Yc HRX.out];rfl
   have k1:w2.cell? ⟨w.heap.size,1,none⟩=some (.int .i64 en):=by rw[Yc HRX.out];rfl
   have k2:w2.cell? ⟨w.heap.size,2,none⟩=some (.string nm):=by rw[Yc HRX.out];rfl
   have k3:w2.cell? ⟨w.heap.size,3,none⟩=some (.slice A1 N1 c1):=by rw[Yc HRX.out];rfl
   have k4:w2.cell? ⟨w.heap.size,4,none⟩=some (.slice A2 N2 c2):=by rw[Yc HRX.out];rfl
   have k5:w2.cell? ⟨w.heap.size,5,none⟩=some (.slice A3 N3 c3):=by rw[Yc HRX.out];rfl
   have k6:w2.cell? ⟨w.heap.size,6,none⟩=some (.slice A4 N4 c4):=by rw[Yc HRX.out];rfl
   go_wp2_with fail
   refine Hcc.out.mono ?_;rintro e w3 ⟨rfl,g1,g2⟩;go_wp2_with fail
   go_end0
   exact⟨rfl,g1,HbX.out.trans g2⟩
  .have hzE:Ze2 s.exprs<=n:=by omega
   have hz3:Zhq s.body<=n:=by omega
   have hz4:Zhq s.els<=n:=by omega
   have hNE:=Zeq s.exprs;obtain⟨tail,hR1⟩:∃tail,bS h s lab=(S.bExprs h.fr h.r.locals s.exprs 0++tail,(bS h s lab).2):=by
    by_cases hop3:s.op=3
    .exact⟨_,by rw[Z3o hop3]⟩
    .exact⟨_,by rw[Zt2 hop3 hop4]⟩
   have Htail3:=Ya (λ hop3:s.op=3=>(show tail=[S.bU 11 (S.bLab (lab+1))]++(bSs h s.body (lab+2)).1++[S.bJ 0 (S.bLab (lab+2)),S.bL (S.bLab (lab+1))]++(bSs h s.els (bSs h s.body (lab+2)).2).1++[S.bL (S.bLab (lab+2))]/\(bS h s lab).2=(bSs h s.els (bSs h s.body (lab+2)).2).2 from by
    have e1:=Z3o (h:=h) (l:=lab) hop3;rw[e1] at hR1;refine⟨(List.append_cancel_left (congrArg Prod.fst hR1)).symm,by rw[e1]⟩))
   have Htail:=Ya (λ hop3:s.op≠3=>(show tail=Z3n h s.op s.n s.name s.regs/\(bS h s lab).2=lab from by
    have e1:=Zt2 (h:=h) (l:=lab) hop3 hop4;rw[e1] at hR1;refine⟨(List.append_cancel_left (congrArg Prod.fst hR1)).symm,by rw[e1]⟩))
   rw[hR1] at hl h1⊢;simp only[Yd] at hl h1;generalize (bS h s lab).2=lab2 at *;have Hei:=Ya (λ(W:World) (hpW:SPart W base s A1 A2 A3 A4) (ys:List S.Item) (hys:ys=[S.bU 11 (S.bLab (lab+1))]++(bSs h s.body (lab+2)).1++[S.bJ 0 (S.bLab (lab+2)),S.bL (S.bLab (lab+1))]++(bSs h s.els (bSs h s.body (lab+2)).2).1++[S.bL (S.bLab (lab+2))]) (zs:List S.Item) (hc:CAt base p h zs lab W) (hb:base<=W.heap.size) (hLW:LVE W) (hl:zs.length+ys.length+10<=100000000) (h1:lab+ys.length+10<=1000000000) =>
    Zx0 hih h3 s A1 A2 A3 A4 c1 c2 c3 c4 (d+1) zs lab W hz3 hz4 hkb hke (by omega) hc hb hpW hLW h0 ys hys hl h1)
   have HP:=Ya hp;have Hfe:=Ya hfe;have HE:=Ya hp.exprs;have HR:=Ya hp.regs;have Hkn:=Ya (λ e' k (he:s.exprs[k]?=some e')=>(show 0+k+szE e'<=1000000 from by have:=Zpm he;omega));clear hR1 hck hih ih hfe hkb hke hsp hz3 hz4 hpX hs hp;obtain⟨E,hEd⟩:=Yx s.exprs;obtain⟨N1,hN1⟩:∃N,N=E.length:=⟨_,rfl⟩
   obtain⟨G,hG⟩:=Yx s.regs;obtain⟨N2,hN2⟩:∃N,N=G.length:=⟨_,rfl⟩
   rw[<- hEd] at hzE hl h1 HE Hkn hexl hNE HRX HbX H2 HL hs2 Hfe Hei⊢;rw[<- hG] at hexl HRX HbX H2 HL hs2 HR Htail Hei⊢;rw[<- hN1] at hexl hNE HRX HbX H2 HL hs2 Hei⊢;rw[<- hN2] at hexl HRX HbX H2 HL hs2 Hei⊢;have HN1:=Ya hN1;have HN2:=Ya hN2;generalize s.op=op at *;generalize s.n=en at *;generalize s.name=nm at *;obtain⟨N3,hN3⟩:∃N,N=s.body.length:=⟨_,rfl⟩
   obtain⟨N4,hN4⟩:∃N,N=s.els.length:=⟨_,rfl⟩
   rw[<- hN3,<- hN4] at HRX HbX H2 HL hs2 Hei;rw[<- hN3,<- hN4];have Hexl:=Ya hexl;clear hEd hG hN1 hN2 hN3 hN4 hexl;have HKL:=Ya (λ k=>Zim h.fr h.r.locals E 0 k);go_enter Tryz.func189,Tryz.ntmps189
   go_upto_region 1 with fail
   generalize w.alloc (.cells #[.int .i64 op,.int .i64 en,.string nm,.slice A1 N1 c1,.slice A2 N2 c2,.slice A3 N3 c3,.slice A4 N4 c4] 115)=w2 at *;have k0:w2.cell? ⟨w.heap.size,0,none⟩=some (.int .i64 op):=by rw[Yc HRX.out];rfl
   have k3:w2.cell? ⟨w.heap.size,3,none⟩=some (.slice A1 N1 c1):=by rw[Yc HRX.out];rfl
   have hd4:(op==4)=false:=by simp[hop4]
   go_wp2_with fail
   go_loopw [19] (λ v19 wr=>∃k:Nat,k<=N1/\v19=.int .i64 k/\Hid (CAt base p h (xs++S.bExprs h.fr h.r.locals (E.take k) 0) lab wr)/\Hid (CK base w2 wr)) (λ v19 _=>N1-(intOf v19).toNat)
   case atStart=>exact⟨0,by omega,rfl,Ya (by simpa[S.bExprs] using H2.out),Ya (CK.refl _ _)⟩
   case round =>
    obtain⟨k,hk,rfl,HC,HK⟩:=hrel;obtain⟨wo,hwo⟩:=Yx wr;subst hwo;have hso:base<=wo.heap.size:=by have:=HK.out.size;omega
    by_cases hlt:k<N1
    .obtain⟨e1,he1⟩:∃e1,E[k]?=some e1:=⟨_,Yf (by rw[<- HN1.out];exact hlt)⟩
     obtain⟨b,off,A',c',rfl,hbB,q0,q1,q2,q3',q4,q5,q6⟩:=(HE.out.below (HbX.out.trans HK.out).below).at_ he1;have hmem:=Y1 he1;have hz2:=Hkn.out e1 k he1;have hkl:(E.take k).length=k:=by have:=HN1.out;rw[Yq];omega
     have hnx:S.bExprs h.fr h.r.locals (E.take (k+1)) 0=S.bExprs h.fr h.r.locals (E.take k) 0++S.bExpr h.fr h.r.locals e1 k:=by rw[Zdl E he1,Zfc,hkl,Y9]
     have hkl1:=HKL.out (k+1);rw[hnx,Yd] at hkl1;have hbr:b<wo.heap.size:=by omega
     have hbY:Below wo.heap.size wo (wo.alloc (.cells #[.int .i64 e1.op,.int .i64 e1.n,.string e1.name,.slice A' e1.kids.length c'] 111)):=(Yh _ _).alloc (Yb _) _;have hrec:=Zzw hO (szE e1) e1 A' c' k (xs++S.bExprs h.fr h.r.locals (E.take k) 0) lab (wo.alloc (.cells #[.int .i64 e1.op,.int .i64 e1.n,.string e1.name,.slice A' e1.kids.length c'] 111)) (Yb _) (Zec _ Hfe.out e1 hmem) (by omega) (HC.out.keep hbY) (Y8 hso hbY.size) (q6.below (hbY.mono hso)) q4 (by rw[Yd];omega);have Hnx:=Ya hnx;have HbY:=Ya (CK.of hbY hso);clear hnx hkl1 hbY hkl;generalize S.bExpr h.fr h.r.locals e1 k=zs at *;generalize e1.op=op' at *;generalize e1.n=en' at *;generalize e1.name=nm' at *;generalize e1.kids.length=N' at *;have Hrec:=Ya hrec;clear hrec q4 q5 q6 he1 hmem hz2;go_wp2_with fail
     refine Hrec.out.mono ?_;rintro e w4 ⟨rfl,g3,g4⟩;go_wp2_with fail
     go_roundw
     case rel=>exact⟨k+1,by omega,by go_num,Ya (by rw[Hnx.out,<- Yn];exact g3),Ya (HK.out.trans (HbY.out.trans g4))⟩
     case measure=>simp[intOf];omega
    .have hkN:N1=k:=by omega
     subst hkN;have Hrow:=Ya (HK.out.keep w.heap.size _ _ _ HRX.out (by decide) (by decide));have ht:E.take N1=E:=by rw[HN1.out,Yaf]
     rw[ht] at HC;have HLo:=Ya (HL.out.keep HK.out.below h3);have HPo:=Ya (HP.out.below (HbX.out.trans HK.out).below);have HRo:=Ya (HR.out.below (HbX.out.trans HK.out).below);clear ht k0 k3 HL HP HR HE Hkn HKL Hfe H2;have c0:wo.cell? ⟨w.heap.size,0,none⟩=some (.int .i64 op):=by rw[Yc Hrow.out];rfl
     have c1':wo.cell? ⟨w.heap.size,1,none⟩=some (.int .i64 en):=by rw[Yc Hrow.out];rfl
     have c2':wo.cell? ⟨w.heap.size,2,none⟩=some (.string nm):=by rw[Yc Hrow.out];rfl
     have c3':wo.cell? ⟨w.heap.size,3,none⟩=some (.slice A1 N1 c1):=by rw[Yc Hrow.out];rfl
     have c4':wo.cell? ⟨w.heap.size,4,none⟩=some (.slice A2 N2 c2):=by rw[Yc Hrow.out];rfl
     have c5':wo.cell? ⟨w.heap.size,5,none⟩=some (.slice A3 N3 c3):=by rw[Yc Hrow.out];rfl
     have c6':wo.cell? ⟨w.heap.size,6,none⟩=some (.slice A4 N4 c4):=by rw[Yc Hrow.out];rfl
     have hcz:(xs++S.bExprs h.fr h.r.locals E 0).length=xs.length+(S.bExprs h.fr h.r.locals E 0).length:=Yd;generalize S.bExprs h.fr h.r.locals E 0=ks at *;have HKK:=Ya (HbX.out.trans HK.out);have hhO:=Ya hO;rcases(show op=1\/op=2\/op=3\/op=5\/op=6\/op=7\/op=8\/op=9\/op=10\/op=11 by omega) with rfl|rfl|rfl|rfl|rfl|rfl|rfl|rfl|rfl|rfl
     .obtain⟨t1,t2⟩:=Htail.out (by decide)
      subst t2;have Ht:=Ya (show tail=[S.bStore h.fr 11 (1+en)] from t1);clear t1 Htail Htail3 Hei HPo Hexl hd4 hop4;have Hlo:=Ya (Zpo en (by have:=hloc rfl;have:=hO.l1;omega) wo);have Hc:=Ya (Zun HC.out hso (by rw[hcz];omega) hO 11 (1+en) (by have:=hloc rfl;have:=hO.l1;omega));clear hloc;go_wp2_with fail
      refine Hlo.out.mono ?_;rintro e w3 ⟨rfl,rfl⟩;go_wp2_with fail
      refine Hc.out.mono ?_;rintro e w4 ⟨rfl,h3,h4⟩;go_wp2_with fail
      go_end0
      refine⟨rfl,?_,HKK.out.trans h4⟩
      show CAt base p h (xs++(ks++tail)) _ w4
      rw[Ht.out]
      simpa only[Yn,Yaa,Yaj] using h3
     .obtain⟨t1,t2⟩:=Htail.out (by decide)
      subst t2;have Ht:=Ya (show tail=[S.bI 25 0 11 12 en] from t1);clear t1 Htail Htail3 Hei HPo Hexl hd4 hop4;have Hc:=Ya (Zbx HC.out hso (by rw[hcz];omega) 25 0 11 12 en);clear hloc;go_wp2_with fail
      refine Hc.out.mono ?_;rintro e w4 ⟨rfl,h3,h4⟩;go_wp2_with fail
      go_end0
      refine⟨rfl,?_,HKK.out.trans h4⟩
      show CAt base p h (xs++(ks++tail)) _ w4
      rw[Ht.out]
      simpa only[Yn,Yaa,Yaj] using h3
     .obtain⟨t1,t2⟩:=Htail3.out rfl
      have Hc:=Ya (Hei.out wo HPo.out tail t1 (xs++ks) HC.out hso HLo.out (by rw[hcz];omega) (by omega));rw[<- t2] at Hc;clear t1 t2 Htail Htail3 Hei HPo Hexl hd4 hop4 hloc;go_wp2_with fail
      refine Hc.out.mono ?_;rintro e w4 ⟨rfl,h3,h4⟩;go_wp2_with fail
      go_end0
      refine⟨rfl,?_,HKK.out.trans h4⟩
      show CAt base p h (xs++(ks++tail)) _ w4
      rw[<- Yn];exact h3
     .obtain⟨t1,t2⟩:=Htail.out (by decide)
      subst t2;have Ht:=Ya (show tail=S.bRegs G 0++S.bBack h.fr h.r.behind from t1);have hN2b:N2<=1000000:=by
       have e1:N1=N2:=by rw[Hexl.out];rfl
       omega
      have htl:tail.length=N2+(S.bBack h.fr h.r.behind).length:=by rw[Ht.out,Yd,Zie,HN2.out]
      rw[htl] at hl;clear htl;clear t1 Htail Htail3 Hei HPo Hexl hd4 hop4;have hGt:∀k,k<=N2->(S.bRegs (G.take k) 0).length=k:=λ k hk=>by rw[Zie,Yq];have:=HN2.out;omega
      have HGt:=Ya hGt;clear hloc hGt;go_wp2_with fail
      go_loopw [57] (λ v57 wr=>∃k:Nat,k<=N2/\v57=.int .i64 k/\Hid (CAt base p h (xs++ks++S.bRegs (G.take k) 0) lab2 wr)/\Hid (CK base wo wr)) (λ v57 _=>N2-(intOf v57).toNat)
      case atStart=>exact⟨0,by omega,rfl,Ya (by simpa[S.bRegs] using HC.out),Ya (CK.refl _ _)⟩
      case round =>
       obtain⟨k,hk,rfl,HC2,HK2⟩:=hrel;obtain⟨wo2,hwo2⟩:=Yx wr;subst hwo2;have hs2':base<=wo2.heap.size:=by have:=HK2.out.size;omega
       have hl2:(xs++ks++S.bRegs (G.take k) 0).length=xs.length+ks.length+k:=by rw[Yd,hcz,HGt.out k hk]
       by_cases hlt:k<N2
       .obtain⟨b,off,rfl,hbB,hcc⟩:=(HRo.out.below HK2.out.below).two (by rw[<- HN2.out];omega)
        obtain⟨x,hx⟩:∃x,G[k]?=some x:=⟨_,Yf (by rw[<- HN2.out];exact hlt)⟩
        have hx0:=hcc k x hx;have hbr:b<wo2.heap.size:=by omega
        have Hnx:=Ya (show S.bRegs (G.take (k+1)) 0=S.bRegs (G.take k) 0++[S.bMove x (11+(k:Int))] from by
         rw[Zdl G hx,Zkf,Y9];have:(G.take k).length=k:=by rw[Yq];have:=HN2.out;omega
         rw[this])
        have Hc:=Ya (Zm3 HC2.out hs2' (by rw[hl2];omega) x (11+(k:Int)));clear hx hcc hl2;go_wp2_with fail
        refine Hc.out.mono ?_;rintro e w4 ⟨rfl,h3,h4⟩;go_wp2_with fail
        go_roundw
        case rel=>exact⟨k+1,by omega,by go_num,Ya (by rw[Hnx.out,<- Yn];exact h3),Ya (HK2.out.trans h4)⟩
        case measure=>simp[intOf];omega
       .have hkN:N2=k:=by omega
        subst hkN;have ht:G.take N2=G:=by rw[HN2.out,Yaf]
        rw[ht] at HC2 hl2;have hbl:=Zm1 h.fr h.r.behind;have Hc:=Ya (Zzv HC2.out hs2' (by rw[hl2];omega) hO);clear ht hl2 hbl;go_wp2_with fail
        refine Hc.out.mono ?_;rintro e w4 ⟨rfl,h3,h4⟩;go_wp2_with fail
        go_end0
        refine⟨rfl,?_,HKK.out.trans (HK2.out.trans h4)⟩
        show CAt base p h (xs++(ks++tail)) _ w4
        rw[Ht.out]
        simpa only[Yn,Yaa,Yaj] using h3
     .obtain⟨t1,t2⟩:=Htail.out (by decide)
      subst t2;have Ht:=Ya (show tail=[] from t1);clear t1 Htail Htail3 Hei HPo Hexl hd4 hop4;clear hloc;have h3:=HC.out;go_wp2_with fail
      go_end0
      refine⟨rfl,?_,HKK.out⟩
      show CAt base p h (xs++(ks++tail)) _ wo
      rw[Ht.out,List.append_nil];exact h3
     .obtain⟨t1,t2⟩:=Htail.out (by decide)
      subst t2;have Ht:=Ya (show tail=[S.bI 35 0 11 0 0] from t1);clear t1 Htail Htail3 Hei HPo Hexl hd4 hop4;have Hc:=Ya (Zbx HC.out hso (by rw[hcz];omega) 35 0 11 0 0);clear hloc;go_wp2_with fail
      refine Hc.out.mono ?_;rintro e w4 ⟨rfl,h3,h4⟩;go_wp2_with fail
      go_end0
      refine⟨rfl,?_,HKK.out.trans h4⟩
      show CAt base p h (xs++(ks++tail)) _ w4
      rw[Ht.out]
      simpa only[Yn,Yaa,Yaj] using h3
     .obtain⟨t1,t2⟩:=Htail.out (by decide)
      subst t2;have Ht:=Ya (show tail=[S.bI 36 0 11 0 0] from t1);clear t1 Htail Htail3 Hei HPo Hexl hd4 hop4;have Hc:=Ya (Zbx HC.out hso (by rw[hcz];omega) 36 0 11 0 0);clear hloc;go_wp2_with fail
      refine Hc.out.mono ?_;rintro e w4 ⟨rfl,h3,h4⟩;go_wp2_with fail
      go_end0
      refine⟨rfl,?_,HKK.out.trans h4⟩
      show CAt base p h (xs++(ks++tail)) _ w4
      rw[Ht.out]
      simpa only[Yn,Yaa,Yaj] using h3
     .obtain⟨t1,t2⟩:=Htail.out (by decide)
      subst t2;have Ht:=Ya (show tail=[S.bMove en 11] from t1);clear t1 Htail Htail3 Hei HPo Hexl hd4 hop4;have Hc:=Ya (Zm3 HC.out hso (by rw[hcz];omega) en 11);clear hloc;go_wp2_with fail
      refine Hc.out.mono ?_;rintro e w4 ⟨rfl,h3,h4⟩;go_wp2_with fail
      go_end0
      refine⟨rfl,?_,HKK.out.trans h4⟩
      show CAt base p h (xs++(ks++tail)) _ w4
      rw[Ht.out]
      simpa only[Yn,Yaa,Yaj] using h3
     .obtain⟨t1,t2⟩:=Htail.out (by decide)
      subst t2;have Ht:=Ya (show tail=[S.bPop h.fr,S.bJ 0 nm] from t1);clear t1 Htail Htail3 Hei HPo Hexl hd4 hop4;have Hc:=Ya (Z1h HC.out hso (by rw[hcz];omega) hO);clear hloc;go_wp2_with fail
      refine Hc.out.mono ?_;rintro e w4 ⟨rfl,g3,g4⟩;have hs4:base<=w4.heap.size:=by have:=g4.size;omega
      have hl4:(xs++ks++[S.bPop h.fr]).length<=100000000:=by rw[Yd,hcz];show _+1<=_;omega
      have Hr4:=Ya (g4.keep _ _ _ _ Hrow.out (by decide) (by decide));have k2:w4.cell? ⟨w.heap.size,2,none⟩=some (.string nm):=by rw[Yc Hr4.out];rfl
      have Hc2:=Ya (Zqv g3 hs4 hl4 0 nm);clear c0 c1' c2' c3' c4' c5' c6';go_wp2_with fail
      refine Hc2.out.mono ?_;rintro e w5 ⟨rfl,h3,h4⟩;go_wp2_with fail
      go_end0
      refine⟨rfl,?_,HKK.out.trans (g4.trans h4)⟩
      show CAt base p h (xs++(ks++tail)) _ w5
      rw[Ht.out]
      simpa only[Yn,Yaa,Yaj] using h3
     .obtain⟨t1,t2⟩:=Htail.out (by decide)
      subst t2;have Ht:=Ya (show tail=[S.bPop h.fr,S.bI 33 0 11 0 0] from t1);clear t1 Htail Htail3 Hei HPo Hexl hd4 hop4;have Hc:=Ya (Z1h HC.out hso (by rw[hcz];omega) hO);clear hloc;go_wp2_with fail
      refine Hc.out.mono ?_;rintro e w4 ⟨rfl,g3,g4⟩;have hs4:base<=w4.heap.size:=by have:=g4.size;omega
      have hl4:(xs++ks++[S.bPop h.fr]).length<=100000000:=by rw[Yd,hcz];show _+1<=_;omega
      have Hr4:=Ya (g4.keep _ _ _ _ Hrow.out (by decide) (by decide));have k2:w4.cell? ⟨w.heap.size,2,none⟩=some (.string nm):=by rw[Yc Hr4.out];rfl
      have Hc2:=Ya (Zbx g3 hs4 hl4 33 0 11 0 0);clear c0 c1' c2' c3' c4' c5' c6';go_wp2_with fail
      refine Hc2.out.mono ?_;rintro e w5 ⟨rfl,h3,h4⟩;go_wp2_with fail
      go_end0
      refine⟨rfl,?_,HKK.out.trans (g4.trans h4)⟩
      show CAt base p h (xs++(ks++tail)) _ w5
      rw[Ht.out]
      simpa only[Yn,Yaa,Yaj] using h3
