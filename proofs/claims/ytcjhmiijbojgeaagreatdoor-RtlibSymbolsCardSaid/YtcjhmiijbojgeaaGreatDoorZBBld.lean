/- Parts. -/
import Derived.Test.YtcjhmiijbojgeaaGreatDoorZBLop
import Derived.StillTailTactics
import Derived.Laws.ResultCell
import Derived.OneCell
set_option linter.all false
set_option maxHeartbeats 8000000
open Go.Lib renaming hid->Ya,cell_of_heap->Yb,frozen_of_heap->Yy
open Nat renaming le_refl->Yc,le_trans->Yz,zero_add->Y2
open List renaming length_append->Yd,getElem?_eq_getElem->Ye,length_cons->Yk,append_assoc->Yp,cons_append->Y9,length_take->Yaa,length_nil->Yad,nil_append->Yae,take_length->Yap
open Go.AllReady renaming cons->Yf,nil->Yi
open Bool renaming and_eq_true->Yq
namespace Go.Proofs.YtcjhmiijbojgeaaGreatDoor
open S Go.Proofs.Tryz Go.RowKit
set_option maxRecDepth 100000
theorem Zjv (n:Int):∀(l:List Int)(i:Nat),bRegs (l++[n]) i=bRegs l i++[bMove n (11+((i+l.length:Nat):Int))]
 | [],i=>by simp[bRegs]
 | x::r,i=>by
  rw[Y9,bRegs,bRegs,Zjv n r (i+1),Y9,Yk];have:i+1+r.length=i+(r.length+1):=by omega
  rw[this]
theorem Zhu:∀(l:List Int)(i:Nat),(bRegs l i).length=l.length
 | [],i=>rfl
 | x::r,i=>by rw[bRegs,Yk,Zhu r,Yk]
theorem Zmg (fr:Int)(a:Bool):(bBack fr a).length<=6:=by
 unfold bBack
 cases a <;> simp
abbrev Z3x (h:CH) (op n:Int) (nm:ByteArray) (regs:List Int):List S.Item :=
 if op=1 then [bStore h.fr 11 (1+n)] else if op=2 then [bI 25 0 11 12 n] else if op=5 then bRegs regs 0++bBack h.fr h.r.behind
 else if op=7 then [bI 35 0 11 0 0] else if op=8 then [bI 36 0 11 0 0] else if op=9 then [bMove n 11]
 else if op=10 then [bPop h.fr,bJ 0 nm] else if op=11 then [bPop h.fr,bI 33 0 11 0 0] else []
theorem Z1d {h:CH}{s:BS}{l:Int}{b:BE}(a:s.op=4)(c:s.exprs=[b]) :
 bS h s l=([bL (bLab (l+1))]++bExpr h.fr h.r.locals b 0++[bU 11 (bLab (l+2))]++(bSs h s.body (l+2)).1++[bJ 0 (bLab (l+1)),bL (bLab (l+2))],(bSs h s.body (l+2)).2):=by
 obtain⟨op,n,nm,exprs,regs,body,els⟩:=s;change op=4 at a;change exprs=[b] at c;subst a c
 show bStmt _ _ _ _ _=_
 rw[bStmt,if_pos rfl,bTest];rfl
theorem Z3y {h:CH}{s:BS}{l:Int}(a:s.op=3) :
 bS h s l=(bExprs h.fr h.r.locals s.exprs 0++([bU 11 (bLab (l+1))]++(bSs h s.body (l+2)).1++[bJ 0 (bLab (l+2)),bL (bLab (l+1))]++(bSs h s.els (bSs h s.body (l+2)).2).1++[bL (bLab (l+2))]),(bSs h s.els (bSs h s.body (l+2)).2).2):=by
 obtain⟨op,n,nm,exprs,regs,body,els⟩:=s;change op=3 at a;subst a
 show bStmt _ _ _ _ _=_
 rw[bStmt,if_neg (by decide),if_pos rfl];simp only[Yp];rfl
theorem Zti {h:CH}{s:BS}{l:Int}(a:s.op≠3)(b:s.op≠4):bS h s l=(bExprs h.fr h.r.locals s.exprs 0++Z3x h s.op s.n s.name s.regs,l):=by
 obtain⟨op,n,nm,exprs,regs,body,els⟩:=s;change op≠3 at a;change op≠4 at b
 show bStmt _ _ _ _ _=_
 rw[bStmt,if_neg b,if_neg a];rfl
theorem Zq9 {L:Int}{s:BS}{d:Nat}(h:chkS L s d=0):(1<=s.op/\s.op<=11)/\(s.op=1->0<=s.n/\s.n<L)/\s.exprs.length=exprsS s.op s.regs.length/\formedEs L s.exprs=true/\chkSs L s.body (d+1)=0/\chkSs L s.els (d+1)=0:=by
 rw[Ztj] at h;by_cases c1:(!(shapedS L s.op s.n s.name s.exprs.length s.regs s.body.length s.els.length && formedEs L s.exprs))=true
 .rw[if_pos c1] at h;cases h
 .rw[if_neg c1] at h
  by_cases c2:200<=d\/14<needEs s.exprs 0
  .rw[if_pos c2] at h;cases h
  .rw[if_neg c2] at h
   by_cases c3:chkSs L s.body (d+1)≠0
   .rw[if_pos c3] at h;exact absurd h c3
   .rw[if_neg c3] at h
    simp only[Bool.not_eq_true,Bool.not_eq_false',Yq] at c1;obtain⟨b,hf⟩:=c1;unfold shapedS at b;simp only[Yq,decide_eq_true_eq] at b;obtain⟨⟨⟨⟨⟨⟨⟨⟨c,_⟩,_⟩,_⟩,_⟩,a⟩,f⟩,_⟩,_⟩:=b;refine⟨c,λ e=>?_,f,hf,by simpa using c3,h⟩;rw[e] at a;unfold numS at a;rw[if_pos rfl] at a;exact of_decide_eq_true a
theorem Z3z {base p:Nat}{h:CH}(hO:HOk h)(u:3<=base):∀n,n<=1000000->Stm base p h n:=by
 intro n
 induction n with
 | zero=>intro _ s Y A2 A3 A4 c1 c2 c3 c4 d xs lab w hs;have:=Ziq s;omega
 | succ n ih =>
  intro hn s Y A2 A3 A4 c1 c2 c3 c4 d xs lab w hs b7 H d9 hp hL h0 h1 hl;obtain⟨⟨r1,r2⟩,g,q,X,a7,d5⟩:=Zq9 b7;have a5:=Ziq s;have a8:=ih (by omega);have U:Below w.heap.size w (w.alloc (.cells #[.int .i64 s.op,.int .i64 s.n,.string s.name,.slice Y s.exprs.length c1,.slice A2 s.regs.length c2,.slice A3 s.body.length c3,.slice A4 s.els.length c4] 123)):=(Below.refl _ _).alloc (Yc _) _;have e2:=heap_alloc_new w (.cells #[.int .i64 s.op,.int .i64 s.n,.string s.name,.slice Y s.exprs.length c1,.slice A2 s.regs.length c2,.slice A3 s.body.length c3,.slice A4 s.els.length c4] 123);have D:=Ya (CK.of U d9);have H2:=Ya (H.keep U);have HL:=Ya (hL.on U);have m:=Ya e2;have a0:=hp.below (U.mono d9);have L:=Yz d9 U.size;clear H hL U e2;by_cases f:s.op=4
  .have hex1:∃e0,s.exprs=[e0]:=by
    rw[f] at q
    match hm:s.exprs,q with
    | [e0],_=>exact⟨e0,rfl⟩
   obtain⟨e0,a9⟩:=hex1;have Q:=Z1d (h:=h) (l:=lab) f a9;rw[a9] at X a5;rw[formedEs,Yq] at X;have f2:Zhe s.body<=n:=by rw[Zem,Zem] at a5;omega
   have a6:szE e0<=1000000:=by rw[Zem,Zem] at a5;omega
   have O:=congrArg Prod.fst Q;have a2:=congrArg Prod.snd Q;simp only at O a2;rw[Q] at hl h1;have v:=Ya (λ(W:World) (H2:CAt base p h xs lab W) (L:base<=W.heap.size) (a0:SPart W base s Y A2 A3 A4) (HL:LVE W)=>Z31 hO a8 u s e0 a9 X.1 a6 Y A2 A3 A4 c1 c2 c3 c4 (d+1) xs lab W f2 a7 (by omega) H2 L a0 HL h0 _ O (by rw[O];exact hl) (by rw[O];exact h1));rw[<- a2] at v;have g0:((bS h s lab).1,(bS h s lab).2)=bS h s lab:=rfl;have a1:=v.out _ H2.out L a0 HL.out;have g8:=Ya a1;clear v a1 Q O a2 g0 hl h1 X f2 a6 a5 q hs b7 g a7 d5 a8 ih;generalize bS h s lab=R at *;generalize s.op=op at *;subst f;generalize s.n=en at *;generalize s.name=nm at *;generalize s.exprs.length=N1 at *;generalize s.regs.length=P at *;generalize s.body.length=N3 at *;generalize s.els.length=N4 at *;clear a0 a9 hp;go_enter func182,ntmps182
   go_upto_region 1 with fail
   generalize w.alloc (.cells #[.int .i64 4,.int .i64 en,.string nm,.slice Y N1 c1,.slice A2 P c2,.slice A3 N3 c3,.slice A4 N4 c4] 123)=w2 at *;have k0:w2.cell? ⟨w.heap.size,0,none⟩=some (.int .i64 4):=by rw[Yb m.out];rfl
   have k1:w2.cell? ⟨w.heap.size,1,none⟩=some (.int .i64 en):=by rw[Yb m.out];rfl
   have k2:w2.cell? ⟨w.heap.size,2,none⟩=some (.string nm):=by rw[Yb m.out];rfl
   have k3:w2.cell? ⟨w.heap.size,3,none⟩=some (.slice Y N1 c1):=by rw[Yb m.out];rfl
   have k4:w2.cell? ⟨w.heap.size,4,none⟩=some (.slice A2 P c2):=by rw[Yb m.out];rfl
   have k5:w2.cell? ⟨w.heap.size,5,none⟩=some (.slice A3 N3 c3):=by rw[Yb m.out];rfl
   have k6:w2.cell? ⟨w.heap.size,6,none⟩=some (.slice A4 N4 c4):=by rw[Yb m.out];rfl
   go_wp2_with fail
   refine g8.out.mono ?_;rintro e w3 ⟨rfl,g1,g2⟩;go_wp2_with fail
   go_end0
   exact⟨rfl,g1,D.out.trans g2⟩
  .have hzE:Zem s.exprs<=n:=by omega
   have g5:Zhe s.body<=n:=by omega
   have f6:Zhe s.els<=n:=by omega
   have e7:=Zeb s.exprs;obtain⟨tail,V⟩:∃tail,bS h s lab=(bExprs h.fr h.r.locals s.exprs 0++tail,(bS h s lab).2):=by
    by_cases I:s.op=3
    .exact⟨_,by rw[Z3y I]⟩
    .exact⟨_,by rw[Zti I f]⟩
   have c:=Ya (λ I:s.op=3=>(show tail=[bU 11 (bLab (lab+1))]++(bSs h s.body (lab+2)).1++[bJ 0 (bLab (lab+2)),bL (bLab (lab+1))]++(bSs h s.els (bSs h s.body (lab+2)).2).1++[bL (bLab (lab+2))]/\(bS h s lab).2=(bSs h s.els (bSs h s.body (lab+2)).2).2 from by
    have t:=Z3y (h:=h) (l:=lab) I;rw[t] at V;refine⟨(List.append_cancel_left (congrArg Prod.fst V)).symm,by rw[t]⟩))
   have a:=Ya (λ I:s.op≠3=>(show tail=Z3x h s.op s.n s.name s.regs/\(bS h s lab).2=lab from by
    have t:=Zti (h:=h) (l:=lab) I f;rw[t] at V;refine⟨(List.append_cancel_left (congrArg Prod.fst V)).symm,by rw[t]⟩))
   rw[V] at hl h1⊢;simp only[Yd] at hl h1;generalize (bS h s lab).2=lab2 at *;have j:=Ya (λ(W:World) (g6:SPart W base s Y A2 A3 A4) (ys:List S.Item) (h6:ys=[bU 11 (bLab (lab+1))]++(bSs h s.body (lab+2)).1++[bJ 0 (bLab (lab+2)),bL (bLab (lab+1))]++(bSs h s.els (bSs h s.body (lab+2)).2).1++[bL (bLab (lab+2))]) (zs:List S.Item) (hc:CAt base p h zs lab W) (hb:base<=W.heap.size) (i0:LVE W) (hl:zs.length+ys.length+10<=100000000) (h1:lab+ys.length+10<=1000000000) =>
    Zxr a8 u s Y A2 A3 A4 c1 c2 c3 c4 (d+1) zs lab W g5 f6 a7 d5 (by omega) hc hb g6 i0 h0 ys h6 hl h1)
   have HP:=Ya hp;have c6:=Ya X;have HE:=Ya hp.exprs;have HR:=Ya hp.regs;have c8:=Ya (λ e' k (he:s.exprs[k]?=some e')=>(show 0+k+szE e'<=1000000 from by have:=Zoh he;omega));clear V b7 a8 ih X a7 d5 a5 g5 f6 a0 hs hp;obtain⟨E,e3⟩:=Yx s.exprs;obtain⟨N1,d4⟩:∃N,N=E.length:=⟨_,rfl⟩
   obtain⟨G,hG⟩:=Yx s.regs;obtain⟨P,d1⟩:∃N,N=G.length:=⟨_,rfl⟩
   rw[<- e3] at hzE hl h1 HE c8 q e7 m D H2 HL L c6 j⊢;rw[<- hG] at q m D H2 HL L HR a j⊢;rw[<- d4] at q e7 m D H2 HL L j⊢;rw[<- d1] at q m D H2 HL L j⊢;have d8:=Ya d4;have T:=Ya d1;generalize s.op=op at *;generalize s.n=en at *;generalize s.name=nm at *;obtain⟨N3,d0⟩:∃N,N=s.body.length:=⟨_,rfl⟩
   obtain⟨N4,c9⟩:∃N,N=s.els.length:=⟨_,rfl⟩
   rw[<- d0,<- c9] at m D H2 HL L j;rw[<- d0,<- c9];have i:=Ya q;clear e3 hG d4 d1 d0 c9 q;have e5:=Ya (λ k=>Zhy h.fr h.r.locals E 0 k);go_enter func182,ntmps182
   go_upto_region 1 with fail
   generalize w.alloc (.cells #[.int .i64 op,.int .i64 en,.string nm,.slice Y N1 c1,.slice A2 P c2,.slice A3 N3 c3,.slice A4 N4 c4] 123)=w2 at *;have k0:w2.cell? ⟨w.heap.size,0,none⟩=some (.int .i64 op):=by rw[Yb m.out];rfl
   have k3:w2.cell? ⟨w.heap.size,3,none⟩=some (.slice Y N1 c1):=by rw[Yb m.out];rfl
   have C:(op==4)=false:=by simp[f]
   go_wp2_with fail
   go_loopw [19] (λ c5 wr=>∃k:Nat,k<=N1/\c5=.int .i64 k/\Hid (CAt base p h (xs++bExprs h.fr h.r.locals (E.take k) 0) lab wr)/\Hid (CK base w2 wr)) (λ c5 _=>N1-(intOf c5).toNat)
   case atStart=>exact⟨0,by omega,rfl,Ya (by simpa[bExprs] using H2.out),Ya (CK.refl _ _)⟩
   case round =>
    obtain⟨k,hk,rfl,Z,HK⟩:=hrel;obtain⟨M,g7⟩:=Yx wr;subst g7;have z:base<=M.heap.size:=by have:=HK.out.size;omega
    by_cases d7:k<N1
    .obtain⟨t,he1⟩:∃t,E[k]?=some t:=⟨_,Ye (by rw[<- d8.out];exact d7)⟩
     obtain⟨b,off,A',c',rfl,h5,q0,q1,q2,i5,q4,q5,q6⟩:=(HE.out.below (D.out.trans HK.out).below).at_ he1;have b3:=List.mem_of_getElem? he1;have a6:=c8.out t k he1;have f4:(E.take k).length=k:=by have:=d8.out;rw[Yaa];omega
     have d2:bExprs h.fr h.r.locals (E.take (k+1)) 0=bExprs h.fr h.r.locals (E.take k) 0++bExpr h.fr h.r.locals t k:=by rw[Zdf E he1,Ze1,f4,Y2]
     have b2:=e5.out (k+1);rw[d2,Yd] at b2;have h9:b<M.heap.size:=by omega
     have a4:Below M.heap.size M (M.alloc (.cells #[.int .i64 t.op,.int .i64 t.n,.string t.name,.slice A' t.kids.length c'] 149)):=(Below.refl _ _).alloc (Yc _) _;have b4:=Z0a hO (szE t) t A' c' k (xs++bExprs h.fr h.r.locals (E.take k) 0) lab (M.alloc (.cells #[.int .i64 t.op,.int .i64 t.n,.string t.name,.slice A' t.kids.length c'] 149)) (Yc _) (Zdw _ c6.out t b3) (by omega) (Z.out.keep a4) (Yz z a4.size) (q6.below (a4.mono z)) q4 (by rw[Yd];omega);have c7:=Ya d2;have g9:=Ya (CK.of a4 z);clear d2 b2 a4 f4;generalize bExpr h.fr h.r.locals t k=zs at *;generalize t.op=op' at *;generalize t.n=en' at *;generalize t.name=nm' at *;generalize t.kids.length=N' at *;have f8:=Ya b4;clear b4 q4 q5 q6 he1 b3 a6;go_wp2_with fail
     refine f8.out.mono ?_;rintro e B ⟨rfl,g3,g4⟩;go_wp2_with fail
     go_roundw
     case rel=>exact⟨k+1,by omega,by go_num,Ya (by rw[c7.out,<- Yp];exact g3),Ya (HK.out.trans (g9.out.trans g4))⟩
     case measure=>simp[intOf];omega
    .have hkN:N1=k:=by omega
     subst hkN;have o:=Ya (HK.out.keep w.heap.size _ _ _ m.out (by decide) (by decide));have ht:E.take N1=E:=by rw[d8.out,Yap]
     rw[ht] at Z;have h2:=Ya (HL.out.keep HK.out.below u);have y:=Ya (HP.out.below (D.out.trans HK.out).below);have h7:=Ya (HR.out.below (D.out.trans HK.out).below);clear ht k0 k3 HL HP HR HE c8 e5 c6 H2;have c0:M.cell? ⟨w.heap.size,0,none⟩=some (.int .i64 op):=by rw[Yb o.out];rfl
     have e4:M.cell? ⟨w.heap.size,1,none⟩=some (.int .i64 en):=by rw[Yb o.out];rfl
     have f1:M.cell? ⟨w.heap.size,2,none⟩=some (.string nm):=by rw[Yb o.out];rfl
     have f9:M.cell? ⟨w.heap.size,3,none⟩=some (.slice Y N1 c1):=by rw[Yb o.out];rfl
     have e6:M.cell? ⟨w.heap.size,4,none⟩=some (.slice A2 P c2):=by rw[Yb o.out];rfl
     have f5:M.cell? ⟨w.heap.size,5,none⟩=some (.slice A3 N3 c3):=by rw[Yb o.out];rfl
     have e9:M.cell? ⟨w.heap.size,6,none⟩=some (.slice A4 N4 c4):=by rw[Yb o.out];rfl
     have A:(xs++bExprs h.fr h.r.locals E 0).length=xs.length+(bExprs h.fr h.r.locals E 0).length:=Yd;generalize bExprs h.fr h.r.locals E 0=ks at *;have F:=Ya (D.out.trans HK.out);have i4:=Ya hO;rcases(show op=1\/op=2\/op=3\/op=5\/op=6\/op=7\/op=8\/op=9\/op=10\/op=11 by omega) with rfl|rfl|rfl|rfl|rfl|rfl|rfl|rfl|rfl|rfl
     .obtain⟨t1,t2⟩:=a.out (by decide)
      subst t2;have K:=Ya (show tail=[bStore h.fr 11 (1+en)] from t1);clear t1 a c j y i C f;have i1:=Ya (Zoj en (by have:=g rfl;have:=hO.l1;omega) M);have v:=Ya (Ztp Z.out z (by rw[A];omega) hO 11 (1+en) (by have:=g rfl;have:=hO.l1;omega));clear g;go_wp2_with fail
      refine i1.out.mono ?_;rintro e w3 ⟨rfl,rfl⟩;go_wp2_with fail
      refine v.out.mono ?_;rintro e B ⟨rfl,u,J⟩;go_wp2_with fail
      go_end0
      refine⟨rfl,?_,F.out.trans J⟩
      show CAt base p h (xs++(ks++tail)) _ B
      rw[K.out]
      simpa only[Yp,Y9,Yae] using u
     .obtain⟨t1,t2⟩:=a.out (by decide)
      subst t2;have K:=Ya (show tail=[bI 25 0 11 12 en] from t1);clear t1 a c j y i C f;have v:=Ya (Za9 Z.out z (by rw[A];omega) 25 0 11 12 en);clear g;go_wp2_with fail
      refine v.out.mono ?_;rintro e B ⟨rfl,u,J⟩;go_wp2_with fail
      go_end0
      refine⟨rfl,?_,F.out.trans J⟩
      show CAt base p h (xs++(ks++tail)) _ B
      rw[K.out]
      simpa only[Yp,Y9,Yae] using u
     .obtain⟨t1,t2⟩:=c.out rfl
      have v:=Ya (j.out M y.out tail t1 (xs++ks) Z.out z h2.out (by rw[A];omega) (by omega));rw[<- t2] at v;clear t1 t2 a c j y i C f g;go_wp2_with fail
      refine v.out.mono ?_;rintro e B ⟨rfl,u,J⟩;go_wp2_with fail
      go_end0
      refine⟨rfl,?_,F.out.trans J⟩
      show CAt base p h (xs++(ks++tail)) _ B
      rw[<- Yp];exact u
     .obtain⟨t1,t2⟩:=a.out (by decide)
      subst t2;have K:=Ya (show tail=bRegs G 0++bBack h.fr h.r.behind from t1);have i2:P<=1000000:=by
       have t:N1=P:=by rw[i.out];rfl
       omega
      have f3:tail.length=P+(bBack h.fr h.r.behind).length:=by rw[K.out,Yd,Zhu,T.out]
      rw[f3] at hl;clear f3;clear t1 a c j y i C f;have f0:∀k,k<=P->(bRegs (G.take k) 0).length=k:=λ k hk=>by rw[Zhu,Yaa];have:=T.out;omega
      have h8:=Ya f0;clear g f0;go_wp2_with fail
      go_loopw [57] (λ b6 wr=>∃k:Nat,k<=P/\b6=.int .i64 k/\Hid (CAt base p h (xs++ks++bRegs (G.take k) 0) lab2 wr)/\Hid (CK base M wr)) (λ b6 _=>P-(intOf b6).toNat)
      case atStart=>exact⟨0,by omega,rfl,Ya (by simpa[bRegs] using Z.out),Ya (CK.refl _ _)⟩
      case round =>
       obtain⟨k,hk,rfl,d6,b0⟩:=hrel;obtain⟨f7,e8⟩:=Yx wr;subst e8;have b1:base<=f7.heap.size:=by have:=b0.out.size;omega
       have a3:(xs++ks++bRegs (G.take k) 0).length=xs.length+ks.length+k:=by rw[Yd,A,h8.out k hk]
       by_cases d7:k<P
       .obtain⟨b,off,rfl,h5,a1⟩:=(h7.out.below b0.out.below).two (by rw[<- T.out];omega)
        obtain⟨x,hx⟩:∃x,G[k]?=some x:=⟨_,Ye (by rw[<- T.out];exact d7)⟩
        have i3:=a1 k x hx;have h9:b<f7.heap.size:=by omega
        have c7:=Ya (show bRegs (G.take (k+1)) 0=bRegs (G.take k) 0++[bMove x (11+(k:Int))] from by
         rw[Zdf G hx,Zjv,Y2];have:(G.take k).length=k:=by rw[Yaa];have:=T.out;omega
         rw[this])
        have v:=Ya (Zmi d6.out b1 (by rw[a3];omega) x (11+(k:Int)));clear hx a1 a3;go_wp2_with fail
        refine v.out.mono ?_;rintro e B ⟨rfl,u,J⟩;go_wp2_with fail
        go_roundw
        case rel=>exact⟨k+1,by omega,by go_num,Ya (by rw[c7.out,<- Yp];exact u),Ya (b0.out.trans J)⟩
        case measure=>simp[intOf];omega
       .have hkN:P=k:=by omega
        subst hkN;have ht:G.take P=G:=by rw[T.out,Yap]
        rw[ht] at d6 a3;have Q:=Zmg h.fr h.r.behind;have v:=Ya (Zz9 d6.out b1 (by rw[a3];omega) hO);clear ht a3 Q;go_wp2_with fail
        refine v.out.mono ?_;rintro e B ⟨rfl,u,J⟩;go_wp2_with fail
        go_end0
        refine⟨rfl,?_,F.out.trans (b0.out.trans J)⟩
        show CAt base p h (xs++(ks++tail)) _ B
        rw[K.out]
        simpa only[Yp,Y9,Yae] using u
     .obtain⟨t1,t2⟩:=a.out (by decide)
      subst t2;have K:=Ya (show tail=[] from t1);clear t1 a c j y i C f;clear g;have u:=Z.out;go_wp2_with fail
      go_end0
      refine⟨rfl,?_,F.out⟩
      show CAt base p h (xs++(ks++tail)) _ M
      rw[K.out,List.append_nil];exact u
     .obtain⟨t1,t2⟩:=a.out (by decide)
      subst t2;have K:=Ya (show tail=[bI 35 0 11 0 0] from t1);clear t1 a c j y i C f;have v:=Ya (Za9 Z.out z (by rw[A];omega) 35 0 11 0 0);clear g;go_wp2_with fail
      refine v.out.mono ?_;rintro e B ⟨rfl,u,J⟩;go_wp2_with fail
      go_end0
      refine⟨rfl,?_,F.out.trans J⟩
      show CAt base p h (xs++(ks++tail)) _ B
      rw[K.out]
      simpa only[Yp,Y9,Yae] using u
     .obtain⟨t1,t2⟩:=a.out (by decide)
      subst t2;have K:=Ya (show tail=[bI 36 0 11 0 0] from t1);clear t1 a c j y i C f;have v:=Ya (Za9 Z.out z (by rw[A];omega) 36 0 11 0 0);clear g;go_wp2_with fail
      refine v.out.mono ?_;rintro e B ⟨rfl,u,J⟩;go_wp2_with fail
      go_end0
      refine⟨rfl,?_,F.out.trans J⟩
      show CAt base p h (xs++(ks++tail)) _ B
      rw[K.out]
      simpa only[Yp,Y9,Yae] using u
     .obtain⟨t1,t2⟩:=a.out (by decide)
      subst t2;have K:=Ya (show tail=[bMove en 11] from t1);clear t1 a c j y i C f;have v:=Ya (Zmi Z.out z (by rw[A];omega) en 11);clear g;go_wp2_with fail
      refine v.out.mono ?_;rintro e B ⟨rfl,u,J⟩;go_wp2_with fail
      go_end0
      refine⟨rfl,?_,F.out.trans J⟩
      show CAt base p h (xs++(ks++tail)) _ B
      rw[K.out]
      simpa only[Yp,Y9,Yae] using u
     .obtain⟨t1,t2⟩:=a.out (by decide)
      subst t2;have K:=Ya (show tail=[bPop h.fr,bJ 0 nm] from t1);clear t1 a c j y i C f;have v:=Ya (Z1j Z.out z (by rw[A];omega) hO);clear g;go_wp2_with fail
      refine v.out.mono ?_;rintro e B ⟨rfl,g3,g4⟩;have b8:base<=B.heap.size:=by have:=g4.size;omega
      have b5:(xs++ks++[bPop h.fr]).length<=100000000:=by rw[Yd,A];show _+1<=_;omega
      have b9:=Ya (g4.keep _ _ _ _ o.out (by decide) (by decide));have k2:B.cell? ⟨w.heap.size,2,none⟩=some (.string nm):=by rw[Yb b9.out];rfl
      have d3:=Ya (Zpv g3 b8 b5 0 nm);clear c0 e4 f1 f9 e6 f5 e9;go_wp2_with fail
      refine d3.out.mono ?_;rintro e w5 ⟨rfl,u,J⟩;go_wp2_with fail
      go_end0
      refine⟨rfl,?_,F.out.trans (g4.trans J)⟩
      show CAt base p h (xs++(ks++tail)) _ w5
      rw[K.out]
      simpa only[Yp,Y9,Yae] using u
     .obtain⟨t1,t2⟩:=a.out (by decide)
      subst t2;have K:=Ya (show tail=[bPop h.fr,bI 33 0 11 0 0] from t1);clear t1 a c j y i C f;have v:=Ya (Z1j Z.out z (by rw[A];omega) hO);clear g;go_wp2_with fail
      refine v.out.mono ?_;rintro e B ⟨rfl,g3,g4⟩;have b8:base<=B.heap.size:=by have:=g4.size;omega
      have b5:(xs++ks++[bPop h.fr]).length<=100000000:=by rw[Yd,A];show _+1<=_;omega
      have b9:=Ya (g4.keep _ _ _ _ o.out (by decide) (by decide));have k2:B.cell? ⟨w.heap.size,2,none⟩=some (.string nm):=by rw[Yb b9.out];rfl
      have d3:=Ya (Za9 g3 b8 b5 33 0 11 0 0);clear c0 e4 f1 f9 e6 f5 e9;go_wp2_with fail
      refine d3.out.mono ?_;rintro e w5 ⟨rfl,u,J⟩;go_wp2_with fail
      go_end0
      refine⟨rfl,?_,F.out.trans (g4.trans J)⟩
      show CAt base p h (xs++(ks++tail)) _ w5
      rw[K.out]
      simpa only[Yp,Y9,Yae] using u
theorem Ze0:∀k,(bParams k).length=k
 | 0=>rfl
 | k+1=>by rw[bParams,Yd,Ze0 k];rfl
def BPost (r:BR)(w:World)(e:Ending)(w':World):Prop :=
 ∃A c,e=.returned (.tuple #[.agg #[.string r.name,.slice A (bItems r).length c],.int .i64 0])/\w'.ownsRow w.heap.size 79 8 (.slice A (bItems r).length c) (bItems r).length ((bItems r).flatMap Zb)/\Below w.heap.size w w'
theorem BPost.mk' {r:BR}{w w':World}{A:Option Addr}{c:Nat}{T:List S.Item}(a:T=bItems r)(h:w'.ownsRow w.heap.size 79 8 (.slice A T.length c) T.length (T.flatMap Zb))(b:Below w.heap.size w w'):BPost r w (.returned (.tuple #[.agg #[.string r.name,.slice A T.length c],.int .i64 0])) w':=by
 subst a;exact⟨A,c,rfl,h,b⟩
theorem Z1e (r:BR)(A:Option Addr)(c:Nat)(w:World)(hR:RAt2 w w.heap.size r A)(h0:chkB r=0)(hsz:Zhe r.body<=1000000)(hL:LVE w)(hl:(bItems r).length+20<=100000000) :
 Calls prog 130 #[Zxf r A c] w (BPost r w):=by
 have x:=Ya (λ(W:World) (hb:Below w.heap.size w W)=>Zoc r A c W ((hR.below hb).more hb.size));have q:=Ya (λ(W:World) (hb:Below w.heap.size w W)=>Z1g r A c W ((hR.below hb).more hb.size));rw[h0] at x;obtain⟨nm,P,L,d,body⟩:=r;unfold Zxf at x q⊢;simp only at x q hsz⊢;obtain⟨N,hN⟩:=Yx body.length;rw[<- hN] at x q⊢;have HN:=Ya hN;obtain⟨t1,t2,t3,t4⟩:=Zec w (.cells #[.string nm,.int .i64 P,.int .i64 L,.bool d,.slice A N c] 169) (.cells #[.string ⟨#[]⟩,.slice none 0 0] 82);have Q:=Ya t3;have n:=Ya t1;have b6:=Ya t2;have c3:w.heap.size+2<=((w.alloc (.cells #[.string nm,.int .i64 P,.int .i64 L,.bool d,.slice A N c] 169)).alloc (.cells #[.string ⟨#[]⟩,.slice none 0 0] 82)).heap.size:=Nat.le_of_eq t4.symm;clear hN t1 t2 t3 t4;go_enter func130,ntmps130
 go_upto_region 1 with fail
 generalize (w.alloc (.cells #[.string nm,.int .i64 P,.int .i64 L,.bool d,.slice A N c] 169)).alloc (.cells #[.string ⟨#[]⟩,.slice none 0 0] 82)=w2 at *;have k0:w2.cell? ⟨w.heap.size,0,none⟩=some (.string nm):=by rw[Yb n.out];rfl
 have R:w2.cell? ⟨w.heap.size,1,none⟩=some (.int .i64 P):=by rw[Yb n.out];rfl
 have k2:w2.cell? ⟨w.heap.size,2,none⟩=some (.int .i64 L):=by rw[Yb n.out];rfl
 have k3:w2.cell? ⟨w.heap.size,3,none⟩=some (.bool d):=by rw[Yb n.out];rfl
 have Z:w2.cell? ⟨w.heap.size,4,none⟩=some (.slice A N c):=by rw[Yb n.out];rfl
 go_wp2_with fail
 refine(x.out w2 Q.out).mono ?_;rintro e f ⟨rfl,J⟩;have m:=Ya ((J.block _ (by omega)).trans n.out);have c4:=Ya ((J.block _ (by omega)).trans b6.out);have d8:w.heap.size+2<=f.heap.size:=Yz c3 J.size;have u:=Ya (Q.out.trans (J.mono Q.out.size));clear k0 R k2 k3 Z J n Q b6 c3;have k0:f.cell? ⟨w.heap.size,0,none⟩=some (.string nm):=by rw[Yb m.out];rfl
 have R:f.cell? ⟨w.heap.size,1,none⟩=some (.int .i64 P):=by rw[Yb m.out];rfl
 have k2:f.cell? ⟨w.heap.size,2,none⟩=some (.int .i64 L):=by rw[Yb m.out];rfl
 have k3:f.cell? ⟨w.heap.size,3,none⟩=some (.bool d):=by rw[Yb m.out];rfl
 have Z:f.cell? ⟨w.heap.size,4,none⟩=some (.slice A N c):=by rw[Yb m.out];rfl
 go_upto_region 4 with fail
 obtain⟨fr,E⟩:=Yx (frameB ⟨nm,P,L,d,body⟩);rw[<- E] at q;have a0:=Ya E;clear E
 go_cut [5] (λ v5 wc=>∃p:Nat,v5=.pointer (some ⟨p,0,none⟩)/\Hid (CAt f.heap.size p ⟨⟨nm,P,L,d,body⟩,A,c,fr⟩ [] 0 wc)/\Hid (Below f.heap.size f wc))
 case first =>
  refine wp_region_any (by kernel_rfl) ?_;change wpAny _ _ _ _ _ _ _ (World.drew f);have j:Below f.heap.size f f.drew:=⟨rfl,rfl,rfl,Yc _,λ _ _=>rfl⟩
  generalize f.drew=w4 at *;have s:=Ya ((j.block _ (by omega)).trans m.out);have k5:=j.size;clear k0 R k2 k3 Z;have k0:w4.cell? ⟨w.heap.size,0,none⟩=some (.string nm):=by rw[Yb s.out];rfl
  have R:w4.cell? ⟨w.heap.size,1,none⟩=some (.int .i64 P):=by rw[Yb s.out];rfl
  have k2:w4.cell? ⟨w.heap.size,2,none⟩=some (.int .i64 L):=by rw[Yb s.out];rfl
  have k3:w4.cell? ⟨w.heap.size,3,none⟩=some (.bool d):=by rw[Yb s.out];rfl
  have Z:w4.cell? ⟨w.heap.size,4,none⟩=some (.slice A N c):=by rw[Yb s.out];rfl
  have a8:=Ya (q.out w4 (u.out.trans (j.mono u.out.size)));refine wpAny_ready (rs:=[0,1]) (by kernel_rfl) (by simp) ?_;refine Yf rfl (λ K b=>?_) (Yf rfl (λ K b=>?_) Yi)
  .go_simp
   refine b _ _ ?_;clear b K
   (refine wpAny_ready (rs:=[1]) (by kernel_rfl) (by simp) ?_;refine Yf rfl (λ K b=>?_) Yi;go_simp;refine b _ _ ?_;clear b K)
   refine wpAny_ready (rs:=[2]) (by kernel_rfl) (by simp) ?_;refine Yf rfl (λ K b=>?_) Yi;go_simp
   refine a8.out.mono ?_;rintro e i ⟨rfl,l⟩;go_simp
   refine b _ _ ?_;clear b K
   (refine wpAny_ready (rs:=[3]) (by kernel_rfl) (by simp) ?_;refine Yf rfl (λ K b=>?_) Yi;go_simp;refine b _ _ ?_;clear b K)
   (refine wpAny_ready (rs:=[4]) (by kernel_rfl) (by simp) ?_;refine Yf rfl (λ K b=>?_) Yi;go_simp;refine b _ _ ?_;clear b K)
   (refine wpAny_ready (rs:=[5]) (by kernel_rfl) (by simp) ?_;refine Yf rfl (λ K b=>?_) Yi;go_simp;refine b _ _ ?_;clear b K)
   refine wpAny_done (by kernel_rfl) ?_ _;go_wp2_with fail
   go_meet
   have g:Below f.heap.size f i:=j.trans (l.mono j.size);have I:CAt f.heap.size i.heap.size ⟨⟨nm,P,L,d,body⟩,A,c,fr⟩ [] 0 (i.alloc (.cells #[.string nm,.int .i64 P,.int .i64 L,.bool d,.slice A N c,.int .i64 fr,.slice none 0 0,.int .i64 0] 214)):=by
    refine⟨g.size,.slice none 0 0,?_,rfl,Or.inl ⟨rfl,rfl⟩⟩;rw[heap_alloc_new];unfold Zgq;simp only[<- HN.out]
   exact⟨i.heap.size,rfl,Ya I,Ya (g.alloc g.size _)⟩
  .go_simp
   refine b _ _ ?_;clear b K;refine wpAny_ready (rs:=[0,2]) (by kernel_rfl) (by simp) ?_;refine Yf rfl (λ K b=>?_) (Yf rfl (λ K b=>?_) Yi)
   .go_simp
    refine b _ _ ?_;clear b K;refine wpAny_ready (rs:=[2]) (by kernel_rfl) (by simp) ?_;refine Yf rfl (λ K b=>?_) Yi;go_simp
    refine a8.out.mono ?_;rintro e i ⟨rfl,l⟩;go_simp
    refine b _ _ ?_;clear b K
    (refine wpAny_ready (rs:=[3]) (by kernel_rfl) (by simp) ?_;refine Yf rfl (λ K b=>?_) Yi;go_simp;refine b _ _ ?_;clear b K)
    (refine wpAny_ready (rs:=[4]) (by kernel_rfl) (by simp) ?_;refine Yf rfl (λ K b=>?_) Yi;go_simp;refine b _ _ ?_;clear b K)
    (refine wpAny_ready (rs:=[5]) (by kernel_rfl) (by simp) ?_;refine Yf rfl (λ K b=>?_) Yi;go_simp;refine b _ _ ?_;clear b K)
    refine wpAny_done (by kernel_rfl) ?_ _;go_wp2_with fail
    go_meet
    have g:Below f.heap.size f i:=j.trans (l.mono j.size);have I:CAt f.heap.size i.heap.size ⟨⟨nm,P,L,d,body⟩,A,c,fr⟩ [] 0 (i.alloc (.cells #[.string nm,.int .i64 P,.int .i64 L,.bool d,.slice A N c,.int .i64 fr,.slice none 0 0,.int .i64 0] 214)):=by
     refine⟨g.size,.slice none 0 0,?_,rfl,Or.inl ⟨rfl,rfl⟩⟩;rw[heap_alloc_new];unfold Zgq;simp only[<- HN.out]
    exact⟨i.heap.size,rfl,Ya I,Ya (g.alloc g.size _)⟩
   .go_simp
    refine a8.out.mono ?_;rintro e i ⟨rfl,l⟩;go_simp
    refine b _ _ ?_;clear b K;have D:=Ya ((l.block _ (by omega)).trans s.out);clear k0 R k2 k3 Z;have k0:i.cell? ⟨w.heap.size,0,none⟩=some (.string nm):=by rw[Yb D.out];rfl
    have R:i.cell? ⟨w.heap.size,1,none⟩=some (.int .i64 P):=by rw[Yb D.out];rfl
    have k2:i.cell? ⟨w.heap.size,2,none⟩=some (.int .i64 L):=by rw[Yb D.out];rfl
    have k3:i.cell? ⟨w.heap.size,3,none⟩=some (.bool d):=by rw[Yb D.out];rfl
    have Z:i.cell? ⟨w.heap.size,4,none⟩=some (.slice A N c):=by rw[Yb D.out];rfl
    (refine wpAny_ready (rs:=[0]) (by kernel_rfl) (by simp) ?_;refine Yf rfl (λ K b=>?_) Yi;go_simp;refine b _ _ ?_;clear b K)
    (refine wpAny_ready (rs:=[3]) (by kernel_rfl) (by simp) ?_;refine Yf rfl (λ K b=>?_) Yi;go_simp;refine b _ _ ?_;clear b K)
    (refine wpAny_ready (rs:=[4]) (by kernel_rfl) (by simp) ?_;refine Yf rfl (λ K b=>?_) Yi;go_simp;refine b _ _ ?_;clear b K)
    (refine wpAny_ready (rs:=[5]) (by kernel_rfl) (by simp) ?_;refine Yf rfl (λ K b=>?_) Yi;go_simp;refine b _ _ ?_;clear b K)
    refine wpAny_done (by kernel_rfl) ?_ _;go_wp2_with fail
    go_meet
    have g:Below f.heap.size f i:=j.trans (l.mono j.size);have I:CAt f.heap.size i.heap.size ⟨⟨nm,P,L,d,body⟩,A,c,fr⟩ [] 0 (i.alloc (.cells #[.string nm,.int .i64 P,.int .i64 L,.bool d,.slice A N c,.int .i64 fr,.slice none 0 0,.int .i64 0] 214)):=by
     refine⟨g.size,.slice none 0 0,?_,rfl,Or.inl ⟨rfl,rfl⟩⟩;rw[heap_alloc_new];unfold Zgq;simp only[<- HN.out]
    exact⟨i.heap.size,rfl,Ya I,Ya (g.alloc g.size _)⟩
 case rest =>
  obtain⟨p,rfl,HC,HB⟩:=hcut;obtain⟨-,p0,p1,p2,p3,c9⟩:=Zhw h0;simp only at p0 p1 p2 p3 c9;have d4:frameB ⟨nm,P,L,d,body⟩=L+15:=by show(if _ then _ else _)=_;rw[if_neg (by simpa using h0)]
  have d0:fr=L+15:=by rw[a0.out,d4]
  have hO:HOk ⟨⟨nm,P,L,d,body⟩,A,c,fr⟩:=⟨by show 0<=fr;omega,by show fr<=1000;omega,by show 0<=L;omega,by show L<=200;omega⟩
  have hT:bItems ⟨nm,P,L,d,body⟩=[bL nm,bI 25 0 28 31 0]++bParams P.toNat++[bI 15 28 28 0 fr]++(bSs ⟨⟨nm,P,L,d,body⟩,A,c,fr⟩ body 0).1++bBack fr d:=by
   show([bL nm,bI 25 0 28 31 0]++bParams P.toNat++[bI 15 28 28 0 (frameB _)])++(bStmts (frameB _) L d body 0).1++bBack (frameB _) d=_
   rw[<- a0.out]
  have d7:(bItems ⟨nm,P,L,d,body⟩).length=2+P.toNat+1+(bSs ⟨⟨nm,P,L,d,body⟩,A,c,fr⟩ body 0).1.length+(bBack fr d).length:=by
   rw[hT];simp only[Yd,Yk,Yad,Ze0]
  have HT:=Ya hT;rw[d7] at hl;have HR:=Ya hR.body;have d5:=Ya (u.out.trans (HB.out.mono u.out.size));have i2:=Ya (hL.on d5.out);have a3:=Ya ((HB.out.block _ (by omega)).trans m.out);have f9:=Ya ((HB.out.block _ (by omega)).trans c4.out);have b9:=HB.out.size;have H:3<=f.heap.size:=Yz hL.size (Yz (by omega) d8);have c0:=Ya ((hR.body.below u.out).more u.out.size);obtain⟨O,g7⟩:=Yx f.heap.size;rw[<- g7] at HC HB b9 H d8 c0;obtain⟨h,hh⟩:∃h:CH,h=⟨⟨nm,P,L,d,body⟩,A,c,fr⟩:=⟨_,rfl⟩
  rw[<- hh] at HC hO hl HT;have Hh:=Ya hh;have k0:wc.cell? ⟨w.heap.size,0,none⟩=some (.string nm):=by rw[Yb a3.out];rfl
  clear d7 hT d4 hh d0 R k2 k3 Z hR hL h0 x q m c4;have e7:=Ya (Zhx HC.out b9 (by simp) nm);go_wp2_with fail
  refine e7.out.mono ?_;rintro e i ⟨rfl,y,o⟩;have l:O<=i.heap.size:=by have:=o.size;omega
  have d2:=Ya (Za9 y l (by simp) 25 0 28 31 0);go_wp2_with fail
  refine d2.out.mono ?_;rintro e w6 ⟨rfl,g3,g4⟩;have j9:O<=w6.heap.size:=by have:=g4.size;omega
  have a4:=Ya (o.trans g4);have b4:=Ya (a4.out.keep _ _ _ _ a3.out (by decide) (by decide));have R:w6.cell? ⟨w.heap.size,1,none⟩=some (.int .i64 P):=by rw[Yb b4.out];rfl
  have d1:=Ya g3;clear y o g3 g4 e7 d2 k0;have c7:=Ya (show h.fr=fr from by rw[Hh.out]);go_wp2_with fail
  go_loopw [29] (λ b1 wr=>∃k:Nat,k<=P.toNat/\b1=.int .i64 k/\Hid (CAt O p h ([bL nm,bI 25 0 28 31 0]++bParams k) 0 wr)/\Hid (CK O w6 wr)) (λ b1 _=>P.toNat-(intOf b1).toNat)
  case atStart=>exact⟨0,by omega,rfl,Ya (by simpa[bParams] using d1.out),Ya (CK.refl _ _)⟩
  case round =>
   obtain⟨k,hk,rfl,X,M⟩:=hrel;obtain⟨wo,f5⟩:=Yx wr;subst f5;have b8:O<=wo.heap.size:=by have:=M.out.size;omega
   have t:([bL nm,bI 25 0 28 31 0]++bParams k).length=2+k:=by simp only[Yd,Yk,Yad,Ze0]
   by_cases k6:k<P.toNat
   .have hkP:(k:Int)<P:=by omega
    have h9:=Ya (Zoj (k:Int) (by omega) wo);have Hc:=Ya (Za9 X.out b8 (by rw[t];omega) 25 0 28 (4+(k:Int)) (1+(k:Int)));clear t;go_wp2_with fail
    refine h9.out.mono ?_;rintro e j5 ⟨rfl,rfl⟩;go_wp2_with fail
    refine Hc.out.mono ?_;rintro e w7 ⟨rfl,y,o⟩;go_wp2_with fail
    go_roundw
    case rel=>exact⟨k+1,by omega,by go_num,Ya (by rw[bParams,<- Yp];exact y),Ya (M.out.trans o)⟩
    case measure=>simp[intOf];omega
   .have hkP:¬(k:Int)<P:=by omega
    have g8:P.toNat=k:=by omega
    have c1:=Ya (M.out.keep _ _ _ _ b4.out (by decide) (by decide));have c5:=X.out.cell_fr;rw[c7.out] at c5;have Hc:=Ya (Za9 X.out b8 (by rw[t];omega) 15 28 28 0 fr);rw[<- g8] at t Hc;clear X R;go_wp2_with fail
    refine Hc.out.mono ?_;rintro e w7 ⟨rfl,y,o⟩;have j7:O<=w7.heap.size:=by have:=o.size;omega
    have b5:=Ya (a4.out.trans (M.out.trans o));have f3:=Ya (o.keep _ _ _ _ c1.out (by decide) (by decide));have Z:w7.cell? ⟨w.heap.size,4,none⟩=some (.slice A N c):=by rw[Yb f3.out];rfl
    have G:([bL nm,bI 25 0 28 31 0]++bParams P.toNat++[bI 15 28 28 0 fr]).length=2+P.toNat+1:=by rw[Yd,t];rfl
    obtain⟨zs,d9⟩:=Yx ([bL nm,bI 25 0 28 31 0]++bParams P.toNat++[bI 15 28 28 0 fr]);rw[<- d9] at y G HT;have h7:=Ya y;have i3:=Ya (i2.out.keep b5.out.below H);have g9:=Ya (c0.out.below (HB.out.trans b5.out.below));have e8:=Ya (b5.out);clear d9 y o t c5 M c1 a4 b4 d1 Hc;have h4:=Zdc body;rw[<- HN.out] at h4;have V:h.r.behind=d:=by rw[Hh.out]
    have j3:=Zmg fr d;have i5:chkSs h.r.locals body 0=0:=by rw[Hh.out];exact c9
    have i0:=Ya (Z3z (p:=p) hO H 1000000 (Yc _));go_wp2_with fail
    go_loopw [50] (λ a7 wr=>∃k:Nat,k<=N/\a7=.int .i64 k/\Hid (CAt O p h (zs++(bSs h (body.take k) 0).1) (bSs h (body.take k) 0).2 wr)/\Hid (CK O w7 wr)) (λ a7 _=>N-(intOf a7).toNat)
    case atStart=>exact⟨0,by omega,rfl,Ya (by simpa[bStmts] using h7.out),Ya (CK.refl _ _)⟩
    case round =>
     obtain⟨k2,j6,rfl,a2,z⟩:=hrel;obtain⟨B,c8⟩:=Yx wr;subst c8;have b3:O<=B.heap.size:=by have:=z.out.size;omega
     by_cases b7:k2<N
     .obtain⟨s1,hs1⟩:∃s1,body[k2]?=some s1:=⟨_,Ye (by rw[<- HN.out];exact b7)⟩
      obtain⟨b',i7,h5,f4,e9,h2,i4,i1,h3,f6,M1,M2,M3,M4,h8,g6,h6,rfl,i9,e0,e1,e2,e3,e4,e5,e6,a1⟩:=Zd8 i0.out H hsz i5 (g9.out.below z.out.below) hs1 a2.out b3 (i3.out.keep z.out.below H) (by omega) (by omega) (by rw[G];omega);have i8:b'<B.heap.size:=by omega
      have b2:Below B.heap.size B (B.alloc (.cells #[.int .i64 h8,.int .i64 g6,.string h6,.slice h5 M1 f4,.slice e9 M2 h2,.slice i4 M3 i1,.slice h3 M4 f6] 123)):=(Below.refl _ _).alloc (Yc _) _;have d6:=Ya (a1 _ b2);have f7:=Ya (CK.of b2 b3);clear a1 b2 hs1 V G;go_wp2_with fail
      refine d6.out.mono ?_;rintro e Y ⟨rfl,y,o⟩;go_wp2_with fail
      go_roundw
      case rel=>exact⟨k2+1,by omega,by go_num,Ya y,Ya (z.out.trans (f7.out.trans o))⟩
      case measure=>simp[intOf];omega
     .have hkN2:N=k2:=by omega
      subst hkN2;have ht:body.take N=body:=by rw[HN.out,Yap]
      rw[ht] at a2;have Hb:=Ya (Zz9 a2.out b3 (by rw[Yd,G];omega) hO);rw[c7.out,V] at Hb;have j2:=Ya V;clear ht V G;go_wp2_with fail
      refine Hb.out.mono ?_;rintro e Y ⟨rfl,y,o⟩;have j8:O<=Y.heap.size:=by have:=o.size;omega
      have a6:=Ya (e8.out.trans (z.out.trans o));have g0:=Ya (a6.out.keep _ _ _ _ a3.out (by decide) (by decide));have F:=Ya (a6.out.keep _ _ _ _ f9.out (by decide) (by decide));have k0:Y.cell? ⟨w.heap.size,0,none⟩=some (.string nm):=by rw[Yb g0.out];rfl
      have j0:Y.cell? ⟨w.heap.size+1,0,none⟩=some (.string ⟨#[]⟩):=by rw[Yb F.out];rfl
      have j1:Y.cell? ⟨w.heap.size+1,1,none⟩=some (.slice none 0 0):=by rw[Yb F.out];rfl
      have f0:Y.frozen? ⟨w.heap.size+1,0,none⟩=false:=Yy F.out 0;have f1:Y.frozen? ⟨w.heap.size+1,1,none⟩=false:=Yy F.out 1;obtain⟨i6,v,a5,C⟩:=y;rw[Yp,<- Yp] at C;have c2:(zs++(bSs h body 0).1)++bBack fr d=bItems ⟨nm,P,L,d,body⟩:=HT.out.symm;have c6:Y.cell? ⟨p,6,none⟩=some v:=by rw[Yb a5];rfl
      obtain⟨A',U,rfl⟩:=Za C;rw[c2] at C c6;have b0:=Ya C;have j4:=Ya a5;have f2:=Ya (d5.out.trans (a6.out.below.mono (by omega)));clear C a5 c2;obtain⟨T,a9⟩:=Yx (bItems ⟨nm,P,L,d,body⟩);rw[<- a9] at b0 c6;have f8:=Ya a9;clear a9;go_upto_region 19 with fail
      go_still_tail 7,(by kernel_rfl)
      go_wp2_with fail
      have d3:(Value.slice A' T.length U).ownBlock≠some (w.heap.size+1):=Zaq b0.out F.out (by decide)
      (try simp only[Exit.inBlock,Exit.then])
      refine bodyPost_ret (v:=.tuple #[.agg #[.string nm,.slice A' T.length U],.int .i64 0]) (by rw[results_cell_tmp rfl];go_simp) rfl ?_;have h1:Below w.heap.size w ((Y.setCell ⟨w.heap.size+1,0,none⟩ (.string nm)).setCell ⟨w.heap.size+1,1,none⟩ (.slice A' T.length U)).drew:=((f2.out.setCell (p:=⟨w.heap.size+1,0,none⟩) (by show w.heap.size<=w.heap.size+1;omega) _).setCell (p:=⟨w.heap.size+1,1,none⟩) (by show w.heap.size<=w.heap.size+1;omega) _).trans ⟨rfl,rfl,rfl,Yc _,λ _ _=>rfl⟩;refine BPost.mk' f8.out ?_ h1;have g5:=ownsRow_setCell_other (a:=⟨w.heap.size+1,1,none⟩) (ownsRow_setCell_other (a:=⟨w.heap.size+1,0,none⟩) b0.out d3 (.string nm)) d3 (.slice A' T.length U);exact Zo (Zc g5 ⟨rfl,rfl,rfl,Yc _,λ _ _=>rfl⟩) (by omega)
