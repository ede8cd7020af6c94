/- Parts. -/
import Derived.Test.YtldbnjajjfgipaaGreatDoorZBLop
import Derived.StillTailTactics
import Derived.Laws.ResultCell
import Derived.OneCell
set_option linter.all false
set_option maxHeartbeats 8000000
open Go.Lib renaming hid->Ya,cell_of_heap->Yc,frozen_of_heap->Yao
open Nat renaming le_refl->Yb,le_trans->Ym,zero_add->Yac,add_assoc->Ybp
open List renaming length_append->Yd,getElem?_eq_getElem->Yf,length_cons->Yj,append_assoc->Yp,length_take->Yr,mem_cons_self->Yv,mem_cons_of_mem->Yy,mem_cons->Yz,mem_of_getElem?->Y0,mem_singleton->Y2,mem_append->Y4,eq_nil_of_length_eq_zero->Y7,cons_append->Y8,length_nil->Yab,nil_append->Yal,take_length->Yam,not_mem_nil->Yaq,mem_append_left->Ya6,flatMap_cons->Ybf,nodup_cons->Yb7
open Go.AllReady renaming cons->Yk,nil->Yq
open Bool renaming and_eq_true->Yu
namespace Go.Proofs.YtldbnjajjfgipaaGreatDoor
open S Go.Proofs.Tryz Go.RowKit
set_option maxRecDepth 100000
theorem Zkx (n:Int):∀(l:List Int)(i:Nat),bRegs (l++[n]) i=bRegs l i++[bMove n (11+((i+l.length:Nat):Int))]
 | [],i=>by simp[bRegs]
 | x::r,i=>by
  rw[Y8,bRegs,bRegs,Zkx n r (i+1),Y8,Yj];have:i+1+r.length=i+(r.length+1):=by omega
  rw[this]
theorem Zi0:∀(l:List Int)(i:Nat),(bRegs l i).length=l.length
 | [],i=>rfl
 | x::r,i=>by rw[bRegs,Yj,Zi0 r,Yj]
theorem Znw (fr:Int)(a:Bool):(bBack fr a).length<=6:=by
 unfold bBack
 cases a <;> simp
abbrev Z41 (h:CH) (op n:Int) (nm:ByteArray) (regs:List Int):List S.Item :=
 if op=1 then [bStore h.fr 11 (1+n)] else if op=2 then [bI 25 0 11 12 n] else if op=5 then bRegs regs 0++bBack h.fr h.r.behind
 else if op=7 then [bI 35 0 11 0 0] else if op=8 then [bI 36 0 11 0 0] else if op=9 then [bMove n 11]
 else if op=10 then [bPop h.fr,bJ 0 nm] else if op=11 then [bPop h.fr,bI 33 0 11 0 0] else []
theorem Z2m {h:CH}{s:S.BS}{l:Int}{d:S.BE}(a:s.op=4)(e:s.exprs=[d]) :
 bS h s l=([bL (bLab (l+1))]++bExpr h.fr h.r.locals d 0++[bU 11 (bLab (l+2))]++(bSs h s.body (l+2)).1++[bJ 0 (bLab (l+1)),bL (bLab (l+2))],(bSs h s.body (l+2)).2):=by
 obtain⟨op,n,nm,exprs,regs,body,els⟩:=s;change op=4 at a;change exprs=[d] at e;subst a e
 show bStmt _ _ _ _ _=_
 rw[bStmt,if_pos rfl,bTest];rfl
theorem Z42 {h:CH}{s:S.BS}{l:Int}(a:s.op=3) :
 bS h s l=(bExprs h.fr h.r.locals s.exprs 0++([bU 11 (bLab (l+1))]++(bSs h s.body (l+2)).1++[bJ 0 (bLab (l+2)),bL (bLab (l+1))]++(bSs h s.els (bSs h s.body (l+2)).2).1++[bL (bLab (l+2))]),(bSs h s.els (bSs h s.body (l+2)).2).2):=by
 obtain⟨op,n,nm,exprs,regs,body,els⟩:=s;change op=3 at a;subst a
 show bStmt _ _ _ _ _=_
 rw[bStmt,if_neg (by decide),if_pos rfl];simp only[Yp];rfl
theorem Zuy {h:CH}{s:S.BS}{l:Int}(h3:s.op≠3)(a:s.op≠4):bS h s l=(bExprs h.fr h.r.locals s.exprs 0++Z41 h s.op s.n s.name s.regs,l):=by
 obtain⟨op,n,nm,exprs,regs,body,els⟩:=s;change op≠3 at h3;change op≠4 at a
 show bStmt _ _ _ _ _=_
 rw[bStmt,if_neg a,if_neg h3];rfl
theorem Zss {L:Int}{s:S.BS}{d:Nat}(h:chkS L s d=0):(1<=s.op/\s.op<=11)/\(s.op=1->0<=s.n/\s.n<L)/\s.exprs.length=exprsS s.op s.regs.length/\formedEs L s.exprs=true/\chkSs L s.body (d+1)=0/\chkSs L s.els (d+1)=0:=by
 rw[Zud] at h;by_cases c1:(!(shapedS L s.op s.n s.name s.exprs.length s.regs s.body.length s.els.length && formedEs L s.exprs))=true
 .rw[if_pos c1] at h;cases h
 .rw[if_neg c1] at h
  by_cases c2:200<=d\/14<needEs s.exprs 0
  .rw[if_pos c2] at h;cases h
  .rw[if_neg c2] at h
   by_cases c3:chkSs L s.body (d+1)≠0
   .rw[if_pos c3] at h;exact absurd h c3
   .rw[if_neg c3] at h
    simp only[Bool.not_eq_true,Bool.not_eq_false',Yu] at c1;obtain⟨f,hf⟩:=c1;unfold shapedS at f;simp only[Yu,decide_eq_true_eq] at f;obtain⟨⟨⟨⟨⟨⟨⟨⟨g,_⟩,_⟩,_⟩,_⟩,a⟩,i⟩,_⟩,_⟩:=f;refine⟨g,λ e=>?_,i,hf,by simpa using c3,h⟩;rw[e] at a;unfold numS at a;rw[if_pos rfl] at a;exact of_decide_eq_true a
theorem Z43 {base p:Nat}{h:CH}(hO:HOk h)(h3:3<=base):∀n,n<=1000000->Stm base p h n:=by
 intro n
 induction n with
 | zero=>intro _ s A1 A2 A3 A4 c1 c2 c3 c4 d xs lab w hs;have:=Ziv s;omega
 | succ n ih =>
  intro hn s A1 A2 A3 A4 c1 c2 c3 c4 d xs lab w hs d8 H d7 hp hL h0 h1 hl;obtain⟨⟨r1,r2⟩,i,q,X,b0,b8⟩:=Zss d8;have a0:=Ziv s;have a6:=ih (by omega);have Y:Below w.heap.size w (w.alloc (.cells #[.int .i64 s.op,.int .i64 s.n,.string s.name,.slice A1 s.exprs.length c1,.slice A2 s.regs.length c2,.slice A3 s.body.length c3,.slice A4 s.els.length c4] 149)):=(Below.refl _ _).alloc (Yb _) _;have f4:=heap_alloc_new w (.cells #[.int .i64 s.op,.int .i64 s.n,.string s.name,.slice A1 s.exprs.length c1,.slice A2 s.regs.length c2,.slice A3 s.body.length c3,.slice A4 s.els.length c4] 149);have F:=Ya (CK.of Y d7);have H2:=Ya (H.keep Y);have HL:=Ya (hL.on Y);have o:=Ya f4;have a4:=hp.below (Y.mono d7);have O:=Ym d7 Y.size;clear H hL Y f4;by_cases g:s.op=4
  .have hex1:∃e0,s.exprs=[e0]:=by
    rw[g] at q
    match hm:s.exprs,q with
    | [e0],_=>exact⟨e0,rfl⟩
   obtain⟨e0,a9⟩:=hex1;have Z:=Z2m (h:=h) (l:=lab) g a9;rw[a9] at X a0;rw[formedEs,Yu] at X;have e5:Zh3 s.body<=n:=by rw[Ze9,Ze9] at a0;omega
   have a8:szE e0<=1000000:=by rw[Ze9,Ze9] at a0;omega
   have P:=congrArg Prod.fst Z;have a5:=congrArg Prod.snd Z;simp only at P a5;rw[Z] at hl h1;have v:=Ya (λ(W:World) (H2:CAt base p h xs lab W) (O:base<=W.heap.size) (a4:SPart W base s A1 A2 A3 A4) (HL:LVE W)=>Z4w hO a6 h3 s e0 a9 X.1 a8 A1 A2 A3 A4 c1 c2 c3 c4 (d+1) xs lab W e5 b0 (by omega) H2 O a4 HL h0 _ P (by rw[P];exact hl) (by rw[P];exact h1));rw[<- a5] at v;have e2:((bS h s lab).1,(bS h s lab).2)=bS h s lab:=rfl;have a3:=v.out _ H2.out O a4 HL.out;have h5:=Ya a3;clear v a3 Z P a5 e2 hl h1 X e5 a8 a0 q hs d8 i b0 b8 a6 ih;generalize bS h s lab=R at *;generalize s.op=op at *;subst g;generalize s.n=en at *;generalize s.name=nm at *;generalize s.exprs.length=N1 at *;generalize s.regs.length=N2 at *;generalize s.body.length=N3 at *;generalize s.els.length=N4 at *;clear a4 a9 hp;go_enter func229,ntmps229
   go_upto_region 1 with fail
   generalize w.alloc (.cells #[.int .i64 4,.int .i64 en,.string nm,.slice A1 N1 c1,.slice A2 N2 c2,.slice A3 N3 c3,.slice A4 N4 c4] 149)=w2 at *;have k0:w2.cell? ⟨w.heap.size,0,none⟩=some (.int .i64 4):=by rw[Yc o.out];rfl
   have k1:w2.cell? ⟨w.heap.size,1,none⟩=some (.int .i64 en):=by rw[Yc o.out];rfl
   have k2:w2.cell? ⟨w.heap.size,2,none⟩=some (.string nm):=by rw[Yc o.out];rfl
   have k3:w2.cell? ⟨w.heap.size,3,none⟩=some (.slice A1 N1 c1):=by rw[Yc o.out];rfl
   have k4:w2.cell? ⟨w.heap.size,4,none⟩=some (.slice A2 N2 c2):=by rw[Yc o.out];rfl
   have k5:w2.cell? ⟨w.heap.size,5,none⟩=some (.slice A3 N3 c3):=by rw[Yc o.out];rfl
   have k6:w2.cell? ⟨w.heap.size,6,none⟩=some (.slice A4 N4 c4):=by rw[Yc o.out];rfl
   go_wp2_with fail
   refine h5.out.mono ?_;rintro e w3 ⟨rfl,g1,g2⟩;go_wp2_with fail
   go_end0
   exact⟨rfl,g1,F.out.trans g2⟩
  .have hzE:Ze9 s.exprs<=n:=by omega
   have f3:Zh3 s.body<=n:=by omega
   have f1:Zh3 s.els<=n:=by omega
   have g0:=Zew s.exprs;obtain⟨tail,U⟩:∃tail,bS h s lab=(bExprs h.fr h.r.locals s.exprs 0++tail,(bS h s lab).2):=by
    by_cases K:s.op=3
    .exact⟨_,by rw[Z42 K]⟩
    .exact⟨_,by rw[Zuy K g]⟩
   have f:=Ya (λ K:s.op=3=>(show tail=[bU 11 (bLab (lab+1))]++(bSs h s.body (lab+2)).1++[bJ 0 (bLab (lab+2)),bL (bLab (lab+1))]++(bSs h s.els (bSs h s.body (lab+2)).2).1++[bL (bLab (lab+2))]/\(bS h s lab).2=(bSs h s.els (bSs h s.body (lab+2)).2).2 from by
    have u:=Z42 (h:=h) (l:=lab) K;rw[u] at U;refine⟨(List.append_cancel_left (congrArg Prod.fst U)).symm,by rw[u]⟩))
   have a:=Ya (λ K:s.op≠3=>(show tail=Z41 h s.op s.n s.name s.regs/\(bS h s lab).2=lab from by
    have u:=Zuy (h:=h) (l:=lab) K g;rw[u] at U;refine⟨(List.append_cancel_left (congrArg Prod.fst U)).symm,by rw[u]⟩))
   rw[U] at hl h1⊢;simp only[Yd] at hl h1;generalize (bS h s lab).2=lab2 at *;have m:=Ya (λ(W:World) (i0:SPart W base s A1 A2 A3 A4) (ys:List S.Item) (h8:ys=[bU 11 (bLab (lab+1))]++(bSs h s.body (lab+2)).1++[bJ 0 (bLab (lab+2)),bL (bLab (lab+1))]++(bSs h s.els (bSs h s.body (lab+2)).2).1++[bL (bLab (lab+2))]) (zs:List S.Item) (hc:CAt base p h zs lab W) (hb:base<=W.heap.size) (i1:LVE W) (hl:zs.length+ys.length+10<=100000000) (h1:lab+ys.length+10<=1000000000) =>
    Zy0 a6 h3 s A1 A2 A3 A4 c1 c2 c3 c4 (d+1) zs lab W f3 f1 b0 b8 (by omega) hc hb i0 i1 h0 ys h8 hl h1)
   have HP:=Ya hp;have c6:=Ya X;have HE:=Ya hp.exprs;have HR:=Ya hp.regs;have d0:=Ya (λ e' k (he:s.exprs[k]?=some e')=>(show 0+k+szE e'<=1000000 from by have:=Zps he;omega));clear U d8 a6 ih X b0 b8 a0 f3 f1 a4 hs hp;obtain⟨E,e7⟩:=Yx s.exprs;obtain⟨N1,d1⟩:∃N,N=E.length:=⟨_,rfl⟩
   obtain⟨G,hG⟩:=Yx s.regs;obtain⟨N2,c5⟩:∃N,N=G.length:=⟨_,rfl⟩
   rw[<- e7] at hzE hl h1 HE d0 q g0 o F H2 HL O c6 m⊢;rw[<- hG] at q o F H2 HL O HR a m⊢;rw[<- d1] at q g0 o F H2 HL O m⊢;rw[<- c5] at q o F H2 HL O m⊢;have b9:=Ya d1;have V:=Ya c5;generalize s.op=op at *;generalize s.n=en at *;generalize s.name=nm at *;obtain⟨N3,d3⟩:∃N,N=s.body.length:=⟨_,rfl⟩
   obtain⟨N4,b5⟩:∃N,N=s.els.length:=⟨_,rfl⟩
   rw[<- d3,<- b5] at o F H2 HL O m;rw[<- d3,<- b5];have j:=Ya q;clear e7 hG d1 c5 d3 b5 q;have f6:=Ya (λ k=>Zis h.fr h.r.locals E 0 k);go_enter func229,ntmps229
   go_upto_region 1 with fail
   generalize w.alloc (.cells #[.int .i64 op,.int .i64 en,.string nm,.slice A1 N1 c1,.slice A2 N2 c2,.slice A3 N3 c3,.slice A4 N4 c4] 149)=w2 at *;have k0:w2.cell? ⟨w.heap.size,0,none⟩=some (.int .i64 op):=by rw[Yc o.out];rfl
   have k3:w2.cell? ⟨w.heap.size,3,none⟩=some (.slice A1 N1 c1):=by rw[Yc o.out];rfl
   have D:(op==4)=false:=by simp[g]
   go_wp2_with fail
   go_loopw [19] (λ d5 wr=>∃k:Nat,k<=N1/\d5=.int .i64 k/\Hid (CAt base p h (xs++bExprs h.fr h.r.locals (E.take k) 0) lab wr)/\Hid (CK base w2 wr)) (λ d5 _=>N1-(intOf d5).toNat)
   case atStart=>exact⟨0,by omega,rfl,Ya (by simpa[bExprs] using H2.out),Ya (CK.refl _ _)⟩
   case round =>
    obtain⟨k,hk,rfl,HC,HK⟩:=hrel;obtain⟨T,h2⟩:=Yx wr;subst h2;have z:base<=T.heap.size:=by have:=HK.out.size;omega
    by_cases d2:k<N1
    .obtain⟨u,he1⟩:∃u,E[k]?=some u:=⟨_,Yf (by rw[<- b9.out];exact d2)⟩
     obtain⟨b,off,A',c',rfl,h6,q0,q1,q2,i3,q4,q5,q6⟩:=(HE.out.below (F.out.trans HK.out).below).at_ he1;have b2:=Y0 he1;have a8:=d0.out u k he1;have e9:(E.take k).length=k:=by have:=b9.out;rw[Yr];omega
     have d9:bExprs h.fr h.r.locals (E.take (k+1)) 0=bExprs h.fr h.r.locals (E.take k) 0++bExpr h.fr h.r.locals u k:=by rw[Zdo E he1,Zfj,e9,Yac]
     have b3:=f6.out (k+1);rw[d9,Yd] at b3;have g9:b<T.heap.size:=by omega
     have a1:Below T.heap.size T (T.alloc (.cells #[.int .i64 u.op,.int .i64 u.n,.string u.name,.slice A' u.kids.length c'] 152)):=(Below.refl _ _).alloc (Yb _) _;have b4:=Z07 hO (szE u) u A' c' k (xs++bExprs h.fr h.r.locals (E.take k) 0) lab (T.alloc (.cells #[.int .i64 u.op,.int .i64 u.n,.string u.name,.slice A' u.kids.length c'] 152)) (Yb _) (Zef _ c6.out u b2) (by omega) (HC.out.keep a1) (Ym z a1.size) (q6.below (a1.mono z)) q4 (by rw[Yd];omega);have c7:=Ya d9;have g6:=Ya (CK.of a1 z);clear d9 b3 a1 e9;generalize bExpr h.fr h.r.locals u k=zs at *;generalize u.op=op' at *;generalize u.n=en' at *;generalize u.name=nm' at *;generalize u.kids.length=N' at *;have e6:=Ya b4;clear b4 q4 q5 q6 he1 b2 a8;go_wp2_with fail
     refine e6.out.mono ?_;rintro e C ⟨rfl,g3,g4⟩;go_wp2_with fail
     go_roundw
     case rel=>exact⟨k+1,by omega,by go_num,Ya (by rw[c7.out,<- Yp];exact g3),Ya (HK.out.trans (g6.out.trans g4))⟩
     case measure=>simp[intOf];omega
    .have hkN:N1=k:=by omega
     subst hkN;have t:=Ya (HK.out.keep w.heap.size _ _ _ o.out (by decide) (by decide));have ht:E.take N1=E:=by rw[b9.out,Yam]
     rw[ht] at HC;have g8:=Ya (HL.out.keep HK.out.below h3);have y:=Ya (HP.out.below (F.out.trans HK.out).below);have h9:=Ya (HR.out.below (F.out.trans HK.out).below);clear ht k0 k3 HL HP HR HE d0 f6 c6 H2;have c0:T.cell? ⟨w.heap.size,0,none⟩=some (.int .i64 op):=by rw[Yc t.out];rfl
     have e4:T.cell? ⟨w.heap.size,1,none⟩=some (.int .i64 en):=by rw[Yc t.out];rfl
     have e8:T.cell? ⟨w.heap.size,2,none⟩=some (.string nm):=by rw[Yc t.out];rfl
     have f0:T.cell? ⟨w.heap.size,3,none⟩=some (.slice A1 N1 c1):=by rw[Yc t.out];rfl
     have f5:T.cell? ⟨w.heap.size,4,none⟩=some (.slice A2 N2 c2):=by rw[Yc t.out];rfl
     have g5:T.cell? ⟨w.heap.size,5,none⟩=some (.slice A3 N3 c3):=by rw[Yc t.out];rfl
     have e3:T.cell? ⟨w.heap.size,6,none⟩=some (.slice A4 N4 c4):=by rw[Yc t.out];rfl
     have A:(xs++bExprs h.fr h.r.locals E 0).length=xs.length+(bExprs h.fr h.r.locals E 0).length:=Yd;generalize bExprs h.fr h.r.locals E 0=ks at *;have J:=Ya (F.out.trans HK.out);have i5:=Ya hO;rcases(show op=1\/op=2\/op=3\/op=5\/op=6\/op=7\/op=8\/op=9\/op=10\/op=11 by omega) with rfl|rfl|rfl|rfl|rfl|rfl|rfl|rfl|rfl|rfl
     .obtain⟨t1,t2⟩:=a.out (by decide)
      subst t2;have M:=Ya (show tail=[bStore h.fr 11 (1+en)] from t1);clear t1 a f m y j D g;have h7:=Ya (Zpu en (by have:=i rfl;have:=hO.l1;omega) T);have v:=Ya (Zug HC.out z (by rw[A];omega) hO 11 (1+en) (by have:=i rfl;have:=hO.l1;omega));clear i;go_wp2_with fail
      refine h7.out.mono ?_;rintro e w3 ⟨rfl,rfl⟩;go_wp2_with fail
      refine v.out.mono ?_;rintro e C ⟨rfl,h3,L⟩;go_wp2_with fail
      go_end0
      refine⟨rfl,?_,J.out.trans L⟩
      show CAt base p h (xs++(ks++tail)) _ C
      rw[M.out]
      simpa only[Yp,Y8,Yal] using h3
     .obtain⟨t1,t2⟩:=a.out (by decide)
      subst t2;have M:=Ya (show tail=[bI 25 0 11 12 en] from t1);clear t1 a f m y j D g;have v:=Ya (Zbx HC.out z (by rw[A];omega) 25 0 11 12 en);clear i;go_wp2_with fail
      refine v.out.mono ?_;rintro e C ⟨rfl,h3,L⟩;go_wp2_with fail
      go_end0
      refine⟨rfl,?_,J.out.trans L⟩
      show CAt base p h (xs++(ks++tail)) _ C
      rw[M.out]
      simpa only[Yp,Y8,Yal] using h3
     .obtain⟨t1,t2⟩:=f.out rfl
      have v:=Ya (m.out T y.out tail t1 (xs++ks) HC.out z g8.out (by rw[A];omega) (by omega));rw[<- t2] at v;clear t1 t2 a f m y j D g i;go_wp2_with fail
      refine v.out.mono ?_;rintro e C ⟨rfl,h3,L⟩;go_wp2_with fail
      go_end0
      refine⟨rfl,?_,J.out.trans L⟩
      show CAt base p h (xs++(ks++tail)) _ C
      rw[<- Yp];exact h3
     .obtain⟨t1,t2⟩:=a.out (by decide)
      subst t2;have M:=Ya (show tail=bRegs G 0++bBack h.fr h.r.behind from t1);have i2:N2<=1000000:=by
       have u:N1=N2:=by rw[j.out];rfl
       omega
      have f8:tail.length=N2+(bBack h.fr h.r.behind).length:=by rw[M.out,Yd,Zi0,V.out]
      rw[f8] at hl;clear f8;clear t1 a f m y j D g;have f9:∀k,k<=N2->(bRegs (G.take k) 0).length=k:=λ k hk=>by rw[Zi0,Yr];have:=V.out;omega
      have g7:=Ya f9;clear i f9;go_wp2_with fail
      go_loopw [57] (λ b7 wr=>∃k:Nat,k<=N2/\b7=.int .i64 k/\Hid (CAt base p h (xs++ks++bRegs (G.take k) 0) lab2 wr)/\Hid (CK base T wr)) (λ b7 _=>N2-(intOf b7).toNat)
      case atStart=>exact⟨0,by omega,rfl,Ya (by simpa[bRegs] using HC.out),Ya (CK.refl _ _)⟩
      case round =>
       obtain⟨k,hk,rfl,d6,a7⟩:=hrel;obtain⟨f7,f2⟩:=Yx wr;subst f2;have b1:base<=f7.heap.size:=by have:=a7.out.size;omega
       have a2:(xs++ks++bRegs (G.take k) 0).length=xs.length+ks.length+k:=by rw[Yd,A,g7.out k hk]
       by_cases d2:k<N2
       .obtain⟨b,off,rfl,h6,a3⟩:=(h9.out.below a7.out.below).two (by rw[<- V.out];omega)
        obtain⟨x,hx⟩:∃x,G[k]?=some x:=⟨_,Yf (by rw[<- V.out];exact d2)⟩
        have i4:=a3 k x hx;have g9:b<f7.heap.size:=by omega
        have c7:=Ya (show bRegs (G.take (k+1)) 0=bRegs (G.take k) 0++[bMove x (11+(k:Int))] from by
         rw[Zdo G hx,Zkx,Yac];have:(G.take k).length=k:=by rw[Yr];have:=V.out;omega
         rw[this])
        have v:=Ya (Zni d6.out b1 (by rw[a2];omega) x (11+(k:Int)));clear hx a3 a2;go_wp2_with fail
        refine v.out.mono ?_;rintro e C ⟨rfl,h3,L⟩;go_wp2_with fail
        go_roundw
        case rel=>exact⟨k+1,by omega,by go_num,Ya (by rw[c7.out,<- Yp];exact h3),Ya (a7.out.trans L)⟩
        case measure=>simp[intOf];omega
       .have hkN:N2=k:=by omega
        subst hkN;have ht:G.take N2=G:=by rw[V.out,Yam]
        rw[ht] at d6 a2;have Z:=Znw h.fr h.r.behind;have v:=Ya (Z04 d6.out b1 (by rw[a2];omega) hO);clear ht a2 Z;go_wp2_with fail
        refine v.out.mono ?_;rintro e C ⟨rfl,h3,L⟩;go_wp2_with fail
        go_end0
        refine⟨rfl,?_,J.out.trans (a7.out.trans L)⟩
        show CAt base p h (xs++(ks++tail)) _ C
        rw[M.out]
        simpa only[Yp,Y8,Yal] using h3
     .obtain⟨t1,t2⟩:=a.out (by decide)
      subst t2;have M:=Ya (show tail=[] from t1);clear t1 a f m y j D g;clear i;have h3:=HC.out;go_wp2_with fail
      go_end0
      refine⟨rfl,?_,J.out⟩
      show CAt base p h (xs++(ks++tail)) _ T
      rw[M.out,List.append_nil];exact h3
     .obtain⟨t1,t2⟩:=a.out (by decide)
      subst t2;have M:=Ya (show tail=[bI 35 0 11 0 0] from t1);clear t1 a f m y j D g;have v:=Ya (Zbx HC.out z (by rw[A];omega) 35 0 11 0 0);clear i;go_wp2_with fail
      refine v.out.mono ?_;rintro e C ⟨rfl,h3,L⟩;go_wp2_with fail
      go_end0
      refine⟨rfl,?_,J.out.trans L⟩
      show CAt base p h (xs++(ks++tail)) _ C
      rw[M.out]
      simpa only[Yp,Y8,Yal] using h3
     .obtain⟨t1,t2⟩:=a.out (by decide)
      subst t2;have M:=Ya (show tail=[bI 36 0 11 0 0] from t1);clear t1 a f m y j D g;have v:=Ya (Zbx HC.out z (by rw[A];omega) 36 0 11 0 0);clear i;go_wp2_with fail
      refine v.out.mono ?_;rintro e C ⟨rfl,h3,L⟩;go_wp2_with fail
      go_end0
      refine⟨rfl,?_,J.out.trans L⟩
      show CAt base p h (xs++(ks++tail)) _ C
      rw[M.out]
      simpa only[Yp,Y8,Yal] using h3
     .obtain⟨t1,t2⟩:=a.out (by decide)
      subst t2;have M:=Ya (show tail=[bMove en 11] from t1);clear t1 a f m y j D g;have v:=Ya (Zni HC.out z (by rw[A];omega) en 11);clear i;go_wp2_with fail
      refine v.out.mono ?_;rintro e C ⟨rfl,h3,L⟩;go_wp2_with fail
      go_end0
      refine⟨rfl,?_,J.out.trans L⟩
      show CAt base p h (xs++(ks++tail)) _ C
      rw[M.out]
      simpa only[Yp,Y8,Yal] using h3
     .obtain⟨t1,t2⟩:=a.out (by decide)
      subst t2;have M:=Ya (show tail=[bPop h.fr,bJ 0 nm] from t1);clear t1 a f m y j D g;have v:=Ya (Z2d HC.out z (by rw[A];omega) hO);clear i;go_wp2_with fail
      refine v.out.mono ?_;rintro e C ⟨rfl,g3,g4⟩;have c9:base<=C.heap.size:=by have:=g4.size;omega
      have c8:(xs++ks++[bPop h.fr]).length<=100000000:=by rw[Yd,A];show _+1<=_;omega
      have b6:=Ya (g4.keep _ _ _ _ t.out (by decide) (by decide));have k2:C.cell? ⟨w.heap.size,2,none⟩=some (.string nm):=by rw[Yc b6.out];rfl
      have d4:=Ya (Zq4 g3 c9 c8 0 nm);clear c0 e4 e8 f0 f5 g5 e3;go_wp2_with fail
      refine d4.out.mono ?_;rintro e w5 ⟨rfl,h3,L⟩;go_wp2_with fail
      go_end0
      refine⟨rfl,?_,J.out.trans (g4.trans L)⟩
      show CAt base p h (xs++(ks++tail)) _ w5
      rw[M.out]
      simpa only[Yp,Y8,Yal] using h3
     .obtain⟨t1,t2⟩:=a.out (by decide)
      subst t2;have M:=Ya (show tail=[bPop h.fr,bI 33 0 11 0 0] from t1);clear t1 a f m y j D g;have v:=Ya (Z2d HC.out z (by rw[A];omega) hO);clear i;go_wp2_with fail
      refine v.out.mono ?_;rintro e C ⟨rfl,g3,g4⟩;have c9:base<=C.heap.size:=by have:=g4.size;omega
      have c8:(xs++ks++[bPop h.fr]).length<=100000000:=by rw[Yd,A];show _+1<=_;omega
      have b6:=Ya (g4.keep _ _ _ _ t.out (by decide) (by decide));have k2:C.cell? ⟨w.heap.size,2,none⟩=some (.string nm):=by rw[Yc b6.out];rfl
      have d4:=Ya (Zbx g3 c9 c8 33 0 11 0 0);clear c0 e4 e8 f0 f5 g5 e3;go_wp2_with fail
      refine d4.out.mono ?_;rintro e w5 ⟨rfl,h3,L⟩;go_wp2_with fail
      go_end0
      refine⟨rfl,?_,J.out.trans (g4.trans L)⟩
      show CAt base p h (xs++(ks++tail)) _ w5
      rw[M.out]
      simpa only[Yp,Y8,Yal] using h3
theorem Zfk:∀k,(bParams k).length=k
 | 0=>rfl
 | k+1=>by rw[bParams,Yd,Zfk k];rfl
def BPost (r:S.BR)(w:World)(e:Ending)(w':World):Prop :=
 ∃A c,e=.returned (.tuple #[.agg #[.string r.name,.slice A (S.bItems r).length c],.int .i64 0])/\w'.ownsRow w.heap.size 135 8 (.slice A (S.bItems r).length c) (S.bItems r).length ((S.bItems r).flatMap Zd)/\Below w.heap.size w w'
theorem BPost.mk' {r:S.BR}{w w':World}{A:Option Addr}{c:Nat}{T:List S.Item}(a:T=S.bItems r)(h:w'.ownsRow w.heap.size 135 8 (.slice A T.length c) T.length (T.flatMap Zd))(d:Below w.heap.size w w'):BPost r w (.returned (.tuple #[.agg #[.string r.name,.slice A T.length c],.int .i64 0])) w':=by
 subst a;exact⟨A,c,rfl,h,d⟩
theorem Z2n (r:S.BR)(A:Option Addr)(c:Nat)(w:World)(hR:RAt2 w w.heap.size r A)(h0:S.chkB r=0)(d0:Zh3 r.body<=1000000)(hL:LVE w)(hl:(S.bItems r).length+20<=100000000) :
 Calls prog 177 #[Zyj r A c] w (BPost r w):=by
 have s:=Ya (λ(W:World) (hb:Below w.heap.size w W)=>Zpo r A c W ((hR.below hb).more hb.size));have q:=Ya (λ(W:World) (hb:Below w.heap.size w W)=>Z2b r A c W ((hR.below hb).more hb.size));rw[h0] at s;obtain⟨nm,P,L,f,body⟩:=r;unfold Zyj at s q⊢;simp only at s q d0⊢;obtain⟨N,hN⟩:=Yx body.length;rw[<- hN] at s q⊢;have HN:=Ya hN;obtain⟨t1,t2,t3,t4⟩:=Zex w (.cells #[.string nm,.int .i64 P,.int .i64 L,.bool f,.slice A N c] 203) (.cells #[.string ⟨#[]⟩,.slice none 0 0] 105);have a0:=Ya t3;have o:=Ya t1;have c2:=Ya t2;have b9:w.heap.size+2<=((w.alloc (.cells #[.string nm,.int .i64 P,.int .i64 L,.bool f,.slice A N c] 203)).alloc (.cells #[.string ⟨#[]⟩,.slice none 0 0] 105)).heap.size:=Nat.le_of_eq t4.symm;clear hN t1 t2 t3 t4;go_enter func177,ntmps177
 go_upto_region 1 with fail
 generalize (w.alloc (.cells #[.string nm,.int .i64 P,.int .i64 L,.bool f,.slice A N c] 203)).alloc (.cells #[.string ⟨#[]⟩,.slice none 0 0] 105)=w2 at *;have k0:w2.cell? ⟨w.heap.size,0,none⟩=some (.string nm):=by rw[Yc o.out];rfl
 have Z:w2.cell? ⟨w.heap.size,1,none⟩=some (.int .i64 P):=by rw[Yc o.out];rfl
 have k2:w2.cell? ⟨w.heap.size,2,none⟩=some (.int .i64 L):=by rw[Yc o.out];rfl
 have k3:w2.cell? ⟨w.heap.size,3,none⟩=some (.bool f):=by rw[Yc o.out];rfl
 have k4:w2.cell? ⟨w.heap.size,4,none⟩=some (.slice A N c):=by rw[Yc o.out];rfl
 go_wp2_with fail
 refine(s.out w2 a0.out).mono ?_;rintro e g ⟨rfl,C⟩;have m:=Ya ((C.block _ (by omega)).trans o.out);have f2:=Ya ((C.block _ (by omega)).trans c2.out);have d5:w.heap.size+2<=g.heap.size:=Ym b9 C.size;have x:=Ya (a0.out.trans (C.mono a0.out.size));clear k0 Z k2 k3 k4 C o a0 c2 b9;have k0:g.cell? ⟨w.heap.size,0,none⟩=some (.string nm):=by rw[Yc m.out];rfl
 have Z:g.cell? ⟨w.heap.size,1,none⟩=some (.int .i64 P):=by rw[Yc m.out];rfl
 have k2:g.cell? ⟨w.heap.size,2,none⟩=some (.int .i64 L):=by rw[Yc m.out];rfl
 have k3:g.cell? ⟨w.heap.size,3,none⟩=some (.bool f):=by rw[Yc m.out];rfl
 have k4:g.cell? ⟨w.heap.size,4,none⟩=some (.slice A N c):=by rw[Yc m.out];rfl
 go_upto_region 4 with fail
 obtain⟨fr,G⟩:=Yx (frameB ⟨nm,P,L,f,body⟩);rw[<- G] at q;have a2:=Ya G;clear G
 go_cut [5] (λ v5 wc=>∃p:Nat,v5=.pointer (some ⟨p,0,none⟩)/\Hid (CAt g.heap.size p ⟨⟨nm,P,L,f,body⟩,A,c,fr⟩ [] 0 wc)/\Hid (Below g.heap.size g wc))
 case first =>
  refine wp_region_any (by kernel_rfl) ?_;change wpAny _ _ _ _ _ _ _ (World.drew g);have l:Below g.heap.size g g.drew:=⟨rfl,rfl,rfl,Yb _,λ _ _=>rfl⟩
  generalize g.drew=w4 at *;have t:=Ya ((l.block _ (by omega)).trans m.out);have k6:=l.size;clear k0 Z k2 k3 k4;have k0:w4.cell? ⟨w.heap.size,0,none⟩=some (.string nm):=by rw[Yc t.out];rfl
  have Z:w4.cell? ⟨w.heap.size,1,none⟩=some (.int .i64 P):=by rw[Yc t.out];rfl
  have k2:w4.cell? ⟨w.heap.size,2,none⟩=some (.int .i64 L):=by rw[Yc t.out];rfl
  have k3:w4.cell? ⟨w.heap.size,3,none⟩=some (.bool f):=by rw[Yc t.out];rfl
  have k4:w4.cell? ⟨w.heap.size,4,none⟩=some (.slice A N c):=by rw[Yc t.out];rfl
  have b0:=Ya (q.out w4 (x.out.trans (l.mono x.out.size)));refine wpAny_ready (rs:=[0,1]) (by kernel_rfl) (by simp) ?_;refine Yk rfl (λ K d=>?_) (Yk rfl (λ K d=>?_) Yq)
  .go_simp
   refine d _ _ ?_;clear d K
   (refine wpAny_ready (rs:=[1]) (by kernel_rfl) (by simp) ?_;refine Yk rfl (λ K d=>?_) Yq;go_simp;refine d _ _ ?_;clear d K)
   refine wpAny_ready (rs:=[2]) (by kernel_rfl) (by simp) ?_;refine Yk rfl (λ K d=>?_) Yq;go_simp
   refine b0.out.mono ?_;rintro e j ⟨rfl,n⟩;go_simp
   refine d _ _ ?_;clear d K
   (refine wpAny_ready (rs:=[3]) (by kernel_rfl) (by simp) ?_;refine Yk rfl (λ K d=>?_) Yq;go_simp;refine d _ _ ?_;clear d K)
   (refine wpAny_ready (rs:=[4]) (by kernel_rfl) (by simp) ?_;refine Yk rfl (λ K d=>?_) Yq;go_simp;refine d _ _ ?_;clear d K)
   (refine wpAny_ready (rs:=[5]) (by kernel_rfl) (by simp) ?_;refine Yk rfl (λ K d=>?_) Yq;go_simp;refine d _ _ ?_;clear d K)
   refine wpAny_done (by kernel_rfl) ?_ _;go_wp2_with fail
   go_meet
   have i:Below g.heap.size g j:=l.trans (n.mono l.size);have J:CAt g.heap.size j.heap.size ⟨⟨nm,P,L,f,body⟩,A,c,fr⟩ [] 0 (j.alloc (.cells #[.string nm,.int .i64 P,.int .i64 L,.bool f,.slice A N c,.int .i64 fr,.slice none 0 0,.int .i64 0] 242)):=by
    refine⟨i.size,.slice none 0 0,?_,rfl,Or.inl ⟨rfl,rfl⟩⟩;rw[heap_alloc_new];unfold Zhj;simp only[<- HN.out]
   exact⟨j.heap.size,rfl,Ya J,Ya (i.alloc i.size _)⟩
  .go_simp
   refine d _ _ ?_;clear d K;refine wpAny_ready (rs:=[0,2]) (by kernel_rfl) (by simp) ?_;refine Yk rfl (λ K d=>?_) (Yk rfl (λ K d=>?_) Yq)
   .go_simp
    refine d _ _ ?_;clear d K;refine wpAny_ready (rs:=[2]) (by kernel_rfl) (by simp) ?_;refine Yk rfl (λ K d=>?_) Yq;go_simp
    refine b0.out.mono ?_;rintro e j ⟨rfl,n⟩;go_simp
    refine d _ _ ?_;clear d K
    (refine wpAny_ready (rs:=[3]) (by kernel_rfl) (by simp) ?_;refine Yk rfl (λ K d=>?_) Yq;go_simp;refine d _ _ ?_;clear d K)
    (refine wpAny_ready (rs:=[4]) (by kernel_rfl) (by simp) ?_;refine Yk rfl (λ K d=>?_) Yq;go_simp;refine d _ _ ?_;clear d K)
    (refine wpAny_ready (rs:=[5]) (by kernel_rfl) (by simp) ?_;refine Yk rfl (λ K d=>?_) Yq;go_simp;refine d _ _ ?_;clear d K)
    refine wpAny_done (by kernel_rfl) ?_ _;go_wp2_with fail
    go_meet
    have i:Below g.heap.size g j:=l.trans (n.mono l.size);have J:CAt g.heap.size j.heap.size ⟨⟨nm,P,L,f,body⟩,A,c,fr⟩ [] 0 (j.alloc (.cells #[.string nm,.int .i64 P,.int .i64 L,.bool f,.slice A N c,.int .i64 fr,.slice none 0 0,.int .i64 0] 242)):=by
     refine⟨i.size,.slice none 0 0,?_,rfl,Or.inl ⟨rfl,rfl⟩⟩;rw[heap_alloc_new];unfold Zhj;simp only[<- HN.out]
    exact⟨j.heap.size,rfl,Ya J,Ya (i.alloc i.size _)⟩
   .go_simp
    refine b0.out.mono ?_;rintro e j ⟨rfl,n⟩;go_simp
    refine d _ _ ?_;clear d K;have M:=Ya ((n.block _ (by omega)).trans t.out);clear k0 Z k2 k3 k4;have k0:j.cell? ⟨w.heap.size,0,none⟩=some (.string nm):=by rw[Yc M.out];rfl
    have Z:j.cell? ⟨w.heap.size,1,none⟩=some (.int .i64 P):=by rw[Yc M.out];rfl
    have k2:j.cell? ⟨w.heap.size,2,none⟩=some (.int .i64 L):=by rw[Yc M.out];rfl
    have k3:j.cell? ⟨w.heap.size,3,none⟩=some (.bool f):=by rw[Yc M.out];rfl
    have k4:j.cell? ⟨w.heap.size,4,none⟩=some (.slice A N c):=by rw[Yc M.out];rfl
    (refine wpAny_ready (rs:=[0]) (by kernel_rfl) (by simp) ?_;refine Yk rfl (λ K d=>?_) Yq;go_simp;refine d _ _ ?_;clear d K)
    (refine wpAny_ready (rs:=[3]) (by kernel_rfl) (by simp) ?_;refine Yk rfl (λ K d=>?_) Yq;go_simp;refine d _ _ ?_;clear d K)
    (refine wpAny_ready (rs:=[4]) (by kernel_rfl) (by simp) ?_;refine Yk rfl (λ K d=>?_) Yq;go_simp;refine d _ _ ?_;clear d K)
    (refine wpAny_ready (rs:=[5]) (by kernel_rfl) (by simp) ?_;refine Yk rfl (λ K d=>?_) Yq;go_simp;refine d _ _ ?_;clear d K)
    refine wpAny_done (by kernel_rfl) ?_ _;go_wp2_with fail
    go_meet
    have i:Below g.heap.size g j:=l.trans (n.mono l.size);have J:CAt g.heap.size j.heap.size ⟨⟨nm,P,L,f,body⟩,A,c,fr⟩ [] 0 (j.alloc (.cells #[.string nm,.int .i64 P,.int .i64 L,.bool f,.slice A N c,.int .i64 fr,.slice none 0 0,.int .i64 0] 242)):=by
     refine⟨i.size,.slice none 0 0,?_,rfl,Or.inl ⟨rfl,rfl⟩⟩;rw[heap_alloc_new];unfold Zhj;simp only[<- HN.out]
    exact⟨j.heap.size,rfl,Ya J,Ya (i.alloc i.size _)⟩
 case rest =>
  obtain⟨p,rfl,HC,HB⟩:=hcut;obtain⟨-,p0,p1,p2,p3,d6⟩:=Zil h0;simp only at p0 p1 p2 p3 d6;have e9:frameB ⟨nm,P,L,f,body⟩=L+15:=by show(if _ then _ else _)=_;rw[if_neg (by simpa using h0)]
  have e8:fr=L+15:=by rw[a2.out,e9]
  have hO:HOk ⟨⟨nm,P,L,f,body⟩,A,c,fr⟩:=⟨by show 0<=fr;omega,by show fr<=1000;omega,by show 0<=L;omega,by show L<=200;omega⟩
  have hT:S.bItems ⟨nm,P,L,f,body⟩=[bL nm,bI 25 0 28 31 0]++bParams P.toNat++[bI 15 28 28 0 fr]++(bSs ⟨⟨nm,P,L,f,body⟩,A,c,fr⟩ body 0).1++bBack fr f:=by
   show([bL nm,bI 25 0 28 31 0]++bParams P.toNat++[bI 15 28 28 0 (frameB _)])++(bStmts (frameB _) L f body 0).1++bBack (frameB _) f=_
   rw[<- a2.out]
  have d1:(S.bItems ⟨nm,P,L,f,body⟩).length=2+P.toNat+1+(bSs ⟨⟨nm,P,L,f,body⟩,A,c,fr⟩ body 0).1.length+(bBack fr f).length:=by
   rw[hT];simp only[Yd,Yj,Yab,Zfk]
  have HT:=Ya hT;rw[d1] at hl;have HR:=Ya hR.body;have c3:=Ya (x.out.trans (HB.out.mono x.out.size));have h9:=Ya (hL.on c3.out);have a6:=Ya ((HB.out.block _ (by omega)).trans m.out);have g0:=Ya ((HB.out.block _ (by omega)).trans f2.out);have b8:=HB.out.size;have O:3<=g.heap.size:=Ym hL.size (Ym (by omega) d5);have d9:=Ya ((hR.body.below x.out).more x.out.size);obtain⟨V,i2⟩:=Yx g.heap.size;rw[<- i2] at HC HB b8 O d5 d9;obtain⟨h,hh⟩:∃h:CH,h=⟨⟨nm,P,L,f,body⟩,A,c,fr⟩:=⟨_,rfl⟩
  rw[<- hh] at HC hO hl HT;have Hh:=Ya hh;have k0:wc.cell? ⟨w.heap.size,0,none⟩=some (.string nm):=by rw[Yc a6.out];rfl
  clear d1 hT e9 hh e8 Z k2 k3 k4 hR hL h0 s q m f2;have d2:=Ya (Zim HC.out b8 (by simp) nm);go_wp2_with fail
  refine d2.out.mono ?_;rintro e j ⟨rfl,g1,g2⟩;have n:V<=j.heap.size:=by have:=g2.size;omega
  have d7:=Ya (Zbx g1 n (by simp) 25 0 28 31 0);go_wp2_with fail
  refine d7.out.mono ?_;rintro e w6 ⟨rfl,g3,g4⟩;have k9:V<=w6.heap.size:=by have:=g4.size;omega
  have a4:=Ya (g2.trans g4);have b7:=Ya (a4.out.keep _ _ _ _ a6.out (by decide) (by decide));have Z:w6.cell? ⟨w.heap.size,1,none⟩=some (.int .i64 P):=by rw[Yc b7.out];rfl
  have d4:=Ya g3;clear g1 g2 g3 g4 d2 d7 k0;have d3:=Ya (show h.fr=fr from by rw[Hh.out]);go_wp2_with fail
  go_loopw [29] (λ b4 wr=>∃k:Nat,k<=P.toNat/\b4=.int .i64 k/\Hid (CAt V p h ([bL nm,bI 25 0 28 31 0]++bParams k) 0 wr)/\Hid (CK V w6 wr)) (λ b4 _=>P.toNat-(intOf b4).toNat)
  case atStart=>exact⟨0,by omega,rfl,Ya (by simpa[bParams] using d4.out),Ya (CK.refl _ _)⟩
  case round =>
   obtain⟨k,hk,rfl,a1,D⟩:=hrel;obtain⟨wo,h4⟩:=Yx wr;subst h4;have d8:V<=wo.heap.size:=by have:=D.out.size;omega
   have u:([bL nm,bI 25 0 28 31 0]++bParams k).length=2+k:=by simp only[Yd,Yj,Yab,Zfk]
   by_cases k7:k<P.toNat
   .have hkP:(k:Int)<P:=by omega
    have i1:=Ya (Zpu (k:Int) (by omega) wo);have Hc:=Ya (Zbx a1.out d8 (by rw[u];omega) 25 0 28 (4+(k:Int)) (1+(k:Int)));clear u;go_wp2_with fail
    refine i1.out.mono ?_;rintro e j7 ⟨rfl,rfl⟩;go_wp2_with fail
    refine Hc.out.mono ?_;rintro e w7 ⟨rfl,g1,g2⟩;go_wp2_with fail
    go_roundw
    case rel=>exact⟨k+1,by omega,by go_num,Ya (by rw[bParams,<- Yp];exact g1),Ya (D.out.trans g2)⟩
    case measure=>simp[intOf];omega
   .have hkP:¬(k:Int)<P:=by omega
    have i4:P.toNat=k:=by omega
    have c9:=Ya (D.out.keep _ _ _ _ b7.out (by decide) (by decide));have c5:=a1.out.cell_fr;rw[d3.out] at c5;have Hc:=Ya (Zbx a1.out d8 (by rw[u];omega) 15 28 28 0 fr);rw[<- i4] at u Hc;clear a1 Z;go_wp2_with fail
    refine Hc.out.mono ?_;rintro e w7 ⟨rfl,g1,g2⟩;have j8:V<=w7.heap.size:=by have:=g2.size;omega
    have b3:=Ya (a4.out.trans (D.out.trans g2));have f4:=Ya (g2.keep _ _ _ _ c9.out (by decide) (by decide));have k4:w7.cell? ⟨w.heap.size,4,none⟩=some (.slice A N c):=by rw[Yc f4.out];rfl
    have y:([bL nm,bI 25 0 28 31 0]++bParams P.toNat++[bI 15 28 28 0 fr]).length=2+P.toNat+1:=by rw[Yd,u];rfl
    obtain⟨zs,c7⟩:=Yx ([bL nm,bI 25 0 28 31 0]++bParams P.toNat++[bI 15 28 28 0 fr]);rw[<- c7] at g1 y HT;have f6:=Ya g1;have h5:=Ya (h9.out.keep b3.out.below O);have h6:=Ya (d9.out.below (HB.out.trans b3.out.below));have c8:=Ya (b3.out);clear c7 g1 g2 u c5 D c9 a4 b7 d4 Hc;have i5:=Zdj body;rw[<- HN.out] at i5;have X:h.r.behind=f:=by rw[Hh.out]
    have j6:=Znw fr f;have g8:chkSs h.r.locals body 0=0:=by rw[Hh.out];exact d6
    have g9:=Ya (Z43 (p:=p) hO O 1000000 (Yb _));go_wp2_with fail
    go_loopw [50] (λ a9 wr=>∃k:Nat,k<=N/\a9=.int .i64 k/\Hid (CAt V p h (zs++(bSs h (body.take k) 0).1) (bSs h (body.take k) 0).2 wr)/\Hid (CK V w7 wr)) (λ a9 _=>N-(intOf a9).toNat)
    case atStart=>exact⟨0,by omega,rfl,Ya (by simpa[bStmts] using f6.out),Ya (CK.refl _ _)⟩
    case round =>
     obtain⟨k2,k8,rfl,b1,E⟩:=hrel;obtain⟨U,e7⟩:=Yx wr;subst e7;have b2:V<=U.heap.size:=by have:=E.out.size;omega
     by_cases c4:k2<N
     .obtain⟨s1,hs1⟩:∃s1,body[k2]?=some s1:=⟨_,Yf (by rw[<- HN.out];exact c4)⟩
      obtain⟨b',i9,i7,f8,g5,h1,h8,h2,h7,i0,M1,M2,M3,M4,i6,i8,i3,rfl,j5,e0,e1,e2,e3,e4,e5,e6,a3⟩:=Zeu g9.out O d0 g8 (h6.out.below E.out.below) hs1 b1.out b2 (h5.out.keep E.out.below O) (by omega) (by omega) (by rw[y];omega);have j2:b'<U.heap.size:=by omega
      have a8:Below U.heap.size U (U.alloc (.cells #[.int .i64 i6,.int .i64 i8,.string i3,.slice i7 M1 f8,.slice g5 M2 h1,.slice h8 M3 h2,.slice h7 M4 i0] 149)):=(Below.refl _ _).alloc (Yb _) _;have c0:=Ya (a3 _ a8);have f5:=Ya (CK.of a8 b2);clear a3 a8 hs1 X y;go_wp2_with fail
      refine c0.out.mono ?_;rintro e w8 ⟨rfl,g1,g2⟩;go_wp2_with fail
      go_roundw
      case rel=>exact⟨k2+1,by omega,by go_num,Ya g1,Ya (E.out.trans (f5.out.trans g2))⟩
      case measure=>simp[intOf];omega
     .have hkN2:N=k2:=by omega
      subst hkN2;have ht:body.take N=body:=by rw[HN.out,Yam]
      rw[ht] at b1;have Hb:=Ya (Z04 b1.out b2 (by rw[Yd,y];omega) hO);rw[d3.out,X] at Hb;have j3:=Ya X;clear ht X y;go_wp2_with fail
      refine Hb.out.mono ?_;rintro e w8 ⟨rfl,g1,g2⟩;have k5:V<=w8.heap.size:=by have:=g2.size;omega
      have a5:=Ya (c8.out.trans (E.out.trans g2));have g7:=Ya (a5.out.keep _ _ _ _ a6.out (by decide) (by decide));have z:=Ya (a5.out.keep _ _ _ _ g0.out (by decide) (by decide));have k0:w8.cell? ⟨w.heap.size,0,none⟩=some (.string nm):=by rw[Yc g7.out];rfl
      have j0:w8.cell? ⟨w.heap.size+1,0,none⟩=some (.string ⟨#[]⟩):=by rw[Yc z.out];rfl
      have j1:w8.cell? ⟨w.heap.size+1,1,none⟩=some (.slice none 0 0):=by rw[Yc z.out];rfl
      have f0:w8.frozen? ⟨w.heap.size+1,0,none⟩=false:=Yao z.out 0;have f1:w8.frozen? ⟨w.heap.size+1,1,none⟩=false:=Yao z.out 1;obtain⟨j4,v,a7,F⟩:=g1;rw[Yp,<- Yp] at F;have f3:(zs++(bSs h body 0).1)++bBack fr f=S.bItems ⟨nm,P,L,f,body⟩:=HT.out.symm;have c6:w8.cell? ⟨p,6,none⟩=some v:=by rw[Yc a7];rfl
      obtain⟨A',Y,rfl⟩:=Zc F;rw[f3] at F c6;have b6:=Ya F;have j9:=Ya a7;have g6:=Ya (c3.out.trans (a5.out.below.mono (by omega)));clear F a7 f3;obtain⟨T,b5⟩:=Yx (S.bItems ⟨nm,P,L,f,body⟩);rw[<- b5] at b6 c6;have f9:=Ya b5;clear b5;go_upto_region 19 with fail
      go_still_tail 7,(by kernel_rfl)
      go_wp2_with fail
      have c1:(Value.slice A' T.length Y).ownBlock≠some (w.heap.size+1):=Zbh b6.out z.out (by decide)
      (try simp only[Exit.inBlock,Exit.then])
      refine bodyPost_ret (v:=.tuple #[.agg #[.string nm,.slice A' T.length Y],.int .i64 0]) (by rw[results_cell_tmp rfl];go_simp) rfl ?_;have f7:Below w.heap.size w ((w8.setCell ⟨w.heap.size+1,0,none⟩ (.string nm)).setCell ⟨w.heap.size+1,1,none⟩ (.slice A' T.length Y)).drew:=((g6.out.setCell (p:=⟨w.heap.size+1,0,none⟩) (by show w.heap.size<=w.heap.size+1;omega) _).setCell (p:=⟨w.heap.size+1,1,none⟩) (by show w.heap.size<=w.heap.size+1;omega) _).trans ⟨rfl,rfl,rfl,Yb _,λ _ _=>rfl⟩;refine BPost.mk' f9.out ?_ f7;have h3:=ownsRow_setCell_other (a:=⟨w.heap.size+1,1,none⟩) (ownsRow_setCell_other (a:=⟨w.heap.size+1,0,none⟩) b6.out c1 (.string nm)) c1 (.slice A' T.length Y);exact Z3 (Ze h3 ⟨rfl,rfl,rfl,Yb _,λ _ _=>rfl⟩) (by omega)
theorem Zuz (r:S.BR)(A:Option Addr)(c:Nat)(w:World)(s:RAt2 w w.heap.size r A)(h0:S.chkB r≠0) :
 Calls prog 177 #[Zyj r A c] w λ e w'=>e=.returned (.tuple #[.agg #[.string ⟨#[]⟩,.slice none 0 0],.int .i64 (S.chkB r)])/\Below w.heap.size w w':=by
 have f:=Ya (λ(W:World) (q:Below w.heap.size w W)=>Zpo r A c W ((s.below q).more q.size));obtain⟨nm,P,L,j,body⟩:=r;unfold Zyj at f⊢;simp only at f⊢;generalize S.chkB ⟨nm,P,L,j,body⟩=κ at *;have y:(κ != 0)=true:=by simp[h0]
 obtain⟨N,n⟩:=Yx body.length;rw[<- n] at f⊢;have HN:=Ya n;obtain⟨t1,t2,t3,t4⟩:=Zex w (.cells #[.string nm,.int .i64 P,.int .i64 L,.bool j,.slice A N c] 203) (.cells #[.string ⟨#[]⟩,.slice none 0 0] 105);have d:=Ya t3;have a:=Ya t1;have i:=Ya t2;have m:w.heap.size+2<=((w.alloc (.cells #[.string nm,.int .i64 P,.int .i64 L,.bool j,.slice A N c] 203)).alloc (.cells #[.string ⟨#[]⟩,.slice none 0 0] 105)).heap.size:=Nat.le_of_eq t4.symm;clear n t1 t2 t3 t4;go_enter func177,ntmps177
 go_upto_region 1 with fail
 generalize (w.alloc (.cells #[.string nm,.int .i64 P,.int .i64 L,.bool j,.slice A N c] 203)).alloc (.cells #[.string ⟨#[]⟩,.slice none 0 0] 105)=w2 at *;have k0:w2.cell? ⟨w.heap.size,0,none⟩=some (.string nm):=by rw[Yc a.out];rfl
 have x:w2.cell? ⟨w.heap.size,1,none⟩=some (.int .i64 P):=by rw[Yc a.out];rfl
 have k2:w2.cell? ⟨w.heap.size,2,none⟩=some (.int .i64 L):=by rw[Yc a.out];rfl
 have t:w2.cell? ⟨w.heap.size,3,none⟩=some (.bool j):=by rw[Yc a.out];rfl
 have u:w2.cell? ⟨w.heap.size,4,none⟩=some (.slice A N c):=by rw[Yc a.out];rfl
 clear s h0;go_wp2_with fail
 refine(f.out w2 d.out).mono ?_;rintro e l ⟨rfl,h⟩;have g:=Ya ((h.block _ (by omega)).trans i.out);have j0:l.cell? ⟨w.heap.size+1,0,none⟩=some (.string ⟨#[]⟩):=by rw[Yc g.out];rfl
 have j1:l.cell? ⟨w.heap.size+1,1,none⟩=some (.slice none 0 0):=by rw[Yc g.out];rfl
 have f0:l.frozen? ⟨w.heap.size+1,0,none⟩=false:=Yao g.out 0;have f1:l.frozen? ⟨w.heap.size+1,1,none⟩=false:=Yao g.out 1;have o:=Ya (d.out.trans (h.mono d.out.size));clear k0 x k2 t u h a d i m;go_wp2_with fail
 (try simp only[Exit.inBlock,Exit.then])
 refine bodyPost_ret (v:=.tuple #[.agg #[.string ⟨#[]⟩,.slice none 0 0],.int .i64 κ]) (by rw[results_cell_tmp rfl];go_simp) rfl ⟨rfl,?_⟩;exact(o.out.setCell (p:=⟨w.heap.size+1,0,none⟩) (by show w.heap.size<=w.heap.size+1;omega) _).setCell (p:=⟨w.heap.size+1,1,none⟩) (by show w.heap.size<=w.heap.size+1;omega) _
section
namespace S
def decEs:Nat->List AV->Option (List BE)
 | 0,_=>none
 | _+1,[]=>some []
 | n+1,.int .i64 op::.int .i64 m::.str name::.row k cs::r=>match decEs n cs,decEs n r with
  | some ks,some rs=>if k=ks.length/\name.size<=1000/\ks.length<=1000 then some (.mk op m name ks::rs) else none
  | _,_=>none
 | _,_=>none
def decIs:List AV->Option (List Int)
 | []=>some []
 | .int .i64 n::r=>match decIs r with
  | some ns=>some (n::ns)
  | none=>none
 | _=>none
def decSs:Nat->List AV->Option (List BS)
 | 0,_=>none
 | _+1,[]=>some []
 | n+1,.int .i64 op::.int .i64 m::.str name::.row k1 c1::.row k2 c2::.row k3 c3::.row k4 c4::r=>match decEs n c1,decIs c2,decSs n c3,decSs n c4,decSs n r with
  | some es,some ns,some bs,some ls,some rs=>if k1=es.length/\k2=ns.length/\k3=bs.length/\k4=ls.length/\name.size<=1000/\es.length<=1000/\ns.length<=1000/\bs.length<=1000/\ls.length<=1000 then some (.mk op m name es ns bs ls::rs) else none
  | _,_,_,_,_=>none
 | _,_=>none
def decR:AV->Option BR
 | .agg [.str name,.int .i64 p,.int .i64 l,.bool bh,.row k cs]=>match decSs 400 cs with
  | some body=>if k=body.length/\name.size<=1000/\body.length<=1000/\Zh3 body<=1000000 then some ⟨name,p,l,bh,body⟩ else none
  | none=>none
 | _=>none
def encItem (x:Item):List AV:=[.int .i64 x.kind,.int .i64 x.inst.op,.int .i64 x.inst.d,.int .i64 x.inst.a,.int .i64 x.inst.b,.int .i64 x.inst.imm,.str x.label,.int .u32 x.word]
def encItems (l:List Item):List AV:=l.flatMap encItem
def encObj (name:ByteArray)(items:List Item):List AV:=[.str name,.row items.length (encItems items)]
end S
section
variable {H:Zv}{w:World}{B:Nat}(hB:∀b k,H b=some k->b<B)
include hB
theorem Zg2:∀(n:Nat) {cs:List S.AV} {l:List S.BE} {b o:Nat},S.decEs n cs=some l->RepC H w cs b o->EKids w B b o l
 | 0,cs,l,b,o,h,_=>by simp[S.decEs] at h
 | n+1,cs,l,b,o,h,hc=>by
  unfold S.decEs at h
  split at h
  .cases h
  .cases h
   rw[EKids];trivial
  .rename_i n' op m name k ds r hq
   split at h
   .rename_i ks rs h1 h2
    rw[show n'=n from(Nat.succ.inj hq).symm] at h1 h2
    split at h
    .rename_i hh
     obtain⟨q,hn,s⟩:=hh
     cases h
     rw[RepC,RepC,RepC,RepC] at hc;obtain⟨_,⟨v1,a,r1⟩,_,⟨v2,i,r2⟩,_,⟨v3,f,p⟩,_,⟨v4,d,r4⟩,x⟩:=hc;rw[RepV] at r1;rw[RepV] at r2;rw[RepV] at p;rw[RepV] at r4;subst r1 r2 p;obtain⟨A,c,rfl,h0,hA,e⟩:=r4;rw[EKids,ECell];refine⟨⟨a,i,f,by simp only[maxLen];omega,by simp only[maxLen];omega,A,c,by rw[<- q];exact d,?_⟩,Zg2 n h2 x⟩;rcases e with rfl|⟨j,u,t,rfl,v,_,g⟩
     .refine .inl ?_
      cases n with
      | zero=>simp[S.decEs] at h1
      | succ n=>simp[S.decEs] at h1;exact h1
     .exact .inr ⟨j,u,rfl,hB j t v,Zg2 n h1 g⟩
    .cases h
   .cases h
  .cases h
omit hB in
theorem Zky:∀{cs:List S.AV} {l:List Int} {b o:Nat},S.decIs cs=some l->RepC H w cs b o->∀i x,l[i]?=some x->w.cell? ⟨b,o+i,none⟩=some (.int .i64 x)
 | [],l,b,o,h,_,i,x,hx=>by
  simp[S.decIs] at h;subst h;simp at hx
 | y::r,l,b,o,h,hc,i,x,hx=>by
  unfold S.decIs at h
  split at h
  .rename_i heq;cases heq
  .rename_i n r' heq
   cases heq
   split at h
   .rename_i ns h1
    cases h
    rw[RepC] at hc;obtain⟨_,⟨v,e,d⟩,a⟩:=hc;rw[RepV] at d;subst d
    cases i with
    | zero=>simp at hx;subst hx;exact e
    | succ i =>
     rw[show o+(i+1)=o+1+i by omega];exact Zky h1 a i x (by simpa using hx)
   .cases h
  .cases h
omit hB in
theorem Zu0 {n:Nat}{l:List S.BE}(h:S.decEs n []=some l):l=[]:=by
 cases n with
 | zero=>simp[S.decEs] at h
 | succ n=>simp[S.decEs] at h;exact h
omit hB in
theorem Zi1 {n:Nat}{l:List S.BS}(h:S.decSs n []=some l):l=[]:=by
 cases n with
 | zero=>simp[S.decSs] at h
 | succ n=>simp[S.decSs] at h;exact h
theorem Zez:∀(n:Nat) {cs:List S.AV} {l:List S.BS} {b o:Nat},S.decSs n cs=some l->RepC H w cs b o->SKids w B b o l
 | 0,cs,l,b,o,h,_=>by simp[S.decSs] at h
 | n+1,cs,l,b,o,h,hc=>by
  unfold S.decSs at h
  split at h
  .cases h
  .cases h
   rw[SKids];trivial
  .rename_i n' op m name k1 c1 k2 c2 k3 c3 k4 c4 r hq
   split at h
   .rename_i es ns bs ls rs h1 h2 h3 h4 h5
    rw[show n'=n from(Nat.succ.inj hq).symm] at h1 h3 h4 h5
    split at h
    .rename_i hh
     obtain⟨K,O,L,V,q5,q6,q7,q8,q9⟩:=hh
     cases h
     rw[RepC,RepC,RepC,RepC,RepC,RepC,RepC] at hc;obtain⟨_,⟨v1,i,r1⟩,_,⟨v2,z,r2⟩,_,⟨v3,x,D⟩,_,⟨v4,t,r4⟩,_,⟨v5,p,r5⟩,_,⟨v6,j,C⟩,_,⟨v7,y,A⟩,N⟩:=hc;rw[RepV] at r1;rw[RepV] at r2;rw[RepV] at D;rw[RepV] at r4;rw[RepV] at r5;rw[RepV] at C;rw[RepV] at A;subst r1 r2 D;obtain⟨F,T,rfl,_,_,u⟩:=r4;obtain⟨G,J,rfl,_,_,q⟩:=r5;obtain⟨U,E,rfl,_,_,v⟩:=C;obtain⟨M,P,rfl,_,_,s⟩:=A;rw[SKids,SCell];refine⟨⟨i,z,x,by simp only[maxLen];omega,by simp only[maxLen];omega,by simp only[maxLen];omega,by simp only[maxLen];omega,by simp only[maxLen];omega,⟨F,T,by rw[<- K];exact t,?_⟩,⟨G,J,by rw[<- O];exact p,?_⟩,⟨U,E,by rw[<- L];exact j,?_⟩,⟨M,P,by rw[<- V];exact y,?_⟩⟩,Zez n h5 N⟩
     .rcases u with rfl|⟨d,f,e,rfl,g,_,a⟩
      .exact .inl (Zu0 h1)
      .exact .inr ⟨d,f,rfl,hB d e g,Zg2 hB n h1 a⟩
     .intro hpos
      rcases q with rfl|⟨d,f,e,rfl,g,_,a⟩
      .simp[S.decIs] at h2
       subst h2;simp at hpos
      .exact⟨d,f,rfl,hB d e g,Zky h2 a⟩
     .rcases v with rfl|⟨d,f,e,rfl,g,_,a⟩
      .exact .inl (Zi1 h3)
      .exact .inr ⟨d,f,rfl,hB d e g,Zez n h3 a⟩
     .rcases s with rfl|⟨d,f,e,rfl,g,_,a⟩
      .exact .inl (Zi1 h4)
      .exact .inr ⟨d,f,rfl,hB d e g,Zez n h4 a⟩
    .cases h
   .cases h
  .cases h
theorem Z2o {x:S.AV}{r:S.BR}{v:Value}(h:S.decR x=some r)(i:RepV H w x v):∃A c,v=Zyj r A c/\RAt2 w B r A:=by
 unfold S.decR at h
 split at h
 .rename_i name p l bh k cs
  split at h
  .rename_i body h1
   split at h
   .rename_i hh
    obtain⟨q,hn,hb,o⟩:=hh
    cases h
    rw[RepV] at i;obtain⟨vs,rfl,a⟩:=i;rw[RepL] at a;obtain⟨v1,r1,rfl,_,f,a⟩:=a;rw[RepL] at a;obtain⟨v2,r2,rfl,_,j,a⟩:=a;rw[RepL] at a;obtain⟨v3,r3,rfl,_,n,a⟩:=a;rw[RepL] at a;obtain⟨v4,r4,rfl,_,m,a⟩:=a;rw[RepL] at a;obtain⟨v5,r5,rfl,_,g,a⟩:=a;rw[RepL] at a;subst a;rw[RepV] at f;rw[RepV] at j;rw[RepV] at n;rw[RepV] at m;rw[RepV] at g;subst f j n m;obtain⟨A,c,rfl,_,_,s⟩:=g;refine⟨A,c,by unfold Zyj;rw[q],⟨by show name.size<=_;simp only[maxLen];omega,?_,by show Zh3 body<=_;omega⟩⟩;rcases s with rfl|⟨e,u,t,rfl,y,_,d⟩
    .exact .inl (Zi1 h1)
    .exact .inr ⟨e,u,rfl,hB e t y,Zez hB 400 h1 d⟩
   .cases h
  .cases h
 .cases h
end
theorem Zhl (H:Zv)(w:World):∀l:List S.Item,RepL H w (S.encItems l) (l.flatMap Zd)
 | []=>by unfold S.encItems;rw[List.flatMap_nil,RepL];rfl
 | x::r=>by
  unfold S.encItems;rw[Ybf,Ybf];refine RepL.append ?_ (Zhl H w r);unfold S.encItem Zd
  repeat (rw[RepL];refine⟨_,_,rfl,rfl,by rw[RepV],?_⟩)
  rw[RepL]
theorem Zi2 (l:List S.Item):(S.encItems l).length=l.length*8:=by
 unfold S.encItems
 induction l with
 | nil=>rfl
 | cons x r ih=>rw[Ybf,Yd,ih,Yj];simp[S.encItem];omega
namespace S
def buildA (x:AV):Option (AV×Tail):=match decR x with
 | some r=>if chkB r=0 then(if Zh3 r.body<=1000000/\(bItems r).length<=1000000 then some (.tup [.agg (encObj r.name (bItems r)),.int .i64 0],none) else none)
  else some (.tup [.agg [.str ⟨#[]⟩,.row 0 []],.int .i64 (chkB r)],none)
 | none=>none
def itoaA (x:AV):Option (AV×Tail):=match x with
 | .int .i64 n=>if -9223372036854775808<=n/\n<=9223372036854775807 then some (.str ⟨(itoa n).toArray⟩,none) else none
 | _=>none
def orcB (f:FuncId)(xs:List AV):Option (AV×Tail) :=
 if f=120 then(match xs with | [x]=>itoaA x|_=>none) else if f=177 then(match xs with | [x]=>buildA x|_=>none) else none
end S
theorem Z2p {H:Zv}{w w':World}{n:Nat}{A:Option Addr}{c:Nat}{t:TypeId}{z:Nat}{cs:List S.AV}{xs:List Value}(f:∀b k,H b=some k->Bk w b)(r:Below w.heap.size w w')
 (q:w'.ownsRow w.heap.size t z (.slice A n c) n xs) (s:∀H w,RepL H w cs xs) (hz:0<z):∃p:Zv,(∀b,b<w.heap.size->p b=H b)/\(∀b k,p b=some k->Bk w' b)/\RepV p w' (.row n cs) (.slice A n c):=by
 have a:cs.length=n*z:=by rw[<- q.1];exact(RepL.length (s H w)).symm
 rcases q.2 with⟨e,rfl⟩|⟨g,cap,y,e,hg,d,hn,v,x,i⟩
 .cases e
  refine⟨H,λ _ _=>rfl,λ b k l=>(f b k l).below r,?_⟩;rw[RepV];exact⟨none,0,rfl,λ _=>Y7 (by rw[a];simp),λ _=>rfl,.inl (Y7 (by rw[a];simp))⟩
 .cases e
  refine⟨λ b=>if b=g then some cs.length else H b,λ b C=>by simp only;rw[if_neg (by omega)],λ b k l=>?_,?_⟩
  .simp only at l
   by_cases h:b=g
   .rw[h];exact⟨_,_,d⟩
   .rw[if_neg h] at l;exact(f b k l).below r
  .rw[RepV]
   refine⟨_,_,rfl,λ h0=>Y7 (by rw[a,h0];simp),λ h0=>(by cases h0),.inr ⟨g,0,cs.length,rfl,by simp,by omega,Zjx (s _ _) λ j u o=>?_⟩⟩;rw[Yc d,Yac];have m:j<n*z:=by rw[<- q.1];exact(List.getElem?_eq_some_iff.1 o).1
   rw[<- i,List.getElem?_take,if_pos m] at o
   simpa using o
theorem Zp5 {x:S.AV}{r:S.AV}{y:S.Tail}(h:S.buildA x=some (r,y)):AFn prog LVE 177 [x] r y:=by
 intro H w vs a o d;rw[RepT] at d;obtain⟨v,us,rfl,q,g⟩:=d;rw[RepT] at g;subst g;unfold S.buildA at h
 split at h
 .rename_i br hbr
  obtain⟨A,c,rfl,i⟩:=Z2o (λ b k h=>(a b k h).lt) hbr q
  split at h
  .rename_i h0
   split at h
   .rename_i hh
    cases h
    refine(Z2n br A c w i h0 hh.1 o (by omega)).mono ?_;rintro e w' ⟨A',c',rfl,t,f⟩;obtain⟨s,p,l,m⟩:=Z2p a f t (λ H w=>Zhl H w (S.bItems br)) (by decide);refine⟨_,s,rfl,f,p,l,?_,λ z j=>by cases j⟩;rw[RepV];refine⟨[_,_],rfl,?_⟩;rw[RepT];refine⟨_,_,rfl,?_,?_⟩
    .rw[RepV]
     refine⟨[_,_],rfl,?_⟩;unfold S.encObj;rw[RepL];refine⟨_,_,rfl,rfl,by rw[RepV],?_⟩;rw[RepL];exact⟨_,_,rfl,rfl,m,by rw[RepL]⟩
    .rw[RepT]
     exact⟨_,_,rfl,by rw[RepV],by rw[RepT]⟩
   .cases h
  .rename_i h0
   cases h
   refine(Zuz br A c w i h0).mono ?_;rintro e w' ⟨rfl,f⟩;refine⟨_,H,rfl,f,λ _ _=>rfl,λ b k n=>(a b k n).below f,?_,λ z j=>by cases j⟩;rw[RepV];refine⟨[_,_],rfl,?_⟩;rw[RepT];refine⟨_,_,rfl,?_,?_⟩
   .rw[RepV]
    refine⟨[_,_],rfl,?_⟩;rw[RepL];refine⟨_,_,rfl,rfl,by rw[RepV],?_⟩;rw[RepL];refine⟨_,_,rfl,rfl,?_,by rw[RepL]⟩;rw[RepV];exact⟨none,0,rfl,λ _=>rfl,λ _=>rfl,.inl rfl⟩
   .rw[RepT]
    exact⟨_,_,rfl,by rw[RepV],by rw[RepT]⟩
 .cases h
theorem Zst {x:S.AV}{r:S.AV}{y:S.Tail}(h:S.itoaA x=some (r,y)):AFn prog LVE 120 [x] r y:=by
 intro H w vs f l a;rw[RepT] at a;obtain⟨v,us,rfl,i,d⟩:=a;rw[RepT] at d;subst d;unfold S.itoaA at h
 split at h
 .rename_i n
  split at h
  .rename_i hh
   cases h
   rw[RepV] at i;subst i;refine(Zt1 n ⟨by omega,by omega⟩ w l).mono ?_;rintro e w' ⟨rfl,g⟩;exact⟨_,H,rfl,g,λ _ _=>rfl,λ b k j=>(f b k j).below g,by rw[RepV],λ z m=>by cases m⟩
  .cases h
 .cases h
theorem Zkz (f:FuncId)(xs:List S.AV)(r:S.AV)(y:S.Tail)(h:S.orcB f xs=some (r,y)):AFn prog LVE f xs r y:=by
 unfold S.orcB at h
 split at h
 .rename_i hf
  subst hf
  split at h
  .exact Zst h
  .cases h
 .split at h
  .rename_i hf
   subst hf
   split at h
   .exact Zp5 h
   .cases h
  .cases h
theorem Znx {cf n:Nat}{f:FuncId}{xs:List S.AV}{r:S.AV}{y:S.Tail}(h:runFn prog S.orcB cf n f xs=some (r,y)):AFn prog LVE f xs r y :=
 Zls (λ w w' a d=>a.on d) Zkz n f xs r y h
end
theorem Zci (y:Inst):0<=wordOf y/\wordOf y<=4294967295:=by
 unfold wordOf
 split
 .rename_i h;exact Z4q h
 .omega
theorem Zza {x:S.Item}(e:0<=x.word/\x.word<=4294967295)(form at_ d:Int):∀v∈wordsOf x form at_ d,0<=v/\v<=4294967295:=by
 unfold wordsOf lui ori;intro v a
 split at a
 .simp only[Y2] at a;subst a;exact Zci _
 split at a
 .simp only[Y2] at a;subst a;exact Zci _
 split at a
 .simp only[Yz,Yaq,or_false] at a
  rcases a with rfl|rfl <;> exact Zci _
 split at a
 .simp only[Yz,Yaq,or_false] at a
  rcases a with rfl|rfl|rfl|rfl <;> exact Zci _
 split at a
 .simp only[Y2] at a;subst a;exact Zci _
 split at a
 .simp only[Yz,Yaq,or_false] at a
  rcases a with rfl|rfl|rfl <;> exact Zci _
 split at a
 .simp only[Yz,Yaq,or_false] at a
  rcases a with rfl|rfl <;> exact Zci _
 split at a
 .simp only[Y2] at a;subst a;exact e
 split at a
 .simp only[Y2] at a;subst a;omega
 split at a
 .have:=List.eq_of_mem_replicate a;subst this;omega
 .cases a
theorem Zi3 {xs:List S.Item}{F:List Int}{base:Int}(d:∀x∈xs,0<=x.word/\x.word<=4294967295):∀i:Nat,∀v∈outTo xs F base i,0<=v/\v<=4294967295
 | 0=>λ v a=>by cases a
 | i+1=>λ v a=>by
  rw[outTo] at a;rcases Y4.1 a with a|a
  .exact Zi3 d i v a
  .unfold wordsAt at a
   split at a
   .cases a
   .rename_i x hx
    exact Zza (d x (Y0 hx)) _ _ _ v a
section
set_option maxRecDepth 100000
open Go Go.RowKit Go.Proofs
def S.ag (os:List S.Obj):List S.AV:=os.flatMap λ o=>S.encObj o.name o.items
theorem Zp6:runFn prog S.orcB 400 20 51 [.int .i64 0]=some (.row 15 (ag objs26),some (105,2)):=by kernel_rfl
theorem Zsu:AFn prog LVE 51 [.int .i64 0] (.row 15 (ag objs26)) (some (105,2)):=Znx Zp6
end
section
namespace S
mutual
def pureE:BE->Bool
 | .mk op _ _ kids=>decide (op=1\/op=2\/op=3\/op=4\/op=5\/op=7\/op=9\/op=10) && pureEs kids
def pureEs:List BE->Bool
 | []=>true
 | e::r=>pureE e && pureEs r
end
def opV (I:Img)(lk:Int)(op n:Int)(name:ByteArray)(env vs:List Int)(st:Vw):Int :=
 if op=1 then n%4294967296 else if op=2 then env.getD n.toNat 0 else if op=3 then st.reg n else if op=4 then alu n (vs.getD 0 0) (vs.getD 1 0)
 else if op=5 then st.mem (u32m (vs.getD 0 0+n)) else if op=7 then(if vs.getD 0 0=vs.getD 1 0 then 1 else 0) else if op=9 then I.lab name else lk
def opOk (I:Img)(op n:Int)(vs:List Int):Prop :=
 if op=4 then(vs.getD 1 0=0->n≠5/\n≠6) else if op=5 then u32m (vs.getD 0 0+n)<I.size/\¬I.stk (u32m (vs.getD 0 0+n)) else True
def opC (op:Int):Nat:=if op=1\/op=9 then 2 else if op=7 then 3 else 1
mutual
def evE (I:Img)(lk:Int)(env:List Int)(st:Vw):BE->Int
 | .mk op n name kids=>opV I lk op n name env (evEs I lk env st kids) st
def evEs (I:Img)(lk:Int)(env:List Int)(st:Vw):List BE->List Int
 | []=>[]
 | e::r=>evE I lk env st e::evEs I lk env st r
end
mutual
def okE (I:Img)(lk:Int)(env:List Int)(st:Vw):BE->Prop
 | .mk op n name kids=>okEs I lk env st kids/\opOk I op n (evEs I lk env st kids)
def okEs (I:Img)(lk:Int)(env:List Int)(st:Vw):List BE->Prop
 | []=>True
 | e::r=>okE I lk env st e/\okEs I lk env st r
end
mutual
def coE:BE->Nat
 | .mk op _ _ kids=>coEs kids+opC op
def coEs:List BE->Nat
 | []=>0
 | e::r=>coE e+coEs r
end
end S
section
variable {I:S.Img}{dep lk:Int}
mutual
theorem Zbs:∀{e:S.BE} {env:List Int} {at_:Nat} {st:S.Vw} {c:Nat} {Q H:Int->S.Vw->Nat->Prop},S.pureE e=true->S.okE I lk env st e->Q (S.evE I lk env st e) st (c+S.coE e)->wpE I dep lk env e at_ st c Q H
 | .mk op n name kids,env,at_,st,c,Q,H,hp,hok,hQ=>by
  simp only[S.pureE,Yu,decide_eq_true_eq] at hp;obtain⟨f,d⟩:=hp;rw[S.okE] at hok;rw[S.evE,S.coE] at hQ;rw[Zgk];refine Zi4 d hok.1 ?_;have a:=hok.2;unfold S.opOk at a;unfold S.opV S.opC at hQ;unfold S.wpOp;rw[<- Ybp] at hQ;rcases f with rfl|rfl|rfl|rfl|rfl|rfl|rfl|rfl
  .exact hQ
  .exact hQ
  .exact hQ
  .exact⟨a,hQ⟩
  .exact⟨a.1,a.2,hQ⟩
  .exact hQ
  .exact hQ
  .exact hQ
theorem Zi4:∀{l:List S.BE} {env:List Int} {at_:Nat} {st:S.Vw} {c:Nat} {Q:List Int->S.Vw->Nat->Prop} {H:Int->S.Vw->Nat->Prop},S.pureEs l=true->S.okEs I lk env st l->Q (S.evEs I lk env st l) st (c+S.coEs l)->wpEs I dep lk env l at_ st c Q H
 | [],env,at_,st,c,Q,H,_,_,hQ=>by
  rw[wpEs];exact hQ
 | e::r,env,at_,st,c,Q,H,hp,hok,hQ=>by
  simp only[S.pureEs,Yu] at hp;rw[S.okEs] at hok;rw[S.evEs,S.coEs] at hQ;rw[wpEs];refine Zbs hp.1 hok.1 (Zi4 hp.2 hok.2 ?_);rw[Ybp];exact hQ
end
section
variable {env:List Int}{st:S.Vw}
theorem Z72 (n:Int):S.evE I lk env st (eC n)=n%4294967296:=rfl
theorem Z8k (a:S.BE)(n:Int):S.evE I lk env st (eM a n)=st.mem (S.u32m (S.evE I lk env st a+n)):=rfl
theorem Zfa (n:Int):S.okE I lk env st (eC n):=⟨trivial,trivial⟩
theorem Zcz (n:Int):S.okE I lk env st (eL n):=⟨trivial,trivial⟩
theorem Z2q (n:Int):S.okE I lk env st (eR n):=⟨trivial,trivial⟩
theorem Z8l (s:ByteArray):S.okE I lk env st (eA s):=⟨trivial,trivial⟩
theorem Zfl {op:Int}{a b:S.BE}(e:op≠5/\op≠6)(f:S.okE I lk env st a)(d:S.okE I lk env st b):S.okE I lk env st (eB op a b):=⟨⟨f,d,trivial⟩,λ _=>e⟩
theorem Z2r {a b:S.BE}(d:S.okE I lk env st a)(e:S.okE I lk env st b):S.okE I lk env st (eQ a b):=⟨⟨d,e,trivial⟩,trivial⟩
theorem Z4k {a:S.BE}{n:Int}(d:S.okE I lk env st a)(h:S.u32m (S.evE I lk env st a+n)<I.size/\¬I.stk (S.u32m (S.evE I lk env st a+n))):S.okE I lk env st (eM a n):=⟨⟨d,trivial⟩,h⟩
end
section
variable {behind:Bool}{env:List Int}{st:S.Vw}{c:Nat}{Q:List Int->S.Vw->Nat->Prop}{R:BO->Nat->Prop}
theorem Zfb {n:Int}{e:S.BE}{r:List S.BS}(hp:S.pureE e=true)(a:S.okE I lk env st e)(h:wpSs I dep lk behind r (env.set n.toNat (S.evE I lk env st e)) st (c+S.coE e+1) Q R):wpSs I dep lk behind (sAs n e::r) env st c Q R:=by
 rw[Zbp,Zxm];exact Zbs hp a h
theorem Zrd {n:Int}{e:S.BE}{r:List S.BS}(hp:S.pureE e=true)(a:S.okE I lk env st e)(h:wpSs I dep lk behind r env (st.set n (S.evE I lk env st e)) (c+S.coE e+1) Q R):wpSs I dep lk behind (sSet n e::r) env st c Q R:=by
 rw[Zbp,Zxq];exact Zbs hp a h
theorem Zre {a e:S.BE}{n:Int}{r:List S.BS}(g:S.pureE a=true)(d:S.okE I lk env st a)(hp:S.pureE e=true)(f:S.okE I lk env st e){p:Int}(i:S.u32m (S.evE I lk env st a+n)=p)
 (h1:p<I.size/\¬I.stk p/\¬I.code p) (h:wpSs I dep lk behind r env (st.sto p (S.evE I lk env st e)) (c+S.coE a+S.coE e+1) Q R):wpSs I dep lk behind (sPut a n e::r) env st c Q R:=by
 subst i;rw[Zbp,Zqx];exact Zbs g d (Zbs hp f ⟨h1.1,h1.2.1,h1.2.2,h⟩)
theorem Zl1 {e:S.BE}{b l r:List S.BS}(hp:S.pureE e=true)(a:S.okE I lk env st e)(h0:S.evE I lk env st e=0->wpSs I dep lk behind l env st (c+S.coE e+4) (λ env st c=>wpSs I dep lk behind r env st c Q R) R)
 (h1:S.evE I lk env st e≠0->wpSs I dep lk behind b env st (c+S.coE e+4) (λ env st c=>wpSs I dep lk behind r env st (c+3) Q R) R):wpSs I dep lk behind (sIf e b l::r) env st c Q R:=by
 rw[Zbp,Zxn];refine Zbs hp a ?_
 split
 .rename_i h;exact h0 h
 .rename_i h;exact h1 h
theorem Zu1 {e:S.BE}{b r:List S.BS}(hp:S.pureE e=true)(J:List Int->S.Vw->Nat->Nat->Prop){k0:Nat}(h0:J env st c k0)
 (d:∀env st c k,J env st c k->S.okE I lk env st e/\(S.evE I lk env st e=0->wpSs I dep lk behind r env st (c+S.coE e+4) Q R) /\
  (S.evE I lk env st e≠0->wpSs I dep lk behind b env st (c+S.coE e+4) (λ Zkd a c2=>∃k2,k2<k/\J Zkd a (c2+3) k2) R)):wpSs I dep lk behind (sWh e b::r) env st c Q R:=by
 rw[Zbp,Z1t];refine⟨J,⟨k0,h0⟩,λ env st c k h=>?_⟩;obtain⟨h1,h2,h3⟩:=d env st c k h;refine Zbs hp h1 ?_
 split
 .rename_i h;exact h2 h
 .rename_i h;exact h3 h
theorem Zrf {e:S.BE}{r:List S.BS}(hp:S.pureE e=true)(a:S.okE I lk env st e)(h:R (.ret (st.set 4 (S.evE I lk env st e))) (c+S.coE e+1+(if behind=true then 5 else 3))):wpSs I dep lk behind (S.sVal e::r) env st c Q R:=by
 rw[Zbp,S.sVal,Zxo];exact Zbs hp a h
theorem Z44 {e:S.BE}{r:List S.BS}(hp:S.pureE e=true)(a:S.okE I lk env st e)(h:R (.halt (S.evE I lk env st e) st) (c+S.coE e+1)):wpSs I dep lk behind (sHlt e::r) env st c Q R:=by
 rw[Zbp,Zxp];exact Zbs hp a h
theorem Zbl (h:Q env st c):wpSs I dep lk behind [] env st c Q R:=by
 rw[Zxl];exact h
theorem Z2s {name:ByteArray}{l:List S.BE}{r:List S.BS}(hp:S.pureEs l=true)(e:S.okEs I lk env st l){d:Int}{T:Int->BO->Nat->Prop}(a:Real I name false (st.args (S.evEs I lk env st l)) d T)(g:d<=dep)
 (h:∀ret o k,T ret o k->(match o with
  | .ret st2=>wpSs I dep lk behind r env st2 (c+S.coEs l+2*0+(S.evEs I lk env st l).length+4+k) Q R
  | .halt code st2=>R (.halt code st2) (c+S.coEs l+2*0+(S.evEs I lk env st l).length+4+k)
  | .left _ _=>False)):wpSs I dep lk behind (sDo (eF name l)::r) env st c Q R:=by
 rw[Zbp,Z1u,Zqw];refine Zi4 hp e ⟨d,T,a,g,λ ret o k f=>?_⟩;have:=h ret o k f
 cases o <;> exact this
end
end
theorem Zh5 {x:Int}(i:Nat)(m:Int)(hm:m=2^i-1)(hi:i<=32)(h0:0<=x)(h1:x<4294967296):S.alu 7 x m=x%(m+1):=by
 show bits .and .u32 x m=_
 exact Zah i x (m+1) m (by omega) (by omega) hi h0 h1
theorem Z4l {x:Int}(h0:0<=x)(h1:x<4294967296):S.alu 7 x (3%4294967296)=x%4:=Zh5 2 3 (by decide) (by decide) h0 h1
theorem Z61 {x:Int}(h0:0<=x)(h1:x<4294967296):S.alu 7 x (31%4294967296)=x%32:=Zh5 5 31 (by decide) (by decide) h0 h1
theorem Z8m {x:Int}(h0:0<=x)(h1:x<4294967296):S.alu 7 x (1%4294967296)=x%2:=Zh5 1 1 (by decide) (by decide) h0 h1
theorem Z4m (x:Int):S.alu 11 x (2%4294967296)=x/4:=rfl
theorem Z73 (x:Int):S.alu 11 x (5%4294967296)=x/32:=rfl
theorem Z8n (x:Int):S.alu 11 x (1%4294967296)=x/2:=rfl
theorem Z4n (x:Int):S.alu 10 x (2%4294967296)=S.u32m (x*4):=rfl
theorem Z8o (x:Int):S.alu 10 x (1%4294967296)=S.u32m (x*2):=rfl
theorem Zar (x y:Int):S.alu 1 x y=S.u32m (x+y):=rfl
theorem Zkc (x y:Int):S.alu 2 x y=S.u32m (x-y):=rfl
theorem Zcj (x y:Int):S.alu 14 x y=if x<y then 1 else 0:=by
 show truth (x<y)=_
 unfold truth
 split <;> simp_all
theorem or1 {x:Int}(h0:0<=x)(h1:x<4294967296)(h:x%4=0):S.alu 8 x (1%4294967296)=x+1:=by
 show bits .or .u32 x 1=_
 exact Zu 2 x 1 4 (by decide) h0 h h1 (by decide) (by decide) (by decide)
end
section
namespace S
structure Ob where
 at_:Int
 ws:List Int
def tot:List Ob->Int
 | []=>0
 | o::r=>o.ws.length+tot r
def nw (t:Int):List Ob->Int->Option Int
 | [],_=>none
 | o::r,a=>if o.at_=a then some t else nw (t+o.ws.length) r a
def mv (t:Int)(ρ:List Ob)(w:Int):Int:=if w%4=1 then(match nw t ρ (w/4) with|some ν=>4*ν+1|none=>w) else w
def Dat (I:Img)(a:Int):Prop:=0<=a/\a<I.size/\¬I.stk a/\¬I.code a
structure Cf where
 O:List Ob
 fr:Int
 to_:Int
 hf:Int
structure ObOk (o:Ob):Prop where
 word:∀w∈o.ws,0<=w/\w<4294967296
 head:∃h r,o.ws=h::r/\h%4=3/\h/32=r.length
structure Cf.Ok (I:Img)(cf:Cf):Prop where
 frd:∀a,cf.fr<=a->a<cf.fr+cf.hf->Dat I a
 tod:∀a,cf.to_<=a->a<cf.to_+cf.hf->Dat I a
 apart:cf.fr+cf.hf<=cf.to_\/cf.to_+cf.hf<=cf.fr
 fr0:1312<=cf.fr
 to0:1312<=cf.to_
 hf0:0<=cf.hf
 frz:cf.fr+cf.hf<=335544320
 toz:cf.to_+cf.hf<=335544320
 low:∀a,0<=a->a<1056->Dat I a
 obs:∀o∈cf.O,ObOk o/\cf.fr<=o.at_/\o.at_+o.ws.length<=cf.fr+cf.hf
 dis:∀o∈cf.O,∀o'∈cf.O,o≠o'->o.at_+o.ws.length<=o'.at_\/o'.at_+o'.ws.length<=o.at_
 nd:cf.O.Nodup
 sum:tot cf.O<=cf.hf
structure Ch (cf:Cf)(ρ:List Ob)(st:Vw):Prop where
 sub:∀o∈ρ,o∈cf.O
 nd:ρ.Nodup
 r29:st.reg 29=cf.to_+tot ρ
 m2:st.mem 2=cf.fr
 m4:st.mem 4=cf.hf
 unc:∀o∈cf.O,o ∉ ρ->∀(k:Nat)(w:Int),o.ws[k]?=some w->st.mem (o.at_+(k:Int))=w
 cop:∀o∈ρ,∀ν,nw cf.to_ ρ o.at_=some ν->st.mem o.at_=4*ν+1
def WOk (cf:Cf)(T:Ob->Prop)(w:Int):Prop:=0<=w/\w<4294967296/\(w%4=1->(∃o∈cf.O,T o/\w=4*o.at_+1)\/w/4<cf.fr\/cf.fr+cf.hf<=w/4)
def Cl (cf:Cf)(ρ:List Ob)(w:Int):Prop:=∀o∈cf.O,w=4*o.at_+1->o∈ρ
structure Tr (cf:Cf)(T:Ob->Prop)(ρ:List Ob)(st:Vw)(ρ':List Ob)(st':Vw):Prop where
 ext:∃δ,ρ'=ρ++δ/\∀o∈δ,T o
 ch:Ch cf ρ' st'
 reg:∀j,j≠4->j≠5->j≠29->st'.reg j=st.reg j
 mem:∀a,¬(cf.fr<=a/\a<cf.fr+cf.hf)->¬(cf.to_+tot ρ<=a/\a<cf.to_+tot ρ')->st'.mem a=st.mem a
 new:∀o∈ρ',o ∉ ρ->∀ν,nw cf.to_ ρ' o.at_=some ν->∀(k:Nat)(w:Int),o.ws[k]?=some w->st'.mem (ν+(k:Int))=w
 inp:st'.inp=st.inp
 out:st'.out=st.out
end S
theorem Zbm (a b:List S.Ob):S.tot (a++b)=S.tot a+S.tot b:=by
 induction a with
 | nil=>simp[S.tot]
 | cons o r ih=>rw[Y8,S.tot,S.tot,ih];omega
theorem Zw:∀l:List S.Ob,0<=S.tot l
 | []=>by simp[S.tot]
 | o::r=>by have:=Zw r;rw[S.tot];omega
theorem Zb6:∀(ρ O:List S.Ob),ρ.Nodup->(∀o∈ρ,o∈O)->S.tot ρ<=S.tot O
 | [],O,_,_=>by rw[S.tot];exact Zw O
 | o::r,O,hn,hs=>by
  obtain⟨A,B,rfl⟩:=List.append_of_mem (hs o Yv);obtain⟨h1,h2⟩:=Yb7.1 hn;have:=Zb6 r (A++B) h2 λ x a=>by
   have hm:=hs x (Yy _ a);rw[Y4,Yz] at hm;rcases hm with hm|rfl|hm
   .exact Ya6 _ hm
   .exact absurd a h1
   .exact List.mem_append_right _ hm
  rw[S.tot,Zbm,S.tot];rw[Zbm] at this;omega
theorem Zzb {ρ O:List S.Ob}{o:S.Ob}(g:ρ.Nodup)(f:∀o∈ρ,o∈O)(e:o∈O)(a:o ∉ ρ):S.tot ρ+o.ws.length<=S.tot O:=by
 have:=Zb6 (o::ρ) O (Yb7.2 ⟨a,g⟩) λ x d=>by
  rcases Yz.1 d with rfl|d
  .exact e
  .exact f x d
 rw[S.tot] at this;omega
theorem Zei {t:Int}{a:Int}:∀{ρ:List S.Ob} {ν:Int} (δ:List S.Ob),S.nw t ρ a=some ν->S.nw t (ρ++δ) a=some ν
 | [],ν,δ,h=>by simp[S.nw] at h
 | o::r,ν,δ,h=>by
  rw[Y8,S.nw];rw[S.nw] at h
  split
  .rename_i c;rw[if_pos c] at h;exact h
  .rename_i c;rw[if_neg c] at h;exact Zei δ h
theorem Zu2 {t a:Int}:∀{ρ:List S.Ob},S.nw t ρ a=none->∀o∈ρ,o.at_≠a
 | [],_,o,d=>by cases d
 | x::r,h,o,d=>by
  rw[S.nw] at h
  split at h
  .cases h
  .rename_i c
   rcases Yz.1 d with rfl|d
   .exact c
   .exact Zu2 h o d
theorem Zu3 {t a:Int}:∀{ρ:List S.Ob} {o:S.Ob},(∀x∈ρ,x.at_≠a)->o.at_=a->S.nw t (ρ++[o]) a=some (t+S.tot ρ)
 | [],o,_,ho=>by rw[Yal,S.nw,if_pos ho,S.tot,Int.add_zero]
 | x::r,o,h,ho=>by
  rw[Y8,S.nw,if_neg (h x Yv),Zu3 (λ y d=>h y (Yy _ d)) ho,S.tot]
  congr 1
  omega
theorem Zf4 {a:Int}:∀{ρ:List S.Ob} {t ν:Int},S.nw t ρ a=some ν->∃o∈ρ,o.at_=a/\t<=ν/\ν+o.ws.length<=t+S.tot ρ
 | [],t,ν,h=>by simp[S.nw] at h
 | x::r,t,ν,h=>by
  rw[S.nw] at h;have hr:=Zw r
  split at h
  .rename_i c
   cases h
   exact⟨x,Yv,c,Int.le_refl _,by rw[S.tot];omega⟩
  .obtain⟨o,ho,h1,h2,h3⟩:=Zf4 h
   exact⟨o,Yy _ ho,h1,by omega,by rw[S.tot];omega⟩
theorem Zfm {t:Int}{ρ:List S.Ob}{o:S.Ob}(h:o∈ρ):∃ν,S.nw t ρ o.at_=some ν:=by
 cases hq:S.nw t ρ o.at_ with
 | some ν=>exact⟨ν,rfl⟩
 | none=>exact absurd rfl (Zu2 hq o h)
section
variable {I:S.Img}{cf:S.Cf}(hc:S.Cf.Ok I cf)
include hc
theorem Zhm {o:S.Ob}(a:o∈cf.O):1<=o.ws.length:=by
 obtain⟨h,r,e,_⟩:=(hc.obs o a).1.head;rw[e];simp
theorem Zu4 {o d:S.Ob}(f:o∈cf.O)(a:d∈cf.O)(h:o.at_=d.at_):o=d:=by
 refine Y_c λ e=>?_
 have h1:=Zhm hc f;have h2:=Zhm hc a;rcases hc.dis o f d a e with h3|h3 <;> omega
theorem Zl2 {t:Int}{ρ:List S.Ob}(f:∀o∈ρ,o∈cf.O){o:S.Ob}(d:o∈cf.O){ν:Int}(h:S.nw t ρ o.at_=some ν):o∈ρ/\t<=ν/\ν+o.ws.length<=t+S.tot ρ:=by
 obtain⟨x,a,e,h1,h2⟩:=Zf4 h;have:=Zu4 hc (f x a) d e;subst this;exact⟨a,h1,h2⟩
theorem S.Tr.sub {T:S.Ob->Prop}{ρ ρ':List S.Ob}{st a:S.Vw}(h:S.Tr cf T ρ st ρ' a){o:S.Ob}(d:o∈ρ):o∈ρ':=by
 obtain⟨δ,e,_⟩:=h.ext;rw[e];exact Ya6 _ d
end
end
