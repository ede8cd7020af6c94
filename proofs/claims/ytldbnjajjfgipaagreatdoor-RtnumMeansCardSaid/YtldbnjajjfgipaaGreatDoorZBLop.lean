/- Parts. -/
import Derived.Test.YtldbnjajjfgipaaGreatDoorZBCal
set_option linter.all false
set_option maxHeartbeats 4000000
open Go.Lib renaming hid->Ya,cell_of_heap->Yc,frozen_of_heap->Yao
open Nat renaming le_refl->Yb,le_trans->Ym
open List renaming length_append->Yd,getElem?_eq_getElem->Yf,length_cons->Yj,append_assoc->Yp,mem_cons->Yz,mem_of_getElem?->Y0,cons_append->Y8,length_nil->Yab,take_length->Yam,take_append_drop->Ya1
open Go.RowKit.Below renaming refl->Yh
open Go.AllReady renaming cons->Yk,nil->Yq
open Bool renaming and_eq_true->Yu
namespace Go.Proofs.YtldbnjajjfgipaaGreatDoor
open S Go.Proofs.Tryz Go.RowKit
set_option maxRecDepth 100000
theorem Zfj (fr L:Int)(e:BE):∀(l:List BE)(i:Nat),bExprs fr L (l++[e]) i=bExprs fr L l i++bExpr fr L e (i+l.length)
 | [],i=>by simp[bExprs]
 | x::r,i=>by
  rw[Y8,bExprs,bExprs,Zfj fr L e r (i+1),Yp,Yj];have:i+1+r.length=i+(r.length+1):=by omega
  rw[this]
theorem Zfy (fr L:Int)(m:List BE):∀(l:List BE)(i:Nat),bExprs fr L (l++m) i=bExprs fr L l i++bExprs fr L m (i+l.length)
 | [],i=>by simp[bExprs]
 | x::r,i=>by
  rw[Y8,bExprs,bExprs,Zfy fr L m r (i+1),Yp,Yj];have:i+1+r.length=i+(r.length+1):=by omega
  rw[this]
theorem Zis (fr L:Int)(l:List BE)(i k:Nat):(bExprs fr L (l.take k) i).length<=(bExprs fr L l i).length:=by
 have:=Zfy fr L (l.drop k) (l.take k) i;rw[Ya1] at this;rw[this,Yd];omega
theorem Zyz (fr L:Int)(e:BE)(at_:Nat):bExpr fr L e at_=bExprs fr L e.kids at_++bOp fr L e.op e.n e.name e.kids.length at_:=by
 obtain⟨op,n,nm,kids⟩:=e;rw[bExpr];rfl
theorem Zef (L:Int):∀{l:List BE},formedEs L l=true->∀e∈l,formedE L e=true
 | x::r,h,e,a=>by
  rw[formedEs,Yu] at h;rcases Yz.1 a with rfl|a
  .exact h.1
  .exact Zef L h.2 e a
theorem Zlr {L:Int}{e:BE}(h:formedE L e=true):headE L e.op e.n e.name e.kids.length=true/\formedEs L e.kids=true:=by
 obtain⟨op,n,nm,kids⟩:=e;rw[formedE,Yu] at h;exact h
theorem Zps:∀{l:List BE} {k:Nat} {e:BE},l[k]?=some e->k+szE e<=Ze9 l
 | [],k,e,h=>by simp at h
 | x::r,0,e,h=>by
  simp only[List.getElem?_cons_zero,Option.some.injEq] at h;subst h;rw[Ze9];omega
 | x::r,k+1,e,h=>by
  have h1:=Zps (l:=r) (k:=k) (e:=e) (by simpa using h);have:=Zdn x;rw[Ze9];omega
theorem Zpt {L op n:Int}{nm:ByteArray}{N:Nat}(h:headE L op n nm N=true):(1<=op/\op<=10)/\(op=1->-2147483648<=n/\n<=4294967295)/\(op=2->0<=n/\n<L)/\N=kidsE op N:=by
 unfold headE at h;simp only[Yu,decide_eq_true_eq] at h;obtain⟨⟨⟨⟨h1,h2⟩,h3⟩,_⟩,_⟩:=h;refine⟨h1,λ e=>?_,λ e=>?_,h3⟩
 .subst e;unfold numE at h2;rw[if_pos rfl] at h2;have:=of_decide_eq_true h2;omega
 .subst e;unfold numE at h2;rw[if_neg (by decide),if_pos rfl] at h2;exact of_decide_eq_true h2
theorem Zpu (n:Int)(hn:0<=n/\n<=1000000)(w:World):Calls prog 228 #[.int .i64 n] w λ e w'=>e=.returned (.int .i64 (1+n))/\w'=w:=by
 go_enter func228,ntmps228
 go_wp2_with fail
 go_ret
 exact⟨rfl,rfl⟩
def Exp (base p:Nat)(h:CH)(n:Nat):Prop:=∀(e:BE)(A:Option Addr)(c at_:Nat)(xs:List S.Item)(lab:Int)(w:World),szE e<=n->formedE h.r.locals e=true->at_+szE e<=1000000->CAt base p h xs lab w->base<=w.heap.size->EList w base A e.kids->e.name.size<=maxLen ->
 xs.length+(bExpr h.fr h.r.locals e at_).length+10<=100000000 ->
 Calls prog 259 #[.pointer (some ⟨p,0,none⟩),.agg #[.int .i64 e.op,.int .i64 e.n,.string e.name,.slice A e.kids.length c],.int .i64 (at_:Int)] w (Zh0 base p h xs (bExpr h.fr h.r.locals e at_) lab w)
theorem Z07 {base p:Nat}{h:CH}(hO:HOk h):∀n,Exp base p h n:=by
 intro n
 induction n with
 | zero=>intro e A c at_ xs lab w hs;have:=Zdn e;omega
 | succ n ih =>
  intro e A c at_ xs lab w hs hF e0 H d4 hA d5 hl;obtain⟨hh,b3⟩:=Zlr hF;have b8:=Zdn e;have b5:=Zew e.kids;rw[Zyz] at hl⊢;have c4:=Ya ih;have HA:=Ya hA;have Hh:=Ya hh;have a1:=Ya b3;have Z:=Ya (λ e' k (he:e.kids[k]?=some e')=>(show szE e'<=n/\at_+k+szE e'<=1000000 from by have:=Zps he;omega));obtain⟨kids,P⟩:∃k,k=e.kids:=⟨_,rfl⟩
  obtain⟨N,hN⟩:=Yx kids.length;rw[<- P] at HA Hh a1 Z hl b8 b5⊢;rw[<- hN] at Hh hl b5⊢;have HN:=Ya hN;generalize e.op=op at *;generalize e.n=en at *;generalize e.name=nm at *;clear P hN ih hA hF hh b3;have a4:Below w.heap.size w (w.alloc (.cells #[.int .i64 op,.int .i64 en,.string nm,.slice A N c] 152)):=(Yh _ _).alloc (Yb _) _;have b1:=heap_alloc_new w (.cells #[.int .i64 op,.int .i64 en,.string nm,.slice A N c] 152);have g:=Ya (CK.of a4 d4);have H2:=Ya (H.keep a4);have b0:=Ya b1;clear H a4 b1;go_enter func259,ntmps259
  go_upto_region 1 with fail
  generalize w.alloc (.cells #[.int .i64 op,.int .i64 en,.string nm,.slice A N c] 152)=w2 at *;have q3:w2.cell? ⟨w.heap.size,3,none⟩=some (.slice A N c):=by rw[Yc b0.out];rfl
  go_wp2_with fail
  obtain⟨b6,a0⟩:∃o,o=bOp h.fr h.r.locals op en nm N at_:=⟨_,rfl⟩
  rw[<- a0] at hl⊢;have c9:=Ya a0;clear a0;rw[Yd] at hl;have b2:=Ya (λ k=>Zis h.fr h.r.locals kids at_ k);go_loopw [14] (λ X wr=>∃k:Nat,k<=N/\X=.int .i64 k/\Hid (CAt base p h (xs++bExprs h.fr h.r.locals (kids.take k) at_) lab wr)/\Hid (CK base w2 wr)) (λ X _=>N-(intOf X).toNat)
  case atStart=>exact⟨0,by omega,rfl,Ya (by simpa[bExprs] using H2.out),Ya (CK.refl _ _)⟩
  case round =>
   obtain⟨k,hk,rfl,F,E⟩:=hrel;obtain⟨y,d0⟩:=Yx wr;subst d0;have j:base<=y.heap.size:=by have:=E.out.size;have:=g.out.size;omega
   by_cases G:k<N
   .obtain⟨t,he1⟩:∃t,kids[k]?=some t:=⟨_,Yf (by rw[<- HN.out];exact G)⟩
    obtain⟨b,off,A',c',rfl,e2,q0,q1,q2,d7,q4,q5,q6⟩:=(HA.out.below (g.out.trans E.out).below).at_ he1;have V:=Y0 he1;obtain⟨a7,c5⟩:=Z.out t k he1;have a9:(kids.take k).length=k:=by have:=HN.out;rw[List.length_take];omega
    have a2:bExprs h.fr h.r.locals (kids.take (k+1)) at_=bExprs h.fr h.r.locals (kids.take k) at_++bExpr h.fr h.r.locals t (at_+k):=by rw[Zdo kids he1,Zfj,a9]
    have W:=b2.out (k+1);rw[a2,Yd] at W;have d8:b<y.heap.size:=by omega
    have I:Below y.heap.size y (y.alloc (.cells #[.int .i64 t.op,.int .i64 t.n,.string t.name,.slice A' t.kids.length c'] 152)):=(Yh _ _).alloc (Yb _) _;have O:=c4.out t A' c' (at_+k) (xs++bExprs h.fr h.r.locals (kids.take k) at_) lab (y.alloc (.cells #[.int .i64 t.op,.int .i64 t.n,.string t.name,.slice A' t.kids.length c'] 152)) a7 (Zef _ a1.out t V) (by omega) (F.out.keep I) (Ym j I.size) (q6.below (I.mono j)) q4 (by rw[Yd];omega);have c7:=Ya a2;have b7:=Ya (CK.of I j);clear a2 W I a9;generalize bExpr h.fr h.r.locals t (at_+k)=zs at *;generalize t.op=op' at *;generalize t.n=en' at *;generalize t.name=nm' at *;generalize t.kids.length=N' at *;rw[show((at_+k:Nat):Int)=(at_:Int)+(k:Int) from by omega] at O;have a8:=Ya O;clear O q4 q5 q6 he1 V a7 c5;go_wp2_with fail
    refine a8.out.mono ?_;rintro e R ⟨rfl,h3,q⟩;go_wp2_with fail
    go_roundw
    case rel=>exact⟨k+1,by omega,by go_num,Ya (by rw[c7.out,<- Yp];exact h3),Ya (E.out.trans (b7.out.trans q))⟩
    case measure=>simp[intOf];omega
   .have hkN:N=k:=by omega
    subst hkN;have m:=Ya (E.out.keep w.heap.size _ _ _ b0.out (by decide) (by decide));have c0:y.cell? ⟨w.heap.size,0,none⟩=some (.int .i64 op):=by rw[Yc m.out];rfl
    have c1:y.cell? ⟨w.heap.size,1,none⟩=some (.int .i64 en):=by rw[Yc m.out];rfl
    have c2:y.cell? ⟨w.heap.size,2,none⟩=some (.string nm):=by rw[Yc m.out];rfl
    have c3:y.cell? ⟨w.heap.size,3,none⟩=some (.slice A N c):=by rw[Yc m.out];rfl
    have ht:kids.take N=kids:=by rw[HN.out,Yam]
    rw[ht] at F;clear ht q3;generalize bExprs h.fr h.r.locals kids at_=ks at *;obtain⟨⟨o1,o2⟩,f,d,-⟩:=Zpt Hh.out;have l:(xs++ks).length=xs.length+ks.length:=Yd;clear Hh HA a1 Z b2;rcases(show op=1\/op=2\/op=3\/op=4\/op=5\/op=6\/op=7\/op=8\/op=9\/op=10 by omega) with rfl|rfl|rfl|rfl|rfl|rfl|rfl|rfl|rfl|rfl
    .have Hob:=Ya (show bOp h.fr h.r.locals 1 en nm N at_=bConst (11+(at_:Int)) en from rfl)
     have z:=Ya (Zkp F.out j (by rw[l];omega) (11+(at_:Int)) en (by have:=f rfl;omega));clear f d;go_wp2_with fail
     refine z.out.mono ?_;rintro e R ⟨rfl,h3,q⟩;go_wp2_with fail
     go_end0
     refine⟨rfl,?_,g.out.trans (E.out.trans q)⟩;rw[Hob.out,<- Yp];exact h3
    .have Hob:=Ya (show bOp h.fr h.r.locals 2 en nm N at_=[bLoad h.fr (11+(at_:Int)) (1+en)] from rfl)
     have d2:=Ya (Zpu en (by have:=d rfl;have:=hO.l1;omega) y);have z:=Ya (Zuf F.out j (by rw[l];omega) hO (11+(at_:Int)) (1+en) (by have:=d rfl;have:=hO.l1;omega));clear f d;go_wp2_with fail
     refine d2.out.mono ?_;rintro e w3 ⟨rfl,rfl⟩;go_wp2_with fail
     refine z.out.mono ?_;rintro e R ⟨rfl,h3,q⟩;go_wp2_with fail
     go_end0
     refine⟨rfl,?_,g.out.trans (E.out.trans q)⟩;rw[Hob.out,<- Yp];exact h3
    .have Hob:=Ya (show bOp h.fr h.r.locals 3 en nm N at_=[bMove (11+(at_:Int)) en] from rfl)
     have z:=Ya (Zni F.out j (by rw[l];omega) (11+(at_:Int)) en);clear f d;go_wp2_with fail
     refine z.out.mono ?_;rintro e R ⟨rfl,h3,q⟩;go_wp2_with fail
     go_end0
     refine⟨rfl,?_,g.out.trans (E.out.trans q)⟩;rw[Hob.out,<- Yp];exact h3
    .have Hob:=Ya (show bOp h.fr h.r.locals 4 en nm N at_=[bI en (11+(at_:Int)) (11+(at_:Int)) (11+(at_:Int)+1) 0] from by show [bI en _ _ (12+(at_:Int)) 0]=_;rw[show 11+(at_:Int)+1=12+(at_:Int) from by omega])
     have z:=Ya (Zbx F.out j (by rw[l];omega) en (11+(at_:Int)) (11+(at_:Int)) (11+(at_:Int)+1) 0);clear f d;go_wp2_with fail
     refine z.out.mono ?_;rintro e R ⟨rfl,h3,q⟩;go_wp2_with fail
     go_end0
     refine⟨rfl,?_,g.out.trans (E.out.trans q)⟩;rw[Hob.out,<- Yp];exact h3
    .have Hob:=Ya (show bOp h.fr h.r.locals 5 en nm N at_=[bI 24 (11+(at_:Int)) (11+(at_:Int)) 0 en] from rfl)
     have z:=Ya (Zbx F.out j (by rw[l];omega) 24 (11+(at_:Int)) (11+(at_:Int)) 0 en);clear f d;go_wp2_with fail
     refine z.out.mono ?_;rintro e R ⟨rfl,h3,q⟩;go_wp2_with fail
     go_end0
     refine⟨rfl,?_,g.out.trans (E.out.trans q)⟩;rw[Hob.out,<- Yp];exact h3
    .have Hob:=Ya (show bOp h.fr h.r.locals 6 en nm N at_=bCall h.fr h.r.locals nm N at_ from rfl)
     have z:=Ya (Z4r F.out j hO 6 en nm A N c at_ (by omega) (by omega) (by rw[l,<- Hob.out,<- c9.out];omega));clear f d;go_wp2_with fail
     refine z.out.mono ?_;rintro e R ⟨rfl,h3,q⟩;go_wp2_with fail
     go_end0
     refine⟨rfl,?_,g.out.trans (E.out.trans q)⟩;rw[Hob.out,<- Yp];exact h3
    .have Hob:=Ya (show bOp h.fr h.r.locals 7 en nm N at_=[bI 9 (11+(at_:Int)) (11+(at_:Int)) (11+(at_:Int)+1) 0]++bConst (11+(at_:Int)+1) 1++[bI 14 (11+(at_:Int)) (11+(at_:Int)) (11+(at_:Int)+1) 0] from by
      show [bI 9 _ _ (12+(at_:Int)) 0]++bConst (12+(at_:Int)) 1++[bI 14 _ _ (12+(at_:Int)) 0]=_
      rw[show 11+(at_:Int)+1=12+(at_:Int) from by omega])
     have z:=Ya (Zbx F.out j (by rw[l];omega) 9 (11+(at_:Int)) (11+(at_:Int)) (11+(at_:Int)+1) 0);clear f d;go_wp2_with fail
     refine z.out.mono ?_;rintro e R ⟨rfl,h3,q⟩;have d3:=Ya (Zkp h3 (by have:=q.size;omega) (by rw[Yd,l];show _+1+1<=_;omega) (11+(at_:Int)+1) 1 (by omega));have d9:=q.keep _ _ _ _ m.out (by decide) (by decide);go_wp2_with fail
     refine d3.out.mono ?_;rintro e w5 ⟨rfl,h5,h6⟩;have b9:=Ya (Zbx h5 (by have:=q.size;have:=h6.size;omega) (by rw[Yd,Yd,l];show _+1+1<=_;omega) 14 (11+(at_:Int)) (11+(at_:Int)) (11+(at_:Int)+1) 0);go_wp2_with fail
     refine b9.out.mono ?_;rintro e w6 ⟨rfl,h7,h8⟩;go_wp2_with fail
     go_end0
     refine⟨rfl,?_,g.out.trans (E.out.trans ((q.trans h6).trans h8))⟩;rw[Hob.out]
     simpa[Yp] using h7
    .have Hob:=Ya (show bOp h.fr h.r.locals 8 en nm N at_=[bI 34 (11+(at_:Int)) 0 0 0] from rfl)
     have z:=Ya (Zbx F.out j (by rw[l];omega) 34 (11+(at_:Int)) 0 0 0);clear f d;go_wp2_with fail
     refine z.out.mono ?_;rintro e R ⟨rfl,h3,q⟩;go_wp2_with fail
     go_end0
     refine⟨rfl,?_,g.out.trans (E.out.trans q)⟩;rw[Hob.out,<- Yp];exact h3
    .have Hob:=Ya (show bOp h.fr h.r.locals 9 en nm N at_=[bA (11+(at_:Int)) nm] from rfl)
     clear f d;go_wp2_with fail
     refine wp_region_any (by kernel_rfl) ?_;change wpAny _ _ _ _ _ _ _ (World.drew y);have J:Below y.heap.size y y.drew:=⟨rfl,rfl,rfl,Yb _,λ _ _=>rfl⟩
     have b4:w.heap.size<y.heap.size:=by
      rcases Nat.lt_or_ge w.heap.size y.heap.size with h'|h'
      .exact h'
      .have:=m.out;simp[Array.getElem?_eq_none h'] at this
     have H3:=F.out.keep J;have a6:=(J.block _ b4).trans m.out;have a5:=Ya (E.out.trans (CK.of J j));have s:base<=y.drew.heap.size:=Ym j J.size;clear c0 c1 c2 c3 J F m;generalize y.drew=w3 at *;have q2:w3.cell? ⟨w.heap.size,2,none⟩=some (.string nm):=by rw[Yc a6];rfl
     have d1:(xs++ks).length<=100000000:=by rw[l];omega
     obtain⟨zs,Y⟩:=Yx (xs++ks);rw[<- Y] at H3 d1;have a3:=Ya Y;clear l Y;have G:=H3.lt;obtain⟨L,v,hk,ho⟩:=H3;have c6:w3.cell? ⟨p,6,none⟩=some v:=by rw[Yc hk];rfl
     have Q:=Ya hk;have T:=Ya ho;obtain⟨A',c',rfl⟩:=Zc ho;clear hk ho a6
     (refine wpAny_take (i:=0) (v:=?vv13) rfl (by kernel_rfl) (by kernel_rfl) (by kernel_rfl) (λ _ _ _ h=>h) (Or.inl ⟨by rfl,?yy13⟩) ?zz13;(case yy13=>intro w;go_simp;try with_reducible rfl);go_simp)
     (refine wpAny_take (i:=1) (v:=?vv14) rfl (by kernel_rfl) (by kernel_rfl) (by kernel_rfl) (λ _ _ _ h=>h) (Or.inl ⟨by rfl,?yy14⟩) ?zz14;(case yy14=>intro w;go_simp;try with_reducible rfl);go_simp)
     (refine wpAny_take (i:=2) (v:=?vv15) rfl (by kernel_rfl) (by kernel_rfl) (by kernel_rfl) (λ _ _ _ h=>h) (Or.inl ⟨by rfl,?yy15⟩) ?zz15;(case yy15=>intro w;go_simp;try with_reducible rfl);go_simp)
     (refine wpAny_take (i:=3) (v:=?vv16) rfl (by kernel_rfl) (by kernel_rfl) (by kernel_rfl) (λ _ _ _ h=>h) (Or.inl ⟨by rfl,?yy16⟩) ?zz16;(case yy16=>intro w;go_simp;try with_reducible rfl);go_simp)
     (refine wpAny_take (i:=5) (v:=?vv17) rfl (by kernel_rfl) (by kernel_rfl) (by kernel_rfl) (λ _ _ _ h=>h) (Or.inl ⟨by rfl,?yy17⟩) ?zz17;(case yy17=>intro w;go_simp;try with_reducible rfl);go_simp)
     (refine wpAny_take (i:=6) (v:=?vv18) rfl (by kernel_rfl) (by kernel_rfl) (by kernel_rfl) (λ _ _ _ h=>h) (Or.inl ⟨by rfl,?yy18⟩) ?zz18;(case yy18=>intro w;go_simp;try with_reducible rfl);go_simp)
     (refine wpAny_take (i:=7) (v:=?vv19) rfl (by kernel_rfl) (by kernel_rfl) (by kernel_rfl) (λ _ _ _ h=>h) (Or.inl ⟨by rfl,?yy19⟩) ?zz19;(case yy19=>intro w;go_simp;try with_reducible rfl);go_simp)
     refine wpAny_ready (rs:=[4,8]) (by kernel_rfl) (by simp) ?_;refine Yk rfl (λ K a=>?_) (Yk rfl (λ K a=>?_) Yq)
     .go_simp
      refine a _ _ ?_;clear a K
      (refine wpAny_ready (rs:=[8]) (by kernel_rfl) (by simp) ?_;refine Yk rfl (λ K a=>?_) Yq;go_simp;refine a _ _ ?_;clear a K)
      (refine wpAny_take (i:=9) (v:=?vv20) rfl (by kernel_rfl) (by kernel_rfl) (by kernel_rfl) (λ _ _ _ h=>h) (Or.inl ⟨by rfl,?yy20⟩) ?zz20;(case yy20=>intro w;go_simp;try with_reducible rfl);go_simp)
      (refine wpAny_ready (rs:=[10]) (by kernel_rfl) (by simp) ?_;refine Yk rfl (λ K a=>?_) Yq;go_simp;refine a _ _ ?_;clear a K)
      refine wpAny_ready (rs:=[11]) (by kernel_rfl) (by simp) ?_;refine Yk rfl (λ K a=>?_) Yq;rw[if_pos (by simp[Region.wanted])];refine Zd7 (.tmp 108) (.tmp 114) _ rfl base 135 Zaz underlying103 rfl (by decide) (Zd (bA (11+(at_:Int)) nm)).toArray _ _ _ rfl T.out rfl rfl rfl (by simp[Value.oneCell',Zd]) (by simp only[maxLen];omega) (by omega) s ?_;intro v' U D C M _;obtain⟨A8,c8,rfl⟩:=Zc D;have B:=(C.block p G (λ e=>Zbh T.out Q.out (by decide) e.symm)).trans Q.out;have f6:U.frozen? ⟨p,6,none⟩=false:=Yao B 6;have d6:∃u,U.cell? ⟨p,6,none⟩=some u:=⟨_,by rw[Yc B];rfl⟩
      obtain⟨u6,d6⟩:=d6;refine a _ _ ?_;clear a K;go_simp
      (refine wpAny_take (i:=12) (v:=?vv21) rfl (by kernel_rfl) (by kernel_rfl) (by kernel_rfl) (λ _ _ _ h=>h) (Or.inl ⟨by rfl,?yy21⟩) ?zz21;(case yy21=>intro w;go_simp;try with_reducible rfl);go_simp)
      (refine wpAny_take (i:=13) (v:=?vv22) rfl (by kernel_rfl) (by kernel_rfl) (by kernel_rfl) (λ _ _ _ h=>h) (Or.inl ⟨by rfl,?yy22⟩) ?zz22;(case yy22=>intro w;go_simp;try with_reducible rfl);go_simp)
      (refine wpAny_ready (rs:=[14]) (by kernel_rfl) (by simp) ?_;refine Yk rfl (λ K a=>?_) Yq;go_simp;refine a _ _ ?_;clear a K)
      refine wpAny_done (by kernel_rfl) ?_ _;go_wp2_with fail
      go_end0
      obtain⟨q1,q2⟩:=Zbc (x:=bA (11+(at_:Int)) nm) L s Q.out T.out D C M;refine⟨rfl,?_,g.out.trans (a5.out.trans q2)⟩;rw[Hob.out,<- Yp,<- a3.out];exact q1
     .go_simp
      refine a _ _ ?_;clear a K
      (refine wpAny_take (i:=9) (v:=?vv23) rfl (by kernel_rfl) (by kernel_rfl) (by kernel_rfl) (λ _ _ _ h=>h) (Or.inl ⟨by rfl,?yy23⟩) ?zz23;(case yy23=>intro w;go_simp;try with_reducible rfl);go_simp)
      refine wpAny_ready (rs:=[4,10]) (by kernel_rfl) (by simp) ?_;refine Yk rfl (λ K a=>?_) (Yk rfl (λ K a=>?_) Yq)
      .go_simp
       refine a _ _ ?_;clear a K
       (refine wpAny_ready (rs:=[10]) (by kernel_rfl) (by simp) ?_;refine Yk rfl (λ K a=>?_) Yq;go_simp;refine a _ _ ?_;clear a K)
       refine wpAny_ready (rs:=[11]) (by kernel_rfl) (by simp) ?_;refine Yk rfl (λ K a=>?_) Yq;rw[if_pos (by simp[Region.wanted])];refine Zd7 (.tmp 108) (.tmp 114) _ rfl base 135 Zaz underlying103 rfl (by decide) (Zd (bA (11+(at_:Int)) nm)).toArray _ _ _ rfl T.out rfl rfl rfl (by simp[Value.oneCell',Zd]) (by simp only[maxLen];omega) (by omega) s ?_;intro v' U D C M _;obtain⟨A8,c8,rfl⟩:=Zc D;have B:=(C.block p G (λ e=>Zbh T.out Q.out (by decide) e.symm)).trans Q.out;have f6:U.frozen? ⟨p,6,none⟩=false:=Yao B 6;have d6:∃u,U.cell? ⟨p,6,none⟩=some u:=⟨_,by rw[Yc B];rfl⟩
       obtain⟨u6,d6⟩:=d6;refine a _ _ ?_;clear a K;go_simp
       (refine wpAny_take (i:=12) (v:=?vv24) rfl (by kernel_rfl) (by kernel_rfl) (by kernel_rfl) (λ _ _ _ h=>h) (Or.inl ⟨by rfl,?yy24⟩) ?zz24;(case yy24=>intro w;go_simp;try with_reducible rfl);go_simp)
       (refine wpAny_take (i:=13) (v:=?vv25) rfl (by kernel_rfl) (by kernel_rfl) (by kernel_rfl) (λ _ _ _ h=>h) (Or.inl ⟨by rfl,?yy25⟩) ?zz25;(case yy25=>intro w;go_simp;try with_reducible rfl);go_simp)
       (refine wpAny_ready (rs:=[14]) (by kernel_rfl) (by simp) ?_;refine Yk rfl (λ K a=>?_) Yq;go_simp;refine a _ _ ?_;clear a K)
       refine wpAny_done (by kernel_rfl) ?_ _;go_wp2_with fail
       go_end0
       obtain⟨q1,q2⟩:=Zbc (x:=bA (11+(at_:Int)) nm) L s Q.out T.out D C M;refine⟨rfl,?_,g.out.trans (a5.out.trans q2)⟩;rw[Hob.out,<- Yp,<- a3.out];exact q1
      .go_simp
       refine a _ _ ?_;clear a K;have c6:(w3.alloc (Obj.cells (Zd (bA (11+(at_:Int)) nm)).toArray 135)).cell? ⟨p,6,none⟩=some (.slice A' zs.length c'):=by rw[Yc ((heap_alloc_old _ _ G).trans Q.out)];rfl
       simp only[Zd,bA] at c6
       (refine wpAny_ready (rs:=[4]) (by kernel_rfl) (by simp) ?_;refine Yk rfl (λ K a=>?_) Yq;go_simp;refine a _ _ ?_;clear a K)
       refine wpAny_ready (rs:=[11]) (by kernel_rfl) (by simp) ?_;refine Yk rfl (λ K a=>?_) Yq;rw[if_pos (by simp[Region.wanted])];refine Zd7 (.tmp 108) (.tmp 114) _ rfl base 135 Zaz underlying103 rfl (by decide) (Zd (bA (11+(at_:Int)) nm)).toArray _ _ _ rfl T.out rfl rfl rfl (by simp[Value.oneCell',Zd]) (by simp only[maxLen];omega) (by omega) s ?_;intro v' U D C M _;obtain⟨A8,c8,rfl⟩:=Zc D;have B:=(C.block p G (λ e=>Zbh T.out Q.out (by decide) e.symm)).trans Q.out;have f6:U.frozen? ⟨p,6,none⟩=false:=Yao B 6;have d6:∃u,U.cell? ⟨p,6,none⟩=some u:=⟨_,by rw[Yc B];rfl⟩
       obtain⟨u6,d6⟩:=d6;refine a _ _ ?_;clear a K;go_simp
       (refine wpAny_take (i:=12) (v:=?vv26) rfl (by kernel_rfl) (by kernel_rfl) (by kernel_rfl) (λ _ _ _ h=>h) (Or.inl ⟨by rfl,?yy26⟩) ?zz26;(case yy26=>intro w;go_simp;try with_reducible rfl);go_simp)
       (refine wpAny_take (i:=13) (v:=?vv27) rfl (by kernel_rfl) (by kernel_rfl) (by kernel_rfl) (λ _ _ _ h=>h) (Or.inl ⟨by rfl,?yy27⟩) ?zz27;(case yy27=>intro w;go_simp;try with_reducible rfl);go_simp)
       (refine wpAny_ready (rs:=[14]) (by kernel_rfl) (by simp) ?_;refine Yk rfl (λ K a=>?_) Yq;go_simp;refine a _ _ ?_;clear a K)
       refine wpAny_done (by kernel_rfl) ?_ _;go_wp2_with fail
       go_end0
       obtain⟨q1,q2⟩:=Zbc (x:=bA (11+(at_:Int)) nm) L s Q.out T.out D C M;refine⟨rfl,?_,g.out.trans (a5.out.trans q2)⟩;rw[Hob.out,<- Yp,<- a3.out];exact q1
    .have Hob:=Ya (show bOp h.fr h.r.locals 10 en nm N at_=[bLoad h.fr (11+(at_:Int)) 0] from rfl)
     have z:=Ya (Zuf F.out j (by rw[l];omega) hO (11+(at_:Int)) 0 (by omega));clear f d;go_wp2_with fail
     refine z.out.mono ?_;rintro e R ⟨rfl,h3,q⟩;go_wp2_with fail
     go_end0
     refine⟨rfl,?_,g.out.trans (E.out.trans q)⟩;rw[Hob.out,<- Yp];exact h3
theorem Zdm (fr L:Int)(a:Bool)(m:List BS):∀(l:List BS)(i:Int),bStmts fr L a (l++m) i=((bStmts fr L a l i).1++(bStmts fr L a m (bStmts fr L a l i).2).1,(bStmts fr L a m (bStmts fr L a l i).2).2)
 | [],i=>by simp[bStmts]
 | x::r,i=>by
  rw[Y8,bStmts,Zdm fr L a m r,bStmts];simp[Yp]
theorem Zpv (fr L:Int)(a:Bool)(s:BS)(l:List BS)(i:Int):bStmts fr L a (l++[s]) i=((bStmts fr L a l i).1++(bStmt fr L a s (bStmts fr L a l i).2).1,(bStmt fr L a s (bStmts fr L a l i).2).2):=by
 rw[Zdm];simp[bStmts]
theorem Zpw (fr L:Int)(a:Bool)(l:List BS)(i:Int)(k:Nat):(bStmts fr L a (l.take k) i).1.length<=(bStmts fr L a l i).1.length:=by
 have:=Zdm fr L a (l.drop k) (l.take k) i;rw[Ya1] at this;rw[this];simp
mutual
theorem Zuo (fr L:Int)(a:Bool):∀(s:BS)(l:Int),l<=(bStmt fr L a s l).2/\(bStmt fr L a s l).2<=l+(bStmt fr L a s l).1.length
 | .mk op n nm exprs regs body els,l=>by
  have h1:=Zc4 fr L a body (l+2);have h2:=Zc4 fr L a els (bStmts fr L a body (l+2)).2;rw[bStmt]
  split
  .simp only[Yd,Yj,Yab]
   omega
  .split
   .simp only[Yd,Yj,Yab]
    omega
   .simp only
    omega
theorem Zc4 (fr L:Int)(a:Bool):∀(m:List BS)(l:Int),l<=(bStmts fr L a m l).2/\(bStmts fr L a m l).2<=l+(bStmts fr L a m l).1.length
 | [],l=>by rw[bStmts];simp
 | s::r,l=>by
  have h1:=Zuo fr L a s l;have h2:=Zc4 fr L a r (bStmt fr L a s l).2;rw[bStmts];simp only[Yd];omega
end
theorem Znm {L:Int}{d:Nat}:∀{l:List BS},chkSs L l d=0->∀s∈l,chkS L s d=0
 | x::r,h,s,a=>by
  rw[chkSs] at h;by_cases c:chkS L x d≠0
  .rw[if_pos c] at h;exact absurd h c
  .rw[if_neg c] at h
   rcases Yz.1 a with rfl|a
   .simpa using c
   .exact Znm h s a
abbrev bS (h:CH) (s:BS) (l:Int):List S.Item×Int:=bStmt h.fr h.r.locals h.r.behind s l
abbrev bSs (h:CH) (m:List BS) (l:Int):List S.Item×Int:=bStmts h.fr h.r.locals h.r.behind m l
def Z2i (base p:Nat)(h:CH)(xs:List S.Item)(r:List S.Item×Int)(w:World)(e:Ending)(w':World):Prop:=e=.returned (.tuple #[])/\CAt base p h (xs++r.1) r.2 w'/\CK base w w'
def Stm (base p:Nat)(h:CH)(n:Nat):Prop:=∀(s:BS)(A1 A2 A3 A4:Option Addr)(c1 c2 c3 c4:Nat)(d:Nat)(xs:List S.Item)(lab:Int)(w:World),szS s<=n->chkS h.r.locals s d=0->CAt base p h xs lab w->base<=w.heap.size->SPart w base s A1 A2 A3 A4->LVE w->0<=lab->lab+(bS h s lab).1.length+10<=1000000000 ->
 xs.length+(bS h s lab).1.length+10<=100000000 ->
 Calls prog 229 #[.pointer (some ⟨p,0,none⟩),.agg #[.int .i64 s.op,.int .i64 s.n,.string s.name,.slice A1 s.exprs.length c1,.slice A2 s.regs.length c2,.slice A3 s.body.length c3,.slice A4 s.els.length c4]] w (Z2i base p h xs (bS h s lab) w)
theorem Zeu {base p n:Nat}{h:CH}(ih:Stm base p h n)(h3:3<=base){l:List BS}(hl:Zh3 l<=n){d:Nat}(u:chkSs h.r.locals l d=0){A:Option Addr}{W:World}(hA:SList W base A l){k:Nat}{s:BS}(q:l[k]?=some s){t:List S.Item}{l0:Int}
 (J:CAt base p h (t++(bSs h (l.take k) l0).1) (bSs h (l.take k) l0).2 W) (j:base<=W.heap.size) (F:LVE W) (h0:0<=l0) (h1:l0+(bSs h l l0).1.length+10<=1000000000) (w:t.length+(bSs h l l0).1.length+10<=100000000) :
 ∃b off m c1 f c2 g c3 a c4 N1 N2 x v op y nm,A=some ⟨b,off,none⟩/\b<base/\W.cell? ⟨b,off+k*7,none⟩=some (.int .i64 op)/\W.cell? ⟨b,off+k*7+1,none⟩=some (.int .i64 y)/\W.cell? ⟨b,off+k*7+2,none⟩=some (.string nm) /\
  W.cell? ⟨b,off+k*7+3,none⟩=some (.slice m N1 c1)/\W.cell? ⟨b,off+k*7+4,none⟩=some (.slice f N2 c2)/\W.cell? ⟨b,off+k*7+5,none⟩=some (.slice g x c3)/\W.cell? ⟨b,off+k*7+6,none⟩=some (.slice a v c4) /\
  ∀c,Below W.heap.size W c->Calls prog 229 #[.pointer (some ⟨p,0,none⟩),.agg #[.int .i64 op,.int .i64 y,.string nm,.slice m N1 c1,.slice f N2 c2,.slice g x c3,.slice a v c4]] c λ e w' =>
   e=.returned (.tuple #[])/\CAt base p h (t++(bSs h (l.take (k+1)) l0).1) (bSs h (l.take (k+1)) l0).2 w'/\CK base c w':=by
 obtain⟨b,off,m,c1,f,c2,g,c3,a,c4,E,I,L,D,M,O,N,H,K,hp⟩:=hA.at_ q;refine⟨b,off,m,c1,f,c2,g,c3,a,c4,_,_,_,_,_,_,_,E,I,L,D,M,O,N,H,K,λ c o=>?_⟩;have hm:=Y0 q;have B:=Zpx hm;have C:l0<=(bSs h (l.take k) l0).2/\(bSs h (l.take k) l0).2<=l0+(bSs h (l.take k) l0).1.length:=Zc4 h.fr h.r.locals h.r.behind (l.take k) l0;have G:(bSs h (l.take (k+1)) l0).1.length<=(bSs h l l0).1.length:=Zpw h.fr h.r.locals h.r.behind l l0 (k+1);have i:bSs h (l.take (k+1)) l0=((bSs h (l.take k) l0).1++(bS h s (bSs h (l.take k) l0).2).1,(bS h s (bSs h (l.take k) l0).2).2):=by
  show bStmts _ _ _ _ _=_
  rw[Zdo l q,Zpv]
 have z:(bSs h (l.take (k+1)) l0).1.length=(bSs h (l.take k) l0).1.length+(bS h s (bSs h (l.take k) l0).2).1.length:=by rw[i,Yd]
 refine(ih s m f g a c1 c2 c3 c4 d _ _ c (by omega) (Znm u s hm) (J.keep o) (Ym j o.size) (hp.below (o.mono j)) (F.keep o (by omega)) (by omega) (by omega) (by rw[Yd];omega)).mono ?_;rintro e w' ⟨rfl,g1,g2⟩;refine⟨rfl,?_,g2⟩;rw[i,<- Yp];exact g1
abbrev Zup (p:Nat):Value:=.func (.func 229) #[.pointer (some ⟨p,0,none⟩)] #[]
theorem Zy0 {base p n:Nat}{h:CH}(ih:Stm base p h n)(h3:3<=base)(s:BS)(A1 A2 A3 A4:Option Addr)(c1 c2 c3 c4 d:Nat)(q:List S.Item)(lab:Int)(w:World)(c0:Zh3 s.body<=n)(c5:Zh3 s.els<=n)(d6:chkSs h.r.locals s.body d=0)(d5:chkSs h.r.locals s.els d=0)(hn:n<=1000000)
 (H:CAt base p h q lab w) (d7:base<=w.heap.size) (hp:SPart w base s A1 A2 A3 A4) (hL:LVE w) (h0:0<=lab)
 (ys:List S.Item) (W:ys=[bU 11 (bLab (lab+1))]++(bSs h s.body (lab+2)).1++[bJ 0 (bLab (lab+2)),bL (bLab (lab+1))]++(bSs h s.els (bSs h s.body (lab+2)).2).1++[bL (bLab (lab+2))]) (hl:q.length+ys.length+10<=100000000) (h1:lab+ys.length+10<=1000000000) :
 Calls prog 261 #[.pointer (some ⟨p,0,none⟩),.agg #[.int .i64 s.op,.int .i64 s.n,.string s.name,.slice A1 s.exprs.length c1,.slice A2 s.regs.length c2,.slice A3 s.body.length c3,.slice A4 s.els.length c4],Zup p] w (Z2i base p h q (ys,(bSs h s.els (bSs h s.body (lab+2)).2).2) w):=by
 have a6:=Zdj s.body;have b8:=Zdj s.els;have HB:=Ya hp.body;have HE:=Ya hp.els;obtain⟨op,en,nm,N1,N2,d8⟩:∃op en nm N1 N2,op=s.op/\en=s.n/\nm=s.name/\N1=s.exprs.length/\N2=s.regs.length:=⟨_,_,_,_,_,rfl,rfl,rfl,rfl,rfl⟩
 obtain⟨o1,o2,o3,o4,o5⟩:=d8;rw[<- o1,<- o2,<- o3,<- o4,<- o5];clear o1 o2 o3 o4 o5 hp;generalize s.body=B at *;generalize s.els=E at *;obtain⟨u,V⟩:∃N,N=B.length:=⟨_,rfl⟩
 obtain⟨t,D⟩:∃N,N=E.length:=⟨_,rfl⟩
 rw[<- V] at a6⊢;rw[<- D] at b8⊢;have a4:=Ya V;have b9:=Ya D;have a3:ys.length=1+(bSs h B (lab+2)).1.length+2+(bSs h E (bSs h B (lab+2)).2).1.length+1:=by
  rw[W];simp only[Yd,Yj,Yab]
 rw[a3] at hl h1;have d9:=Ya W;have y:Below w.heap.size w (w.alloc (.cells #[.int .i64 op,.int .i64 en,.string nm,.slice A1 N1 c1,.slice A2 N2 c2,.slice A3 u c3,.slice A4 t c4] 149)):=(Yh _ _).alloc (Yb _) _;have b5:=heap_alloc_new w (.cells #[.int .i64 op,.int .i64 en,.string nm,.slice A1 N1 c1,.slice A2 N2 c2,.slice A3 u c3,.slice A4 t c4] 149);have x:=Ya (CK.of y d7);have H2:=Ya (H.keep y);have HL:=Ya (hL.on y);have b3:=Ya b5;clear V D a3 W y b5 H hL;go_enter func261,ntmps261
 go_upto_region 1 with fail
 generalize w.alloc (.cells #[.int .i64 op,.int .i64 en,.string nm,.slice A1 N1 c1,.slice A2 N2 c2,.slice A3 u c3,.slice A4 t c4] 149)=w2 at *;have a5:base<=w2.heap.size:=by have:=x.out.size;omega
 go_wp2_with fail
 refine(Zlp H2.out a5 h3 HL.out ⟨h0,by omega⟩).mono ?_;rintro e w3 ⟨rfl,g1,g2⟩;have b0:base<=w3.heap.size:=by have:=g2.size;omega
 go_wp2_with fail
 refine(Zlp g1 b0 h3 (HL.out.keep g2.below h3) ⟨by omega,by omega⟩).mono ?_;rintro e w4 ⟨rfl,g3,A⟩;have b2:base<=w4.heap.size:=by have:=A.size;omega
 rw[show lab+1+1=lab+2 from by omega] at g3⊢;have Hc:=Ya (Zq5 g3 b2 (by omega) 11 (bLab (lab+1)));generalize bLab (lab+1)=l1 at *;generalize bLab (lab+2)=l2 at *;go_wp2_with fail
 refine Hc.out.mono ?_;rintro e w5 ⟨rfl,g5,g6⟩;have e9:base<=w5.heap.size:=by have:=g6.size;omega
 have m:=Ya (((g2.trans A).trans g6));have L:=Ya (HL.out.keep m.out.below h3);have Y:=Ya (m.out.keep _ _ _ _ b3.out (by decide) (by decide));have q5:w5.cell? ⟨w.heap.size,5,none⟩=some (.slice A3 u c3):=by rw[Yc Y.out];rfl
 have d0:=Ya g5;have b6:=Ya (HB.out.below (x.out.trans m.out).below);have b1:=Ya (HE.out.below (x.out.trans m.out).below);clear g1 g2 g3 A g5 g6 Hc a5 b0 b2 HL b3 HB HE H2;have v:=Ya (show(q++[bU 11 l1]).length=q.length+1 from by rw[Yd];rfl);go_wp2_with fail
 go_loopw [22] (λ O wr=>∃k:Nat,k<=u/\O=.int .i64 k/\Hid (CAt base p h (q++[bU 11 l1]++(bSs h (B.take k) (lab+2)).1) (bSs h (B.take k) (lab+2)).2 wr)/\Hid (CK base w5 wr)) (λ O _=>u-(intOf O).toNat)
 case atStart=>exact⟨0,by omega,rfl,Ya (by simpa[bStmts] using d0.out),Ya (CK.refl _ _)⟩
 case round =>
  obtain⟨k,hk,rfl,C,g⟩:=hrel;obtain⟨wo,c7⟩:=Yx wr;subst c7;have Z:base<=wo.heap.size:=by have:=g.out.size;omega
  by_cases U:k<u
  .obtain⟨s1,hs1⟩:∃s1,B[k]?=some s1:=⟨_,Yf (by rw[<- a4.out];exact U)⟩
   obtain⟨b,off,a2,I,J,K,R,M,P,T,M1,M2,M3,M4,a0,G,X,rfl,d4,e0,e1,e2,e3,e4,e5,e6,a⟩:=Zeu ih h3 c0 d6 (b6.out.below g.out.below) hs1 C.out Z (L.out.keep g.out.below h3) (by omega) (by omega) (by rw[v.out];omega);have c6:b<wo.heap.size:=by omega
   have c:Below wo.heap.size wo (wo.alloc (.cells #[.int .i64 a0,.int .i64 G,.string X,.slice a2 M1 I,.slice J M2 K,.slice R M3 M,.slice P M4 T] 149)):=(Yh _ _).alloc (Yb _) _;have i:=Ya (a _ c);have F:=Ya (CK.of c Z);clear a c hs1;go_wp2_with fail
   refine i.out.mono ?_;rintro e w6 ⟨rfl,g1,g2⟩;go_wp2_with fail
   go_roundw
   case rel=>exact⟨k+1,by omega,by go_num,Ya g1,Ya (g.out.trans (F.out.trans g2))⟩
   case measure=>simp[intOf];omega
  .have hkN:u=k:=by omega
   subst hkN;have ht:B.take u=B:=by rw[a4.out,Yam]
   rw[ht] at C;clear ht q5;have e7:lab+2<=(bSs h B (lab+2)).2/\(bSs h B (lab+2)).2<=lab+2+(bSs h B (lab+2)).1.length:=Zc4 h.fr h.r.locals h.r.behind B (lab+2);generalize bSs h B (lab+2)=RB at *;have Hj:=Ya (Zq4 C.out Z (by rw[Yd,v.out];omega) 0 l2);go_wp2_with fail
   refine Hj.out.mono ?_;rintro e w6 ⟨rfl,g1,g2⟩;have a8:base<=w6.heap.size:=by have:=g2.size;omega
   have a9:=Ya (Zim g1 a8 (by rw[Yd,Yd,v.out];show _+1<=_;omega) l1);go_wp2_with fail
   refine a9.out.mono ?_;rintro e w7 ⟨rfl,g3,A⟩;have e8:base<=w7.heap.size:=by have:=A.size;omega
   have c8:=Ya (m.out.trans (g.out.trans (g2.trans A)));have f:=Ya (g.out.trans (g2.trans A));have c9:=Ya (L.out.keep f.out.below h3);have d1:=Ya (f.out.keep _ _ _ _ Y.out (by decide) (by decide));have q6:w7.cell? ⟨w.heap.size,6,none⟩=some (.slice A4 t c4):=by rw[Yc d1.out];rfl
   have a7:=Ya g3;have d3:=Ya (b1.out.below f.out.below);have Q:=Ya (show(q++[bU 11 l1]++RB.1++[bJ 0 l2]++[bL l1]).length=q.length+1+RB.1.length+2 from by simp only[Yd,Yj,Yab]);clear g1 g2 g3 A Hj a9 a8 C g L Y b6 b1 f v;obtain⟨d2,o⟩:∃z,z=q++[bU 11 l1]++RB.1++[bJ 0 l2]++[bL l1]:=⟨_,rfl⟩
   rw[<- o] at a7 Q;have b7:=Ya o;clear o;go_wp2_with fail
   go_loopw [39] (λ a1 wr=>∃k:Nat,k<=t/\a1=.int .i64 k/\Hid (CAt base p h (d2++(bSs h (E.take k) RB.2).1) (bSs h (E.take k) RB.2).2 wr)/\Hid (CK base w7 wr)) (λ a1 _=>t-(intOf a1).toNat)
   case atStart=>exact⟨0,by omega,rfl,Ya (by simpa[bStmts] using a7.out),Ya (CK.refl _ _)⟩
   case round =>
    obtain⟨k,hk,rfl,C,g⟩:=hrel;obtain⟨l,b4⟩:∃wo,wo=wr:=⟨_,rfl⟩
    subst b4;have j:base<=l.heap.size:=by have:=g.out.size;omega
    by_cases U:k<t
    .obtain⟨s1,hs1⟩:∃s1,E[k]?=some s1:=⟨_,Yf (by rw[<- b9.out];exact U)⟩
     obtain⟨b,off,a2,I,J,K,R,M,P,T,M1,M2,M3,M4,a0,G,X,rfl,d4,e0,e1,e2,e3,e4,e5,e6,a⟩:=Zeu ih h3 c5 d5 (d3.out.below g.out.below) hs1 C.out j (c9.out.keep g.out.below h3) (by omega) (by omega) (by rw[Q.out];omega);have c6:b<l.heap.size:=by omega
     have c:Below l.heap.size l (l.alloc (.cells #[.int .i64 a0,.int .i64 G,.string X,.slice a2 M1 I,.slice J M2 K,.slice R M3 M,.slice P M4 T] 149)):=(Yh _ _).alloc (Yb _) _;have i:=Ya (a _ c);have F:=Ya (CK.of c j);clear a c hs1;go_wp2_with fail
     refine i.out.mono ?_;rintro e w8 ⟨rfl,g1,g2⟩;go_wp2_with fail
     go_roundw
     case rel=>exact⟨k+1,by omega,by go_num,Ya g1,Ya (g.out.trans (F.out.trans g2))⟩
     case measure=>simp[intOf];omega
    .have hkN:t=k:=by omega
     subst hkN;have ht:E.take t=E:=by rw[b9.out,Yam]
     rw[ht] at C;clear ht q6;generalize bSs h E RB.2=RE' at *;have Hj:=Ya (Zim C.out j (by rw[Yd,Q.out];omega) l2);go_wp2_with fail
     refine Hj.out.mono ?_;rintro e w9 ⟨rfl,g1,g2⟩;go_wp2_with fail
     go_end0
     refine⟨rfl,?_,x.out.trans (c8.out.trans (g.out.trans g2))⟩;rw[b7.out] at g1
     show CAt base p h (q++ys) _ w9
     rw[d9.out]
     simpa[Yp] using g1
theorem Z4w {base p n:Nat}{h:CH}(hO:HOk h)(ih:Stm base p h n)(h3:3<=base)(s:BS)(c:BE)(X:s.exprs=[c])(hf0:formedE h.r.locals c=true)(e8:szE c<=1000000)(F J G A4:Option Addr)(c1 c2 c3 c4 d:Nat)(E:List S.Item)(lab:Int)(w:World)(a9:Zh3 s.body<=n)(c9:chkSs h.r.locals s.body d=0)(hn:n<=1000000)
 (H:CAt base p h E lab w) (d0:base<=w.heap.size) (hp:SPart w base s F J G A4) (hL:LVE w) (h0:0<=lab)
 (ys:List S.Item) (A:ys=[bL (bLab (lab+1))]++bExpr h.fr h.r.locals c 0++[bU 11 (bLab (lab+2))]++(bSs h s.body (lab+2)).1++[bJ 0 (bLab (lab+1)),bL (bLab (lab+2))]) (hl:E.length+ys.length+10<=100000000) (h1:lab+ys.length+10<=1000000000) :
 Calls prog 258 #[.pointer (some ⟨p,0,none⟩),.agg #[.int .i64 s.op,.int .i64 s.n,.string s.name,.slice F s.exprs.length c1,.slice J s.regs.length c2,.slice G s.body.length c3,.slice A4 s.els.length c4],Zup p] w (Z2i base p h E (ys,(bSs h s.body (lab+2)).2) w):=by
 have P:=Zdj s.body;have HB:=Ya hp.body;have v:=hp.exprs;rw[X] at v⊢;have HE:=Ya v;obtain⟨op,Y,nm,N2,K,d2⟩:∃op Y nm N2 K,op=s.op/\Y=s.n/\nm=s.name/\N2=s.regs.length/\K=s.els.length:=⟨_,_,_,_,_,rfl,rfl,rfl,rfl,rfl⟩
 obtain⟨o1,o2,o3,o4,o5⟩:=d2;rw[<- o1,<- o2,<- o3,<- o4,<- o5,show [c].length=1 from rfl];clear o1 o2 o3 o4 o5 hp X v;generalize s.body=B at *;obtain⟨j,y⟩:∃N,N=B.length:=⟨_,rfl⟩
 rw[<- y] at P⊢;have L:=Ya y;have I:ys.length=1+(bExpr h.fr h.r.locals c 0).length+1+(bSs h B (lab+2)).1.length+2:=by
  rw[A];simp only[Yd,Yj,Yab]
 rw[I] at hl h1;have d4:=Ya A;have q:Below w.heap.size w (w.alloc (.cells #[.int .i64 op,.int .i64 Y,.string nm,.slice F 1 c1,.slice J N2 c2,.slice G j c3,.slice A4 K c4] 149)):=(Yh _ _).alloc (Yb _) _;have a1:=heap_alloc_new w (.cells #[.int .i64 op,.int .i64 Y,.string nm,.slice F 1 c1,.slice J N2 c2,.slice G j c3,.slice A4 K c4] 149);have o:=Ya (CK.of q d0);have H2:=Ya (H.keep q);have HL:=Ya (hL.on q);have a0:=Ya a1;clear y I A q a1 H hL;go_enter func258,ntmps258
 go_upto_region 1 with fail
 generalize w.alloc (.cells #[.int .i64 op,.int .i64 Y,.string nm,.slice F 1 c1,.slice J N2 c2,.slice G j c3,.slice A4 K c4] 149)=w2 at *;have O:base<=w2.heap.size:=by have:=o.out.size;omega
 go_wp2_with fail
 refine(Zlp H2.out O h3 HL.out ⟨h0,by omega⟩).mono ?_;rintro e w3 ⟨rfl,g1,g2⟩;have V:base<=w3.heap.size:=by have:=g2.size;omega
 go_wp2_with fail
 refine(Zlp g1 V h3 (HL.out.keep g2.below h3) ⟨by omega,by omega⟩).mono ?_;rintro e w4 ⟨rfl,l,i⟩;have Z:base<=w4.heap.size:=by have:=i.size;omega
 rw[show lab+1+1=lab+2 from by omega] at l⊢;have M:=Ya (Zim l Z (by omega) (bLab (lab+1)));generalize bLab (lab+1)=l1 at *;generalize bLab (lab+2)=l2 at *;go_wp2_with fail
 refine M.out.mono ?_;rintro e w5 ⟨rfl,g5,g6⟩;have a6:base<=w5.heap.size:=by have:=g6.size;omega
 have f:=Ya (((g2.trans i).trans g6));have W:=Ya (HL.out.keep f.out.below h3);have C:=Ya (f.out.keep _ _ _ _ a0.out (by decide) (by decide));have q3:w5.cell? ⟨w.heap.size,3,none⟩=some (.slice F 1 c1):=by rw[Yc C.out];rfl
 obtain⟨b,off,A',c',rfl,e9,k0,k1,k2,k3,k4,k5,k6⟩:=(HE.out.below (o.out.trans f.out).below).at_ (k:=0) (e:=c) rfl;rw[Nat.zero_mul,Nat.add_zero] at k0 k1 k2 k3;have e7:b<w5.heap.size:=by omega
 have Hx:=Ya (Z07 hO (szE c) c A' c' 0 _ _ w5 (Yb _) hf0 (by omega) g5 a6 k6 k4 (by rw[Yd];show _+1+_+10<=_;omega));have a2:=Ya (HB.out.below (o.out.trans f.out).below);have a5:(bExpr h.fr h.r.locals c 0).length=(bExpr h.fr h.r.locals c 0).length:=rfl;generalize bExpr h.fr h.r.locals c 0=xe at *;generalize c.op=op0 at *;generalize c.n=en0 at *;generalize c.name=nm0 at *;generalize c.kids.length=kl0 at *;clear g1 g2 l i g5 g6 M O V Z HL a0 HB HE H2 k4 k5 k6 a5;go_wp2_with fail
 refine Hx.out.mono ?_;rintro e w6 ⟨rfl,g1,g2⟩;have U:base<=w6.heap.size:=by have:=g2.size;omega
 have M:=Ya (Zq5 g1 U (by simp only[Yd,Yj,Yab];omega) 11 l2);go_wp2_with fail
 refine M.out.mono ?_;rintro e w7 ⟨rfl,l,i⟩;have d9:base<=w7.heap.size:=by have:=i.size;omega
 have a:=Ya (g2.trans i);have b5:=Ya (W.out.keep a.out.below h3);have b8:=Ya (a.out.keep _ _ _ _ C.out (by decide) (by decide));have q5:w7.cell? ⟨w.heap.size,5,none⟩=some (.slice G j c3):=by rw[Yc b8.out];rfl
 have Q:=Ya l;have b7:=Ya (a2.out.below a.out.below);have b6:=Ya (f.out.trans a.out);have m:=Ya (show(E++[bL l1]++xe++[bU 11 l2]).length=E.length+1+xe.length+1 from by simp only[Yd,Yj,Yab]);obtain⟨b9,g⟩:∃z,z=E++[bL l1]++xe++[bU 11 l2]:=⟨_,rfl⟩
 rw[<- g] at Q m;have a3:=Ya g;clear g g1 g2 l i M Hx U a2 W C a q3 k0 k1 k2 k3;go_wp2_with fail
 go_loopw [29] (λ x wr=>∃k:Nat,k<=j/\x=.int .i64 k/\Hid (CAt base p h (b9++(bSs h (B.take k) (lab+2)).1) (bSs h (B.take k) (lab+2)).2 wr)/\Hid (CK base w7 wr)) (λ x _=>j-(intOf x).toNat)
 case atStart=>exact⟨0,by omega,rfl,Ya (by simpa[bStmts] using Q.out),Ya (CK.refl _ _)⟩
 case round =>
  obtain⟨k,hk,rfl,HC,R⟩:=hrel;obtain⟨wo,b3⟩:=Yx wr;subst b3;have D:base<=wo.heap.size:=by have:=R.out.size;omega
  by_cases c7:k<j
  .obtain⟨s1,hs1⟩:∃s1,B[k]?=some s1:=⟨_,Yf (by rw[<- L.out];exact c7)⟩
   obtain⟨b',d6,d3,a7,a8,b1,c5,b2,c0,c6,M1,M2,M3,M4,d1,d5,c8,rfl,d8,c,e1,e2,e3,e4,e5,e6,t⟩:=Zeu ih h3 a9 c9 (b7.out.below R.out.below) hs1 HC.out D (b5.out.keep R.out.below h3) (by omega) (by omega) (by rw[m.out];omega);have d7:b'<wo.heap.size:=by omega
   have u:Below wo.heap.size wo (wo.alloc (.cells #[.int .i64 d1,.int .i64 d5,.string c8,.slice d3 M1 a7,.slice a8 M2 b1,.slice c5 M3 b2,.slice c0 M4 c6] 149)):=(Yh _ _).alloc (Yb _) _;have T:=Ya (t _ u);have a4:=Ya (CK.of u D);clear t u hs1;go_wp2_with fail
   refine T.out.mono ?_;rintro e w8 ⟨rfl,g1,g2⟩;go_wp2_with fail
   go_roundw
   case rel=>exact⟨k+1,by omega,by go_num,Ya g1,Ya (R.out.trans (a4.out.trans g2))⟩
   case measure=>simp[intOf];omega
  .have hkN:j=k:=by omega
   subst hkN;have ht:B.take j=B:=by rw[L.out,Yam]
   rw[ht] at HC;clear ht q5;generalize bSs h B (lab+2)=RB at *;have Hj:=Ya (Zq4 HC.out D (by rw[Yd,m.out];omega) 0 l1);go_wp2_with fail
   refine Hj.out.mono ?_;rintro e w8 ⟨rfl,g1,g2⟩;have b4:base<=w8.heap.size:=by have:=g2.size;omega
   have b0:=Ya (Zim g1 b4 (by rw[Yd,Yd,m.out];show _+1<=_;omega) l2);go_wp2_with fail
   refine b0.out.mono ?_;rintro e w9 ⟨rfl,l,i⟩;go_wp2_with fail
   go_end0
   refine⟨rfl,?_,o.out.trans (b6.out.trans (R.out.trans (g2.trans i)))⟩;rw[a3.out] at l
   show CAt base p h (E++ys) _ w9
   rw[d4.out]
   simpa[Yp] using l
