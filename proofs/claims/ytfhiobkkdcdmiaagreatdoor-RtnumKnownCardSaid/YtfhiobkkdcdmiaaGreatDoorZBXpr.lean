/- Parts. -/
import Derived.Test.YtfhiobkkdcdmiaaGreatDoorZBCal
set_option linter.all false
set_option maxHeartbeats 4000000
open Go.Lib renaming hid->Ya,cell_of_heap->Yc,frozen_of_heap->Yal
open Nat renaming le_refl->Yb,le_trans->Y1
open List renaming length_append->Yd,length_cons->Yi,append_assoc->Ym,cons_append->Y5
open Go.AllReady renaming cons->Yj,nil->Yp
open Bool renaming and_eq_true->Yr
namespace Go.Proofs.YtfhiobkkdcdmiaaGreatDoor
set_option maxRecDepth 100000
open Go.RowKit
theorem Zfi (fr L:Int)(e:S.BE):∀ (l:List S.BE) (i:Nat),S.bExprs fr L (l++[e]) i=S.bExprs fr L l i++S.bExpr fr L e (i+l.length)
 | [],i=>by simp [S.bExprs]
 | x::r,i=>by
  rw [Y5,S.bExprs,S.bExprs,Zfi fr L e r (i+1),Ym,Yi];have:i+1+r.length=i+(r.length+1):=by omega
  rw [this]
theorem Zf7 (fr L:Int)(m:List S.BE):∀ (l:List S.BE) (i:Nat),S.bExprs fr L (l++m) i=S.bExprs fr L l i++S.bExprs fr L m (i+l.length)
 | [],i=>by simp [S.bExprs]
 | x::r,i=>by
  rw [Y5,S.bExprs,S.bExprs,Zf7 fr L m r (i+1),Ym,Yi];have:i+1+r.length=i+(r.length+1):=by omega
  rw [this]
theorem Zi3 (fr L:Int)(l:List S.BE)(i k:Nat):(S.bExprs fr L (l.take k) i).length<=(S.bExprs fr L l i).length:=by
 have:=Zf7 fr L (l.drop k) (l.take k) i;rw [List.take_append_drop] at this;rw [this,Yd];omega
theorem Zx9 (fr L:Int)(e:S.BE)(at_:Nat):S.bExpr fr L e at_=S.bExprs fr L e.kids at_++S.bOp fr L e.op e.n e.name e.kids.length at_:=by
 obtain ⟨op,n,nm,kids⟩:=e;rw [S.bExpr];rfl
theorem Zej (L:Int):∀ {l:List S.BE},S.formedEs L l=true->∀ e∈l,S.formedE L e=true
 | x::r,h,e,he=>by
  rw [S.formedEs,Yr] at h;rcases List.mem_cons.1 he with rfl | he
  ·exact h.1
  ·exact Zej L h.2 e he
theorem Zlr {L:Int}{e:S.BE}(h:S.formedE L e=true):S.headE L e.op e.n e.name e.kids.length=true/\S.formedEs L e.kids=true:=by
 obtain ⟨op,n,nm,kids⟩:=e;rw [S.formedE,Yr] at h;exact h
theorem Zpq:∀ {l:List S.BE} {k:Nat} {e:S.BE},l[k]?=some e->k+szE e<=Ze8 l
 | [],k,e,h=>by simp at h
 | x::r,0,e,h=>by
  simp only [List.getElem?_cons_zero,Option.some.injEq] at h;subst h;rw [Ze8];omega
 | x::r,k+1,e,h=>by
  have h1:=Zpq (l:=r) (k:=k) (e:=e) (by simpa using h);have:=Zdp x;rw [Ze8];omega
theorem Zpr {L op n:Int}{nm:ByteArray}{N:Nat}(h:S.headE L op n nm N=true):(1<=op/\op<=10)/\(op=1->-2147483648<=n/\n<=4294967295)/\(op=2->0<=n/\n<L)/\N=S.kidsE op N:=by
 unfold S.headE at h;simp only [Yr,decide_eq_true_eq] at h;obtain ⟨⟨⟨⟨h1,h2⟩,h3⟩,_⟩,_⟩:=h;refine ⟨h1,fun e=>?_,fun e=>?_,h3⟩
 ·subst e;unfold S.numE at h2;rw [if_pos rfl] at h2;have:=of_decide_eq_true h2;omega
 ·subst e;unfold S.numE at h2;rw [if_neg (by decide),if_pos rfl] at h2;exact of_decide_eq_true h2
theorem Zps (n:Int)(hn:0<=n/\n<=1000000)(w:World):Calls Tryz.prog 188 #[.int .i64 n] w fun e w'=>e=.returned (.int .i64 (1+n))/\w'=w:=by
 go_enter Tryz.func188,Tryz.ntmps188
 go_wp2_with fail
 go_ret
 exact ⟨rfl,rfl⟩
def Exp (base p:Nat)(h:CH)(n:Nat):Prop:=∀ (e:S.BE) (A:Option Addr) (c at_:Nat) (xs:List S.Item) (lab:Int) (w:World),szE e<=n->S.formedE h.r.locals e=true->at_+szE e<=1000000->CAt base p h xs lab w->base<=w.heap.size->EList w base A e.kids->e.name.size<=maxLen ->
 xs.length+(S.bExpr h.fr h.r.locals e at_).length+10<=100000000 ->
 Calls Tryz.prog 212 #[.pointer (some ⟨p,0,none⟩),.agg #[.int .i64 e.op,.int .i64 e.n,.string e.name,.slice A e.kids.length c],.int .i64 (at_:Int)] w (Zh0 base p h xs (S.bExpr h.fr h.r.locals e at_) lab w)
theorem Zzw {base p:Nat}{h:CH}(hO:HOk h):∀ n,Exp base p h n:=by
 intro n
 induction n with
 | zero=>intro e A c at_ xs lab w hs;have:=Zdp e;omega
 | succ n ih =>
  intro e A c at_ xs lab w hs hF hat H hbw hA hnm hl;obtain ⟨hh,hFs⟩:=Zlr hF;have hsp:=Zdp e;have hle:=Zew e.kids;rw [Zx9] at hl ⊢;have Hih:=Ya ih;have HA:=Ya hA;have Hh:=Ya hh;have HFs:=Ya hFs;have Hkn:=Ya (fun e' k (he:e.kids[k]?=some e')=>(show szE e'<=n/\at_+k+szE e'<=1000000 from by have:=Zpq he;omega));obtain ⟨kids,hkids⟩:∃ k,k=e.kids:=⟨_,rfl⟩
  obtain ⟨N,hN⟩:=Yx kids.length;rw [<- hkids] at HA Hh HFs Hkn hl hsp hle ⊢;rw [<- hN] at Hh hl hle ⊢;have HN:=Ya hN;generalize e.op=op at *;generalize e.n=en at *;generalize e.name=nm at *;clear hkids hN ih hA hF hh hFs;have hbX:Below w.heap.size w (w.alloc (.cells #[.int .i64 op,.int .i64 en,.string nm,.slice A N c] 111)):=(Below.refl _ _).alloc (Yb _) _;have hrX:=heap_alloc_new w (.cells #[.int .i64 op,.int .i64 en,.string nm,.slice A N c] 111);have HbX:=Ya (CK.of hbX hbw);have H2:=Ya (H.keep hbX);have HRX:=Ya hrX;clear H hbX hrX;go_enter Tryz.func212,Tryz.ntmps212
  go_upto_region 1 with fail
  generalize w.alloc (.cells #[.int .i64 op,.int .i64 en,.string nm,.slice A N c] 111)=w2 at *;have q3:w2.cell? ⟨w.heap.size,3,none⟩=some (.slice A N c):=by rw [Yc HRX.out];rfl
  go_wp2_with fail
  obtain ⟨oitems,hoi⟩:∃ o,o=S.bOp h.fr h.r.locals op en nm N at_:=⟨_,rfl⟩
  rw [<- hoi] at hl ⊢;have Hoi:=Ya hoi;clear hoi;rw [Yd] at hl;have HKL:=Ya (fun k=>Zi3 h.fr h.r.locals kids at_ k);go_loopw [14] (fun v14 wr=>∃ k:Nat,k<=N/\v14=.int .i64 k/\Hid (CAt base p h (xs++S.bExprs h.fr h.r.locals (kids.take k) at_) lab wr)/\Hid (CK base w2 wr)) (fun v14 _=>N-(intOf v14).toNat)
  case atStart=>exact ⟨0,by omega,rfl,Ya (by simpa [S.bExprs] using H2.out),Ya (CK.refl _ _)⟩
  case round =>
   obtain ⟨k,hk,rfl,HC,HK⟩:=hrel;obtain ⟨wo,hwo⟩:=Yx wr;subst hwo;have hso:base<=wo.heap.size:=by have:=HK.out.size;have:=HbX.out.size;omega
   by_cases hlt:k<N
   ·obtain ⟨e1,he1⟩:∃ e1,kids[k]?=some e1:=⟨_,List.getElem?_eq_getElem (by rw [<- HN.out];exact hlt)⟩
    obtain ⟨b,off,A',c',rfl,hbB,q0,q1,q2,q3',q4,q5,q6⟩:=(HA.out.below (HbX.out.trans HK.out).below).at_ he1;have hmem:=List.mem_of_getElem? he1;obtain ⟨hz1,hz2⟩:=Hkn.out e1 k he1;have hkl:(kids.take k).length=k:=by have:=HN.out;rw [List.length_take];omega
    have hnx:S.bExprs h.fr h.r.locals (kids.take (k+1)) at_=S.bExprs h.fr h.r.locals (kids.take k) at_++S.bExpr h.fr h.r.locals e1 (at_+k):=by rw [Zdq kids he1,Zfi,hkl]
    have hkl1:=HKL.out (k+1);rw [hnx,Yd] at hkl1;have hbr:b<wo.heap.size:=by omega
    have hbY:Below wo.heap.size wo (wo.alloc (.cells #[.int .i64 e1.op,.int .i64 e1.n,.string e1.name,.slice A' e1.kids.length c'] 111)):=(Below.refl _ _).alloc (Yb _) _;have hrec:=Hih.out e1 A' c' (at_+k) (xs++S.bExprs h.fr h.r.locals (kids.take k) at_) lab (wo.alloc (.cells #[.int .i64 e1.op,.int .i64 e1.n,.string e1.name,.slice A' e1.kids.length c'] 111)) hz1 (Zej _ HFs.out e1 hmem) (by omega) (HC.out.keep hbY) (Y1 hso hbY.size) (q6.below (hbY.mono hso)) q4 (by rw [Yd];omega);have Hnx:=Ya hnx;have HbY:=Ya (CK.of hbY hso);clear hnx hkl1 hbY hkl;generalize S.bExpr h.fr h.r.locals e1 (at_+k)=zs at *;generalize e1.op=op' at *;generalize e1.n=en' at *;generalize e1.name=nm' at *;generalize e1.kids.length=N' at *;rw [show ((at_+k:Nat):Int)=(at_:Int)+(k:Int) from by omega] at hrec;have Hrec:=Ya hrec;clear hrec q4 q5 q6 he1 hmem hz1 hz2;go_wp2_with fail
    refine Hrec.out.mono ?_;rintro e w4 ⟨rfl,h3,h4⟩;go_wp2_with fail
    go_roundw
    case rel=>exact ⟨k+1,by omega,by go_num,Ya (by rw [Hnx.out,<- Ym];exact h3),Ya (HK.out.trans (HbY.out.trans h4))⟩
    case measure=>simp [intOf];omega
   ·have hkN:N=k:=by omega
    subst hkN;have Hrow:=Ya (HK.out.keep w.heap.size _ _ _ HRX.out (by decide) (by decide));have c0:wo.cell? ⟨w.heap.size,0,none⟩=some (.int .i64 op):=by rw [Yc Hrow.out];rfl
    have c1:wo.cell? ⟨w.heap.size,1,none⟩=some (.int .i64 en):=by rw [Yc Hrow.out];rfl
    have c2:wo.cell? ⟨w.heap.size,2,none⟩=some (.string nm):=by rw [Yc Hrow.out];rfl
    have c3:wo.cell? ⟨w.heap.size,3,none⟩=some (.slice A N c):=by rw [Yc Hrow.out];rfl
    have ht:kids.take N=kids:=by rw [HN.out,List.take_length]
    rw [ht] at HC;clear ht q3;generalize S.bExprs h.fr h.r.locals kids at_=ks at *;obtain ⟨⟨o1,o2⟩,hcon,hloc,-⟩:=Zpr Hh.out;have hcz:(xs++ks).length=xs.length+ks.length:=Yd;clear Hh HA HFs Hkn HKL;rcases (show op=1\/op=2\/op=3\/op=4\/op=5\/op=6\/op=7\/op=8\/op=9\/op=10 by omega) with rfl | rfl | rfl | rfl | rfl | rfl | rfl | rfl | rfl | rfl
    ·have Hob:=Ya (show S.bOp h.fr h.r.locals 1 en nm N at_=S.bConst (11+(at_:Int)) en from rfl)
     have Hc:=Ya (Zki HC.out hso (by rw [hcz];omega) (11+(at_:Int)) en (by have:=hcon rfl;omega));clear hcon hloc;go_wp2_with fail
     refine Hc.out.mono ?_;rintro e w4 ⟨rfl,h3,h4⟩;go_wp2_with fail
     go_end0
     refine ⟨rfl,?_,HbX.out.trans (HK.out.trans h4)⟩;rw [Hob.out,<- Ym];exact h3
    ·have Hob:=Ya (show S.bOp h.fr h.r.locals 2 en nm N at_=[S.bLoad h.fr (11+(at_:Int)) (1+en)] from rfl)
     have Hlo:=Ya (Zps en (by have:=hloc rfl;have:=hO.l1;omega) wo);have Hc:=Ya (Zts HC.out hso (by rw [hcz];omega) hO (11+(at_:Int)) (1+en) (by have:=hloc rfl;have:=hO.l1;omega));clear hcon hloc;go_wp2_with fail
     refine Hlo.out.mono ?_;rintro e w3 ⟨rfl,rfl⟩;go_wp2_with fail
     refine Hc.out.mono ?_;rintro e w4 ⟨rfl,h3,h4⟩;go_wp2_with fail
     go_end0
     refine ⟨rfl,?_,HbX.out.trans (HK.out.trans h4)⟩;rw [Hob.out,<- Ym];exact h3
    ·have Hob:=Ya (show S.bOp h.fr h.r.locals 3 en nm N at_=[S.bMove (11+(at_:Int)) en] from rfl)
     have Hc:=Ya (Zmy HC.out hso (by rw [hcz];omega) (11+(at_:Int)) en);clear hcon hloc;go_wp2_with fail
     refine Hc.out.mono ?_;rintro e w4 ⟨rfl,h3,h4⟩;go_wp2_with fail
     go_end0
     refine ⟨rfl,?_,HbX.out.trans (HK.out.trans h4)⟩;rw [Hob.out,<- Ym];exact h3
    ·have Hob:=Ya (show S.bOp h.fr h.r.locals 4 en nm N at_=[S.bI en (11+(at_:Int)) (11+(at_:Int)) (11+(at_:Int)+1) 0] from by show [S.bI en _ _ (12+(at_:Int)) 0]=_;rw [show 11+(at_:Int)+1=12+(at_:Int) from by omega])
     have Hc:=Ya (Zb1 HC.out hso (by rw [hcz];omega) en (11+(at_:Int)) (11+(at_:Int)) (11+(at_:Int)+1) 0);clear hcon hloc;go_wp2_with fail
     refine Hc.out.mono ?_;rintro e w4 ⟨rfl,h3,h4⟩;go_wp2_with fail
     go_end0
     refine ⟨rfl,?_,HbX.out.trans (HK.out.trans h4)⟩;rw [Hob.out,<- Ym];exact h3
    ·have Hob:=Ya (show S.bOp h.fr h.r.locals 5 en nm N at_=[S.bI 24 (11+(at_:Int)) (11+(at_:Int)) 0 en] from rfl)
     have Hc:=Ya (Zb1 HC.out hso (by rw [hcz];omega) 24 (11+(at_:Int)) (11+(at_:Int)) 0 en);clear hcon hloc;go_wp2_with fail
     refine Hc.out.mono ?_;rintro e w4 ⟨rfl,h3,h4⟩;go_wp2_with fail
     go_end0
     refine ⟨rfl,?_,HbX.out.trans (HK.out.trans h4)⟩;rw [Hob.out,<- Ym];exact h3
    ·have Hob:=Ya (show S.bOp h.fr h.r.locals 6 en nm N at_=S.bCall h.fr h.r.locals nm N at_ from rfl)
     have Hc:=Ya (Z3a HC.out hso hO 6 en nm A N c at_ (by omega) (by omega) (by rw [hcz,<- Hob.out,<- Hoi.out];omega));clear hcon hloc;go_wp2_with fail
     refine Hc.out.mono ?_;rintro e w4 ⟨rfl,h3,h4⟩;go_wp2_with fail
     go_end0
     refine ⟨rfl,?_,HbX.out.trans (HK.out.trans h4)⟩;rw [Hob.out,<- Ym];exact h3
    ·have Hob:=Ya (show S.bOp h.fr h.r.locals 7 en nm N at_=[S.bI 9 (11+(at_:Int)) (11+(at_:Int)) (11+(at_:Int)+1) 0]++S.bConst (11+(at_:Int)+1) 1++[S.bI 14 (11+(at_:Int)) (11+(at_:Int)) (11+(at_:Int)+1) 0] from by
      show [S.bI 9 _ _ (12+(at_:Int)) 0]++S.bConst (12+(at_:Int)) 1++[S.bI 14 _ _ (12+(at_:Int)) 0]=_
      rw [show 11+(at_:Int)+1=12+(at_:Int) from by omega])
     have Hc:=Ya (Zb1 HC.out hso (by rw [hcz];omega) 9 (11+(at_:Int)) (11+(at_:Int)) (11+(at_:Int)+1) 0);clear hcon hloc;go_wp2_with fail
     refine Hc.out.mono ?_;rintro e w4 ⟨rfl,h3,h4⟩;have Hc2:=Ya (Zki h3 (by have:=h4.size;omega) (by rw [Yd,hcz];show _+1+1<=_;omega) (11+(at_:Int)+1) 1 (by omega));have hr4:=h4.keep _ _ _ _ Hrow.out (by decide) (by decide);go_wp2_with fail
     refine Hc2.out.mono ?_;rintro e w5 ⟨rfl,h5,h6⟩;have Hc3:=Ya (Zb1 h5 (by have:=h4.size;have:=h6.size;omega) (by rw [Yd,Yd,hcz];show _+1+1<=_;omega) 14 (11+(at_:Int)) (11+(at_:Int)) (11+(at_:Int)+1) 0);go_wp2_with fail
     refine Hc3.out.mono ?_;rintro e w6 ⟨rfl,h7,h8⟩;go_wp2_with fail
     go_end0
     refine ⟨rfl,?_,HbX.out.trans (HK.out.trans ((h4.trans h6).trans h8))⟩;rw [Hob.out]
     simpa [Ym] using h7
    ·have Hob:=Ya (show S.bOp h.fr h.r.locals 8 en nm N at_=[S.bI 34 (11+(at_:Int)) 0 0 0] from rfl)
     have Hc:=Ya (Zb1 HC.out hso (by rw [hcz];omega) 34 (11+(at_:Int)) 0 0 0);clear hcon hloc;go_wp2_with fail
     refine Hc.out.mono ?_;rintro e w4 ⟨rfl,h3,h4⟩;go_wp2_with fail
     go_end0
     refine ⟨rfl,?_,HbX.out.trans (HK.out.trans h4)⟩;rw [Hob.out,<- Ym];exact h3
    ·have Hob:=Ya (show S.bOp h.fr h.r.locals 9 en nm N at_=[S.bA (11+(at_:Int)) nm] from rfl)
     clear hcon hloc;go_wp2_with fail
     refine wp_region_any (by kernel_rfl) ?_;change wpAny _ _ _ _ _ _ _ (World.drew wo);have hdb:Below wo.heap.size wo wo.drew:=⟨rfl,rfl,rfl,Yb _,fun _ _=>rfl⟩
     have hwlt:w.heap.size<wo.heap.size:=by
      rcases Nat.lt_or_ge w.heap.size wo.heap.size with h' | h'
      ·exact h'
      ·have:=Hrow.out;simp [Array.getElem?_eq_none h'] at this
     have H3:=HC.out.keep hdb;have hr3:=(hdb.block _ hwlt).trans Hrow.out;have Hb3:=Ya (HK.out.trans (CK.of hdb hso));have hbw2:base<=wo.drew.heap.size:=Y1 hso hdb.size;clear c0 c1 c2 c3 hdb HC Hrow;generalize wo.drew=w3 at *;have q2:w3.cell? ⟨w.heap.size,2,none⟩=some (.string nm):=by rw [Yc hr3];rfl
     have hzl:(xs++ks).length<=100000000:=by rw [hcz];omega
     obtain ⟨zs,hzs⟩:=Yx (xs++ks);rw [<- hzs] at H3 hzl;have Hzs:=Ya hzs;clear hcz hzs;have hlt:=H3.lt;obtain ⟨hlow,v,hk,ho⟩:=H3;have c6:w3.cell? ⟨p,6,none⟩=some v:=by rw [Yc hk];rfl
     have Hk:=Ya hk;have Ho:=Ya ho;obtain ⟨A',c',rfl⟩:=Zb ho;clear hk ho hr3
     (refine wpAny_take (i:=0) (v:=?vv13) rfl (by kernel_rfl) (by kernel_rfl) (by kernel_rfl) (fun _ _ _ h=>h) (Or.inl ⟨by rfl,?yy13⟩) ?zz13;(case yy13=>intro w;go_simp;try with_reducible rfl);go_simp)
     (refine wpAny_take (i:=1) (v:=?vv14) rfl (by kernel_rfl) (by kernel_rfl) (by kernel_rfl) (fun _ _ _ h=>h) (Or.inl ⟨by rfl,?yy14⟩) ?zz14;(case yy14=>intro w;go_simp;try with_reducible rfl);go_simp)
     (refine wpAny_take (i:=2) (v:=?vv15) rfl (by kernel_rfl) (by kernel_rfl) (by kernel_rfl) (fun _ _ _ h=>h) (Or.inl ⟨by rfl,?yy15⟩) ?zz15;(case yy15=>intro w;go_simp;try with_reducible rfl);go_simp)
     (refine wpAny_take (i:=3) (v:=?vv16) rfl (by kernel_rfl) (by kernel_rfl) (by kernel_rfl) (fun _ _ _ h=>h) (Or.inl ⟨by rfl,?yy16⟩) ?zz16;(case yy16=>intro w;go_simp;try with_reducible rfl);go_simp)
     (refine wpAny_take (i:=5) (v:=?vv17) rfl (by kernel_rfl) (by kernel_rfl) (by kernel_rfl) (fun _ _ _ h=>h) (Or.inl ⟨by rfl,?yy17⟩) ?zz17;(case yy17=>intro w;go_simp;try with_reducible rfl);go_simp)
     (refine wpAny_take (i:=6) (v:=?vv18) rfl (by kernel_rfl) (by kernel_rfl) (by kernel_rfl) (fun _ _ _ h=>h) (Or.inl ⟨by rfl,?yy18⟩) ?zz18;(case yy18=>intro w;go_simp;try with_reducible rfl);go_simp)
     (refine wpAny_take (i:=7) (v:=?vv19) rfl (by kernel_rfl) (by kernel_rfl) (by kernel_rfl) (fun _ _ _ h=>h) (Or.inl ⟨by rfl,?yy19⟩) ?zz19;(case yy19=>intro w;go_simp;try with_reducible rfl);go_simp)
     refine wpAny_ready (rs:=[4,8]) (by kernel_rfl) (by simp) ?_;refine Yj rfl (fun K hK=>?_) (Yj rfl (fun K hK=>?_) Yp)
     ·go_simp
      refine hK _ _ ?_;clear hK K
      (refine wpAny_ready (rs:=[8]) (by kernel_rfl) (by simp) ?_;refine Yj rfl (fun K hK=>?_) Yp;go_simp;refine hK _ _ ?_;clear hK K)
      (refine wpAny_take (i:=9) (v:=?vv20) rfl (by kernel_rfl) (by kernel_rfl) (by kernel_rfl) (fun _ _ _ h=>h) (Or.inl ⟨by rfl,?yy20⟩) ?zz20;(case yy20=>intro w;go_simp;try with_reducible rfl);go_simp)
      (refine wpAny_ready (rs:=[10]) (by kernel_rfl) (by simp) ?_;refine Yj rfl (fun K hK=>?_) Yp;go_simp;refine hK _ _ ?_;clear hK K)
      refine wpAny_ready (rs:=[11]) (by kernel_rfl) (by simp) ?_;refine Yj rfl (fun K hK=>?_) Yp;rw [if_pos (by simp [Region.wanted])];refine Zd9 (.tmp 108) (.tmp 114) _ rfl base 74 Za2 Tryz.underlying68 rfl (by decide) (Zc (S.bA (11+(at_:Int)) nm)).toArray _ _ _ rfl Ho.out rfl rfl rfl (by simp [Value.oneCell',Zc]) (by simp only [maxLen];omega) (by omega) hbw2 ?_;intro v' w7 ho7 hg7 hb7 _;obtain ⟨A8,c8,rfl⟩:=Zb ho7;have hk7:=(hg7.block p hlt (fun e=>Zbj Ho.out Hk.out (by decide) e.symm)).trans Hk.out;have f6:w7.frozen? ⟨p,6,none⟩=false:=Yal hk7 6;have d6:∃ u,w7.cell? ⟨p,6,none⟩=some u:=⟨_,by rw [Yc hk7];rfl⟩
      obtain ⟨u6,d6⟩:=d6;refine hK _ _ ?_;clear hK K;go_simp
      (refine wpAny_take (i:=12) (v:=?vv21) rfl (by kernel_rfl) (by kernel_rfl) (by kernel_rfl) (fun _ _ _ h=>h) (Or.inl ⟨by rfl,?yy21⟩) ?zz21;(case yy21=>intro w;go_simp;try with_reducible rfl);go_simp)
      (refine wpAny_take (i:=13) (v:=?vv22) rfl (by kernel_rfl) (by kernel_rfl) (by kernel_rfl) (fun _ _ _ h=>h) (Or.inl ⟨by rfl,?yy22⟩) ?zz22;(case yy22=>intro w;go_simp;try with_reducible rfl);go_simp)
      (refine wpAny_ready (rs:=[14]) (by kernel_rfl) (by simp) ?_;refine Yj rfl (fun K hK=>?_) Yp;go_simp;refine hK _ _ ?_;clear hK K)
      refine wpAny_done (by kernel_rfl) ?_ _;go_wp2_with fail
      go_end0
      obtain ⟨q1,q2⟩:=Zbb (x:=S.bA (11+(at_:Int)) nm) hlow hbw2 Hk.out Ho.out ho7 hg7 hb7;refine ⟨rfl,?_,HbX.out.trans (Hb3.out.trans q2)⟩;rw [Hob.out,<- Ym,<- Hzs.out];exact q1
     ·go_simp
      refine hK _ _ ?_;clear hK K
      (refine wpAny_take (i:=9) (v:=?vv23) rfl (by kernel_rfl) (by kernel_rfl) (by kernel_rfl) (fun _ _ _ h=>h) (Or.inl ⟨by rfl,?yy23⟩) ?zz23;(case yy23=>intro w;go_simp;try with_reducible rfl);go_simp)
      refine wpAny_ready (rs:=[4,10]) (by kernel_rfl) (by simp) ?_;refine Yj rfl (fun K hK=>?_) (Yj rfl (fun K hK=>?_) Yp)
      ·go_simp
       refine hK _ _ ?_;clear hK K
       (refine wpAny_ready (rs:=[10]) (by kernel_rfl) (by simp) ?_;refine Yj rfl (fun K hK=>?_) Yp;go_simp;refine hK _ _ ?_;clear hK K)
       refine wpAny_ready (rs:=[11]) (by kernel_rfl) (by simp) ?_;refine Yj rfl (fun K hK=>?_) Yp;rw [if_pos (by simp [Region.wanted])];refine Zd9 (.tmp 108) (.tmp 114) _ rfl base 74 Za2 Tryz.underlying68 rfl (by decide) (Zc (S.bA (11+(at_:Int)) nm)).toArray _ _ _ rfl Ho.out rfl rfl rfl (by simp [Value.oneCell',Zc]) (by simp only [maxLen];omega) (by omega) hbw2 ?_;intro v' w7 ho7 hg7 hb7 _;obtain ⟨A8,c8,rfl⟩:=Zb ho7;have hk7:=(hg7.block p hlt (fun e=>Zbj Ho.out Hk.out (by decide) e.symm)).trans Hk.out;have f6:w7.frozen? ⟨p,6,none⟩=false:=Yal hk7 6;have d6:∃ u,w7.cell? ⟨p,6,none⟩=some u:=⟨_,by rw [Yc hk7];rfl⟩
       obtain ⟨u6,d6⟩:=d6;refine hK _ _ ?_;clear hK K;go_simp
       (refine wpAny_take (i:=12) (v:=?vv24) rfl (by kernel_rfl) (by kernel_rfl) (by kernel_rfl) (fun _ _ _ h=>h) (Or.inl ⟨by rfl,?yy24⟩) ?zz24;(case yy24=>intro w;go_simp;try with_reducible rfl);go_simp)
       (refine wpAny_take (i:=13) (v:=?vv25) rfl (by kernel_rfl) (by kernel_rfl) (by kernel_rfl) (fun _ _ _ h=>h) (Or.inl ⟨by rfl,?yy25⟩) ?zz25;(case yy25=>intro w;go_simp;try with_reducible rfl);go_simp)
       (refine wpAny_ready (rs:=[14]) (by kernel_rfl) (by simp) ?_;refine Yj rfl (fun K hK=>?_) Yp;go_simp;refine hK _ _ ?_;clear hK K)
       refine wpAny_done (by kernel_rfl) ?_ _;go_wp2_with fail
       go_end0
       obtain ⟨q1,q2⟩:=Zbb (x:=S.bA (11+(at_:Int)) nm) hlow hbw2 Hk.out Ho.out ho7 hg7 hb7;refine ⟨rfl,?_,HbX.out.trans (Hb3.out.trans q2)⟩;rw [Hob.out,<- Ym,<- Hzs.out];exact q1
      ·go_simp
       refine hK _ _ ?_;clear hK K;have c6:(w3.alloc (Obj.cells (Zc (S.bA (11+(at_:Int)) nm)).toArray 74)).cell? ⟨p,6,none⟩=some (.slice A' zs.length c'):=by rw [Yc ((heap_alloc_old _ _ hlt).trans Hk.out)];rfl
       simp only [Zc,S.bA] at c6
       (refine wpAny_ready (rs:=[4]) (by kernel_rfl) (by simp) ?_;refine Yj rfl (fun K hK=>?_) Yp;go_simp;refine hK _ _ ?_;clear hK K)
       refine wpAny_ready (rs:=[11]) (by kernel_rfl) (by simp) ?_;refine Yj rfl (fun K hK=>?_) Yp;rw [if_pos (by simp [Region.wanted])];refine Zd9 (.tmp 108) (.tmp 114) _ rfl base 74 Za2 Tryz.underlying68 rfl (by decide) (Zc (S.bA (11+(at_:Int)) nm)).toArray _ _ _ rfl Ho.out rfl rfl rfl (by simp [Value.oneCell',Zc]) (by simp only [maxLen];omega) (by omega) hbw2 ?_;intro v' w7 ho7 hg7 hb7 _;obtain ⟨A8,c8,rfl⟩:=Zb ho7;have hk7:=(hg7.block p hlt (fun e=>Zbj Ho.out Hk.out (by decide) e.symm)).trans Hk.out;have f6:w7.frozen? ⟨p,6,none⟩=false:=Yal hk7 6;have d6:∃ u,w7.cell? ⟨p,6,none⟩=some u:=⟨_,by rw [Yc hk7];rfl⟩
       obtain ⟨u6,d6⟩:=d6;refine hK _ _ ?_;clear hK K;go_simp
       (refine wpAny_take (i:=12) (v:=?vv26) rfl (by kernel_rfl) (by kernel_rfl) (by kernel_rfl) (fun _ _ _ h=>h) (Or.inl ⟨by rfl,?yy26⟩) ?zz26;(case yy26=>intro w;go_simp;try with_reducible rfl);go_simp)
       (refine wpAny_take (i:=13) (v:=?vv27) rfl (by kernel_rfl) (by kernel_rfl) (by kernel_rfl) (fun _ _ _ h=>h) (Or.inl ⟨by rfl,?yy27⟩) ?zz27;(case yy27=>intro w;go_simp;try with_reducible rfl);go_simp)
       (refine wpAny_ready (rs:=[14]) (by kernel_rfl) (by simp) ?_;refine Yj rfl (fun K hK=>?_) Yp;go_simp;refine hK _ _ ?_;clear hK K)
       refine wpAny_done (by kernel_rfl) ?_ _;go_wp2_with fail
       go_end0
       obtain ⟨q1,q2⟩:=Zbb (x:=S.bA (11+(at_:Int)) nm) hlow hbw2 Hk.out Ho.out ho7 hg7 hb7;refine ⟨rfl,?_,HbX.out.trans (Hb3.out.trans q2)⟩;rw [Hob.out,<- Ym,<- Hzs.out];exact q1
    ·have Hob:=Ya (show S.bOp h.fr h.r.locals 10 en nm N at_=[S.bLoad h.fr (11+(at_:Int)) 0] from rfl)
     have Hc:=Ya (Zts HC.out hso (by rw [hcz];omega) hO (11+(at_:Int)) 0 (by omega));clear hcon hloc;go_wp2_with fail
     refine Hc.out.mono ?_;rintro e w4 ⟨rfl,h3,h4⟩;go_wp2_with fail
     go_end0
     refine ⟨rfl,?_,HbX.out.trans (HK.out.trans h4)⟩;rw [Hob.out,<- Ym];exact h3
end Go.Proofs.YtfhiobkkdcdmiaaGreatDoor
