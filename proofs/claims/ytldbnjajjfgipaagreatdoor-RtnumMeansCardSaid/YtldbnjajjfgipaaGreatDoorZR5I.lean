/- Parts. -/
import Derived.Test.YtldbnjajjfgipaaGreatDoorZR5F
set_option linter.all false
set_option maxHeartbeats 4000000
open Go.Lib renaming hid->Ya,cell_of_heap->Yc
open Nat renaming le_refl->Yb,le_trans->Ym
open Go.RowKit.Below renaming refl->Yh,trans->Yba
open Go.IntWalk renaming i64_in->Yi
open List renaming length_take->Yr,length_map->Yaa,drop_succ_cons->Yag,drop_zero->Yak
open Int renaming le_of_lt->Yaz,eq_ofNat_of_zero_le->Ya0
namespace Go.Proofs.YtldbnjajjfgipaaGreatDoor
open S Go.Proofs.Tryz Go.RowKit
set_option maxRecDepth 100000
structure Box3 (w w3:World)(neg neg':Bool)(v v':Value):Prop where
 bel:Below w.heap.size w w3
 sz:w3.heap.size=w.heap.size+3
 h0:w3.heap[w.heap.size]?=some (.cells #[.bool neg,v] 56 (0,0))
 h1:w3.heap[w.heap.size+1]?=some (.cells #[.bool neg',v'] 56 (0,0))
 h2:w3.heap[w.heap.size+2]?=some (.cells #[.bool false,.slice none 0 0] 56 (0,0))
theorem Zna (w:World)(neg neg':Bool)(v v':Value):Box3 w (((w.alloc (.cells #[.bool neg,v] 56 (0,0))).alloc (.cells #[.bool neg',v'] 56 (0,0))).alloc (.cells #[.bool false,.slice none 0 0] 56 (0,0))) neg neg' v v':=by
 have a:(w.alloc (.cells #[.bool neg,v] 56 (0,0))).heap.size=w.heap.size+1:=by simp
 have b:((w.alloc (.cells #[.bool neg,v] 56 (0,0))).alloc (.cells #[.bool neg',v'] 56 (0,0))).heap.size=w.heap.size+2:=by simp
 refine⟨(Zax (Yb _) _ _).alloc (by omega) _,by simp,?_,?_,?_⟩
 .rw[heap_alloc_old _ _ (by omega),heap_alloc_old _ _ (by omega)]
  exact heap_alloc_new w _
 .rw[heap_alloc_old _ _ (by omega),<- a]
  exact heap_alloc_new _ _
 .rw[<- b]
  exact heap_alloc_new _ _
theorem Box3.cells {w a:World}{neg neg':Bool}{v v':Value}(h:Box3 w a neg neg' v v'):a.cell? ⟨w.heap.size,0,none⟩=some (.bool neg)/\a.cell? ⟨w.heap.size,1,none⟩=some v/\a.cell? ⟨w.heap.size+1,0,none⟩=some (.bool neg')/\a.cell? ⟨w.heap.size+1,1,none⟩=some v':=by
 refine⟨?_,?_,?_,?_⟩
 .rw[Yc h.h0];rfl
 .rw[Yc h.h0];rfl
 .rw[Yc h.h1];rfl
 .rw[Yc h.h1];rfl
theorem Zq1 {neg:Bool}{l a b:List Int}{z c:Int}(h:tz neg l=z)(h':tz neg a=c)(he:dvB 10 b=dvB 10 l+dvB 10 a):tz neg b=z+c:=by
 unfold tz at *
 cases neg <;> simp at*<;> omega
theorem Zj7 {neg neg':Bool}(hs:¬neg=neg'){l a b:List Int}{z c:Int}(h:tz neg l=z)(h':tz neg' a=c)(he:dvB 10 b=dvB 10 l-dvB 10 a):tz neg b=z+c:=by
 unfold tz at *
 cases neg <;> cases neg' <;> simp at*<;> omega
theorem Zq2 {x y:Int}:(decide (ab x y>=0)=decide (y<=x)):=by
 unfold ab;by_cases c:x<y
 .rw[if_pos c,decide_eq_false (by omega),decide_eq_false (by omega)]
 .rw[if_neg c]
  by_cases c2:x=y
  .rw[if_pos c2,decide_eq_true (by omega),decide_eq_true (by omega)]
  .rw[if_neg c2,decide_eq_true (by omega),decide_eq_true (by omega)]
theorem Zdz {neg:Bool}{l:List Int}{z:Int}(h:Nz neg l z):Cn 10 l (dvB 10 l):=⟨h.1.1,h.1.2.1,rfl⟩
theorem Z6l (neg neg':Bool)(A V:Option Addr)(N c L U:Nat)(l J:List Int)(z z':Int)(w:World)(B:Nat)(K:B<=w.heap.size)(h:NumW w B z neg A N c l)(h':NumW w B z' neg' V L U J)(M:Nat)(hl:N<=M)(c0:L<=M)(hM:M<=100000) :
 Calls prog 60 #[Zx neg A N c,Zx neg' V L U] w (Zhd w (z+z') (M+1)):=by
 have HZ:=Ya (Zgs h.z);have a5:=Ya (Zgs h'.z);have H:=Ya h;have t:=Ya h';clear h h';have i:=Zna w neg neg' (.slice A N c) (.slice V L U);unfold Zx;by_cases hs:neg=neg'
 .subst hs
  have d0:(neg==neg)=true:=by simp
  go_enter func60,ntmps60
  go_upto_region 2 with fail
  generalize (((w.alloc (.cells #[.bool neg,.slice A N c] 56 (0,0))).alloc (.cells #[.bool neg,.slice V L U] 56 (0,0))).alloc (.cells #[.bool false,.slice none 0 0] 56 (0,0)))=w3 at i⊢;have d:=Ya i;obtain⟨q0,q1,q2,q3⟩:=i.cells;have a7:=i.sz;have b0:w.heap.size<w3.heap.size:=by omega
  have b1:w.heap.size+1<w3.heap.size:=by omega
  clear i;have b2:w.heap.size+2<w3.heap.size:=by omega
  go_region_with (first
   | (go_at_call 128;refine(Z4e A V N c L U l J H.out.len t.out.len _ B ?_ ?_ ?_ M hl c0 hM H.out.z.1.1 t.out.z.1.1).mono ?_;exact(Ym K d.out.bel.size);exact(H.out.at_.below (Below.drew (d.out.bel.mono K)));exact(t.out.at_.below (Below.drew (d.out.bel.mono K)));rintro e G ⟨I,k4,c4,es,rfl,a9,b7,b5,b3,Z,o⟩;have g:Below w3.heap.size w3 G:=Yba (Below.drew (Yh _ _)) o;have Q:=Ya (Ints.of_own Z);have P:=Ya (Zbt Z);have Y:=Ya (Zds Z);have s:=Ya (λ b off e=>Ym (Nat.le_of_eq a7.symm) (Z.lt b (by rw[e];rfl)).1:∀b off,I=some ⟨b,off,none⟩->w.heap.size+3<=b);have C:=Ya (d.out.bel.trans (g.mono d.out.bel.size));have u:=Ya ((g.block (w.heap.size+2) b2).trans d.out.h2);have X:=Ya (Zq1 HZ.out.1 a5.out.1 b5);have a0:=Ya b7;have R:=Ya b3;have b6:w3.heap.size<=G.heap.size:=g.size;have c1:G.cell? ⟨w.heap.size,0,none⟩=some (.bool neg):=(g.cell (p:=⟨w.heap.size,0,none⟩) b0).trans q0;have b4:w.heap.size<G.heap.size:=(by omega);clear Z g o b5 b7 b3)
   | (go_at_call 49;refine(Zhe neg I k4 c4 es R.out _ _ Q.out (Yb _) (by omega) P.out Y.out a0.out).mono ?_;rintro e q ⟨n,m,l5,rfl,hm,hn,k⟩;have W:=Ya hn;have a4:=Ya (C.out.trans (k.mono C.out.size));have a:=(k.block (w.heap.size+2) (by omega)).trans u.out;have O:=k.size;have a3:q.cell? ⟨w.heap.size+2,0,none⟩=some (.bool false):=by { rw[Yc a];rfl };have a2:q.cell? ⟨w.heap.size+2,1,none⟩=some (.slice none 0 0):=by { rw[Yc a];rfl };have hf0:q.frozen? ⟨w.heap.size+2,0,none⟩=false:=frozen_of_row q _ 0 _ _ a;have b8:q.frozen? ⟨w.heap.size+2,1,none⟩=false:=frozen_of_row q _ 1 _ _ a;have b9:w.heap.size+2<q.heap.size:=(by omega);clear hn k a;unfold Zx))
  all_goals
   go_wp2_with fail
   refine bodyPost_ret (v:=Zx n I m c4) (by simp[results,results60,go_sem,Zx,a3,a2]) rfl ?_;refine⟨n,I,m,c4,l5,rfl,by omega,?_,(a4.out.setCell (by show w.heap.size<=w.heap.size+1+1;omega) _).setCell (by show w.heap.size<=w.heap.size+1+1;omega) _,λ b off e=>by have:=s.out b off e;omega⟩;rw[<- X.out];exact Zaq W.out O (λ b off e=>by have:=s.out b off e;omega) _ _
 .by_cases cle:dvB 10 J<=dvB 10 l
  .have d0:(neg==neg')=false:=by simp[hs]
   have a6:=Ya (show dvB 10 J<=dvB 10 l from by omega);have T:=Zq2 (x:=dvB 10 l) (y:=dvB 10 J);rw[decide_eq_true cle] at T;have Hs:=Ya hs;obtain⟨ov,D⟩:=Yx (ab (dvB 10 l) (dvB 10 J));rw[<- D] at T;have a8:=Ya D;clear cle D hs;go_enter func60,ntmps60
   go_upto_region 3 with fail
   generalize (((w.alloc (.cells #[.bool neg,.slice A N c] 56 (0,0))).alloc (.cells #[.bool neg',.slice V L U] 56 (0,0))).alloc (.cells #[.bool false,.slice none 0 0] 56 (0,0)))=w3 at i⊢;have d:=Ya i;obtain⟨q0,q1,q2,q3⟩:=i.cells;have a7:=i.sz;have b0:w.heap.size<w3.heap.size:=by omega
   have b1:w.heap.size+1<w3.heap.size:=by omega
   clear i;go_wp2_with fail
   refine(Zhc A V N c L U l J _ _ H.out.len t.out.len _ B (H.out.at_.below (d.out.bel.mono K)) (t.out.at_.below (d.out.bel.mono K)) H.out.few t.out.few (Zdz H.out.z) (Zdz t.out.z)).mono ?_;rintro e F ⟨rfl,j⟩;rw[<- a8.out];have e0:=(j.cell (p:=⟨w.heap.size,0,none⟩) b0).trans q0;have e1:=(j.cell (p:=⟨w.heap.size,1,none⟩) b0).trans q1;have e2:=(j.cell (p:=⟨w.heap.size+1,0,none⟩) b1).trans q2;have e3:=(j.cell (p:=⟨w.heap.size+1,1,none⟩) b1).trans q3;have c2:=j.size;have E:=Ya j;clear q0 q1 q2 q3 j;go_upto_region 4 with fail
   have f0:w.heap.size<F.heap.size:=by omega
   have f1:w.heap.size+1<F.heap.size:=by omega
   have f2:w.heap.size+2<F.heap.size:=by omega
   have r:=Ya (d.out.bel.trans (E.out.mono d.out.bel.size));have a1:=Ya ((E.out.block (w.heap.size+2) (by omega)).trans d.out.h2);clear E
   go_region_with (first
    | (go_at_call 129;refine(Zyd A V N c L U l J _ _ H.out.len t.out.len _ B ?_ ?_ ?_ (Ym hl hM) (Zdz H.out.z) (Zdz t.out.z) a6.out).mono ?_;exact(Ym K r.out.size);exact(H.out.at_.below (Below.drew (r.out.mono K)));exact(t.out.at_.below (Below.drew (r.out.mono K)));rintro e G ⟨I,k4,c4,es,rfl,a9,f,o⟩;have g:Below F.heap.size F G:=Yba (Below.drew (Yh _ _)) o;have Q:=Ya f.at_;have P:=Ya f.nil;have Y:=Ya f.cap;have s:=Ya (λ b off e=>Ym (show w.heap.size+3<=F.heap.size by omega) (f.new b off none e):∀b off,I=some ⟨b,off,none⟩->w.heap.size+3<=b);have C:=Ya (r.out.trans (g.mono r.out.size));have u:=Ya ((g.block (w.heap.size+2) f2).trans a1.out);have X:=Ya (Zj7 Hs.out HZ.out.1 a5.out.1 f.cn.2.2);have a0:=Ya f.cn.1;have R:=Ya f.len;have b6:F.heap.size<=G.heap.size:=g.size;have c1:G.cell? ⟨w.heap.size,0,none⟩=some (.bool neg):=(g.cell (p:=⟨w.heap.size,0,none⟩) f0).trans e0;have b4:w.heap.size<G.heap.size:=(by omega);clear f g o)
    | (go_at_call 49;refine(Zhe neg I k4 c4 es R.out _ _ Q.out (Yb _) (by omega) P.out Y.out a0.out).mono ?_;rintro e q ⟨n,m,l5,rfl,hm,hn,k⟩;have W:=Ya hn;have a4:=Ya (C.out.trans (k.mono C.out.size));have a:=(k.block (w.heap.size+2) (by omega)).trans u.out;have O:=k.size;have a3:q.cell? ⟨w.heap.size+2,0,none⟩=some (.bool false):=by { rw[Yc a];rfl };have a2:q.cell? ⟨w.heap.size+2,1,none⟩=some (.slice none 0 0):=by { rw[Yc a];rfl };have hf0:q.frozen? ⟨w.heap.size+2,0,none⟩=false:=frozen_of_row q _ 0 _ _ a;have b8:q.frozen? ⟨w.heap.size+2,1,none⟩=false:=frozen_of_row q _ 1 _ _ a;have b9:w.heap.size+2<q.heap.size:=(by omega);clear hn k a;unfold Zx))
   all_goals
    go_wp2_with fail
    refine bodyPost_ret (v:=Zx n I m c4) (by simp[results,results60,go_sem,Zx,a3,a2]) rfl ?_;refine⟨n,I,m,c4,l5,rfl,by omega,?_,(a4.out.setCell (by show w.heap.size<=w.heap.size+1+1;omega) _).setCell (by show w.heap.size<=w.heap.size+1+1;omega) _,λ b off e=>by have:=s.out b off e;omega⟩;rw[<- X.out];exact Zaq W.out O (λ b off e=>by have:=s.out b off e;omega) _ _
  .have d0:(neg==neg')=false:=by simp[hs]
   have a6:=Ya (show dvB 10 l<=dvB 10 J from by omega);have T:=Zq2 (x:=dvB 10 l) (y:=dvB 10 J);rw[decide_eq_false cle] at T;have Hs:=Ya hs;obtain⟨ov,D⟩:=Yx (ab (dvB 10 l) (dvB 10 J));rw[<- D] at T;have a8:=Ya D;clear cle D hs;go_enter func60,ntmps60
   go_upto_region 3 with fail
   generalize (((w.alloc (.cells #[.bool neg,.slice A N c] 56 (0,0))).alloc (.cells #[.bool neg',.slice V L U] 56 (0,0))).alloc (.cells #[.bool false,.slice none 0 0] 56 (0,0)))=w3 at i⊢;have d:=Ya i;obtain⟨q0,q1,q2,q3⟩:=i.cells;have a7:=i.sz;have b0:w.heap.size<w3.heap.size:=by omega
   have b1:w.heap.size+1<w3.heap.size:=by omega
   clear i;go_wp2_with fail
   refine(Zhc A V N c L U l J _ _ H.out.len t.out.len _ B (H.out.at_.below (d.out.bel.mono K)) (t.out.at_.below (d.out.bel.mono K)) H.out.few t.out.few (Zdz H.out.z) (Zdz t.out.z)).mono ?_;rintro e F ⟨rfl,j⟩;rw[<- a8.out];have e0:=(j.cell (p:=⟨w.heap.size,0,none⟩) b0).trans q0;have e1:=(j.cell (p:=⟨w.heap.size,1,none⟩) b0).trans q1;have e2:=(j.cell (p:=⟨w.heap.size+1,0,none⟩) b1).trans q2;have e3:=(j.cell (p:=⟨w.heap.size+1,1,none⟩) b1).trans q3;have c2:=j.size;have E:=Ya j;clear q0 q1 q2 q3 j;go_upto_region 5 with fail
   have f0:w.heap.size<F.heap.size:=by omega
   have f1:w.heap.size+1<F.heap.size:=by omega
   have f2:w.heap.size+2<F.heap.size:=by omega
   have r:=Ya (d.out.bel.trans (E.out.mono d.out.bel.size));have a1:=Ya ((E.out.block (w.heap.size+2) (by omega)).trans d.out.h2);clear E
   go_region_with (first
    | (go_at_call 129;refine(Zyd V A L U N c J l _ _ t.out.len H.out.len _ B ?_ ?_ ?_ (Ym c0 hM) (Zdz t.out.z) (Zdz H.out.z) a6.out).mono ?_;exact(Ym K r.out.size);exact(t.out.at_.below (Below.drew (r.out.mono K)));exact(H.out.at_.below (Below.drew (r.out.mono K)));rintro e G ⟨I,k4,c4,es,rfl,a9,f,o⟩;have g:Below F.heap.size F G:=Yba (Below.drew (Yh _ _)) o;have Q:=Ya f.at_;have P:=Ya f.nil;have Y:=Ya f.cap;have s:=Ya (λ b off e=>Ym (show w.heap.size+3<=F.heap.size by omega) (f.new b off none e):∀b off,I=some ⟨b,off,none⟩->w.heap.size+3<=b);have C:=Ya (r.out.trans (g.mono r.out.size));have u:=Ya ((g.block (w.heap.size+2) f2).trans a1.out);have X:=Ya (((Zj7 (λ e=>Hs.out e.symm) a5.out.1 HZ.out.1 f.cn.2.2).trans (Int.add_comm _ _)));have a0:=Ya f.cn.1;have R:=Ya f.len;have b6:F.heap.size<=G.heap.size:=g.size;have c1:G.cell? ⟨w.heap.size+1,0,none⟩=some (.bool neg'):=(g.cell (p:=⟨w.heap.size+1,0,none⟩) f1).trans e2;have b4:w.heap.size+1<G.heap.size:=(by omega);clear f g o)
    | (go_at_call 49;refine(Zhe neg' I k4 c4 es R.out _ _ Q.out (Yb _) (by omega) P.out Y.out a0.out).mono ?_;rintro e q ⟨n,m,l5,rfl,hm,hn,k⟩;have W:=Ya hn;have a4:=Ya (C.out.trans (k.mono C.out.size));have a:=(k.block (w.heap.size+2) (by omega)).trans u.out;have O:=k.size;have a3:q.cell? ⟨w.heap.size+2,0,none⟩=some (.bool false):=by { rw[Yc a];rfl };have a2:q.cell? ⟨w.heap.size+2,1,none⟩=some (.slice none 0 0):=by { rw[Yc a];rfl };have hf0:q.frozen? ⟨w.heap.size+2,0,none⟩=false:=frozen_of_row q _ 0 _ _ a;have b8:q.frozen? ⟨w.heap.size+2,1,none⟩=false:=frozen_of_row q _ 1 _ _ a;have b9:w.heap.size+2<q.heap.size:=(by omega);clear hn k a;unfold Zx))
   all_goals
    go_wp2_with fail
    refine bodyPost_ret (v:=Zx n I m c4) (by simp[results,results60,go_sem,Zx,a3,a2]) rfl ?_;refine⟨n,I,m,c4,l5,rfl,by omega,?_,(a4.out.setCell (by show w.heap.size<=w.heap.size+1+1;omega) _).setCell (by show w.heap.size<=w.heap.size+1+1;omega) _,λ b off e=>by have:=s.out b off e;omega⟩;rw[<- X.out];exact Zaq W.out O (λ b off e=>by have:=s.out b off e;omega) _ _
theorem Z7y (neg neg':Bool)(A y:Option Addr)(N c s u:Nat)(l U:List Int)(z r:Int)(w:World)(B:Nat)(G:B<=w.heap.size)(h:NumW w B z neg A N c l)(V:NumW w B r neg' y s u U)(M:Nat)(hl:N<=M)(O:s<=M)(Y:M<=100000) :
 Calls prog 61 #[Zx neg A N c,Zx neg' y s u] w (Zhd w (z-r) (M+1)):=by
 have H:=Ya h;have H':=Ya V;clear h V;have g:=Zna w neg neg' (.slice A N c) (.slice y s u);unfold Zx;go_enter func61,ntmps61
 go_upto_region 1 with fail
 generalize (((w.alloc (.cells #[.bool neg,.slice A N c] 56 (0,0))).alloc (.cells #[.bool neg',.slice y s u] 56 (0,0))).alloc (.cells #[.bool false,.slice none 0 0] 56 (0,0)))=w3 at g⊢;have f:=Ya g;obtain⟨q0,q1,q2,q3⟩:=g.cells;have a2:=g.sz;have R:w.heap.size<w3.heap.size:=by omega
 have b1:w.heap.size+1<w3.heap.size:=by omega
 clear g;have b2:w.heap.size+2<w3.heap.size:=by omega
 go_region_with (first
  | (go_at_call 130;refine(Z7x neg' y s u U r _ B ?_ ?_).mono ?_;exact(Ym G f.out.bel.size);exact(H'.out.below (Below.drew (f.out.bel.mono G)));rintro e o ⟨C,A4,m4,c4,l4,rfl,x,F,n⟩;have d:Below w3.heap.size w3 o:=Yba (Below.drew (Yh _ _)) n;have P:=Ya F;have i:=Ya (f.out.bel.trans (d.mono f.out.bel.size));have E:=Ya ((d.block (w.heap.size+2) b2).trans f.out.h2);have a1:w3.heap.size<=o.heap.size:=d.size;have Q:=Ya x;have a5:o.cell? ⟨w.heap.size,0,none⟩=some (.bool neg):=(d.cell (p:=⟨w.heap.size,0,none⟩) R).trans q0;have Z:o.cell? ⟨w.heap.size,1,none⟩=some (.slice A N c):=(d.cell (p:=⟨w.heap.size,1,none⟩) R).trans q1;have a0:w.heap.size<o.heap.size:=(by omega);clear F d n x;unfold Zx)
  | (go_at_call 60;refine(Z6l neg C A A4 N c m4 c4 l l4 z (-r) o o.heap.size (Yb _) ((H.out.below (i.out.mono G)).more (Ym G i.out.size)) P.out M hl (Ym Q.out O) Y).mono ?_;rintro e q ⟨k,W,m,c5,l5,rfl,hm,T,j,t⟩;have D:=Ya t;clear t;have I:=Ya T;have L:=Ya (i.out.trans (j.mono i.out.size));have a:=(j.block (w.heap.size+2) (by omega)).trans E.out;have X:=j.size;have K:q.cell? ⟨w.heap.size+2,0,none⟩=some (.bool false):=by { rw[Yc a];rfl };have J:q.cell? ⟨w.heap.size+2,1,none⟩=some (.slice none 0 0):=by { rw[Yc a];rfl };have hf0:q.frozen? ⟨w.heap.size+2,0,none⟩=false:=frozen_of_row q _ 0 _ _ a;have a3:q.frozen? ⟨w.heap.size+2,1,none⟩=false:=frozen_of_row q _ 1 _ _ a;have a4:w.heap.size+2<q.heap.size:=(by omega);clear T j a;unfold Zx))
 all_goals
  go_wp2_with fail
  refine bodyPost_ret (v:=Zx k W m c5) (by simp[results,results61,go_sem,Zx,K,J]) rfl ?_;refine⟨k,W,m,c5,l5,rfl,hm,?_,(L.out.setCell (by show w.heap.size<=w.heap.size+1+1;omega) _).setCell (by show w.heap.size<=w.heap.size+1+1;omega) _,λ b off e=>by have:=D.out b off e;omega⟩;have ez:z+-r=z-r:=by omega
  rw[<- ez];exact Zaq I.out (Yb _) (λ b off e=>by have:=D.out b off e;omega) _ _
section
structure BoxL (w wr:World)(neg neg':Bool)(v v':Value):Prop where
 bel:Below w.heap.size w wr
 sz:w.heap.size+3<=wr.heap.size
 h0:wr.heap[w.heap.size]?=some (.cells #[.bool neg,v] 56 (0,0))
 h1:wr.heap[w.heap.size+1]?=some (.cells #[.bool neg',v'] 56 (0,0))
 h2:wr.heap[w.heap.size+2]?=some (.cells #[.bool false,.slice none 0 0] 56 (0,0))
theorem Zhf (w:World)(neg neg':Bool)(v v':Value):BoxL w (((w.alloc (.cells #[.bool neg,v] 56 (0,0))).alloc (.cells #[.bool neg',v'] 56 (0,0))).alloc (.cells #[.bool false,.slice none 0 0] 56 (0,0))) neg neg' v v':=by
 have h:=Zna w neg neg' v v';exact⟨h.bel,Nat.le_of_eq h.sz.symm,h.h0,h.h1,h.h2⟩
section
variable {w wr:World}{neg neg':Bool}{v v':Value}(h:BoxL w wr neg neg' v v')
include h
theorem BoxL.cells:wr.cell? ⟨w.heap.size,0,none⟩=some (.bool neg)/\wr.cell? ⟨w.heap.size,1,none⟩=some v/\wr.cell? ⟨w.heap.size+1,0,none⟩=some (.bool neg')/\wr.cell? ⟨w.heap.size+1,1,none⟩=some v':=by
 refine⟨?_,?_,?_,?_⟩
 .rw[Yc h.h0];rfl
 .rw[Yc h.h0];rfl
 .rw[Yc h.h1];rfl
 .rw[Yc h.h1];rfl
theorem BoxL.lts:w.heap.size<wr.heap.size/\w.heap.size+1<wr.heap.size/\w.heap.size+2<wr.heap.size:=by
 have:=h.sz;omega
theorem BoxL.below {b:World}(a:Below wr.heap.size wr b):BoxL w b neg neg' v v':=by
 have:=h.sz;have:=a.size;exact⟨h.bel.trans (a.mono (by omega)),by omega,(a.block _ (by omega)).trans h.h0,(a.block _ (by omega)).trans h.h1,(a.block _ (by omega)).trans h.h2⟩
theorem BoxL.res:wr.cell? ⟨w.heap.size+2,0,none⟩=some (.bool false)/\wr.cell? ⟨w.heap.size+2,1,none⟩=some (.slice none 0 0)/\wr.frozen? ⟨w.heap.size+2,0,none⟩=false/\wr.frozen? ⟨w.heap.size+2,1,none⟩=false:=by
 refine⟨?_,?_,frozen_of_row wr _ 0 _ _ h.h2,frozen_of_row wr _ 1 _ _ h.h2⟩
 .rw[Yc h.h2];rfl
 .rw[Yc h.h2];rfl
end
theorem Z6m {neg neg':Bool}{l a b:List Int}{z c:Int}(h:tz neg l=z)(d:tz neg' a=c)(e:dvB 10 b=dvB 10 l*dvB 10 a):tz (neg != neg') b=z*c:=by
 unfold tz at *;rw[e]
 cases neg <;> cases neg' <;> simp at*<;> rw[<- h,<- d] <;> grind
theorem Z01 (X Y u:Int):X*Y*10+0+(X*u+0)=X*(u+10*Y):=by grind
theorem Z7z (neg neg':Bool)(A A':Option Addr)(N c f V:Nat)(l Y:List Int)(z z':Int)(w:World)(B:Nat)(hB:B<=w.heap.size)(h:NumW w B z neg A N c l)(h':NumW w B z' neg' A' f V Y)(hl:N<=1000)(g6:f<=1000) :
 Calls prog 62 #[Zx neg A N c,Zx neg' A' f V] w (Zhd w (z*z') (N+6*f)):=by
 have HZ:=Ya (Zgs h.z);have d9:=Ya (Zgs h'.z);have H:=Ya h;have H':=Ya h';clear h h';have r:=Zhf w neg neg' (.slice A N c) (.slice A' f V);have g8:IntKind.i64.wrap ((f:Int)-1)=(f:Int)-1:=by rw[Yi _ (by omega)]
 unfold Zx;go_enter func62,ntmps62
 go_upto_region 1 with fail
 generalize (((w.alloc (.cells #[.bool neg,.slice A N c] 56 (0,0))).alloc (.cells #[.bool neg',.slice A' f V] 56 (0,0))).alloc (.cells #[.bool false,.slice none 0 0] 56 (0,0)))=w3 at r⊢;have e0:=Ya r;obtain⟨q0,q1,q2,Q⟩:=r.cells;obtain⟨R,b1,b2⟩:=r.lts;clear r;go_wp2_with fail
 go_loopw [5,6] (λ v5 v6 wr=>∃(k:Int)(t:Option Addr)(q c2:Nat)(E:List Int),0-1<=k/\k<f/\v6=.int .i64 k/\v5=.slice t q c2/\Hid ((q:Int)+6*(k+1)<=N+6*f)/\Hid (q=E.length)/\Hid (DgB 10 E)/\Hid (dvB 10 E=dvB 10 l*dvB 10 (Y.drop (k+1).toNat))/\Hid (Ints wr wr.heap.size t E)/\Hid (t=none->q=0)/\Hid (q<=c2)/\Hid (∀b off,t=some ⟨b,off,none⟩->w.heap.size+3<=b)/\Hid (BoxL w wr neg neg' (.slice A N c) (.slice A' f V))) (λ _ v6 _=>(intOf v6+1).toNat)
 case atStart =>
  refine⟨(f:Int)-1,none,0,0,[],by omega,by omega,rfl,rfl,Ya (by omega),Ya rfl,Ya (λ d hd=>by cases hd),Ya ?_,Ya (λ hp=>by simp at hp),Ya (λ _=>rfl),Ya (Yb _),Ya (λ b off e=>by cases e),e0⟩;rw[show((f:Int)-1+1).toNat=f by omega,List.drop_eq_nil_of_le (by rw[<- H'.out.len];exact Yb _)]
  show(0:Int)=_*0
  rw[Int.mul_zero]
 case round =>
  clear q0 q1 q2 Q R b1 b2;obtain⟨k,t,q,c2,E,d5,f8,rfl,rfl,hq,a4,b8,hv,s,U,c1,a0,j⟩:=hrel;by_cases c0:0<=k
  .obtain⟨i,rfl⟩:=Ya0 c0
   have hi:i<f:=by omega
   have e2:IntKind.i64.wrap ((i:Int)-1)=(i:Int)-1:=by rw[Yi _ (by omega)]
   have e3:IntKind.i64.wrap (i:Int)=(i:Int):=by rw[Yi _ (by omega)]
   have i3:(i:Int)<(f:Int):=by omega
   have i4:(0:Int)<=(i:Int):=by omega
   have W:q<=100000:=by have:=hq.out;omega
   go_wp2_with fail
   refine(Zm8 t q c2 E 10 0 a4.out wr wr.heap.size (Yb _) s.out W b8.out (by decide) (by decide)).mono ?_;rintro e w4 ⟨A4,k4,c4,es,rfl,X,G,a7,a5,O,b5⟩;have f6:=Ya X;have f4:=Ya G;have e4:=Ya a7;have d7:=Ya a5;have f5:=Ya (Ints.of_own O);have g:=Ya (j.out.below b5);have a6:=g.out.bel;obtain⟨b,off,b9,g3,C⟩:=(H'.out.at_.below (a6.mono hB)).at_ (k:=i) (by rw[<- H'.out.len];exact hi);obtain⟨u,hu⟩:∃x,x=Y.getD i 0:=⟨_,rfl⟩
   rw[<- hu] at C;have a1:=Zb8 (by decide) H'.out.z.1.1 i;rw[<- hu] at a1;have c8:=Ya a1;have Hu:=Ya hu;obtain⟨q0,q1,q2,Q⟩:=g.out.cells;obtain⟨R,b1,b2⟩:=g.out.lts;have f9:b<w4.heap.size:=by omega
   have g0:=Ya (λ b off e=>Ym j.out.sz (O.lt b (by rw[e];rfl)).1:∀b off,A4=some ⟨b,off,none⟩->w.heap.size+3<=b);clear X G a7 a5 O b5 hu a6;rw[b9] at Q;clear b9;go_upto_region 6 with fail
   refine Za5 8 1 [0,1,2,3,4,5,6,7] (by kernel_rfl) (by kernel_rfl) (λ _ _ _ _ _ h=>h) ?_;have hE:=Zn w4
   repeat (first | (refine Zf7 rfl ?_;go_big_quiet_step (fail)))
   refine wpQuiet_nil ?_;rintro y1 ⟨⟨_,y⟩,rfl⟩;simp only[Yag,Yak];have p:=Ya (g.out.below y);have f2:=Ya ((f5.out.below y).more y.size);have o:=p.out.bel;have f1:=Ya (H.out.at_.below (o.mono hB));have e5:=Ym hB o.size;clear hE q0 q1 q2 Q R b1 b2 y C f9 o;go_wp2_with fail
   refine(Zm8 A N c l u 0 H.out.len y1 B e5 f1.out (by omega) H.out.z.1.1 ⟨c8.out.1,by have:=c8.out.2;omega⟩ (by decide)).mono ?_;rintro e w5 ⟨A5,k5,c5,fs,rfl,c3,I,a3,a2,Z,n⟩;have f7:=Ya c3;have f0:=Ya I;have e7:=Ya a3;have e9:=Ya a2;have d2:=Ya (Ints.of_own Z);have b6:=Ya ((f2.out.below n).more n.size);have a:=Ya (p.out.below n);have g1:=hq.out;obtain⟨P,T⟩:∃P:Nat,P+6*i+1=N+6*f:=⟨N+6*f-6*i-1,by omega⟩
   have c9:k4<=P:=by have:=f6.out;omega
   have d0:k5<=P:=by have:=f7.out;omega
   have d8:=Ya T;have b4:P<=100000:=by omega
   clear c3 I a3 a2 Z n T;go_wp2_with fail
   refine(Z4e A4 A5 k4 c4 k5 c5 es fs d7.out e9.out w5 w5.heap.size (Yb _) b6.out d2.out P c9 d0 b4 f4.out f0.out).mono ?_;rintro e w6 ⟨A6,k6,c6,gs,rfl,a9,F,b7,b3,J,c7⟩;have d3:=Ya a9;have d6:=Ya F;have d4:=Ya (show dvB 10 gs=dvB 10 l*dvB 10 (Y.drop i) by
    have e1:=hv.out;rw[show((i:Int)+1).toNat=i+1 by omega] at e1;rw[b7,e4.out,e7.out,e1,Ze8 Y i,<- Hu.out];exact Z01 _ _ _)
   have e8:=Ya b3;have L:=Ya J;have M:=Ya (a.out.below c7);have K:=Ya (λ b off e=>Ym a.out.sz (J.lt b (by rw[e];rfl)).1:∀b off,A6=some ⟨b,off,none⟩->w.heap.size+3<=b);clear a9 F b7 b3 J c7 c9 d0 b4;go_wp2_with fail
   go_roundw
   case rel =>
    refine⟨(i:Int)-1,A6,k6,c6,gs,by omega,by omega,by go_num,rfl,Ya (by have:=d3.out;have:=d8.out;omega),e8,d6,Ya ?_,Ya (Ints.of_own L.out),Ya (Zbt L.out),Ya (Zds L.out),K,M⟩;rw[d4.out,show((i:Int)-1+1).toNat=i by omega]
   case measure=>simp[intOf] <;> omega
  .have ek:k=0-1:=by omega
   subst ek;have a8:=Ya (show tz (neg != neg') E=z*z' by
    have:=hv.out;rw[show((0-1:Int)+1).toNat=0 by decide,Yak] at this;exact Z6m HZ.out.1 d9.out.1 this)
   have W:q<=N+6*f:=by have:=hq.out;omega
   obtain⟨q0,q1,q2,Q⟩:=j.out.cells;obtain⟨R,b1,b2⟩:=j.out.lts;clear c0 d5 f8;go_wp2_with fail
   refine(Zhe (neg != neg') t q c2 E a4.out wr wr.heap.size s.out (Yb _) (by omega) U.out c1.out b8.out).mono ?_;rintro e w5 ⟨D,m,l5,rfl,hm,hn,n⟩;have e6:=Ya hn;have a:=Ya (j.out.below n);have d1:=n.size;obtain⟨f3,C,hf0,g4⟩:=a.out.res;obtain⟨g2,g7,g5⟩:=a.out.lts;clear hn n q0 q1 q2 Q R b1 b2;unfold Zx;go_wp2_with fail
   refine bodyPost_ret (v:=Zx D t m c2) (by simp[results,results62,go_sem,Zx,f3,C]) rfl ?_;refine⟨D,t,m,c2,l5,rfl,by omega,?_,(a.out.bel.setCell (by show w.heap.size<=w.heap.size+1+1;omega) _).setCell (by show w.heap.size<=w.heap.size+1+1;omega) _,λ b off e=>by have:=a0.out b off e;omega⟩;rw[<- a8.out];exact Zaq e6.out d1 (λ b off e=>by have:=a0.out b off e;omega) _ _
end
section
theorem Ztx {w:World}{B:Nat}{A:Option Addr}{xs:List Int}(h:Ints w B A xs):Reads w B A (xs.map (Value.int .i64)):=λ hp=>by
 obtain⟨b,off,e,c,d⟩:=h (by rw[Yaa] at hp;exact hp);refine⟨b,off,e,c,λ i x a=>?_⟩;rw[List.getElem?_map] at a
 cases hq:xs[i]? with
 | none=>rw[hq] at a;cases a
 | some y =>
  rw[hq] at a
  cases a
  exact d i y hq
theorem Zyf (neg:Bool)(A:Option Addr)(N c:Nat)(l:List Int)(b:N=l.length)(m:Nat)(hm:Top l m)(w:World)(B:Nat)(h:Ints w B A l)(d:B<=w.heap.size)(i:N<=1000000)(hA:A=none->N=0)(g:N<=c) :
 Calls prog 49 #[.bool neg,.slice A N c] w λ e w'=>e=.returned (Zx (neg && decide (0<m)) A m c)/\Below w.heap.size w w':=by
 refine(Zsd neg A N c l b w B h d i hA g).mono ?_;rintro e w' ⟨m',a,rfl,f⟩;rw[Zwu hm a];exact⟨rfl,f⟩
theorem Zse (w:World)(u:Int):Ints (w.alloc (.cells #[.int .i64 u] 3 (0,0))) (w.heap.size+1) (some ⟨w.heap.size,0,none⟩) [u]:=λ _=>by
 refine⟨w.heap.size,0,rfl,Nat.lt_succ_self _,λ i x a=>?_⟩
 cases i with
 | zero =>
  cases a
  rw[Yc (heap_alloc_new w _)];rfl
 | succ i=>cases a
structure RawW (w:World)(lo:Nat)(A:Option Addr)(N c:Nat)(l:List Int):Prop where
 dg:DgB 10 l
 len:N=l.length
 at_:Ints w w.heap.size A l
 nil:A=none->N=0
 cap:N<=c
 new:∀b off s,A=some ⟨b,off,s⟩->lo<=b
theorem RawW.below {w w':World}{lo:Nat}{A:Option Addr}{N c:Nat}{l:List Int}(h:RawW w lo A N c l)(a:Below w.heap.size w w'):RawW w' lo A N c l:=⟨h.dg,h.len,(h.at_.below a).more a.size,h.nil,h.cap,h.new⟩
structure BoxQ (w wr:World)(neg neg':Bool)(v v':Value):Prop where
 bel:Below w.heap.size w wr
 sz:w.heap.size+4<=wr.heap.size
 h0:wr.heap[w.heap.size]?=some (.cells #[.bool neg,v] 56 (0,0))
 h1:wr.heap[w.heap.size+1]?=some (.cells #[.bool neg',v'] 56 (0,0))
 h2:wr.heap[w.heap.size+2]?=some (.cells #[.bool false,.slice none 0 0] 56 (0,0))
 h3:wr.heap[w.heap.size+3]?=some (.cells #[.bool false,.slice none 0 0] 56 (0,0))
theorem Zyg (w:World)(neg neg':Bool)(v v':Value):BoxQ w ((((w.alloc (.cells #[.bool neg,v] 56 (0,0))).alloc (.cells #[.bool neg',v'] 56 (0,0))).alloc (.cells #[.bool false,.slice none 0 0] 56 (0,0))).alloc (.cells #[.bool false,.slice none 0 0] 56 (0,0))) neg neg' v v':=by
 have h:=Zna w neg neg' v v';generalize ((w.alloc (.cells #[.bool neg,v] 56 (0,0))).alloc (.cells #[.bool neg',v'] 56 (0,0))).alloc (.cells #[.bool false,.slice none 0 0] 56 (0,0))=w3 at h⊢;have a:=h.sz;refine⟨h.bel.alloc (by omega) _,by simp;omega,?_,?_,?_,?_⟩
 .rw[heap_alloc_old _ _ (by omega)];exact h.h0
 .rw[heap_alloc_old _ _ (by omega)];exact h.h1
 .rw[heap_alloc_old _ _ (by omega)];exact h.h2
 .rw[<- a];exact heap_alloc_new _ _
section
variable {w wr:World}{neg neg':Bool}{v v':Value}(h:BoxQ w wr neg neg' v v')
include h
theorem BoxQ.cells:wr.cell? ⟨w.heap.size,0,none⟩=some (.bool neg)/\wr.cell? ⟨w.heap.size,1,none⟩=some v/\wr.cell? ⟨w.heap.size+1,0,none⟩=some (.bool neg')/\wr.cell? ⟨w.heap.size+1,1,none⟩=some v':=by
 refine⟨?_,?_,?_,?_⟩
 .rw[Yc h.h0];rfl
 .rw[Yc h.h0];rfl
 .rw[Yc h.h1];rfl
 .rw[Yc h.h1];rfl
theorem BoxQ.lts:w.heap.size<wr.heap.size/\w.heap.size+1<wr.heap.size/\w.heap.size+2<wr.heap.size/\w.heap.size+3<wr.heap.size:=by
 have:=h.sz;omega
theorem BoxQ.below {b:World}(a:Below wr.heap.size wr b):BoxQ w b neg neg' v v':=by
 have:=h.sz;have:=a.size;exact⟨h.bel.trans (a.mono (by omega)),by omega,(a.block _ (by omega)).trans h.h0,(a.block _ (by omega)).trans h.h1,(a.block _ (by omega)).trans h.h2,(a.block _ (by omega)).trans h.h3⟩
theorem BoxQ.res:(wr.cell? ⟨w.heap.size+2,0,none⟩=some (.bool false)/\wr.cell? ⟨w.heap.size+2,1,none⟩=some (.slice none 0 0)/\wr.frozen? ⟨w.heap.size+2,0,none⟩=false/\wr.frozen? ⟨w.heap.size+2,1,none⟩=false)/\(wr.cell? ⟨w.heap.size+3,0,none⟩=some (.bool false)/\wr.cell? ⟨w.heap.size+3,1,none⟩=some (.slice none 0 0)/\wr.frozen? ⟨w.heap.size+3,0,none⟩=false/\wr.frozen? ⟨w.heap.size+3,1,none⟩=false):=by
 refine⟨⟨?_,?_,frozen_of_row wr _ 0 _ _ h.h2,frozen_of_row wr _ 1 _ _ h.h2⟩,⟨?_,?_,frozen_of_row wr _ 0 _ _ h.h3,frozen_of_row wr _ 1 _ _ h.h3⟩⟩
 .rw[Yc h.h2];rfl
 .rw[Yc h.h2];rfl
 .rw[Yc h.h3];rfl
 .rw[Yc h.h3];rfl
end
theorem Z02 {D Q R Y d n a:Int}(h:D=Q*Y+R)(h2:10*R+d=n*Y+a):d+10*D=(n+10*Q)*Y+a:=by
 have e:(n+10*Q)*Y=n*Y+10*(Q*Y):=by grind
 rw[e];omega
theorem Z03 {n Y a x:Int}(h:x=n*Y+a):x=(n+1)*Y+(a-Y):=by
 have e:(n+1)*Y=n*Y+Y:=by grind
 rw[e];omega
theorem Z6n (neg neg':Bool)(A f:Option Addr)(N c g d:Nat)(l n:List Int)(z:Int)(w:World)(B:Nat)(hB:B<=w.heap.size)(h:NumW w B z neg A N c l)(j:NumW w B 0 neg' f g d n) :
 Calls prog 63 #[Zx neg A N c,Zx neg' f g d] w λ e w'=>e=.returned (.tuple #[Zx false none 0 0,Zx false none 0 0,.int .i64 15])/\Below w.heap.size w w':=by
 have i:g=0:=by
  refine Y_c λ c=>?_
  have:=Zx2 (by decide) j.z.1 (by rw[<- j.len];omega);simp at this
 subst i;have a:=Zyg w neg neg' (.slice A N c) (.slice f 0 d);have b:=Ya a;clear h j;unfold Zx;go_enter func63,ntmps63
 go_upto_region 1 with fail
 generalize ((((w.alloc (.cells #[.bool neg,.slice A N c] 56 (0,0))).alloc (.cells #[.bool neg',.slice f 0 d] 56 (0,0))).alloc (.cells #[.bool false,.slice none 0 0] 56 (0,0))).alloc (.cells #[.bool false,.slice none 0 0] 56 (0,0)))=w3 at a b⊢;obtain⟨q0,q1,q2,q3⟩:=a.cells;obtain⟨b0,b1,b2,b3⟩:=a.lts;obtain⟨⟨m,r1,r2,r3⟩,o,q,s2,s3⟩:=a.res;clear a;go_wp2_with fail
 refine bodyPost_ret (v:=.tuple #[Zx false none 0 0,Zx false none 0 0,.int .i64 15]) (by simp[results,results63,go_sem,Zx,m,r1,o,q]) rfl ?_;have k2:w.heap.size<=w.heap.size+1+1:=by omega
 have k:w.heap.size<=w.heap.size+1+1+1:=by omega
 exact⟨rfl,(((b.out.bel.setCell (p:=⟨w.heap.size+1+1,0,none⟩) k2 _).setCell (p:=⟨w.heap.size+1+1,1,none⟩) k2 _).setCell (p:=⟨w.heap.size+1+1+1,0,none⟩) k _).setCell (p:=⟨w.heap.size+1+1+1,1,none⟩) k _⟩
def Z4h (w:World)(z z':Int)(K K':Nat)(e:Ending)(w':World):Prop:=∃(n1:Bool)(A1:Option Addr)(m1 c1:Nat)(l1:List Int)(n2:Bool)(A2:Option Addr)(m2 c2:Nat) (l2:List Int),e=.returned (.tuple #[Zx n1 A1 m1 c1,Zx n2 A2 m2 c2,.int .i64 0])/\m1<=K/\m2<=K'/\NumW w' w'.heap.size (Int.tdiv z z') n1 A1 m1 c1 l1/\NumW w' w'.heap.size (Int.tmod z z') n2 A2 m2 c2 l2/\Below w.heap.size w w'/\(∀b off,A1=some ⟨b,off,none⟩->w.heap.size<=b)/\∀b off,A2=some ⟨b,off,none⟩->w.heap.size<=b
theorem Z4i {m:World}{base lo:Nat}{f:Option Addr}{k c5 m6:Nat}{a:List Int}{X:Int}(hm:Top a m6)(o:DgB 10 a)(q:dvB 10 a=X)(hl:k=a.length)(d:m.ownsRow base 3 1 (.slice f k c5) k (a.map (Value.int .i64)))(j:∀b off,f=some ⟨b,off,none⟩->lo<=b)(l:Nat):DigW (m.drewN l) lo X f m6 c5 (a.take m6):=by
 have r:=hm.1;have c:=Zlj o hm;rw[q] at c;have n:=Zbt d;have hc:=Zds d;refine⟨c,by rw[Yr];omega,((Ints.of_own d).take_ m6).below (below_drewN (Yh _ _) l),λ e=>by have:=n e;omega,by omega,λ b off s e=>?_⟩;rcases d.2 with⟨i,_⟩|⟨g,cap,p,i,_⟩
 .cases i
  cases e
 .cases i
  cases e
  exact j _ _ rfl
theorem Zyh {w:World}{lo:Nat}{A:Option Addr}{N c m:Nat}{l:List Int}(h:Ints w w.heap.size A l)(d:DgB 10 l)(hN:N=l.length)(hm:Top l m)(hA:A=none->N=0)(hc:N<=c)(hl:N<=1000000)(a:∀b off s,A=some ⟨b,off,s⟩->lo<=b)(neg:Bool):NumW w w.heap.size (tz neg l) (neg && decide (0<m)) A m c (l.take m):=by
 have f:=hm.1;exact⟨Zmf d hm,by rw[Yr];omega,by omega,h.take_ m,λ e=>by have:=hA e;omega,by omega⟩
theorem Z4j {neg neg':Bool}{l a:List Int}{z c Q R:Int}(h:tz neg l=z)(j:tz neg' a=c)(k:0<=dvB 10 l)(f:0<dvB 10 a)(hv:dvB 10 l=Q*dvB 10 a+R)(i:0<=R/\R<dvB 10 a):(∀e,dvB 10 e=Q->tz (neg != neg') e=Int.tdiv z c)/\∀e,dvB 10 e=R->tz neg e=Int.tmod z c:=by
 obtain⟨d1,d2⟩:=Zwy f (show dvB 10 l=R+Q*dvB 10 a by omega) i.1 i.2;obtain⟨g,d⟩:=Z4c (n1:=neg) (n2:=neg') k (Yaz f);rw[<- Zq0 (neg:=neg) (l:=l) rfl,<- Zq0 (neg:=neg') (l:=a) rfl,h,j] at g d;refine⟨λ e b=>?_,λ e b=>?_⟩
 .rw[Zq0 b,<- g,d1]
 .rw[Zq0 b,<- d,d2]
theorem Z6o (neg neg':Bool)(A A':Option Addr)(N c t c':Nat)(l l':List Int)(z z':Int)(hz:z'≠0)(w:World)(B:Nat)(hB:B<=w.heap.size)(h:NumW w B z neg A N c l)(h':NumW w B z' neg' A' t c' l')(hl:N<=1000)(p4:t<=1000) :
 Calls prog 63 #[Zx neg A N c,Zx neg' A' t c'] w (Z4h w z z' N t):=by
 have HZ:=Ya (Zgs h.z);have j5:=Ya (Zgs h'.z);have H:=Ya h;have H':=Ya h';obtain⟨Y,hY⟩:=Yx (dvB 10 l');have l2:0<Y:=by
  have h1:=(Zgs h'.z).1;have h2:=(Zgs h'.z).2;refine Y_c λ c=>hz ?_
  have h3:dvB 10 l'=0:=by omega
  rw[<- h1,Zq0 h3]
  cases neg' <;> rfl
 have X:Cn 10 l' Y:=by rw[hY];exact Zdz h'.z
 have F:=Ya X;have e6:t≠0:=λ e=>by
  have:=Zx3 X (by rw[<- h'.len];exact e);omega
 have HY:=Ya hY;have h0:=Ya l2;have d0:((t:Int)==0)=false:=beq_eq_false_iff_ne.2 (by omega);have o8:(t==0)=false:=beq_eq_false_iff_ne.2 e6;clear h h' hz X hY e6;have a1:=Zyg w neg neg' (.slice A N c) (.slice A' t c');have p6:IntKind.i64.wrap ((N:Int)-1)=(N:Int)-1:=by rw[Yi _ (by omega)]
 unfold Zx;go_enter func63,ntmps63
 go_upto_region 1 with fail
 generalize ((((w.alloc (.cells #[.bool neg,.slice A N c] 56 (0,0))).alloc (.cells #[.bool neg',.slice A' t c'] 56 (0,0))).alloc (.cells #[.bool false,.slice none 0 0] 56 (0,0))).alloc (.cells #[.bool false,.slice none 0 0] 56 (0,0)))=w3 at a1⊢;have j7:=Ya a1;obtain⟨q0,T,q2,q3⟩:=a1.cells;obtain⟨V,b1,b2,b3⟩:=a1.lts;clear a1;go_wp2_with fail
 go_loopw [7,8,9] (λ v7 v8 v9 wr=>∃(k:Int)(A7:Option Addr)(n7 c7:Nat)(l7:List Int)(R:Int)(A8:Option Addr)(K U:Nat) (M:List Int),0-1<=k/\k<N/\v9=.int .i64 k/\v7=.slice A7 n7 c7/\v8=.slice A8 K U/\Hid ((K:Int)+(k+1)=N)/\Hid (DigW wr (w.heap.size+4) R A7 n7 c7 l7)/\Hid (RawW wr (w.heap.size+4) A8 K U M)/\Hid (0<=R/\R<Y)/\Hid (dvB 10 (l.drop (k+1).toNat)=dvB 10 M*Y+R)/\Hid (BoxQ w wr neg neg' (.slice A N c) (.slice A' t c'))) (λ _ _ v9 _=>(intOf v9+1).toNat)
 case atStart =>
  refine⟨(N:Int)-1,none,0,0,[],0,none,0,0,[],by omega,by omega,rfl,rfl,rfl,Ya (by omega),Ya ⟨⟨λ d hd=>(by cases hd),.inl rfl,rfl⟩,rfl,λ hp=>(by simp at hp),λ _=>rfl,Yb _,λ b off s e=>(by cases e)⟩,Ya ⟨λ d hd=>(by cases hd),rfl,λ hp=>(by simp at hp),λ _=>rfl,Yb _,λ b off s e=>(by cases e)⟩,Ya ⟨Int.le_refl _,h0.out⟩,Ya ?_,j7⟩;rw[show((N:Int)-1+1).toNat=N by omega,List.drop_eq_nil_of_le (by rw[<- H.out.len];exact Yb _)]
  show(0:Int)=0*Y+0
  omega
 case round =>
  clear q0 T q2 q3 V b1 b2 b3;obtain⟨k,A7,n7,c7,l7,R,A8,K,U,M,j2,m3,rfl,rfl,rfl,e7,m,C,hR,hv,a⟩:=hrel;by_cases c0:0<=k
  .obtain⟨i,rfl⟩:=Ya0 c0
   have hi:i<N:=by omega
   have e2:IntKind.i64.wrap ((i:Int)-1)=(i:Int)-1:=by rw[Yi _ (by omega)]
   have e3:IntKind.i64.wrap (i:Int)=(i:Int):=by rw[Yi _ (by omega)]
   have i3:(i:Int)<(N:Int):=by omega
   have i4:(0:Int)<=(i:Int):=by omega
   have g4:n7<=t:=by rw[m.out.len,H'.out.len];exact Zm7 F.out m.out.cn (Yaz hR.out.2)
   have g5:=a.out.bel;obtain⟨b,off,h8,p0,d8⟩:=(H.out.at_.below (g5.mono hB)).at_ (k:=i) (by rw[<- H.out.len];exact hi);obtain⟨u,hu⟩:∃x,x=l.getD i 0:=⟨_,rfl⟩
   rw[<- hu] at d8;have c6:=Zb8 (by decide) H.out.z.1.1 i;rw[<- hu] at c6;have m5:=Ya c6;have k8:=Ya (show DgB 10 [u] from λ d hd=>by rw[List.mem_singleton] at hd;rw[hd];exact c6);have Hu:=Ya hu;obtain⟨q0,T,q2,q3⟩:=a.out.cells;obtain⟨V,b1,b2,b3⟩:=a.out.lts;have b7:=a.out.sz;have i9:b<wr.heap.size:=by omega
   rw[h8] at T;clear hu g5 h8;have g1:=Ya (show ∀(y:World)(A4:Option Addr)(k4 c4:Nat)(es:List Int)(g:Nat),k4=es.length->k4<=t+5->DgB 10 es->Ints y y.heap.size A4 es->Ints y y.heap.size (some ⟨g,0,none⟩) [u]->Calls prog 128 #[.slice A4 k4 c4,.slice (some ⟨g,0,none⟩) 1 1] y (Zya y (t+5) (dvB 10 es+dvB 10 [u])) from λ y A4 k4 c4 es g h1 h2 h3 h4 h5=>Z4e A4 (some ⟨g,0,none⟩) k4 c4 1 1 es [u] h1 rfl y y.heap.size (Yb _) h4 h5 (t+5) h2 (by omega) (by omega) h3 k8.out);go_upto_region 7 with fail
   go_cut [7] from 26 to 35 (λ v7 wc=>∃(A5:Option Addr)(k5 c5:Nat)(l5:List Int),v7=.slice A5 k5 c5/\Hid (k5<=t+6)/\Hid (DigW wc (w.heap.size+4) (10*R+u) A5 k5 c5 l5)/\Hid (Below wr.heap.size wr wc))
   case first =>
    go_region_with (first
     | (go_at_call 48;go_loud (refine(Zm8 A7 n7 c7 l7 10 0 m.out.len _ wr.heap.size ?_ ?_ (by omega) m.out.cn.1 (by decide) (by decide)).mono ?_;(first|exact Yb _ | (simp));(first|exact m.out.at_.below (Below.drew (Yh _ _)) | exact m.out.at_.below ((Below.drew (Yh _ _)).alloc (Yb _) _));rintro e w4 ⟨A4,k4,c4,es,rfl,c2,b6,g6,g3,g2,J⟩;have j4:=Ya g3;have k0:=Ya g6;have e1:=Ya g2;have l6:=Ya b6;have m2:=Ya c2;have i7:=Ya J;clear g3 g6 g2 b6;have E:Below wr.heap.size wr w4:=(by first|exact Yba (Below.drew (Yh _ _)) J|exact Yba ((Below.drew (Yh _ _)).alloc (Yb _) _) (J.mono (by simp)));have o0:w4.cell? ⟨w.heap.size,1,none⟩=some (.slice (some ⟨b,off,none⟩) N c):=(E.cell (p:=⟨w.heap.size,1,none⟩) V).trans T;have n1:w4.cell? ⟨b,off+i,none⟩=some (.int .i64 u):=(E.cell (p:=⟨b,off+i,none⟩) i9).trans d8;have o6:=E.size;have o4:w.heap.size<w4.heap.size:=(by omega);have n4:b<w4.heap.size:=(by omega);have a4:=Ya E;clear E J c2))
     | (go_at_call 128;go_loud (refine(g1.out _ A4 k4 c4 es _ j4.out (by have:=m2.out;omega) l6.out ?_ ?_).mono ?_;(first|with_reducible exact Ints.of_own e1.out|exact((Ints.of_own e1.out).below ((Yh _ _).alloc (Yb _) _)).more (by simp));(first|with_reducible exact(Zse w4 u).more (by simp) | exact((Zse wr u).below ((Below.drew (Yh _ _)).trans (i7.out.mono (by simp)))).more (Ym (by simp) i7.out.size));rintro e w5 ⟨A5,k5,c5,gs,rfl,a3,b8,f6,d2,c3,a0⟩;have d3:=Ya d2;have k1:=Ya f6;have a8:=Ya c3;have k9:=Ya b8;have i5:=Ya a3;have P:Below w4.heap.size w4 w5:=(by first|with_reducible exact a0|exact Yba ((Yh _ _).alloc (Yb _) _) (a0.mono (by simp)));have i0:=Ya (show ∀b off,A5=some ⟨b,off,none⟩->w4.heap.size<=b from(λ b off e=>Ym (by first|with_reducible exact Yb _|simp) (c3.lt b (by rw[e];rfl)).1));have i6:=Ya (a4.out.trans (P.mono a4.out.size));clear d2 f6 c3 b8 a3 P a0))
     | (go_at_call 80;go_loud (refine(Zsc A5 k5 c5 gs d3.out w5 w5.heap.size (Ints.of_own a8.out) (by have:=i5.out;omega) (Zbt a8.out) (Zds a8.out)).mono ?_;rintro e w6 ⟨m6,n6,h9,rfl,rfl⟩;have g9:=Ya h9;clear h9)))
    all_goals
     simp only[List.getElem_toArray,List.getElem_cons_succ,List.getElem_cons_zero,Act.put,List.setIfInBounds_toArray,List.set_cons_succ,List.set_cons_zero];go_wp2_with fail
     go_meet
     have o9:=g9.out.1;have d2:=d3.out;exact⟨A5,m6,c5,gs.take m6,rfl,Ya (by have:=i5.out;omega),Ya (Z4i g9.out k9.out (k1.out.trans (by rw[k0.out,m.out.cn.2.2];show R*10+0+(u+10*0)=_;omega)) d3.out a8.out (λ b off e=>Ym (Ym b7 a4.out.size) (i0.out b off e)) n6),Ya (below_drewN i6.out n6)⟩
   case rest =>
    obtain⟨A5,k5,c5,l5,rfl,a3,h7,P⟩:=hcut;have W:=Ya (a.out.below P.out);have b4:=Ya (C.out.below P.out);have j3:=Ya (show dvB 10 (l.drop (i+1))=dvB 10 M*Y+R from by
     have:=hv.out;rw[show((i:Int)+1).toNat=i+1 by omega] at this;exact this)
    have j8:=Ya hR.out;clear q0 T q2 q3 V b1 b2 b3 b7 i9 d8 P a C m hv hR;clear c0 g4;go_wp2_with fail
    go_loopw [7,10] (λ v7 e0 wz=>∃(n:Int)(A9:Option Addr)(n9 c9:Nat)(l9:List Int)(G:Int),0<=n/\n<=9/\e0=.int .i64 n/\v7=.slice A9 n9 c9/\Hid (n9<=t+6)/\Hid (DigW wz (w.heap.size+4) G A9 n9 c9 l9)/\Hid (10*R+u=n*Y+G)/\Hid (RawW wz (w.heap.size+4) A8 K U M)/\Hid (BoxQ w wz neg neg' (.slice A N c) (.slice A' t c'))) (λ _ e0 _=>(10-intOf e0).toNat)
    case atStart=>exact⟨0,A5,k5,c5,l5,10*R+u,by omega,by omega,rfl,rfl,a3,h7,Ya (by rw[Int.zero_mul,Int.zero_add]),b4,W⟩
    case round =>
     clear a3 h7 W b4;obtain⟨n,A9,n9,c9,l9,G,p5,p7,rfl,rfl,h6,r,e4,C,a⟩:=hrel;obtain⟨q0,T,q2,q3⟩:=a.out.cells;obtain⟨V,b1,b2,b3⟩:=a.out.lts;have m4:0<=G:=by
      have:=Zap (show(0:Int)<=10 by decide) r.out.cn.1;rw[r.out.cn.2.2] at this;exact this
     have d6:=Ya (Ym hB a.out.bel.size);have d7:=Ya (H'.out.at_.below (a.out.bel.mono hB));have n2:n9<=1006:=by have:=h6.out;omega
     have b9:=Zq2 (x:=G) (y:=Y);obtain⟨ov,d5⟩:=Yx (ab G Y);rw[<- d5] at b9;have i2:=Ya d5;clear d5;by_cases cR:Y<=G
     .rw[decide_eq_true cR] at b9
      have i1:=Ya (Z03 e4.out);have p1:n<9:=by
       have:=Z4d (D:=Y*0+R) (Q:=0) (R:=R) (B:=Y) (d:=u) (n:=n+1) (R':=G-Y) (by omega) j8.out m5.out i1.out (by omega) (by omega);omega
      have e5:IntKind.i64.wrap (n+1)=n+1:=by rw[Yi _ (by omega)]
      have c1:=Ya cR;clear cR;go_wp2_with fail
      refine(Zhc A9 A' n9 c9 t c' l9 l' G Y r.out.len H'.out.len wr wr.heap.size r.out.at_ (d7.out.more d6.out) (by omega) (by omega) r.out.cn F.out).mono ?_;rintro e wo ⟨rfl,o⟩;rw[<- i2.out];have f:=Ya (a.out.below o);have O:=Ya (r.out.below o);have j:=Ya (C.out.below o);have m0:=Ya ((d7.out.more d6.out).below o);have j0:=o.size;clear q0 T q2 q3 V b1 b2 b3 o;obtain⟨q0,T,q2,q3⟩:=f.out.cells;obtain⟨V,b1,b2,b3⟩:=f.out.lts;go_wp2_with fail
      refine(Zyd A9 A' n9 c9 t c' l9 l' G Y O.out.len H'.out.len wo wo.heap.size (Yb _) O.out.at_ (m0.out.more j0) (by omega) O.out.cn F.out c1.out).mono ?_;rintro e w4 ⟨A4,k4,c4,es,rfl,c2,g0,E⟩;have l1:=Ya (g0.more (show w.heap.size+4<=wo.heap.size from f.out.sz));have d4:=Ya (f.out.below E);have f5:=Ya (j.out.below E);have n5:=h6.out;clear q0 T q2 q3 V b1 b2 b3 E g0 j0;go_wp2_with fail
      go_roundw
      case rel=>exact⟨n+1,A4,k4,c4,es,G-Y,by omega,by omega,by go_num,rfl,Ya (by omega),l1,i1,f5,d4⟩
      case measure=>simp[intOf] <;> omega
     .rw[decide_eq_false cR] at b9
      have c1:=Ya (show 0<=G/\G<Y by omega);clear cR m4;go_wp2_with fail
      refine(Zhc A9 A' n9 c9 t c' l9 l' G Y r.out.len H'.out.len wr wr.heap.size r.out.at_ (d7.out.more d6.out) (by omega) (by omega) r.out.cn F.out).mono ?_;rintro e wo ⟨rfl,o⟩;rw[<- i2.out];have f:=Ya (a.out.below o);have O:=Ya (r.out.below o);have j:=Ya (C.out.below o);have o5:=Ya o;have Z:=e7.out;clear q0 T q2 q3 V b1 b2 b3 o;go_wp2_with (first
       | (at_builtin;refine Zm rfl (.tmp 47) (.tmp 49) _ rfl wo.heap.size 3 Zbb underlying54 rfl (by decide) #[.int .i64 n] (.slice none 0 0) _ _ rfl (World.ownsRow_nil _ _ _ _) rfl rfl rfl (by simp[Value.oneCell']) (by simp[maxLen]) (by simp) (Yb _) ?_;intro v' w7 d9 j9 L f9;obtain⟨o1,o7,rfl⟩:=Zc d9;have k6:=Ya d9;have l3:=Ya (f.out.below L);have m9:=Ya (O.out.below L);have a2:=Ya (j.out.below L);have k7:=L.size;have l0:=Ya L;have n3:=f.out.sz;clear d9 j9 L f9)
       | (at_builtin;refine Zac rfl (.tmp 51) (.tmp 52) _ rfl wo.heap.size 3 Zbb underlying54 rfl (by decide) _ _ _ rfl k6.out w7.heap.size A8 K U (M.map (Value.int .i64)) rfl (by rw[Yaa,a2.out.len,Nat.mul_one]) a2.out.nil (Ztx a2.out.at_) (λ x hx=>by obtain⟨y,_,rfl⟩:=List.mem_map.1 hx;rfl) (by simp only[maxLen];omega) (by omega) k7 ?_;intro v' w8 e8 p3 m1 n0;obtain⟨e9,j1,rfl⟩:=Zc e8))
      have f8:=l0.out.trans m1;have a9:w8.ownsRow wo.heap.size 3 1 (.slice e9 (1+K) j1) (1+K) ((n::M).map (Value.int .i64)):=e8;refine⟨⟨(i:Int)-1,A9,n9,c9,l9,G,e9,1+K,j1,n::M,by omega,by omega,rfl,rfl,rfl,Ya (by omega),Ya (O.out.below f8),Ya ⟨λ d hd=>?_,by rw[List.length_cons,j.out.len,Nat.add_comm],Ints.of_own a9,Zbt a9,Zds a9,λ b off s e=>?_⟩,Ya c1.out,Ya ?_,Ya (f.out.below f8)⟩,by simp[intOf] <;> omega⟩
      .rcases List.mem_cons.1 hd with rfl|hd
       .omega
       .exact j.out.dg d hd
      .exact Ym f.out.sz (a9.lt b (by rw[e];rfl)).1
      .rw[show((i:Int)-1+1).toNat=i by omega,Ze8 l i,<- Hu.out]
       exact Z02 j3.out e4.out
  .have ek:k=0-1:=by omega
   subst ek;have Z:K=N:=by have:=e7.out;omega
   have b5:=Ya (Z4j (neg:=neg) (neg':=neg') (Q:=dvB 10 M) (R:=R) HZ.out.1 j5.out.1 HZ.out.2 (by rw[<- HY.out];exact h0.out) (by
    have:=hv.out;rw[show((0-1:Int)+1).toNat=0 by decide,Yak] at this;rw[<- HY.out];exact this) (by rw[<- HY.out];exact hR.out))
   obtain⟨m8,a7⟩:=Zk9 M;obtain⟨m7,a5⟩:=Zk9 l7;have g4:n7<=t:=by rw[m.out.len,H'.out.len];exact Zm7 F.out m.out.cn (Yaz hR.out.2)
   have f4:=Ya a7;have i8:=Ya a5;have j6:=Ya (show ∀x:Ext wr,Calls prog 49 #[.bool (neg != neg'),.slice A8 K U] x.val λ e d1=>e=.returned (Zx ((neg != neg') && decide (0<m8)) A8 m8 U)/\∃y:Ext wr,d1=y.val from λ x=>Zc6 (x:=x) (Zyf (neg != neg') A8 K U M C.out.len m8 a7 x.val wr.heap.size (C.out.at_.below x.property) x.property.size (by omega) C.out.nil C.out.cap));have l4:=Ya (show ∀x:Ext wr,Calls prog 49 #[.bool neg,.slice A7 n7 c7] x.val λ e d1=>e=.returned (Zx (neg && decide (0<m7)) A7 m7 c7)/\∃y:Ext wr,d1=y.val from λ x=>Zc6 (x:=x) (Zyf neg A7 n7 c7 l7 m.out.len m7 a5 x.val wr.heap.size (m.out.at_.below x.property) x.property.size (by omega) m.out.nil m.out.cap));obtain⟨q0,T,q2,q3⟩:=a.out.cells;obtain⟨V,b1,b2,b3⟩:=a.out.lts;have f7:=Ya Z;clear c0 j2 m3 a7 a5 Z;go_upto_region 15 with fail
   refine Zi 11 (by kernel_rfl) (by kernel_rfl) ?_;have hE:=Zn wr;simp only[List.take_succ_cons,List.take_zero,Yag,Yak]
   repeat (first|go_big_quiet_step (first
    | (go_at_call_of 49 (Value.slice A8 K U);exact j6.out _)
    | (go_at_call_of 49 (Value.slice A7 n7 c7);exact l4.out _)))
   refine wpQuiet_nil ?_;rintro y1 ⟨⟨_,a6⟩,rfl⟩;have I:=Ya (a.out.below a6);obtain⟨⟨r0,r1,r2,r3⟩,s0,s1,s2,s3⟩:=I.out.res;obtain⟨f0,f1,f2,f3⟩:=I.out.lts;have q:=Ya (m.out.below a6);have j:=Ya (C.out.below a6);clear hE q0 T q2 q3 V b1 b2 b3 a6;unfold Zx;go_wp2_with fail
   refine bodyPost_ret (v:=.tuple #[Zx ((neg != neg') && decide (0<m8)) A8 m8 U,Zx (neg && decide (0<m7)) A7 m7 c7,.int .i64 0]) (by simp[results,results63,go_sem,Zx,r0,r1,s0,s1]) rfl ?_;have k2:w.heap.size<=w.heap.size+1+1:=by omega
   have k3:w.heap.size<=w.heap.size+1+1+1:=by omega
   have g8:=Zyh (j.out.at_) j.out.dg j.out.len f4.out j.out.nil j.out.cap (by have:=f7.out;omega) j.out.new;have g7:=Zyh (q.out.at_) q.out.cn.1 q.out.len i8.out q.out.nil q.out.cap (by omega) q.out.new;have a7:=f4.out.1;have a5:=i8.out.1;have o3:=j.out.len;have o2:=q.out.len;have p2:=f7.out;refine⟨_,A8,m8,U,M.take m8,_,A7,m7,c7,l7.take m7,rfl,by omega,by omega,?_,?_,(((I.out.bel.setCell (p:=⟨w.heap.size+1+1,0,none⟩) k2 _).setCell (p:=⟨w.heap.size+1+1,1,none⟩) k2 _).setCell (p:=⟨w.heap.size+1+1+1,0,none⟩) k3 _).setCell (p:=⟨w.heap.size+1+1+1,1,none⟩) k3 _,λ b off e=>by have:=j.out.new b off _ e;omega,λ b off e=>by have:=q.out.new b off _ e;omega⟩
   .rw[<- b5.out.1 M rfl]
    exact Zaq (Zaq (g8 _) (Yb _) (λ b off e=>by have:=j.out.new b off _ e;omega) _ _) (Yb _) (λ b off e=>by have:=j.out.new b off _ e;omega) _ _
   .rw[<- b5.out.2 l7 q.out.cn.2.2]
    exact Zaq (Zaq (g7 _) (Yb _) (λ b off e=>by have:=q.out.new b off _ e;omega) _ _) (Yb _) (λ b off e=>by have:=q.out.new b off _ e;omega) _ _
end
