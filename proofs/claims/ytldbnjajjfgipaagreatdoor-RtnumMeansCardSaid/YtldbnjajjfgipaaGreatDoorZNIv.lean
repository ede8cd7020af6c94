/- Parts. -/
import Derived.Test.YtldbnjajjfgipaaGreatDoorZR5I
set_option linter.all false
set_option maxHeartbeats 4000000
open Go.Lib renaming hid->Ya
open Nat renaming le_refl->Yb,le_trans->Ym
open List renaming getD_eq_getElem?_getD->Ye,getElem?_eq_some_iff->Yg,length_cons->Yj,mem_cons_self->Yv,mem_cons->Yz,mem_singleton->Y2,mem_append->Y4,mem_append_left->Ya6,mem_append_right->Ybj,getElem?_cons_succ->Ycn
open Int renaming le_refl->Y5
namespace Go.Proofs.YtldbnjajjfgipaaGreatDoor
open S Go.Proofs.Tryz Go.RowKit
set_option maxRecDepth 100000
section
theorem Zmr {w wr:World}{neg neg':Bool}{v d:Value}(h:BoxL w wr neg neg' v d){A:Option Addr}(f:∀b off,A=some ⟨b,off,none⟩->wr.heap.size<=b):∀b off,A=some ⟨b,off,none⟩->b≠w.heap.size+1+1:=λ b off e=>by
 have:=f b off e;have:=h.sz;omega
theorem Zb5 (w:World)(o:Obj){a:Addr}(h:a.block<w.heap.size):(w.alloc o).cell? a=w.cell? a:=World.cell?_of_block (heap_alloc_old w o h)
def Zrs (w:World)(z:Int)(K:Nat)(e:Ending)(w':World):Prop:=∃(n1:Bool)(A1:Option Addr)(m1 c1:Nat)(l1:List Int),e=.returned (.tuple #[Zx n1 A1 m1 c1,.int .i64 (-1),.int .i64 (-1)])/\m1<=K/\NumW w' w'.heap.size z n1 A1 m1 c1 l1/\Below w.heap.size w w'
section
variable (neg neg':Bool)(A A':Option Addr)(N c N' c':Nat)(l l':List Int)(z z':Int)(w:World)(B:Nat)(hB:B<=w.heap.size)(h:NumW w B z neg A N c l)(h':NumW w B z' neg' A' N' c' l')
include hB h h'
theorem Z0e (op:Int)(C:op=13\/op=14):Calls prog 26 #[.int .i64 op,Zx neg A N c,Zx neg' A' N' c'] w λ e w'=>e=.returned (.tuple #[Zx false none 0 0,.int .i64 (if (op=13/\z=z')\/(op=14/\z<z') then 1 else 0),.int .i64 (-1)])/\Below w.heap.size w w':=by
 have H:=Ya h;have u:=Ya h';clear h h';have b:=Zhf w neg neg' (.slice A N c) (.slice A' N' c');obtain⟨t,i⟩:∃t:Int,t=if (op=13/\z=z')\/(op=14/\z<z') then 1 else 0:=⟨_,rfl⟩
 rw[<- i];obtain⟨D,j⟩:=Yx (ab z z');have k:=Ya j;have d1:(D==0)=decide (z=z'):=by
  rw[j];unfold ab;by_cases c1:z<z'
  .rw[if_pos c1,decide_eq_false (by omega)];rfl
  .by_cases c2:z=z'
   .rw[if_neg c1,if_pos c2,decide_eq_true c2];rfl
   .rw[if_neg c1,if_neg c2,decide_eq_false c2];rfl
 have d2:decide (D<0)=decide (z<z'):=by
  rw[j];unfold ab;by_cases c1:z<z'
  .rw[if_pos c1,decide_eq_true c1];rfl
  .by_cases c2:z=z'
   .rw[if_neg c1,if_pos c2,decide_eq_false c1];rfl
   .rw[if_neg c1,if_neg c2,decide_eq_false c1];rfl
 unfold Zx;rcases C with rfl|rfl
 .by_cases ce:z=z'
  .have Htr:=Ya (show t=1 by rw[i,if_pos (.inl ⟨rfl,ce⟩)])
   rw[decide_eq_true ce] at d1;clear i j d2 ce;go_enter func26,ntmps26
   go_upto_region 1 with fail
   generalize (((w.alloc (.cells #[.bool neg,.slice A N c] 56 (0,0))).alloc (.cells #[.bool neg',.slice A' N' c'] 56 (0,0))).alloc (.cells #[.bool false,.slice none 0 0] 56 (0,0)))=w3 at b⊢;have d:=Ya b;obtain⟨r,n,q,s⟩:=b.cells;obtain⟨m,b1,b2⟩:=b.lts;clear b;go_wp2_with fail
   refine(Ztw neg neg' A A' N c N' c' l l' z z' w3 B (Ym hB d.out.bel.size) (H.out.below (d.out.bel.mono hB)) (u.out.below (d.out.bel.mono hB))).mono ?_;rintro e x ⟨rfl,g⟩;rw[<- k.out];have f:=Ya (d.out.below g);obtain⟨o,r1,r2,y⟩:=f.out.res;obtain⟨f0,f1,f2⟩:=f.out.lts;clear r n q s m b1 b2 g;go_wp2_with fail
   refine bodyPost_ret (v:=.tuple #[Zx false none 0 0,.int .i64 1,.int .i64 (-1)]) (by simp[results,results26,go_sem,Zx,o,r1]) rfl ?_;have k2:w.heap.size<=w.heap.size+1+1:=by omega
   exact⟨by rw[Htr.out];rfl,(f.out.bel.setCell (p:=⟨w.heap.size+1+1,0,none⟩) k2 _).setCell (p:=⟨w.heap.size+1+1,1,none⟩) k2 _⟩
  .have Htr:=Ya (show t=0 by rw[i,if_neg (by omega)])
   rw[decide_eq_false ce] at d1;clear i j d2 ce;go_enter func26,ntmps26
   go_upto_region 1 with fail
   generalize (((w.alloc (.cells #[.bool neg,.slice A N c] 56 (0,0))).alloc (.cells #[.bool neg',.slice A' N' c'] 56 (0,0))).alloc (.cells #[.bool false,.slice none 0 0] 56 (0,0)))=w3 at b⊢;have d:=Ya b;obtain⟨r,n,q,s⟩:=b.cells;obtain⟨m,b1,b2⟩:=b.lts;clear b;go_wp2_with fail
   refine(Ztw neg neg' A A' N c N' c' l l' z z' w3 B (Ym hB d.out.bel.size) (H.out.below (d.out.bel.mono hB)) (u.out.below (d.out.bel.mono hB))).mono ?_;rintro e x ⟨rfl,g⟩;rw[<- k.out];have f:=Ya (d.out.below g);obtain⟨o,r1,r2,y⟩:=f.out.res;obtain⟨f0,f1,f2⟩:=f.out.lts;clear r n q s m b1 b2 g;go_wp2_with fail
   refine bodyPost_ret (v:=.tuple #[Zx false none 0 0,.int .i64 0,.int .i64 (-1)]) (by simp[results,results26,go_sem,Zx,o,r1]) rfl ?_;have k2:w.heap.size<=w.heap.size+1+1:=by omega
   exact⟨by rw[Htr.out];rfl,(f.out.bel.setCell (p:=⟨w.heap.size+1+1,0,none⟩) k2 _).setCell (p:=⟨w.heap.size+1+1,1,none⟩) k2 _⟩
 .by_cases ce:z<z'
  .have Htr:=Ya (show t=1 by rw[i,if_pos (.inr ⟨rfl,ce⟩)])
   rw[decide_eq_true ce] at d2;clear i j d1 ce;go_enter func26,ntmps26
   go_upto_region 1 with fail
   generalize (((w.alloc (.cells #[.bool neg,.slice A N c] 56 (0,0))).alloc (.cells #[.bool neg',.slice A' N' c'] 56 (0,0))).alloc (.cells #[.bool false,.slice none 0 0] 56 (0,0)))=w3 at b⊢;have d:=Ya b;obtain⟨r,n,q,s⟩:=b.cells;obtain⟨m,b1,b2⟩:=b.lts;clear b;go_wp2_with fail
   refine(Ztw neg neg' A A' N c N' c' l l' z z' w3 B (Ym hB d.out.bel.size) (H.out.below (d.out.bel.mono hB)) (u.out.below (d.out.bel.mono hB))).mono ?_;rintro e x ⟨rfl,g⟩;rw[<- k.out];have f:=Ya (d.out.below g);obtain⟨o,r1,r2,y⟩:=f.out.res;obtain⟨f0,f1,f2⟩:=f.out.lts;clear r n q s m b1 b2 g;go_wp2_with fail
   refine bodyPost_ret (v:=.tuple #[Zx false none 0 0,.int .i64 1,.int .i64 (-1)]) (by simp[results,results26,go_sem,Zx,o,r1]) rfl ?_;have k2:w.heap.size<=w.heap.size+1+1:=by omega
   exact⟨by rw[Htr.out];rfl,(f.out.bel.setCell (p:=⟨w.heap.size+1+1,0,none⟩) k2 _).setCell (p:=⟨w.heap.size+1+1,1,none⟩) k2 _⟩
  .have Htr:=Ya (show t=0 by rw[i,if_neg (by omega)])
   rw[decide_eq_false ce] at d2;clear i j d1 ce;go_enter func26,ntmps26
   go_upto_region 1 with fail
   generalize (((w.alloc (.cells #[.bool neg,.slice A N c] 56 (0,0))).alloc (.cells #[.bool neg',.slice A' N' c'] 56 (0,0))).alloc (.cells #[.bool false,.slice none 0 0] 56 (0,0)))=w3 at b⊢;have d:=Ya b;obtain⟨r,n,q,s⟩:=b.cells;obtain⟨m,b1,b2⟩:=b.lts;clear b;go_wp2_with fail
   refine(Ztw neg neg' A A' N c N' c' l l' z z' w3 B (Ym hB d.out.bel.size) (H.out.below (d.out.bel.mono hB)) (u.out.below (d.out.bel.mono hB))).mono ?_;rintro e x ⟨rfl,g⟩;rw[<- k.out];have f:=Ya (d.out.below g);obtain⟨o,r1,r2,y⟩:=f.out.res;obtain⟨f0,f1,f2⟩:=f.out.lts;clear r n q s m b1 b2 g;go_wp2_with fail
   refine bodyPost_ret (v:=.tuple #[Zx false none 0 0,.int .i64 0,.int .i64 (-1)]) (by simp[results,results26,go_sem,Zx,o,r1]) rfl ?_;have k2:w.heap.size<=w.heap.size+1+1:=by omega
   exact⟨by rw[Htr.out];rfl,(f.out.bel.setCell (p:=⟨w.heap.size+1+1,0,none⟩) k2 _).setCell (p:=⟨w.heap.size+1+1,1,none⟩) k2 _⟩
theorem Zms (op n:Int)(r:op=8/\n=z+z'\/op=9/\n=z-z'\/op=10/\n=z*z')(s:N<=1000)(i:N'<=1000):Calls prog 26 #[.int .i64 op,Zx neg A N c,Zx neg' A' N' c'] w (Zrs w n 8000):=by
 have H:=Ya h;have q:=Ya h';clear h h';have d:=Zhf w neg neg' (.slice A N c) (.slice A' N' c');unfold Zx;rcases r with⟨rfl,rfl⟩|⟨rfl,rfl⟩|⟨rfl,rfl⟩
 all_goals
  go_enter func26,ntmps26
  go_upto_region 1 with fail
  generalize (((w.alloc (.cells #[.bool neg,.slice A N c] 56 (0,0))).alloc (.cells #[.bool neg',.slice A' N' c'] 56 (0,0))).alloc (.cells #[.bool false,.slice none 0 0] 56 (0,0)))=w3 at d⊢;have b:=Ya d;obtain⟨G,y,E,I⟩:=d.cells;obtain⟨x,b1,b2⟩:=d.lts;clear d;go_wp2_with fail
  first
   | refine(Z6l neg neg' A A' N c N' c' l l' z z' w3 B (Ym hB b.out.bel.size) (H.out.below (b.out.bel.mono hB)) (q.out.below (b.out.bel.mono hB)) 1000 s i (by decide)).mono ?_
   | refine(Z7y neg neg' A A' N c N' c' l l' z z' w3 B (Ym hB b.out.bel.size) (H.out.below (b.out.bel.mono hB)) (q.out.below (b.out.bel.mono hB)) 1000 s i (by decide)).mono ?_
   | refine(Z7z neg neg' A A' N c N' c' l l' z z' w3 B (Ym hB b.out.bel.size) (H.out.below (b.out.bel.mono hB)) (q.out.below (b.out.bel.mono hB)) s i).mono ?_
  rintro e w4 ⟨u,t,m4,c4,l4,rfl,D,k,m,f⟩;have g:=Ya (b.out.below m);have o:=Ya k;have j:=Ya (Zmr b.out f);obtain⟨C,r1,r2,r3⟩:=g.out.res;obtain⟨f0,f1,f2⟩:=g.out.lts;clear G y E I x b1 b2 m k f;unfold Zx;go_wp2_with fail
  refine bodyPost_ret (v:=.tuple #[Zx u t m4 c4,.int .i64 (-1),.int .i64 (-1)]) (by simp[results,results26,go_sem,Zx,C,r1]) rfl ?_;have k2:w.heap.size<=w.heap.size+1+1:=by omega
  exact⟨u,t,m4,c4,l4,rfl,by omega,Zaq o.out (Yb _) j.out _ _,(g.out.bel.setCell (p:=⟨w.heap.size+1+1,0,none⟩) k2 _).setCell (p:=⟨w.heap.size+1+1,1,none⟩) k2 _⟩
theorem Zw5 (M:z'≠0)(Z:N<=1000)(C:N'<=1000):Calls prog 26 #[.int .i64 11,Zx neg A N c,Zx neg' A' N' c'] w (Zrs w (Int.tdiv z z') 8000):=by
 have H:=Ya h;have V:=Ya h';have Q:=Ya M;clear h h' M;have g:=Zhf w neg neg' (.slice A N c) (.slice A' N' c');unfold Zx;go_enter func26,ntmps26
 go_upto_region 1 with fail
 generalize (((w.alloc (.cells #[.bool neg,.slice A N c] 56 (0,0))).alloc (.cells #[.bool neg',.slice A' N' c'] 56 (0,0))).alloc (.cells #[.bool false,.slice none 0 0] 56 (0,0)))=w3 at g⊢;have i:=Ya g;obtain⟨Y,R,X,T⟩:=g.cells;obtain⟨P,b1,b2⟩:=g.lts;clear g;go_wp2_with fail
 refine(Z6o neg neg' A A' N c N' c' l l' z z' Q.out w3 B (Ym hB i.out.bel.size) (H.out.below (i.out.bel.mono hB)) (V.out.below (i.out.bel.mono hB)) Z C).mono ?_;rintro e o ⟨d,b,m4,c4,l4,D,u,m5,c5,l5,rfl,U,W,r,G,s,j,n⟩;have k:=Ya (i.out.below s);have t:=Ya r;have q:=Ya (Zmr i.out j);obtain⟨L,r1,r2,r3⟩:=k.out.res;obtain⟨f0,f1,f2⟩:=k.out.lts;clear Y R X T P b1 b2 s r G j n;unfold Zx;have f:((o.setCell ⟨w.heap.size+1+1,0,none⟩ (.bool d)).setCell ⟨w.heap.size+1+1,1,none⟩ (.slice b m4 c4)).heap.size=o.heap.size:=by simp
 have I:((o.setCell ⟨w.heap.size+1+1,0,none⟩ (.bool d)).setCell ⟨w.heap.size+1+1,1,none⟩ (.slice b m4 c4)).cell? ⟨w.heap.size+1+1,0,none⟩=some (.bool d):=by simp[go_sem,L,r1]
 have g1:((o.setCell ⟨w.heap.size+1+1,0,none⟩ (.bool d)).setCell ⟨w.heap.size+1+1,1,none⟩ (.slice b m4 c4)).cell? ⟨w.heap.size+1+1,1,none⟩=some (.slice b m4 c4):=by simp[go_sem,L,r1]
 have J:=(Zb5 _ (.cells #[.bool D,.slice u m5 c5] 56 (0,0)) (a:=⟨w.heap.size+1+1,0,none⟩) (by rw[World.size_alloc,f];exact Nat.lt_succ_of_lt f2)).trans ((Zb5 _ (.cells #[.bool d,.slice b m4 c4] 56 (0,0)) (a:=⟨w.heap.size+1+1,0,none⟩) (by rw[f];exact f2)).trans I);have K:=(Zb5 _ (.cells #[.bool D,.slice u m5 c5] 56 (0,0)) (a:=⟨w.heap.size+1+1,1,none⟩) (by rw[World.size_alloc,f];exact Nat.lt_succ_of_lt f2)).trans ((Zb5 _ (.cells #[.bool d,.slice b m4 c4] 56 (0,0)) (a:=⟨w.heap.size+1+1,1,none⟩) (by rw[f];exact f2)).trans g1);have k2:w.heap.size<=w.heap.size+1+1:=by omega
 have O:=Ya ((k.out.bel.setCell (p:=⟨w.heap.size+1+1,0,none⟩) k2 (.bool d)).setCell (p:=⟨w.heap.size+1+1,1,none⟩) k2 (.slice b m4 c4));have x:=Ya (Zaq t.out (Yb _) q.out (.bool d) (.slice b m4 c4));have y:=Ya J;have E:=Ya K;clear J K I g1 f;go_wp2_with fail
 refine bodyPost_ret (v:=.tuple #[Zx d b m4 c4,.int .i64 (-1),.int .i64 (-1)]) (by simp[results,results26,go_sem,Zx,y.out,E.out]) rfl ?_;have m:=Zax (Yb ((o.setCell ⟨w.heap.size+1+1,0,none⟩ (.bool d)).setCell ⟨w.heap.size+1+1,1,none⟩ (.slice b m4 c4)).heap.size) (.cells #[.bool d,.slice b m4 c4] 56 (0,0)) (.cells #[.bool D,.slice u m5 c5] 56 (0,0));exact⟨d,b,m4,c4,l4,rfl,by omega,(x.out.below m).more m.size,O.out.trans (m.mono O.out.size)⟩
theorem Zw6 (M:z'≠0)(hl:N<=1000)(E:N'<=1000):Calls prog 26 #[.int .i64 12,Zx neg A N c,Zx neg' A' N' c'] w (Zrs w (Int.tmod z z') 8000):=by
 have H:=Ya h;have W:=Ya h';have Q:=Ya M;clear h h' M;have g:=Zhf w neg neg' (.slice A N c) (.slice A' N' c');unfold Zx;go_enter func26,ntmps26
 go_upto_region 1 with fail
 generalize (((w.alloc (.cells #[.bool neg,.slice A N c] 56 (0,0))).alloc (.cells #[.bool neg',.slice A' N' c'] 56 (0,0))).alloc (.cells #[.bool false,.slice none 0 0] 56 (0,0)))=w3 at g⊢;have j:=Ya g;obtain⟨Z,R,Y,T⟩:=g.cells;obtain⟨P,b1,b2⟩:=g.lts;clear g;go_wp2_with fail
 refine(Z6o neg neg' A A' N c N' c' l l' z z' Q.out w3 B (Ym hB j.out.bel.size) (H.out.below (j.out.bel.mono hB)) (W.out.below (j.out.bel.mono hB)) hl E).mono ?_;rintro e o ⟨x,t,m4,c4,l4,d,b,m5,c5,V,rfl,U,X,C,r,s,n,i⟩;have k:=Ya (j.out.below s);have u:=Ya r;have q:=Ya (Zmr j.out i);obtain⟨L,r1,r2,r3⟩:=k.out.res;obtain⟨f0,f1,f2⟩:=k.out.lts;clear Z R Y T P b1 b2 s C r n i;unfold Zx;have f:((o.setCell ⟨w.heap.size+1+1,0,none⟩ (.bool d)).setCell ⟨w.heap.size+1+1,1,none⟩ (.slice b m5 c5)).heap.size=o.heap.size:=by simp
 have I:((o.setCell ⟨w.heap.size+1+1,0,none⟩ (.bool d)).setCell ⟨w.heap.size+1+1,1,none⟩ (.slice b m5 c5)).cell? ⟨w.heap.size+1+1,0,none⟩=some (.bool d):=by simp[go_sem,L,r1]
 have g1:((o.setCell ⟨w.heap.size+1+1,0,none⟩ (.bool d)).setCell ⟨w.heap.size+1+1,1,none⟩ (.slice b m5 c5)).cell? ⟨w.heap.size+1+1,1,none⟩=some (.slice b m5 c5):=by simp[go_sem,L,r1]
 have J:=(Zb5 _ (.cells #[.bool d,.slice b m5 c5] 56 (0,0)) (a:=⟨w.heap.size+1+1,0,none⟩) (by rw[World.size_alloc,f];exact Nat.lt_succ_of_lt f2)).trans ((Zb5 _ (.cells #[.bool x,.slice t m4 c4] 56 (0,0)) (a:=⟨w.heap.size+1+1,0,none⟩) (by rw[f];exact f2)).trans I);have K:=(Zb5 _ (.cells #[.bool d,.slice b m5 c5] 56 (0,0)) (a:=⟨w.heap.size+1+1,1,none⟩) (by rw[World.size_alloc,f];exact Nat.lt_succ_of_lt f2)).trans ((Zb5 _ (.cells #[.bool x,.slice t m4 c4] 56 (0,0)) (a:=⟨w.heap.size+1+1,1,none⟩) (by rw[f];exact f2)).trans g1);have k2:w.heap.size<=w.heap.size+1+1:=by omega
 have O:=Ya ((k.out.bel.setCell (p:=⟨w.heap.size+1+1,0,none⟩) k2 (.bool d)).setCell (p:=⟨w.heap.size+1+1,1,none⟩) k2 (.slice b m5 c5));have y:=Ya (Zaq u.out (Yb _) q.out (.bool d) (.slice b m5 c5));have D:=Ya J;have G:=Ya K;clear J K I g1 f;go_wp2_with fail
 refine bodyPost_ret (v:=.tuple #[Zx d b m5 c5,.int .i64 (-1),.int .i64 (-1)]) (by simp[results,results26,go_sem,Zx,D.out,G.out]) rfl ?_;have m:=Zax (Yb ((o.setCell ⟨w.heap.size+1+1,0,none⟩ (.bool d)).setCell ⟨w.heap.size+1+1,1,none⟩ (.slice b m5 c5)).heap.size) (.cells #[.bool x,.slice t m4 c4] 56 (0,0)) (.cells #[.bool d,.slice b m5 c5] 56 (0,0));exact⟨d,b,m5,c5,V,rfl,by omega,(y.out.below m).more m.size,O.out.trans (m.mono O.out.size)⟩
theorem Z0f (op:Int)(o:op=11\/op=12)(C:z'=0):Calls prog 26 #[.int .i64 op,Zx neg A N c,Zx neg' A' N' c'] w λ e w'=>e=.returned (.tuple #[Zx false none 0 0,.int .i64 (-1),.int .i64 4])/\Below w.heap.size w w':=by
 subst C;have H:=Ya h;have D:=Ya h';clear h h';have d:=Zhf w neg neg' (.slice A N c) (.slice A' N' c');unfold Zx;rcases o with rfl|rfl
 all_goals
  go_enter func26,ntmps26
  go_upto_region 1 with fail
  generalize (((w.alloc (.cells #[.bool neg,.slice A N c] 56 (0,0))).alloc (.cells #[.bool neg',.slice A' N' c'] 56 (0,0))).alloc (.cells #[.bool false,.slice none 0 0] 56 (0,0)))=w3 at d⊢;have f:=Ya d;obtain⟨G,y,E,I⟩:=d.cells;obtain⟨x,b1,b2⟩:=d.lts;clear d;go_wp2_with fail
  refine(Z6n neg neg' A A' N c N' c' l l' z w3 B (Ym hB f.out.bel.size) (H.out.below (f.out.bel.mono hB)) (D.out.below (f.out.bel.mono hB))).mono ?_;rintro e i ⟨rfl,j⟩;have g:=Ya (f.out.below j);obtain⟨t,r1,r2,r3⟩:=g.out.res;obtain⟨f0,f1,f2⟩:=g.out.lts;clear G y E I x b1 b2 j;unfold Zx;have b:((i.setCell ⟨w.heap.size+1+1,0,none⟩ (.bool false)).setCell ⟨w.heap.size+1+1,1,none⟩ (.slice none 0 0)).heap.size=i.heap.size:=by simp
  have q:((i.setCell ⟨w.heap.size+1+1,0,none⟩ (.bool false)).setCell ⟨w.heap.size+1+1,1,none⟩ (.slice none 0 0)).cell? ⟨w.heap.size+1+1,0,none⟩=some (.bool false):=by simp[go_sem,t,r1]
  have g1:((i.setCell ⟨w.heap.size+1+1,0,none⟩ (.bool false)).setCell ⟨w.heap.size+1+1,1,none⟩ (.slice none 0 0)).cell? ⟨w.heap.size+1+1,1,none⟩=some (.slice none 0 0):=by simp[go_sem,t,r1]
  have r:=(Zb5 _ (.cells #[.bool false,.slice none 0 0] 56 (0,0)) (a:=⟨w.heap.size+1+1,0,none⟩) (by rw[World.size_alloc,b];exact Nat.lt_succ_of_lt f2)).trans ((Zb5 _ (.cells #[.bool false,.slice none 0 0] 56 (0,0)) (a:=⟨w.heap.size+1+1,0,none⟩) (by rw[b];exact f2)).trans q);have s:=(Zb5 _ (.cells #[.bool false,.slice none 0 0] 56 (0,0)) (a:=⟨w.heap.size+1+1,1,none⟩) (by rw[World.size_alloc,b];exact Nat.lt_succ_of_lt f2)).trans ((Zb5 _ (.cells #[.bool false,.slice none 0 0] 56 (0,0)) (a:=⟨w.heap.size+1+1,1,none⟩) (by rw[b];exact f2)).trans g1);have k2:w.heap.size<=w.heap.size+1+1:=by omega
  have u:=Ya ((g.out.bel.setCell (p:=⟨w.heap.size+1+1,0,none⟩) k2 (.bool false)).setCell (p:=⟨w.heap.size+1+1,1,none⟩) k2 (.slice none 0 0));have m:=Ya r;have n:=Ya s;clear r s q g1 b;go_wp2_with fail
  refine bodyPost_ret (v:=.tuple #[Zx false none 0 0,.int .i64 (-1),.int .i64 4]) (by simp[results,results26,go_sem,Zx,m.out,n.out]) rfl ?_;have k:=Zax (Yb ((i.setCell ⟨w.heap.size+1+1,0,none⟩ (.bool false)).setCell ⟨w.heap.size+1+1,1,none⟩ (.slice none 0 0)).heap.size) (.cells #[.bool false,.slice none 0 0] 56 (0,0)) (.cells #[.bool false,.slice none 0 0] 56 (0,0));exact⟨rfl,u.out.trans (k.mono u.out.size)⟩
end
end
theorem Zw7 {w:World}{lo b p:Nat}{F:Nat->Prop}{first half after next:Int}{m:Mach}(k:Int)(hk:1<=k/\k<=1000)(q:NAt w lo b p F first half after next m)(hn:0<=next/\next<=300000000) :
 Calls prog 21 #[.pointer (some ⟨b,0,none⟩),.int .i64 k] w λ e w'=>e=.returned (.tuple #[])/\NAt w' lo b p F first half after (next+k) (m.putV next (32*(k-1)+7))/\Below lo w w':=by
 have y:=Ya q;obtain⟨E,G,x,I,C⟩:=q.cells;have j:=q.blt;have u1:IntKind.i64.wrap (k-1)=k-1:=IntWalk.i64_in _ ⟨by omega,by omega⟩;have u2:IntKind.u32.wrap (k-1)=k-1:=IntWalk.u32_in _ ⟨by omega,by omega⟩;have K:(k-1)%4294967296=k-1:=by omega
 have u3:IntKind.u32.wrap ((k-1)*32)=(k-1)*32:=IntWalk.u32_in _ ⟨by omega,by omega⟩;have M:(k-1)*32%4294967296=(k-1)*32:=by omega
 have o1:bits .or .u32 ((k-1)*32) 4=(k-1)*32+4:=Zu 5 ((k-1)*32) 4 32 (by decide) (by omega) (by omega) (by omega) (by decide) (by decide) (by decide);have o2:bits .or .u32 ((k-1)*32+4) 3=32*(k-1)+7:=(Zu 2 ((k-1)*32+4) 3 4 (by decide) (by omega) (by omega) (by omega) (by decide) (by decide) (by decide)).trans (by omega);have u4:IntKind.i64.wrap (next+k)=next+k:=IntWalk.i64_in _ ⟨by omega,by omega⟩;clear q;go_enter func21,ntmps21
 go_upto_region 0 with fail
 refine Zi 14 (by kernel_rfl) (by kernel_rfl) ?_;have L:=Zn w;simp only[List.take_succ_cons,List.take_zero,List.drop_succ_cons,List.drop_zero]
 repeat (first|go_big_quiet_step (fail))
 refine wpQuiet_nil ?_;rintro y1 ⟨⟨_,d⟩,rfl⟩;have f:=Ya (y.out.below d);have u:=Ya (d.mono y.out.lolt);clear L E G x I C j d;go_wp2_with fail
 refine(Zvt next (32*(k-1)+7) f.out ⟨by omega,by omega⟩).mono ?_;rintro e D ⟨rv,rfl,i,H⟩;have s:=Ya (u.out.trans (f.out.lobelow H));have o:=Ya i;clear i H;obtain⟨E,G,x,I,C⟩:=o.out.cells;have j:=o.out.blt;have J:D.frozen? ⟨b,4,none⟩=false:=frozen_of_row D b 4 _ _ o.out.blk;obtain⟨g,n⟩:=o.out.onward (next+k);have t:=Ya g;have r:=Ya n;clear g n;go_wp2_with fail
 exact bodyPost_end (v:=.tuple #[]) (by simp[results,results21,go_sem]) rfl ⟨rfl,t.out,s.out.trans r.out⟩
section
attribute [local irreducible] aj nL nMid
theorem Zrt {I:Img}(d:I.Ok){size top:Int}(e:∀c,I.code c->c<top):∀(l:List Int)(m:Mach)(n:Int),m.Ok->(m.mem.length:Int)=size->I.In m.mem->(∀x∈l,0<=x/\x<=4294967295)->top<=n->0<=n->n+l.length<=size ->
 (putAt m n l).Ok/\((putAt m n l).mem.length:Int)=size/\I.In (putAt m n l).mem/\(putAt m n l).state=m.state/\(putAt m n l).place=m.place/\(∀j,(putAt m n l).rd j=m.rd j)/\∀c,0<=c->(putAt m n l).mv c=if n<=c/\c<n+l.length then l.getD (c-n).toNat 0 else m.mv c
 | [],m,n,h1,h2,h3,_,_,_,_=>⟨h1,h2,h3,rfl,rfl,λ _=>rfl,λ c _=>by
  rw[if_neg (by simp only[List.length_nil];omega)];rfl⟩
 | y::r,m,n,h1,h2,h3,hw,ht,h0,hs=>by
  rw[Yj] at hs;have u:=hw y Yv;obtain⟨e1,g,e3,e4,p,e6,s⟩:=Zcl m n y;have f:I.In (m.putV n y).mem:=by
   rw[Zi5 h0 (by omega)];exact Zl8 d h3 h0 (λ h=>by have:=e n h;omega) y
  obtain⟨k,t,D,C,o,q,i⟩:=Zrt (size:=size) d e r (m.putV n y) (n+1) (Zl9 h1 u) (by rw[s];exact h2) f (λ x v=>hw x (List.mem_cons_of_mem _ v)) (by omega) (by omega) (by omega);refine⟨k,t,D,C.trans p,o.trans g,λ j=>(q j).trans (Zl7 m n y j),λ c b=>?_⟩
  show(putAt (m.putV n y) (n+1) r).mv c=_
  rw[i c b,Zi6 h0 (by omega) b,Yj];by_cases c1:c=n
  .rw[if_neg (by omega),if_pos c1,if_pos (by omega),show(c-n).toNat=0 by omega]
   rfl
  .by_cases c2:n+1<=c/\c<n+1+r.length
   .rw[if_pos c2,if_pos (by omega),show(c-n).toNat=(c-(n+1)).toNat+1 by omega]
    rfl
   .rw[if_neg c2,if_neg c1,if_neg (by omega)]
structure S.bt (op:Int)(F:List Int)(half a s g:Int)(m:Mach)(n:Int)(O Q:List Ob):Prop where
 ok:m.Ok
 run:m.state=0
 mlen:(m.mem.length:Int)=a+4+2*half
 code:(aa true op F (a+4+2*half)).In m.mem
 place:m.place=a+1
 r28:m.rd 28=1056
 m2:m.mv 2=a+4
 m3:m.mv 3=a+4+half
 m4:m.mv 4=half
 m5:m.mv 5=38
 low:∀c,5<c->c<1312->m.mv c=if c=7 then s else 0
 zero:∀c,n<=c->m.mv c=0
 nb:a+4<=n/\n<=a+4+half
 obj:∀o∈O,∀(k:Nat)(w:Int),o.ws[k]?=some w->m.mv (o.at_+k)=w
 inb:∀o∈O,ObOk o/\a+4<=o.at_/\o.at_+o.ws.length<=n
 dis:∀o∈O,∀o'∈O,o≠o'->o.at_+o.ws.length<=o'.at_\/o'.at_+o'.ws.length<=o.at_
 nd:O.Nodup
 sum:tot O<=n-(a+4)
 sub:∀o∈Q,o∈O
 sumQ:tot Q<=n-g
 plain:∀o∈Q,∀w∈o.ws,w%4≠1
theorem Z0g {o:Ob}(h:ObOk o):0<o.ws.length:=by
 obtain⟨hd,r,e,_⟩:=h.head;rw[e];simp
theorem Zqt:∀(A B:List Ob),tot (A++B)=tot A+tot B
 | [],B=>by show tot B=0+tot B;omega
 | o::r,B=>by
  show(o.ws.length:Int)+tot (r++B)=o.ws.length+tot r+tot B
  rw[Zqt r B];omega
theorem Z7e {z:Int}{ws:List Int}(h:Wz z ws)(h2:2<=ws.length)(f:ws.length<=1002)(n:Int):ObOk ⟨n,ws⟩/\∀w∈ws,w%4≠1:=by
 have e:=Zmg h f;rcases h with⟨_,_,rfl⟩|⟨_,ds,hc,rfl⟩
 .simp at h2
 .refine⟨⟨λ w b=>by have:=e w b;omega,_,_,rfl,by omega,?_⟩,λ w b=>?_⟩
  .rw[Yj,List.length_map]
   omega
  .rcases Yz.1 b with rfl|b
   .omega
   .rcases Yz.1 b with rfl|b
    .split <;> decide
    .obtain⟨d,hd,rfl⟩:=List.mem_map.1 b
     omega
section
variable {op:Int}{F:List Int}{half a:Int}(hW:au op F half a)(hh:1<=half/\half<=1000000)
include hW hh
theorem Zoy:bt op F half a 0 (a+4) ((aj (nL op F) half).goV (a+1)) (a+4) [] []:=by
 have hp:=hW.lab.a0;have hs:=hW.small;have p:=hW.mok;have k2:=hW.run;have k:=hW.mlen;have n:=hW.code;have g:=hW.rd 28;rw[if_pos rfl] at g;have i:=hW.m2;have m:=hW.m3;have q:=hW.m4;have j:=hW.m5;have f:=hW.low;have d:=hW.zero;clear hW;generalize aj (nL op F) half=M at *;have e:M.goV (a+1)={ M with place:=a+1 }:=by
  unfold Mach.goV;rw[if_neg (by rw[k2];decide)]
 rw[e];exact⟨placed (s:=M.steps) p ⟨by omega,by omega⟩,k2,k,n,rfl,g,i,m,q,j,λ c h0 h1=>(f c h0 h1).trans (by split <;> rfl),d,⟨Y5 _,by omega⟩,λ o b=>by(cases b),λ o b=>by(cases b),λ o b=>by(cases b),List.nodup_nil,by show(0:Int)<=_;omega,λ o b=>by(cases b),by show(0:Int)<=_;omega,λ o b=>by(cases b)⟩
theorem Z3p {m:Mach}{n s g:Int}{O Q:List Ob}(h:bt op F half a s g m n O Q){z:Int}{ws:List Int}(C:Wz z ws)(h2:2<=ws.length)(E:ws.length<=1002)(H:n+ws.length<=a+4+half):bt op F half a s g (putAt m n ws) (n+ws.length) (O++[⟨n,ws⟩]) (Q++[⟨n,ws⟩])/\∀c,0<=c->c<n->(putAt m n ws).mv c=m.mv c:=by
 have hp:=hW.lab.a0;have v:=h.nb;obtain⟨I,P,U,T,J,M,t⟩:=Zrt (hW.ok true) (size:=a+4+2*half) (top:=a+4) (λ c L=>(Zk3 (hW.ok true) hW.lab L).2) ws m n h.ok h.mlen h.code (Zmg C E) (by omega) (by omega) (by omega);obtain⟨i,u⟩:=Z7e C h2 E n;have d:∀c,0<=c->c<n->(putAt m n ws).mv c=m.mv c:=λ c h0 h1=>by rw[t c h0,if_neg (by omega)]
 refine⟨⟨I,T.trans h.run,P,U,J.trans h.place,(M 28).trans h.r28,(d 2 (by decide) (by omega)).trans h.m2,(d 3 (by decide) (by omega)).trans h.m3,(d 4 (by decide) (by omega)).trans h.m4,(d 5 (by decide) (by omega)).trans h.m5,λ c h0 h1=>(d c (by omega) (by omega)).trans (h.low c h0 h1),λ c h0=>by rw[t c (by omega),if_neg (by omega)];exact h.zero c (by omega),⟨by omega,H⟩,λ o b k w r=>?_,λ o b=>?_,λ o b D f p=>?_,?_,?_,λ o b=>?_,?_,λ o b=>?_⟩,d⟩
 .rcases Y4.1 b with b|b
  .have hi:=h.inb o b
   have q:=(Yg.1 r).1;rw[d _ (by omega) (by omega)];exact h.obj o b k w r
  .rw[Y2] at b
   subst b;have j:ws[k]?=some w:=r;have q:=(Yg.1 j).1
   show(putAt m n ws).mv (n+k)=w
   rw[t _ (by omega),if_pos (by omega),show(n+(k:Int)-n).toNat=k by omega,Ye,j];rfl
 .rcases Y4.1 b with b|b
  .obtain⟨i1,i2,i3⟩:=h.inb o b
   exact⟨i1,i2,by omega⟩
  .rw[Y2] at b
   subst b;exact⟨i,v.1,Y5 _⟩
 .rcases Y4.1 b with b|b <;> rcases Y4.1 f with f|f
  .exact h.dis o b D f p
  .rw[Y2] at f
   subst f;exact .inl (h.inb o b).2.2
  .rw[Y2] at b
   subst b;exact .inr (h.inb D f).2.2
  .rw[Y2] at b f
   exact absurd (b.trans f.symm) p
 .rw[List.nodup_append]
  refine⟨h.nd,by simp,λ x R y G e=>?_⟩;rw[Y2] at G;subst G e;have h1:=(h.inb _ R).2.2;have h2:=Z0g i;have h3:(0:Int)<ws.length:=by show(0:Int)<(ws.length:Int);exact Int.ofNat_lt.2 h2
  have h4:n+(ws.length:Int)<=n:=h1;omega
 .rw[Zqt]
  have K:=h.sum
  show tot O+((ws.length:Int)+0)<=_
  omega
 .rcases Y4.1 b with b|b
  .exact Ya6 _ (h.sub o b)
  .exact Ybj _ b
 .rw[Zqt]
  have K:=h.sumQ
  show tot Q+((ws.length:Int)+0)<=_
  omega
 .rcases Y4.1 b with b|b
  .exact h.plain o b
  .rw[Y2] at b
   subst b;exact u
end
def S.bl (I:Img)(m:Mach)(O:List Ob)(v z:Int)(N:Nat):Prop :=
 ∃neg ds,NumAt I m.mv v neg ds/\ac neg ds=z/\(dval ds=0->neg=0)/\ds.length<=N/\∀p,v=4*p+1->∃o∈O,o.at_=p
end
section
attribute [local irreducible] aj nL nMid
theorem Z3q {I:Img}{mem:Int->Int}{z:Int}(h0:-536870912<=z)(h1:z<536870912):NumAt I mem (u32m (4*z)) (u32m (4*z)/2147483648) [fixM (u32m (4*z))%65536,fixM (u32m (4*z))/65536]/\ac (u32m (4*z)/2147483648) [fixM (u32m (4*z))%65536,fixM (u32m (4*z))/65536]=z/\(dval [fixM (u32m (4*z))%65536,fixM (u32m (4*z))/65536]=0->u32m (4*z)/2147483648=0):=by
 obtain⟨v,f⟩:=Yx (u32m (4*z));have g:v=(4*z)%4294967296:=f;rw[<- f];have b:dval [fixM v%65536,fixM v/65536]=fixM v:=by
  show fixM v%65536+65536*(fixM v/65536+65536*0)=fixM v
  omega
 have hf:fixM v=if v<2147483648 then v/4 else(4294967296-v)/4:=rfl
 have hb:=Zwt (v:=v) ⟨by omega,by omega⟩;refine⟨⟨⟨by omega,by omega⟩,by omega,λ d b=>?_,by simp,.inl ⟨by omega,rfl,rfl⟩⟩,?_,λ e=>?_⟩
 .simp only[Yz,List.not_mem_nil,or_false] at b
  rcases b with rfl|rfl <;> omega
 .unfold ac signed
  rw[b];by_cases c:v<2147483648
  .rw[if_pos (by omega),hf,if_pos c];omega
  .rw[if_neg (by omega),hf,if_neg c];omega
 .rw[b,hf] at e
  by_cases c:v<2147483648
  .omega
  .rw[if_neg c] at e;omega
theorem Z1p {d:List Int}{n:Int}{N:Nat}(h:Cn 65536 d n)(hn:n<65536^N):d.length<=N:=by
 refine Y_c λ c=>?_
 have h1:=Z0w (by decide) h (by omega);have h2:=Za3 (b:=65536) (by decide) (show N<=d.length-1 by omega);omega
section
variable {op:Int}{F:List Int}{half a:Int}(hW:au op F half a)(hh:1<=half/\half<=1000000)
include hW hh
theorem Z3r {c:Int}(h0:a+4<=c)(h1:c<a+4+2*half):Dat (aa true op F (a+4+2*half)) c:=by
 have hp:=hW.lab.a0;refine⟨by omega,h1,λ h=>?_,λ h=>?_⟩
 .have h2:c<1312:=h.2
  omega
 .have:=(Zk3 (hW.ok true) hW.lab h).2
  omega
theorem Zmt {m k:Mach}{n n' v z s g:Int}{O Q:List Ob}{N:Nat}(h:bt op F half a s g m n O Q)(hg:az z m n v k n')(H:(if z<0 then -z else z)<65536^N)(x:2<=N)(R:N<=1000)(hn:n+N+2<=a+4+half) :
 ∃J Q',bt op F half a s g k n' J Q'/\(∀o∈Q,o∈Q')/\bl (aa true op F (a+4+2*half)) k Q' v z N/\(n'<=n+N+2/\n<=n')/\∀c,0<=c->c<n->k.mv c=m.mv c:=by
 obtain⟨ws,y,T,C⟩:=hg;have hp:=hW.lab.a0;have P:=hW.small;have G:=h.nb;rcases C with⟨l1,rfl,rfl,rfl⟩|⟨l1,rfl,rfl,rfl⟩
 .refine⟨O,Q,h,λ o D=>D,?_,⟨by omega,Y5 _⟩,λ c _ _=>rfl⟩
  rcases y with⟨E,z1,rfl⟩|⟨_,b,_,rfl⟩
  .obtain⟨k1,k2,k3⟩:=Z3q (I:=aa true op F (a+4+2*half)) (mem:=k.mv) E z1
   refine⟨_,_,k1,k2,k3,x,λ p e=>?_⟩;have K:u32m (4*z)=4*p+1:=e;unfold u32m at K;omega
  .simp at l1
 .obtain⟨E,b,hcn,hws⟩:(z < -536870912\/536870912<=z)/\∃b,Cn 65536 b (if z<0 then -z else z)/\ws=(32*((b.length:Int)+1)+31)::(if z<0 then 4 else 0)::b.map λ d=>4*d:=by
   rcases y with⟨_,_,e⟩|q
   .rw[e] at l1;simp at l1
   .exact q
  have t:=Z1p hcn H;have L:ws.length=b.length+2:=by rw[hws];simp
  obtain⟨h',r⟩:=Z3p hW hh h y l1 T (by omega);have f:=h'.obj ⟨n,ws⟩ (Ybj _ Yv);have M:=h.nb;have u:dval b=if z<0 then -z else z:=by rw[Zsa];exact hcn.2.2
  refine⟨_,_,h',λ o D=>Ya6 _ D,⟨if z<0 then 1 else 0,b,⟨⟨by omega,by omega⟩,by split <;> simp,hcn.1,by omega,.inr ⟨n,rfl,λ j hj=>Z3r hW hh (by omega) (by omega),?_,?_,λ i hi=>?_⟩⟩,?_,λ e=>?_,t,λ p e=>⟨⟨n,ws⟩,Ybj _ Yv,by show n=p;omega⟩⟩,⟨by omega,by omega⟩,r⟩
  .have:=f 0 (32*((b.length:Int)+1)+31) (by show ws[0]?=_;rw[hws];rfl)
   rw[show n+((0:Nat):Int)=n by omega] at this;exact this
  .have:=f 1 (if z<0 then 4 else 0) (by show ws[1]?=_;rw[hws];rfl)
   rw[show n+((1:Nat):Int)=n+1 by omega] at this;rw[this]
   split <;> rfl
  .have:=f (i+2) (4*b.getD i 0) (by
    show ws[i+2]?=_
    rw[hws,Ycn,Ycn,List.getElem?_map,Ye,List.getElem?_eq_getElem hi];rfl)
   rw[show n+((i+2:Nat):Int)=n+2+i by omega] at this;exact this
  .unfold ac signed
   rw[u];by_cases c:z<0
   .rw[if_pos c,if_neg (by decide),if_pos c];omega
   .rw[if_neg c,if_pos rfl,if_neg c]
  .rw[u] at e
   by_cases c:z<0
   .rw[if_pos c] at e;omega
   .rw[if_neg c]
omit hW hh in
theorem Zoz {m i:Mach}{n v z s g:Int}{O Q f:List Ob}{N:Nat}(h:bt op F half a s g m n O Q)(hi:bl (aa true op F (a+4+2*half)) m Q v z N)(x:∀o∈Q,o∈f)(hm:∀c,0<=c->c<n->i.mv c=m.mv c)(ha:0<=a):bl (aa true op F (a+4+2*half)) i f v z N:=by
 obtain⟨neg,E,t,k2,y,H,q⟩:=hi;refine⟨neg,E,t.same λ p e j hj=>?_,k2,y,H,λ p e=>?_⟩
 .obtain⟨o,ho,rfl⟩:=q p e
  obtain⟨⟨_,D,r,u,_,C⟩,f0,f1⟩:=h.inb o (h.sub o ho);have b:=h.obj o (h.sub o ho) 0 D (by rw[u];rfl);rw[show o.at_+((0:Nat):Int)=o.at_ by omega] at b;have k:o.ws.length=r.length+1:=by rw[u,Yj]
  rcases t.cases with⟨q1,_⟩|⟨p,d,_,G,_⟩
  .omega
  .have ep:p=o.at_:=by omega
   subst ep;rw[G] at b;exact hm _ (by omega) (by omega)
 .obtain⟨o,ho,d⟩:=q p e
  exact⟨o,x o ho,d⟩
structure S.bm (op:Int)(F:List Int)(half a s:Int)(M:Mach)(O Q:List Ob)(n v1 v2:Int):Prop where
 st:dn op F (a+4+2*half) M
 ok:Cf.Ok (aa true op F (a+4+2*half)) ⟨O,a+4,a+4+half,half⟩
 rdy:Rdy (aa true op F (a+4+2*half)) ⟨O,a+4,a+4+half,half⟩ (λ o=>o∈Q) n s (a+2) (viewOf M)
 r4:(viewOf M).reg 4=v1
 r5:(viewOf M).reg 5=v2
theorem Zmu {m:Mach}{n q f s g:Int}{O Q:List Ob}(h:bt op F half a s g m n O Q)(E:0<=s/\s<1000000)(t:0<=q/\q<=4294967295)(y:0<=f/\f<=4294967295):bm op F half a s (am m n (a+4+half) q f) O Q n q f/\∀c,(am m n (a+4+half) q f).mv c=m.mv c:=by
 have hp:=hW.lab.a0;have a1:=hW.small;have x:=h.nb;have d:∀(m:Mach)(i v:Int),(m.Ok/\(m.mem.length:Int)=a+4+2*half/\(aa true op F (a+4+2*half)).In m.mem/\m.state=0/\m.place=a+1)->0<i->i<32->0<=v->v<=4294967295 ->
  ((m.setV i v).Ok/\((m.setV i v).mem.length:Int)=a+4+2*half/\(aa true op F (a+4+2*half)).In (m.setV i v).mem/\(m.setV i v).state=0/\(m.setV i v).place=a+1)/\(∀c,(m.setV i v).mv c=m.mv c)/\∀j,(m.setV i v).rd j=if j=i then v else m.rd j:=by
  rintro m i v ⟨I,k2,L,Z,X⟩ h0 h1 h2 h3;have C:(m.setV i v).Ok:=by
   unfold Mach.setV;rw[if_pos ⟨by omega,h1⟩];exact Zka I (by omega) ⟨h2,h3⟩
  refine⟨⟨C,?_,?_,?_,?_⟩,λ c=>Zvf h0 h1,λ j=>Zve I h0 h1⟩
  all_goals rw[Zi7 h0 h1]
  .exact k2
  .exact L
  .exact Z
  .exact X
 obtain⟨s1,w1,r1⟩:=d m 26 n ⟨h.ok,h.mlen,h.code,h.run,h.place⟩ (by decide) (by decide) (by omega) (by omega);obtain⟨P,U,r2⟩:=d _ 27 (a+4+half) s1 (by decide) (by decide) (by omega) (by omega);obtain⟨T,K,W⟩:=d _ 4 q P (by decide) (by decide) t.1 t.2;obtain⟨G,H,r4⟩:=d _ 5 f T (by decide) (by decide) y.1 y.2;have e:am m n (a+4+half) q f=(((m.setV 26 n).setV 27 (a+4+half)).setV 4 q).setV 5 f:=rfl;rw[<- e] at G H r4;generalize am m n (a+4+half) q f=M at *;have b:∀c,M.mv c=m.mv c:=λ c=>by rw[H,K,U,w1]
 have p:∀j,M.rd j=if j=5 then f else if j=4 then q else if j=27 then a+4+half else if j=26 then n else m.rd j:=λ j=>by rw[r4,W,r2,r1]
 obtain⟨R,q2,J,q4,V⟩:=G;have hl:∀c:Int,¬(1312:Int)<=c->¬(aa true op F (a+4+2*half)).code c:=λ c Y u=>Y (Zk3 (hW.ok true) hW.lab u).1
 refine⟨⟨⟨R,q4,q2,J,V.trans hW.lab.call.symm,by rw[p];exact h.r28⟩,⟨λ c h0 h1=>Z3r hW hh h0 (by have:c<a+4+half:=h1;omega),λ c h0 h1=>Z3r hW hh (by have:a+4+half<=c:=h0;omega) (by have:c<a+4+half+half:=h1;omega),.inl (Y5 _),by show 1312<=a+4;omega,by show 1312<=a+4+half;omega,by show 0<=half;omega,by show a+4+half<=335544320;omega,by show a+4+half+half<=335544320;omega,λ c h0 h1=>⟨h0,by show c<a+4+2*half;omega,λ D=>by have:(1056:Int)<=c:=D.1;omega,hl c (by omega)⟩,λ o r=>?_,h.dis,h.nd,by have:=h.sum;show tot O<=half;omega⟩,⟨by show M.rd 26=n;rw[p];rfl,by show M.rd 27=a+4+half;rw[p];rfl,x.1,x.2,by show M.mv 2=a+4;rw[b];exact h.m2,by show M.mv 3=a+4+half;rw[b];exact h.m3,by show M.mv 4=half;rw[b];exact h.m4,by show M.mv 5%4≠1/\0<=M.mv 5/\M.mv 5<4294967296;rw[b,h.m5];decide,by show M.mv 7=s;rw[b,h.low 7 (by decide) (by decide),if_pos rfl],E,λ o r k w C=>by show M.mv _=w;rw[b];exact h.obj o r k w C,λ o r=>(h.inb o r).2.2,λ o _ r=>h.plain o r,hW.lab.code,?_,⟨by omega,by show a+2<a+4+2*half;omega,λ D=>by have:a+2<(1312:Int):=D.2;omega,λ u=>by have:a+4<=a+2:=u.1;omega,λ u=>by have:a+4+half<=a+2:=u.1;omega⟩⟩,by show M.rd 4=q;rw[p];rfl,by show M.rd 5=f;rw[p];rfl⟩,b⟩
 .obtain⟨i1,i2,i3⟩:=h.inb o r
  exact⟨i1,i2,by show o.at_+o.ws.length<=a+4+half;omega⟩
 .exact Z1f (hW.ok true) hW.lab J (by omega)
end
end
