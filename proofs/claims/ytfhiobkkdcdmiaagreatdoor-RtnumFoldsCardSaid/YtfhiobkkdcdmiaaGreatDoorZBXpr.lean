/- Parts. -/
import Derived.Test.YtfhiobkkdcdmiaaGreatDoorZBSts
import Derived.Deep.RegionWith
import Derived.BigRegion
set_option linter.all false
set_option maxHeartbeats 4000000
open Go.Lib renaming hid->Ya,cell_of_heap->Yc,frozen_of_heap->Yan
open Nat renaming le_refl->Yb,le_trans->Y8,lt_or_ge->Ycf
open List renaming length_append->Yd,length_cons->Yi,append_assoc->Yn,cons_append->Yaa,length_nil->Yad
open Go.RowKit.Below renaming refl->Yh,heap_setCell->Ybk
open Go.AllReady renaming cons->Yj,nil->Yp
open Bool renaming and_eq_true->Yt
open Go.Value renaming oneCell'->Y6,ownBlock->Yao
open Go.Region renaming wanted->Yal
open Array renaming getElem?_eq_none->Ybq
namespace Go.Proofs.YtfhiobkkdcdmiaaGreatDoor
open Go.RowKit
set_option maxRecDepth 100000
section
structure CH where
 r:S.BR
 A:Option Addr
 c:Nat
 fr:Int
def Zg9 (h:CH)(v:Value)(lab:Int):Array Value:=#[.string h.r.name,.int .i64 h.r.params,.int .i64 h.r.locals,.bool h.r.behind,.slice h.A h.r.body.length h.c,.int .i64 h.fr,v,.int .i64 lab]
structure CAt (base p:Nat)(h:CH)(xs:List S.Item)(lab:Int)(w:World):Prop where
 low:base<=p
 at_:∃v,w.heap[p]?=some (.cells (Zg9 h v lab) 211)/\w.ownsRow base 74 8 v xs.length (xs.flatMap Zc)
theorem CAt.lt {base p:Nat}{h:CH}{xs:List S.Item}{lab:Int}{w:World}(H:CAt base p h xs lab w):p<w.heap.size:=by
 obtain⟨_,v,hb,_⟩:=H;rcases Ycf p w.heap.size with h'|h'
 .exact h'
 .simp[Ybq h'] at hb
theorem CAt.keep {base p:Nat}{h:CH}{xs:List S.Item}{lab:Int}{w w':World}(H:CAt base p h xs lab w)(hb:Below w.heap.size w w'):CAt base p h xs lab w':=by
 have hlt:=H.lt;obtain⟨h1,v,h2,h3⟩:=H;exact⟨h1,v,(hb.block p hlt).trans h2,Zd h3 hb⟩
theorem Zbi {w:World}{B:Nat}{e T:TypeId}{size:Nat}{v:Value}{n:Nat}{xs:List Value}{b:Nat}{cs:Array Value}{fr:Nat×Nat}(hown:w.ownsRow B e size v n xs)(hb:w.heap[b]?=some (.cells cs T fr))(hTe:T≠e):v.ownBlock≠some b:=by
 rcases hown.2 with⟨rfl,_⟩|⟨g,cap,cur,rfl,_,hg,_⟩
 .simp[Yao]
 .intro h
  simp only[Yao,Option.some.injEq] at h;subst h;rw[hg] at hb;simp only[Option.some.injEq,Obj.cells.injEq] at hb;exact hTe hb.2.1.symm
def Z5u (w w':World):Prop:=∀(k:Nat)(r:Array Value)(T:TypeId)(o:Nat×Nat),w.heap[k]?=some (.cells r T o)->T≠74->T≠211->w'.heap[k]?=some (.cells r T o)
structure CK (base:Nat)(w w':World):Prop where
 below:Below base w w'
 keep:Z5u w w'
theorem CK.size {base:Nat}{w w':World}(h:CK base w w'):w.heap.size<=w'.heap.size:=h.below.size
theorem CK.trans {base:Nat}{w w' w2:World}(h:CK base w w')(h2:CK base w' w2):CK base w w2:=⟨h.below.trans h2.below,λ k r T o hk h3 h4=>h2.keep k r T o (h.keep k r T o hk h3 h4) h3 h4⟩
theorem CK.refl (base:Nat)(w:World):CK base w w:=⟨Yh _ _,λ _ _ _ _ hk _ _=>hk⟩
theorem CK.of {base:Nat}{w w':World}(h:Below w.heap.size w w')(hb:base<=w.heap.size):CK base w w':=⟨h.mono hb,λ k r T o hk _ _=>by
 rcases Ycf k w.heap.size with h'|h'
 .exact(h.block k h').trans hk
 .simp[Ybq h'] at hk⟩
def Zhn (base p:Nat)(h:CH)(xs ys:List S.Item)(lab:Int)(w:World)(e:Ending)(w':World):Prop:=e=.returned (.tuple #[])/\CAt base p h (xs++ys) lab w'/\CK base w w'
theorem Zbc {base p:Nat}{h:CH}{xs:List S.Item}{x:S.Item}{lab:Int}{w w2:World}{v v':Value}(hlow:base<=p)(hbw:base<=w.heap.size)(hk:w.heap[p]?=some (.cells (Zg9 h v lab) 211))(ho:w.ownsRow base 74 8 v xs.length (xs.flatMap Zc))
 (ho2:w2.ownsRow base 74 8 v' (xs.length+1) (xs.flatMap Zc++Zc x)) (hg:w.grownBy w2 v.ownBlock) (hb:Below base w w2):CAt base p h (xs++[x]) lab (w2.setCell ⟨p,6,none⟩ v')/\CK base w (w2.setCell ⟨p,6,none⟩ v'):=by
 have hne:=Zbi ho hk (by decide);have hlt:p<w.heap.size:=by
  rcases Ycf p w.heap.size with h'|h'
  .exact h'
  .simp[Ybq h'] at hk
 have hk2:w2.heap[p]?=some (.cells (Zg9 h v lab) 211):=(hg.block p hlt (λ e=>hne e.symm)).trans hk;have hk3:(w2.setCell ⟨p,6,none⟩ v').heap[p]?=some (.cells (Zg9 h v' lab) 211):=by
  rw[setCell_eq_setRow _ _ _ _ _ _ _ hk2];exact setRow_heap _ _ _ _ _ _ hk2
 have hn2:=Zbi ho2 hk2 (by decide);refine⟨⟨hlow,v',hk3,?_⟩,hb.setCell (p:=⟨p,6,none⟩) hlow _,λ k r T o hr h1 h2=>?_⟩
 .rw[Yd,List.flatMap_append,List.flatMap_singleton]
  exact ho2.kept (row:=some p) ⟨rfl,rfl,rfl,by simp[World.setCell],λ k _ hk=>Ybk _ _ _ _ (λ e=>hk (by simp[e]))⟩ (Or.inr hn2)
 .have hkp:k≠p:=by
   rintro rfl;rw[hk] at hr;simp only[Option.some.injEq,Obj.cells.injEq] at hr;exact h2 hr.2.1.symm
  have hkl:k<w.heap.size:=by
   rcases Ycf k w.heap.size with h'|h'
   .exact h'
   .simp[Ybq h'] at hr
  have hkv:=Zbi ho hr h1;rw[Ybk _ _ _ _ hkp];exact(hg.block k hkl (λ e=>hkv e.symm)).trans hr
section
variable {base p:Nat}{h:CH}{xs:List S.Item}{lab:Int}{w:World}(H:CAt base p h xs lab w)(hbw:base<=w.heap.size)(hl:xs.length<=100000000)
include H hbw hl
theorem Zil (s:ByteArray):Calls Tryz.prog 186 #[.pointer (some ⟨p,0,none⟩),.string s] w (Zhn base p h xs [S.bL s] lab w):=by
 have hlt:=H.lt;obtain⟨hlow,v,hk,ho⟩:=H;have c6:w.cell? ⟨p,6,none⟩=some v:=by rw[Yc hk];rfl
 have Hk:=Ya hk;have Ho:=Ya ho;obtain⟨A',c',rfl⟩:=Zb ho;clear hk ho;go_enter Tryz.func186,Tryz.ntmps186
 go_wp2_with (at_builtin;refine Zt rfl (.tmp 8) (.tmp 11) _ rfl base 74 Za1 Tryz.underlying68 rfl (by decide) #[.int .i64 2,.int .i64 0,.int .i64 0,.int .i64 0,.int .i64 0,.int .i64 0,.string s,.int .u32 0] _ _ _ rfl Ho.out rfl rfl rfl (by simp[Y6]) (by simp only[maxLen];omega) (by omega) hbw ?_;intro v' w7 ho7 hg7 hb7 _;obtain⟨A8,c8,rfl⟩:=Zb ho7;have hk7:=(hg7.block p hlt (λ e=>Zbi Ho.out Hk.out (by decide) e.symm)).trans Hk.out;have f6:w7.frozen? ⟨p,6,none⟩=false:=Yan hk7 6;have d6:∃u,w7.cell? ⟨p,6,none⟩=some u:=⟨_,by rw[Yc hk7];rfl⟩;obtain⟨u6,d6⟩:=d6)
 go_end0
 obtain⟨q1,q2⟩:=Zbc (x:=S.bL s) hlow hbw Hk.out Ho.out ho7 hg7 hb7;exact⟨rfl,q1,q2⟩
theorem Zqv (d:Int)(s:ByteArray):Calls Tryz.prog 217 #[.pointer (some ⟨p,0,none⟩),.int .i64 d,.string s] w (Zhn base p h xs [S.bJ d s] lab w):=by
 have hlt:=H.lt;obtain⟨hlow,v,hk,ho⟩:=H;have c6:w.cell? ⟨p,6,none⟩=some v:=by rw[Yc hk];rfl
 have Hk:=Ya hk;have Ho:=Ya ho;obtain⟨A',c',rfl⟩:=Zb ho;clear hk ho;go_enter Tryz.func217,Tryz.ntmps217
 go_wp2_with (at_builtin;refine Zt rfl (.tmp 10) (.tmp 15) _ rfl base 74 Za1 Tryz.underlying68 rfl (by decide) (Zc (S.bJ d s)).toArray _ _ _ rfl Ho.out rfl rfl rfl (by simp[Y6,Zc]) (by simp only[maxLen];omega) (by omega) hbw ?_;intro v' w7 ho7 hg7 hb7 _;obtain⟨A8,c8,rfl⟩:=Zb ho7;have hk7:=(hg7.block p hlt (λ e=>Zbi Ho.out Hk.out (by decide) e.symm)).trans Hk.out;have f6:w7.frozen? ⟨p,6,none⟩=false:=Yan hk7 6;have d6:∃u,w7.cell? ⟨p,6,none⟩=some u:=⟨_,by rw[Yc hk7];rfl⟩;obtain⟨u6,d6⟩:=d6)
 go_end0
 obtain⟨q1,q2⟩:=Zbc (x:=S.bJ d s) hlow hbw Hk.out Ho.out ho7 hg7 hb7;exact⟨rfl,q1,q2⟩
theorem Zqw (a:Int)(s:ByteArray):Calls Tryz.prog 231 #[.pointer (some ⟨p,0,none⟩),.int .i64 a,.string s] w (Zhn base p h xs [S.bU a s] lab w):=by
 have hlt:=H.lt;obtain⟨hlow,v,hk,ho⟩:=H;have c6:w.cell? ⟨p,6,none⟩=some v:=by rw[Yc hk];rfl
 have Hk:=Ya hk;have Ho:=Ya ho;obtain⟨A',c',rfl⟩:=Zb ho;clear hk ho;go_enter Tryz.func231,Tryz.ntmps231
 go_wp2_with (at_builtin;refine Zt rfl (.tmp 10) (.tmp 15) _ rfl base 74 Za1 Tryz.underlying68 rfl (by decide) (Zc (S.bU a s)).toArray _ _ _ rfl Ho.out rfl rfl rfl (by simp[Y6,Zc]) (by simp only[maxLen];omega) (by omega) hbw ?_;intro v' w7 ho7 hg7 hb7 _;obtain⟨A8,c8,rfl⟩:=Zb ho7;have hk7:=(hg7.block p hlt (λ e=>Zbi Ho.out Hk.out (by decide) e.symm)).trans Hk.out;have f6:w7.frozen? ⟨p,6,none⟩=false:=Yan hk7 6;have d6:∃u,w7.cell? ⟨p,6,none⟩=some u:=⟨_,by rw[Yc hk7];rfl⟩;obtain⟨u6,d6⟩:=d6)
 go_end0
 obtain⟨q1,q2⟩:=Zbc (x:=S.bU a s) hlow hbw Hk.out Ho.out ho7 hg7 hb7;exact⟨rfl,q1,q2⟩
theorem Zbx (op d a b imm:Int):Calls Tryz.prog 187 #[.pointer (some ⟨p,0,none⟩),.agg #[.int .i64 op,.int .i64 d,.int .i64 a,.int .i64 b,.int .i64 imm]] w (Zhn base p h xs [S.bI op d a b imm] lab w):=by
 have hbX:Below w.heap.size w (w.alloc (.cells #[.int .i64 op,.int .i64 d,.int .i64 a,.int .i64 b,.int .i64 imm] 72)):=(Yh _ _).alloc (Yb _) _;have hrX:=heap_alloc_new w (.cells #[.int .i64 op,.int .i64 d,.int .i64 a,.int .i64 b,.int .i64 imm] 72);have hzX:w.heap.size<(w.alloc (.cells #[.int .i64 op,.int .i64 d,.int .i64 a,.int .i64 b,.int .i64 imm] 72)).heap.size:=by simp
 have HbX:=Ya (CK.of hbX hbw);have H2:=H.keep hbX;clear H;go_enter Tryz.func187,Tryz.ntmps187
 go_upto_region 1 with fail
 refine wp_region_any (by kernel_rfl) ?_;generalize w.alloc (.cells #[.int .i64 op,.int .i64 d,.int .i64 a,.int .i64 b,.int .i64 imm] 72)=w2 at *;change wpAny _ _ _ _ _ _ _ (World.drew w2);have hdb:Below w2.heap.size w2 w2.drew:=⟨rfl,rfl,rfl,Yb _,λ _ _=>rfl⟩
 have H3:=H2.keep hdb;have hr3:=(hdb.block _ hzX).trans hrX;have hz3:w.heap.size<w2.drew.heap.size:=Nat.lt_of_lt_of_le hzX hdb.size;have Hb3:=Ya (HbX.out.trans (CK.of hdb (by have:=HbX.out.size;omega)));clear H2 hdb hrX hzX hbX HbX;generalize w2.drew=w3 at *;have e0:w3.cell? ⟨w.heap.size,0,none⟩=some (.int .i64 op):=by rw[Yc hr3];rfl
 have e1:w3.cell? ⟨w.heap.size,1,none⟩=some (.int .i64 d):=by rw[Yc hr3];rfl
 have e2:w3.cell? ⟨w.heap.size,2,none⟩=some (.int .i64 a):=by rw[Yc hr3];rfl
 have e3:w3.cell? ⟨w.heap.size,3,none⟩=some (.int .i64 b):=by rw[Yc hr3];rfl
 have e4:w3.cell? ⟨w.heap.size,4,none⟩=some (.int .i64 imm):=by rw[Yc hr3];rfl
 have hbw2:base<=w3.heap.size:=by have:=Hb3.out.size;omega
 have hlt:=H3.lt;obtain⟨hlow,v,hk,ho⟩:=H3;have c6:w3.cell? ⟨p,6,none⟩=some v:=by rw[Yc hk];rfl
 have Hk:=Ya hk;have Ho:=Ya ho;obtain⟨A',c',rfl⟩:=Zb ho;clear hk ho hr3
 (refine wpAny_take (i:=0) (v:=?vv1) rfl (by kernel_rfl) (by kernel_rfl) (by kernel_rfl) (λ _ _ _ h=>h) (Or.inl ⟨by rfl,?yy1⟩) ?zz1;(case yy1=>intro w;go_simp;try with_reducible rfl);go_simp)
 (refine wpAny_take (i:=1) (v:=?vv2) rfl (by kernel_rfl) (by kernel_rfl) (by kernel_rfl) (λ _ _ _ h=>h) (Or.inl ⟨by rfl,?yy2⟩) ?zz2;(case yy2=>intro w;go_simp;try with_reducible rfl);go_simp)
 (refine wpAny_take (i:=2) (v:=?vv3) rfl (by kernel_rfl) (by kernel_rfl) (by kernel_rfl) (λ _ _ _ h=>h) (Or.inl ⟨by rfl,?yy3⟩) ?zz3;(case yy3=>intro w;go_simp;try with_reducible rfl);go_simp)
 (refine wpAny_take (i:=3) (v:=?vv4) rfl (by kernel_rfl) (by kernel_rfl) (by kernel_rfl) (λ _ _ _ h=>h) (Or.inl ⟨by rfl,?yy4⟩) ?zz4;(case yy4=>intro w;go_simp;try with_reducible rfl);go_simp)
 refine wpAny_ready (rs:=[4,5]) (by kernel_rfl) (by simp) ?_;refine Yj rfl (λ K hK=>?_) (Yj rfl (λ K hK=>?_) Yp)
 .go_simp
  refine hK _ _ ?_;clear hK K
  (refine wpAny_ready (rs:=[5]) (by kernel_rfl) (by simp) ?_;refine Yj rfl (λ K hK=>?_) Yp;go_simp;refine hK _ _ ?_;clear hK K)
  (refine wpAny_ready (rs:=[6]) (by kernel_rfl) (by simp) ?_;refine Yj rfl (λ K hK=>?_) Yp;go_simp;refine hK _ _ ?_;clear hK K)
  (refine wpAny_ready (rs:=[7]) (by kernel_rfl) (by simp) ?_;refine Yj rfl (λ K hK=>?_) Yp;go_simp;refine hK _ _ ?_;clear hK K)
  refine wpAny_ready (rs:=[8]) (by kernel_rfl) (by simp) ?_;refine Yj rfl (λ K hK=>?_) Yp;rw[if_pos (by simp[Yal])];refine Zd2 (.tmp 8) (.tmp 11) _ rfl base 74 Za1 Tryz.underlying68 rfl (by decide) (Zc (S.bI op d a b imm)).toArray _ _ _ rfl Ho.out rfl rfl rfl (by simp[Y6,Zc]) (by simp only[maxLen];omega) (by omega) hbw2 ?_;intro v' w7 ho7 hg7 hb7 _;obtain⟨A8,c8,rfl⟩:=Zb ho7;have hk7:=(hg7.block p hlt (λ e=>Zbi Ho.out Hk.out (by decide) e.symm)).trans Hk.out;have f6:w7.frozen? ⟨p,6,none⟩=false:=Yan hk7 6;have d6:∃u,w7.cell? ⟨p,6,none⟩=some u:=⟨_,by rw[Yc hk7];rfl⟩
  obtain⟨u6,d6⟩:=d6;refine hK _ _ ?_;clear hK K;go_simp
  (refine wpAny_take (i:=9) (v:=?vv5) rfl (by kernel_rfl) (by kernel_rfl) (by kernel_rfl) (λ _ _ _ h=>h) (Or.inl ⟨by rfl,?yy5⟩) ?zz5;(case yy5=>intro w;go_simp;try with_reducible rfl);go_simp)
  (refine wpAny_take (i:=10) (v:=?vv6) rfl (by kernel_rfl) (by kernel_rfl) (by kernel_rfl) (λ _ _ _ h=>h) (Or.inl ⟨by rfl,?yy6⟩) ?zz6;(case yy6=>intro w;go_simp;try with_reducible rfl);go_simp)
  (refine wpAny_ready (rs:=[11]) (by kernel_rfl) (by simp) ?_;refine Yj rfl (λ K hK=>?_) Yp;go_simp;refine hK _ _ ?_;clear hK K)
  refine wpAny_done (by kernel_rfl) ?_ _
  go_end0
  obtain⟨q1,q2⟩:=Zbc (x:=S.bI op d a b imm) hlow hbw2 Hk.out Ho.out ho7 hg7 hb7;exact⟨rfl,q1,Hb3.out.trans q2⟩
 .go_simp
  refine hK _ _ ?_;clear hK K;refine wpAny_ready (rs:=[4,6]) (by kernel_rfl) (by simp) ?_;refine Yj rfl (λ K hK=>?_) (Yj rfl (λ K hK=>?_) Yp)
  .go_simp
   refine hK _ _ ?_;clear hK K
   (refine wpAny_ready (rs:=[6]) (by kernel_rfl) (by simp) ?_;refine Yj rfl (λ K hK=>?_) Yp;go_simp;refine hK _ _ ?_;clear hK K)
   (refine wpAny_ready (rs:=[7]) (by kernel_rfl) (by simp) ?_;refine Yj rfl (λ K hK=>?_) Yp;go_simp;refine hK _ _ ?_;clear hK K)
   refine wpAny_ready (rs:=[8]) (by kernel_rfl) (by simp) ?_;refine Yj rfl (λ K hK=>?_) Yp;rw[if_pos (by simp[Yal])];refine Zd2 (.tmp 8) (.tmp 11) _ rfl base 74 Za1 Tryz.underlying68 rfl (by decide) (Zc (S.bI op d a b imm)).toArray _ _ _ rfl Ho.out rfl rfl rfl (by simp[Y6,Zc]) (by simp only[maxLen];omega) (by omega) hbw2 ?_;intro v' w7 ho7 hg7 hb7 _;obtain⟨A8,c8,rfl⟩:=Zb ho7;have hk7:=(hg7.block p hlt (λ e=>Zbi Ho.out Hk.out (by decide) e.symm)).trans Hk.out;have f6:w7.frozen? ⟨p,6,none⟩=false:=Yan hk7 6;have d6:∃u,w7.cell? ⟨p,6,none⟩=some u:=⟨_,by rw[Yc hk7];rfl⟩
   obtain⟨u6,d6⟩:=d6;refine hK _ _ ?_;clear hK K;go_simp
   (refine wpAny_take (i:=9) (v:=?vv7) rfl (by kernel_rfl) (by kernel_rfl) (by kernel_rfl) (λ _ _ _ h=>h) (Or.inl ⟨by rfl,?yy7⟩) ?zz7;(case yy7=>intro w;go_simp;try with_reducible rfl);go_simp)
   (refine wpAny_take (i:=10) (v:=?vv8) rfl (by kernel_rfl) (by kernel_rfl) (by kernel_rfl) (λ _ _ _ h=>h) (Or.inl ⟨by rfl,?yy8⟩) ?zz8;(case yy8=>intro w;go_simp;try with_reducible rfl);go_simp)
   (refine wpAny_ready (rs:=[11]) (by kernel_rfl) (by simp) ?_;refine Yj rfl (λ K hK=>?_) Yp;go_simp;refine hK _ _ ?_;clear hK K)
   refine wpAny_done (by kernel_rfl) ?_ _
   go_end0
   obtain⟨q1,q2⟩:=Zbc (x:=S.bI op d a b imm) hlow hbw2 Hk.out Ho.out ho7 hg7 hb7;exact⟨rfl,q1,Hb3.out.trans q2⟩
  .go_simp
   refine hK _ _ ?_;clear hK K;refine wpAny_ready (rs:=[4,7]) (by kernel_rfl) (by simp) ?_;refine Yj rfl (λ K hK=>?_) (Yj rfl (λ K hK=>?_) Yp)
   .go_simp
    refine hK _ _ ?_;clear hK K
    (refine wpAny_ready (rs:=[7]) (by kernel_rfl) (by simp) ?_;refine Yj rfl (λ K hK=>?_) Yp;go_simp;refine hK _ _ ?_;clear hK K)
    refine wpAny_ready (rs:=[8]) (by kernel_rfl) (by simp) ?_;refine Yj rfl (λ K hK=>?_) Yp;rw[if_pos (by simp[Yal])];refine Zd2 (.tmp 8) (.tmp 11) _ rfl base 74 Za1 Tryz.underlying68 rfl (by decide) (Zc (S.bI op d a b imm)).toArray _ _ _ rfl Ho.out rfl rfl rfl (by simp[Y6,Zc]) (by simp only[maxLen];omega) (by omega) hbw2 ?_;intro v' w7 ho7 hg7 hb7 _;obtain⟨A8,c8,rfl⟩:=Zb ho7;have hk7:=(hg7.block p hlt (λ e=>Zbi Ho.out Hk.out (by decide) e.symm)).trans Hk.out;have f6:w7.frozen? ⟨p,6,none⟩=false:=Yan hk7 6;have d6:∃u,w7.cell? ⟨p,6,none⟩=some u:=⟨_,by rw[Yc hk7];rfl⟩
    obtain⟨u6,d6⟩:=d6;refine hK _ _ ?_;clear hK K;go_simp
    (refine wpAny_take (i:=9) (v:=?vv9) rfl (by kernel_rfl) (by kernel_rfl) (by kernel_rfl) (λ _ _ _ h=>h) (Or.inl ⟨by rfl,?yy9⟩) ?zz9;(case yy9=>intro w;go_simp;try with_reducible rfl);go_simp)
    (refine wpAny_take (i:=10) (v:=?vv10) rfl (by kernel_rfl) (by kernel_rfl) (by kernel_rfl) (λ _ _ _ h=>h) (Or.inl ⟨by rfl,?yy10⟩) ?zz10;(case yy10=>intro w;go_simp;try with_reducible rfl);go_simp)
    (refine wpAny_ready (rs:=[11]) (by kernel_rfl) (by simp) ?_;refine Yj rfl (λ K hK=>?_) Yp;go_simp;refine hK _ _ ?_;clear hK K)
    refine wpAny_done (by kernel_rfl) ?_ _
    go_end0
    obtain⟨q1,q2⟩:=Zbc (x:=S.bI op d a b imm) hlow hbw2 Hk.out Ho.out ho7 hg7 hb7;exact⟨rfl,q1,Hb3.out.trans q2⟩
   .go_simp
    refine hK _ _ ?_;clear hK K;have c6:(w3.alloc (Obj.cells (Zc (S.bI op d a b imm)).toArray 74)).cell? ⟨p,6,none⟩=some (.slice A' xs.length c'):=by rw[Yc ((heap_alloc_old _ _ hlt).trans Hk.out)];rfl
    simp only[Zc,S.bI] at c6
    (refine wpAny_ready (rs:=[4]) (by kernel_rfl) (by simp) ?_;refine Yj rfl (λ K hK=>?_) Yp;go_simp;refine hK _ _ ?_;clear hK K)
    refine wpAny_ready (rs:=[8]) (by kernel_rfl) (by simp) ?_;refine Yj rfl (λ K hK=>?_) Yp;rw[if_pos (by simp[Yal])];refine Zd2 (.tmp 8) (.tmp 11) _ rfl base 74 Za1 Tryz.underlying68 rfl (by decide) (Zc (S.bI op d a b imm)).toArray _ _ _ rfl Ho.out rfl rfl rfl (by simp[Y6,Zc]) (by simp only[maxLen];omega) (by omega) hbw2 ?_;intro v' w7 ho7 hg7 hb7 _;obtain⟨A8,c8,rfl⟩:=Zb ho7;have hk7:=(hg7.block p hlt (λ e=>Zbi Ho.out Hk.out (by decide) e.symm)).trans Hk.out;have f6:w7.frozen? ⟨p,6,none⟩=false:=Yan hk7 6;have d6:∃u,w7.cell? ⟨p,6,none⟩=some u:=⟨_,by rw[Yc hk7];rfl⟩
    obtain⟨u6,d6⟩:=d6;refine hK _ _ ?_;clear hK K;go_simp
    (refine wpAny_take (i:=9) (v:=?vv11) rfl (by kernel_rfl) (by kernel_rfl) (by kernel_rfl) (λ _ _ _ h=>h) (Or.inl ⟨by rfl,?yy11⟩) ?zz11;(case yy11=>intro w;go_simp;try with_reducible rfl);go_simp)
    (refine wpAny_take (i:=10) (v:=?vv12) rfl (by kernel_rfl) (by kernel_rfl) (by kernel_rfl) (λ _ _ _ h=>h) (Or.inl ⟨by rfl,?yy12⟩) ?zz12;(case yy12=>intro w;go_simp;try with_reducible rfl);go_simp)
    (refine wpAny_ready (rs:=[11]) (by kernel_rfl) (by simp) ?_;refine Yj rfl (λ K hK=>?_) Yp;go_simp;refine hK _ _ ?_;clear hK K)
    refine wpAny_done (by kernel_rfl) ?_ _
    go_end0
    obtain⟨q1,q2⟩:=Zbc (x:=S.bI op d a b imm) hlow hbw2 Hk.out Ho.out ho7 hg7 hb7;exact⟨rfl,q1,Hb3.out.trans q2⟩
end
end
section
theorem Zul (x:Int)(h0:0<=x)(h1:x<=4294967295):bits .and .i64 x 65535=x%65536:=by
 have h:(BitVec.ofInt 64 x &&& BitVec.ofInt 64 65535).toNat=(x%65536).toNat:=by
  rw[BitVec.toNat_and];have h1:(BitVec.ofInt 64 65535).toNat=2^16-1:=by decide
  rw[h1,Nat.and_two_pow_sub_one_eq_mod,BitVec.toNat_ofInt];omega
 show IntKind.i64.wrap ((BitVec.ofInt 64 x &&& BitVec.ofInt 64 65535).toNat:Int)=_
 rw[h,IntKind.wrap_i64];omega
structure HOk (h:CH):Prop where
 fr0:0<=h.fr
 fr1:h.fr<=1000
 l0:0<=h.r.locals
 l1:h.r.locals<=200
section
variable {base p:Nat}{h:CH}{xs:List S.Item}{lab:Int}{w:World}(H:CAt base p h xs lab w)(hbw:base<=w.heap.size)
include H
theorem CAt.cell_fr:w.cell? ⟨p,5,none⟩=some (.int .i64 h.fr):=by
 obtain⟨_,v,hk,_⟩:=H;rw[Yc hk];rfl
theorem CAt.cell_loc:w.cell? ⟨p,2,none⟩=some (.int .i64 h.r.locals):=by
 obtain⟨_,v,hk,_⟩:=H;rw[Yc hk];rfl
theorem CAt.cell_bh:w.cell? ⟨p,3,none⟩=some (.bool h.r.behind):=by
 obtain⟨_,v,hk,_⟩:=H;rw[Yc hk];rfl
theorem CAt.cell_lab:w.cell? ⟨p,7,none⟩=some (.int .i64 lab):=by
 obtain⟨_,v,hk,_⟩:=H;rw[Yc hk];rfl
theorem Z1g (hO:HOk h)(k:Nat)(hk:k<=1000000):Calls Tryz.prog 242 #[.pointer (some ⟨p,0,none⟩),.int .i64 (k:Int)] w λ e w'=>e=.returned (.int .i64 (1+h.r.locals+k))/\w'=w:=by
 have c2:=H.cell_loc;obtain⟨_,_,l0,l1⟩:=hO;generalize h.r.locals=L at *;clear H;go_enter Tryz.func242,Tryz.ntmps242
 go_wp2_with fail
 go_ret
 exact⟨rfl,rfl⟩
include hbw
theorem Zm3 (hl:xs.length<=100000000)(d a:Int):Calls Tryz.prog 215 #[.pointer (some ⟨p,0,none⟩),.int .i64 d,.int .i64 a] w (Zhn base p h xs [S.bMove d a] lab w):=by
 have Hc:=Ya (Zbx H hbw hl 15 d a 0 0);clear H;go_enter Tryz.func215,Tryz.ntmps215
 go_wp2_with fail
 refine Hc.out.mono ?_;rintro e w2 ⟨rfl,h1,h2⟩;go_wp2_with fail
 go_end0
 exact⟨rfl,h1,h2⟩
theorem Zum (hl:xs.length<=100000000)(hO:HOk h)(d pl:Int)(hpl:-1000000000<=pl/\pl<=1000000000):Calls Tryz.prog 233 #[.pointer (some ⟨p,0,none⟩),.int .i64 d,.int .i64 pl] w (Zhn base p h xs [S.bLoad h.fr d pl] lab w):=by
 have Hc:=Ya (Zbx H hbw hl 24 d 28 0 (pl-h.fr));have c5:=H.cell_fr;obtain⟨f0,f1,_,_⟩:=hO;unfold S.bLoad;obtain⟨fr,hfr⟩:=Yx h.fr;rw[<- hfr] at c5 Hc f0 f1⊢;clear H hfr;go_enter Tryz.func233,Tryz.ntmps233
 go_wp2_with fail
 refine Hc.out.mono ?_;rintro e w2 ⟨rfl,h1,h2⟩;go_wp2_with fail
 go_end0
 exact⟨rfl,h1,h2⟩
theorem Zun (hl:xs.length<=100000000)(hO:HOk h)(d pl:Int)(hpl:-1000000000<=pl/\pl<=1000000000):Calls Tryz.prog 213 #[.pointer (some ⟨p,0,none⟩),.int .i64 d,.int .i64 pl] w (Zhn base p h xs [S.bStore h.fr d pl] lab w):=by
 have Hc:=Ya (Zbx H hbw hl 25 0 28 d (pl-h.fr));have c5:=H.cell_fr;obtain⟨f0,f1,_,_⟩:=hO;unfold S.bStore;obtain⟨fr,hfr⟩:=Yx h.fr;rw[<- hfr] at c5 Hc f0 f1⊢;clear H hfr;go_enter Tryz.func213,Tryz.ntmps213
 go_wp2_with fail
 refine Hc.out.mono ?_;rintro e w2 ⟨rfl,h1,h2⟩;go_wp2_with fail
 go_end0
 exact⟨rfl,h1,h2⟩
theorem Z1h (hl:xs.length<=100000000)(hO:HOk h):Calls Tryz.prog 216 #[.pointer (some ⟨p,0,none⟩)] w (Zhn base p h xs [S.bPop h.fr] lab w):=by
 have Hc:=Ya (Zbx H hbw hl 15 28 28 0 (-h.fr));have c5:=H.cell_fr;obtain⟨f0,f1,_,_⟩:=hO;unfold S.bPop;obtain⟨fr,hfr⟩:=Yx h.fr;rw[<- hfr] at c5 Hc f0 f1⊢;clear H hfr;go_enter Tryz.func216,Tryz.ntmps216
 go_wp2_with fail
 refine Hc.out.mono ?_;rintro e w2 ⟨rfl,h1,h2⟩;go_wp2_with fail
 go_end0
 exact⟨rfl,h1,h2⟩
theorem Zkm (hl:xs.length+1<=100000000)(d n:Int)(hn:-2147483648<=n/\n<=4294967295):Calls Tryz.prog 232 #[.pointer (some ⟨p,0,none⟩),.int .i64 d,.int .i64 n] w (Zhn base p h xs (S.bConst d n) lab w):=by
 have Hi:=Ya (λ(ys:List S.Item) (W:World) (hy:ys.length<=1) (hc:CAt base p h (xs++ys) lab W) (hk:CK base w W) (op d a b imm:Int)=>Zbx hc (by have:=hk.size;omega) (by simp only[Yd];omega) op d a b imm);have Hc0:=Ya H;clear H;unfold S.bConst;by_cases h1:-32768<=n
 .by_cases h2:n<32768
  .rw[if_pos ⟨h1,h2⟩]
   go_enter Tryz.func232,Tryz.ntmps232
   go_wp2_with fail
   refine(Hi.out [] w (by simp) (by simpa using Hc0.out) (CK.refl _ _) 15 d 0 0 n).mono ?_;rintro e w2 ⟨rfl,h3,h4⟩;go_wp2_with fail
   go_end0
   exact⟨rfl,by simpa using h3,h4⟩
  .rw[if_neg (by omega)]
   go_enter Tryz.func232,Tryz.ntmps232
   go_wp2_with fail
   refine(Hi.out [] w (by simp) (by simpa using Hc0.out) (CK.refl _ _) 23 d 0 0 (n/65536)).mono ?_;rintro e w2 ⟨rfl,h3,h4⟩;go_wp2_with fail
   rw[Zul n (by omega) (by omega)];refine(Hi.out [S.bI 23 d 0 0 (n/65536)] w2 (by simp) (by simpa using h3) h4 17 d d 0 (n%65536)).mono ?_;rintro e w3 ⟨rfl,h5,h6⟩;go_wp2_with fail
   go_end0
   have e1:n%4294967296=n:=by omega
   exact⟨rfl,by rw[e1];simpa using h5,h4.trans h6⟩
 .rw[if_neg (by omega)]
  go_enter Tryz.func232,Tryz.ntmps232
  go_wp2_with fail
  refine(Hi.out [] w (by simp) (by simpa using Hc0.out) (CK.refl _ _) 23 d 0 0 (n%4294967296/65536)).mono ?_;rintro e w2 ⟨rfl,h3,h4⟩;go_wp2_with fail
  rw[Zul (n%4294967296) (by omega) (by omega)];refine(Hi.out [S.bI 23 d 0 0 (n%4294967296/65536)] w2 (by simp) (by simpa using h3) h4 17 d d 0 (n%4294967296%65536)).mono ?_;rintro e w3 ⟨rfl,h5,h6⟩;go_wp2_with fail
  go_end0
  exact⟨rfl,by simpa using h5,h4.trans h6⟩
theorem Zzv (hl:xs.length+6<=100000000)(hO:HOk h):Calls Tryz.prog 190 #[.pointer (some ⟨p,0,none⟩)] w (Zhn base p h xs (S.bBack h.fr h.r.behind) lab w):=by
 have Hi:=Ya (λ(ys:List S.Item) (W:World) (hy:ys.length<=6) (hc:CAt base p h (xs++ys) lab W) (hk:CK base w W) (op d a b imm:Int)=>Zbx hc (by have:=hk.size;omega) (by simp only[Yd];omega) op d a b imm);have Hp:=Ya (Z1h H hbw (by omega) hO);have Hb:=Ya (λ(ys:List S.Item) (W:World) (hc:CAt base p h (xs++ys) lab W)=>hc.cell_bh);clear H;obtain⟨ys,hys⟩:=Yx (S.bBack h.fr h.r.behind);rw[<- hys];unfold S.bBack at hys;have Hys:=Ya hys;clear hys;obtain⟨bh,hbh⟩:=Yx h.r.behind;rw[<- hbh] at Hb Hys;clear hbh;go_enter Tryz.func190,Tryz.ntmps190
 go_wp2_with fail
 refine Hp.out.mono ?_;rintro e w2 ⟨rfl,h1,k1⟩;go_wp2_with fail
 refine(Hi.out [S.bPop h.fr] w2 (by simp) h1 k1 24 31 28 0 0).mono ?_;rintro e w3 ⟨rfl,h2,k2⟩;rw[Yn] at h2;have k3:=k1.trans k2;have c3:=Hb.out _ _ h2
 cases bh with
 | false =>
  go_wp2_with fail
  refine(Hi.out _ w3 (by simp) h2 k3 33 0 31 0 0).mono ?_;rintro e w4 ⟨rfl,h4,k4⟩;go_wp2_with fail
  go_end0
  exact⟨rfl,by rw[Hys.out];simpa using h4,k3.trans k4⟩
 | true =>
  go_wp2_with fail
  refine(Hi.out _ w3 (by simp) h2 k3 24 25 31 0 0).mono ?_;rintro e w4 ⟨rfl,h4,k4⟩;rw[Yn] at h4;go_wp2_with fail
  refine(Hi.out _ w4 (by simp) h4 (k3.trans k4) 1 31 31 25 0).mono ?_;rintro e w5 ⟨rfl,h5,k5⟩;rw[Yn] at h5;go_wp2_with fail
  refine(Hi.out _ w5 (by simp) h5 ((k3.trans k4).trans k5) 33 0 31 0 1).mono ?_;rintro e w6 ⟨rfl,h6,k6⟩;go_wp2_with fail
  go_end0
  exact⟨rfl,by rw[Hys.out];simpa using h6,((k3.trans k4).trans k5).trans k6⟩
theorem Zlf (h3:3<=base)(hL:LVE w)(hlab:0<=lab/\lab<=1000000000):Calls Tryz.prog 230 #[.pointer (some ⟨p,0,none⟩)] w λ e w'=>e=.returned (.string (S.bLab (lab+1)))/\CAt base p h xs (lab+1) w'/\CK base w w':=by
 have Hbl:=Ya (show S.bLab (lab+1)=⟨(46::S.itoa (lab+1)).toArray⟩ from rfl);have Hlen:=Ya (Zk2 (lab+1));have Hit:=Ya (λ W (hL:LVE W)=>Zqj (lab+1) ⟨by omega,by omega⟩ W hL);generalize S.bLab (lab+1)=R at *;generalize S.itoa (lab+1)=I at *;have c7:=H.cell_lab;have hlt:=H.lt;obtain⟨hlow,v,hk,ho⟩:=H;have f7:w.frozen? ⟨p,7,none⟩=false:=Yan hk 7;have hne:=Zbi ho hk (by decide);have hS:(w.setCell ⟨p,7,none⟩ (.int .i64 (lab+1))).heap[p]?=some (.cells (Zg9 h v (lab+1)) 211):=by
  rw[setCell_eq_setRow _ _ _ _ _ _ _ hk];exact setRow_heap _ _ _ _ _ _ hk
 have hb7:Below base w (w.setCell ⟨p,7,none⟩ (.int .i64 (lab+1))):=(Yh _ _).setCell (p:=⟨p,7,none⟩) hlow _;have ho7:=ho.kept (w':=w.setCell ⟨p,7,none⟩ (.int .i64 (lab+1))) (row:=some p) ⟨rfl,rfl,rfl,by simp[World.setCell],λ k _ hk=>Ybk _ _ _ _ (λ e=>hk (by simp[e]))⟩ (Or.inr hne);have hat:CAt base p h xs (lab+1) (w.setCell ⟨p,7,none⟩ (.int .i64 (lab+1))):=⟨hlow,v,hS,ho7⟩
 have hck:CK base w (w.setCell ⟨p,7,none⟩ (.int .i64 (lab+1))):=⟨hb7,λ k r T o hr h1 h2=>by
  have hkp:k≠p:=by
   rintro rfl;rw[hk] at hr;simp only[Option.some.injEq,Obj.cells.injEq] at hr;exact h2 hr.2.1.symm
  rw[Ybk _ _ _ _ hkp];exact hr⟩
 have Hat:=Ya hat;have Hck:=Ya hck;have HL:=Ya (hL.keep hb7 h3);have g7:(w.setCell ⟨p,7,none⟩ (.int .i64 (lab+1))).cell? ⟨p,7,none⟩=some (.int .i64 (lab+1)):=by rw[Yc hS];rfl
 have hsz:base<=(w.setCell ⟨p,7,none⟩ (.int .i64 (lab+1))).heap.size:=by have:=hck.size;omega
 clear hat hck hb7 ho7 hS hk ho hL;go_enter Tryz.func230,Tryz.ntmps230
 go_upto_region 2 with fail
 generalize w.setCell ⟨p,7,none⟩ (.int .i64 (lab+1))=w2 at *;clear c7 f7;go_wp2_with fail
 refine(Hit.out w2 HL.out).mono ?_;rintro e w3 ⟨rfl,hb3⟩;have Hr:=Ya (Ztd [46] I);have Hat3:=Ya (Hat.out.keep hb3);have Hck3:=Ya (Hck.out.trans (CK.of hb3 hsz));have hlen:=Hlen.out;clear HL hb3;go_wp2_with fail
 go_ret
 exact⟨Z0u (by rw[Hbl.out];exact Hr.out),Hat3.out,Hck3.out⟩
end
end
theorem Zdn (fr L:Int):∀k,(S.bStores fr L k).length=k
 | 0=>rfl
 | k+1=>by rw[S.bStores,Yd,Zdn fr L k];rfl
theorem Zgs (fr L:Int):∀k,(S.bLoads fr L k).length=k
 | 0=>rfl
 | k+1=>by rw[S.bLoads,Yd,Zgs fr L k];rfl
theorem Zeb (at_:Nat):∀k,(S.bArgs at_ k).length=k
 | 0=>rfl
 | k+1=>by rw[S.bArgs,Yd,Zeb at_ k];rfl
theorem Z3x {base p:Nat}{h:CH}{xs:List S.Item}{lab:Int}{w:World}(H:CAt base p h xs lab w)(hbw:base<=w.heap.size)(hO:HOk h)(op n:Int)(nm:ByteArray)(A:Option Addr)(N c at_:Nat)(hN:N<=1000000)(hat:at_<=1000000)
 (hl:xs.length+(S.bCall h.fr h.r.locals nm N at_).length<=100000000) :
 Calls Tryz.prog 234 #[.pointer (some ⟨p,0,none⟩),.agg #[.int .i64 op,.int .i64 n,.string nm,.slice A N c],.int .i64 (at_:Int)] w (Zhn base p h xs (S.bCall h.fr h.r.locals nm N at_) lab w):=by
 have hbX:Below w.heap.size w (w.alloc (.cells #[.int .i64 op,.int .i64 n,.string nm,.slice A N c] 111)):=(Yh _ _).alloc (Yb _) _;have hrX:=heap_alloc_new w (.cells #[.int .i64 op,.int .i64 n,.string nm,.slice A N c] 111);have hzX:w.heap.size<(w.alloc (.cells #[.int .i64 op,.int .i64 n,.string nm,.slice A N c] 111)).heap.size:=by simp
 have HbX:=Ya (CK.of hbX hbw);have H2:=H.keep hbX;obtain⟨ys,hys⟩:=Yx (S.bCall h.fr h.r.locals nm N at_);rw[<- hys] at hl⊢;unfold S.bCall at hys;have hlen:ys.length=at_+N+1+at_+1:=by
  rw[hys];simp only[Yd,Zdn,Zgs,Zeb,Yi,Yad]
 rw[hlen] at hl;have Hys:=Ya hys;have hL0:=hO.l0;have hL1:=hO.l1;have HO:=Ya hO;have Hsav:=Ya (λ(zs:List S.Item) (W:World) (hc:CAt base p h zs lab W) (k:Nat) (hk:k<=1000000)=>Z1g hc hO k hk);have Hsto:=Ya (λ(zs:List S.Item) (W:World) (hc:CAt base p h zs lab W) (hb:base<=W.heap.size) (hz:zs.length<=100000000) (d pl:Int) (hpl:-1000000000<=pl/\pl<=1000000000)=>Zun hc hb hz hO d pl hpl);have Hloa:=Ya (λ(zs:List S.Item) (W:World) (hc:CAt base p h zs lab W) (hb:base<=W.heap.size) (hz:zs.length<=100000000) (d pl:Int) (hpl:-1000000000<=pl/\pl<=1000000000)=>Zum hc hb hz hO d pl hpl);obtain⟨L,hL⟩:=Yx h.r.locals;rw[<- hL] at hL0 hL1 Hys Hsav;have HL:=Ya hL;clear hys H hO hL hlen;go_enter Tryz.func234,Tryz.ntmps234
 go_upto_region 1 with fail
 have HRX:=Ya hrX;have H2':=Ya H2;clear hbX hrX H2;generalize w.alloc (.cells #[.int .i64 op,.int .i64 n,.string nm,.slice A N c] 111)=w2 at *;go_wp2_with fail
 go_loopw [10] (λ v10 wr=>∃k:Nat,k<=at_/\v10=.int .i64 k/\Hid (CAt base p h (xs++S.bStores h.fr L k) lab wr)/\Hid (CK base w2 wr)) (λ v10 _=>at_-(intOf v10).toNat)
 case atStart=>exact⟨0,by omega,rfl,Ya (by simpa[S.bStores] using H2'.out),Ya (CK.refl _ _)⟩
 case round =>
  obtain⟨k,hk,rfl,HC,HK⟩:=hrel;obtain⟨wo,hwo⟩:=Yx wr;subst hwo;by_cases hlt:k<at_
  .have Hs1:=Ya (Hsav.out _ _ HC.out k (by omega))
   have Hs2:=Ya (Hsto.out _ _ HC.out (by have:=HK.out.size;have:=HbX.out.size;omega) (by rw[Yd,Zdn];omega) (11+(k:Int)) (1+L+(k:Int)) (by omega));go_wp2_with fail
   refine Hs1.out.mono ?_;rintro e w3 ⟨rfl,rfl⟩;go_wp2_with fail
   refine Hs2.out.mono ?_;rintro e w4 ⟨rfl,h3,h4⟩;go_wp2_with fail
   go_roundw
   case rel=>exact⟨k+1,by omega,by go_num,Ya (by rw[S.bStores,<- Yn];exact h3),Ya (HK.out.trans h4)⟩
   case measure=>simp[intOf];omega
  .have hkN:at_=k:=by omega
   subst hkN;have Hrow:=Ya (HK.out.keep w.heap.size _ _ _ HRX.out (by decide) (by decide));have q3:wo.cell? ⟨w.heap.size,3,none⟩=some (.slice A N c):=by rw[Yc Hrow.out];rfl
   go_wp2_with fail
   have HstL:=Ya (Zdn h.fr L at_);generalize S.bStores h.fr L at_=st at *;go_loopw [24] (λ v24 wr=>∃k:Nat,k<=N/\v24=.int .i64 k/\Hid (CAt base p h (xs++st++S.bArgs at_ k) lab wr)/\Hid (CK base wo wr)) (λ v24 _=>N-(intOf v24).toNat)
   case atStart=>exact⟨0,by omega,rfl,Ya (by simpa[S.bArgs] using HC.out),Ya (CK.refl _ _)⟩
   case round =>
    obtain⟨k,hk,rfl,HC2,HK2⟩:=hrel;obtain⟨wo2,hwo2⟩:=Yx wr;subst hwo2;have hs2:base<=wo2.heap.size:=by have:=HK2.out.size;have:=HK.out.size;have:=HbX.out.size;omega
    by_cases hlt:k<N
    .have Hs1:=Ya (Zm3 HC2.out hs2 (by rw[Yd,Yd,Zeb,HstL.out];omega) (4+(k:Int)) (11+(at_:Int)+(k:Int)))
     go_wp2_with fail
     refine Hs1.out.mono ?_;rintro e w4 ⟨rfl,h3,h4⟩;go_wp2_with fail
     go_roundw
     case rel=>exact⟨k+1,by omega,by go_num,Ya (by rw[S.bArgs,<- Yn];exact h3),Ya (HK2.out.trans h4)⟩
     case measure=>simp[intOf];omega
    .have hkN:N=k:=by omega
     subst hkN;have Hrow2:=Ya (HK2.out.keep w.heap.size _ _ _ Hrow.out (by decide) (by decide));have q2:wo2.cell? ⟨w.heap.size,2,none⟩=some (.string nm):=by rw[Yc Hrow2.out];rfl
     have Hj:=Ya (Zqv HC2.out hs2 (by rw[Yd,Yd,Zeb,HstL.out];omega) 31 nm);go_wp2_with fail
     refine Hj.out.mono ?_;rintro e w5 ⟨rfl,h5,h6⟩;go_wp2_with fail
     have HarL:=Ya (Zeb at_ N);generalize S.bArgs at_ N=ar at *;go_loopw [41] (λ v41 wr=>∃k:Nat,k<=at_/\v41=.int .i64 k/\Hid (CAt base p h (xs++st++ar++[S.bJ 31 nm]++S.bLoads h.fr L k) lab wr)/\Hid (CK base w5 wr)) (λ v41 _=>at_-(intOf v41).toNat)
     case atStart=>exact⟨0,by omega,rfl,Ya (by simpa[S.bLoads] using h5),Ya (CK.refl _ _)⟩
     case round =>
      obtain⟨k,hk,rfl,HC3,HK3⟩:=hrel;obtain⟨wo3,hwo3⟩:=Yx wr;subst hwo3;have hs3:base<=wo3.heap.size:=by have:=HK3.out.size;have:=h6.size;omega
      have hl3:(xs++st++ar++[S.bJ 31 nm]++S.bLoads h.fr L k).length=xs.length+at_+N+1+k:=by simp only[Yd,HarL.out,HstL.out,Zgs,Yi,Yad]
      by_cases hlt:k<at_
      .have Hs1:=Ya (Hsav.out _ _ HC3.out k (by omega))
       have Hs2:=Ya (Hloa.out _ _ HC3.out hs3 (by rw[hl3];omega) (11+(k:Int)) (1+L+(k:Int)) (by omega));clear hl3;go_wp2_with fail
       refine Hs1.out.mono ?_;rintro e w3 ⟨rfl,rfl⟩;go_wp2_with fail
       refine Hs2.out.mono ?_;rintro e w4 ⟨rfl,h3,h4⟩;go_wp2_with fail
       go_roundw
       case rel=>exact⟨k+1,by omega,by go_num,Ya (by rw[S.bLoads,<- Yn];exact h3),Ya (HK3.out.trans h4)⟩
       case measure=>simp[intOf];omega
      .have hkN:at_=k:=by omega
       subst hkN;have Hs1:=Ya (Zm3 HC3.out hs3 (by rw[hl3];omega) (11+(at_:Int)) 4);clear hl3;go_wp2_with fail
       refine Hs1.out.mono ?_;rintro e w4 ⟨rfl,h3,h4⟩;go_wp2_with fail
       go_end0
       refine⟨rfl,?_,HbX.out.trans (HK.out.trans (HK2.out.trans (h6.trans (HK3.out.trans h4))))⟩;rw[Hys.out]
       simpa[Yn] using h3
theorem Zfc (fr L:Int)(e:S.BE):∀(l:List S.BE)(i:Nat),S.bExprs fr L (l++[e]) i=S.bExprs fr L l i++S.bExpr fr L e (i+l.length)
 | [],i=>by simp[S.bExprs]
 | x::r,i=>by
  rw[Yaa,S.bExprs,S.bExprs,Zfc fr L e r (i+1),Yn,Yi];have:i+1+r.length=i+(r.length+1):=by omega
  rw[this]
theorem Zfz (fr L:Int)(m:List S.BE):∀(l:List S.BE)(i:Nat),S.bExprs fr L (l++m) i=S.bExprs fr L l i++S.bExprs fr L m (i+l.length)
 | [],i=>by simp[S.bExprs]
 | x::r,i=>by
  rw[Yaa,S.bExprs,S.bExprs,Zfz fr L m r (i+1),Yn,Yi];have:i+1+r.length=i+(r.length+1):=by omega
  rw[this]
theorem Zim (fr L:Int)(l:List S.BE)(i k:Nat):(S.bExprs fr L (l.take k) i).length<=(S.bExprs fr L l i).length:=by
 have:=Zfz fr L (l.drop k) (l.take k) i;rw[List.take_append_drop] at this;rw[this,Yd];omega
theorem Zyf (fr L:Int)(e:S.BE)(at_:Nat):S.bExpr fr L e at_=S.bExprs fr L e.kids at_++S.bOp fr L e.op e.n e.name e.kids.length at_:=by
 obtain⟨op,n,nm,kids⟩:=e;rw[S.bExpr];rfl
theorem Zec (L:Int):∀{l:List S.BE},S.formedEs L l=true->∀e∈l,S.formedE L e=true
 | x::r,h,e,he=>by
  rw[S.formedEs,Yt] at h;rcases List.mem_cons.1 he with rfl|he
  .exact h.1
  .exact Zec L h.2 e he
theorem Zlg {L:Int}{e:S.BE}(h:S.formedE L e=true):S.headE L e.op e.n e.name e.kids.length=true/\S.formedEs L e.kids=true:=by
 obtain⟨op,n,nm,kids⟩:=e;rw[S.formedE,Yt] at h;exact h
theorem Zpm:∀{l:List S.BE} {k:Nat} {e:S.BE},l[k]?=some e->k+szE e<=Ze2 l
 | [],k,e,h=>by simp at h
 | x::r,0,e,h=>by
  simp only[List.getElem?_cons_zero,Option.some.injEq] at h;subst h;rw[Ze2];omega
 | x::r,k+1,e,h=>by
  have h1:=Zpm (l:=r) (k:=k) (e:=e) (by simpa using h);have:=Zdj x;rw[Ze2];omega
theorem Zpn {L op n:Int}{nm:ByteArray}{N:Nat}(h:S.headE L op n nm N=true):(1<=op/\op<=10)/\(op=1->-2147483648<=n/\n<=4294967295)/\(op=2->0<=n/\n<L)/\N=S.kidsE op N:=by
 unfold S.headE at h;simp only[Yt,decide_eq_true_eq] at h;obtain⟨⟨⟨⟨h1,h2⟩,h3⟩,_⟩,_⟩:=h;refine⟨h1,λ e=>?_,λ e=>?_,h3⟩
 .subst e;unfold S.numE at h2;rw[if_pos rfl] at h2;have:=of_decide_eq_true h2;omega
 .subst e;unfold S.numE at h2;rw[if_neg (by decide),if_pos rfl] at h2;exact of_decide_eq_true h2
theorem Zpo (n:Int)(hn:0<=n/\n<=1000000)(w:World):Calls Tryz.prog 188 #[.int .i64 n] w λ e w'=>e=.returned (.int .i64 (1+n))/\w'=w:=by
 go_enter Tryz.func188,Tryz.ntmps188
 go_wp2_with fail
 go_ret
 exact⟨rfl,rfl⟩
def Exp (base p:Nat)(h:CH)(n:Nat):Prop:=∀(e:S.BE)(A:Option Addr)(c at_:Nat)(xs:List S.Item)(lab:Int)(w:World),szE e<=n->S.formedE h.r.locals e=true->at_+szE e<=1000000->CAt base p h xs lab w->base<=w.heap.size->EList w base A e.kids->e.name.size<=maxLen ->
 xs.length+(S.bExpr h.fr h.r.locals e at_).length+10<=100000000 ->
 Calls Tryz.prog 212 #[.pointer (some ⟨p,0,none⟩),.agg #[.int .i64 e.op,.int .i64 e.n,.string e.name,.slice A e.kids.length c],.int .i64 (at_:Int)] w (Zhn base p h xs (S.bExpr h.fr h.r.locals e at_) lab w)
theorem Zzw {base p:Nat}{h:CH}(hO:HOk h):∀n,Exp base p h n:=by
 intro n
 induction n with
 | zero=>intro e A c at_ xs lab w hs;have:=Zdj e;omega
 | succ n ih =>
  intro e A c at_ xs lab w hs hF hat H hbw hA hnm hl;obtain⟨hh,hFs⟩:=Zlg hF;have hsp:=Zdj e;have hle:=Zeq e.kids;rw[Zyf] at hl⊢;have Hih:=Ya ih;have HA:=Ya hA;have Hh:=Ya hh;have HFs:=Ya hFs;have Hkn:=Ya (λ e' k (he:e.kids[k]?=some e')=>(show szE e'<=n/\at_+k+szE e'<=1000000 from by have:=Zpm he;omega));obtain⟨kids,hkids⟩:∃k,k=e.kids:=⟨_,rfl⟩
  obtain⟨N,hN⟩:=Yx kids.length;rw[<- hkids] at HA Hh HFs Hkn hl hsp hle⊢;rw[<- hN] at Hh hl hle⊢;have HN:=Ya hN;generalize e.op=op at *;generalize e.n=en at *;generalize e.name=nm at *;clear hkids hN ih hA hF hh hFs;have hbX:Below w.heap.size w (w.alloc (.cells #[.int .i64 op,.int .i64 en,.string nm,.slice A N c] 111)):=(Yh _ _).alloc (Yb _) _;have hrX:=heap_alloc_new w (.cells #[.int .i64 op,.int .i64 en,.string nm,.slice A N c] 111);have HbX:=Ya (CK.of hbX hbw);have H2:=Ya (H.keep hbX);have HRX:=Ya hrX;clear H hbX hrX;go_enter Tryz.func212,Tryz.ntmps212
  go_upto_region 1 with fail
  generalize w.alloc (.cells #[.int .i64 op,.int .i64 en,.string nm,.slice A N c] 111)=w2 at *;have q3:w2.cell? ⟨w.heap.size,3,none⟩=some (.slice A N c):=by rw[Yc HRX.out];rfl
  go_wp2_with fail
  obtain⟨oitems,hoi⟩:∃o,o=S.bOp h.fr h.r.locals op en nm N at_:=⟨_,rfl⟩
  rw[<- hoi] at hl⊢;have Hoi:=Ya hoi;clear hoi;rw[Yd] at hl;have HKL:=Ya (λ k=>Zim h.fr h.r.locals kids at_ k);go_loopw [14] (λ v14 wr=>∃k:Nat,k<=N/\v14=.int .i64 k/\Hid (CAt base p h (xs++S.bExprs h.fr h.r.locals (kids.take k) at_) lab wr)/\Hid (CK base w2 wr)) (λ v14 _=>N-(intOf v14).toNat)
  case atStart=>exact⟨0,by omega,rfl,Ya (by simpa[S.bExprs] using H2.out),Ya (CK.refl _ _)⟩
  case round =>
   obtain⟨k,hk,rfl,HC,HK⟩:=hrel;obtain⟨wo,hwo⟩:=Yx wr;subst hwo;have hso:base<=wo.heap.size:=by have:=HK.out.size;have:=HbX.out.size;omega
   by_cases hlt:k<N
   .obtain⟨e1,he1⟩:∃e1,kids[k]?=some e1:=⟨_,List.getElem?_eq_getElem (by rw[<- HN.out];exact hlt)⟩
    obtain⟨b,off,A',c',rfl,hbB,q0,q1,q2,q3',q4,q5,q6⟩:=(HA.out.below (HbX.out.trans HK.out).below).at_ he1;have hmem:=List.mem_of_getElem? he1;obtain⟨hz1,hz2⟩:=Hkn.out e1 k he1;have hkl:(kids.take k).length=k:=by have:=HN.out;rw[List.length_take];omega
    have hnx:S.bExprs h.fr h.r.locals (kids.take (k+1)) at_=S.bExprs h.fr h.r.locals (kids.take k) at_++S.bExpr h.fr h.r.locals e1 (at_+k):=by rw[Zdl kids he1,Zfc,hkl]
    have hkl1:=HKL.out (k+1);rw[hnx,Yd] at hkl1;have hbr:b<wo.heap.size:=by omega
    have hbY:Below wo.heap.size wo (wo.alloc (.cells #[.int .i64 e1.op,.int .i64 e1.n,.string e1.name,.slice A' e1.kids.length c'] 111)):=(Yh _ _).alloc (Yb _) _;have hrec:=Hih.out e1 A' c' (at_+k) (xs++S.bExprs h.fr h.r.locals (kids.take k) at_) lab (wo.alloc (.cells #[.int .i64 e1.op,.int .i64 e1.n,.string e1.name,.slice A' e1.kids.length c'] 111)) hz1 (Zec _ HFs.out e1 hmem) (by omega) (HC.out.keep hbY) (Y8 hso hbY.size) (q6.below (hbY.mono hso)) q4 (by rw[Yd];omega);have Hnx:=Ya hnx;have HbY:=Ya (CK.of hbY hso);clear hnx hkl1 hbY hkl;generalize S.bExpr h.fr h.r.locals e1 (at_+k)=zs at *;generalize e1.op=op' at *;generalize e1.n=en' at *;generalize e1.name=nm' at *;generalize e1.kids.length=N' at *;rw[show((at_+k:Nat):Int)=(at_:Int)+(k:Int) from by omega] at hrec;have Hrec:=Ya hrec;clear hrec q4 q5 q6 he1 hmem hz1 hz2;go_wp2_with fail
    refine Hrec.out.mono ?_;rintro e w4 ⟨rfl,h3,h4⟩;go_wp2_with fail
    go_roundw
    case rel=>exact⟨k+1,by omega,by go_num,Ya (by rw[Hnx.out,<- Yn];exact h3),Ya (HK.out.trans (HbY.out.trans h4))⟩
    case measure=>simp[intOf];omega
   .have hkN:N=k:=by omega
    subst hkN;have Hrow:=Ya (HK.out.keep w.heap.size _ _ _ HRX.out (by decide) (by decide));have c0:wo.cell? ⟨w.heap.size,0,none⟩=some (.int .i64 op):=by rw[Yc Hrow.out];rfl
    have c1:wo.cell? ⟨w.heap.size,1,none⟩=some (.int .i64 en):=by rw[Yc Hrow.out];rfl
    have c2:wo.cell? ⟨w.heap.size,2,none⟩=some (.string nm):=by rw[Yc Hrow.out];rfl
    have c3:wo.cell? ⟨w.heap.size,3,none⟩=some (.slice A N c):=by rw[Yc Hrow.out];rfl
    have ht:kids.take N=kids:=by rw[HN.out,List.take_length]
    rw[ht] at HC;clear ht q3;generalize S.bExprs h.fr h.r.locals kids at_=ks at *;obtain⟨⟨o1,o2⟩,hcon,hloc,-⟩:=Zpn Hh.out;have hcz:(xs++ks).length=xs.length+ks.length:=Yd;clear Hh HA HFs Hkn HKL;rcases(show op=1\/op=2\/op=3\/op=4\/op=5\/op=6\/op=7\/op=8\/op=9\/op=10 by omega) with rfl|rfl|rfl|rfl|rfl|rfl|rfl|rfl|rfl|rfl
    .have Hob:=Ya (show S.bOp h.fr h.r.locals 1 en nm N at_=S.bConst (11+(at_:Int)) en from rfl)
     have Hc:=Ya (Zkm HC.out hso (by rw[hcz];omega) (11+(at_:Int)) en (by have:=hcon rfl;omega));clear hcon hloc;go_wp2_with fail
     refine Hc.out.mono ?_;rintro e w4 ⟨rfl,h3,h4⟩;go_wp2_with fail
     go_end0
     refine⟨rfl,?_,HbX.out.trans (HK.out.trans h4)⟩;rw[Hob.out,<- Yn];exact h3
    .have Hob:=Ya (show S.bOp h.fr h.r.locals 2 en nm N at_=[S.bLoad h.fr (11+(at_:Int)) (1+en)] from rfl)
     have Hlo:=Ya (Zpo en (by have:=hloc rfl;have:=hO.l1;omega) wo);have Hc:=Ya (Zum HC.out hso (by rw[hcz];omega) hO (11+(at_:Int)) (1+en) (by have:=hloc rfl;have:=hO.l1;omega));clear hcon hloc;go_wp2_with fail
     refine Hlo.out.mono ?_;rintro e w3 ⟨rfl,rfl⟩;go_wp2_with fail
     refine Hc.out.mono ?_;rintro e w4 ⟨rfl,h3,h4⟩;go_wp2_with fail
     go_end0
     refine⟨rfl,?_,HbX.out.trans (HK.out.trans h4)⟩;rw[Hob.out,<- Yn];exact h3
    .have Hob:=Ya (show S.bOp h.fr h.r.locals 3 en nm N at_=[S.bMove (11+(at_:Int)) en] from rfl)
     have Hc:=Ya (Zm3 HC.out hso (by rw[hcz];omega) (11+(at_:Int)) en);clear hcon hloc;go_wp2_with fail
     refine Hc.out.mono ?_;rintro e w4 ⟨rfl,h3,h4⟩;go_wp2_with fail
     go_end0
     refine⟨rfl,?_,HbX.out.trans (HK.out.trans h4)⟩;rw[Hob.out,<- Yn];exact h3
    .have Hob:=Ya (show S.bOp h.fr h.r.locals 4 en nm N at_=[S.bI en (11+(at_:Int)) (11+(at_:Int)) (11+(at_:Int)+1) 0] from by show [S.bI en _ _ (12+(at_:Int)) 0]=_;rw[show 11+(at_:Int)+1=12+(at_:Int) from by omega])
     have Hc:=Ya (Zbx HC.out hso (by rw[hcz];omega) en (11+(at_:Int)) (11+(at_:Int)) (11+(at_:Int)+1) 0);clear hcon hloc;go_wp2_with fail
     refine Hc.out.mono ?_;rintro e w4 ⟨rfl,h3,h4⟩;go_wp2_with fail
     go_end0
     refine⟨rfl,?_,HbX.out.trans (HK.out.trans h4)⟩;rw[Hob.out,<- Yn];exact h3
    .have Hob:=Ya (show S.bOp h.fr h.r.locals 5 en nm N at_=[S.bI 24 (11+(at_:Int)) (11+(at_:Int)) 0 en] from rfl)
     have Hc:=Ya (Zbx HC.out hso (by rw[hcz];omega) 24 (11+(at_:Int)) (11+(at_:Int)) 0 en);clear hcon hloc;go_wp2_with fail
     refine Hc.out.mono ?_;rintro e w4 ⟨rfl,h3,h4⟩;go_wp2_with fail
     go_end0
     refine⟨rfl,?_,HbX.out.trans (HK.out.trans h4)⟩;rw[Hob.out,<- Yn];exact h3
    .have Hob:=Ya (show S.bOp h.fr h.r.locals 6 en nm N at_=S.bCall h.fr h.r.locals nm N at_ from rfl)
     have Hc:=Ya (Z3x HC.out hso hO 6 en nm A N c at_ (by omega) (by omega) (by rw[hcz,<- Hob.out,<- Hoi.out];omega));clear hcon hloc;go_wp2_with fail
     refine Hc.out.mono ?_;rintro e w4 ⟨rfl,h3,h4⟩;go_wp2_with fail
     go_end0
     refine⟨rfl,?_,HbX.out.trans (HK.out.trans h4)⟩;rw[Hob.out,<- Yn];exact h3
    .have Hob:=Ya (show S.bOp h.fr h.r.locals 7 en nm N at_=[S.bI 9 (11+(at_:Int)) (11+(at_:Int)) (11+(at_:Int)+1) 0]++S.bConst (11+(at_:Int)+1) 1++[S.bI 14 (11+(at_:Int)) (11+(at_:Int)) (11+(at_:Int)+1) 0] from by
      show [S.bI 9 _ _ (12+(at_:Int)) 0]++S.bConst (12+(at_:Int)) 1++[S.bI 14 _ _ (12+(at_:Int)) 0]=_
      rw[show 11+(at_:Int)+1=12+(at_:Int) from by omega])
     have Hc:=Ya (Zbx HC.out hso (by rw[hcz];omega) 9 (11+(at_:Int)) (11+(at_:Int)) (11+(at_:Int)+1) 0);clear hcon hloc;go_wp2_with fail
     refine Hc.out.mono ?_;rintro e w4 ⟨rfl,h3,h4⟩;have Hc2:=Ya (Zkm h3 (by have:=h4.size;omega) (by rw[Yd,hcz];show _+1+1<=_;omega) (11+(at_:Int)+1) 1 (by omega));have hr4:=h4.keep _ _ _ _ Hrow.out (by decide) (by decide);go_wp2_with fail
     refine Hc2.out.mono ?_;rintro e w5 ⟨rfl,h5,h6⟩;have Hc3:=Ya (Zbx h5 (by have:=h4.size;have:=h6.size;omega) (by rw[Yd,Yd,hcz];show _+1+1<=_;omega) 14 (11+(at_:Int)) (11+(at_:Int)) (11+(at_:Int)+1) 0);go_wp2_with fail
     refine Hc3.out.mono ?_;rintro e w6 ⟨rfl,h7,h8⟩;go_wp2_with fail
     go_end0
     refine⟨rfl,?_,HbX.out.trans (HK.out.trans ((h4.trans h6).trans h8))⟩;rw[Hob.out]
     simpa[Yn] using h7
    .have Hob:=Ya (show S.bOp h.fr h.r.locals 8 en nm N at_=[S.bI 34 (11+(at_:Int)) 0 0 0] from rfl)
     have Hc:=Ya (Zbx HC.out hso (by rw[hcz];omega) 34 (11+(at_:Int)) 0 0 0);clear hcon hloc;go_wp2_with fail
     refine Hc.out.mono ?_;rintro e w4 ⟨rfl,h3,h4⟩;go_wp2_with fail
     go_end0
     refine⟨rfl,?_,HbX.out.trans (HK.out.trans h4)⟩;rw[Hob.out,<- Yn];exact h3
    .have Hob:=Ya (show S.bOp h.fr h.r.locals 9 en nm N at_=[S.bA (11+(at_:Int)) nm] from rfl)
     clear hcon hloc;go_wp2_with fail
     refine wp_region_any (by kernel_rfl) ?_;change wpAny _ _ _ _ _ _ _ (World.drew wo);have hdb:Below wo.heap.size wo wo.drew:=⟨rfl,rfl,rfl,Yb _,λ _ _=>rfl⟩
     have hwlt:w.heap.size<wo.heap.size:=by
      rcases Ycf w.heap.size wo.heap.size with h'|h'
      .exact h'
      .have:=Hrow.out;simp[Ybq h'] at this
     have H3:=HC.out.keep hdb;have hr3:=(hdb.block _ hwlt).trans Hrow.out;have Hb3:=Ya (HK.out.trans (CK.of hdb hso));have hbw2:base<=wo.drew.heap.size:=Y8 hso hdb.size;clear c0 c1 c2 c3 hdb HC Hrow;generalize wo.drew=w3 at *;have q2:w3.cell? ⟨w.heap.size,2,none⟩=some (.string nm):=by rw[Yc hr3];rfl
     have hzl:(xs++ks).length<=100000000:=by rw[hcz];omega
     obtain⟨zs,hzs⟩:=Yx (xs++ks);rw[<- hzs] at H3 hzl;have Hzs:=Ya hzs;clear hcz hzs;have hlt:=H3.lt;obtain⟨hlow,v,hk,ho⟩:=H3;have c6:w3.cell? ⟨p,6,none⟩=some v:=by rw[Yc hk];rfl
     have Hk:=Ya hk;have Ho:=Ya ho;obtain⟨A',c',rfl⟩:=Zb ho;clear hk ho hr3
     (refine wpAny_take (i:=0) (v:=?vv13) rfl (by kernel_rfl) (by kernel_rfl) (by kernel_rfl) (λ _ _ _ h=>h) (Or.inl ⟨by rfl,?yy13⟩) ?zz13;(case yy13=>intro w;go_simp;try with_reducible rfl);go_simp)
     (refine wpAny_take (i:=1) (v:=?vv14) rfl (by kernel_rfl) (by kernel_rfl) (by kernel_rfl) (λ _ _ _ h=>h) (Or.inl ⟨by rfl,?yy14⟩) ?zz14;(case yy14=>intro w;go_simp;try with_reducible rfl);go_simp)
     (refine wpAny_take (i:=2) (v:=?vv15) rfl (by kernel_rfl) (by kernel_rfl) (by kernel_rfl) (λ _ _ _ h=>h) (Or.inl ⟨by rfl,?yy15⟩) ?zz15;(case yy15=>intro w;go_simp;try with_reducible rfl);go_simp)
     (refine wpAny_take (i:=3) (v:=?vv16) rfl (by kernel_rfl) (by kernel_rfl) (by kernel_rfl) (λ _ _ _ h=>h) (Or.inl ⟨by rfl,?yy16⟩) ?zz16;(case yy16=>intro w;go_simp;try with_reducible rfl);go_simp)
     (refine wpAny_take (i:=5) (v:=?vv17) rfl (by kernel_rfl) (by kernel_rfl) (by kernel_rfl) (λ _ _ _ h=>h) (Or.inl ⟨by rfl,?yy17⟩) ?zz17;(case yy17=>intro w;go_simp;try with_reducible rfl);go_simp)
     (refine wpAny_take (i:=6) (v:=?vv18) rfl (by kernel_rfl) (by kernel_rfl) (by kernel_rfl) (λ _ _ _ h=>h) (Or.inl ⟨by rfl,?yy18⟩) ?zz18;(case yy18=>intro w;go_simp;try with_reducible rfl);go_simp)
     (refine wpAny_take (i:=7) (v:=?vv19) rfl (by kernel_rfl) (by kernel_rfl) (by kernel_rfl) (λ _ _ _ h=>h) (Or.inl ⟨by rfl,?yy19⟩) ?zz19;(case yy19=>intro w;go_simp;try with_reducible rfl);go_simp)
     refine wpAny_ready (rs:=[4,8]) (by kernel_rfl) (by simp) ?_;refine Yj rfl (λ K hK=>?_) (Yj rfl (λ K hK=>?_) Yp)
     .go_simp
      refine hK _ _ ?_;clear hK K
      (refine wpAny_ready (rs:=[8]) (by kernel_rfl) (by simp) ?_;refine Yj rfl (λ K hK=>?_) Yp;go_simp;refine hK _ _ ?_;clear hK K)
      (refine wpAny_take (i:=9) (v:=?vv20) rfl (by kernel_rfl) (by kernel_rfl) (by kernel_rfl) (λ _ _ _ h=>h) (Or.inl ⟨by rfl,?yy20⟩) ?zz20;(case yy20=>intro w;go_simp;try with_reducible rfl);go_simp)
      (refine wpAny_ready (rs:=[10]) (by kernel_rfl) (by simp) ?_;refine Yj rfl (λ K hK=>?_) Yp;go_simp;refine hK _ _ ?_;clear hK K)
      refine wpAny_ready (rs:=[11]) (by kernel_rfl) (by simp) ?_;refine Yj rfl (λ K hK=>?_) Yp;rw[if_pos (by simp[Yal])];refine Zd2 (.tmp 108) (.tmp 114) _ rfl base 74 Za1 Tryz.underlying68 rfl (by decide) (Zc (S.bA (11+(at_:Int)) nm)).toArray _ _ _ rfl Ho.out rfl rfl rfl (by simp[Y6,Zc]) (by simp only[maxLen];omega) (by omega) hbw2 ?_;intro v' w7 ho7 hg7 hb7 _;obtain⟨A8,c8,rfl⟩:=Zb ho7;have hk7:=(hg7.block p hlt (λ e=>Zbi Ho.out Hk.out (by decide) e.symm)).trans Hk.out;have f6:w7.frozen? ⟨p,6,none⟩=false:=Yan hk7 6;have d6:∃u,w7.cell? ⟨p,6,none⟩=some u:=⟨_,by rw[Yc hk7];rfl⟩
      obtain⟨u6,d6⟩:=d6;refine hK _ _ ?_;clear hK K;go_simp
      (refine wpAny_take (i:=12) (v:=?vv21) rfl (by kernel_rfl) (by kernel_rfl) (by kernel_rfl) (λ _ _ _ h=>h) (Or.inl ⟨by rfl,?yy21⟩) ?zz21;(case yy21=>intro w;go_simp;try with_reducible rfl);go_simp)
      (refine wpAny_take (i:=13) (v:=?vv22) rfl (by kernel_rfl) (by kernel_rfl) (by kernel_rfl) (λ _ _ _ h=>h) (Or.inl ⟨by rfl,?yy22⟩) ?zz22;(case yy22=>intro w;go_simp;try with_reducible rfl);go_simp)
      (refine wpAny_ready (rs:=[14]) (by kernel_rfl) (by simp) ?_;refine Yj rfl (λ K hK=>?_) Yp;go_simp;refine hK _ _ ?_;clear hK K)
      refine wpAny_done (by kernel_rfl) ?_ _;go_wp2_with fail
      go_end0
      obtain⟨q1,q2⟩:=Zbc (x:=S.bA (11+(at_:Int)) nm) hlow hbw2 Hk.out Ho.out ho7 hg7 hb7;refine⟨rfl,?_,HbX.out.trans (Hb3.out.trans q2)⟩;rw[Hob.out,<- Yn,<- Hzs.out];exact q1
     .go_simp
      refine hK _ _ ?_;clear hK K
      (refine wpAny_take (i:=9) (v:=?vv23) rfl (by kernel_rfl) (by kernel_rfl) (by kernel_rfl) (λ _ _ _ h=>h) (Or.inl ⟨by rfl,?yy23⟩) ?zz23;(case yy23=>intro w;go_simp;try with_reducible rfl);go_simp)
      refine wpAny_ready (rs:=[4,10]) (by kernel_rfl) (by simp) ?_;refine Yj rfl (λ K hK=>?_) (Yj rfl (λ K hK=>?_) Yp)
      .go_simp
       refine hK _ _ ?_;clear hK K
       (refine wpAny_ready (rs:=[10]) (by kernel_rfl) (by simp) ?_;refine Yj rfl (λ K hK=>?_) Yp;go_simp;refine hK _ _ ?_;clear hK K)
       refine wpAny_ready (rs:=[11]) (by kernel_rfl) (by simp) ?_;refine Yj rfl (λ K hK=>?_) Yp;rw[if_pos (by simp[Yal])];refine Zd2 (.tmp 108) (.tmp 114) _ rfl base 74 Za1 Tryz.underlying68 rfl (by decide) (Zc (S.bA (11+(at_:Int)) nm)).toArray _ _ _ rfl Ho.out rfl rfl rfl (by simp[Y6,Zc]) (by simp only[maxLen];omega) (by omega) hbw2 ?_;intro v' w7 ho7 hg7 hb7 _;obtain⟨A8,c8,rfl⟩:=Zb ho7;have hk7:=(hg7.block p hlt (λ e=>Zbi Ho.out Hk.out (by decide) e.symm)).trans Hk.out;have f6:w7.frozen? ⟨p,6,none⟩=false:=Yan hk7 6;have d6:∃u,w7.cell? ⟨p,6,none⟩=some u:=⟨_,by rw[Yc hk7];rfl⟩
       obtain⟨u6,d6⟩:=d6;refine hK _ _ ?_;clear hK K;go_simp
       (refine wpAny_take (i:=12) (v:=?vv24) rfl (by kernel_rfl) (by kernel_rfl) (by kernel_rfl) (λ _ _ _ h=>h) (Or.inl ⟨by rfl,?yy24⟩) ?zz24;(case yy24=>intro w;go_simp;try with_reducible rfl);go_simp)
       (refine wpAny_take (i:=13) (v:=?vv25) rfl (by kernel_rfl) (by kernel_rfl) (by kernel_rfl) (λ _ _ _ h=>h) (Or.inl ⟨by rfl,?yy25⟩) ?zz25;(case yy25=>intro w;go_simp;try with_reducible rfl);go_simp)
       (refine wpAny_ready (rs:=[14]) (by kernel_rfl) (by simp) ?_;refine Yj rfl (λ K hK=>?_) Yp;go_simp;refine hK _ _ ?_;clear hK K)
       refine wpAny_done (by kernel_rfl) ?_ _;go_wp2_with fail
       go_end0
       obtain⟨q1,q2⟩:=Zbc (x:=S.bA (11+(at_:Int)) nm) hlow hbw2 Hk.out Ho.out ho7 hg7 hb7;refine⟨rfl,?_,HbX.out.trans (Hb3.out.trans q2)⟩;rw[Hob.out,<- Yn,<- Hzs.out];exact q1
      .go_simp
       refine hK _ _ ?_;clear hK K;have c6:(w3.alloc (Obj.cells (Zc (S.bA (11+(at_:Int)) nm)).toArray 74)).cell? ⟨p,6,none⟩=some (.slice A' zs.length c'):=by rw[Yc ((heap_alloc_old _ _ hlt).trans Hk.out)];rfl
       simp only[Zc,S.bA] at c6
       (refine wpAny_ready (rs:=[4]) (by kernel_rfl) (by simp) ?_;refine Yj rfl (λ K hK=>?_) Yp;go_simp;refine hK _ _ ?_;clear hK K)
       refine wpAny_ready (rs:=[11]) (by kernel_rfl) (by simp) ?_;refine Yj rfl (λ K hK=>?_) Yp;rw[if_pos (by simp[Yal])];refine Zd2 (.tmp 108) (.tmp 114) _ rfl base 74 Za1 Tryz.underlying68 rfl (by decide) (Zc (S.bA (11+(at_:Int)) nm)).toArray _ _ _ rfl Ho.out rfl rfl rfl (by simp[Y6,Zc]) (by simp only[maxLen];omega) (by omega) hbw2 ?_;intro v' w7 ho7 hg7 hb7 _;obtain⟨A8,c8,rfl⟩:=Zb ho7;have hk7:=(hg7.block p hlt (λ e=>Zbi Ho.out Hk.out (by decide) e.symm)).trans Hk.out;have f6:w7.frozen? ⟨p,6,none⟩=false:=Yan hk7 6;have d6:∃u,w7.cell? ⟨p,6,none⟩=some u:=⟨_,by rw[Yc hk7];rfl⟩
       obtain⟨u6,d6⟩:=d6;refine hK _ _ ?_;clear hK K;go_simp
       (refine wpAny_take (i:=12) (v:=?vv26) rfl (by kernel_rfl) (by kernel_rfl) (by kernel_rfl) (λ _ _ _ h=>h) (Or.inl ⟨by rfl,?yy26⟩) ?zz26;(case yy26=>intro w;go_simp;try with_reducible rfl);go_simp)
       (refine wpAny_take (i:=13) (v:=?vv27) rfl (by kernel_rfl) (by kernel_rfl) (by kernel_rfl) (λ _ _ _ h=>h) (Or.inl ⟨by rfl,?yy27⟩) ?zz27;(case yy27=>intro w;go_simp;try with_reducible rfl);go_simp)
       (refine wpAny_ready (rs:=[14]) (by kernel_rfl) (by simp) ?_;refine Yj rfl (λ K hK=>?_) Yp;go_simp;refine hK _ _ ?_;clear hK K)
       refine wpAny_done (by kernel_rfl) ?_ _;go_wp2_with fail
       go_end0
       obtain⟨q1,q2⟩:=Zbc (x:=S.bA (11+(at_:Int)) nm) hlow hbw2 Hk.out Ho.out ho7 hg7 hb7;refine⟨rfl,?_,HbX.out.trans (Hb3.out.trans q2)⟩;rw[Hob.out,<- Yn,<- Hzs.out];exact q1
    .have Hob:=Ya (show S.bOp h.fr h.r.locals 10 en nm N at_=[S.bLoad h.fr (11+(at_:Int)) 0] from rfl)
     have Hc:=Ya (Zum HC.out hso (by rw[hcz];omega) hO (11+(at_:Int)) 0 (by omega));clear hcon hloc;go_wp2_with fail
     refine Hc.out.mono ?_;rintro e w4 ⟨rfl,h3,h4⟩;go_wp2_with fail
     go_end0
     refine⟨rfl,?_,HbX.out.trans (HK.out.trans h4)⟩;rw[Hob.out,<- Yn];exact h3
