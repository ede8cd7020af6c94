/- Parts. -/
import Derived.Test.YtdeepoikgfaecaaGreatDoorZBSts
import Derived.Deep.RegionWith
import Derived.BigRegion
import Derived.BigQuiet
set_option linter.all false
set_option maxHeartbeats 2000000
open Go.Lib renaming hid->Ya,cell_of_heap->Yb,frozen_of_heap->Yao
open List renaming length_append->Yc,getElem?_eq_getElem->Yd,getElem?_eq_some_iff->Ye,flatMap_append->Ya7,flatMap_cons->Ybd
open Nat renaming le_refl->Yf,zero_add->Yae,lt_or_ge->Yb4
open Go.AllReady renaming cons->Yg,nil->Yi
open Go.RowKit.Below renaming refl->Yj,heap_setCell->Ya6
open Go.Value renaming oneCell'->Yac,ownBlock->Yaq
open Go.Region renaming wanted->Yan,ready->Yav,Mode->Ybq
open Array renaming getElem?_eq_none->Ybo,length_toList->Yby
namespace Go.Proofs.YtdeepoikgfaecaaGreatDoor
set_option maxRecDepth 100000
section
open Go.RowKit
section
variable {P:Program}{ops:Array Oper}{md:Ybq}{C:World->Prop}
def Z0b (md:Ybq)(ops:Array Oper)(n:Nat):Nat->Nat->Array Bool->Bool
 | 0,_,listed=>(Yav md ops listed).all fun j=>decide (n<=j)
 | f+1,k,listed=>(Yav md ops listed).contains k && Region.free md ops listed k && Z0b md ops n f (k+1) (listed.setIfInBounds k true)
def Zpe:Nat->Nat->Array Bool->Array Bool
 | 0,_,listed=>listed
 | f+1,k,listed=>Zpe f (k+1) (listed.setIfInBounds k true)
end
end
section
open Go.RowKit
structure CH where
 r:S.BR
 A:Option Addr
 c:Nat
 fr:Int
def Zf9 (h:CH)(v:Value)(lab:Int):Array Value:=#[.string h.r.name,.int .i64 h.r.params,.int .i64 h.r.locals,.bool h.r.behind,.slice h.A h.r.body.length h.c,.int .i64 h.fr,v,.int .i64 lab]
structure CAt (base p:Nat)(h:CH)(xs:List S.Item)(lab:Int)(w:World):Prop where
 low:base<=p
 at_:∃ v,w.heap[p]?=some (.cells (Zf9 h v lab) 183)/\w.ownsRow base 59 8 v xs.length (xs.flatMap Zb)
theorem CAt.lt {base p:Nat}{h:CH}{xs:List S.Item}{lab:Int}{w:World}(H:CAt base p h xs lab w):p<w.heap.size:=by
 obtain ⟨_,v,hb,_⟩:=H;rcases Yb4 p w.heap.size with h' | h'
 ·exact h'
 ·simp [Ybo h'] at hb
theorem CAt.keep {base p:Nat}{h:CH}{xs:List S.Item}{lab:Int}{w w':World}(H:CAt base p h xs lab w)(hb:Below w.heap.size w w'):CAt base p h xs lab w':=by
 have hlt:=H.lt;obtain ⟨h1,v,h2,h3⟩:=H;exact ⟨h1,v,(hb.block p hlt).trans h2,Zc h3 hb⟩
theorem Zx {w:World}{B:Nat}{e T:TypeId}{size:Nat}{v:Value}{n:Nat}{xs:List Value}{b:Nat}{cs:Array Value}{fr:Nat×Nat}(hown:w.ownsRow B e size v n xs)(hb:w.heap[b]?=some (.cells cs T fr))(hTe:T≠e):v.ownBlock≠some b:=by
 rcases hown.2 with ⟨rfl,_⟩ | ⟨g,cap,cur,rfl,_,hg,_⟩
 ·simp [Yaq]
 ·intro h
  simp only [Yaq,Option.some.injEq] at h;subst h;rw [hg] at hb;simp only [Option.some.injEq,Obj.cells.injEq] at hb;exact hTe hb.2.1.symm
def Z1z (w w':World):Prop:=∀ (k:Nat) (r:Array Value) (T:TypeId) (o:Nat×Nat),w.heap[k]?=some (.cells r T o)->T≠59->T≠183->w'.heap[k]?=some (.cells r T o)
structure CK (base:Nat)(w w':World):Prop where
 below:Below base w w'
 keep:Z1z w w'
theorem CK.size {base:Nat}{w w':World}(h:CK base w w'):w.heap.size<=w'.heap.size:=h.below.size
theorem CK.trans {base:Nat}{w w' w2:World}(h:CK base w w')(h2:CK base w' w2):CK base w w2:=⟨h.below.trans h2.below,fun k r T o hk h3 h4=>h2.keep k r T o (h.keep k r T o hk h3 h4) h3 h4⟩
theorem CK.refl (base:Nat)(w:World):CK base w w:=⟨Yj _ _,fun _ _ _ _ hk _ _=>hk⟩
theorem CK.of {base:Nat}{w w':World}(h:Below w.heap.size w w')(hb:base<=w.heap.size):CK base w w':=⟨h.mono hb,fun k r T o hk _ _=>by
 rcases Yb4 k w.heap.size with h' | h'
 ·exact (h.block k h').trans hk
 ·simp [Ybo h'] at hk⟩
def Zgj (base p:Nat)(h:CH)(xs ys:List S.Item)(lab:Int)(w:World)(e:Ending)(w':World):Prop:=e=.returned (.tuple #[])/\CAt base p h (xs++ys) lab w'/\CK base w w'
theorem Zaw {base p:Nat}{h:CH}{xs:List S.Item}{x:S.Item}{lab:Int}{w w2:World}{v v':Value}(hlow:base<=p)(hbw:base<=w.heap.size)(hk:w.heap[p]?=some (.cells (Zf9 h v lab) 183))(ho:w.ownsRow base 59 8 v xs.length (xs.flatMap Zb))
 (ho2:w2.ownsRow base 59 8 v' (xs.length+1) (xs.flatMap Zb++Zb x)) (hg:w.grownBy w2 v.ownBlock) (hb:Below base w w2):CAt base p h (xs++[x]) lab (w2.setCell ⟨p,6,none⟩ v')/\CK base w (w2.setCell ⟨p,6,none⟩ v'):=by
 have hne:=Zx ho hk (by decide);have hlt:p<w.heap.size:=by
  rcases Yb4 p w.heap.size with h' | h'
  ·exact h'
  ·simp [Ybo h'] at hk
 have hk2:w2.heap[p]?=some (.cells (Zf9 h v lab) 183):=(hg.block p hlt (fun e=>hne e.symm)).trans hk;have hk3:(w2.setCell ⟨p,6,none⟩ v').heap[p]?=some (.cells (Zf9 h v' lab) 183):=by
  rw [setCell_eq_setRow _ _ _ _ _ _ _ hk2];exact setRow_heap _ _ _ _ _ _ hk2
 have hn2:=Zx ho2 hk2 (by decide);refine ⟨⟨hlow,v',hk3,?_⟩,hb.setCell (p:=⟨p,6,none⟩) hlow _,fun k r T o hr h1 h2=>?_⟩
 ·rw [Yc,Ya7,List.flatMap_singleton]
  exact ho2.kept (row:=some p) ⟨rfl,rfl,rfl,by simp [World.setCell],fun k _ hk=>Ya6 _ _ _ _ (fun e=>hk (by simp [e]))⟩ (Or.inr hn2)
 ·have hkp:k≠p:=by
   rintro rfl;rw [hk] at hr;simp only [Option.some.injEq,Obj.cells.injEq] at hr;exact h2 hr.2.1.symm
  have hkl:k<w.heap.size:=by
   rcases Yb4 k w.heap.size with h' | h'
   ·exact h'
   ·simp [Ybo h'] at hr
  have hkv:=Zx ho hr h1;rw [Ya6 _ _ _ _ hkp];exact (hg.block k hkl (fun e=>hkv e.symm)).trans hr
section
variable {base p:Nat}{h:CH}{xs:List S.Item}{lab:Int}{w:World}(H:CAt base p h xs lab w)(hbw:base<=w.heap.size)(hl:xs.length<=100000000)
include H hbw hl
theorem Zhq (s:ByteArray):Calls Tryz.prog 155 #[.pointer (some ⟨p,0,none⟩),.string s] w (Zgj base p h xs [S.bL s] lab w):=by
 have hlt:=H.lt;obtain ⟨hlow,v,hk,ho⟩:=H;have c6:w.cell? ⟨p,6,none⟩=some v:=by rw [Yb hk];rfl
 have Hk:=Ya hk;have Ho:=Ya ho;obtain ⟨A',c',rfl⟩:=Za ho;clear hk ho;go_enter Tryz.func155,Tryz.ntmps155
 go_wp2_with (at_builtin;refine Zo rfl (.tmp 8) (.tmp 11) _ rfl base 59 Zz Tryz.underlying53 rfl (by decide) #[.int .i64 2,.int .i64 0,.int .i64 0,.int .i64 0,.int .i64 0,.int .i64 0,.string s,.int .u32 0] _ _ _ rfl Ho.out rfl rfl rfl (by simp [Yac]) (by simp only [maxLen];omega) (by omega) hbw ?_;intro v' w7 ho7 hg7 hb7 _;obtain ⟨A8,c8,rfl⟩:=Za ho7;have hk7:=(hg7.block p hlt (fun e=>Zx Ho.out Hk.out (by decide) e.symm)).trans Hk.out;have f6:w7.frozen? ⟨p,6,none⟩=false:=Yao hk7 6;have d6:∃ u,w7.cell? ⟨p,6,none⟩=some u:=⟨_,by rw [Yb hk7];rfl⟩;obtain ⟨u6,d6⟩:=d6)
 go_end0
 obtain ⟨q1,q2⟩:=Zaw (x:=S.bL s) hlow hbw Hk.out Ho.out ho7 hg7 hb7;exact ⟨rfl,q1,q2⟩
theorem Zpf (d:Int)(s:ByteArray):Calls Tryz.prog 192 #[.pointer (some ⟨p,0,none⟩),.int .i64 d,.string s] w (Zgj base p h xs [S.bJ d s] lab w):=by
 have hlt:=H.lt;obtain ⟨hlow,v,hk,ho⟩:=H;have c6:w.cell? ⟨p,6,none⟩=some v:=by rw [Yb hk];rfl
 have Hk:=Ya hk;have Ho:=Ya ho;obtain ⟨A',c',rfl⟩:=Za ho;clear hk ho;go_enter Tryz.func192,Tryz.ntmps192
 go_wp2_with (at_builtin;refine Zo rfl (.tmp 10) (.tmp 15) _ rfl base 59 Zz Tryz.underlying53 rfl (by decide) (Zb (S.bJ d s)).toArray _ _ _ rfl Ho.out rfl rfl rfl (by simp [Yac,Zb]) (by simp only [maxLen];omega) (by omega) hbw ?_;intro v' w7 ho7 hg7 hb7 _;obtain ⟨A8,c8,rfl⟩:=Za ho7;have hk7:=(hg7.block p hlt (fun e=>Zx Ho.out Hk.out (by decide) e.symm)).trans Hk.out;have f6:w7.frozen? ⟨p,6,none⟩=false:=Yao hk7 6;have d6:∃ u,w7.cell? ⟨p,6,none⟩=some u:=⟨_,by rw [Yb hk7];rfl⟩;obtain ⟨u6,d6⟩:=d6)
 go_end0
 obtain ⟨q1,q2⟩:=Zaw (x:=S.bJ d s) hlow hbw Hk.out Ho.out ho7 hg7 hb7;exact ⟨rfl,q1,q2⟩
theorem Zpg (a:Int)(s:ByteArray):Calls Tryz.prog 209 #[.pointer (some ⟨p,0,none⟩),.int .i64 a,.string s] w (Zgj base p h xs [S.bU a s] lab w):=by
 have hlt:=H.lt;obtain ⟨hlow,v,hk,ho⟩:=H;have c6:w.cell? ⟨p,6,none⟩=some v:=by rw [Yb hk];rfl
 have Hk:=Ya hk;have Ho:=Ya ho;obtain ⟨A',c',rfl⟩:=Za ho;clear hk ho;go_enter Tryz.func209,Tryz.ntmps209
 go_wp2_with (at_builtin;refine Zo rfl (.tmp 10) (.tmp 15) _ rfl base 59 Zz Tryz.underlying53 rfl (by decide) (Zb (S.bU a s)).toArray _ _ _ rfl Ho.out rfl rfl rfl (by simp [Yac,Zb]) (by simp only [maxLen];omega) (by omega) hbw ?_;intro v' w7 ho7 hg7 hb7 _;obtain ⟨A8,c8,rfl⟩:=Za ho7;have hk7:=(hg7.block p hlt (fun e=>Zx Ho.out Hk.out (by decide) e.symm)).trans Hk.out;have f6:w7.frozen? ⟨p,6,none⟩=false:=Yao hk7 6;have d6:∃ u,w7.cell? ⟨p,6,none⟩=some u:=⟨_,by rw [Yb hk7];rfl⟩;obtain ⟨u6,d6⟩:=d6)
 go_end0
 obtain ⟨q1,q2⟩:=Zaw (x:=S.bU a s) hlow hbw Hk.out Ho.out ho7 hg7 hb7;exact ⟨rfl,q1,q2⟩
theorem Zbb (op d a b imm:Int):Calls Tryz.prog 156 #[.pointer (some ⟨p,0,none⟩),.agg #[.int .i64 op,.int .i64 d,.int .i64 a,.int .i64 b,.int .i64 imm]] w (Zgj base p h xs [S.bI op d a b imm] lab w):=by
 have hbX:Below w.heap.size w (w.alloc (.cells #[.int .i64 op,.int .i64 d,.int .i64 a,.int .i64 b,.int .i64 imm] 57)):=(Yj _ _).alloc (Yf _) _;have hrX:=heap_alloc_new w (.cells #[.int .i64 op,.int .i64 d,.int .i64 a,.int .i64 b,.int .i64 imm] 57);have hzX:w.heap.size<(w.alloc (.cells #[.int .i64 op,.int .i64 d,.int .i64 a,.int .i64 b,.int .i64 imm] 57)).heap.size:=by simp
 have HbX:=Ya (CK.of hbX hbw);have H2:=H.keep hbX;clear H;go_enter Tryz.func156,Tryz.ntmps156
 go_upto_region 1 with fail
 refine wp_region_any (by kernel_rfl) ?_;generalize w.alloc (.cells #[.int .i64 op,.int .i64 d,.int .i64 a,.int .i64 b,.int .i64 imm] 57)=w2 at *;change wpAny _ _ _ _ _ _ _ (World.drew w2);have hdb:Below w2.heap.size w2 w2.drew:=⟨rfl,rfl,rfl,Yf _,fun _ _=>rfl⟩
 have H3:=H2.keep hdb;have hr3:=(hdb.block _ hzX).trans hrX;have hz3:w.heap.size<w2.drew.heap.size:=Nat.lt_of_lt_of_le hzX hdb.size;have Hb3:=Ya (HbX.out.trans (CK.of hdb (by have:=HbX.out.size;omega)));clear H2 hdb hrX hzX hbX HbX;generalize w2.drew=w3 at *;have e0:w3.cell? ⟨w.heap.size,0,none⟩=some (.int .i64 op):=by rw [Yb hr3];rfl
 have e1:w3.cell? ⟨w.heap.size,1,none⟩=some (.int .i64 d):=by rw [Yb hr3];rfl
 have e2:w3.cell? ⟨w.heap.size,2,none⟩=some (.int .i64 a):=by rw [Yb hr3];rfl
 have e3:w3.cell? ⟨w.heap.size,3,none⟩=some (.int .i64 b):=by rw [Yb hr3];rfl
 have e4:w3.cell? ⟨w.heap.size,4,none⟩=some (.int .i64 imm):=by rw [Yb hr3];rfl
 have hbw2:base<=w3.heap.size:=by have:=Hb3.out.size;omega
 have hlt:=H3.lt;obtain ⟨hlow,v,hk,ho⟩:=H3;have c6:w3.cell? ⟨p,6,none⟩=some v:=by rw [Yb hk];rfl
 have Hk:=Ya hk;have Ho:=Ya ho;obtain ⟨A',c',rfl⟩:=Za ho;clear hk ho hr3
 (refine wpAny_take (i:=0) (v:=?vv1) rfl (by kernel_rfl) (by kernel_rfl) (by kernel_rfl) (fun _ _ _ h=>h) (Or.inl ⟨by rfl,?yy1⟩) ?zz1;(case yy1=>intro w;go_simp;try with_reducible rfl);go_simp)
 (refine wpAny_take (i:=1) (v:=?vv2) rfl (by kernel_rfl) (by kernel_rfl) (by kernel_rfl) (fun _ _ _ h=>h) (Or.inl ⟨by rfl,?yy2⟩) ?zz2;(case yy2=>intro w;go_simp;try with_reducible rfl);go_simp)
 (refine wpAny_take (i:=2) (v:=?vv3) rfl (by kernel_rfl) (by kernel_rfl) (by kernel_rfl) (fun _ _ _ h=>h) (Or.inl ⟨by rfl,?yy3⟩) ?zz3;(case yy3=>intro w;go_simp;try with_reducible rfl);go_simp)
 (refine wpAny_take (i:=3) (v:=?vv4) rfl (by kernel_rfl) (by kernel_rfl) (by kernel_rfl) (fun _ _ _ h=>h) (Or.inl ⟨by rfl,?yy4⟩) ?zz4;(case yy4=>intro w;go_simp;try with_reducible rfl);go_simp)
 refine wpAny_ready (rs:=[4,5]) (by kernel_rfl) (by simp) ?_;refine Yg rfl (fun K hK=>?_) (Yg rfl (fun K hK=>?_) Yi)
 ·go_simp
  refine hK _ _ ?_;clear hK K
  (refine wpAny_ready (rs:=[5]) (by kernel_rfl) (by simp) ?_;refine Yg rfl (fun K hK=>?_) Yi;go_simp;refine hK _ _ ?_;clear hK K)
  (refine wpAny_ready (rs:=[6]) (by kernel_rfl) (by simp) ?_;refine Yg rfl (fun K hK=>?_) Yi;go_simp;refine hK _ _ ?_;clear hK K)
  (refine wpAny_ready (rs:=[7]) (by kernel_rfl) (by simp) ?_;refine Yg rfl (fun K hK=>?_) Yi;go_simp;refine hK _ _ ?_;clear hK K)
  refine wpAny_ready (rs:=[8]) (by kernel_rfl) (by simp) ?_;refine Yg rfl (fun K hK=>?_) Yi;rw [if_pos (by simp [Yan])];refine Zc9 (.tmp 8) (.tmp 11) _ rfl base 59 Zz Tryz.underlying53 rfl (by decide) (Zb (S.bI op d a b imm)).toArray _ _ _ rfl Ho.out rfl rfl rfl (by simp [Yac,Zb]) (by simp only [maxLen];omega) (by omega) hbw2 ?_;intro v' w7 ho7 hg7 hb7 _;obtain ⟨A8,c8,rfl⟩:=Za ho7;have hk7:=(hg7.block p hlt (fun e=>Zx Ho.out Hk.out (by decide) e.symm)).trans Hk.out;have f6:w7.frozen? ⟨p,6,none⟩=false:=Yao hk7 6;have d6:∃ u,w7.cell? ⟨p,6,none⟩=some u:=⟨_,by rw [Yb hk7];rfl⟩
  obtain ⟨u6,d6⟩:=d6;refine hK _ _ ?_;clear hK K;go_simp
  (refine wpAny_take (i:=9) (v:=?vv5) rfl (by kernel_rfl) (by kernel_rfl) (by kernel_rfl) (fun _ _ _ h=>h) (Or.inl ⟨by rfl,?yy5⟩) ?zz5;(case yy5=>intro w;go_simp;try with_reducible rfl);go_simp)
  (refine wpAny_take (i:=10) (v:=?vv6) rfl (by kernel_rfl) (by kernel_rfl) (by kernel_rfl) (fun _ _ _ h=>h) (Or.inl ⟨by rfl,?yy6⟩) ?zz6;(case yy6=>intro w;go_simp;try with_reducible rfl);go_simp)
  (refine wpAny_ready (rs:=[11]) (by kernel_rfl) (by simp) ?_;refine Yg rfl (fun K hK=>?_) Yi;go_simp;refine hK _ _ ?_;clear hK K)
  refine wpAny_done (by kernel_rfl) ?_ _
  go_end0
  obtain ⟨q1,q2⟩:=Zaw (x:=S.bI op d a b imm) hlow hbw2 Hk.out Ho.out ho7 hg7 hb7;exact ⟨rfl,q1,Hb3.out.trans q2⟩
 ·go_simp
  refine hK _ _ ?_;clear hK K;refine wpAny_ready (rs:=[4,6]) (by kernel_rfl) (by simp) ?_;refine Yg rfl (fun K hK=>?_) (Yg rfl (fun K hK=>?_) Yi)
  ·go_simp
   refine hK _ _ ?_;clear hK K
   (refine wpAny_ready (rs:=[6]) (by kernel_rfl) (by simp) ?_;refine Yg rfl (fun K hK=>?_) Yi;go_simp;refine hK _ _ ?_;clear hK K)
   (refine wpAny_ready (rs:=[7]) (by kernel_rfl) (by simp) ?_;refine Yg rfl (fun K hK=>?_) Yi;go_simp;refine hK _ _ ?_;clear hK K)
   refine wpAny_ready (rs:=[8]) (by kernel_rfl) (by simp) ?_;refine Yg rfl (fun K hK=>?_) Yi;rw [if_pos (by simp [Yan])];refine Zc9 (.tmp 8) (.tmp 11) _ rfl base 59 Zz Tryz.underlying53 rfl (by decide) (Zb (S.bI op d a b imm)).toArray _ _ _ rfl Ho.out rfl rfl rfl (by simp [Yac,Zb]) (by simp only [maxLen];omega) (by omega) hbw2 ?_;intro v' w7 ho7 hg7 hb7 _;obtain ⟨A8,c8,rfl⟩:=Za ho7;have hk7:=(hg7.block p hlt (fun e=>Zx Ho.out Hk.out (by decide) e.symm)).trans Hk.out;have f6:w7.frozen? ⟨p,6,none⟩=false:=Yao hk7 6;have d6:∃ u,w7.cell? ⟨p,6,none⟩=some u:=⟨_,by rw [Yb hk7];rfl⟩
   obtain ⟨u6,d6⟩:=d6;refine hK _ _ ?_;clear hK K;go_simp
   (refine wpAny_take (i:=9) (v:=?vv7) rfl (by kernel_rfl) (by kernel_rfl) (by kernel_rfl) (fun _ _ _ h=>h) (Or.inl ⟨by rfl,?yy7⟩) ?zz7;(case yy7=>intro w;go_simp;try with_reducible rfl);go_simp)
   (refine wpAny_take (i:=10) (v:=?vv8) rfl (by kernel_rfl) (by kernel_rfl) (by kernel_rfl) (fun _ _ _ h=>h) (Or.inl ⟨by rfl,?yy8⟩) ?zz8;(case yy8=>intro w;go_simp;try with_reducible rfl);go_simp)
   (refine wpAny_ready (rs:=[11]) (by kernel_rfl) (by simp) ?_;refine Yg rfl (fun K hK=>?_) Yi;go_simp;refine hK _ _ ?_;clear hK K)
   refine wpAny_done (by kernel_rfl) ?_ _
   go_end0
   obtain ⟨q1,q2⟩:=Zaw (x:=S.bI op d a b imm) hlow hbw2 Hk.out Ho.out ho7 hg7 hb7;exact ⟨rfl,q1,Hb3.out.trans q2⟩
  ·go_simp
   refine hK _ _ ?_;clear hK K;refine wpAny_ready (rs:=[4,7]) (by kernel_rfl) (by simp) ?_;refine Yg rfl (fun K hK=>?_) (Yg rfl (fun K hK=>?_) Yi)
   ·go_simp
    refine hK _ _ ?_;clear hK K
    (refine wpAny_ready (rs:=[7]) (by kernel_rfl) (by simp) ?_;refine Yg rfl (fun K hK=>?_) Yi;go_simp;refine hK _ _ ?_;clear hK K)
    refine wpAny_ready (rs:=[8]) (by kernel_rfl) (by simp) ?_;refine Yg rfl (fun K hK=>?_) Yi;rw [if_pos (by simp [Yan])];refine Zc9 (.tmp 8) (.tmp 11) _ rfl base 59 Zz Tryz.underlying53 rfl (by decide) (Zb (S.bI op d a b imm)).toArray _ _ _ rfl Ho.out rfl rfl rfl (by simp [Yac,Zb]) (by simp only [maxLen];omega) (by omega) hbw2 ?_;intro v' w7 ho7 hg7 hb7 _;obtain ⟨A8,c8,rfl⟩:=Za ho7;have hk7:=(hg7.block p hlt (fun e=>Zx Ho.out Hk.out (by decide) e.symm)).trans Hk.out;have f6:w7.frozen? ⟨p,6,none⟩=false:=Yao hk7 6;have d6:∃ u,w7.cell? ⟨p,6,none⟩=some u:=⟨_,by rw [Yb hk7];rfl⟩
    obtain ⟨u6,d6⟩:=d6;refine hK _ _ ?_;clear hK K;go_simp
    (refine wpAny_take (i:=9) (v:=?vv9) rfl (by kernel_rfl) (by kernel_rfl) (by kernel_rfl) (fun _ _ _ h=>h) (Or.inl ⟨by rfl,?yy9⟩) ?zz9;(case yy9=>intro w;go_simp;try with_reducible rfl);go_simp)
    (refine wpAny_take (i:=10) (v:=?vv10) rfl (by kernel_rfl) (by kernel_rfl) (by kernel_rfl) (fun _ _ _ h=>h) (Or.inl ⟨by rfl,?yy10⟩) ?zz10;(case yy10=>intro w;go_simp;try with_reducible rfl);go_simp)
    (refine wpAny_ready (rs:=[11]) (by kernel_rfl) (by simp) ?_;refine Yg rfl (fun K hK=>?_) Yi;go_simp;refine hK _ _ ?_;clear hK K)
    refine wpAny_done (by kernel_rfl) ?_ _
    go_end0
    obtain ⟨q1,q2⟩:=Zaw (x:=S.bI op d a b imm) hlow hbw2 Hk.out Ho.out ho7 hg7 hb7;exact ⟨rfl,q1,Hb3.out.trans q2⟩
   ·go_simp
    refine hK _ _ ?_;clear hK K;have c6:(w3.alloc (Obj.cells (Zb (S.bI op d a b imm)).toArray 59)).cell? ⟨p,6,none⟩=some (.slice A' xs.length c'):=by rw [Yb ((heap_alloc_old _ _ hlt).trans Hk.out)];rfl
    simp only [Zb,S.bI] at c6
    (refine wpAny_ready (rs:=[4]) (by kernel_rfl) (by simp) ?_;refine Yg rfl (fun K hK=>?_) Yi;go_simp;refine hK _ _ ?_;clear hK K)
    refine wpAny_ready (rs:=[8]) (by kernel_rfl) (by simp) ?_;refine Yg rfl (fun K hK=>?_) Yi;rw [if_pos (by simp [Yan])];refine Zc9 (.tmp 8) (.tmp 11) _ rfl base 59 Zz Tryz.underlying53 rfl (by decide) (Zb (S.bI op d a b imm)).toArray _ _ _ rfl Ho.out rfl rfl rfl (by simp [Yac,Zb]) (by simp only [maxLen];omega) (by omega) hbw2 ?_;intro v' w7 ho7 hg7 hb7 _;obtain ⟨A8,c8,rfl⟩:=Za ho7;have hk7:=(hg7.block p hlt (fun e=>Zx Ho.out Hk.out (by decide) e.symm)).trans Hk.out;have f6:w7.frozen? ⟨p,6,none⟩=false:=Yao hk7 6;have d6:∃ u,w7.cell? ⟨p,6,none⟩=some u:=⟨_,by rw [Yb hk7];rfl⟩
    obtain ⟨u6,d6⟩:=d6;refine hK _ _ ?_;clear hK K;go_simp
    (refine wpAny_take (i:=9) (v:=?vv11) rfl (by kernel_rfl) (by kernel_rfl) (by kernel_rfl) (fun _ _ _ h=>h) (Or.inl ⟨by rfl,?yy11⟩) ?zz11;(case yy11=>intro w;go_simp;try with_reducible rfl);go_simp)
    (refine wpAny_take (i:=10) (v:=?vv12) rfl (by kernel_rfl) (by kernel_rfl) (by kernel_rfl) (fun _ _ _ h=>h) (Or.inl ⟨by rfl,?yy12⟩) ?zz12;(case yy12=>intro w;go_simp;try with_reducible rfl);go_simp)
    (refine wpAny_ready (rs:=[11]) (by kernel_rfl) (by simp) ?_;refine Yg rfl (fun K hK=>?_) Yi;go_simp;refine hK _ _ ?_;clear hK K)
    refine wpAny_done (by kernel_rfl) ?_ _
    go_end0
    obtain ⟨q1,q2⟩:=Zaw (x:=S.bI op d a b imm) hlow hbw2 Hk.out Ho.out ho7 hg7 hb7;exact ⟨rfl,q1,Hb3.out.trans q2⟩
end
end
section
open Go.RowKit
theorem Zkb {w:World}{base:Nat}{e:TypeId}{size n c:Nat}{A:Option Addr}{xs:List Value}(h:w.ownsRow base e size (.slice A n c) n xs):A=none->n=0:=by
 intro hA;rcases h.2 with ⟨_,h1⟩ | ⟨g,cap,cur,e1,_⟩
 ·exact h1
 ·rw [hA] at e1
  cases e1
theorem Zc0 {w:World}{base:Nat}{e:TypeId}{size n c:Nat}{A:Option Addr}{xs:List Value}(h:w.ownsRow base e size (.slice A n c) n xs):Reads w w.heap.size A xs:=fun hp=>by
 rcases h.2 with ⟨_,h1⟩ | ⟨g,cap,cur,e1,hb,hg,_,_,_,ht⟩
 ·have:=h.1
  rw [h1,Nat.zero_mul] at this;omega
 ·cases e1
  refine ⟨g,0,rfl,(Array.getElem?_eq_some_iff.1 hg).1,fun i x hx=>?_⟩;rw [Zea hg,Yae];rw [<- ht] at hx;have hlt:i<n*size:=by
   have h2:=(Ye.1 hx).1;rw [List.length_take] at h2;omega
  rw [List.getElem?_take_of_lt hlt,Array.getElem?_toList] at hx;exact hx
theorem Zog {w:World}{base:Nat}{e:TypeId}{size n:Nat}{cs:Array Value}{xs:List Value}(hb:base<=w.heap.size)(hs:cs.size=n*size)(hx:cs.toList=xs)(hn:n<=maxLen):(w.alloc (.cells cs e)).ownsRow base e size (.slice (some ⟨w.heap.size,0,none⟩) n n) n xs :=
 ⟨by rw [<- hx,Yby,hs],.inr ⟨w.heap.size,n,cs,rfl,hb,heap_alloc_new w _,Yf _,hn,hs,by rw [hx,List.take_of_length_le];rw [<- hx,Yby,hs];exact Yf _⟩⟩
theorem Zs9 (n:Int)(w:World)(h0:0<=n)(h1:n<=4294967295):Calls Tryz.prog 65 #[.int .i64 n] w fun e w'=>e=.returned (.agg #[.int .i64 8,.int .i64 0,.int .i64 0,.int .i64 0,.int .i64 0,.int .i64 0,.string ⟨#[]⟩,.int .u32 n])/\Below w.heap.size w w':=by
 have hn:n%4294967296=n:=by omega
 have hw:IntKind.u32.wrap n=n:=by
  first
   | exact IntWalk.u32_in n ⟨h0,by omega⟩
   | (unfold IntKind.wrap;simp;omega)
 go_enter Tryz.func65,Tryz.ntmps65
 go_wp2_with fail
 refine bodyPost_ret (v:=.agg #[.int .i64 8,.int .i64 0,.int .i64 0,.int .i64 0,.int .i64 0,.int .i64 0,.string ⟨#[]⟩,.int .u32 n]) (by simp [results,Tryz.results65,go_sem,hn]) rfl ⟨rfl,?_⟩;exact (Yj _ _).alloc (Yf _) _
theorem Zta (A:Option Addr)(c:Nat)(l:List Int)(w:World)(hl:Reads w w.heap.size A (l.map (Value.int .u32)))(hn:l.length<=1000000) :
 Calls Tryz.prog 66 #[.slice A l.length c] w fun e w'=>∃ A' c',e=.returned (.slice A' l.length c')/\w'.ownsRow w.heap.size 59 8 (.slice A' l.length c') l.length ((l.map S.bW).flatMap Zb)/\Below w.heap.size w w':=by
 obtain ⟨N,hN⟩:∃ N:Nat,N=l.length:=⟨_,rfl⟩
 rw [<- hN] at hn ⊢;have HN:=Ya hN;have Hl:=Ya hl;clear hN hl;go_enter Tryz.func66,Tryz.ntmps66
 go_wp2_with fail
 go_loopw [3,4] (fun v3 v4 wl=>∃ k:Nat,k<=N/\v4=.int .i64 k/\(∃ A' c',v3=.slice A' k c'/\Hid (wl.ownsRow w.heap.size 59 8 (.slice A' k c') k (((l.take k).map S.bW).flatMap Zb)))/\Hid (Below w.heap.size w wl)) (fun _ v4 _=>N-(intOf v4).toNat)
 case atStart=>exact ⟨0,by omega,rfl,⟨none,0,rfl,Ya (World.ownsRow_nil _ _ _ _)⟩,Ya (Yj _ _)⟩
 case round =>
  obtain ⟨k,hk,rfl,⟨A',c',rfl,HO⟩,HB⟩:=hrel;by_cases hlt:k<N
  ·have hkl:k<l.length:=by rw [<- HN.out];exact hlt
   obtain ⟨b,off,hAe,hbB,hc⟩:=(Hl.out.below HB.out) (by rw [List.length_map];omega)
   have q0:=hc k (.int .u32 l[k]) (by rw [List.getElem?_map,Yd hkl];rfl);subst hAe;have Htk:=Ya (show l.take (k+1)=l.take k++[l[k]] from by rw [List.take_add_one,Yd hkl];rfl);have hzr:=HB.out.size;obtain ⟨x,hx⟩:=Yx l[k];rw [<- hx] at q0 Htk;clear hc hx hkl;go_wp2_with (at_builtin;refine Zo rfl (.tmp 11) (.tmp 17) _ rfl w.heap.size 59 Zz Tryz.underlying53 rfl (by decide) (Zb (S.bW x)).toArray _ _ _ rfl HO.out rfl rfl rfl (by simp [Yac,Zb]) (by simp only [maxLen];omega) (by omega) hzr ?_;intro v' w7 ho7 hg7 hb7 _;obtain ⟨A8,c8,rfl⟩:=Za ho7)
   go_roundw
   case rel =>
    refine ⟨k+1,by omega,by go_num,⟨A8,c8,rfl,Ya ?_⟩,Ya (HB.out.trans hb7)⟩;rw [Htk.out,List.map_append,Ya7]
    simpa using ho7
   case measure=>simp [intOf];omega
  ·have hkN:k=N:=by omega
   subst hkN;have ht:l.take k=l:=by rw [HN.out,List.take_length]
   rw [ht] at HO;go_wp2_with fail
   go_ret
   exact ⟨A',c',rfl,HO.out,HB.out⟩
end
section
open Go.RowKit
def ReadsP (w:World)(B:Nat)(A:Option Addr)(L:List (ByteArray×Int)):Prop :=
 0<L.length->∃ b off,A=some ⟨b,off,none⟩/\b<B/\∀ i p,L[i]?=some p->w.cell? ⟨b,off+i*2,none⟩=some (.string p.1)/\w.cell? ⟨b,off+i*2+1,none⟩=some (.int .i64 p.2)
theorem ReadsP.below {w w':World}{B:Nat}{A:Option Addr}{L:List (ByteArray×Int)}(h:ReadsP w B A L)(hb:Below B w w'):ReadsP w' B A L:=fun hp=>by
 obtain ⟨b,off,e,hbB,hc⟩:=h hp;exact ⟨b,off,e,hbB,fun i p hx=>⟨(hb.cell (p:=⟨b,off+i*2,none⟩) hbB).trans (hc i p hx).1,(hb.cell (p:=⟨b,off+i*2+1,none⟩) hbB).trans (hc i p hx).2⟩⟩
theorem Zv3 (L:List (ByteArray×Int))(i:Nat)(p:ByteArray×Int)(h:L[i]?=some p):(L.flatMap Zaf)[i*2]?=some (.string p.1)/\(L.flatMap Zaf)[i*2+1]?=some (.int .i64 p.2):=by
 induction L generalizing i with
 | nil=>simp at h
 | cons q L ih =>
  cases i with
  | zero =>
   simp only [List.getElem?_cons_zero,Option.some.injEq] at h;subst h;simp [Zaf]
  | succ i =>
   have h1:=ih i (by simpa using h);have e1:(i+1)*2=i*2+1+1:=by omega
   rw [Ybd,e1]
   simpa [Zaf] using h1
theorem Zv4 (L:List (ByteArray×Int)):(L.flatMap Zaf).length=L.length*2:=by
 induction L with
 | nil=>rfl
 | cons q L ih=>rw [Ybd,Yc,ih];simp [Zaf];omega
theorem ReadsP.of_own {w:World}{base:Nat}{e:TypeId}{A:Option Addr}{m c n:Nat}{L:List (ByteArray×Int)}(h:w.ownsRow base e 2 (.slice A m c) n (L.flatMap Zaf)):ReadsP w w.heap.size A L:=fun hp=>by
 have hl:(L.flatMap Zaf).length=n*2:=h.1;rw [Zv4] at hl;obtain ⟨g,rfl,hg1,hg2,hg3,hg4,_⟩:=Zau h (by omega);refine ⟨g,0,rfl,hg2,fun i p hx=>?_⟩;have hi:=(Ye.1 hx).1;obtain ⟨f1,f2⟩:=Zv3 L i p hx;refine ⟨?_,?_⟩
 ·rw [Yae,hg4 _ (by omega),f1]
 ·rw [Yae,hg4 _ (by omega),f2]
theorem ReadsP.at_ {w:World}{B:Nat}{A:Option Addr}{L:List (ByteArray×Int)}(h:ReadsP w B A L){k:Nat}(hk:k<L.length) :
 ∃ b off s n,A=some ⟨b,off,none⟩/\b<B/\L[k]?=some (s,n)/\w.cell? ⟨b,off+k*2,none⟩=some (.string s)/\w.cell? ⟨b,off+k*2+1,none⟩=some (.int .i64 n):=by
 obtain ⟨b,off,e,hb,hc⟩:=h (by omega);obtain ⟨h1,h2⟩:=hc k L[k] (Yd hk);exact ⟨b,off,_,_,e,hb,Yd hk,h1,h2⟩
theorem Ztb {L:List (ByteArray×Int)}{k:Nat}{n s:ByteArray}{v:Int}(h:L[k]?=some (n,v)):S.findP (L.drop k) s=if n=s then some v else S.findP (L.drop (k+1)) s:=by
 have hk:=(Ye.1 h).1;have he:L[k]=(n,v):=(Ye.1 h).2;rw [List.drop_eq_getElem_cons hk,he,S.findP]
def Zv5 (L:List (ByteArray×Int))(s:ByteArray)(w:World)(e:Ending)(w':World):Prop :=
 e=.returned (.tuple #[.int .i64 ((S.findP L s).getD 0),.bool (S.findP L s).isSome])/\Below w.heap.size w w'
theorem Ztc (vw:Value)(Aw Ap:Option Addr)(nw cw cp:Nat)(L:List (ByteArray×Int))(s:ByteArray)(w:World)(hP:ReadsP w w.heap.size Ap L)(hl:L.length<=1048576) :
 Calls Tryz.prog 82 #[.agg #[.slice Aw nw cw,.slice Ap L.length cp],.string s] w (Zv5 L s w):=by
 go_enter Tryz.func82,Tryz.ntmps82
 go_wp2_with fail
 go_loopw [11] (fun i wr=>∃ k:Nat,k<=L.length/\i=.int .i64 k/\S.findP L s=S.findP (L.drop k) s/\Below w.heap.size w wr) (fun i _=>L.length-(intOf i).toNat)
 case atStart=>exact ⟨0,by omega,rfl,rfl,(Yj _ _).alloc (Yf _) _⟩
 case round =>
  obtain ⟨k,hk,rfl,hf,hbk⟩:=hrel;have Hf:=Ya hf;have hzk:=hbk.size;clear hf;by_cases hlt:k<L.length
  ·obtain ⟨b,off,n,v,rfl,hb,hx,hc0,hc1⟩:=(hP.below hbk).at_ hlt
   have hd:=Ya (Ztb (s:=s) hx);clear hx;have g0:b<wr.heap.size:=by omega
   by_cases hs:n=s
   ·have ds:=Zze hs
    have Hs:=Ya hs;clear hs;go_wp2_with fail
    go_ret2
    refine ⟨?_,hbk.alloc (by omega) _⟩;rw [Hf.out,hd.out,if_pos Hs.out];rfl
   ·have ds:=Zzf hs
    have Hs:=Ya hs;clear hs;go_wp2_with fail
    go_roundw
    case rel=>exact ⟨k+1,by omega,by go_num,by rw [Hf.out,hd.out,if_neg Hs.out],hbk.alloc (by omega) _⟩
    case measure=>simp [intOf];omega
  ·have hke:k=L.length:=by omega
   subst hke;go_wp2_with fail
   go_ret2
   refine ⟨?_,hbk⟩;rw [Hf.out,List.drop_length];rfl
end
section
open Go.RowKit
section
variable {I:S.Img}(hI:I.Ok){i:Nat}(h0:I.i0<=i)(h1:i<I.i1)
include hI h0 h1
theorem Zyq {V:S.Vw}{s:ByteArray}{w:Int}(hx:I.xs[i]?=some ⟨1,⟨36,0,0,0,0⟩,s,w⟩){m:S.Mach}(hm:S.On I m V (I.adr i)):S.Off I (m.steps_ 1) V (V.reg 0)/\(m.steps_ 1).place=I.adr i:=by
 obtain ⟨hw,hg,hn⟩:=Z5 hI h0 h1 hx;have e1:=hm.reg 0 (by decide) (by decide) (by decide);have ha':m.act ⟨36,0,0,0,0⟩=({ m with state:=1,code:=V.reg 0 },m.place,0):=by
  unfold S.Mach.act;simp only [e1];rw [if_neg (by decide),if_neg (by decide),if_neg (by decide),if_neg (by decide),if_neg (by decide),if_neg (by decide),if_neg (by decide),if_neg (by decide),if_neg (by decide),if_neg (by decide)]
 obtain ⟨hs,hp1⟩:=Zr hI hm h0 h1 (j:=0) (y:=⟨36,0,0,0,0⟩) (by rw [hw];rfl) (by simp) hg (by rw [ha']);have hk:=Znr hm.ok (x:=⟨36,0,0,0,0⟩) (Int.le_refl _);rw [ha'] at hk;rw [Zcv,hs,ha'];have l1:=Zci hI h0;have l2:=Zci hI (i:=i+1) (j:=I.i1) h1;have hp:=hm.place;exact ⟨⟨placed hk.1 hk.2,rfl,rfl,hm.len,hm.code,⟨by show I.adr I.i0<=m.place;omega,by show m.place<I.adr I.i1;omega⟩,hm.reg,hm.mem,hm.inp,hm.out⟩,hp⟩
end
structure S.az (I:S.Img)(m:S.Mach)(st:S.Vw):Prop where
 ok:m.Ok
 len:(m.mem.length:Int)=I.size
 code:I.In m.mem
 reg:∀ j,S.visB j=true->m.rd j=st.reg j
 mem:∀ a,0<=a->a<I.size->¬ I.stk a->m.mv a=st.mem a
theorem Ztd {j:Int}(h:S.visB j=true):0<=j/\j<=31/\j≠25:=by
 unfold S.visB at h;have:=of_decide_eq_true h;omega
theorem Zph {I:S.Img}{m:S.Mach}{V st:S.Vw}{c:Int}(h:S.Off I m V c)(hm:S.Mt I V st):S.az I m st :=
 ⟨h.ok,h.len,h.code,fun j hj=>by
  obtain ⟨h1,h2,h3⟩:=Ztd hj;rw [h.reg j h1 h2 h3];exact hm.vis j hj,fun a h1 h2 h3=>by rw [h.mem a h1 h2];exact hm.mem a h1 h2 h3⟩
section
variable {gw sw:List Int}{F:List Int}{size:Int}(hI:∀ b,(S.aa b gw sw F size).Ok)
include hI
structure S.a8 (gw sw F:List Int)(size:Int)(m:S.Mach)(name:ByteArray):Prop where
 ok:m.Ok
 run:m.state=0
 len:(m.mem.length:Int)=size
 code:(S.aa true gw sw F size).In m.mem
 place:m.place=(S.aa true gw sw F size).lab name
 r28:m.rd 28=1056
 r31:m.rd 31=(S.aa true gw sw F size).lab S.kStub
theorem Zte {m:S.Mach}{name:ByteArray}(h:S.a8 gw sw F size m name):S.On (S.aa true gw sw F size) m (S.viewOf m) ((S.aa true gw sw F size).lab name) :=
 ⟨h.ok,h.run,h.len,h.code,h.place,fun _ _ _ _=>rfl,fun _ _ _=>rfl,rfl,rfl⟩
theorem Ztf {m:S.Mach}{name:ByteArray}(h:S.a8 gw sw F size m name):S.On (S.aa false gw sw F size) m (S.viewOf m) ((S.aa false gw sw F size).lab name) :=
 ⟨h.ok,h.run,h.len,fun i h0 h1=>h.code i (Nat.le_trans (show (S.aa true gw sw F size).i0<=(S.aa false gw sw F size).i0 from by show 2+gw.length+sw.length<=gw.length+sw.length+8;omega) h0) h1,h.place,fun _ _ _ _=>rfl,fun _ _ _=>rfl,rfl,rfl⟩
theorem Zfx:0<=(S.aa true gw sw F size).lab S.kStub/\(S.aa true gw sw F size).lab S.kStub<size:=by
 have hl:=(Zv (hI true)).2.2.1;have hs:=(hI true).size;have h8:=(Zv (hI true)).2.2.2.2.2.2;refine ⟨by omega,?_⟩;have hle:=Zci (hI true) (i:=2+gw.length+sw.length+6) (j:=(S.aa true gw sw F size).xs.length) (by
  have:=(hI true).i01;have h1:=(hI true).i1l;have h2:(S.aa true gw sw F size).i1=gw.length+sw.length+8+S.mid.length:=rfl;omega)
 have h3:(S.aa true gw sw F size).size=size:=rfl;omega
theorem Ztg {m:S.Mach}{V:S.Vw}(h:S.On (S.aa true gw sw F size) m V ((S.aa true gw sw F size).lab S.kStub)):S.Off (S.aa true gw sw F size) (m.steps_ 1) V (V.reg 0)/\(m.steps_ 1).place=(S.aa true gw sw F size).lab S.kStub:=by
 have hl:=(Zv (hI true)).2.2.1;have h4:=(Zv (hI true)).2.2.2.2.1;have hx:(S.aa true gw sw F size).xs[2+gw.length+sw.length+2]?=some ⟨1,⟨36,0,0,0,0⟩,S.bNo,0⟩:=Zaz (Znm (k:=2));rw [hl,<- h4] at h ⊢;exact Zyq (hI true) (by show 2+gw.length+sw.length<=_;omega) (by show _<gw.length+sw.length+8+S.mid.length;omega) hx h
theorem Zv6 {m:S.Mach}{name:ByteArray}(hm:S.a8 gw sw F size m name){d:Int}{R:Int->S.BO->Nat->Prop}(hd:d<=256)(hr:S.Real (S.aa true gw sw F size) name false (S.viewOf m) d R){N:Nat}{P:S.Vw->Prop}
 (hR:∀ ret o k,R ret o k->∃ st',(o=.ret st'\/o=.left ((S.aa true gw sw F size).lab S.kStub) st')/\k+1<=N/\P st') :
 ∃ st',P st'/\S.az (S.aa true gw sw F size) (m.steps_ N) st'/\(m.steps_ N).state=1/\(m.steps_ N).place=(S.aa true gw sw F size).lab S.kStub/\(m.steps_ N).rd 28=1056:=by
 obtain ⟨s0,s1⟩:=Zfx hI;obtain ⟨o,k,hRo,hdone⟩:=hr (S.viewOf m) 1056 ((S.aa true gw sw F size).lab S.kStub) (S.Mt.refl_ _) hm.r28 hm.r31 s0 s1 (Int.le_refl _) (by show 1056+d<=1312;omega);obtain ⟨st',ho,hk,hP⟩:=hR _ _ _ hRo;have key:∃ V',S.Go (S.aa true gw sw F size) (S.viewOf m) ((S.aa true gw sw F size).lab name) k V' ((S.aa true gw sw F size).lab S.kStub)/\S.Mt (S.aa true gw sw F size) V' st'/\V'.reg 28=1056:=by
  rcases ho with rfl | rfl
  ·obtain ⟨V',g,hmt,h28,_⟩:=hdone
   exact ⟨V',g,hmt,h28⟩
  ·obtain ⟨V',g,hmt,h28,_⟩:=hdone
   exact ⟨V',g,hmt,h28⟩
 obtain ⟨V',g,hmt,h28⟩:=key;obtain ⟨j,hj,hon⟩:=g m (Zte hI hm);obtain ⟨hoff,hpl⟩:=Ztg hI hon;have e:m.steps_ N=(m.steps_ j).steps_ 1:=by
  obtain ⟨x,rfl⟩:∃ x,N=j+1+x:=⟨N-j-1,by omega⟩
  rw [Zb2,Zb2,Zer (by rw [hoff.end_];decide)]
 rw [e];exact ⟨st',hP,Zph hoff hmt,hoff.end_,hpl,by rw [hoff.reg 28 (by decide) (by decide) (by decide)];exact h28⟩
theorem Zv7 {m:S.Mach}{name:ByteArray}(hm:S.a8 gw sw F size m name){d:Int}{R R0:Int->S.BO->Nat->Prop}(hd:d<=256)(hr:S.Real (S.aa true gw sw F size) name false (S.viewOf m) d R)(hr0:S.Real (S.aa false gw sw F size) name false (S.viewOf m) d R0){N:Nat}{c:Int}
 (hR:∀ ret o k,R ret o k->∃ st',o=.halt c st'/\k<=N) (hR0:∀ ret o k,R0 ret o k->∃ c st',o=.halt c st'/\k<=N) :
 (m.steps_ N).state=1/\(m.steps_ N).code=c/\(m.steps_ N).place≠(S.aa true gw sw F size).lab S.kStub:=by
 obtain ⟨s0,s1⟩:=Zfx hI;obtain ⟨o,k,hRo,hdone⟩:=hr (S.viewOf m) 1056 ((S.aa true gw sw F size).lab S.kStub) (S.Mt.refl_ _) hm.r28 hm.r31 s0 s1 (Int.le_refl _) (by show 1056+d<=1312;omega);obtain ⟨o0,k0,hRo0,hdone0⟩:=hr0 (S.viewOf m) 1056 ((S.aa true gw sw F size).lab S.kStub) (S.Mt.refl_ _) hm.r28 hm.r31 s0 s1 (Int.le_refl _) (by show 1056+d<=1312;omega);obtain ⟨st',rfl,hk⟩:=hR _ _ _ hRo;obtain ⟨c0,st0,rfl,hk0⟩:=hR0 _ _ _ hRo0;obtain ⟨V',g,hmt⟩:=hdone;obtain ⟨V0,g0,hmt0⟩:=hdone0;have off:=Zkc g hk (Zte hI hm);have off0:=Zkc g0 hk0 (Ztf hI hm);refine ⟨off.end_,off.codeIs,fun e=>?_⟩;have hp:=off0.place.1;have h8:=(Zv (hI false)).2.2.2.2.2.2;have hl:=(Zv (hI true)).2.2.1;have hi0:(S.aa false gw sw F size).i0=2+gw.length+sw.length+6:=by show gw.length+sw.length+8=_;omega
 rw [hi0,h8] at hp;omega
end
end
end Go.Proofs.YtdeepoikgfaecaaGreatDoor
