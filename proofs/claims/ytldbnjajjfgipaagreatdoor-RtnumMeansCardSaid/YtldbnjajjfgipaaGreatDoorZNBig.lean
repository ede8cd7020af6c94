/- Parts. -/
import Derived.Test.YtldbnjajjfgipaaGreatDoorZNKno
import Derived.Deep.RegionHeld3
import Derived.Laws.Small
import Derived.ChangeSame
import Derived.Deep.Slices
set_option linter.all false
set_option maxHeartbeats 100000000
open Go.Lib renaming hid->Ya,cell_of_heap->Yc
open Nat renaming le_refl->Yb,le_trans->Ym,lt_of_lt_of_le->Y3
open List renaming getElem?_eq_getElem->Yf,length_take->Yr,getElem?_map->Y9,length_map->Yaa,drop_succ_cons->Yag,take_succ_cons->Yai,drop_zero->Yak,take_zero->Yax
open Go.RowKit.Below renaming refl->Yh,trans->Yba
open Go.IntWalk renaming i64_in->Yi,u32_in->Ya7
open Go.Value renaming int->Ys,slice->Ybb,okWide->Ydq
open Array renaming getElem?_eq_some_iff->Yw
open Int renaming tmod_eq_emod_of_nonneg->Ya4
open Go.IntKind renaming signed->Ybu,bits->Ycc,min->Ydt,max->Ydu
namespace Go.Proofs.YtldbnjajjfgipaaGreatDoor
open S Go.Proofs.Tryz Go.RowKit
set_option maxRecDepth 100000
section
attribute [local irreducible] aj nL nMid
structure MBox (w wr:World)(n1 n2:Bool)(v1 v2:Value)(o g r s i:Int):Prop where
 bel:Below w.heap.size w wr
 sz:w.heap.size+3<=wr.heap.size
 h0:wr.heap[w.heap.size]?=some (.cells #[.bool n1,v1] 50 (0,0))
 h1:wr.heap[w.heap.size+1]?=some (.cells #[.bool n2,v2] 50 (0,0))
 h2:wr.heap[w.heap.size+2]?=some (.cells #[.int .u8 o,.int .u16 g,.int .u16 r,.int .u8 s,.int .u8 i] 53 (0,0))
theorem Z3a (w:World)(n1 n2:Bool)(v1 v2:Value)(o g r s i:Int):MBox w (((w.alloc (.cells #[.bool n1,v1] 50 (0,0))).alloc (.cells #[.bool n2,v2] 50 (0,0))).alloc (.cells #[.int .u8 o,.int .u16 g,.int .u16 r,.int .u8 s,.int .u8 i] 53 (0,0))) n1 n2 v1 v2 o g r s i:=by
 have a:(w.alloc (.cells #[.bool n1,v1] 50 (0,0))).heap.size=w.heap.size+1:=by simp
 have b:((w.alloc (.cells #[.bool n1,v1] 50 (0,0))).alloc (.cells #[.bool n2,v2] 50 (0,0))).heap.size=w.heap.size+2:=by simp
 refine⟨(Zax (Yb _) _ _).alloc (by omega) _,by simp,?_,?_,?_⟩
 .rw[heap_alloc_old _ _ (by omega),heap_alloc_old _ _ (by omega)]
  exact heap_alloc_new w _
 .rw[heap_alloc_old _ _ (by omega),<- a]
  exact heap_alloc_new _ _
 .rw[<- b]
  exact heap_alloc_new _ _
section
variable {w wr:World}{n1 n2:Bool}{v1 v2:Value}{o g r s i:Int}(h:MBox w wr n1 n2 v1 v2 o g r s i)
include h
theorem MBox.nums:wr.cell? ⟨w.heap.size,0,none⟩=some (.bool n1)/\wr.cell? ⟨w.heap.size,1,none⟩=some v1/\wr.cell? ⟨w.heap.size+1,0,none⟩=some (.bool n2)/\wr.cell? ⟨w.heap.size+1,1,none⟩=some v2:=by
 refine⟨?_,?_,?_,?_⟩
 .rw[Yc h.h0];rfl
 .rw[Yc h.h0];rfl
 .rw[Yc h.h1];rfl
 .rw[Yc h.h1];rfl
theorem MBox.case_:wr.cell? ⟨w.heap.size+2,0,none⟩=some (.int .u8 o)/\wr.cell? ⟨w.heap.size+2,1,none⟩=some (.int .u16 g)/\wr.cell? ⟨w.heap.size+2,2,none⟩=some (.int .u16 r)/\wr.cell? ⟨w.heap.size+2,3,none⟩=some (.int .u8 s)/\wr.cell? ⟨w.heap.size+2,4,none⟩=some (.int .u8 i):=by
 refine⟨?_,?_,?_,?_,?_⟩ <;> (rw[Yc h.h2];rfl)
theorem MBox.lts:w.heap.size<wr.heap.size/\w.heap.size+1<wr.heap.size/\w.heap.size+2<wr.heap.size:=by
 have:=h.sz;omega
theorem MBox.below {b:World}(a:Below wr.heap.size wr b):MBox w b n1 n2 v1 v2 o g r s i:=by
 have:=h.sz;have:=a.size;exact⟨h.bel.trans (a.mono (by omega)),by omega,(a.block _ (by omega)).trans h.h0,(a.block _ (by omega)).trans h.h1,(a.block _ (by omega)).trans h.h2⟩
end
theorem Z1j {w:World}{b:Nat}(h:w.heap[b]?=some (.cells #[.bool false,.slice none 0 0] 56 (0,0))):w.cell? ⟨b,0,none⟩=some (.bool false)/\w.cell? ⟨b,1,none⟩=some (.slice none 0 0)/\w.frozen? ⟨b,0,none⟩=false/\w.frozen? ⟨b,1,none⟩=false/\b<w.heap.size:=by
 refine⟨?_,?_,frozen_of_row w _ 0 _ _ h,frozen_of_row w _ 1 _ _ h,(Yw.1 h).1⟩
 .rw[Yc h];rfl
 .rw[Yc h];rfl
structure NBox (lo:Nat)(w:World)(p:Nat)(neg:Bool)(v:Value):Prop where
 c0:w.cell? ⟨p,0,none⟩=some (.bool neg)
 c1:w.cell? ⟨p,1,none⟩=some v
 lt:p<w.heap.size
 lo_:lo<=p
theorem NBox.below {lo:Nat}{w w':World}{p:Nat}{neg:Bool}{v:Value}(h:NBox lo w p neg v)(a:Below w.heap.size w w'):NBox lo w' p neg v :=
 ⟨(a.cell (p:=⟨p,0,none⟩) h.lt).trans h.c0,(a.cell (p:=⟨p,1,none⟩) h.lt).trans h.c1,Y3 h.lt a.size,h.lo_⟩
theorem Zdu (w:World)(p:Addr)(v:Value):(w.setCell p v).heap.size=w.heap.size:=by simp
theorem Zrl (w:World)(a c:Nat)(v:Value)(b:Nat)(h:b≠a):(w.setCell ⟨a,c,none⟩ v).heap[b]?=w.heap[b]?:=heap_setCell_other w ⟨a,c,none⟩ b v h
theorem Z1k (w:World)(x:Obj)(b:Nat)(h:b<w.heap.size):(w.alloc x).heap[b]?=w.heap[b]?:=heap_alloc_old w x h
theorem Zrm {c d:World}{z:Int}{e:Bool}{A:Option Addr}{m k:Nat}{l:List Int}(h:NumW c c.heap.size z e A m k l)(j:∀b off,0<l.length->A=some ⟨b,off,none⟩->b<c.heap.size->d.heap[b]?=c.heap[b]?)(n:c.heap.size<=d.heap.size):NumW d d.heap.size z e A m k l:=by
 refine⟨h.z,h.len,h.few,λ hp=>?_,h.nil,h.cap⟩;obtain⟨b,off,e,f,p⟩:=h.at_ hp;exact⟨b,off,e,Y3 f n,λ i x q=>(World.cell?_of_block (a:=⟨b,off+i,none⟩) (j b off hp e f)).trans (p i x q)⟩
theorem Zon (w:World):w.drew.heap.size=w.heap.size:=rfl
structure Z68 (w:World)(N1 N2:Nat)(A1 A2:Option Addr)(d1 d2:List Int)(o g r s i:Int):Prop where
 l1:N1=d1.length
 l2:N2=d2.length
 r1:Reads w w.heap.size A1 (d1.map (Ys .u16))
 r2:Reads w w.heap.size A2 (d2.map (Ys .u16))
 g1:DgB 65536 d1
 g2:DgB 65536 d2
 b1:N1<=9223372036854775807/\N2<=9223372036854775807
 ob:0<=o/\o<=255
 gb:0<=g/\g<=65535
 rb:0<=r/\r<=65535
 sb:0<=s/\s<=255
 ib:0<=i/\i<=255
theorem Z1l {d:List Int}{j D:Nat}(c:DgB 65536 d)(a:Top d j)(h:j<=D):dvB 65536 d<65536^D:=by
 have h1:=Z4a (b:=65536) (by decide) (Zlj c a);have h2:=Za3 (b:=65536) (by decide) (show(d.take j).length<=D by rw[Yr];omega);omega
theorem Zgc (m:Mach)(a w:Int):(m.putV a w).out=m.out/\(m.putV a w).steps=m.steps:=by
 obtain⟨_,_,_,c,_,b,_⟩:=Zcl m a w;exact⟨c,b⟩
theorem Zmm {n:Bool}{d:List Int}(a:DgB 65536 d):(if (if n=true then -dvB 65536 d else dvB 65536 d)<0 then -(if n=true then -dvB 65536 d else dvB 65536 d) else(if n=true then -dvB 65536 d else dvB 65536 d))=dvB 65536 d:=by
 have h0:=Zap (show(0:Int)<=65536 by decide) a
 cases n
 .simp;omega
 .simp;omega
theorem Zia {n:Bool}{d:List Int}(a:DgB 65536 d)(hl:d.length<=24):(if (if n=true then -dvB 65536 d else dvB 65536 d)<0 then -(if n=true then -dvB 65536 d else dvB 65536 d) else(if n=true then -dvB 65536 d else dvB 65536 d))<aw:=by
 rw[Zmm a];have h1:=Ze7 (b:=65536) (by decide) a;have h2:=Za3 (b:=65536) (by decide) (show d.length<=1000 by omega);have h3:aw=65536^1000:=rfl;rw[h3];generalize (65536:Int)^1000=P at *;omega
theorem Zwj (neg neg':Bool)(A j:Option Addr)(N c b f:Nat)(l k:List Int)(z d:Int)(w:World)(B:Nat)(m:B<=w.heap.size)(h:NumW w B z neg A N c l)(n:NumW w B d neg' j b f k)(op:Int)(h0:8<=op)(h1:op<=12)(q:11<=op->d≠0)(p:N<=1000)(a:b<=1000) :
 Calls prog 26 #[.int .i64 op,Zx neg A N c,Zx neg' j b f] w (Zrs w (af op z d) 8000):=by
 have e:op=8\/op=9\/op=10\/op=11\/op=12:=by omega
 rcases e with rfl|rfl|rfl|rfl|rfl
 .exact Zms neg neg' A j N c b f l k z d w B m h n 8 _ (.inl ⟨rfl,rfl⟩) p a
 .exact Zms neg neg' A j N c b f l k z d w B m h n 9 _ (.inr (.inl ⟨rfl,rfl⟩)) p a
 .exact Zms neg neg' A j N c b f l k z d w B m h n 10 _ (.inr (.inr ⟨rfl,rfl⟩)) p a
 .exact Zw5 neg neg' A j N c b f l k z d w B m h n (q (by decide)) p a
 .exact Zw6 neg neg' A j N c b f l k z d w B m h n (q (by decide)) p a
theorem Zwk {d c:List Int}{j:Nat}{n:Bool}{z:Int}(b:DgB 65536 d)(a:Top d j)(e:z=if n=true then -dvB 65536 d else dvB 65536 d)(h:Cn 65536 c (if z<0 then -z else z)):c.length=j:=by
 rw[e,Zmm b] at h;rw[Z1y (by decide) h (Zlj b a),Yr];have:=a.1;omega
theorem Zwl (w':World):(Instr.index 69 (.agg #[.int .u32 6,.int .u32 22]) (.int .i64 0)).run prog w'=.ok (.int .u32 6) w':=by kernel_rfl
theorem Zz3 (w':World):(Instr.index 69 (.agg #[.int .u32 6,.int .u32 22]) (.int .i64 1)).run prog w'=.ok (.int .u32 22) w':=by kernel_rfl
theorem Z5v {k D:Nat}(h:D=max 2 k):(if (2:Int)<(k:Int) then(k:Int) else 2)=(D:Int)/\(if 2<k then(k:Int) else 2)=(D:Int)/\max (2:Int) (k:Int)=(D:Int):=by
 subst h;refine⟨?_,?_,?_⟩
 .split <;> omega
 .split <;> omega
 .omega
theorem Zth {op z1 z2:Int}{N1 N2:Nat}(a:N1<=40/\N2<=40)(h1:(if z1<0 then -z1 else z1)<65536^N1)(h2:(if z2<0 then -z2 else z2)<65536^N2):(if af op z1 z2<0 then -(af op z1 z2) else af op z1 z2)<aw :=
 Int.lt_of_lt_of_le (Zjp a h1 h2) (Za3 (b:=65536) (by decide) (by decide))
theorem Zki (w:World)(hL:LVE w)(n1 n2:Bool)(A1 A2:Option Addr)(N1 c1 N2 c2:Nat)(d1 d2:List Int)(o g r s i:Int)(h:Z68 w N1 N2 A1 A2 d1 d2 o g r s i) :
 Calls prog 5 #[.agg #[.bool n1,.slice A1 N1 c1],.agg #[.bool n2,.slice A2 N2 c2],.agg #[.int .u8 o,.int .u16 g,.int .u16 r,.int .u8 s,.int .u8 i]] w λ e w'=>e=.returned (.bool true)/\Below w.heap.size w w':=by
 have HL:=Ya hL;have H:=Ya h;obtain⟨s3,q4⟩:=h.b1;clear hL h;have hm:=Z3a w n1 n2 (.slice A1 N1 c1) (.slice A2 N2 c2) o g r s i;by_cases c1:N1<=24/\N2<=24
 rotate_left
 .as_aux_lemma =>
  by_cases c2:N1<=24
  .have x1:decide ((N1:Int)>24)=false:=decide_eq_false (by omega)
   have x2:decide ((24:Int)<(N1:Int))=false:=decide_eq_false (by omega);have x3:decide (24<N1)=false:=decide_eq_false (by omega);have y1:decide ((N2:Int)>24)=true:=decide_eq_true (by omega);have y2:decide ((24:Int)<(N2:Int))=true:=decide_eq_true (by omega);have y3:decide (24<N2)=true:=decide_eq_true (by omega);clear c1 c2 s3 q4;go_enter func5,ntmps5
   go_upto_region 1 with fail
   generalize (((w.alloc (.cells #[.bool n1,.slice A1 N1 c1] 50 (0,0))).alloc (.cells #[.bool n2,.slice A2 N2 c2] 50 (0,0))).alloc (.cells #[.int .u8 o,.int .u16 g,.int .u16 r,.int .u8 s,.int .u8 i] 53 (0,0)))=w3 at hm⊢;have HM:=Ya hm;obtain⟨q0,q1,q2,q3⟩:=hm.nums;obtain⟨G,b1,b2⟩:=hm.lts;clear hm;go_wp2_with fail
   refine(Zeq w3 (HL.out.on HM.out.bel)).mono ?_;rintro e w4 ⟨rfl,j8⟩;have D:=Ya (HM.out.bel.trans (j8.mono HM.out.bel.size));clear j8 q0 q1 q2 q3 G b1 b2;go_wp2_with fail
   go_ret
   exact⟨rfl,D.out⟩
  .have x1:decide ((N1:Int)>24)=true:=decide_eq_true (by omega)
   have x2:decide ((24:Int)<(N1:Int))=true:=decide_eq_true (by omega);have x3:decide (24<N1)=true:=decide_eq_true (by omega);clear c1 c2 s3 q4;go_enter func5,ntmps5
   go_upto_region 1 with fail
   generalize (((w.alloc (.cells #[.bool n1,.slice A1 N1 c1] 50 (0,0))).alloc (.cells #[.bool n2,.slice A2 N2 c2] 50 (0,0))).alloc (.cells #[.int .u8 o,.int .u16 g,.int .u16 r,.int .u8 s,.int .u8 i] 53 (0,0)))=w3 at hm⊢;have HM:=Ya hm;obtain⟨q0,q1,q2,q3⟩:=hm.nums;obtain⟨G,b1,b2⟩:=hm.lts;clear hm;go_wp2_with fail
   refine(Zeq w3 (HL.out.on HM.out.bel)).mono ?_;rintro e w4 ⟨rfl,j8⟩;have D:=Ya (HM.out.bel.trans (j8.mono HM.out.bel.size));clear j8 q0 q1 q2 q3 G b1 b2;go_wp2_with fail
   go_ret
   exact⟨rfl,D.out⟩
 obtain⟨w0,x8⟩:=c1;have x1:decide ((N1:Int)>24)=false:=decide_eq_false (by omega);have x2:decide ((24:Int)<(N1:Int))=false:=decide_eq_false (by omega);have x3:decide (24<N1)=false:=decide_eq_false (by omega);have y1:decide ((N2:Int)>24)=false:=decide_eq_false (by omega);have y2:decide ((24:Int)<(N2:Int))=false:=decide_eq_false (by omega);have y3:decide (24<N2)=false:=decide_eq_false (by omega);go_enter func5,ntmps5
 go_upto_region 1 with fail
 generalize (((w.alloc (.cells #[.bool n1,.slice A1 N1 c1] 50 (0,0))).alloc (.cells #[.bool n2,.slice A2 N2 c2] 50 (0,0))).alloc (.cells #[.int .u8 o,.int .u16 g,.int .u16 r,.int .u8 s,.int .u8 i] 53 (0,0)))=w3 at hm⊢;have HM:=Ya hm;obtain⟨q0,q1,q2,q3⟩:=hm.nums;obtain⟨G,b1,b2⟩:=hm.lts;clear hm;obtain⟨z1,s7⟩:∃z1,z1=if n1=true then -dvB 65536 d1 else dvB 65536 d1:=⟨_,rfl⟩
 obtain⟨z2,r9⟩:∃z2,z2=if n2=true then -dvB 65536 d2 else dvB 65536 d2:=⟨_,rfl⟩
 have HF1:=Ya (show ∀y:World,Below w3.heap.size w3 y->Calls prog 19 #[.bool n1,.slice A1 N1 c1] y (Zhd y z1 (5*N1)) from λ y hy=>by
  have hb:=HM.out.bel.trans (hy.mono HM.out.bel.size);rw[s7];exact Z10 n1 A1 N1 c1 d1 H.out.l1 y ((H.out.r1.below hb).moreM hb.size) (by omega) H.out.g1)
 have HF2:=Ya (show ∀y:World,Below w3.heap.size w3 y->Calls prog 19 #[.bool n2,.slice A2 N2 c2] y (Zhd y z2 (5*N2)) from λ y hy=>by
  have hb:=HM.out.bel.trans (hy.mono HM.out.bel.size);rw[r9];exact Z10 n2 A2 N2 c2 d2 H.out.l2 y ((H.out.r2.below hb).moreM hb.size) (by omega) H.out.g2)
 have n0:=Ya s7;have m5:=Ya r9;clear s7 r9 s3 q4;go_upto_region 3 with fail
 go_cut [7,8] from 42 to 51 (λ v7 v8 wc=>∃(p7 p8:Nat)(e7:Bool)(A7:Option Addr)(m7 k7:Nat)(l7:List Int)(e8:Bool)(A8:Option Addr) (m8 k8:Nat) (l8:List Int),v7=.pointer (some ⟨p7,0,none⟩)/\v8=.pointer (some ⟨p8,0,none⟩)/\Hid (NBox w3.heap.size wc p7 e7 (.slice A7 m7 k7))/\Hid (NBox w3.heap.size wc p8 e8 (.slice A8 m8 k8))/\Hid (NumW wc wc.heap.size z1 e7 A7 m7 k7 l7)/\Hid (NumW wc wc.heap.size z2 e8 A8 m8 k8 l8)/\Hid (m7<=120/\m8<=120)/\Hid (Below w3.heap.size w3 wc))
 case first=>as_aux_lemma =>
  go_region_held3 (λ w'=>w'.cell? ⟨w.heap.size,0,none⟩=some (.bool n1)/\w'.cell? ⟨w.heap.size,1,none⟩=some (.slice A1 N1 c1)/\w'.cell? ⟨w.heap.size+1,0,none⟩=some (.bool n2)/\w'.cell? ⟨w.heap.size+1,1,none⟩=some (.slice A2 N2 c2))
   (first
    | with_reducible exact⟨q0,q1,q2,q3⟩
    | with_reducible exact hS5
    | with_reducible exact hS4
    | (refine(HM.out.below ?_).nums;(repeat (first | (with_reducible refine Below.setCell ?_ (by dsimp only;omega) _) | (with_reducible refine Below.alloc ?_ (by first|omega | (simp <;> omega)) _)));with_reducible exact D.out.trans (R.out.mono i6))
    | (refine(HM.out.below ?_).nums;(repeat (first | (with_reducible refine Below.alloc ?_ (by first|omega | (simp <;> omega)) _)));with_reducible exact D.out)
    | go_keep
    | (refine(HM.out.below ?_).nums;(repeat (first | (refine Below.setCell ?_ (by dsimp only;omega) _) | (refine Below.alloc ?_ (by simp <;> omega) _)));exact D.out.trans (R.out.mono i6)))
   (first
    | (go_at_call_of 19 (Ybb A1 N1 c1);go_loud (
     refine(HF1.out _ ?_).mono ?_
     first
      | with_reducible exact Below.drew (Yh _ _)
      | exact Below.drew ((Yh _ _).alloc (Yb _) _)
      | exact Below.drew (((Yh _ _).alloc (Yb _) _).alloc (by simp <;> omega) _)
     rintro e w4 ⟨e7,A7,m7,k7,l7,rfl,hm7,K,C,i9⟩;have D:Hid (Below w3.heap.size w3 w4):=Ya (by
      first
       | exact Yba (Below.drew (Yh _ _)) C
       | exact Yba (Below.drew ((Yh _ _).alloc (Yb _) _)) (C.mono (by simp <;> omega))
       | exact Yba (Below.drew (((Yh _ _).alloc (Yb _) _).alloc (by simp <;> omega) _)) (C.mono (by simp <;> omega)))
     have i6:w3.heap.size<=w4.heap.size:=D.out.size;have hS4:=(HM.out.below D.out).nums;have s2:=Ya K;have Hr7:=Ya (show ∀b off,0<l7.length->A7=some ⟨b,off,none⟩->b<w4.heap.size from λ b off hp e=>by obtain⟨b',off',e',hb',_⟩:=K.at_ hp;rw[e] at e';cases e';exact hb');have HM7:=Ya hm7
     first
      | (have E0:=(C.block w3.heap.size (by simp <;> omega)).trans ((heap_alloc_old (w3.alloc (.cells #[.bool false,.slice none 0 0] 56 (0,0))) (.cells #[.bool false,.slice none 0 0] 56 (0,0)) (by simp <;> omega)).trans (heap_alloc_new w3 (.cells #[.bool false,.slice none 0 0] 56 (0,0))));have E1:w4.heap[w3.heap.size+1]?=some (.cells #[.bool false,.slice none 0 0] 56 (0,0)):=(C.block (w3.heap.size+1) (by simp <;> omega)).trans (by have h:=heap_alloc_new (w3.alloc (.cells #[.bool false,.slice none 0 0] 56 (0,0))) (.cells #[.bool false,.slice none 0 0] 56 (0,0));rw[show(w3.alloc (.cells #[.bool false,.slice none 0 0] 56 (0,0))).heap.size=w3.heap.size+1 by simp] at h;exact h);obtain⟨a0,a1,a2,a3,a4⟩:=Z1j E0;obtain⟨f0,f1,f2,f3,f4⟩:=Z1j E1;have t6:=Ya E0;have HE1:=Ya E1;clear E0 E1)
      | (have E0:=(C.block w3.heap.size (by simp <;> omega)).trans (heap_alloc_new w3 (.cells #[.bool false,.slice none 0 0] 56 (0,0)));obtain⟨a0,a1,a2,a3,a4⟩:=Z1j E0;have t6:=Ya E0;clear E0)
      | skip
     have x4:=Ya i9;clear C K hm7 i9;unfold Zx))
    | (go_at_call_of 19 (Ybb A2 N2 c2);go_loud (
     refine(HF2.out _ ?_).mono ?_
     first
      | with_reducible exact D.out
      | exact D.out.alloc i6 _
      | exact(D.out.alloc i6 _).alloc (by simp <;> omega) _
     rintro e w5 ⟨e8,A8,m8,k8,l8,rfl,v0,I,C,k1⟩;have R:Hid (Below w4.heap.size w4 w5):=Ya (by
      first
       | with_reducible exact C
       | exact Yba ((Yh _ _).alloc (Yb _) _) (C.mono (by simp <;> omega))
       | exact Yba (((Yh _ _).alloc (Yb _) _).alloc (by simp <;> omega) _) (C.mono (by simp <;> omega)))
     have hz5:w4.heap.size<=w5.heap.size:=R.out.size;have hS5:=(HM.out.below (D.out.trans (R.out.mono i6))).nums;have s8:=Ya I;have HM8:=Ya v0;have HN75:=Ya ((s2.out.below R.out).more hz5);have HNw8:=Ya k1
     try (have E0':=(R.out.block w3.heap.size a4).trans t6.out;obtain⟨a0',a1',a2',a3',a4'⟩:=Z1j E0')
     try (have E1':=(R.out.block (w3.heap.size+1) f4).trans HE1.out;obtain⟨f0',f1',f2',f3',f4'⟩:=Z1j E1')
     first
      | (have G0:=(C.block w4.heap.size (by simp <;> omega)).trans ((heap_alloc_old (w4.alloc (.cells #[.bool false,.slice none 0 0] 56 (0,0))) (.cells #[.bool false,.slice none 0 0] 56 (0,0)) (by simp <;> omega)).trans (heap_alloc_new w4 (.cells #[.bool false,.slice none 0 0] 56 (0,0))));have G1:w5.heap[w4.heap.size+1]?=some (.cells #[.bool false,.slice none 0 0] 56 (0,0)):=(C.block (w4.heap.size+1) (by simp <;> omega)).trans (by have h:=heap_alloc_new (w4.alloc (.cells #[.bool false,.slice none 0 0] 56 (0,0))) (.cells #[.bool false,.slice none 0 0] 56 (0,0));rw[show(w4.alloc (.cells #[.bool false,.slice none 0 0] 56 (0,0))).heap.size=w4.heap.size+1 by simp] at h;exact h);obtain⟨g0,g1,g2,g3,g4⟩:=Z1j G0;obtain⟨h0,h1,h2,h3,h4⟩:=Z1j G1)
      | (have G0:=(C.block w4.heap.size (by simp <;> omega)).trans (heap_alloc_new w4 (.cells #[.bool false,.slice none 0 0] 56 (0,0)));obtain⟨g0,g1,g2,g3,g4⟩:=Z1j G0)
      | skip
     clear C I v0 k1;unfold Zx)))
  all_goals
   go_wp2_with fail
   go_meet
   refine⟨_,_,e7,A7,m7,k7,l7,e8,A8,m8,k8,l8,rfl,rfl,Ya ⟨?_,?_,?_,?_⟩,Ya ⟨?_,?_,?_,?_⟩,Ya ?_,Ya ?_,Ya ⟨by have:=HM7.out;omega,by have:=HM8.out;omega⟩,Ya ?_⟩
   .first | (go_simp;done) | go_keep
   .first | (go_simp;done) | go_keep
   .first|omega | (simp only[World.size_alloc,Zdu] <;> omega)
   .omega
   .first | (go_simp;done) | go_keep
   .first | (go_simp;done) | go_keep
   .first|omega | (simp only[World.size_alloc,Zdu] <;> omega)
   .omega
   .refine Zrm HN75.out (λ b off hp e hb=>?_) (by first|omega | (simp only[World.size_alloc,Zdu] <;> omega))
    have h1:=x4.out b off e;have h2:=Hr7.out b off hp e
    try simp only[World.size_alloc,Zon] at h1
    simp (disch:=first|omega | (simp only[World.size_alloc,Zdu] <;> omega)) only [Zrl,Z1k]
   .refine Zrm s8.out (λ b off hp e hb=>?_) (by first|omega | (simp only[World.size_alloc,Zdu] <;> omega))
    have h1:=HNw8.out b off e
    try simp only[World.size_alloc,Zon] at h1
    simp (disch:=first|omega | (simp only[World.size_alloc,Zdu] <;> omega)) only [Zrl,Z1k]
   .skip
    (repeat (first | (with_reducible refine Below.setCell ?_ ?_ _;rotate_left;(dsimp only;omega)) | (with_reducible refine Below.alloc ?_ ?_ _;rotate_left;(first|omega | (simp only[World.size_alloc,Zdu] <;> omega)))))
    exact D.out.trans (R.out.mono i6)
 case rest =>
  clear q0 q1 q2 q3 G b1 b2;obtain⟨p7,p8,e7,A7,m7,k7,l7,e8,A8,m8,k8,l8,rfl,rfl,b5,b8,K,I,i0,i5⟩:=hcut;obtain⟨wz,rfl⟩:=Yx wc;have j:=Ya (HM.out.below i5.out);clear i5;obtain⟨q0,q1,q2,q3⟩:=j.out.nums;obtain⟨Z,u1,u2,X,u4⟩:=j.out.case_;obtain⟨G,b1,b2⟩:=j.out.lts;obtain⟨o0,o1⟩:=H.out.ob;obtain⟨g0,g1⟩:=H.out.gb;obtain⟨r0,r1⟩:=H.out.rb;have v1:IntKind.i64.wrap o=o:=Yi _ ⟨by omega,by omega⟩;have v2:o.tmod 7=o%7:=Ya4 o0;have v3:IntKind.i64.wrap (o%7)=o%7:=Yi _ ⟨by omega,by omega⟩;have v4:IntKind.i64.wrap (8+o%7)=8+o%7:=Yi _ ⟨by omega,by omega⟩;have v5:IntKind.i64.wrap ((N1:Int)+N2)=(N1:Int)+N2:=Yi _ ⟨by omega,by omega⟩;have v6:IntKind.i64.wrap ((N1:Int)+N2+8)=(N1:Int)+N2+8:=Yi _ ⟨by omega,by omega⟩;have v7:IntKind.i64.wrap g=g:=Yi _ ⟨by omega,by omega⟩;have v8:g.tmod 400=g%400:=Ya4 g0;have v9:IntKind.i64.wrap (g%400)=g%400:=Yi _ ⟨by omega,by omega⟩;have v10:IntKind.i64.wrap (1+g%400)=1+g%400:=Yi _ ⟨by omega,by omega⟩;have v11:IntKind.i64.wrap (1+g%400+((N1:Int)+N2+8))=1+g%400+((N1:Int)+N2+8):=Yi _ ⟨by omega,by omega⟩;have v12:IntKind.i64.wrap r=r:=Yi _ ⟨by omega,by omega⟩;have v13:r.tmod 400=r%400:=Ya4 r0;have k0:IntKind.i64.wrap (r%400)=r%400:=Yi _ ⟨by omega,by omega⟩;have l3:IntKind.i64.wrap (1+g%400+((N1:Int)+N2+8)+r%400)=1+g%400+((N1:Int)+N2+8)+r%400:=Yi _ ⟨by omega,by omega⟩;go_upto_region 7 with fail
  have x5:isOp (8+o%7):=⟨by omega,by omega⟩
  obtain⟨k,U⟩:∃k:Nat,(k:Int)=1+g%400:=⟨(1+g%400).toNat,by omega⟩
  have m0:1<=k/\k<=400:=by omega
  have hhb:(k:Int)+((N1:Int)+N2+8)<=1+g%400+((N1:Int)+N2+8)+r%400/\1+g%400+((N1:Int)+N2+8)+r%400<=1000:=by omega
  generalize hope:8+o%7=op at *;generalize hhe:1+g%400+((N1:Int)+N2+8)+r%400=half at *;have Hope:=Ya hope;have Hhe:=Ya hhe;have Hk:=Ya U;have r3:=Ya x5;have Hhb:=Ya hhb;have hg1:1<=1+g%400/\1+g%400<=1000:=by omega
  clear hope hhe U v1 v2 v3 v4 v5 v6 v11 v12 v13 k0 l3 x5 r0 r1 o0 o1;clear q0 q1 q2 q3;go_wp2_with fail
  refine(Zx4 op half r3.out ⟨by omega,by omega⟩ wz (HL.out.on j.out.bel)).mono ?_;rintro e wb ⟨F,a,b,p,FF,i2,rfl,n8,O⟩;have HWr:=Ya i2;have d:=Ya n8;have f:=Ya O;have ha0:=i2.lab.a0;have x6:=i2.small;have p6:=Ya i2.out;have w1:=Ya i2.steps;have hzb:=O.size;have s4:=Ya (j.out.below O);have d9:=Ya (b5.out.below O);have k2:=Ya (b8.out.below O);have s2:=Ya (K.out.below O);have s8:=Ya (I.out.below O);clear i2 n8 O Z u1 u2 X u4 G b1 b2;obtain⟨Z,u1,u2,X,u4⟩:=s4.out.case_;obtain⟨G,b1,b2⟩:=s4.out.lts;go_wp2_with fail
  refine(Zw7 (1+g%400) hg1 d.out ⟨by omega,by omega⟩).mono ?_;rintro e wg ⟨rfl,q8,hbg⟩;rw[<- Hk.out] at q8;have t9:=Ya q8;have b7:=Ya (f.out.trans hbg);have HMg:=Ya (j.out.below b7.out);have g9:=Ya (b5.out.below b7.out);have h9:=Ya (b8.out.below b7.out);have n6:=Ya (K.out.below b7.out);have x7:=Ya (I.out.below b7.out);have z4:=b7.out.size;clear q8 hbg Z u1 u2 X u4 G b1 b2 d f s4 d9 k2 s2 s8;have o2:(if z1<0 then -z1 else z1)<aw:=by rw[n0.out];exact Zia H.out.g1 (by rw[<- H.out.l1];exact w0)
  have o5:(if z2<0 then -z2 else z2)<aw:=by rw[m5.out];exact Zia H.out.g2 (by rw[<- H.out.l2];exact x8)
  have j9:=Ya o2;have i8:=Ya o5;have a7:=g9.out.c0;have a6:=g9.out.c1;have a8:=h9.out.c0;have b3:=h9.out.c1;have f8:=g9.out.lt;have g5:=h9.out.lt;clear o2 o5;go_upto_region 11 with fail
  go_cut [14,15] from 92 to 97 (λ k0 l3 wl=>∃(va vb:Int)(ma mb:Mach)(na nb:Int),k0=.int .u32 va/\l3=.int .u32 vb/\Hid (az z1 (((aj (nL op F) half).goV (a+1)).putV (a+4) (32*((k:Int)-1)+7)) (a+4+k) va ma na)/\Hid (az z2 ma na vb mb nb)/\((0<=va/\va<=4294967295)/\(0<=vb/\vb<=4294967295))/\(a+4+k<=nb/\nb<=a+4+k+2004)/\Hid (ma.out=(((aj (nL op F) half).goV (a+1)).putV (a+4) (32*((k:Int)-1)+7)).out/\mb.out=ma.out)/\Hid (ma.steps=(((aj (nL op F) half).goV (a+1)).putV (a+4) (32*((k:Int)-1)+7)).steps/\mb.steps=ma.steps)/\Hid (NAt wl wz.heap.size b p FF (a+4) half (a+3) nb mb)/\Hid (Below wz.heap.size wz wl))
  case first=>as_aux_lemma =>
   go_region_held3 (λ w'=>w'.cell? ⟨p7,0,none⟩=some (.bool e7)/\w'.cell? ⟨p7,1,none⟩=some (.slice A7 m7 k7)/\w'.cell? ⟨p8,0,none⟩=some (.bool e8)/\w'.cell? ⟨p8,1,none⟩=some (.slice A8 m8 k8))
    (first
     | exact⟨a7,a6,a8,b3⟩
     | exact hSB
     | exact hSA
     | go_keep)
    (first
     | (go_at_call_of 22 (Ybb A7 m7 k7);go_loud (
      refine(Z25 e7 A7 m7 k7 l7 z1 wz.heap.size ?_ ?_ j9.out (t9.out.drew 1) ⟨by omega,by omega⟩).mono ?_
      exact z4;exact n6.out.below (Below.drew (Yh _ _));rintro e wA ⟨wsa,va,ma,na,rfl,L,r7,e9,hka,t0⟩;have g7:=Ya (Yba (Below.drew b7.out) t0);have hSA:=And.intro (b5.out.below g7.out).c0 (And.intro (b5.out.below g7.out).c1 (And.intro (b8.out.below g7.out).c0 (b8.out.below g7.out).c1));have HKA:=Ya hka;have W:=Ya (And.intro L (And.intro r7 e9));obtain⟨z0,hna⟩:=Zfr L r7 e9 ⟨by omega,by omega⟩;clear t0 hka L r7 e9))
     | (go_at_call_of 22 (Ybb A8 m8 k8);go_loud (
      refine(Z25 e8 A8 m8 k8 l8 z2 wz.heap.size g7.out.size (I.out.below g7.out) i8.out HKA.out ⟨by omega,by omega⟩).mono ?_
      rintro e wB ⟨wsb,vb,mb,nb,rfl,f9,p5,e9,m0,O⟩;have l4:=Ya (g7.out.trans O);have hSB:=And.intro (b5.out.below l4.out).c0 (And.intro (b5.out.below l4.out).c1 (And.intro (b8.out.below l4.out).c0 (b8.out.below l4.out).c1));have HKB:=Ya m0;have l5:=Ya (And.intro f9 (And.intro p5 e9));obtain⟨y0,hnb⟩:=Zfr f9 p5 e9 ⟨by omega,by omega⟩;clear O m0 f9 p5 e9)))
   all_goals
    go_wp2_with fail
    go_meet
    exact⟨va,vb,ma,mb,na,nb,rfl,rfl,Ya ⟨wsa,W.out.1,W.out.2.1,W.out.2.2⟩,Ya ⟨wsb,l5.out.1,l5.out.2.1,l5.out.2.2⟩,⟨z0,y0⟩,⟨by omega,by omega⟩,Ya ⟨(Zer W.out.2.2).1,(Zer l5.out.2.2).1⟩,Ya ⟨(Zer W.out.2.2).2,(Zer l5.out.2.2).2⟩,HKB,l4⟩
  case rest=>as_aux_lemma =>
  clear a7 a6 a8 b3 f8 g5;obtain⟨va,vb,ma,mb,na,nb,rfl,rfl,hga,hgb,⟨z0,y0⟩,hnb,h7,h5,b4,n7⟩:=hcut;obtain⟨wS,rfl⟩:=Yx wc;have d:=b4;have f:=n7;clear b4 n7 t9 b7 HMg g9 h9 n6 x7 z4;obtain⟨s0,s1⟩:=H.out.sb;obtain⟨t1,ht1⟩:∃t:Bool,(i==1)=t:=⟨_,rfl⟩
  obtain⟨t2,ht2⟩:∃t:Bool,(i==2)=t:=⟨_,rfl⟩
  obtain⟨P,hP⟩:∃P:Int,P=if t1=true then 22 else va:=⟨_,rfl⟩
  obtain⟨Q,hQ⟩:∃Q:Int,Q=if t2=true then 22 else vb:=⟨_,rfl⟩
  have HP:=Ya hP;have HQ:=Ya hQ;have hPb:0<=P/\P<=4294967295:=by rw[hP];split <;> omega
  have hQb:0<=Q/\Q<=4294967295:=by rw[hQ];split <;> omega
  clear hP hQ;obtain⟨c0,c1,c2,c3,c4⟩:=d.out.cells;have l:=d.out.blt;obtain⟨Z,u1,u2,X,u4⟩:=(j.out.below f.out).case_;obtain⟨G,b1,b2⟩:=(j.out.below f.out).lts;have n1_:IntKind.u32.wrap s=s:=Ya7 _ ⟨by omega,by omega⟩;have n1':s%4294967296=s:=by omega
  have n2_:IntKind.u32.wrap nb=nb:=Ya7 _ ⟨by omega,by omega⟩;have n2':nb%4294967296=nb:=by omega
  have n3_:IntKind.i64.wrap (a+4+half)=a+4+half:=Yi _ ⟨by omega,by omega⟩;have n4_:IntKind.u32.wrap (a+4+half)=a+4+half:=Ya7 _ ⟨by omega,by omega⟩;have n4':(a+4+half)%4294967296=a+4+half:=by omega
  go_upto_if 100 with fail
  go_cut [14] (λ k0 wn=>k0=.int .u32 P/\wn=wS)
  case first=>as_aux_lemma =>
   cases t1
   .have hP:=HP.out
    rw[if_neg (by decide)] at hP;have r8:=Ya hP;clear hP;go_wp2_with fail
    go_meet
    exact⟨by rw[r8.out],rfl⟩
   .have hP:=HP.out
    rw[if_pos rfl] at hP;have r8:=Ya hP;clear hP;go_wp2_with fail
    go_meet
    exact⟨by rw[r8.out],rfl⟩
  case rest =>
  obtain⟨rfl,q9⟩:=hcut
  cases q9
  go_upto_if 103 with fail
  go_cut [15] (λ l3 wn=>l3=.int .u32 Q/\wn=wS)
  case first=>as_aux_lemma =>
   cases t2
   .have hQ:=HQ.out
    rw[if_neg (by decide)] at hQ;have q5:=Ya hQ;clear hQ;go_wp2_with fail
    go_meet
    exact⟨by rw[q5.out],rfl⟩
   .have hQ:=HQ.out
    rw[if_pos rfl] at hQ;have q5:=Ya hQ;clear hQ;go_wp2_with fail
    go_meet
    exact⟨by rw[q5.out],rfl⟩
  case rest =>
  obtain⟨rfl,q9⟩:=hcut
  cases q9
  as_aux_lemma =>
  go_upto_region 16 with fail
  refine Zi 7 (by kernel_rfl) (by kernel_rfl) ?_;have hE:=Zn wS;simp only[Yai,Yax,Yag,Yak]
  repeat (first|go_big_quiet_step (fail))
  refine wpQuiet_nil ?_;rintro yS ⟨⟨_,M⟩,rfl⟩;have c7:=Ya (d.out.below M);have b9:=Ya (f.out.trans (M.mono d.out.lolt));clear hE d f c0 c1 c2 c3 c4 l M Z u1 u2 X u4 G b1 b2;have d:=c7;have f:=b9;clear c7 b9;go_wp2_with fail
  refine(Zvt 7 s d.out ⟨by omega,by omega⟩).mono ?_;rintro e wS1 ⟨rv,rfl,U,V⟩;have v:=Ya (f.out.trans (d.out.lobelow V));clear d f;have d:=Ya U;have f:=v;clear U V v;obtain⟨wS,rfl⟩:=Yx wS1;obtain⟨c0,c1,c2,c3,c4⟩:=d.out.cells;have l:=d.out.blt;obtain⟨Z,u1,u2,X,u4⟩:=(j.out.below f.out).case_;obtain⟨G,b1,b2⟩:=(j.out.below f.out).lts;go_upto_region 17 with fail
  refine Zi 9 (by kernel_rfl) (by kernel_rfl) ?_;have hE:=Zn wS;simp only[Yai,Yax,Yag,Yak]
  repeat (first|go_big_quiet_step (fail))
  refine wpQuiet_nil ?_;rintro yS ⟨⟨_,M⟩,rfl⟩;have c7:=Ya (d.out.below M);have b9:=Ya (f.out.trans (M.mono d.out.lolt));clear hE d f c0 c1 c2 c3 c4 l M Z u1 u2 X u4 G b1 b2;have d:=c7;have f:=b9;clear c7 b9;go_wp2_with fail
  refine(Zhs 26 nb d.out ⟨by omega,by omega⟩).mono ?_;rintro e wS2 ⟨rv,rfl,U,V⟩;have v:=Ya (f.out.trans (d.out.lobelow V));clear d f;have d:=Ya U;have f:=v;clear U V v;obtain⟨wS,rfl⟩:=Yx wS2;obtain⟨c0,c1,c2,c3,c4⟩:=d.out.cells;have l:=d.out.blt;obtain⟨Z,u1,u2,X,u4⟩:=(j.out.below f.out).case_;obtain⟨G,b1,b2⟩:=(j.out.below f.out).lts;go_upto_region 18 with fail
  refine Zi 14 (by kernel_rfl) (by kernel_rfl) ?_;have hE:=Zn wS;simp only[Yai,Yax,Yag,Yak]
  repeat (first|go_big_quiet_step (fail))
  refine wpQuiet_nil ?_;rintro yS ⟨⟨_,M⟩,rfl⟩;have c7:=Ya (d.out.below M);have b9:=Ya (f.out.trans (M.mono d.out.lolt));clear hE d f c0 c1 c2 c3 c4 l M Z u1 u2 X u4 G b1 b2;have d:=c7;have f:=b9;clear c7 b9;go_wp2_with fail
  refine(Zhs 27 (a+4+half) d.out ⟨by omega,by omega⟩).mono ?_;rintro e wS3 ⟨rv,rfl,U,V⟩;have v:=Ya (f.out.trans (d.out.lobelow V));clear d f;have d:=Ya U;have f:=v;clear U V v;obtain⟨wS,rfl⟩:=Yx wS3;obtain⟨c0,c1,c2,c3,c4⟩:=d.out.cells;have l:=d.out.blt;obtain⟨Z,u1,u2,X,u4⟩:=(j.out.below f.out).case_;obtain⟨G,b1,b2⟩:=(j.out.below f.out).lts;go_wp2_with fail
  refine(Zhs 4 P d.out hPb).mono ?_;rintro e wS4 ⟨rv,rfl,U,V⟩;have v:=Ya (f.out.trans (d.out.lobelow V));clear d f;clear c0 c1 c2 c3 c4 l Z u1 u2 X u4 G b1 b2;have d:=Ya U;have f:=v;clear U V v;obtain⟨wS,rfl⟩:=Yx wS4;obtain⟨c0,c1,c2,c3,c4⟩:=d.out.cells;have l:=d.out.blt;obtain⟨Z,u1,u2,X,u4⟩:=(j.out.below f.out).case_;obtain⟨G,b1,b2⟩:=(j.out.below f.out).lts;go_wp2_with fail
  refine(Zhs 5 Q d.out hQb).mono ?_;rintro e wS5 ⟨rv,rfl,U,V⟩;have v:=Ya (f.out.trans (d.out.lobelow V));clear d f;clear c0 c1 c2 c3 c4 l Z u1 u2 X u4 G b1 b2;have d:=Ya U;have f:=v;clear U V v;obtain⟨wS,rfl⟩:=Yx wS5;obtain⟨c0,c1,c2,c3,c4⟩:=d.out.cells;have l:=d.out.blt;obtain⟨Z,u1,u2,X,u4⟩:=(j.out.below f.out).case_;obtain⟨G,b1,b2⟩:=(j.out.below f.out).lts;obtain⟨M0,l0⟩:=Yx (am (mb.putV 7 s) nb (a+4+half) P Q);have HM0:=Ya l0;have t4:(((((mb.putV 7 s).setV 26 nb).setV 27 (a+4+half)).setV 4 P).setV 5 Q)=M0:=l0.symm;rw[t4] at d;have y8:M0.out=[]:=by
   rw[l0,(Zj5 _ _ _ _ _).1,(Zgc mb 7 s).1,h7.out.2,h7.out.1,(Zgc _ _ _).1,(Zm6 _ _).1];exact p6.out
  have u7:M0.steps=0:=by
   rw[l0,(Zj5 _ _ _ _ _).2,(Zgc mb 7 s).2,h5.out.2,h5.out.1,(Zgc _ _ _).2,(Zm6 _ _).2];exact w1.out
  have Hso:=Ya y8;have z9:=Ya u7;clear l0 t4 y8 u7
  as_aux_lemma =>
  go_wp2_with fail
  refine(Z5d 5000000 d.out Hso.out z9.out (by decide)).mono ?_;rintro e wR ⟨rfl,F8,U,V,-⟩;have v:=Ya (f.out.trans (d.out.lobelow V));clear d f c0 c1 c2 c3 c4 l Z u1 u2 X u4 G b1 b2;have e5:(5000000:Int).toNat=5000000:=rfl;rw[e5] at U⊢;obtain⟨A,s6⟩:=Yx (M0.steps_ 5000000);have HMM:=Ya s6;rw[<- s6] at U⊢;have d:=Ya U;have f:=v;clear U V v s6 Hso z9 e5;obtain⟨j1,m3⟩:=Zk9 d1;obtain⟨j2,m1⟩:=Zk9 d2;have HJ1:=Ya m3;have HJ2:=Ya m1;have y1':=m3.1;have y2':=m1.1;rw[<- H.out.l1] at y1';rw[<- H.out.l2] at y2';obtain⟨D1,w2⟩:∃D1:Nat,D1=max 2 j1:=⟨_,rfl⟩
  obtain⟨Y,hD2⟩:∃Y:Nat,Y=max 2 j2:=⟨_,rfl⟩
  have y3:(2<=D1/\D1<=24)/\D1<=N1+2/\j1<=D1:=by omega
  have y4:(2<=Y/\Y<=24)/\Y<=N2+2/\j2<=Y:=by omega
  have HD1:=Ya w2;have HD2:=Ya hD2;have p0:=Ya (show(if z1<0 then -z1 else z1)<65536^D1 from by rw[n0.out,Zmm H.out.g1];exact Z1l H.out.g1 m3 y3.2.2);have p4:=Ya (show(if z2<0 then -z2 else z2)<65536^Y from by rw[m5.out,Zmm H.out.g2];exact Z1l H.out.g2 m1 y4.2.2);have p1:A=(am (mb.putV 7 s) nb (a+4+half) P Q).steps_ 5000000:=by rw[HMM.out,HM0.out]
  have hnt:¬(t1=true/\t2=true):=λ h=>by
   have e1:=ht1.trans h.1;have e2:=ht2.trans h.2;have e3:=eq_of_beq e1;have e4:=eq_of_beq e2;omega
  have o4:=Ya (Z32 (N1:=D1) (N2:=Y) r3.out HWr.out ⟨by omega,by omega⟩ m0.1 (by omega) ⟨y3.1.1,by omega⟩ ⟨y4.1.1,by omega⟩ ⟨s0,by omega⟩ hga.out hgb.out p0.out p4.out hnt HP.out HQ.out p1);have i1:A.state=1/\(0<=A.place/\A.place<=4294967295):=by
   have u9:=d.out.ok;refine⟨?_,u9.place0,u9.place1⟩;rcases o4.out with⟨_,q⟩|⟨_,⟨_,_,q⟩|⟨_,q⟩|⟨_,_,q|⟨q,_⟩⟩⟩ <;> exact q.run
  have d0:(A.state != 1)=false:=by rw[i1.1];rfl
  have u6:IntKind.i64.wrap A.place=A.place:=Yi _ ⟨by omega,by omega⟩;have HPl:=Ya (λ n:Nat=>(Zvu (d.out.drew n)).mono (λ _ _ q=>(⟨q.1,q.2.symm⟩:_/\_)));obtain⟨c0,c1,c2,c3,c4⟩:=d.out.cells;have l:=d.out.blt;obtain⟨Z,u1,u2,X,u4⟩:=(j.out.below f.out).case_;obtain⟨G,b1,b2⟩:=(j.out.below f.out).lts;clear m3 m1 w2 hD2 p1 hnt;go_wp2_with fail
  go_quiet ((go_at_call 24;exact Calls.quiet_of_same (HPl.out _)))
  have a9:=Ya (j.out.bel.trans (f.out.mono j.out.bel.size));have d9:=Ya (b5.out.below f.out);have k2:=Ya (b8.out.below f.out)
  as_aux_lemma =>
  rcases o4.out with⟨o9,hf⟩|⟨⟨hta,htb⟩,V⟩
  .as_aux_lemma =>
   have e0:(A.place==a+3)=false:=beq_eq_false_iff_ne.2 hf.place;have e1:(A.code==2)=true:=by rw[hf.code];rfl
   have Hf:=Ya hf;clear hf i1
   cases t1 <;> cases t2
   .simp at o9
   all_goals
    clear o9;go_wp2_with fail
    refine(Zri (d.out.drew _)).mono ?_;rintro e w9 ⟨rfl,rfl⟩;go_wp2_with fail
    refine(Zeq _ (HL.out.on (below_drewN a9.out _))).mono ?_;rintro e k3 ⟨rfl,m⟩;have N:=Ya ((below_drewN a9.out _).trans (m.mono (below_drewN a9.out _).size));clear m;go_wp2_with fail
    go_ret
    exact⟨rfl,N.out⟩
  subst hta htb;have a7:=d9.out.c0;have a6:=d9.out.c1;have a8:=k2.out.c0;have b3:=k2.out.c1;have f8:=d9.out.lt;have g5:=k2.out.lt;rcases V with⟨z8,hz0,hf⟩|V
  .as_aux_lemma =>
   have e0:(A.place==a+3)=false:=beq_eq_false_iff_ne.2 hf.place;have hcd:=hf.code;have e1:IntKind.i64.wrap A.code=4:=by rw[hcd];rfl
   clear hf i1 hcd;go_wp2_with fail
   refine(Z0f e7 e8 A7 A8 m7 k7 m8 k8 l7 l8 z1 z2 _ wz.heap.size (below_drewN f.out _).size (K.out.below (below_drewN f.out _)) (I.out.below (below_drewN f.out _)) op z8 hz0).mono ?_;rintro e wt ⟨rfl,J⟩;have g8:=Ya ((d.out.drew _).below (J.mono (Yb _)));have d5:=Ya ((below_drewN a9.out _).trans (J.mono (below_drewN a9.out _).size));obtain⟨a0,a1,a2,a3,a4⟩:=g8.out.cells;have z7:=g8.out.blt;clear J c0 c1 c2 c3 c4 l Z u1 u2 X u4 G b1 b2 a7 a6 a8 b3 f8 g5;unfold Zx;go_wp2_with fail
   have E:=(Yh wt.heap.size wt).alloc (Yb _) (.cells #[.bool false,.slice none 0 0] 56 (0,0));refine(Zri (g8.out.below E)).mono ?_;rintro e w9 ⟨rfl,rfl⟩;go_wp2_with fail
   have n3:=d5.out.trans (E.mono d5.out.size);refine(Zeq _ (HL.out.on n3)).mono ?_;rintro e k3 ⟨rfl,m⟩;have N:=Ya (n3.trans (m.mono n3.size));clear m E n3;go_wp2_with fail
   go_ret
   exact⟨rfl,N.out⟩
  rcases V with⟨hop3,f9⟩|⟨o6,hzz,a5⟩
  .as_aux_lemma =>
   have e0:(A.place==a+3)=true:=beq_iff_eq.2 f9.place;obtain⟨tr,m4⟩:∃t:Int,t=if (op=13/\z1=z2)\/(op=14/\z1<z2) then 1 else 0:=⟨_,rfl⟩
   have t8:A.regV 4=if tr=1 then 22 else 6:=by
    rw[f9.word,m4];by_cases c:(op=13/\z1=z2)\/(op=14/\z1<z2)
    .rw[if_pos c,if_pos c,if_pos rfl]
    .rw[if_neg c,if_neg c,if_neg (by decide)]
   have htr2:tr=0\/tr=1:=by
    rw[m4]
    split
    .exact .inr rfl
    .exact .inl rfl
   have HW4:=Ya t8;have t7:=Ya m4;clear f9 t8 m4 i1;go_wp2_with fail
   refine(Z0e e7 e8 A7 A8 m7 k7 m8 k8 l7 l8 z1 z2 _ wz.heap.size (below_drewN f.out _).size (K.out.below (below_drewN f.out _)) (I.out.below (below_drewN f.out _)) op hop3).mono ?_;rintro e wt ⟨rfl,J⟩;rw[<- t7.out];have g8:=Ya ((d.out.drew _).below (J.mono (Yb _)));have d5:=Ya ((below_drewN a9.out _).trans (J.mono (below_drewN a9.out _).size));clear J c0 c1 c2 c3 c4 l Z u1 u2 X u4 G b1 b2 a7 a6 a8 b3 f8 g5 t7;have E:=(Yh wt.heap.size wt).alloc (Yb _) (.cells #[.bool false,.slice none 0 0] 56 (0,0));have d6:=Ya (g8.out.below E);have T:=Ya (d5.out.trans (E.mono d5.out.size));obtain⟨wa,L⟩:∃x,x=wt.alloc (.cells #[.bool false,.slice none 0 0] 56 (0,0)):=⟨_,rfl⟩
   rw[<- L] at d6 T;have W:=Ya L;have HRx:=Ya (λ x:Ext wa=>Zoc 4 (d6.out.below x.property));have HAx:=Ya (λ x:Ext wa=>Zeq x.val (HL.out.on (T.out.trans (x.property.mono T.out.size))));clear E L;unfold Zx;rcases htr2 with rfl|rfl
   all_goals
    have e4:=HW4.out
    first|rw[if_neg (by decide)] at e4|rw[if_pos rfl] at e4
    have E4:=Ya e4;clear e4;go_upto_region 30 with fail
    rw[<- W.out];obtain⟨a0,a1,a2,a3,a4⟩:=d6.out.cells;have z7:=d6.out.blt;have e6:=E4.out;have hi0:=Zwl;have hi1:=Zz3;refine Z1 (by kernel_rfl) (by kernel_rfl) ?_;have hE:=Zn wa
    repeat (first
     | go_big_quiet_step ((first
      | (go_at_call 9;exact Zcm (HRx.out _))
      | (go_at_call 18;exact Zc6 (HAx.out _)))))
    refine wpQuiet_nil ?_;intro k3 n5;have m:=Zcn n5;have N:=Ya (T.out.trans (m.mono T.out.size));clear hE n5 m;go_wp2_with fail
    go_ret
    exact⟨rfl,N.out⟩
  have j9:=Ya (show(if z1<0 then -z1 else z1)<aw by rw[n0.out];exact Zia H.out.g1 (by rw[<- H.out.l1];exact w0));have i8:=Ya (show(if z2<0 then -z2 else z2)<aw by rw[m5.out];exact Zia H.out.g2 (by rw[<- H.out.l2];exact x8));have o8:=Ya (Zth (op:=op) (show D1<=40/\Y<=40 by omega) p0.out p4.out);obtain⟨z3,y6⟩:∃z,z=af op z1 z2:=⟨_,rfl⟩
  have HT:=Ya (λ(y:World) (hy:Below wz.heap.size wz y)=>Zwj e7 e8 A7 A8 m7 k7 m8 k8 l7 l8 z1 z2 y wz.heap.size hy.size (K.out.below hy) (I.out.below hy) op r3.out.1 o6 hzz (by have:=i0.out;omega) (by have:=i0.out;omega));rw[<- y6] at HT a5 o8;clear y6 hzz o6;go_wp2_with fail
  refine(HT.out _ (below_drewN f.out _)).mono ?_;rintro e wt ⟨n9,A9,m9,c9,l9,rfl,hm9,z5,J⟩;have g8:=Ya ((d.out.drew _).below (J.mono (Yb _)));have d5:=Ya ((below_drewN a9.out _).trans (J.mono (below_drewN a9.out _).size));have HBz:=Ya ((below_drewN f.out _).trans (J.mono (below_drewN f.out _).size));have HN9:=Ya z5;clear J z5 c0 c1 c2 c3 c4 l Z u1 u2 X u4 G b1 b2 a7 a6 a8 b3 f8 g5;have E:=(Yh wt.heap.size wt).alloc (Yb _) (.cells #[.bool n9,.slice A9 m9 c9] 56 (0,0));have k9:(wt.alloc (.cells #[.bool n9,.slice A9 m9 c9] 56 (0,0))).cell? ⟨wt.heap.size,0,none⟩=some (.bool n9):=by rw[Yc (heap_alloc_new wt _)];rfl
  have j7:(wt.alloc (.cells #[.bool n9,.slice A9 m9 c9] 56 (0,0))).cell? ⟨wt.heap.size,1,none⟩=some (.slice A9 m9 c9):=by rw[Yc (heap_alloc_new wt _)];rfl
  have d6:=Ya (g8.out.below E);have T:=Ya (d5.out.trans (E.mono d5.out.size));have u:=Ya (HBz.out.trans (E.mono HBz.out.size));have z6:=Ya (HN9.out.below E);have l6:=E.size;have j4:wt.heap.size<(wt.alloc (.cells #[.bool n9,.slice A9 m9 c9] 56 (0,0))).heap.size:=by simp
  obtain⟨wa,L⟩:∃x,x=wt.alloc (.cells #[.bool n9,.slice A9 m9 c9] 56 (0,0)):=⟨_,rfl⟩
  rw[<- L] at d6 T u z6 l6 j4 k9 j7;have W:=Ya L;clear E L;unfold Zx;rcases a5 with a5|⟨hf,x9⟩
  .as_aux_lemma =>
   have e0:(A.place==a+3)=true:=beq_iff_eq.2 a5.place;obtain⟨lw,hlr,t5,m2⟩:=a5.made;have hrr:A.regV 4=A.rd 4:=Zho (by decide) (by decide);have x0:=Zuj d.out.ok 4;rw[<- hrr] at x0;have o7:A.regV 26=A.rd 26:=Zho (by decide) (by decide);have r6:=Zuj d.out.ok 26;rw[<- o7] at r6;have g1:(A.memV 6==0)=true:=by rw[a5.m6];rfl
   have g2:(A.memV 8==0)=true:=by rw[a5.m8];rfl
   have g3:(A.regV 28==1056)=true:=by rw[a5.r28];rfl
   have HLR:=Ya hlr;have HLZ:=Ya t5;have HFr:=Ya m2;clear hlr t5 m2 a5 i1 hrr o7;go_wp2_with fail
   rw[<- W.out];refine(Zvs n9 A9 m9 c9 l9 z3 wa wt.heap.size l6 z6.out o8.out).mono ?_;rintro e w5 ⟨A5,k5,c5,ws,rfl,y9,s9,hk52,o3,d7,hfr5⟩;have hwl:ws=lw:=Zsb y9 HLZ.out;subst hwl;obtain⟨fx,j6⟩:∃b:Bool,b=(decide (-536870912<=z3) && decide (z3<=536870911)):=⟨_,rfl⟩
   rw[<- j6];have HFx:=Ya (show fx=false->A.regV 4/4+(k5:Int)=A.regV 26 from λ h=>by
    rw[s9];refine HFr.out ?_;rw[h] at j6;by_cases q1:-536870912<=z3
    .by_cases q2:z3<=536870911
     .rw[decide_eq_true q1,decide_eq_true q2] at j6
      cases j6
     .omega
    .omega)
   have j0:=Ya (d6.out.below d7);have R:=Ya (T.out.trans (d7.mono T.out.size));have HR5:=Ya o3;have Hk5:=Ya s9;clear j6 y9 o3 hfr5 s9 d7 k9 j7 j4 l6;obtain⟨c0,c1,c2,c3,c4⟩:=j0.out.cells;have l:=j0.out.blt;go_wp2_with fail
   refine(Zoc 4 j0.out).mono ?_;rintro e w6 ⟨rfl,rfl⟩;go_wp2_with fail
   refine(Z1e (A.regV 4) ⟨x0.1,by omega⟩ j0.out).mono ?_;rintro e w7 ⟨Ag,kg,cg,rfl,hn,hn2,hr,hb,m2⟩;rw[HLR.out] at hn hr⊢;have hkk:k5=kg:=by rw[hn,Hk5.out];rfl
   subst hkk;have HRg:=Ya (show Reads w7 w7.heap.size Ag (ws.map (Ys .u32)) from hr);have HR7:=Ya ((HR5.out.below hb).moreM hb.size);have j5:=Ya (j0.out.below (hb.mono (Yb _)));have d9:=Ya (R.out.trans (hb.mono R.out.size));clear hn hr hb m2 c0 c1 c2 c3 c4 l;obtain⟨c0,c1,c2,c3,c4⟩:=j5.out.cells;have l:=j5.out.blt;have x6:(some ws).isSome=true:=rfl;rw[x6];have g4:((k5:Int) != (k5:Int))=false:=by simp
   go_wp2_with fail
   go_loopw [25] (λ r5 wr=>∃k:Nat,k<=k5/\r5=.int .i64 k/\∃n,wr=w7.drewN n) (λ r5 _=>k5-(intOf r5).toNat)
   case atStart=>exact⟨0,Nat.zero_le _,rfl,0,rfl⟩
   case round =>
    obtain⟨k,hkle,rfl,n,rfl⟩:=hrel;by_cases p9:k<k5
    .have h1:k<ws.length:=by rw[<- Hk5.out];exact p9
     obtain⟨ba,oa,hA,t0,hca⟩:=HRg.out (by rw[Yaa];omega);obtain⟨bb,ob,hAb,hbb',hcb⟩:=HR7.out (by rw[Yaa];omega);have q0:=hca k (.int .u32 ws[k]) (by rw[Y9,Yf h1];rfl);have q1:=hcb k (.int .u32 ws[k]) (by rw[Y9,Yf h1];rfl);obtain⟨uu,hu⟩:∃x,x=ws[k]:=⟨_,rfl⟩
     rw[<- hu] at q0 q1;have p2:IntKind.i64.wrap (k:Int)=(k:Int):=Yi _ ⟨by omega,by omega⟩;have p3:IntKind.i64.wrap ((k:Int)+1)=(k:Int)+1:=Yi _ ⟨by omega,by omega⟩;have i3:(k:Int)<(k5:Int):=by omega
     have i4:(0:Int)<=(k:Int):=by omega
     have d2:decide ((k:Int)<(k5:Int))=true:=decide_eq_true i3;have d3:decide (k<k5)=true:=decide_eq_true p9;have en:(uu != uu)=false:=by simp
     subst hA hAb;clear hca hcb hu;go_wp2_with fail
     go_quiet (fail)
     go_wp2_with fail
     go_roundw
     case rel=>exact⟨k+1,p9,by go_num,_,rfl⟩
     case measure=>simp[intOf] <;> omega
    .have hke:k=k5:=by omega
     subst hke;have d2:decide ((k:Int)<(k:Int))=false:=by simp
     have d3:decide (k<k)=false:=by simp
     go_wp2_with fail
     refine(Zzr 6 (j5.out.drew _)).mono ?_;rintro e w8 ⟨rfl,r1,rfl⟩;go_wp2_with fail
     refine(Zzr 8 (j5.out.drew _)).mono ?_;rintro e w9 ⟨rfl,r2,rfl⟩;have d8:=Ya ((j5.out.drew (n+r1)).drew r2);have g6:=Ya (below_drewN (below_drewN d9.out (n+r1)) r2);obtain⟨w9,hw9⟩:∃x,x=(w7.drewN (n+r1)).drewN r2:=⟨_,rfl⟩
     rw[<- hw9] at d8 g6⊢;clear hw9 c0 c1 c2 c3 c4 l;obtain⟨c0,c1,c2,c3,c4⟩:=d8.out.cells;have l:=d8.out.blt;have j1_:IntKind.i64.wrap (A.regV 4/4)=A.regV 4/4:=Yi _ ⟨by omega,by omega⟩;have j2_:IntKind.i64.wrap (A.regV 26)=A.regV 26:=Yi _ ⟨by omega,by omega⟩;have j3_:IntKind.i64.wrap (A.regV 4/4+(k:Int))=A.regV 4/4+(k:Int):=Yi _ ⟨by omega,by omega⟩;have y5:=Ya (λ q:Nat=>(Zoc 4 (d8.out.drew q)).mono (λ _ _ x=>(⟨x.1,x.2.symm⟩:_/\_)));have q6:=Ya (λ q:Nat=>(Zoc 26 (d8.out.drew q)).mono (λ _ _ x=>(⟨x.1,x.2.symm⟩:_/\_)))
     cases fx with
     | true =>
      go_wp2_with fail
      go_quiet (fail)
      go_wp2_with fail
      refine(Zoc 28 (d8.out.drew _)).mono ?_;rintro e k3 ⟨rfl,rfl⟩;go_wp2_with fail
      refine(Zeq _ (HL.out.on (below_drewN g6.out _))).mono ?_;rintro e w11 ⟨rfl,d4⟩;have i7:=Ya ((below_drewN g6.out _).trans (d4.mono (below_drewN g6.out _).size));clear d4;go_wp2_with fail
      go_ret
      exact⟨rfl,i7.out⟩
     | false =>
      have j4_:(A.regV 4/4+(k:Int)==A.regV 26)=true:=beq_iff_eq.2 (HFx.out rfl);go_wp2_with fail
      go_quiet ((first
       | (go_at_call_of 9 (Ys IntKind.i64 4);exact Calls.quiet_of_same (y5.out _))
       | (go_at_call_of 9 (Ys IntKind.i64 26);exact Calls.quiet_of_same (q6.out _))))
      go_wp2_with fail
      refine(Zoc 28 (d8.out.drew _)).mono ?_;rintro e k3 ⟨rfl,rfl⟩;go_wp2_with fail
      refine(Zeq _ (HL.out.on (below_drewN g6.out _))).mono ?_;rintro e w11 ⟨rfl,d4⟩;have i7:=Ya ((below_drewN g6.out _).trans (d4.mono (below_drewN g6.out _).size));clear d4;go_wp2_with fail
      go_ret
      exact⟨rfl,i7.out⟩
  .as_aux_lemma =>
   have e0:(A.place==a+3)=false:=beq_eq_false_iff_ne.2 hf.place;have e1:(A.code==255)=true:=by rw[hf.code];rfl
   have t3:half<(N1:Int)+N2+8+s+3*((D1:Int)+Y)+20:=by
    have h1:=x9;unfold an at h1;omega
   have Hs2:=Ya t3;have HX1:=Ya (λ ds (h:Cn 65536 ds (if z1<0 then -z1 else z1))=>Zwk H.out.g1 HJ1.out n0.out h);have HX2:=Ya (λ ds (h:Cn 65536 ds (if z2<0 then -z2 else z2))=>Zwk H.out.g2 HJ2.out m5.out h);obtain⟨f1,f2,f3⟩:=Z5v HD1.out;obtain⟨f4,f5,f6⟩:=Z5v HD2.out;have f7:IntKind.i64.wrap ((D1:Int)+Y)=(D1:Int)+Y:=Yi _ ⟨by omega,by omega⟩;clear hf x9 t3 i1;have u5:=Ya (λ(y:World) (hy:Below wa.heap.size wa y)=>Zm4 e7 A7 m7 k7 l7 _ K.out.len y wz.heap.size (Ym u.out.size hy.size) ((K.out.at_).below (u.out.trans (hy.mono u.out.size))) (by have:=i0.out;omega) K.out.z.1 j9.out);have HDg8:=Ya (λ(y:World) (hy:Below wa.heap.size wa y)=>Zm4 e8 A8 m8 k8 l8 _ I.out.len y wz.heap.size (Ym u.out.size hy.size) ((I.out.at_).below (u.out.trans (hy.mono u.out.size))) (by have:=i0.out;omega) I.out.z.1 i8.out);have c8:=b5.out.below u.out;have b6:=b8.out.below u.out;have a7:=c8.c0;have a6:=c8.c1;have a8:=b6.c0;have b3:=b6.c1;have f8:=c8.lt;have g5:=b6.lt;have h6:=Ya c8;have h8:=Ya b6;clear c8 b6 k9 j7 j4 l6;go_upto_region 32 with fail
   rw[<- W.out]
   go_cut [20] from 231 to 239 (λ v20 wc=>v20=.int .i64 ((D1:Int)+Y)/\Hid (Below wa.heap.size wa wc))
   case first=>as_aux_lemma =>
    go_region_held3 (λ w'=>w'.cell? ⟨p7,0,none⟩=some (.bool e7)/\w'.cell? ⟨p7,1,none⟩=some (.slice A7 m7 k7)/\w'.cell? ⟨p8,0,none⟩=some (.bool e8)/\w'.cell? ⟨p8,1,none⟩=some (.slice A8 m8 k8))
     (first
      | exact⟨a7,a6,a8,b3⟩
      | exact y7
      | go_keep)
     (first
      | (go_at_call_of 27 (Ybb A7 m7 k7);go_loud (
       refine(u5.out _ ?_).mono ?_
       first
        | exact B.out
        | exact Below.drew (Yh _ _)
        | exact Yh _ _
       rintro e wD ⟨A5,k5,c5,ds5,rfl,b4,hk1,j3,k4,d7⟩;have hj:j1=k5:=((HX1.out _ j3).symm.trans b4.symm)
       have B:Hid (Below wa.heap.size wa wD):=Ya (by
        first
         | exact B.out.trans (d7.mono B.out.size)
         | exact Yba (Below.drew (Yh _ _)) d7
         | exact d7)
       have y7:=And.intro (h6.out.below B.out).c0 (And.intro (h6.out.below B.out).c1 (And.intro (h8.out.below B.out).c0 (h8.out.below B.out).c1));subst hj;clear d7 k4 j3 b4))
      | (go_at_call_of 27 (Ybb A8 m8 k8);go_loud (
       refine(HDg8.out _ ?_).mono ?_
       first
        | exact B.out
        | exact Below.drew (Yh _ _)
        | exact Yh _ _
       rintro e wE ⟨A6,k6,c6,ds6,rfl,b4,hk1,j3,k4,n4⟩;have hj:j2=k6:=((HX2.out _ j3).symm.trans b4.symm)
       have B:Hid (Below wa.heap.size wa wE):=Ya (by
        first
         | exact B.out.trans (n4.mono B.out.size)
         | exact Yba (Below.drew (Yh _ _)) n4
         | exact n4)
       have y7:=And.intro (h6.out.below B.out).c0 (And.intro (h6.out.below B.out).c1 (And.intro (h8.out.below B.out).c0 (h8.out.below B.out).c1));subst hj;clear n4 k4 j3 b4)))
    all_goals
     go_wp2_with fail
     go_meet
     exact⟨by first|rfl|rw[f3,f6,f7],B⟩
   case rest =>
   clear a7 a6 a8 b3 f8 g5 f1 f2 f3 f4 f5 f6 f7;obtain⟨rfl,i5⟩:=hcut;obtain⟨wy,rfl⟩:=Yx wc;have s5:=Ya (d6.out.below i5.out);have q7:=Ya (T.out.trans (i5.out.mono T.out.size));obtain⟨c0,c1,c2,c3,c4⟩:=s5.out.cells;have l:=s5.out.blt;have r4:=j.out.below (u.out.trans (i5.out.mono u.out.size));obtain⟨Z,u1,u2,X,u4⟩:=r4.case_;obtain⟨G,b1,b2⟩:=r4.lts;have t1_:IntKind.i64.wrap s=s:=Yi _ ⟨by omega,by omega⟩;have t2_:IntKind.i64.wrap ((N1:Int)+N2+8+s)=(N1:Int)+N2+8+s:=Yi _ ⟨by omega,by omega⟩;have t3_:IntKind.i64.wrap (3*((D1:Int)+Y))=3*((D1:Int)+Y):=Yi _ ⟨by omega,by omega⟩;have t4_:IntKind.i64.wrap ((N1:Int)+N2+8+s+3*((D1:Int)+Y))=(N1:Int)+N2+8+s+3*((D1:Int)+Y):=Yi _ ⟨by omega,by omega⟩;have t5_:IntKind.i64.wrap ((N1:Int)+N2+8+s+3*((D1:Int)+Y)+20)=(N1:Int)+N2+8+s+3*((D1:Int)+Y)+20:=Yi _ ⟨by omega,by omega⟩;have t6_:decide (half<(N1:Int)+N2+8+s+3*((D1:Int)+Y)+20)=true:=decide_eq_true Hs2.out;clear r4;go_wp2_with fail
   refine(Zri s5.out).mono ?_;rintro e w9 ⟨rfl,rfl⟩;go_wp2_with fail
   refine(Zeq _ (HL.out.on q7.out)).mono ?_;rintro e k3 ⟨rfl,m⟩;have N:=Ya (q7.out.trans (m.mono q7.out.size));clear m;go_wp2_with fail
   go_ret
   exact⟨rfl,N.out⟩
end
section
set_option maxRecDepth 100000
open Go.ChangeShapes Go.WideShapes Go.ChangeAt Go.RowKit
section
variable {H:Type}{enc:TypeId×Value->H}{w:World}{base:Nat}{spare:Nat->Bool}{held:Bool}{fuel:Nat}{cs:List Value}{x:DataW H×List MemPlace}
theorem Zwm {α:Type}[Inhabited α]{t e:TypeId}{sz:Nat}(L:prog.underlying t=some (.slice e))(R:prog.cellsOf e=sz)(M:0<sz){Rel:List Value->α->Prop}
 (U:∀n d Q,DataW.trod enc prog w base spare held n e d=some Q->∃y,Rel d y) (h:DataW.trod enc prog w base spare held fuel t cs=some x) :
 ∃(A:Option Addr)(c:Nat)(ys:List α),cs=[.slice A ys.length c]/\ys.length<=c/\ys.length<=maxLen/\(∀y∈ys,∃d,Rel d y)/\(0<ys.length->∃b off,A=some ⟨b,off,none⟩/\b<w.heap.size/\∀(i:Nat)(y:α),ys[i]?=some y->∃d:List Value,d.length=sz/\Rel d y/\∀j,j<sz->w.cell? ⟨b,off+i*sz+j,none⟩=d[j]?):=by
 rcases Deep.open_slice L h with⟨q,_⟩|⟨a,n,c,m,k,D,Pl,q,_,O,K,hm,hx,hi⟩
 .exact⟨none,0,[],q,by simp,by simp,λ y p=>(by cases p),λ hp=>by simp at hp⟩
 .rw[R] at hi
  have T:n<=m:=by rw[hm];split <;> omega
  have z:∀i,i<n->∃y:α,∃d:List Value,d.length=sz/\Rel d y/\∀j,j<sz->w.cell? (a.add (i*sz+j))=d[j]?:=by
   intro i P;obtain⟨d,J,F⟩:=hi i (by omega);obtain⟨_,C,G⟩:=World.cells?_some J;obtain⟨y,p⟩:=U _ _ _ F;exact⟨y,d,C,p,λ j I=>by rw[<- Deep.add_add];exact G j I⟩
  obtain⟨f,v⟩:=Deep.choose_lt z;refine⟨some a,c,(List.range n).map f,by simpa using q,by simp;omega,by simp;omega,λ y p=>?_,λ hp=>?_⟩
  .obtain⟨i,hi2,rfl⟩:=List.mem_map.1 p
   obtain⟨d,_,h2,_⟩:=v i (List.mem_range.1 hi2);exact⟨d,h2⟩
  .have hn:0<n:=by simpa using hp
   obtain⟨b,off,B⟩:=a;obtain⟨N,l0,_,h0⟩:=v 0 hn;have l:=h0 0 M;rw[Yf (by omega)] at l;have u:B=none:=by simpa[Addr.add] using World.cell?_spot l
   subst u;refine⟨b,off,rfl,?_,λ i y p=>?_⟩
   .rw[show(⟨b,off,none⟩:Addr).add (0*sz+0)=⟨b,off,none⟩ by simp[Addr.add]] at l
    unfold World.cell? at l
    cases hq:w.heap[b]? with
    | none=>rw[hq] at l;cases l
    | some o=>exact(Yw.1 hq).1
   .have hlti:i<n:=by have:=(List.getElem?_eq_some_iff.1 p).1;simpa using this
    have E:f i=y:=by simpa[hlti] using p
    subst E;obtain⟨d,l1,l2,l3⟩:=v i hlti;exact⟨d,l1,l2,λ j I=>by rw[Nat.add_assoc,<- Go.WideShapes.add_plain];exact l3 j I⟩
theorem Zwn:prog.cellsOf 50=2:=by kernel_rfl
theorem Zti:prog.cellsOf 53=5:=by kernel_rfl
theorem Zel:prog.cellsOf 5=1:=by kernel_rfl
theorem Zda:prog.cellsOf 51=1:=by kernel_rfl
theorem Zjj:prog.cellsOf 4=1:=by kernel_rfl
theorem Zwo:prog.cellsOf 48=1:=by kernel_rfl
theorem Zqm {y:Int}(h:(Lit.int .u16 y).wf=true):0<=y/\y<=65535:=by
 simp[Lit.wf,Ydt,Ydu,Ybu,Ycc] at h;omega
theorem Zwp {y:Int}(h:(Lit.int .u8 y).wf=true):0<=y/\y<=255:=by
 simp[Lit.wf,Ydt,Ydu,Ybu,Ycc] at h;omega
theorem Zrn {D:Nat}{v:Value}{d:DataW H}{K:List MemPlace}(j:Ydq prog w .any D 50 v)(h:DataW.Trod enc prog w base spare held 50 v d K) :
 ∃(neg:Bool)(A:Option Addr)(c:Nat)(l:List Int),v=.agg #[.bool neg,.slice A l.length c]/\l.length<=c/\l.length<=9223372036854775807/\DgB 65536 l/\Reads w w.heap.size A (l.map (Ys .u16)):=by
 obtain⟨fuel,hf⟩:=h;obtain⟨vs,rfl,f⟩:=okWide_struct underlying50 j;rw[Zwn] at f;obtain⟨l⟩:=vs
 match l,f with
 | [v0,v1],_ =>
  have L:(Value.agg ⟨[v0,v1]⟩).cells.toList=[v0,v1]:=rfl;obtain⟨y0,F,n,_,hl,h0,h1⟩:=trod_struct2 underlying50 hf;rw[L] at h0 h1;have E:DataW.trod enc prog w base spare held n 4 [v0]=some y0:=by simpa[Zjj] using h0
  have g1:DataW.trod enc prog w base spare held n 48 [v1]=some F:=by simpa[Zjj,Zwo] using h1
  obtain⟨neg,m,_⟩:=DataW.trod_bool underlying4 E;obtain⟨A,c,l,u,N,B,P,G⟩:=Zwm (α:=Int) underlying48 Zda (by decide) (Rel:=λ cs y=>cs=[.int .u16 y]/\0<=y/\y<=65535) (λ n q x' O=>by
   obtain⟨a,m,_,M⟩:=DataW.trod_int underlying51 O;exact⟨a,m,Zqm M⟩) g1
  simp only[List.cons.injEq,and_true] at m u;subst m u;have p:maxLen=9223372036854775807:=by decide
  rw[p] at B;refine⟨neg,A,c,l,rfl,N,B,λ y k=>?_,λ hp=>?_⟩
  .have:=(P y k).choose_spec.2
   omega
  .rw[Yaa] at hp
   obtain⟨b,off,e,C,t⟩:=G hp;refine⟨b,off,e,C,λ i y k=>?_⟩;rw[Y9] at k;obtain⟨z,I,rfl⟩:=Option.map_eq_some_iff.1 k;obtain⟨q,_,⟨rfl,_,_⟩,J⟩:=t i z I;have:=J 0 (by decide);rw[Nat.mul_one,Nat.add_zero] at this;exact this
theorem Zwq {u:Nat}{v:Value}{d:DataW H}{L:List MemPlace}(c:Ydq prog w .any u 53 v)(h:DataW.Trod enc prog w base spare held 53 v d L) :
 ∃o g r s i:Int,v=.agg #[.int .u8 o,.int .u16 g,.int .u16 r,.int .u8 s,.int .u8 i]/\(0<=o/\o<=255)/\(0<=g/\g<=65535)/\(0<=r/\r<=65535)/\(0<=s/\s<=255)/\(0<=i/\i<=255):=by
 obtain⟨fuel,hf⟩:=h;obtain⟨vs,rfl,b⟩:=okWide_struct underlying53 c;rw[Zti] at b;obtain⟨l⟩:=vs
 match l,b with
 | [v0,v1,v2,v3,v4],_ =>
  obtain⟨xs,n,_,_,_,f,a⟩:=DataW.trod_struct underlying53 hf;have A:xs.length=5:=f;have e:∀i,i<5->∃y,xs[i]?=some y:=λ i hi=>⟨_,Yf (by omega)⟩
  obtain⟨y0,F⟩:=e 0 (by decide);obtain⟨G,I⟩:=e 1 (by decide);obtain⟨K,z⟩:=e 2 (by decide);obtain⟨J,Q⟩:=e 3 (by decide);obtain⟨R,C⟩:=e 4 (by decide);have N:(Value.agg ⟨[v0,v1,v2,v3,v4]⟩).cells.toList=[v0,v1,v2,v3,v4]:=rfl;rw[N] at a;have D:DataW.trod enc prog w base spare held n 5 [v0]=some y0:=by
   have:=a 0 _ rfl;rw[F] at this
   simpa[Zel] using this
  have g1:DataW.trod enc prog w base spare held n 51 [v1]=some G:=by
   have:=a 1 _ rfl;rw[I] at this
   simpa[Zel,Zda] using this
  have g2:DataW.trod enc prog w base spare held n 51 [v2]=some K:=by
   have:=a 2 _ rfl;rw[z] at this
   simpa[Zel,Zda] using this
  have M:DataW.trod enc prog w base spare held n 5 [v3]=some J:=by
   have:=a 3 _ rfl;rw[Q] at this
   simpa[Zel,Zda] using this
  have E:DataW.trod enc prog w base spare held n 5 [v4]=some R:=by
   have:=a 4 _ rfl;rw[C] at this
   simpa[Zel,Zda] using this
  obtain⟨o,p,_,O⟩:=DataW.trod_int underlying5 D;obtain⟨g,j,_,P⟩:=DataW.trod_int underlying51 g1;obtain⟨r,m,_,wc⟩:=DataW.trod_int underlying51 g2;obtain⟨s,q,_,B⟩:=DataW.trod_int underlying5 M;obtain⟨i,k,_,t⟩:=DataW.trod_int underlying5 E;simp only[List.cons.injEq,and_true] at p j m q k;subst p j m q k;exact⟨o,g,r,s,i,rfl,Zwp O,Zqm P,Zqm wc,Zwp B,Zwp t⟩
end
end
