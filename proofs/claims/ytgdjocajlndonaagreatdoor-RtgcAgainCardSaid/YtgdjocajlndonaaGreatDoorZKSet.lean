/- Parts. -/
import Derived.Test.YtgdjocajlndonaaGreatDoorZKLad
import Derived.ChangeSame
import Derived.Deep.Slices
set_option linter.all false
set_option maxHeartbeats 4000000
open Go.Lib renaming hid->Ya,cell_of_heap->Yb
open List renaming getElem?_eq_getElem->Yc,length_append->Yd,length_cons->Yl,length_map->Yp,getElem?_map->Ys,map_append->Yv,mem_singleton->Yy,mem_map->Y7,take_succ_cons->Y8,take_zero->Yal,length_nil->Yas
open Array renaming getElem?_eq_some_iff->Ye,replicate->Ya2
open Nat renaming le_refl->Yf
open Go.AllReady renaming cons->Yh,nil->Yj
open Go.RowKit.Below renaming refl->Yi,heap_alloc->Ydm
open Go.IntWalk renaming i64_in->Yu,u32_in->Ybq
open Go.IntKind renaming signed->Ybl,bits->Yb2,min->Ydc,max->Ydd
namespace Go.Proofs.YtgdjocajlndonaaGreatDoor
set_option maxRecDepth 100000
section
open Go.RowKit
def S.aq (m2:S.Mach)(en:Int):Int:=if m2.state≠1 then -1 else if m2.place=en then 0 else 1+m2.code
def S.bl (m:S.Mach)(st a:Int)(N:Int):S.Mach:=((m.setV 31 st).goV a).steps_ N.toNat
section
variable {w w':World}{F:Nat->Prop}{lo b p:Nat}{H half:Int}{P:List (ByteArray×Int)}{m:S.Mach}
theorem Zvy (s:ByteArray)(N a st:Int)(hK:KAt w lo b p F H half P m)(hs:S.findP P s=some a)(hst:S.findP P S.kStub=some st)(ha:0<=a/\a<=1000000000)(hst2:0<=st/\st<=1000000000)(h0:m.state=0)(h1:m.out=[])(h2:m.steps=0)(hN:N<=100000000) :
 Calls Tryz.prog 14 #[.pointer (some ⟨b,0,none⟩),.string s,.bool false,.int .i64 N] w fun e w'=>e=.returned (.int .i64 (S.aq (S.bl m st a N) st))/\Zzh w lo b p F H half P (S.bl m st a N) w':=by
 have HK:=Ya hK;have ha1:∀ (W:World),KAt W lo b p F H half P m->Calls Tryz.prog 55 #[.pointer (some ⟨b,0,none⟩),.string s] W fun e w'=>e=.returned (.int .i64 a)/\Below W.heap.size W w':=fun W h=>by
  have:=Z32 s h;rw [hs] at this;exact this
 have hs1:∀ (W:World),KAt W lo b p F H half P m->Calls Tryz.prog 55 #[.pointer (some ⟨b,0,none⟩),.string S.kStub] W fun e w'=>e=.returned (.int .i64 st)/\Below W.heap.size W w':=fun W h=>by
  have:=Z32 S.kStub h;rw [hst] at this;exact this
 have HA:=Ya ha1;have HS:=Ya hs1;have H0:=Ya h0;have H1:=Ya h1;have H2:=Ya h2;obtain ⟨m2,hm2⟩:=Yx (S.bl m st a N);rw [<- hm2];have HD:=Ya (show ((m.setV 31 st).goV a).steps_ N.toNat=m2 from hm2.symm);clear hm2;clear hK hs hst ha1 hs1 h0 h1 h2;go_enter Tryz.func14,Tryz.ntmps14
 go_wp2_with fail
 refine (HA.out _ HK.out).mono ?_;rintro e w1 ⟨rfl,hb1⟩;have HK1:=Ya (HK.out.below hb1);have HB1:=Ya hb1;clear hb1;go_wp2_with fail
 refine (HS.out _ HK1.out).mono ?_;rintro e w2 ⟨rfl,hb2⟩;have HK2:=Ya (HK1.out.below hb2);have HB2:=Ya (HB1.out.trans (hb2.mono HB1.out.size));clear hb2 HK1 HB1;have l1:decide (a<0)=false:=by simp;omega
 have l2:st%4294967296=st:=by omega
 have l3:a%4294967296=a:=by omega
 go_upto_region 7 with fail
 obtain ⟨_,_,_,_,_,_,e0,e1,e2,e3,e4⟩:=HK2.out.cells;have hbl:=HK2.out.blt;have Hst:=Ya (show ∀ y:Ext w2,Calls Tryz.prog 55 #[.pointer (some ⟨b,0,none⟩),.string S.kStub] y.val fun e w'=>e=.returned (.int .i64 st)/\Below y.val.heap.size y.val w' from fun y=>HS.out y.val (HK2.out.below y.property));refine Zbf 11 (Ya2 11 true++Ya2 13 false) (by kernel_rfl) (by kernel_rfl) ?_;have hE:=Zf w2;have hES:=Zlv w2;simp only [Y8,Yal]
 repeat (first | go_big_quiet_step ((go_at_call 55;exact Zay (Hst.out _))))
 refine wpQuiet_nil ?_;rintro w3 ⟨⟨_,hb3⟩,rfl⟩;have HK3:=Ya (HK2.out.below hb3);have HB3:=Ya (HB2.out.trans (hb3.mono HB2.out.size));clear hE hES hb3 e0 e1 e2 e3 e4 hbl Hst HK2 HB2;change wpAny _ _ _ _ 13 _ _ _;refine wpAny_ready (rs:=[11]) (by kernel_rfl) (by simp) ?_;refine Yh rfl (fun K hK=>?_) Yj;go_simp
 refine (Z2w 31 st HK3.out ⟨by omega,by omega⟩ (by decide)).mono ?_;rintro e w4 ⟨rfl,hk4,ho4⟩;have HK4:=Ya hk4;have HP4:=Ya ((Pass.of_below (F:=F) HB3.out).trans (.of_only ho4));clear hk4 ho4 HB3 HK3;go_simp
 refine hK _ _ ?_;clear hK K;obtain ⟨_,_,_,_,_,_,e0,e1,e2,e3,e4⟩:=HK4.out.cells;have hbl:=HK4.out.blt;refine wpAny_take (i:=12) (v:=?v12n) rfl (by kernel_rfl) (by kernel_rfl) (by kernel_rfl) (fun _ _ _ h=>h) (Or.inl ⟨by rfl,?y12n⟩) ?z12n
 case y12n=>(intro w;first | (go_simp;done) | (go_simp;with_reducible rfl))
 refine wpAny_take (i:=13) (v:=?v13n) rfl (by kernel_rfl) (by kernel_rfl) (by kernel_rfl) (fun _ _ _ h=>h) (Or.inl ⟨by rfl,?y13n⟩) ?z13n
 case y13n=>(intro w;first | (go_simp;done) | (go_simp;with_reducible rfl))
 refine wpAny_take (i:=14) (v:=?v14n) rfl (by kernel_rfl) (by kernel_rfl) (by kernel_rfl) (fun _ _ _ h=>h) (Or.inl ⟨by rfl,?y14n⟩) ?z14n
 case y14n=>(intro w;first | (go_simp;done) | (go_simp;with_reducible rfl))
 refine wpAny_take (i:=15) (v:=?v15n) rfl (by kernel_rfl) (by kernel_rfl) (by kernel_rfl) (fun _ _ _ h=>h) (Or.inl ⟨by rfl,?y15n⟩) ?z15n
 case y15n=>(intro w;first | (go_simp;done) | (go_simp;with_reducible rfl))
 refine wpAny_take (i:=19) (v:=?v19n) rfl (by kernel_rfl) (by kernel_rfl) (by kernel_rfl) (fun _ _ _ h=>h) (Or.inl ⟨by rfl,?y19n⟩) ?z19n
 case y19n=>(intro w;first | (go_simp;done) | (go_simp;with_reducible rfl))
 refine wpAny_take (i:=20) (v:=?v20n) rfl (by kernel_rfl) (by kernel_rfl) (by kernel_rfl) (fun _ _ _ h=>h) (Or.inl ⟨by rfl,?y20n⟩) ?z20n
 case y20n=>(intro w;first | (go_simp;done) | (go_simp;with_reducible rfl))
 refine wpAny_ready (rs:=[16]) (by kernel_rfl) (by simp) ?_;refine Yh rfl (fun K hK=>?_) Yj;go_simp
 refine hK _ _ ?_;clear hK K;refine wpAny_ready (rs:=[17]) (by kernel_rfl) (by simp) ?_;refine Yh rfl (fun K hK=>?_) Yj;go_simp
 refine hK _ _ ?_;clear hK K;refine wpAny_ready (rs:=[18]) (by kernel_rfl) (by simp) ?_;refine Yh rfl (fun K hK=>?_) Yj;go_simp
 refine hK _ _ ?_;clear hK K;refine wpAny_ready (rs:=[21]) (by kernel_rfl) (by simp) ?_;refine Yh rfl (fun K hK=>?_) Yj;go_simp
 have hst0:(m.setV 31 st).state=0:=by rw [Zb0 (by decide) (by decide)];exact H0.out
 have hgo:Calls Tryz.prog 56 #[.pointer (some ⟨p,0,none⟩),.int .u32 a] w4 fun e w'=>e=.returned (.int .i64 0)/\KAt w' lo b p F H half P ((m.setV 31 st).goV a)/\Only F w4 w':=by
  have:=Z4v a HK4.out ⟨by omega,by omega⟩;rw [if_neg (by rw [hst0];decide)] at this;exact this
 have HGo:=Ya hgo;have Hst0:=Ya hst0;clear hgo hst0 e0 e1 e2 e3 e4 hbl;rw [show IntKind.u32.wrap a=a from Ybq _ ⟨by omega,by omega⟩];refine HGo.out.mono ?_;rintro e w5 ⟨rfl,hk5,ho5⟩;have HK5:=Ya hk5;have HP5:=Ya (HP4.out.trans (.of_only ho5));clear hk5 ho5 HP4 HK4 HGo;go_simp
 refine hK _ _ ?_;clear hK K;refine wpAny_take (i:=22) (v:=?v22n) rfl (by kernel_rfl) (by kernel_rfl) (by kernel_rfl) (fun _ _ _ h=>h) (Or.inl ⟨by rfl,?y22n⟩) ?z22n
 case y22n=>(intro w;first | (go_simp;done) | (go_simp;with_reducible rfl))
 refine wpAny_take (i:=23) (v:=?v23n) rfl (by kernel_rfl) (by kernel_rfl) (by kernel_rfl) (fun _ _ _ h=>h) (Or.inl ⟨by rfl,?y23n⟩) ?z23n
 case y23n=>(intro w;first | (go_simp;done) | (go_simp;with_reducible rfl))
 refine wpAny_done (by kernel_rfl) ?_ _;obtain ⟨_,_,_,_,_,_,e0,e1,e2,e3,e4⟩:=HK5.out.cells;have hbl:=HK5.out.blt;have Hrun:=Ya (Z30 N HK5.out (by
  unfold S.Mach.goV;rw [if_neg (by rw [Hst0.out];decide),Zb0 (by decide) (by decide)];exact H1.out) (by
  unfold S.Mach.goV;rw [if_neg (by rw [Hst0.out];decide),Zb0 (by decide) (by decide)];exact H2.out) hN)
 rw [HD.out] at Hrun;clear HD;go_wp2_with fail
 refine Hrun.out.mono ?_;rintro e w6 ⟨rfl,F6,hk6,ho6,hf6⟩;have HK6:=Ya hk6;have HP6:=Ya (HP5.out.trans (F2:=F6) ⟨ho6,hf6⟩);clear hk6 ho6 hf6 HP5 HK5 e0 e1 e2 e3 e4 hbl Hrun;have hplace:=HK6.out.ok.place0;have hplace1:=HK6.out.ok.place1;have hcode:=HK6.out.ok.code0;have hcode1:=HK6.out.ok.code1;obtain ⟨ms,hms⟩:=Yx m2.state;obtain ⟨mp,hmp⟩:=Yx m2.place;obtain ⟨mc,hmc⟩:=Yx m2.code;have HR:=Ya (show S.aq m2 st=if ms≠1 then -1 else if mp=st then 0 else 1+mc by unfold S.aq;rw [hms,hmp,hmc]);have HPl:=Ya (Z03 HK6.out);have HCo:=Ya (Z2x HK6.out);rw [<- hms];rw [<- hmp] at hplace hplace1 HPl;rw [<- hmc] at hcode hcode1 HCo;clear hms hmp hmc;obtain ⟨_,_,_,_,_,_,e0,e1,e2,e3,e4⟩:=HK6.out.cells;have hbl:=HK6.out.blt;have hfin:=Ya (show Zzh w lo b p F H half P m2 w6 from ⟨F6,HK6.out,HP6.out.1,HP6.out.2⟩);by_cases c1:ms=1
 ·have g1:(ms != 1)=false:=by simp [c1]
  rw [if_neg (fun h=>h c1)] at HR;clear c1;go_wp2_with fail
  refine HPl.out.mono ?_;rintro e _ ⟨rfl,rfl⟩;have g2:mp%18446744073709551616=mp:=by omega
  by_cases c2:mp=st
  ·have g3:(mp==st)=true:=by simp [c2]
   rw [if_pos c2] at HR;clear c2;go_wp2_with fail
   go_ret
   exact ⟨by rw [HR.out];rfl,hfin.out⟩
  ·have g3:(mp==st)=false:=by simp [c2]
   rw [if_neg c2] at HR;clear c2;go_wp2_with fail
   refine HCo.out.mono ?_;rintro e _ ⟨rfl,rfl⟩;have g4:mc%18446744073709551616=mc:=by omega
   have g5:IntKind.i64.wrap (1+mc)=1+mc:=Yu _ ⟨by omega,by omega⟩;go_wp2_with fail
   go_ret
   exact ⟨by rw [HR.out];rfl,hfin.out⟩
 ·have g1:(ms != 1)=true:=by simp [c1]
  rw [if_pos c1] at HR;clear c1;go_wp2_with fail
  go_ret
  exact ⟨by rw [HR.out];rfl,hfin.out⟩
end
end
section
open Go.RowKit
def wkW (w:World):World:=((w.alloc (.cells #[.int .u32 4,.int .u16 0,.int .u32 6,.int .u16 0] 28)).alloc (.cells #[.int .u32 12,.int .u16 0,.int .u32 0,.int .u16 2] 28)).alloc (.cells #[.int .u8 0,.slice (some ⟨w.heap.size,0,none⟩) 2 2,.int .u8 0,.slice (some ⟨w.heap.size+1,0,none⟩) 2 2] 61)
theorem Zmc (w:World):Below w.heap.size w (wkW w):=(((Yi _ _).alloc (Yf _) _).alloc (by simp) _).alloc (by simp;omega) _
theorem Zyi (w:World)(F:Nat->Prop)(hF:∀ k,F k->k<w.heap.size):NodesF (wkW w) F (some ⟨w.heap.size+1+1,0,none⟩) S.bj:=fun _=>by
 have s1:(w.alloc (.cells #[.int .u32 4,.int .u16 0,.int .u32 6,.int .u16 0] 28)).heap.size=w.heap.size+1:=by simp
 have s2:((w.alloc (.cells #[.int .u32 4,.int .u16 0,.int .u32 6,.int .u16 0] 28)).alloc (.cells #[.int .u32 12,.int .u16 0,.int .u32 0,.int .u16 2] 28)).heap.size=w.heap.size+1+1:=by simp
 have h0:(wkW w).heap[w.heap.size]?=some (.cells #[.int .u32 4,.int .u16 0,.int .u32 6,.int .u16 0] 28 (0,0)):=(Ydm _ _ _ (by rw [s2];omega)).trans ((Ydm _ _ _ (by rw [s1];omega)).trans (heap_alloc_new w _));have h1:(wkW w).heap[w.heap.size+1]?=some (.cells #[.int .u32 12,.int .u16 0,.int .u32 0,.int .u16 2] 28 (0,0)):=(Ydm _ _ _ (by rw [s2];omega)).trans (by
  have:=heap_alloc_new (w.alloc (.cells #[.int .u32 4,.int .u16 0,.int .u32 6,.int .u16 0] 28)) (.cells #[.int .u32 12,.int .u16 0,.int .u32 0,.int .u16 2] 28);rw [s1] at this;exact this)
 have h2:(wkW w).heap[w.heap.size+1+1]?=some (.cells #[.int .u8 0,.slice (some ⟨w.heap.size,0,none⟩) 2 2,.int .u8 0,.slice (some ⟨w.heap.size+1,0,none⟩) 2 2] 61 (0,0)):=by
  have:=heap_alloc_new ((w.alloc (.cells #[.int .u32 4,.int .u16 0,.int .u32 6,.int .u16 0] 28)).alloc (.cells #[.int .u32 12,.int .u16 0,.int .u32 0,.int .u16 2] 28)) (.cells #[.int .u8 0,.slice (some ⟨w.heap.size,0,none⟩) 2 2,.int .u8 0,.slice (some ⟨w.heap.size+1,0,none⟩) 2 2] 61);rw [s2] at this;exact this
 have out:∀ k,w.heap.size<=k->k<(wkW w).heap.size->Out (wkW w) F k:=fun k hk hl=>⟨hl,fun q=>by have:=hF k q;omega⟩
 have l0:=(Ye.1 h0).1;have l1:=(Ye.1 h1).1;have l2:=(Ye.1 h2).1;refine ⟨_,0,rfl,out _ (by omega) l2,fun i x hx=>?_⟩
 match i,hx with
 | 0,hx =>
  cases hx
  refine ⟨by rw [Yb h2];rfl,by decide,by decide,some ⟨w.heap.size,0,none⟩,2,by rw [Yb h2];rfl,by decide,fun _=>⟨_,0,rfl,out _ (Yf _) l0,fun j y hy=>?_⟩⟩
  match j,hy with
  | 0,hy=>cases hy;exact ⟨by rw [Yb h0];rfl,by rw [Yb h0];rfl,by decide⟩
  | 1,hy=>cases hy;exact ⟨by rw [Yb h0];rfl,by rw [Yb h0];rfl,by decide⟩
  | j+2,hy=>simp at hy
 | 1,hx =>
  cases hx
  refine ⟨by rw [Yb h2];rfl,by decide,by decide,some ⟨w.heap.size+1,0,none⟩,2,by rw [Yb h2];rfl,by decide,fun _=>⟨_,0,rfl,out _ (by omega) l1,fun j y hy=>?_⟩⟩
  match j,hy with
  | 0,hy=>cases hy;exact ⟨by rw [Yb h1];rfl,by rw [Yb h1];rfl,by decide⟩
  | 1,hy=>cases hy;exact ⟨by rw [Yb h1];rfl,by rw [Yb h1];rfl,by decide⟩
  | j+2,hy=>simp at hy
 | i+2,hx=>simp [S.bj] at hx
theorem Zas (w:World)(hL:LVE w):Calls Tryz.prog 22 #[] w fun e w'=>e=.returned (.bool true)/\Below w.heap.size w w':=by
 have Hw:=Ya (Zps none none 0 0 [] [] 40 w hL (fun h=>by simp at h) (fun h=>by simp at h) (by decide) (by decide) (fun x hx=>by cases hx) (fun x hx=>by cases hx) (by decide));clear hL;go_enter Tryz.func22,Tryz.ntmps22
 go_wp2_with fail
 refine Hw.out.mono ?_;rintro e w1 ⟨Fs,b,p,F,hwr,rfl,hk1,hb1⟩;have HWr:=Ya hwr;have HK1:=Ya hk1;have HB1:=Ya hb1;have HF:=Ya (show ∀ k,F k->k<w1.heap.size from fun k hk=>(hk1.lt k hk).2);have HFl:=Ya (show ∀ k,F k->w.heap.size<=k from fun k hk=>(hk1.lt k hk).1);clear hwr hk1 hb1 Hw;obtain ⟨m0,hm0⟩:=Yx (S.wM (S.wL [] [] Fs) 40 []);have Hm0:=Ya hm0;rw [<- hm0] at HK1;clear hm0;go_wp2_with fail
 have hrd:m0.rd 26=(S.wL [] [] Fs).length/\m0.rd 27=(S.wL [] [] Fs).length+20:=by
  have:=HWr.out.fst.rd;rw [<- Hm0.out] at this;exact ⟨this 26,this 27⟩
 obtain ⟨H,hH⟩:∃ H:Int,H=(S.wL [] [] Fs).length:=⟨_,rfl⟩
 have hHb:0<=H/\H<=12000:=by have:=HWr.out.small;omega
 rw [<- hH] at hrd;have HH:=Ya hH;have HRd:=Ya hrd;have hlay:=Z21 (HK1.out.below (Zmc w1)) (some ⟨w1.heap.size+1+1,0,none⟩) 2 S.bj (Zyi w1 F HF.out) (by decide) (by rw [hrd.1];omega) (Zaz (by decide) (by rw [hrd.1];omega)) (by
  have h1:=(HWr.out.ok true).size2;have h2:=HWr.out.wd.len;rw [<- Hm0.out] at h2;have h3:(S.ab true [] [] Fs ((S.wL [] [] Fs).length+40)).size=(S.wL [] [] Fs).length+40:=rfl;omega)
 have Hlay:=Ya hlay;have HB2:=Ya (HB1.out.trans ((Zmc w1).mono HB1.out.size));clear hlay hrd hH;refine Hlay.out.mono ?_;rintro e w2 (⟨hno,-⟩ | ⟨-,gb,rfl,hg2,hk2,ho2⟩)
 ·exfalso
  rw [HRd.out.1,HRd.out.2] at hno;have:S.sizes (S.ac S.bj)=6:=rfl;omega
 have hs6:S.sizes (S.ac S.bj)=6:=rfl;rw [HRd.out.1,hs6,<- HH.out,show (40:Int)/2=20 from by decide] at hk2;rw [HRd.out.1] at hg2;have HG2:=Ya hg2;have HK2:=Ya hk2;have HP2:=Ya ((Pass.of_below (F:=F) (Zmc w1)).trans (.of_only ho2));clear hs6 hg2 hk2 ho2 Hlay HK1 HB2;obtain ⟨g,hgE⟩:=Yx (S.ah S.bj H);have HgE:=Ya hgE;rw [<- hgE] at HG2 HK2;clear hgE;go_wp2_with fail
 have hgw:=Zcn (0,2) (by decide) HG2.out;have hw0:g.word (0,2)=4*(H+3)+1:=by rw [HgE.out];exact Zpt H
 rw [hw0] at hgw;have Hgw:=Ya hgw;clear hgw hw0;refine Hgw.out.mono ?_;rintro e w3 ⟨rfl,hb3⟩;have HP3:=Ya (HP2.out.trans (.of_below hb3));have HG3:=Ya (HG2.out.below hb3);have HK3:=Ya (HK2.out.below hb3);clear hb3 HP2 HG2 HK2 Hgw;have hw0b:0<=4*(H+3)+1/\4*(H+3)+1<=4294967295:=by omega
 obtain ⟨w0,hw0⟩:=Yx (4*(H+3)+1);have Hw0:=Ya hw0;rw [<- hw0] at hw0b ⊢;clear hw0;go_upto_region 8 with fail
 have hb4:Below w3.heap.size w3 (w3.alloc (.cells #[.int .u32 w0] 25)):=(Yi _ _).alloc (Yf _) _;have hr4:=heap_alloc_new w3 (.cells #[.int .u32 w0] 25);generalize w3.alloc (.cells #[.int .u32 w0] 25)=w4 at *;have HP4:=Ya (HP3.out.trans (.of_below hb4));have HG4:=Ya (HG3.out.below hb4);have HK4:=Ya (HK3.out.below hb4);have hz34:w3.heap.size<w4.heap.size:=(Ye.1 hr4).1;have hnF:¬ F w3.heap.size:=fun q=>by
  have h1:=HF.out _ q;have h2:=HP3.out.1.size;omega
 have HO4:Hid (Out w4 F w3.heap.size):=Ya ⟨hz34,hnF⟩;have HR4:=Ya hr4;have a0:w4.cell? ⟨w3.heap.size,0,none⟩=some (.int .u32 w0):=by rw [Yb hr4];rfl
 clear hb4 hr4 HP3 HG3 HK3;generalize w3.heap.size=wb at *;obtain ⟨_,_,_,_,_,_,e0,e1,e2,e3,e4⟩:=HK4.out.cells;have hbl:=HK4.out.blt;refine Ze 7 (by kernel_rfl) (by kernel_rfl) ?_;have hE:=Zf w4;simp only [Y8,Yal,List.drop_succ_cons,List.drop_zero]
 repeat (first | go_big_quiet_step (fail))
 refine wpQuiet_nil ?_;rintro w5 ⟨⟨_,hb5⟩,rfl⟩;have HP5:=Ya (HP4.out.trans (.of_below hb5));have HG5:=Ya (HG4.out.below hb5);have HK5:=Ya (HK4.out.below hb5);have hq5:=HO4.out.pass (.of_below (F:=F) hb5);have HO5:=Ya hq5.1;have HR5:=Ya (hq5.2.trans HR4.out);clear hE hb5 HP4 HG4 HK4 HO4 HR4 hq5 e0 e1 e2 e3 e4 hbl a0 hz34;go_wp2_with fail
 refine (Zdi 16 w0 HK5.out hw0b).mono ?_;rintro e w6 ⟨rv,rfl,hk6,ho6⟩;have HK6:=Ya hk6;have HP6:=Ya (HP5.out.trans (.of_only ho6));have HG6:=Ya (HG5.out.pass (.of_only ho6));have hq6:=HO5.out.pass (.of_only ho6);have HO6:=Ya hq6.1;have HR6:=Ya (hq6.2.trans HR5.out);clear hk6 ho6 HK5 HP5 HG5 HO5 HR5 hq6;obtain ⟨_,_,_,_,_,_,e0,e1,e2,e3,e4⟩:=HK6.out.cells;have hbl:=HK6.out.blt;go_wp2_with fail
 refine (Zdi 8 1 HK6.out (by decide)).mono ?_;rintro e w7 ⟨rv2,rfl,hk7,ho7⟩;have hmM:((((S.ag g m0).setV 26 (H+6)).putV 16 w0).putV 8 1)=S.cz H m0:=by rw [HgE.out,Hw0.out];rfl
 rw [hmM] at hk7;have HK7:=Ya hk7;have HP7:=Ya (HP6.out.trans (.of_only ho7));have HG7:=Ya (HG6.out.pass (.of_only ho7));have hq7:=HO6.out.pass (.of_only ho7);have HO7:=Ya hq7.1;have HR7:=Ya (hq7.2.trans HR6.out);clear hk7 ho7 HK6 HP6 HG6 HO6 HR6 hq7 e0 e1 e2 e3 e4 hbl hmM;obtain ⟨I,hIe⟩:=Yx (S.ab true [] [] Fs (H+40));have hok:∀ b,(S.ab b [] [] Fs (H+40)).Ok:=fun b=>by rw [HH.out];exact HWr.out.ok b
 have hlab:H=(S.ab true [] [] Fs (H+40)).lab S.kEnd:=by rw [HH.out];exact HWr.out.len
 have hrun:=Z2o (m0:=m0) hok hlab (by rw [Hm0.out,HH.out];exact HWr.out.wd) (by rw [Hm0.out,HH.out];exact HWr.out.fst.m2) (by rw [Hm0.out,HH.out];exact HWr.out.fst.m3) (by rw [Hm0.out];exact HWr.out.fst.m4) (by rw [Hm0.out];exact HWr.out.fst.m5) (by rw [Hm0.out];exact HWr.out.fst.low) (by omega);obtain ⟨hwd,hkept,hst1,hpl⟩:=hrun;have hlen2:=Zgr (I:=I) hwd S.kCollect 20000;rw [<- hIe] at hkept hst1 hpl;obtain ⟨_,l1,l2⟩:=Za2 (hok true) Zcx;obtain ⟨f1,_,_⟩:=Za2 (hok true) Zcx;obtain ⟨f2,l3,l4⟩:=Za2 (hok true) (s:=S.kCollect) Zch;rw [<- hIe] at l1 l2 l3 l4 f1 f2;obtain ⟨m2,hm2⟩:=Yx (S.aj I (S.cz H m0) S.kCollect 20000);rw [<- hm2] at hkept hst1 hpl;have hcallR:S.aq m2 (I.lab S.kStub)=0:=by
  unfold S.aq;rw [if_neg (fun h=>h hst1),if_pos hpl]
 have hdb:Below w7.heap.size w7 w7.drew:=Zba (Yi _ _);have hcall:=Zvy S.kCollect 20000 (I.lab S.kCollect) (I.lab S.kStub) (HK7.out.below hdb) f2 f1 ⟨l3,by omega⟩ ⟨l1,by omega⟩ hwd.run hwd.out hwd.steps (by decide);have hcv:S.bl (S.cz H m0) (I.lab S.kStub) (I.lab S.kCollect) 20000=m2:=by rw [hm2];rfl
 rw [hcv,hcallR] at hcall;have HKl:=Ya (show (m2.mem.length:Int)=H+40 from by rw [hm2];exact hlen2);have Hcall:=Ya hcall;have Hkept:=Ya hkept;clear hcall hkept hst1 hpl hcallR hcv hm2 hlen2 f1 f2 l1 l2 l3 l4 hIe hok hlab hwd;go_upto_region 10 with fail
 refine wp_region_any (by kernel_rfl) ?_;change wpAny _ _ _ _ _ _ _ (World.drew w7);have HPd:=Ya (HP7.out.trans (.of_below hdb));have hqd:=HO7.out.pass (.of_below (F:=F) hdb);have HOd:=Ya hqd.1;have HRd2:=Ya (hqd.2.trans HR7.out);have HGd:=Ya (HG7.out.below hdb);clear hdb HP7 HO7 HR7 HG7 HK7 hqd;generalize w7.drew=wd at *;refine wpAny_take (i:=0) (v:=?v0n1) rfl (by kernel_rfl) (by kernel_rfl) (by kernel_rfl) (fun _ _ _ h=>h) (Or.inl ⟨by rfl,?y0n1⟩) ?z0n1
 case y0n1=>(intro w;first | (go_simp;done) | (go_simp;with_reducible rfl))
 refine wpAny_ready (rs:=[1]) (by kernel_rfl) (by simp) ?_;refine Yh rfl (fun K hK=>?_) Yj;go_simp
 refine Hcall.out.mono ?_;rintro e w8 ⟨rfl,F8,hk8,ho8,hf8⟩;have HK8:=Ya hk8;have hp8:Pass F wd F8 w8:=⟨ho8,hf8⟩
 have HP8:=Ya (HPd.out.trans hp8);have HG8:=Ya (HGd.out.pass hp8);have hq8:=HOd.out.pass hp8;have HR8:=Ya (hq8.2.trans HRd2.out);have hwb8:wb<w8.heap.size:=hq8.1.1;clear hk8 ho8 hf8 hp8 hq8 HPd HOd HRd2 HGd Hcall;go_simp
 refine hK _ _ ?_;clear hK K;refine wpAny_take (i:=2) (v:=?v2n2) rfl (by kernel_rfl) (by kernel_rfl) (by kernel_rfl) (fun _ _ _ h=>h) (Or.inl ⟨by rfl,?y2n2⟩) ?z2n2
 case y2n2=>(intro w;first | (go_simp;done) | (go_simp;with_reducible rfl))
 refine wpAny_take (i:=3) (v:=?v3n3) rfl (by kernel_rfl) (by kernel_rfl) (by kernel_rfl) (fun _ _ _ h=>h) (Or.inl ⟨by rfl,?y3n3⟩) ?z3n3
 case y3n3=>(intro w;first | (go_simp;done) | (go_simp;with_reducible rfl))
 refine wpAny_take (i:=4) (v:=?v4n4) rfl (by kernel_rfl) (by kernel_rfl) (by kernel_rfl) (fun _ _ _ h=>h) (Or.inl ⟨by rfl,?y4n4⟩) ?z4n4
 case y4n4=>(intro w;first | (go_simp;done) | (go_simp;with_reducible rfl))
 refine wpAny_take (i:=5) (v:=?v5n5) rfl (by kernel_rfl) (by kernel_rfl) (by kernel_rfl) (fun _ _ _ h=>h) (Or.inl ⟨by rfl,?y5n5⟩) ?z5n5
 case y5n5=>(intro w;first | (go_simp;done) | (go_simp;with_reducible rfl))
 refine wpAny_take (i:=6) (v:=?v6n6) rfl (by kernel_rfl) (by kernel_rfl) (by kernel_rfl) (fun _ _ _ h=>h) (Or.inl ⟨by rfl,?y6n6⟩) ?z6n6
 case y6n6=>(intro w;first | (go_simp;done) | (go_simp;with_reducible rfl))
 refine wpAny_take (i:=7) (v:=?v7n7) rfl (by kernel_rfl) (by kernel_rfl) (by kernel_rfl) (fun _ _ _ h=>h) (Or.inl ⟨by rfl,?y7n7⟩) ?z7n7
 case y7n7=>(intro w;first | (go_simp;done) | (go_simp;with_reducible rfl))
 refine wpAny_ready (rs:=[8]) (by kernel_rfl) (by simp) ?_;refine Yh rfl (fun K hK=>?_) Yj;go_simp
 have hlen2:(12:Int)+12<=m2.mem.length:=by
  have:=HKl.out;omega
 have e16:m2.memV 16=m2.mv 16:=Zbj (by decide) (by omega);have hwd16:=Zbg 16 HK8.out;rw [e16] at hwd16;have Hwd16:=Ya hwd16;have hb16:=HK8.out.ok.memw 16;obtain ⟨v16,hv16⟩:=Yx (m2.mv 16);have hb16':0<=v16/\v16<=4294967295:=by rw [hv16];exact hb16
 rw [<- hv16] at Hwd16;have Hv16:=Ya hv16;clear hwd16 e16 hb16 hv16;refine Hwd16.out.mono ?_;rintro e w9 ⟨rfl,hb9⟩;have HK9:=Ya (HK8.out.below hb9);have HG9:=Ya (HG8.out.below hb9);have HP9:=Ya (HP8.out.trans (.of_below hb9));have HR9:=Ya ((hb9.block wb hwb8).trans HR8.out);have hz9:=hb9.size;clear hb9 HK8 HG8 HP8 HR8 Hwd16;go_simp
 refine hK _ _ ?_;clear hK K;refine wpAny_ready (rs:=[9]) (by kernel_rfl) (by simp) ?_;refine Yh rfl (fun K hK=>?_) Yj;go_simp
 refine hK _ _ ?_;clear hK K;have hb10:Below w9.heap.size w9 (w9.alloc (.cells #[.int .u32 v16] 25)):=(Yi _ _).alloc (Yf _) _;have hr10:=heap_alloc_new w9 (.cells #[.int .u32 v16] 25);generalize w9.alloc (.cells #[.int .u32 v16] 25)=w10 at *;have HK10:=Ya (HK9.out.below hb10);have HG10:=Ya (HG9.out.below hb10);have HP10:=Ya (HP9.out.trans (.of_below hb10));have HR10:=Ya ((hb10.block wb (by omega)).trans HR9.out);have hz10:w9.heap.size<w10.heap.size:=(Ye.1 hr10).1;have hkp:Calls Tryz.prog 20 #[.pointer (some ⟨b,0,none⟩),.pointer (some ⟨gb,0,none⟩),.slice (some ⟨wb,0,none⟩) 1 1,.slice (some ⟨w9.heap.size,0,none⟩) 1 1] w10 fun e w'=>e=.returned (.bool true)/\Below w10.heap.size w10 w':=by
  obtain ⟨nu,hke⟩:=Hkept.out.keeps;have hgo:g.Ok H:=by rw [HgE.out];exact Zaz (by decide) ⟨hHb.1,by omega⟩
  have hsz:S.sizes g.ns=6:=by rw [HgE.out];rfl
  have e1:([16]:List Int).map m2.mv=[v16]:=by rw [Hv16.out];rfl
  rw [e1,<- HgE.out,<- Hw0.out,<- Hkept.out.m2] at hke;have hre:=Zkl H ⟨hHb.1,by omega⟩;rw [<- HgE.out,<- Hw0.out] at hre;exact Zqp HK10.out HG10.out hgo (by omega) (some ⟨wb,0,none⟩) (some ⟨w9.heap.size,0,none⟩) 1 1 [w0] [v16] (Zku HR10.out rfl (by omega)) (Zku hr10 rfl hz10) (fun r hr=>by rw [Yy] at hr;omega) (fun r hr=>by rw [Yy] at hr;omega) (by simp) hke (by
   have h1:=hke.size 3 [1] hre;have h2:=HKl.out;have h3:=Hkept.out.m2;omega) (by omega) (by have:=HKl.out;omega) (by decide) ⟨_,_,hre⟩
 have Hkp:=Ya hkp;clear hb10 hr10 hkp HK9 HG9 HP9 HR9;refine wpAny_ready (rs:=[10]) (by kernel_rfl) (by simp) ?_;refine Yh rfl (fun K hK=>?_) Yj;go_simp
 refine Hkp.out.mono ?_;rintro e w11 ⟨rfl,hb11⟩;have HK11:=Ya (HK10.out.below hb11);have HP11:=Ya (HP10.out.trans (.of_below hb11));clear hb11 HK10 HP10 HG10 HR10 Hkp;go_simp
 refine hK _ _ ?_;clear hK K;refine wpAny_take (i:=11) (v:=?v11n8) rfl (by kernel_rfl) (by kernel_rfl) (by kernel_rfl) (fun _ _ _ h=>h) (Or.inl ⟨by rfl,?y11n8⟩) ?z11n8
 case y11n8=>(intro w;first | (go_simp;done) | (go_simp;with_reducible rfl))
 refine wpAny_take (i:=12) (v:=?v12n9) rfl (by kernel_rfl) (by kernel_rfl) (by kernel_rfl) (fun _ _ _ h=>h) (Or.inl ⟨by rfl,?y12n9⟩) ?z12n9
 case y12n9=>(intro w;first | (go_simp;done) | (go_simp;with_reducible rfl))
 refine wpAny_take (i:=13) (v:=?v13n10) rfl (by kernel_rfl) (by kernel_rfl) (by kernel_rfl) (fun _ _ _ h=>h) (Or.inl ⟨by rfl,?y13n10⟩) ?z13n10
 case y13n10=>(intro w;first | (go_simp;done) | (go_simp;with_reducible rfl))
 refine wpAny_take (i:=15) (v:=?v15n11) rfl (by kernel_rfl) (by kernel_rfl) (by kernel_rfl) (fun _ _ _ h=>h) (Or.inl ⟨by rfl,?y15n11⟩) ?z15n11
 case y15n11=>(intro w;first | (go_simp;done) | (go_simp;with_reducible rfl))
 refine wpAny_take (i:=16) (v:=?v16n12) rfl (by kernel_rfl) (by kernel_rfl) (by kernel_rfl) (fun _ _ _ h=>h) (Or.inl ⟨by rfl,?y16n12⟩) ?z16n12
 case y16n12=>(intro w;first | (go_simp;done) | (go_simp;with_reducible rfl))
 refine wpAny_take (i:=17) (v:=?v17n13) rfl (by kernel_rfl) (by kernel_rfl) (by kernel_rfl) (fun _ _ _ h=>h) (Or.inl ⟨by rfl,?y17n13⟩) ?z17n13
 case y17n13=>(intro w;first | (go_simp;done) | (go_simp;with_reducible rfl))
 have e2:m2.memV 2=H+20:=by rw [Zbj (by decide) (by have:=HKl.out;omega)];exact Hkept.out.m2
 have Hwd2:=Ya (show ∀ y:Ext w11,Calls Tryz.prog 17 #[.pointer (some ⟨b,0,none⟩),.int .i64 2] y.val fun e w'=>e=.returned (.int .u32 (H+20))/\Below y.val.heap.size y.val w' from fun y=>by
  rw [<- e2];exact Zbg 2 (HK11.out.below y.property))
 have u1:IntKind.i64.wrap (H+20)=H+20:=Yu _ ⟨by omega,by omega⟩;have u2:IntKind.u32.wrap (H+20)=H+20:=Ybq _ ⟨by omega,by omega⟩;have u3:(H+20)%4294967296=H+20:=by omega
 have Hu1:=Ya u1;have Hu2:=Ya u2;obtain ⟨_,_,_,_,_,_,e0,e1,e2',e3,e4⟩:=HK11.out.cells;have hbl:=HK11.out.blt;clear e2;refine wpAny_ready (rs:=[14,18]) (by kernel_rfl) (by simp) ?_;refine Yh rfl (fun K hK=>?_) (Yh rfl (fun K hK=>?_) Yj)
 ·go_simp
  refine (Hwd2.out ⟨w11,Yi _ _⟩).mono ?_;rintro e w12 ⟨rfl,hb12⟩;have HK12:=Ya (HK11.out.below hb12);have HPz:=Ya (HP11.out.trans (.of_below hb12));obtain ⟨_,_,_,_,_,_,i0,i1,i2,i3,i4⟩:=HK12.out.cells;have hbl2:=HK12.out.blt;clear hb12;go_simp
  refine hK _ _ ?_;clear hK K;refine wpAny_ready (rs:=[18]) (by kernel_rfl) (by simp) ?_;refine Yh rfl (fun K hK=>?_) Yj;go_simp
  refine hK _ _ ?_;clear hK K;refine wpAny_take (i:=19) (v:=?v19n101) rfl (by kernel_rfl) (by kernel_rfl) (by kernel_rfl) (fun _ _ _ h=>h) (Or.inl ⟨by rfl,?y19n101⟩) ?z19n101
  case y19n101=>(intro w;first | (go_simp;done) | (go_simp;with_reducible rfl))
  refine wpAny_take (i:=20) (v:=?v20n102) rfl (by kernel_rfl) (by kernel_rfl) (by kernel_rfl) (fun _ _ _ h=>h) (Or.inl ⟨by rfl,?y20n102⟩) ?z20n102
  case y20n102=>(intro w;first | (go_simp;done) | (go_simp;with_reducible rfl))
  refine wpAny_take (i:=21) (v:=?v21n103) rfl (by kernel_rfl) (by kernel_rfl) (by kernel_rfl) (fun _ _ _ h=>h) (Or.inl ⟨by rfl,?y21n103⟩) ?z21n103
  case y21n103=>(intro w;first | (go_simp;done) | (go_simp;with_reducible rfl))
  refine wpAny_take (i:=22) (v:=?v22n104) rfl (by kernel_rfl) (by kernel_rfl) (by kernel_rfl) (fun _ _ _ h=>h) (Or.inl ⟨by rfl,?y22n104⟩) ?z22n104
  case y22n104=>(intro w;first | (go_simp;done) | (go_simp;with_reducible rfl))
  refine wpAny_take (i:=23) (v:=?v23n105) rfl (by kernel_rfl) (by kernel_rfl) (by kernel_rfl) (fun _ _ _ h=>h) (Or.inl ⟨by rfl,?y23n105⟩) ?z23n105
  case y23n105=>(intro w;first | (go_simp;done) | (go_simp;with_reducible rfl))
  refine wpAny_done (by kernel_rfl) ?_ _;go_wp2_with fail
  refine bodyPost_ret (v:=.bool true) (by simp [results,Tryz.results22,go_sem,Hu1.out,Hu2.out]) rfl ⟨rfl,?_⟩;exact HB1.out.trans ((HPz.out.1.below HB1.out.size fun k hk=>HFl.out k hk))
 ·go_simp
  refine hK _ _ ?_;clear hK K;refine wpAny_take (i:=19) (v:=?v19n106) rfl (by kernel_rfl) (by kernel_rfl) (by kernel_rfl) (fun _ _ _ h=>h) (Or.inl ⟨by rfl,?y19n106⟩) ?z19n106
  case y19n106=>(intro w;first | (go_simp;done) | (go_simp;with_reducible rfl))
  refine wpAny_take (i:=20) (v:=?v20n107) rfl (by kernel_rfl) (by kernel_rfl) (by kernel_rfl) (fun _ _ _ h=>h) (Or.inl ⟨by rfl,?y20n107⟩) ?z20n107
  case y20n107=>(intro w;first | (go_simp;done) | (go_simp;with_reducible rfl))
  refine wpAny_ready (rs:=[14]) (by kernel_rfl) (by simp) ?_;refine Yh rfl (fun K hK=>?_) Yj;go_simp
  refine (Hwd2.out ⟨w11,Yi _ _⟩).mono ?_;rintro e w12 ⟨rfl,hb12⟩;have HPz:=Ya (HP11.out.trans (.of_below hb12));clear hb12;go_simp
  refine hK _ _ ?_;clear hK K;refine wpAny_take (i:=21) (v:=?v21n108) rfl (by kernel_rfl) (by kernel_rfl) (by kernel_rfl) (fun _ _ _ h=>h) (Or.inl ⟨by rfl,?y21n108⟩) ?z21n108
  case y21n108=>(intro w;first | (go_simp;done) | (go_simp;with_reducible rfl))
  refine wpAny_take (i:=22) (v:=?v22n109) rfl (by kernel_rfl) (by kernel_rfl) (by kernel_rfl) (fun _ _ _ h=>h) (Or.inl ⟨by rfl,?y22n109⟩) ?z22n109
  case y22n109=>(intro w;first | (go_simp;done) | (go_simp;with_reducible rfl))
  refine wpAny_take (i:=23) (v:=?v23n110) rfl (by kernel_rfl) (by kernel_rfl) (by kernel_rfl) (fun _ _ _ h=>h) (Or.inl ⟨by rfl,?y23n110⟩) ?z23n110
  case y23n110=>(intro w;first | (go_simp;done) | (go_simp;with_reducible rfl))
  refine wpAny_done (by kernel_rfl) ?_ _;go_wp2_with fail
  refine bodyPost_ret (v:=.bool true) (by simp [results,Tryz.results22,go_sem,Hu1.out,Hu2.out]) rfl ⟨rfl,?_⟩;exact HB1.out.trans ((HPz.out.1.below HB1.out.size fun k hk=>HFl.out k hk))
end
section
open Go.RowKit
section
variable {w w':World}{F:Nat->Prop}{lo b p_:Nat}{H half:Int}{P:List (ByteArray×Int)}{m:S.Mach}
theorem Zh7 (hK:KAt w lo b p_ F H half P m)(A0:Option Addr)(c0:Nat)(L:List Int)(hL:Reads w w.heap.size A0 (L.map (Value.int .i64)))(hl:L.length<=1000) :
 Calls Tryz.prog 21 #[.pointer (some ⟨b,0,none⟩),.slice A0 L.length c0] w fun e w'=>∃ A c,e=.returned (.slice A L.length c)/\w'.ownsRow w.heap.size 25 1 (.slice A L.length c) L.length ((L.map m.memV).map (Value.int .u32))/\Below w.heap.size w w':=by
 have HK:=Ya hK;have HL:=Ya hL;obtain ⟨T,hT⟩:=Yx L.length;rw [<- hT] at hl ⊢;have HT:=Ya hT;clear hK hL hT;go_enter Tryz.func21,Tryz.ntmps21
 go_wp2_with fail
 go_loopw [5,6] (fun v5 v6 wl=>∃ k:Nat,k<=T/\v6=.int .i64 k/\(∃ A c,v5=.slice A k c/\Hid (wl.ownsRow w.heap.size 25 1 (.slice A k c) k (((L.take k).map m.memV).map (Value.int .u32))))/\Hid (Below w.heap.size w wl)) (fun _ v6 _=>T-(intOf v6).toNat)
 case atStart=>exact ⟨0,by omega,rfl,⟨none,0,rfl,Ya (World.ownsRow_nil _ _ _ _)⟩,Ya (Yi _ _)⟩
 case round =>
  obtain ⟨k,hk,rfl,⟨A,c,rfl,HO⟩,HB⟩:=hrel;have hz:=HB.out.size;by_cases hlt:k<T
  ·have hkl:k<L.length:=by rw [<- HT.out];exact hlt
   obtain ⟨ba,oa,hA,hba,hca⟩:=HL.out (by rw [Yp];omega);have q0:wr.cell? ⟨ba,oa+k,none⟩=some (.int .i64 L[k]):=by
    refine (World.cell?_of_block (w:=w) (a:=⟨ba,oa+k,none⟩) (HB.out.block ba hba)).trans (hca k _ ?_);rw [Ys,Yc hkl];rfl
   have Htk:=Ya (show (L.take (k+1)).map m.memV=(L.take k).map m.memV++[m.memV L[k]] from by rw [List.take_add_one,Yc hkl,Yv];rfl);obtain ⟨y,hy⟩:=Yx L[k];rw [<- hy] at q0 Htk;have hwd:=Zbg y (HK.out.below HB.out);obtain ⟨v,hv⟩:=Yx (m.memV y);rw [<- hv] at hwd Htk;have Hwd:=Ya hwd;have d1:decide ((k:Int)<T)=true:=by simp;omega
   have c2:IntKind.i64.wrap ((k:Int)+1)=k+1:=Yu _ ⟨by omega,by omega⟩;have hba2:ba<wr.heap.size:=by omega
   subst hA;clear hwd hca hy hv;go_wp2_with fail
   refine Hwd.out.mono ?_;rintro e w2 ⟨rfl,hb2⟩;have HB2:=Ya (HB.out.trans (hb2.mono hz));have HO2:=Ya (Zc HO.out hb2);have hz2:=HB2.out.size;clear hb2 HB HO Hwd q0;go_upto_region 4 with (at_builtin;refine Zg rfl (.tmp 13) (.tmp 20) _ rfl w.heap.size 25 Zy Tryz.underlying33 rfl (by decide) #[.int .u32 v] _ k _ rfl HO2.out rfl rfl rfl (by simp [Value.oneCell']) (by simp only [maxLen];omega) (by omega) hz2 ?_;intro v' w7 ho7 hg7 hb7 _;obtain ⟨A8,c8,rfl⟩:=Za ho7)
   have HB7:=Ya (HB2.out.trans hb7);have HO7:Hid (w7.ownsRow w.heap.size 25 1 (.slice A8 (k+1) c8) (k+1) (((L.take (k+1)).map m.memV).map (Value.int .u32))):=Ya (by
    rw [Htk.out,Yv];exact ho7)
   clear ho7 hg7 hb7 HO2 HB2;go_wp2_with fail
   go_roundw
   case rel=>exact ⟨k+1,by omega,rfl,⟨A8,c8,rfl,HO7⟩,HB7⟩
   case measure=>simp [intOf];omega
  ·have hke:T=k:=by omega
   subst hke;have d1:decide ((T:Int)<T)=false:=by simp
   go_wp2_with fail
   go_ret
   refine ⟨A,c,rfl,?_,HB.out⟩;have h:=HO.out;have e:L.take T=L:=by rw [HT.out,List.take_length]
   rw [e] at h;exact h
end
theorem SttF.below {w w':World}{An Ar Ag As Aq Ap:Option Addr}{x:S.am}(h:SttF w An Ar Ag As Aq Ap x)(hb:Below w.heap.size w w'):SttF w' An Ar Ag As Aq Ap x:=by
 have hp:Pass (fun k=>w.heap.size<=k) w (fun k=>w'.heap.size<=k) w':=⟨.of_below hb,fun k hk q=>by have:=hb.size;omega⟩
 exact ⟨h.nodes.pass hp,h.roots.pass hp,h.glob.pass hp,h.stat.pass hp,h.slots.pass hp,h.places.pass hp,h.few⟩
end
section
open Go.RowKit
section
variable {wx w w':World}{lo b p gb:Nat}{F F':Nat->Prop}{H half:Int}{P:List (ByteArray×Int)}{g:S.Gr}{m m':S.Mach}{Aw Aa:Option Addr}{was at_:List Int}
end
theorem Zkx (g:S.Gr)(sl:List (Int×Int))(pl:List Int):∀ n:Nat,(S.af g sl pl n).2.2.length<=n
 | 0=>by simp [S.af]
 | n+1=>by
  have ih:=Zkx g sl pl n;rw [S.af]
  split
  ·split
   ·omega
   ·simp only [Yd,Yl,Yas];omega
  ·split
   ·omega
   ·simp only [Yd,Yl,Yas];omega
theorem Zmd (x:S.am)(g:S.Gr):(x.pl g).length<=27:=by
 have h:=Zb3 x;have h2:(x.q g).2.2.length<=x.nq:=Zkx _ _ _ _;unfold S.am.pl;simp only [Yd,Zx2,Yl];omega
end
section
set_option maxRecDepth 100000
open Go.ChangeShapes Go.WideShapes Go.ChangeAt Go.RowKit
section
variable {H:Type}{enc:TypeId×Value->H}{w:World}{base:Nat}{spare:Nat->Bool}{held:Bool}{fuel:Nat}{cs:List Value}{x:DataW H×List MemPlace}
theorem Zjb {α:Type}[Inhabited α]{t e:TypeId}{sz:Nat}(ht:Tryz.prog.underlying t=some (.slice e))(hc:Tryz.prog.cellsOf e=sz)(hs:0<sz){Rel:List Value->α->Prop}
 (hR:∀ n cs' x',DataW.trod enc Tryz.prog w base spare held n e cs'=some x'->∃ y,Rel cs' y) (h:DataW.trod enc Tryz.prog w base spare held fuel t cs=some x) :
 ∃ (A:Option Addr) (c:Nat) (ys:List α),cs=[.slice A ys.length c]/\ys.length<=c/\ys.length<=maxLen/\(∀ y∈ys,∃ cs',Rel cs' y)/\(0<ys.length->∃ b off,A=some ⟨b,off,none⟩/\b<w.heap.size/\∀ (i:Nat) (y:α),ys[i]?=some y->∃ cs':List Value,cs'.length=sz/\Rel cs' y/\∀ j,j<sz->w.cell? ⟨b,off+i*sz+j,none⟩=cs'[j]?):=by
 rcases Deep.open_slice ht h with ⟨hcs,_⟩ | ⟨a,n,c,m,k,D,Pl,hcs,_,hlc,hcm,hm,hx,hi⟩
 ·exact ⟨none,0,[],hcs,by simp,by simp,fun y hy=>(by cases hy),fun hp=>by simp at hp⟩
 ·rw [hc] at hi
  have hml:n<=m:=by rw [hm];split <;> omega
  have each:∀ i,i<n->∃ y:α,∃ cs':List Value,cs'.length=sz/\Rel cs' y/\∀ j,j<sz->w.cell? (a.add (i*sz+j))=cs'[j]?:=by
   intro i hin;obtain ⟨cs',hcc,htr⟩:=hi i (by omega);obtain ⟨_,hcl,hat⟩:=World.cells?_some hcc;obtain ⟨y,hy⟩:=hR _ _ _ htr;exact ⟨y,cs',hcl,hy,fun j hj=>by rw [<- Deep.add_add];exact hat j hj⟩
  obtain ⟨f,hfi⟩:=Deep.choose_lt each;refine ⟨some a,c,(List.range n).map f,by simpa using hcs,by simp;omega,by simp;omega,fun y hy=>?_,fun hp=>?_⟩
  ·obtain ⟨i,hi2,rfl⟩:=Y7.1 hy
   obtain ⟨cs',_,h2,_⟩:=hfi i (List.mem_range.1 hi2);exact ⟨cs',h2⟩
  ·have hn:0<n:=by simpa using hp
   obtain ⟨b,off,spot⟩:=a;obtain ⟨cs0,l0,_,h0⟩:=hfi 0 hn;have h00:=h0 0 hs;rw [Yc (by omega)] at h00;have hspot:spot=none:=by simpa [Addr.add] using World.cell?_spot h00
   subst hspot;refine ⟨b,off,rfl,?_,fun i y hy=>?_⟩
   ·rw [show (⟨b,off,none⟩:Addr).add (0*sz+0)=⟨b,off,none⟩ by simp [Addr.add]] at h00
    unfold World.cell? at h00
    cases hq:w.heap[b]? with
    | none=>rw [hq] at h00;cases h00
    | some o=>exact (Ye.1 hq).1
   ·have hlti:i<n:=by have:=(List.getElem?_eq_some_iff.1 hy).1;simpa using this
    have hxe:f i=y:=by simpa [hlti] using hy
    subst hxe;obtain ⟨cs',l1,l2,l3⟩:=hfi i hlti;exact ⟨cs',l1,l2,fun j hj=>by rw [Nat.add_assoc,<- Go.WideShapes.add_plain];exact l3 j hj⟩
theorem Zg7:Tryz.prog.cellsOf 28=2:=by kernel_rfl
theorem Zky:Tryz.prog.cellsOf 61=2:=by kernel_rfl
theorem Zvz:Tryz.prog.cellsOf 30=8:=by kernel_rfl
theorem Zod:Tryz.prog.cellsOf 5=1:=by kernel_rfl
theorem Zsq:Tryz.prog.cellsOf 26=1:=by kernel_rfl
theorem Zsr:Tryz.prog.cellsOf 25=1:=by kernel_rfl
theorem Zey:Tryz.prog.cellsOf 23=1:=by kernel_rfl
theorem Zv0:Tryz.prog.cellsOf 22=1:=by kernel_rfl
theorem Zv1:Tryz.prog.cellsOf 24=1:=by kernel_rfl
theorem Z08 {y:Int}(h:(Lit.int .u32 y).wf=true):0<=y/\y<4294967296:=by
 simp [Lit.wf,Ydc,Ydd,Ybl,Yb2] at h;omega
theorem Z09 {y:Int}(h:(Lit.int .u16 y).wf=true):0<=y/\y<65536:=by
 simp [Lit.wf,Ydc,Ydd,Ybl,Yb2] at h;omega
theorem Zzj {y:Int}(h:(Lit.int .u8 y).wf=true):0<=y/\y<256:=by
 simp [Lit.wf,Ydc,Ydd,Ybl,Yb2] at h;omega
theorem Zkz (h:DataW.trod enc Tryz.prog w base spare held fuel 28 cs=some x):∃ y:Int×Int,cs=[.int .u32 y.1,.int .u16 y.2]/\S.wf y:=by
 obtain ⟨y0,y1,n,_,hl,h0,h1⟩:=trod_struct2 Tryz.underlying28 h;rw [Zg7] at hl
 match cs,hl with
 | [c0,c1],_ =>
  have g0:DataW.trod enc Tryz.prog w base spare held n 25 [c0]=some y0:=by simpa [Zsr] using h0
  have g1:DataW.trod enc Tryz.prog w base spare held n 26 [c1]=some y1:=by simpa [Zsq] using h1
  obtain ⟨a,ea,_,wa⟩:=DataW.trod_int Tryz.underlying25 g0;obtain ⟨b,eb,_,wb⟩:=DataW.trod_int Tryz.underlying26 g1;simp only [List.cons.injEq,and_true] at ea eb;subst ea eb;have q1:=Z08 wa;have q2:=Z09 wb;exact ⟨(a,b),rfl,q1.1,q1.2,q2.1,q2.2⟩
theorem Zcq (h:DataW.trod enc Tryz.prog w base spare held fuel 23 cs=some x) :
 ∃ (A:Option Addr) (c:Nat) (l:List (Int×Int)),cs=[.slice A l.length c]/\l.length<=c/\l.length<=maxLen/\(∀ y∈l,S.wf y)/\WordsF w (fun k=>w.heap.size<=k) A l:=by
 obtain ⟨A,c,ys,h1,h2,h3,h4,h5⟩:=Zjb (α:=Int×Int) Tryz.underlying23 Zg7 (by decide) (Rel:=fun cs y=>cs=[.int .u32 y.1,.int .u16 y.2]/\S.wf y) (fun n cs' x' hx=>Zkz hx) h;refine ⟨A,c,ys,h1,h2,h3,fun y hy=>(h4 y hy).choose_spec.2,fun hp=>?_⟩;obtain ⟨b,off,e,hb,hc⟩:=h5 hp;refine ⟨b,off,e,⟨hb,by omega⟩,fun i y hy=>?_⟩;obtain ⟨cs',_,⟨rfl,hw⟩,hj⟩:=hc i y hy;exact ⟨hj 0 (by decide),hj 1 (by decide),hw⟩
theorem Zss (h:DataW.trod enc Tryz.prog w base spare held fuel 61 cs=some x):∃ y:S.GN×Option Addr×Nat,cs=[.int .u8 y.1.ty,.slice y.2.1 y.1.ws.length y.2.2]/\(0<=y.1.ty/\y.1.ty<256)/\y.1.ws.length<=y.2.2/\y.1.ws.length<=maxLen/\(∀ z∈y.1.ws,S.wf z)/\WordsF w (fun k=>w.heap.size<=k) y.2.1 y.1.ws:=by
 obtain ⟨y0,y1,n,_,hl,h0,h1⟩:=trod_struct2 Tryz.underlying61 h;rw [Zky] at hl
 match cs,hl with
 | [c0,c1],_ =>
  have g0:DataW.trod enc Tryz.prog w base spare held n 5 [c0]=some y0:=by simpa [Zod] using h0
  have g1:DataW.trod enc Tryz.prog w base spare held n 23 [c1]=some y1:=by simpa [Zey] using h1
  obtain ⟨a,ea,_,wa⟩:=DataW.trod_int Tryz.underlying5 g0;obtain ⟨A,c,l,e1,q1,q2,q3,q4⟩:=Zcq g1;simp only [List.cons.injEq,and_true] at ea e1;subst ea e1;exact ⟨(⟨a,l⟩,A,c),rfl,Zzj wa,q1,q2,q3,q4⟩
theorem Zez {b0:Nat}{v:Value}{d:DataW H}{ps:List MemPlace}(hval:Value.okWide Tryz.prog w .any b0 30 v)(h:DataW.Trod enc Tryz.prog w base spare held 30 v d ps) :
 ∃ (x:S.am) (An Ar Ag As Aq Ap:Option Addr) (cn cr cg cs cq cp:Nat),v=Zsj An Ar Ag As Aq Ap cn cr cg cs cq cp x/\x.Ok/\SttF w An Ar Ag As Aq Ap x/\x.roots.length<=cr:=by
 obtain ⟨fuel,hf⟩:=h;obtain ⟨vs,rfl,hsz⟩:=okWide_struct Tryz.underlying30 hval;rw [Zvz] at hsz;obtain ⟨l⟩:=vs
 match l,hsz with
 | [v0,v1,v2,v3,v4,v5,v6,v7],_ =>
  obtain ⟨xs,n,_,_,_,hxl,hfl⟩:=DataW.trod_struct Tryz.underlying30 hf;have hx7:xs.length=7:=hxl;have ex:∀ i,i<7->∃ y,xs[i]?=some y:=fun i hi=>⟨_,Yc (by omega)⟩
  obtain ⟨y0,e0⟩:=ex 0 (by decide);obtain ⟨y1,e1⟩:=ex 1 (by decide);obtain ⟨y2,e2⟩:=ex 2 (by decide);obtain ⟨y3,e3⟩:=ex 3 (by decide);obtain ⟨y4,e4⟩:=ex 4 (by decide);obtain ⟨y5,e5⟩:=ex 5 (by decide);obtain ⟨y6,e6⟩:=ex 6 (by decide);have hc:(Value.agg ⟨[v0,v1,v2,v3,v4,v5,v6,v7]⟩).cells.toList=[v0,v1,v2,v3,v4,v5,v6,v7]:=rfl;rw [hc] at hfl;have g0:DataW.trod enc Tryz.prog w base spare held n 22 [v0]=some y0:=by
   have:=hfl 0 _ rfl;rw [e0] at this
   simpa [Zv0] using this
  have g1:DataW.trod enc Tryz.prog w base spare held n 23 [v1]=some y1:=by
   have:=hfl 1 _ rfl;rw [e1] at this
   simpa [Zey] using this
  have g2:DataW.trod enc Tryz.prog w base spare held n 23 [v2]=some y2:=by
   have:=hfl 2 _ rfl;rw [e2] at this
   simpa [Zey] using this
  have g3:DataW.trod enc Tryz.prog w base spare held n 23 [v3]=some y3:=by
   have:=hfl 3 _ rfl;rw [e3] at this
   simpa [Zey] using this
  have g4:DataW.trod enc Tryz.prog w base spare held n 23 [v4]=some y4:=by
   have:=hfl 4 _ rfl;rw [e4] at this
   simpa [Zey] using this
  have g5:DataW.trod enc Tryz.prog w base spare held n 24 [v5]=some y5:=by
   have:=hfl 5 _ rfl;rw [e5] at this
   simpa [Zv1] using this
  have g6:DataW.trod enc Tryz.prog w base spare held n 28 [v6,v7]=some y6:=by
   have:=hfl 6 _ rfl;rw [e6] at this
   simpa [Zg7] using this
  haveI:Inhabited S.GN:=⟨⟨0,[]⟩⟩
  obtain ⟨An,cn,ns,q0,_,a1,a2,a3⟩:=Zjb (α:=S.GN×Option Addr×Nat) Tryz.underlying22 Zky (by decide) (Rel:=fun cs y=>cs=[.int .u8 y.1.ty,.slice y.2.1 y.1.ws.length y.2.2]/\(0<=y.1.ty/\y.1.ty<256)/\y.1.ws.length<=y.2.2/\y.1.ws.length<=maxLen/\(∀ z∈y.1.ws,S.wf z)/\WordsF w (fun k=>w.heap.size<=k) y.2.1 y.1.ws) (fun n cs' x' hx=>Zss hx) g0;obtain ⟨Ar,cr,rs,q1,b1,b2,b3,b4⟩:=Zcq g1;obtain ⟨Ag,cg,gs,q2,_,c2,c3,c4⟩:=Zcq g2;obtain ⟨As,cs,ss,q3,_,d2,d3,d4⟩:=Zcq g3;obtain ⟨Aq,cq,qs,q4,_,f2,f3,f4⟩:=Zcq g4;obtain ⟨Ap,cp,pls,q5,_,k1,k2,k3⟩:=Zjb (α:=Int) Tryz.underlying24 Zod (by decide) (Rel:=fun cs y=>cs=[.int .u8 y]/\0<=y/\y<256) (fun n cs' x' hx=>by
   obtain ⟨a,ea,_,wa⟩:=DataW.trod_int Tryz.underlying5 hx;exact ⟨a,ea,Zzj wa⟩) g5
  obtain ⟨sy,q6,hsy⟩:=Zkz g6;simp only [List.cons.injEq,and_true] at q0 q1 q2 q3 q4 q5 q6;obtain ⟨rfl,rfl⟩:=q6;subst q0 q1 q2 q3 q4 q5;have hml:maxLen=9223372036854775807:=by decide
  rw [hml] at a1 b2 c2 d2 f2 k1;have hnl:(ns.map Prod.fst).length=ns.length:=Yp _;refine ⟨⟨ns.map Prod.fst,rs,gs,ss,qs,pls,sy⟩,An,Ar,Ag,As,Aq,Ap,cn,cr,cg,cs,cq,cp,?_,⟨fun y hy=>?_,b3,c3,d3,f3,fun y hy=>(k2 y hy).choose_spec.2,hsy⟩,⟨fun hp=>?_,b4,c4,d4,f4,fun hp=>?_,?_⟩,b1⟩
  ·unfold Zsj
   simp only [hnl]
  ·obtain ⟨z,hz,rfl⟩:=Y7.1 hy
   obtain ⟨_,_,h1,_,_,h4,_⟩:=a2 z hz;exact ⟨h1.1,fun u hu=>⟨(h4 u hu).1,(h4 u hu).2.1,(h4 u hu).2.2.1⟩⟩
  ·obtain ⟨b,off,e,hb,hcc⟩:=a3 (by rw [<- hnl];exact hp)
   refine ⟨b,off,e,⟨hb,by omega⟩,fun i y hy=>?_⟩;rw [Ys] at hy;obtain ⟨z,hz,rfl⟩:=Option.map_eq_some_iff.1 hy;obtain ⟨cs',_,⟨rfl,h1,h2,h3,_,h5⟩,hj⟩:=hcc i z hz;exact ⟨hj 0 (by decide),h1,by rw [hml] at h3;exact h3,z.2.1,z.2.2,hj 1 (by decide),h2,h5⟩
  ·rw [Yp] at hp
   obtain ⟨b,off,e,hb,hcc⟩:=k3 hp;refine ⟨b,off,e,⟨hb,by omega⟩,fun i y hy=>?_⟩;rw [Ys] at hy;obtain ⟨z,hz,rfl⟩:=Option.map_eq_some_iff.1 hy;obtain ⟨cs',_,⟨rfl,_⟩,hj⟩:=hcc i z hz;have:=hj 0 (by decide);rw [Nat.mul_one,Nat.add_zero] at this;exact this
  ·exact ⟨by show (ns.map Prod.fst).length<=_;rw [hnl];exact a1,b2,c2,d2,f2,k1⟩
end
end
end Go.Proofs.YtgdjocajlndonaaGreatDoor
