/- Parts. -/
import Derived.Test.YtdeepoikgfaecaaGreatDoorZKCal
set_option linter.all false
set_option maxHeartbeats 4000000
open Go.Lib renaming hid->Ya,cell_of_heap->Yb
open Nat renaming le_refl->Yf,le_trans->Y9
open Go.AllReady renaming cons->Yg,nil->Yi
open Array renaming getElem?_eq_some_iff->Yh
open Go.RowKit.Below renaming refl->Yj,heap_alloc->Ybn
open List renaming mem_singleton->Yq,range->Yz
namespace Go.Proofs.YtdeepoikgfaecaaGreatDoor
set_option maxRecDepth 100000
section
open Go.RowKit
def wkW (w:World):World:=((w.alloc (.cells #[.int .u32 4,.int .u16 0,.int .u32 6,.int .u16 0] 80)).alloc (.cells #[.int .u32 12,.int .u16 0,.int .u32 0,.int .u16 2] 80)).alloc (.cells #[.int .u8 0,.slice (some ⟨w.heap.size,0,none⟩) 2 2,.int .u8 0,.slice (some ⟨w.heap.size+1,0,none⟩) 2 2] 42)
theorem Zj8 (w:World):Below w.heap.size w (wkW w):=(((Yj _ _).alloc (Yf _) _).alloc (by simp) _).alloc (by simp;omega) _
theorem Zvp (w:World)(F:Nat->Prop)(hF:∀ k,F k->k<w.heap.size):NodesF (wkW w) F (some ⟨w.heap.size+1+1,0,none⟩) S.ao:=fun _=>by
 have s1:(w.alloc (.cells #[.int .u32 4,.int .u16 0,.int .u32 6,.int .u16 0] 80)).heap.size=w.heap.size+1:=by simp
 have s2:((w.alloc (.cells #[.int .u32 4,.int .u16 0,.int .u32 6,.int .u16 0] 80)).alloc (.cells #[.int .u32 12,.int .u16 0,.int .u32 0,.int .u16 2] 80)).heap.size=w.heap.size+1+1:=by simp
 have h0:(wkW w).heap[w.heap.size]?=some (.cells #[.int .u32 4,.int .u16 0,.int .u32 6,.int .u16 0] 80 (0,0)):=(Ybn _ _ _ (by rw [s2];omega)).trans ((Ybn _ _ _ (by rw [s1];omega)).trans (heap_alloc_new w _));have h1:(wkW w).heap[w.heap.size+1]?=some (.cells #[.int .u32 12,.int .u16 0,.int .u32 0,.int .u16 2] 80 (0,0)):=(Ybn _ _ _ (by rw [s2];omega)).trans (by
  have:=heap_alloc_new (w.alloc (.cells #[.int .u32 4,.int .u16 0,.int .u32 6,.int .u16 0] 80)) (.cells #[.int .u32 12,.int .u16 0,.int .u32 0,.int .u16 2] 80);rw [s1] at this;exact this)
 have h2:(wkW w).heap[w.heap.size+1+1]?=some (.cells #[.int .u8 0,.slice (some ⟨w.heap.size,0,none⟩) 2 2,.int .u8 0,.slice (some ⟨w.heap.size+1,0,none⟩) 2 2] 42 (0,0)):=by
  have:=heap_alloc_new ((w.alloc (.cells #[.int .u32 4,.int .u16 0,.int .u32 6,.int .u16 0] 80)).alloc (.cells #[.int .u32 12,.int .u16 0,.int .u32 0,.int .u16 2] 80)) (.cells #[.int .u8 0,.slice (some ⟨w.heap.size,0,none⟩) 2 2,.int .u8 0,.slice (some ⟨w.heap.size+1,0,none⟩) 2 2] 42);rw [s2] at this;exact this
 have out:∀ k,w.heap.size<=k->k<(wkW w).heap.size->Out (wkW w) F k:=fun k hk hl=>⟨hl,fun q=>by have:=hF k q;omega⟩
 have l0:=(Yh.1 h0).1;have l1:=(Yh.1 h1).1;have l2:=(Yh.1 h2).1;refine ⟨_,0,rfl,out _ (by omega) l2,fun i x hx=>?_⟩
 match i,hx with
 | 0,hx =>
  cases hx
  refine ⟨by rw [Yb h2];rfl,by decide,by decide,some ⟨w.heap.size,0,none⟩,2,by rw [Yb h2];rfl,by decide,fun _=>⟨_,0,rfl,out _ (Yf _) l0,fun j y hy=>?_⟩⟩
  match j,hy with
  | 0,hy=>cases hy;exact ⟨by rw [Yb h0];rfl,by rw [Yb h0];rfl,by decide⟩
  | 1,hy=>cases hy;exact ⟨by rw [Yb h0];rfl,by rw [Yb h0];rfl,by decide⟩
  | j+2,hy=>simp at hy
 | 1,hx =>
  cases hx
  refine ⟨by rw [Yb h2];rfl,by decide,by decide,some ⟨w.heap.size+1,0,none⟩,2,by rw [Yb h2];rfl,by decide,fun _=>⟨_,0,rfl,out _ (by omega) l1,fun j y hy=>?_⟩⟩
  match j,hy with
  | 0,hy=>cases hy;exact ⟨by rw [Yb h1];rfl,by rw [Yb h1];rfl,by decide⟩
  | 1,hy=>cases hy;exact ⟨by rw [Yb h1];rfl,by rw [Yb h1];rfl,by decide⟩
  | j+2,hy=>simp at hy
 | i+2,hx=>simp [S.ao] at hx
theorem Zbg (w:World)(hL:LVE w):Calls Tryz.prog 12 #[] w fun e w'=>e=.returned (.bool true)/\Below w.heap.size w w':=by
 have Hw:=Ya (Zhz none none 0 0 [] [] 40 w hL (fun h=>by simp at h) (fun h=>by simp at h) (by decide) (by decide) (fun x hx=>by cases hx) (fun x hx=>by cases hx) (by decide));clear hL;go_enter Tryz.func12,Tryz.ntmps12
 go_wp2_with fail
 refine Hw.out.mono ?_;rintro e w1 ⟨Fs,b,p,F,hwr,rfl,hk1,hb1⟩;have HWr:=Ya hwr;have HK1:=Ya hk1;have HB1:=Ya hb1;have HF:=Ya (show ∀ k,F k->k<w1.heap.size from fun k hk=>(hk1.lt k hk).2);have HFl:=Ya (show ∀ k,F k->w.heap.size<=k from fun k hk=>(hk1.lt k hk).1);clear hwr hk1 hb1 Hw;obtain ⟨m0,hm0⟩:=Yx (S.wM (S.wL [] [] Fs) 40 []);have Hm0:=Ya hm0;rw [<- hm0] at HK1;clear hm0;go_wp2_with fail
 have hrd:m0.rd 26=(S.wL [] [] Fs).length/\m0.rd 27=(S.wL [] [] Fs).length+20:=by
  have:=HWr.out.fst.rd;rw [<- Hm0.out] at this;exact ⟨this 26,this 27⟩
 obtain ⟨H,hH⟩:∃ H:Int,H=(S.wL [] [] Fs).length:=⟨_,rfl⟩
 have hHb:0<=H/\H<=12000:=by have:=HWr.out.small;omega
 rw [<- hH] at hrd;have HH:=Ya hH;have HRd:=Ya hrd;have hlay:=Z04 (HK1.out.below (Zj8 w1)) (some ⟨w1.heap.size+1+1,0,none⟩) 2 S.ao (Zvp w1 F HF.out) (by decide) (by rw [hrd.1];omega) (Zeg (by decide) (by rw [hrd.1];omega)) (by
  have h1:=(HWr.out.ok true).size2;have h2:=HWr.out.wd.len;rw [<- Hm0.out] at h2;have h3:(S.aa true [] [] Fs ((S.wL [] [] Fs).length+40)).size=(S.wL [] [] Fs).length+40:=rfl;omega)
 have Hlay:=Ya hlay;have HB2:=Ya (HB1.out.trans ((Zj8 w1).mono HB1.out.size));clear hlay hrd hH;refine Hlay.out.mono ?_;rintro e w2 (⟨hno,-⟩ | ⟨-,gb,rfl,hg2,hk2,ho2⟩)
 ·exfalso
  rw [HRd.out.1,HRd.out.2] at hno;have:S.sizes (S.ac S.ao)=6:=rfl;omega
 have hs6:S.sizes (S.ac S.ao)=6:=rfl;rw [HRd.out.1,hs6,<- HH.out,show (40:Int)/2=20 from by decide] at hk2;rw [HRd.out.1] at hg2;have HG2:=Ya hg2;have HK2:=Ya hk2;have HP2:=Ya ((Pass.of_below (F:=F) (Zj8 w1)).trans (.of_only ho2));clear hs6 hg2 hk2 ho2 Hlay HK1 HB2;obtain ⟨g,hgE⟩:=Yx (S.aj S.ao H);have HgE:=Ya hgE;rw [<- hgE] at HG2 HK2;clear hgE;go_wp2_with fail
 have hgw:=Zh0 (0,2) (by decide) HG2.out;have hw0:g.word (0,2)=4*(H+3)+1:=by rw [HgE.out];exact Zom H
 rw [hw0] at hgw;have Hgw:=Ya hgw;clear hgw hw0;refine Hgw.out.mono ?_;rintro e w3 ⟨rfl,hb3⟩;have HP3:=Ya (HP2.out.trans (.of_below hb3));have HG3:=Ya (HG2.out.below hb3);have HK3:=Ya (HK2.out.below hb3);clear hb3 HP2 HG2 HK2 Hgw;have hw0b:0<=4*(H+3)+1/\4*(H+3)+1<=4294967295:=by omega
 obtain ⟨w0,hw0⟩:=Yx (4*(H+3)+1);have Hw0:=Ya hw0;rw [<- hw0] at hw0b ⊢;clear hw0;go_upto_region 8 with fail
 have hb4:Below w3.heap.size w3 (w3.alloc (.cells #[.int .u32 w0] 25)):=(Yj _ _).alloc (Yf _) _;have hr4:=heap_alloc_new w3 (.cells #[.int .u32 w0] 25);generalize w3.alloc (.cells #[.int .u32 w0] 25)=w4 at *;have HP4:=Ya (HP3.out.trans (.of_below hb4));have HG4:=Ya (HG3.out.below hb4);have HK4:=Ya (HK3.out.below hb4);have hz34:w3.heap.size<w4.heap.size:=(Yh.1 hr4).1;have hnF:¬ F w3.heap.size:=fun q=>by
  have h1:=HF.out _ q;have h2:=HP3.out.1.size;omega
 have HO4:Hid (Out w4 F w3.heap.size):=Ya ⟨hz34,hnF⟩;have HR4:=Ya hr4;have a0:w4.cell? ⟨w3.heap.size,0,none⟩=some (.int .u32 w0):=by rw [Yb hr4];rfl
 clear hb4 hr4 HP3 HG3 HK3;generalize w3.heap.size=wb at *;obtain ⟨_,_,_,_,_,_,e0,e1,e2,e3,e4⟩:=HK4.out.cells;have hbl:=HK4.out.blt;refine Zi 7 (by kernel_rfl) (by kernel_rfl) ?_;have hE:=Ze w4;simp only [List.take_succ_cons,List.take_zero,List.drop_succ_cons,List.drop_zero]
 repeat (first | go_big_quiet_step (fail))
 refine wpQuiet_nil ?_;rintro w5 ⟨⟨_,hb5⟩,rfl⟩;have HP5:=Ya (HP4.out.trans (.of_below hb5));have HG5:=Ya (HG4.out.below hb5);have HK5:=Ya (HK4.out.below hb5);have hq5:=HO4.out.pass (.of_below (F:=F) hb5);have HO5:=Ya hq5.1;have HR5:=Ya (hq5.2.trans HR4.out);clear hE hb5 HP4 HG4 HK4 HO4 HR4 hq5 e0 e1 e2 e3 e4 hbl a0 hz34;go_wp2_with fail
 refine (Zd9 16 w0 HK5.out hw0b).mono ?_;rintro e w6 ⟨rv,rfl,hk6,ho6⟩;have HK6:=Ya hk6;have HP6:=Ya (HP5.out.trans (.of_only ho6));have HG6:=Ya (HG5.out.pass (.of_only ho6));have hq6:=HO5.out.pass (.of_only ho6);have HO6:=Ya hq6.1;have HR6:=Ya (hq6.2.trans HR5.out);clear hk6 ho6 HK5 HP5 HG5 HO5 HR5 hq6;obtain ⟨_,_,_,_,_,_,e0,e1,e2,e3,e4⟩:=HK6.out.cells;have hbl:=HK6.out.blt;go_wp2_with fail
 refine (Zd9 8 1 HK6.out (by decide)).mono ?_;rintro e w7 ⟨rv2,rfl,hk7,ho7⟩;have hmM:((((S.aq g m0).setV 26 (H+6)).putV 16 w0).putV 8 1)=S.be H m0:=by rw [HgE.out,Hw0.out];rfl
 rw [hmM] at hk7;have HK7:=Ya hk7;have HP7:=Ya (HP6.out.trans (.of_only ho7));have HG7:=Ya (HG6.out.pass (.of_only ho7));have hq7:=HO6.out.pass (.of_only ho7);have HO7:=Ya hq7.1;have HR7:=Ya (hq7.2.trans HR6.out);clear hk7 ho7 HK6 HP6 HG6 HO6 HR6 hq7 e0 e1 e2 e3 e4 hbl hmM;obtain ⟨I,hIe⟩:=Yx (S.aa true [] [] Fs (H+40));have hok:∀ b,(S.aa b [] [] Fs (H+40)).Ok:=fun b=>by rw [HH.out];exact HWr.out.ok b
 have hlab:H=(S.aa true [] [] Fs (H+40)).lab S.kEnd:=by rw [HH.out];exact HWr.out.len
 have hrun:=Z0w (m0:=m0) hok hlab (by rw [Hm0.out,HH.out];exact HWr.out.wd) (by rw [Hm0.out,HH.out];exact HWr.out.fst.m2) (by rw [Hm0.out,HH.out];exact HWr.out.fst.m3) (by rw [Hm0.out];exact HWr.out.fst.m4) (by rw [Hm0.out];exact HWr.out.fst.m5) (by rw [Hm0.out];exact HWr.out.fst.low) (by omega);obtain ⟨hwd,hkept,hst1,hpl⟩:=hrun;have hlen2:=Zks (I:=I) hwd S.kCollect 20000;rw [<- hIe] at hkept hst1 hpl;obtain ⟨_,l1,l2⟩:=Zar (hok true) Zbr;obtain ⟨f1,_,_⟩:=Zar (hok true) Zbr;obtain ⟨f2,l3,l4⟩:=Zar (hok true) (s:=S.kCollect) Zeu;rw [<- hIe] at l1 l2 l3 l4 f1 f2;obtain ⟨m2,hm2⟩:=Yx (S.ae I (S.be H m0) S.kCollect 20000);rw [<- hm2] at hkept hst1 hpl;have hcallR:S.am m2 (I.lab S.kStub)=0:=by
  unfold S.am;rw [if_neg (fun h=>h hst1),if_pos hpl]
 have hdb:Below w7.heap.size w7 w7.drew:=Zef (Yj _ _);have hcall:=Zxk S.kCollect 20000 (I.lab S.kCollect) (I.lab S.kStub) (HK7.out.below hdb) f2 f1 ⟨l3,by omega⟩ ⟨l1,by omega⟩ hwd.run hwd.out hwd.steps (by decide);have hcv:S.aw (S.be H m0) (I.lab S.kStub) (I.lab S.kCollect) 20000=m2:=by rw [hm2];rfl
 rw [hcv,hcallR] at hcall;have HKl:=Ya (show (m2.mem.length:Int)=H+40 from by rw [hm2];exact hlen2);have Hcall:=Ya hcall;have Hkept:=Ya hkept;clear hcall hkept hst1 hpl hcallR hcv hm2 hlen2 f1 f2 l1 l2 l3 l4 hIe hok hlab hwd;go_upto_region 10 with fail
 refine wp_region_any (by kernel_rfl) ?_;change wpAny _ _ _ _ _ _ _ (World.drew w7);have HPd:=Ya (HP7.out.trans (.of_below hdb));have hqd:=HO7.out.pass (.of_below (F:=F) hdb);have HOd:=Ya hqd.1;have HRd2:=Ya (hqd.2.trans HR7.out);have HGd:=Ya (HG7.out.below hdb);clear hdb HP7 HO7 HR7 HG7 HK7 hqd;generalize w7.drew=wd at *;refine wpAny_take (i:=0) (v:=?v0n1) rfl (by kernel_rfl) (by kernel_rfl) (by kernel_rfl) (fun _ _ _ h=>h) (Or.inl ⟨by rfl,?y0n1⟩) ?z0n1
 case y0n1=>(intro w;first | (go_simp;done) | (go_simp;with_reducible rfl))
 refine wpAny_ready (rs:=[1]) (by kernel_rfl) (by simp) ?_;refine Yg rfl (fun K hK=>?_) Yi;go_simp
 refine Hcall.out.mono ?_;rintro e w8 ⟨rfl,F8,hk8,ho8,hf8⟩;have HK8:=Ya hk8;have hp8:Pass F wd F8 w8:=⟨ho8,hf8⟩
 have HP8:=Ya (HPd.out.trans hp8);have HG8:=Ya (HGd.out.pass hp8);have hq8:=HOd.out.pass hp8;have HR8:=Ya (hq8.2.trans HRd2.out);have hwb8:wb<w8.heap.size:=hq8.1.1;clear hk8 ho8 hf8 hp8 hq8 HPd HOd HRd2 HGd Hcall;go_simp
 refine hK _ _ ?_;clear hK K;refine wpAny_take (i:=2) (v:=?v2n2) rfl (by kernel_rfl) (by kernel_rfl) (by kernel_rfl) (fun _ _ _ h=>h) (Or.inl ⟨by rfl,?y2n2⟩) ?z2n2
 case y2n2=>(intro w;first | (go_simp;done) | (go_simp;with_reducible rfl))
 refine wpAny_take (i:=3) (v:=?v3n3) rfl (by kernel_rfl) (by kernel_rfl) (by kernel_rfl) (fun _ _ _ h=>h) (Or.inl ⟨by rfl,?y3n3⟩) ?z3n3
 case y3n3=>(intro w;first | (go_simp;done) | (go_simp;with_reducible rfl))
 refine wpAny_take (i:=4) (v:=?v4n4) rfl (by kernel_rfl) (by kernel_rfl) (by kernel_rfl) (fun _ _ _ h=>h) (Or.inl ⟨by rfl,?y4n4⟩) ?z4n4
 case y4n4=>(intro w;first | (go_simp;done) | (go_simp;with_reducible rfl))
 refine wpAny_take (i:=5) (v:=?v5n5) rfl (by kernel_rfl) (by kernel_rfl) (by kernel_rfl) (fun _ _ _ h=>h) (Or.inl ⟨by rfl,?y5n5⟩) ?z5n5
 case y5n5=>(intro w;first | (go_simp;done) | (go_simp;with_reducible rfl))
 refine wpAny_take (i:=6) (v:=?v6n6) rfl (by kernel_rfl) (by kernel_rfl) (by kernel_rfl) (fun _ _ _ h=>h) (Or.inl ⟨by rfl,?y6n6⟩) ?z6n6
 case y6n6=>(intro w;first | (go_simp;done) | (go_simp;with_reducible rfl))
 refine wpAny_take (i:=7) (v:=?v7n7) rfl (by kernel_rfl) (by kernel_rfl) (by kernel_rfl) (fun _ _ _ h=>h) (Or.inl ⟨by rfl,?y7n7⟩) ?z7n7
 case y7n7=>(intro w;first | (go_simp;done) | (go_simp;with_reducible rfl))
 refine wpAny_ready (rs:=[8]) (by kernel_rfl) (by simp) ?_;refine Yg rfl (fun K hK=>?_) Yi;go_simp
 have hlen2:(12:Int)+12<=m2.mem.length:=by
  have:=HKl.out;omega
 have e16:m2.memV 16=m2.mv 16:=Zht (by decide) (by omega);have hwd16:=Zet 16 HK8.out;rw [e16] at hwd16;have Hwd16:=Ya hwd16;have hb16:=HK8.out.ok.memw 16;obtain ⟨v16,hv16⟩:=Yx (m2.mv 16);have hb16':0<=v16/\v16<=4294967295:=by rw [hv16];exact hb16
 rw [<- hv16] at Hwd16;have Hv16:=Ya hv16;clear hwd16 e16 hb16 hv16;refine Hwd16.out.mono ?_;rintro e w9 ⟨rfl,hb9⟩;have HK9:=Ya (HK8.out.below hb9);have HG9:=Ya (HG8.out.below hb9);have HP9:=Ya (HP8.out.trans (.of_below hb9));have HR9:=Ya ((hb9.block wb hwb8).trans HR8.out);have hz9:=hb9.size;clear hb9 HK8 HG8 HP8 HR8 Hwd16;go_simp
 refine hK _ _ ?_;clear hK K;refine wpAny_ready (rs:=[9]) (by kernel_rfl) (by simp) ?_;refine Yg rfl (fun K hK=>?_) Yi;go_simp
 refine hK _ _ ?_;clear hK K;have hb10:Below w9.heap.size w9 (w9.alloc (.cells #[.int .u32 v16] 25)):=(Yj _ _).alloc (Yf _) _;have hr10:=heap_alloc_new w9 (.cells #[.int .u32 v16] 25);generalize w9.alloc (.cells #[.int .u32 v16] 25)=w10 at *;have HK10:=Ya (HK9.out.below hb10);have HG10:=Ya (HG9.out.below hb10);have HP10:=Ya (HP9.out.trans (.of_below hb10));have HR10:=Ya ((hb10.block wb (by omega)).trans HR9.out);have hz10:w9.heap.size<w10.heap.size:=(Yh.1 hr10).1;have hkp:Calls Tryz.prog 32 #[.pointer (some ⟨b,0,none⟩),.pointer (some ⟨gb,0,none⟩),.slice (some ⟨wb,0,none⟩) 1 1,.slice (some ⟨w9.heap.size,0,none⟩) 1 1] w10 fun e w'=>e=.returned (.bool true)/\Below w10.heap.size w10 w':=by
  obtain ⟨nu,hke⟩:=Hkept.out.keeps;have hgo:g.Ok H:=by rw [HgE.out];exact Zeg (by decide) ⟨hHb.1,by omega⟩
  have hsz:S.sizes g.ns=6:=by rw [HgE.out];rfl
  have e1:([16]:List Int).map m2.mv=[v16]:=by rw [Hv16.out];rfl
  rw [e1,<- HgE.out,<- Hw0.out,<- Hkept.out.m2] at hke;have hre:=Zjh H ⟨hHb.1,by omega⟩;rw [<- HgE.out,<- Hw0.out] at hre;exact Z0a HK10.out HG10.out hgo (by omega) (some ⟨wb,0,none⟩) (some ⟨w9.heap.size,0,none⟩) 1 1 [w0] [v16] (Zjk HR10.out rfl (by omega)) (Zjk hr10 rfl hz10) (fun r hr=>by rw [Yq] at hr;omega) (fun r hr=>by rw [Yq] at hr;omega) (by simp) hke (by
   have h1:=hke.size 3 [1] hre;have h2:=HKl.out;have h3:=Hkept.out.m2;omega) (by omega) (by have:=HKl.out;omega) (by decide) ⟨_,_,hre⟩
 have Hkp:=Ya hkp;clear hb10 hr10 hkp HK9 HG9 HP9 HR9;refine wpAny_ready (rs:=[10]) (by kernel_rfl) (by simp) ?_;refine Yg rfl (fun K hK=>?_) Yi;go_simp
 refine Hkp.out.mono ?_;rintro e w11 ⟨rfl,hb11⟩;have HK11:=Ya (HK10.out.below hb11);have HP11:=Ya (HP10.out.trans (.of_below hb11));clear hb11 HK10 HP10 HG10 HR10 Hkp;go_simp
 refine hK _ _ ?_;clear hK K;refine wpAny_take (i:=11) (v:=?v11n8) rfl (by kernel_rfl) (by kernel_rfl) (by kernel_rfl) (fun _ _ _ h=>h) (Or.inl ⟨by rfl,?y11n8⟩) ?z11n8
 case y11n8=>(intro w;first | (go_simp;done) | (go_simp;with_reducible rfl))
 refine wpAny_take (i:=12) (v:=?v12n9) rfl (by kernel_rfl) (by kernel_rfl) (by kernel_rfl) (fun _ _ _ h=>h) (Or.inl ⟨by rfl,?y12n9⟩) ?z12n9
 case y12n9=>(intro w;first | (go_simp;done) | (go_simp;with_reducible rfl))
 refine wpAny_take (i:=13) (v:=?v13n10) rfl (by kernel_rfl) (by kernel_rfl) (by kernel_rfl) (fun _ _ _ h=>h) (Or.inl ⟨by rfl,?y13n10⟩) ?z13n10
 case y13n10=>(intro w;first | (go_simp;done) | (go_simp;with_reducible rfl))
 refine wpAny_take (i:=15) (v:=?v15n11) rfl (by kernel_rfl) (by kernel_rfl) (by kernel_rfl) (fun _ _ _ h=>h) (Or.inl ⟨by rfl,?y15n11⟩) ?z15n11
 case y15n11=>(intro w;first | (go_simp;done) | (go_simp;with_reducible rfl))
 refine wpAny_take (i:=16) (v:=?v16n12) rfl (by kernel_rfl) (by kernel_rfl) (by kernel_rfl) (fun _ _ _ h=>h) (Or.inl ⟨by rfl,?y16n12⟩) ?z16n12
 case y16n12=>(intro w;first | (go_simp;done) | (go_simp;with_reducible rfl))
 refine wpAny_take (i:=17) (v:=?v17n13) rfl (by kernel_rfl) (by kernel_rfl) (by kernel_rfl) (fun _ _ _ h=>h) (Or.inl ⟨by rfl,?y17n13⟩) ?z17n13
 case y17n13=>(intro w;first | (go_simp;done) | (go_simp;with_reducible rfl))
 have e2:m2.memV 2=H+20:=by rw [Zht (by decide) (by have:=HKl.out;omega)];exact Hkept.out.m2
 have Hwd2:=Ya (show ∀ y:Ext w11,Calls Tryz.prog 9 #[.pointer (some ⟨b,0,none⟩),.int .i64 2] y.val fun e w'=>e=.returned (.int .u32 (H+20))/\Below y.val.heap.size y.val w' from fun y=>by
  rw [<- e2];exact Zet 2 (HK11.out.below y.property))
 have u1:IntKind.i64.wrap (H+20)=H+20:=IntWalk.i64_in _ ⟨by omega,by omega⟩;have u2:IntKind.u32.wrap (H+20)=H+20:=IntWalk.u32_in _ ⟨by omega,by omega⟩;have u3:(H+20)%4294967296=H+20:=by omega
 have Hu1:=Ya u1;have Hu2:=Ya u2;obtain ⟨_,_,_,_,_,_,e0,e1,e2',e3,e4⟩:=HK11.out.cells;have hbl:=HK11.out.blt;clear e2;refine wpAny_ready (rs:=[14,18]) (by kernel_rfl) (by simp) ?_;refine Yg rfl (fun K hK=>?_) (Yg rfl (fun K hK=>?_) Yi)
 ·go_simp
  refine (Hwd2.out ⟨w11,Yj _ _⟩).mono ?_;rintro e w12 ⟨rfl,hb12⟩;have HK12:=Ya (HK11.out.below hb12);have HPz:=Ya (HP11.out.trans (.of_below hb12));obtain ⟨_,_,_,_,_,_,i0,i1,i2,i3,i4⟩:=HK12.out.cells;have hbl2:=HK12.out.blt;clear hb12;go_simp
  refine hK _ _ ?_;clear hK K;refine wpAny_ready (rs:=[18]) (by kernel_rfl) (by simp) ?_;refine Yg rfl (fun K hK=>?_) Yi;go_simp
  refine hK _ _ ?_;clear hK K;refine wpAny_take (i:=19) (v:=?v19n101) rfl (by kernel_rfl) (by kernel_rfl) (by kernel_rfl) (fun _ _ _ h=>h) (Or.inl ⟨by rfl,?y19n101⟩) ?z19n101
  case y19n101=>(intro w;first | (go_simp;done) | (go_simp;with_reducible rfl))
  refine wpAny_take (i:=20) (v:=?v20n102) rfl (by kernel_rfl) (by kernel_rfl) (by kernel_rfl) (fun _ _ _ h=>h) (Or.inl ⟨by rfl,?y20n102⟩) ?z20n102
  case y20n102=>(intro w;first | (go_simp;done) | (go_simp;with_reducible rfl))
  refine wpAny_take (i:=21) (v:=?v21n103) rfl (by kernel_rfl) (by kernel_rfl) (by kernel_rfl) (fun _ _ _ h=>h) (Or.inl ⟨by rfl,?y21n103⟩) ?z21n103
  case y21n103=>(intro w;first | (go_simp;done) | (go_simp;with_reducible rfl))
  refine wpAny_take (i:=22) (v:=?v22n104) rfl (by kernel_rfl) (by kernel_rfl) (by kernel_rfl) (fun _ _ _ h=>h) (Or.inl ⟨by rfl,?y22n104⟩) ?z22n104
  case y22n104=>(intro w;first | (go_simp;done) | (go_simp;with_reducible rfl))
  refine wpAny_take (i:=23) (v:=?v23n105) rfl (by kernel_rfl) (by kernel_rfl) (by kernel_rfl) (fun _ _ _ h=>h) (Or.inl ⟨by rfl,?y23n105⟩) ?z23n105
  case y23n105=>(intro w;first | (go_simp;done) | (go_simp;with_reducible rfl))
  refine wpAny_done (by kernel_rfl) ?_ _;go_wp2_with fail
  refine bodyPost_ret (v:=.bool true) (by simp [results,Tryz.results12,go_sem,Hu1.out,Hu2.out]) rfl ⟨rfl,?_⟩;exact HB1.out.trans ((HPz.out.1.below HB1.out.size fun k hk=>HFl.out k hk))
 ·go_simp
  refine hK _ _ ?_;clear hK K;refine wpAny_take (i:=19) (v:=?v19n106) rfl (by kernel_rfl) (by kernel_rfl) (by kernel_rfl) (fun _ _ _ h=>h) (Or.inl ⟨by rfl,?y19n106⟩) ?z19n106
  case y19n106=>(intro w;first | (go_simp;done) | (go_simp;with_reducible rfl))
  refine wpAny_take (i:=20) (v:=?v20n107) rfl (by kernel_rfl) (by kernel_rfl) (by kernel_rfl) (fun _ _ _ h=>h) (Or.inl ⟨by rfl,?y20n107⟩) ?z20n107
  case y20n107=>(intro w;first | (go_simp;done) | (go_simp;with_reducible rfl))
  refine wpAny_ready (rs:=[14]) (by kernel_rfl) (by simp) ?_;refine Yg rfl (fun K hK=>?_) Yi;go_simp
  refine (Hwd2.out ⟨w11,Yj _ _⟩).mono ?_;rintro e w12 ⟨rfl,hb12⟩;have HPz:=Ya (HP11.out.trans (.of_below hb12));clear hb12;go_simp
  refine hK _ _ ?_;clear hK K;refine wpAny_take (i:=21) (v:=?v21n108) rfl (by kernel_rfl) (by kernel_rfl) (by kernel_rfl) (fun _ _ _ h=>h) (Or.inl ⟨by rfl,?y21n108⟩) ?z21n108
  case y21n108=>(intro w;first | (go_simp;done) | (go_simp;with_reducible rfl))
  refine wpAny_take (i:=22) (v:=?v22n109) rfl (by kernel_rfl) (by kernel_rfl) (by kernel_rfl) (fun _ _ _ h=>h) (Or.inl ⟨by rfl,?y22n109⟩) ?z22n109
  case y22n109=>(intro w;first | (go_simp;done) | (go_simp;with_reducible rfl))
  refine wpAny_take (i:=23) (v:=?v23n110) rfl (by kernel_rfl) (by kernel_rfl) (by kernel_rfl) (fun _ _ _ h=>h) (Or.inl ⟨by rfl,?y23n110⟩) ?z23n110
  case y23n110=>(intro w;first | (go_simp;done) | (go_simp;with_reducible rfl))
  refine wpAny_done (by kernel_rfl) ?_ _;go_wp2_with fail
  refine bodyPost_ret (v:=.bool true) (by simp [results,Tryz.results12,go_sem,Hu1.out,Hu2.out]) rfl ⟨rfl,?_⟩;exact HB1.out.trans ((HPz.out.1.below HB1.out.size fun k hk=>HFl.out k hk))
end
section
open Go.RowKit
section
variable {w w':World}{F:Nat->Prop}{lo b p_:Nat}{H half:Int}{P:List (ByteArray×Int)}{m:S.Mach}
end
theorem Zso:S.kCollect=⟨#[99,111,108,108,101,99,116]⟩:=by kernel_rfl
end
section
open Go.RowKit
section
variable {I:S.Img}(hI:I.Ok){i:Nat}(h0:I.i0<=i)(h1:i+1<I.i1)
include hI h0 h1
theorem Zvq {V:S.Vw}{o a b n:Int}{s s1:ByteArray}{w1:Int}(hx:I.xs[i]?=some ⟨5,⟨o,25,a,b,n⟩,s,0⟩)(hx1:I.xs[i+1]?=some ⟨1,⟨33,0,25,0,0⟩,s1,w1⟩):S.Go I V (I.adr i) 3 V (I.lab s):=fun m hm=>by
 obtain ⟨hl,l0,l1⟩:S.toOf I.xs I.F 0 _=I.lab s/\0<=I.lab s/\I.lab s<=67108864:=Zls hI h0 (by omega) hx rfl;have hsz:I.adr (i+1)=I.adr i+2:=Z1 hI hx;have hw':S.wordsAt I.xs I.F 0 i=[S.lui (I.lab s),S.ori (I.lab s)]:=by
  unfold S.wordsAt;rw [hx]
  show S.wordsOf _ _ _ (S.toOf I.xs I.F 0 _)=_
  rw [hl]
  show [S.wordOf ⟨23,25,0,0,(I.lab s+0)%4294967296/65536⟩,S.wordOf ⟨17,25,25,0,(I.lab s+0)%4294967296%65536⟩]=_
  have e:(I.lab s+0)%4294967296=I.lab s:=by omega
  rw [e];rfl
 obtain ⟨k2,r2⟩:=Zo2 hI h0 (by omega) (j:=0) (by simpa using hm) l0 (by omega) (by rw [hw'];rfl) (by rw [hw'];rfl);have ha:(m.steps_ 2).act ⟨33,0,25,0,0⟩=(m.steps_ 2,I.lab s,0):=by
  have e:S.u32m (I.lab s+S.u32m 0)=I.lab s:=by unfold S.u32m;omega
  unfold S.Mach.act S.Mach.put;simp only [r2,e];simp
 obtain ⟨hw1,hg1,_⟩:=Z5 hI (i:=i+1) (by omega) h1 hx1;have k3:S.On I (m.steps_ 2) V (I.adr (i+1)):=by
  rw [hsz];exact k2
 obtain ⟨s1,p1⟩:=Zr hI k3 (i:=i+1) (by omega) h1 (j:=0) (by rw [hw1];rfl) (by simp) hg1 (by rw [ha]);exact ⟨3,Yf _,Zdf hI k3 s1 (Int.le_refl _) ha⟩
end
section
variable {gw sw F:List Int}{size:Int}
theorem Zvr (b:Bool)(hI:(S.aa b gw sw F size).Ok){V:S.Vw}:S.Go (S.aa b gw sw F size) V ((S.aa b gw sw F size).lab S.kStart) 4 (V.set 28 1056) ((S.aa b gw sw F size).lab S.kBegin):=by
 obtain ⟨i,hs⟩:=Znj (gw:=gw) (sw:=sw) (F:=F) (size:=size) (b:=b) (j:=0) (o:=S.oStart) rfl;have x0:(S.aa b gw sw F size).xs[i]?=some (S.bL S.kStart):=hs.at_ 0 (S.bL S.kStart) rfl;have x1:(S.aa b gw sw F size).xs[i+1]?=some (S.bI 15 28 0 0 1056):=hs.at_ 1 (S.bI 15 28 0 0 1056) rfl;have x2:(S.aa b gw sw F size).xs[i+2]?=some (S.bA 25 S.kBegin):=hs.at_ 2 (S.bA 25 S.kBegin) rfl;have x3:(S.aa b gw sw F size).xs[i+3]?=some (S.bI 33 0 25 0 0):=hs.at_ 3 (S.bI 33 0 25 0 0) rfl;have hl:(S.aa b gw sw F size).lab S.kStart=(S.aa b gw sw F size).adr i:=Zcp hI x0 rfl;have hlo:=hs.lo;have hhi:i+4<=(S.aa b gw sw F size).i1:=hs.hi;rw [hl];refine Zr8 fun m hm=>?_
 have hz:=hm.zero;have g0:S.Go (S.aa b gw sw F size) V ((S.aa b gw sw F size).adr i) 0 V ((S.aa b gw sw F size).adr (i+1)):=Zdh hI hlo (by omega) x0;have g1:=Zdg hI (i:=i+1) (by omega) (by omega) (V:=V) x1 (by decide) (by decide) (by decide);have e:S.u32m (V.reg 0+1056)=1056:=by rw [hz];rfl
 rw [e] at g1;have g2:=Zvq hI (i:=i+2) (by omega) (by omega) (V:=V.set 28 1056) x2 x3;exact ((g0.trans g1).trans g2).more (by decide)
theorem Zye (b:Bool)(hI:(S.aa b gw sw F size).Ok){V:S.Vw}:S.GoH (S.aa b gw sw F size) V ((S.aa b gw sw F size).lab S.kF0) 3 (V.set 4 9) 9:=by
 obtain ⟨i,hs⟩:=Znj (gw:=gw) (sw:=sw) (F:=F) (size:=size) (b:=b) (j:=15) (o:=S.oMain) rfl;have x0:(S.aa b gw sw F size).xs[i]?=some (S.bL S.kF0):=hs.at_ 0 (S.bL S.kF0) rfl;have x1:(S.aa b gw sw F size).xs[i+1]?=some (S.bI 15 4 0 0 9):=hs.at_ 1 (S.bI 15 4 0 0 9) rfl;have x2:(S.aa b gw sw F size).xs[i+2]?=some (S.bI 36 0 4 0 0):=hs.at_ 2 (S.bI 36 0 4 0 0) rfl;have hl:(S.aa b gw sw F size).lab S.kF0=(S.aa b gw sw F size).adr i:=Zcp hI x0 rfl;have hlo:=hs.lo;have hhi:i+3<=(S.aa b gw sw F size).i1:=hs.hi;rw [hl];refine Zzq fun m hm=>?_
 have hz:=hm.zero;have g0:S.Go (S.aa b gw sw F size) V ((S.aa b gw sw F size).adr i) 0 V ((S.aa b gw sw F size).adr (i+1)):=Zdh hI hlo (by omega) x0;have g1:=Zdg hI (i:=i+1) (by omega) (by omega) (V:=V) x1 (by decide) (by decide) (by decide);have e:S.u32m (V.reg 0+9)=9:=by rw [hz];rfl
 rw [e] at g1;have g2:=Zsa hI (i:=i+2) (by omega) (by omega) (V:=V.set 4 9) x2 (by decide);exact ((g0.trans g1).halt g2).more (by decide)
theorem Zl0:S.kStart∈S.wTells:=Zl9 (by kernel_rfl)
theorem Zz3 (b:Bool)(hI:∀ b,(S.aa b gw sw F size).Ok):∀ a,0<=a->a<1056->S.Dat (S.aa b gw sw F size) a:=fun a h0 h1=>by
 have he:=Zb5 (hI true);exact Zob b hI h0 (by omega) (.inl h1) (.inl (by omega))
theorem Zsp (b:Bool)(hI:∀ b,(S.aa b gw sw F size).Ok)(hg:gw.length<=100){m:S.Mach}{heap:Int}(h1:m.mv 1=heap)(hh:0<=heap/\heap<=4096)(hsz:size<=20000){V:S.Vw}(hV:V.mem=m.mv)(h31:0<=V.reg 31/\V.reg 31<size) :
 ∃ V' st' k,S.GoH (S.aa b gw sw F size) V ((S.aa b gw sw F size).lab S.kStart) k V' 9/\k<=1000+20*gw.length/\S.bo (S.aa b gw sw F size) (heap/2) (V.set 28 1056) st'/\S.Mt (S.aa b gw sw F size) V' (st'.set 4 9)/\V'.reg 28=1056:=by
 have he:=Zb5 (hI true);obtain ⟨iE,hE⟩:=Znk (gw:=gw) (sw:=sw) (F:=F) (size:=size) (b:=b) (j:=1) (r:=S.rBegin) rfl;have hst:(S.aa b gw sw F size).lab S.kStatic=1312+gw.length:=(Zv (hI b)).1;have hend:(S.aa b gw sw F size).lab S.kEnd=(S.aa true gw sw F size).lab S.kEnd:=rfl;have hr:=Zqi (hI b) (Zz3 b hI) hE (st:=V.set 28 1056) (heap:=heap) (by show V.mem 1=_;rw [hV];exact h1) ⟨hh.1,by omega⟩ hst (by omega) (fun a q1 q2=>Zob b hI (by omega) (by omega) (.inr (by omega)) (.inl (by omega))) (by rw [hend];omega);obtain ⟨o,k,⟨st',rfl,hB,hk⟩,V',g,hmt,h28,_⟩:=hr (V.set 28 1056) 1056 (V.reg 31) (S.Mt.refl_ _) rfl rfl h31.1 h31.2 (Int.le_refl _) (by show (1056:Int)+16<=1312;decide);have hm:=Zye b (hI b) (V:=V');refine ⟨V'.set 4 9,st',4+k+3,((Zvr b (hI b)).trans g).halt hm,by omega,hB,⟨fun n hn=>?_,fun a q1 q2 q3=>hmt.mem a q1 q2 q3,hmt.inp,hmt.out⟩,?_⟩
 ·show (if n=4 then (9:Int) else V'.reg n)=if n=4 then 9 else st'.reg n
  rw [hmt.vis n hn]
 ·show (if (28:Int)=4 then (9:Int) else V'.reg 28)=1056
  rw [if_neg (by decide)];exact h28
theorem Zsq (hI:∀ b,(S.aa b gw sw F size).Ok)(hg:gw.length<=30){m:S.Mach}(h:S.Wd gw sw F size m){heap:Int}(h1:m.mv 1=heap)(hh:0<=heap/\heap<=4096)(hsz:size<=20000){C:S.Mach}(hC:C=S.ae (S.aa true gw sw F size) m S.kStart 2000) :
 C.state=1/\C.code=9/\C.place≠(S.aa true gw sw F size).lab S.kStub/\C.rd 26=(S.aa true gw sw F size).lab S.kEnd/\C.rd 27=(S.aa true gw sw F size).lab S.kEnd+heap/2/\C.rd 28=1056/\C.rd 2=0/\(∀ a:Int,1312<=a->a<1312+(gw.length:Int)->C.mv a=70)/\∀ a:Int,1312+(gw.length:Int)<=a->a<size->C.mv a=m.mv a:=by
 have he:=Zb5 (hI true);obtain ⟨_,n1,n2⟩:=Zar (hI true) Zl0;obtain ⟨_,s1,s2⟩:=Zar (hI true) Zbr;have hset:=Zok (hI true) h (name:=S.kStart) ⟨n1,by omega⟩ ⟨s1,by omega⟩;have e:S.viewOf ((m.setV 31 ((S.aa true gw sw F size).lab S.kStub)).goV ((S.aa true gw sw F size).lab S.kStart))=S.viewOf (m.setV 31 ((S.aa true gw sw F size).lab S.kStub)):=by
  have h0:(m.setV 31 ((S.aa true gw sw F size).lab S.kStub)).state=0:=by
   rw [Zbn (by decide) (by decide)];exact h.run
  unfold S.Mach.goV;rw [if_neg (by rw [h0];decide)];rfl
 have hon:=Zte hI hset;have hon0:=Ztf hI hset;rw [e] at hon hon0;obtain ⟨V,hV⟩:=Yx (S.viewOf (m.setV 31 ((S.aa true gw sw F size).lab S.kStub)));rw [<- hV] at hon hon0;have hVm:V.mem=m.mv:=by rw [hV];exact Zpb _ _
 have hV31:V.reg 31=(S.aa true gw sw F size).lab S.kStub:=by
  rw [hV]
  show (m.setV 31 _).rd 31=_
  rw [Zd7 h.ok (by decide) (by decide),if_pos rfl]
 have hsr:=Zfx hI;obtain ⟨V1,st1,k1,g1,hk1,hB,hmt,h28⟩:=Zsp true hI (by omega) h1 hh hsz hVm (by rw [hV31];exact hsr);obtain ⟨V0,st0,k0,g0,hk0,_,_,_⟩:=Zsp false hI (by omega) h1 hh hsz hVm (by rw [hV31];exact hsr);have off:=Zkc g1 (show k1<=2000 by omega) hon;have off0:=Zkc g0 (show k0<=2000 by omega) hon0;have hCE:C=((m.setV 31 ((S.aa true gw sw F size).lab S.kStub)).goV ((S.aa true gw sw F size).lab S.kStart)).steps_ 2000:=hC;rw [<- hCE] at off off0;have hst:(S.aa true gw sw F size).lab S.kStatic=1312+gw.length:=(Zv (hI true)).1;have see:S.az (S.aa true gw sw F size) C (st1.set 4 9):=Zph off hmt;refine ⟨off.end_,off.codeIs,fun e=>?_,?_,?_,?_,?_,fun a q1 q2=>?_,fun a q1 q2=>?_⟩
 ·have hp:=off0.place.1
  have h8:=(Zv (hI false)).2.2.2.2.2.2;have hl:=(Zv (hI true)).2.2.1;have hi0:(S.aa false gw sw F size).i0=2+gw.length+sw.length+6:=by show gw.length+sw.length+8=_;omega
  rw [hi0,h8] at hp;omega
 ·rw [see.reg 26 (by decide)]
  exact hB.r26
 ·rw [see.reg 27 (by decide)]
  exact hB.r27
 ·rw [off.reg 28 (by decide) (by decide) (by decide)]
  exact h28
 ·rw [see.reg 2 (by decide)]
  exact hB.r2
 ·rw [see.mem a (by omega) (by show a<size;omega) (fun q=>by have:=q.2;have h9:(S.aa true gw sw F size).hi=1312:=rfl;omega)]
  exact hB.glob a q1 (by rw [hst];exact q2)
 ·rw [see.mem a (by omega) q2 (fun q=>by have:=q.2;have h9:(S.aa true gw sw F size).hi=1312:=rfl;omega)]
  have h9:=hB.rest a (by rw [hst];exact q1)
  show st1.mem a=_
  rw [h9]
  show V.mem a=_
  rw [hVm]
theorem Zvs (hI:∀ b,(S.aa b gw sw F size).Ok){n code:Int}{j:Nat}(hj:(S.objs26++[S.oMain])[j]?=some (S.ofR (S.rStop n code)))(hchk:S.chkB (S.rStop n code)=0)(hn:S.kRt n∈S.wTells)(hc:0<=code/\code<4294967296){m:S.Mach}(h:S.Wd gw sw F size m){C:S.Mach}(hC:C=S.ae (S.aa true gw sw F size) m (S.kRt n) 100) :
 C.state=1/\C.code=code/\C.place≠(S.aa true gw sw F size).lab S.kStub:=by
 have hr:∀ b,S.Real (S.aa b gw sw F size) (S.kRt n) false (S.viewOf (m.setV 31 ((S.aa true gw sw F size).lab S.kStub))) 15 (fun _ o k=>o=.halt code (S.viewOf (m.setV 31 ((S.aa true gw sw F size).lab S.kStub)))/\k<=10):=fun b=>by
  obtain ⟨iE,hE⟩:=Znk (gw:=gw) (sw:=sw) (F:=F) (size:=size) (b:=b) hj;exact Zsw (hI b) (Zz3 b hI) (S.rStop n code) code ⟨rfl,rfl,rfl,rfl⟩ hchk hE hc
 rw [hC];exact Zs6 hI h hn (d:=15) (by decide) (hr true) (hr false) (N:=100) (c:=code) (fun ret o k hR=>by obtain ⟨rfl,hk⟩:=hR;exact ⟨_,rfl,by omega⟩) (fun ret o k hR=>by obtain ⟨rfl,hk⟩:=hR;exact ⟨_,_,rfl,by omega⟩)
theorem Zo6:S.kCons∈S.wTells:=Zl9 (by kernel_rfl)
theorem Zvt (hI:∀ b,(S.aa b gw sw F size).Ok){m:S.Mach}(h:S.Wd gw sw F size m){H a b c:Int}(hH:H=(S.aa true gw sw F size).lab S.kEnd)(hsz:H+3<=size)(h26:m.rd 26=H)(h4:m.rd 4=a)(h5:m.rd 5=b)(h7:m.rd 7=c){C:S.Mach}(hC:C=S.ae (S.aa true gw sw F size) m S.kCons 200) :
 C.state=1/\C.place=(S.aa true gw sw F size).lab S.kStub/\C.rd 4=4*H+1/\C.mv (H+1)=a/\C.mv (H+2)=b/\C.rd 7=c/\C.rd 26=H+3:=by
 have he:=Zb5 (hI true);rw [<- hH] at he;obtain ⟨st0,hst0⟩:=Yx (S.viewOf (m.setV 31 ((S.aa true gw sw F size).lab S.kStub)));have hsr:∀ j,j≠31->st0.reg j=m.rd j:=fun j hj=>by rw [hst0];exact Zpc h.ok _ hj
 obtain ⟨iN,hN⟩:=Zv1 (gw:=gw) (sw:=sw) (F:=F) (size:=size) true;have hr:=Zsv (hI true) hN (st:=st0) (p:=H) (by rw [hsr 26 (by decide),h26]) (fun j hj=>Zob true hI (by omega) (by omega) (.inr (by omega)) (.inr (by omega)));obtain ⟨st',hP,see,q1,q2,_⟩:=Zma hI h Zo6 (d:=17) (by decide) (by rw [<- hst0];exact hr) (N:=200) (P:=fun st'=>st'=(S.ax st0 H (st0.reg 4) (st0.reg 5)).set 4 (4*H+1)) fun ret o k hR=>by obtain ⟨rfl,hk⟩:=hR;exact ⟨_,.inl rfl,by omega,rfl⟩
 rw [<- hC] at see q1 q2;have hm:∀ x,1312<=x->x<size->C.mv x=(S.ax st0 H (st0.reg 4) (st0.reg 5)).mem x:=fun x x0 x1=>by
  rw [see.mem x (by omega) x1 (fun q=>by have:=q.2;have h9:(S.aa true gw sw F size).hi=1312:=rfl;omega),hP];rfl
 have hpm:∀ x,(S.ax st0 H (st0.reg 4) (st0.reg 5)).mem x=if x=H+2 then st0.reg 5 else if x=H+1 then st0.reg 4 else if x=H then 67 else st0.mem x:=fun _=>rfl
 refine ⟨q1,q2,?_,?_,?_,?_,?_⟩
 ·rw [see.reg 4 (by decide),hP]
  rfl
 ·rw [hm _ (by omega) (by omega),hpm,if_neg (by omega),if_pos rfl,hsr 4 (by decide),h4]
 ·rw [hm _ (by omega) (by omega),hpm,if_pos rfl,hsr 5 (by decide),h5]
 ·rw [see.reg 7 (by decide),hP]
  show st0.reg 7=_
  rw [hsr 7 (by decide),h7]
 ·rw [see.reg 26 (by decide),hP]
  rfl
end
def S.ay:List S.GN:=List.replicate 3 ⟨0,[(0,0),(0,0)]⟩
def S.bg (H:Int)(m0:S.Mach):S.Mach:=(S.aq (S.aj S.ay H) m0).setV 26 (H+9)
theorem Zz4 {F:List Int}{H:Int}(hI:∀ b,(S.aa b [] [] F (H+100)).Ok)(hH:H=(S.aa true [] [] F (H+100)).lab S.kEnd){m0:S.Mach}(hw:S.Wd [] [] F (H+100) m0)(h2:m0.mv 2=H)(h3:m0.mv 3=H+50)(h4:m0.mv 4=50)(h5:m0.mv 5=38)(hlow:∀ a,5<a->a<1312->m0.mv a=0)(hsm:H<=100000){C:S.Mach}(hC:C=S.ae (S.aa true [] [] F (H+100)) (S.bg H m0) S.kCollect 2000) :
 S.Wd [] [] F (H+100) (S.bg H m0)/\C.state=1/\C.place=(S.aa true [] [] F (H+100)).lab S.kStub/\C.rd 26=H+50:=by
 obtain ⟨g,hgE⟩:=Yx (S.aj S.ay H);have he:=Zb5 (hI true);rw [<- hH] at he;have hH0:1312<=H:=by have:=he.1;simp at this;omega
 have hg:g.Ok H:=by rw [hgE];exact Zeg (by decide) ⟨by omega,by omega⟩
 have hsz:S.sizes g.ns=9:=by rw [hgE];rfl
 have hml:=hw.len;have hw1:=Zof (hI true) hg hw (by omega) (by omega) (by omega) g.ns.length (Yf _);obtain ⟨q1,q2⟩:=Zoe hg m0 (by omega) g.ns.length (Yf _);obtain ⟨m1,hm1⟩:=Yx (S.aq g m0);have hm1':S.puts m0 ((Yz g.ns.length).flatMap (S.ab g))=m1:=hm1.symm;rw [hm1'] at q1 q2 hw1;have hw2:=Zja (hI true) hw1 (i:=26) (v:=H+9) (by decide) (fun h=>absurd h (by decide)) ⟨by omega,by omega⟩;have hM:S.bg H m0=m1.setV 26 (H+9):=by rw [hm1,hgE];rfl
 rw [hM] at hC;rw [hM];obtain ⟨M,hMM⟩:=Yx (m1.setV 26 (H+9));have hmv:∀ x,M.mv x=m1.mv x:=fun x=>by rw [hMM,Zkg (by decide) (by decide)]
 rw [<- hMM] at hw2 hC ⊢;have hlowM:∀ x,0<=x->x<1312->m1.mv x=m0.mv x:=fun x h0 h1=>q2 x h0 (by omega)
 have hlab:(S.aa true [] [] F (H+100)).lab S.kCode=1312:=by
  have:=(Zv (hI true)).2.1;simp at this;exact this
 have hn38:g.node 38=none:=by unfold S.Gr.node;rw [if_neg (by decide)]
 have re:S.Reached g ([((5:Int),(38:Int))].map Prod.snd) 0 []:=by
  refine ⟨List.nodup_nil,fun i hi=>?_,fun r hr i hi=>?_,fun i hi=>?_,fun j n hj=>by simp at hj,rfl⟩
  ·cases hi
  ·have hr':r∈[(38:Int)]:=hr
   rw [Yq] at hr';subst hr';rw [hn38] at hi
   cases hi
  ·cases hi
 have hG:=Z0x hI hH.symm (by omega) (by decide) hg (mem:=M.mv) (half:=50) (fun j hj=>by
  obtain ⟨p1,p2⟩:=q1 j hj;exact ⟨by rw [hmv];exact p1,fun k y hy=>by rw [hmv];exact p2 k y hy⟩) (by omega) (pl:=[(5,38)]) (fun q hq=>by
  rw [Yq] at hq;subst hq;exact ⟨by rw [hmv];show m1.mv 5=_;rw [hlowM 5 (by decide) (by decide)];exact h5,by decide,by decide,fun q=>absurd q (by decide)⟩) re (cnt:=0) (n:=0)
  (by rw [hmv,hlowM 2 (by decide) (by decide),h2]) (by rw [hmv,hlowM 3 (by decide) (by decide),h3]) (by rw [hmv,hlowM 4 (by decide) (by decide),h4]) (by rw [hmv,hlowM 8 (by decide) (by decide)];exact hlow 8 (by decide) (by decide)) (by decide) (.inl ⟨by rw [hmv,hlowM 6 (by decide) (by decide)];exact hlow 6 (by decide) (by decide),rfl⟩)
  (fun x hx=>by
   rcases hx with ((rfl | ⟨c1,c2⟩) | ⟨j,hj,_⟩) | ⟨c1,c2⟩
   ·exact .inl (Yq.2 rfl)
   ·omega
   ·omega
   ·omega) (fun x hx=>by
   have hx':x∈[(5:Int)]:=hx;rw [Yq] at hx';exact .inl (.inl (.inl hx')))
 obtain ⟨k1,k2,k3,_⟩:=Zho hI hw2 hG (N:=2000) (by decide);rw [<- hC] at k1 k2 k3;obtain ⟨nu,hk⟩:=k1.keeps;have:=hk.size 0 [] re;exact ⟨hw2,k2,k3,by omega⟩
end
section
open Go.RowKit
theorem Zo7 {w:World}{F:Nat->Prop}{lo b p:Nat}{H half:Int}{P:List (ByteArray×Int)}{MM:S.Mach}{nm:ByteArray}{ca stub:Int}(N:Int)(n:Nat)(hn:N.toNat=n)(hN:N<=100000000)(hK:KAt w lo b p F H half P MM)(hs:S.findP P nm=some ca)(hst:S.findP P S.kStub=some stub)(ha:0<=ca/\ca<=67108864)(hst2:0<=stub/\stub<=67108864)(h0:MM.state=0)(h1:MM.out=[])(h2:MM.steps=0){C:S.Mach}(hC:((MM.setV 31 stub).goV ca).steps_ n=C){R:Int}(hR:S.am C stub=R) :
 Calls Tryz.prog 7 #[.pointer (some ⟨b,0,none⟩),.string nm,.bool false,.int .i64 N] w fun e w'=>e=.returned (.int .i64 R)/\Zwk w lo b p F H half P C w':=by
 have h:=Zxk nm N ca stub hK hs hst ⟨ha.1,Int.le_trans ha.2 (by decide)⟩ ⟨hst2.1,Int.le_trans hst2.2 (by decide)⟩ h0 h1 h2 hN;have e:S.aw MM stub ca N=C:=by
  unfold S.aw;rw [hn];exact hC
 rw [e,hR] at h;exact h
theorem Zqe:S.kStart=⟨#[115,116,97,114,116]⟩:=by kernel_rfl
theorem Zsr:S.kCons=⟨#[99,111,110,115]⟩:=by kernel_rfl
structure S.b8 (H:Int)(C:S.Mach):Prop where
 r26:C.rd 26=H
 r27:C.rd 27=H+2048
 r28:C.rd 28=1056
 m4:C.mv 1314=70
 m5:C.mv 1315=4
 r2:C.rd 2=0
 len:(C.mem.length:Int)=H+4096
theorem Zl1 {w:World}{F:Nat->Prop}{lo b p:Nat}{Fs:List Int}(hwr:S.Wr (S.af 3) [4,8] Fs 4096){H half:Int}(hH:H=(S.wL (S.af 3) [4,8] Fs).length){P:List (ByteArray×Int)}(hP:P=S.wP (S.af 3) [4,8] Fs){M:S.Mach}(hM:M=S.wM (S.wL (S.af 3) [4,8] Fs) 4096 [])(hK:KAt w lo b p F H half P M) :
 Calls Tryz.prog 7 #[.pointer (some ⟨b,0,none⟩),.string ⟨#[115,116,97,114,116]⟩,.bool false,.int .i64 2000] w fun e w'=>e=.returned (.int .i64 10)/\∃ C,S.b8 H C/\Zwk w lo b p F H half P C w':=by
 rw [hP] at hK ⊢;have hI:∀ b,(S.aa b (S.af 3) [4,8] Fs (H+4096)).Ok:=fun b=>by rw [hH];exact hwr.ok b
 have hlab:H=(S.aa true (S.af 3) [4,8] Fs (H+4096)).lab S.kEnd:=by rw [hH];exact hwr.len
 have hw:S.Wd (S.af 3) [4,8] Fs (H+4096) M:=by rw [hH,hM];exact hwr.wd
 have hsm:H<=12000:=by have:=hwr.small;omega
 have he:=(Zb5 (hI true)).1;rw [<- hlab] at he;have he2:1317<=H:=by
  have e:(S.af 3).length=3:=rfl;have e2:([4,8]:List Int).length=2:=rfl;rw [e,e2] at he;omega
 obtain ⟨C,hC⟩:=Yx (S.ae (S.aa true (S.af 3) [4,8] Fs (H+4096)) M S.kStart 2000);obtain ⟨q1,q2,q3,q4,q5,q6,q7,q8,q9⟩:=Zsq hI (by decide) hw (heap:=4096) (by rw [hM];exact hwr.fst.m1) (by decide) (by omega) hC;obtain ⟨f2,l3,l4⟩:=Zar (hI true) Zl0;obtain ⟨f1,l1,l2⟩:=Zar (hI true) Zbr;have hR:S.am C ((S.aa true (S.af 3) [4,8] Fs (H+4096)).lab S.kStub)=10:=by
  unfold S.am;rw [if_neg (fun q=>q q1),if_neg q3,q2];rfl
 refine (Zo7 (nm:=⟨#[115,116,97,114,116]⟩) 2000 2000 rfl (by decide) hK (by rw [<- Zqe];exact f2) f1 ⟨l3,l4⟩ ⟨l1,l2⟩ hw.run hw.out hw.steps (C:=C) (by rw [hC];rfl) hR).mono ?_;rintro e w' ⟨rfl,hk⟩;refine ⟨rfl,C,⟨q4.trans hlab.symm,by rw [q5,<- hlab];rfl,q6,q8 1314 (by decide) (by decide),?_,q7,by rw [hC];exact Zks hw _ _⟩,hk⟩;rw [q9 1315 (by decide) (by omega)];have:=hwr.fst.stat 0 (by decide);rw [hM];exact this
def S.bi (k:Nat):ByteArray:=S.kRt (103+k)
def S.bm (k:Nat):Int:=if k=0 then 5 else if k=1 then 2 else if k=2 then 6 else 0
theorem knS_lit:S.bi 0=⟨#[114,116,49,48,51]⟩/\S.bi 1=⟨#[114,116,49,48,52]⟩/\S.bi 2=⟨#[114,116,49,48,53]⟩/\S.bi 3=⟨#[114,116,49,48,54]⟩:=⟨by kernel_rfl,by kernel_rfl,by kernel_rfl,by kernel_rfl⟩
theorem Zn2 {w:World}{F:Nat->Prop}{lo b p:Nat}{Fs:List Int}(hwr:S.Wr [] [] Fs 100){H half:Int}(hH:H=(S.wL [] [] Fs).length){P:List (ByteArray×Int)}(hP:P=S.wP [] [] Fs){M:S.Mach}(hM:M=S.wM (S.wL [] [] Fs) 100 [])(k:Nat)(hk:k<4)(hK:KAt w lo b p F H half P M) :
 Calls Tryz.prog 7 #[.pointer (some ⟨b,0,none⟩),.string (S.bi k),.bool false,.int .i64 100] w fun e w'=>e=.returned (.int .i64 (1+S.bm k))/\∃ C,Zwk w lo b p F H half P C w':=by
 rw [hP] at hK ⊢;have hI:∀ b,(S.aa b [] [] Fs (H+100)).Ok:=fun b=>by rw [hH];exact hwr.ok b
 have hw:S.Wd [] [] Fs (H+100) M:=by rw [hH,hM];exact hwr.wd
 have key:∀ (n code:Int) (j:Nat),(S.objs26++[S.oMain])[j]?=some (S.ofR (S.rStop n code))->S.chkB (S.rStop n code)=0->S.kRt n∈S.wTells->0<=code/\code<4294967296 ->
  Calls Tryz.prog 7 #[.pointer (some ⟨b,0,none⟩),.string (S.kRt n),.bool false,.int .i64 100] w fun e w'=>e=.returned (.int .i64 (1+code))/\∃ C,Zwk w lo b p F H half (S.wP [] [] Fs) C w':=by
  intro n code j hj hchk hn hc;obtain ⟨C,hC⟩:=Yx (S.ae (S.aa true [] [] Fs (H+100)) M (S.kRt n) 100);obtain ⟨q1,q2,q3⟩:=Zvs hI hj hchk hn hc hw hC;obtain ⟨f2,l3,l4⟩:=Zar (hI true) hn;obtain ⟨f1,l1,l2⟩:=Zar (hI true) Zbr;have hR:S.am C ((S.aa true [] [] Fs (H+100)).lab S.kStub)=1+code:=by
   unfold S.am;rw [if_neg (fun q=>q q1),if_neg q3,q2]
  refine (Zo7 (nm:=S.kRt n) 100 100 rfl (by decide) hK f2 f1 ⟨l3,l4⟩ ⟨l1,l2⟩ hw.run hw.out hw.steps (C:=C) (by rw [hC];rfl) hR).mono ?_;rintro e w' ⟨rfl,hk⟩;exact ⟨rfl,C,hk⟩
 match k,hk with
 | 0,_=>exact key 103 5 11 rfl (by kernel_rfl) (Zl9 (by kernel_rfl)) (by decide)
 | 1,_=>exact key 104 2 12 rfl (by kernel_rfl) (Zl9 (by kernel_rfl)) (by decide)
 | 2,_=>exact key 105 6 13 rfl (by kernel_rfl) (Zl9 (by kernel_rfl)) (by decide)
 | 3,_=>exact key 106 0 14 rfl (by kernel_rfl) (Zl9 (by kernel_rfl)) (by decide)
structure S.cd (H:Int)(C:S.Mach):Prop where
 r4:C.rd 4=4*H+1
 m1:C.mv (H+1)=20
 m2:C.mv (H+2)=24
 r7:C.rd 7=28
 r26:C.rd 26=H+3
 len:(C.mem.length:Int)=H+100
theorem Zn3 {w:World}{F:Nat->Prop}{lo b p:Nat}{Fs:List Int}(hwr:S.Wr [] [] Fs 100){H half:Int}(hH:H=(S.wL [] [] Fs).length){P:List (ByteArray×Int)}(hP:P=S.wP [] [] Fs){M:S.Mach}(hM:M=(((S.wM (S.wL [] [] Fs) 100 []).setV 4 20).setV 5 24).setV 7 28)(hK:KAt w lo b p F H half P M) :
 Calls Tryz.prog 7 #[.pointer (some ⟨b,0,none⟩),.string ⟨#[99,111,110,115]⟩,.bool false,.int .i64 200] w fun e w'=>e=.returned (.int .i64 0)/\∃ C,S.cd H C/\Zwk w lo b p F H half P C w':=by
 rw [hP] at hK ⊢;have hI:∀ b,(S.aa b [] [] Fs (H+100)).Ok:=fun b=>by rw [hH];exact hwr.ok b
 have hlab:H=(S.aa true [] [] Fs (H+100)).lab S.kEnd:=by rw [hH];exact hwr.len
 have hw0:S.Wd [] [] Fs (H+100) (S.wM (S.wL [] [] Fs) 100 []):=by rw [hH];exact hwr.wd
 have hw1:=Zja (hI true) hw0 (i:=4) (v:=20) (by decide) (fun h=>absurd h (by decide)) (by decide);have hw2:=Zja (hI true) hw1 (i:=5) (v:=24) (by decide) (fun h=>absurd h (by decide)) (by decide);have hw3:=Zja (hI true) hw2 (i:=7) (v:=28) (by decide) (fun h=>absurd h (by decide)) (by decide);have hrd:∀ j,M.rd j=if j=7 then 28 else if j=5 then 24 else if j=4 then 20 else (S.wM (S.wL [] [] Fs) 100 []).rd j:=fun j=>by
  rw [hM,Zd7 hw2.ok (by decide) (by decide),Zd7 hw1.ok (by decide) (by decide),Zd7 hw0.ok (by decide) (by decide)]
 rw [<- hM] at hw3;obtain ⟨C,hC⟩:=Yx (S.ae (S.aa true [] [] Fs (H+100)) M S.kCons 200);obtain ⟨q1,q2,q3,q4,q5,q6,q7⟩:=Zvt hI hw3 hlab (by omega) (by rw [hrd,if_neg (by decide),if_neg (by decide),if_neg (by decide),hwr.fst.rd,if_neg (by decide),if_neg (by decide),if_pos rfl,hH]) (a:=20) (b:=24) (c:=28) (by rw [hrd];rfl) (by rw [hrd];rfl) (by rw [hrd];rfl) hC;obtain ⟨f2,l3,l4⟩:=Zar (hI true) Zo6;obtain ⟨f1,l1,l2⟩:=Zar (hI true) Zbr;have hR:S.am C ((S.aa true [] [] Fs (H+100)).lab S.kStub)=0:=by
  unfold S.am;rw [if_neg (fun q=>q q1),if_pos q2]
 refine (Zo7 (nm:=⟨#[99,111,110,115]⟩) 200 200 rfl (by decide) hK (by rw [<- Zsr];exact f2) f1 ⟨l3,l4⟩ ⟨l1,l2⟩ hw3.run hw3.out hw3.steps (C:=C) (by rw [hC];rfl) hR).mono ?_;rintro e w' ⟨rfl,hk⟩;exact ⟨rfl,C,⟨q3,q4,q5,q6,q7,by rw [hC];exact Zks hw3 _ _⟩,hk⟩
theorem Zn4 {w:World}{F:Nat->Prop}{lo b p:Nat}{Fs:List Int}(hwr:S.Wr [] [] Fs 100){H half:Int}(hH:H=(S.wL [] [] Fs).length){P:List (ByteArray×Int)}(hP:P=S.wP [] [] Fs){m0:S.Mach}(hm0:m0=S.wM (S.wL [] [] Fs) 100 [])(hK:KAt w lo b p F H half P (S.bg H m0)) :
 Calls Tryz.prog 7 #[.pointer (some ⟨b,0,none⟩),.string ⟨#[99,111,108,108,101,99,116]⟩,.bool false,.int .i64 2000] w fun e w'=>e=.returned (.int .i64 0)/\∃ C,C.rd 26=H+50/\Zwk w lo b p F H half P C w':=by
 rw [hP] at hK ⊢;have hI:∀ b,(S.aa b [] [] Fs (H+100)).Ok:=fun b=>by rw [hH];exact hwr.ok b
 have hlab:H=(S.aa true [] [] Fs (H+100)).lab S.kEnd:=by rw [hH];exact hwr.len
 have hw:S.Wd [] [] Fs (H+100) m0:=by rw [hH,hm0];exact hwr.wd
 have hsm:H<=12000:=by have:=hwr.small;omega
 obtain ⟨C,hC⟩:=Yx (S.ae (S.aa true [] [] Fs (H+100)) (S.bg H m0) S.kCollect 2000);obtain ⟨hw2,q1,q2,q3⟩:=Zz4 hI hlab hw (by rw [hm0,hwr.fst.m2,hH]) (by rw [hm0,hwr.fst.m3,hH];rfl) (by rw [hm0,hwr.fst.m4];rfl) (by rw [hm0,hwr.fst.m5]) (by rw [hm0];exact hwr.fst.low) (by omega) hC;obtain ⟨f2,l3,l4⟩:=Zar (hI true) Zeu;obtain ⟨f1,l1,l2⟩:=Zar (hI true) Zbr;have hR:S.am C ((S.aa true [] [] Fs (H+100)).lab S.kStub)=0:=by
  unfold S.am;rw [if_neg (fun q=>q q1),if_pos q2]
 refine (Zo7 (nm:=⟨#[99,111,108,108,101,99,116]⟩) 2000 2000 rfl (by decide) hK (by rw [<- Zso];exact f2) f1 ⟨l3,l4⟩ ⟨l1,l2⟩ hw2.run hw2.out hw2.steps (C:=C) (by rw [hC];rfl) hR).mono ?_;rintro e w' ⟨rfl,hk⟩;exact ⟨rfl,C,q3,hk⟩
end
section
open Go.RowKit
theorem Zyf:(Tryz.prog.info? 80).map (fun i=>(i.zero,i.size,i.bytes))=some (some (.agg #[.int .u32 0,.int .u16 0]),2,8):=by kernel_rfl
theorem Zyg (w:World):(Instr.makeSlice 40 (.int .i64 2) (.int .i64 2)).run Tryz.prog w=.ok (.slice (some ⟨w.heap.size,0,none⟩) 2 2) (w.alloc (.cells #[.int .u32 0,.int .u16 0,.int .u32 0,.int .u16 0] 80)):=by
 obtain ⟨i,hi,hzz,hsize,hby⟩:=info_parts Zyf;have h:=run_make (P:=Tryz.prog) w 40 80 i _ Tryz.underlying40 hi hzz .i64 .i64 2 2 (by decide) (by decide) (by rw [hby];decide) (by decide);have e:madeCells (Value.agg #[.int .u32 0,.int .u16 0]).cells (Int.toNat 2*2)=#[.int .u32 0,.int .u16 0,.int .u32 0,.int .u16 0]:=by
  first
   | kernel_rfl
   | (simp [madeCells,Value.cells,Array.range];done)
   | (simp [madeCells,Value.cells];rfl)
 rw [hsize,e] at h;exact h
def Zav:Obj:=.cells #[.int .u32 0,.int .u16 0,.int .u32 0,.int .u16 0] 80
theorem Zss (w:World):(((w.alloc Zav).alloc Zav).alloc Zav).heap.size=w.heap.size+3/\Below w.heap.size w (((w.alloc Zav).alloc Zav).alloc Zav)/\∀ q,w.heap.size<=q->q<w.heap.size+3->(((w.alloc Zav).alloc Zav).alloc Zav).heap[q]?=some Zav:=by
 have s1:(w.alloc Zav).heap.size=w.heap.size+1:=by simp
 have s2:((w.alloc Zav).alloc Zav).heap.size=w.heap.size+2:=by simp
 have s3:(((w.alloc Zav).alloc Zav).alloc Zav).heap.size=w.heap.size+3:=by simp
 refine ⟨s3,(((Yj _ _).alloc (Yf _) _).alloc (by simp) _).alloc (by simp;omega) _,fun q h0 h1=>?_⟩;have b1:=heap_alloc_new w Zav;have b2:=heap_alloc_new (w.alloc Zav) Zav;have b3:=heap_alloc_new ((w.alloc Zav).alloc Zav) Zav;rw [s1] at b2;rw [s2] at b3;have e:q=w.heap.size\/q=w.heap.size+1\/q=w.heap.size+2:=by omega
 rcases e with rfl | rfl | rfl
 ·exact (Ybn _ _ _ (by rw [s2];omega)).trans ((Ybn _ _ _ (by rw [s1];omega)).trans b1)
 ·exact (Ybn _ _ _ (by rw [s2];omega)).trans b2
 ·exact b3
theorem Zj9 {W:World}{F:Nat->Prop}{q:Nat}(h:W.heap[q]?=some Zav)(hF:¬ F q):WordsF W F (some ⟨q,0,none⟩) [(0,0),(0,0)]:=fun _=>by
 refine ⟨q,0,rfl,⟨(Yh.1 h).1,hF⟩,fun j y hy=>?_⟩
 match j,hy with
 | 0,hy=>cases hy;exact ⟨by rw [Yb h];rfl,by rw [Yb h];rfl,by decide⟩
 | 1,hy=>cases hy;exact ⟨by rw [Yb h];rfl,by rw [Yb h];rfl,by decide⟩
 | j+2,hy=>simp at hy
theorem Zvu {W:World}{F:Nat->Prop}{q1 q2 q3 qn:Nat}(h1:W.heap[q1]?=some Zav)(h2:W.heap[q2]?=some Zav)(h3:W.heap[q3]?=some Zav)(hn:W.heap[qn]?=some (.cells #[.int .u8 0,.slice (some ⟨q1,0,none⟩) 2 2,.int .u8 0,.slice (some ⟨q2,0,none⟩) 2 2,.int .u8 0,.slice (some ⟨q3,0,none⟩) 2 2] 42 (0,0)))
 (f1:¬ F q1) (f2:¬ F q2) (f3:¬ F q3) (fn:¬ F qn):NodesF W F (some ⟨qn,0,none⟩) S.ay:=fun _=>by
 refine ⟨qn,0,rfl,⟨(Yh.1 hn).1,fn⟩,fun i x hx=>?_⟩
 match i,hx with
 | 0,hx =>
  cases hx
  exact ⟨by rw [Yb hn];rfl,by decide,by decide,some ⟨q1,0,none⟩,2,by rw [Yb hn];rfl,by decide,Zj9 h1 f1⟩
 | 1,hx =>
  cases hx
  exact ⟨by rw [Yb hn];rfl,by decide,by decide,some ⟨q2,0,none⟩,2,by rw [Yb hn];rfl,by decide,Zj9 h2 f2⟩
 | 2,hx =>
  cases hx
  exact ⟨by rw [Yb hn];rfl,by decide,by decide,some ⟨q3,0,none⟩,2,by rw [Yb hn];rfl,by decide,Zj9 h3 f3⟩
 | i+3,hx=>simp [S.ay] at hx
theorem Zz5 {w:World}{F:Nat->Prop}{lo b p:Nat}{H half:Int}{P:List (ByteArray×Int)}{m0:S.Mach}(hK:KAt w lo b p F H half P m0)(hlo:lo<=w.heap.size)(hH:0<=H/\H<=12000)(h26:m0.rd 26=H)(h27:m0.rd 27=H+50)(hml:m0.mem.length<=335544320){q1 q2 q3:Nat}(h1:w.heap.size<=q1/\q1<w.heap.size+3)(h2:w.heap.size<=q2/\q2<w.heap.size+3)(h3:w.heap.size<=q3/\q3<w.heap.size+3) :
 Calls Tryz.prog 11 #[.pointer (some ⟨b,0,none⟩),.slice (some ⟨w.heap.size+3,0,none⟩) 3 3] ((((w.alloc Zav).alloc Zav).alloc Zav).alloc (.cells #[.int .u8 0,.slice (some ⟨q1,0,none⟩) 2 2,.int .u8 0,.slice (some ⟨q2,0,none⟩) 2 2,.int .u8 0,.slice (some ⟨q3,0,none⟩) 2 2] 42)) fun e w'=>∃ gb,e=.returned (.pointer (some ⟨gb,0,none⟩))/\KAt w' lo b p F H half P (S.bg H m0)/\Below lo w w'/\lo<=w'.heap.size:=by
 obtain ⟨s3,b3,hq⟩:=Zss w;obtain ⟨w3,hw3⟩:=Yx (((w.alloc Zav).alloc Zav).alloc Zav);rw [<- hw3] at s3 b3 hq ⊢;obtain ⟨nr,hnr⟩:=Yx (Obj.cells #[.int .u8 0,.slice (some ⟨q1,0,none⟩) 2 2,.int .u8 0,.slice (some ⟨q2,0,none⟩) 2 2,.int .u8 0,.slice (some ⟨q3,0,none⟩) 2 2] 42 (0,0));have hn:=heap_alloc_new w3 nr;have bn:Below w.heap.size w (w3.alloc nr):=b3.alloc b3.size _;rw [s3] at hn;have hF:∀ k,F k->k<w.heap.size:=fun k hk=>(hK.lt k hk).2
 have hb:∀ q,w.heap.size<=q->q<w.heap.size+3->(w3.alloc nr).heap[q]?=some Zav:=fun q a c=>(Ybn _ _ _ (by rw [s3];omega)).trans (hq q a c)
 have hnd:NodesF (w3.alloc nr) F (some ⟨w.heap.size+3,0,none⟩) S.ay:=Zvu (hb q1 h1.1 h1.2) (hb q2 h2.1 h2.2) (hb q3 h3.1 h3.2) (by rw [hn,hnr]) (fun q=>by have:=hF _ q;omega) (fun q=>by have:=hF _ q;omega) (fun q=>by have:=hF _ q;omega) (fun q=>by have:=hF _ q;omega);have hlay:=Z04 (hK.below bn) (some ⟨w.heap.size+3,0,none⟩) 3 S.ay hnd (by decide) (by rw [h26];omega) (Zeg (by decide) (by rw [h26];omega)) hml;have hs9:S.sizes (S.ac S.ay)=9:=rfl;rw [<- hnr];refine hlay.mono ?_;rintro e w2 (⟨hno,-⟩ | ⟨-,gb,rfl,hg2,hk2,ho2⟩)
 ·exfalso
  rw [h26,h27,hs9] at hno;omega
 ·rw [h26,hs9] at hk2
  have hz:lo<=(w3.alloc nr).heap.size:=Y9 hlo bn.size;exact ⟨gb,rfl,hk2,(bn.mono hlo).trans ((hK.below bn).lobelow ho2 hz),Y9 hz ho2.size⟩
end
section
open Go.RowKit
section
variable {P:Program}{ops:Array Oper}{md:Region.Mode}{C:World->Prop}
def Zn5 (md:Region.Mode)(ops:Array Oper)(listed:Array Bool):Bool :=
 decide (listed.size=ops.size) && (Yz ops.size).all fun j=>!listed.getD j false || match ops[j]? with
  | none=>true
  | some o=>o.after.all fun e=>!Region.binds md e || listed.getD e.on false
theorem Zqf {listed:Array Bool}(h:Zn5 md ops listed=true):HeadInv md ops ops.size listed:=by
 simp only [Zn5,Bool.and_eq_true,decide_eq_true_eq] at h;refine ⟨h.1,fun j oj hoj hl e he hb=>?_,fun t h1 h2=>absurd h2 (Nat.not_lt.2 h1)⟩;have h1:=List.all_eq_true.1 h.2 j (List.mem_range.2 (Yh.1 hoj).1);rw [hl,hoj] at h1;simp only [Bool.not_true,Bool.false_or] at h1;have h2:=(Array.all_eq_true'.1 h1) e he;rw [hb] at h2
 simpa using h2
theorem Zst:Zvo md ops ops.size:=fun listed _ i _ _ t ht hr=>by
 obtain ⟨_,ot,hot,_⟩:=mem_ready.1 hr;have:=(Yh.1 hot).1;omega
end
theorem Za1 {P:Program}{Q:Exit->Act->World->Prop}{a:Act}{w:World}{l:List Oper}(k:Nat)(Lf:Array Bool){f:Nat}{listed:Array Bool}
 (hB:(Region.noSelect l.toArray && decide (k+f=l.toArray.size) && Zn5 .any l.toArray listed && Z0b .any l.toArray l.toArray.size f k listed && decide (Zpe f k listed=Lf) && (Region.ready .any l.toArray Lf).isEmpty)=true)
 (h:wpQuiet P l.toArray (fun w'=>∃ x:Ext w,w'=x.val) (fun a'=>∀ w',(∃ x:Ext w,w'=x.val)->Q .normal a' w') (l.drop k) a):wpAny P .any l.toArray Q f listed a w:=by
 simp only [Bool.and_eq_true,decide_eq_true_eq] at hB;obtain ⟨⟨⟨⟨⟨hsel,hk⟩,hc⟩,hlex⟩,hE⟩,hd⟩:=hB;have hd':Region.ready .any l.toArray Lf=[]:=List.isEmpty_iff.1 hd;have hk':k+f=l.length:=by simpa using hk
 have htl:(l.drop k).length=f:=by simp;omega
 have H:=Zd3 (md:=.any) hsel Zst (Yf _) Lf (fun j hj=>by rw [hd'] at hj;cases hj) (l.drop k) k listed a (fun j hj=>by simp) (by rw [htl];exact hk) (Zqf hc) (by rw [htl];exact hE) (by rw [htl];exact hlex) h;have h2:=Za8 (Q':=Q) (g:=0) (fun listed a' w' hw' hL=>⟨by rw [hL.1];exact hd',hL.2 w' hw'⟩) _ _ _ _ (⟨⟨w,Yj _ _⟩,rfl⟩:∃ x:Ext w,w=x.val) H;rw [htl] at h2;exact h2
end
end Go.Proofs.YtdeepoikgfaecaaGreatDoor
