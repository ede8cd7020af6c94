/- Parts. -/
import Derived.Test.YtlldagdhlfpihaaGreatDoorZKLay
import Derived.Test.YtlldagdhlfpihaaGreatDoorZGLen
import Derived.Test.YtlldagdhlfpihaaGreatDoorZGLay
import Derived.Test.YtlldagdhlfpihaaGreatDoorZGSeg
set_option linter.unusedVariables false
set_option linter.unusedSimpArgs false
set_option linter.unusedSectionVars false
namespace Go.Proofs.YtlldagdhlfpihaaGreatDoor
set_option maxRecDepth 100000
section
open Go.RowKit
def wkW (w:World):World:=((w.alloc (.cells #[.int .u32 4,.int .u16 0,.int .u32 6,.int .u16 0] 60)).alloc (.cells #[.int .u32 12,.int .u16 0,.int .u32 0,.int .u16 2] 60)).alloc (.cells #[.int .u8 0,.slice (some ⟨w.heap.size,0,none⟩) 2 2,.int .u8 0,.slice (some ⟨w.heap.size+1,0,none⟩) 2 2] 95)
theorem wk_below (w:World):Below w.heap.size w (wkW w):=(((Below.refl _ _).alloc (Nat.le_refl _) _).alloc (by simp) _).alloc (by simp;omega) _
theorem wk_nodes (w:World) (F:Nat->Prop) (hF:∀ k,F k->k<w.heap.size):NodesF (wkW w) F (some ⟨w.heap.size+1+1,0,none⟩) S.wkNs:=fun _=>by
 have s1:(w.alloc (.cells #[.int .u32 4,.int .u16 0,.int .u32 6,.int .u16 0] 60)).heap.size=w.heap.size+1:=by simp
 have s2:((w.alloc (.cells #[.int .u32 4,.int .u16 0,.int .u32 6,.int .u16 0] 60)).alloc (.cells #[.int .u32 12,.int .u16 0,.int .u32 0,.int .u16 2] 60)).heap.size=w.heap.size+1+1:=by simp
 have h0:(wkW w).heap[w.heap.size]?=some (.cells #[.int .u32 4,.int .u16 0,.int .u32 6,.int .u16 0] 60 (0,0)):=(Below.heap_alloc _ _ _ (by rw [s2];omega)).trans ((Below.heap_alloc _ _ _ (by rw [s1];omega)).trans (heap_alloc_new w _))
 have h1:(wkW w).heap[w.heap.size+1]?=some (.cells #[.int .u32 12,.int .u16 0,.int .u32 0,.int .u16 2] 60 (0,0)):=(Below.heap_alloc _ _ _ (by rw [s2];omega)).trans (by
  have:=heap_alloc_new (w.alloc (.cells #[.int .u32 4,.int .u16 0,.int .u32 6,.int .u16 0] 60)) (.cells #[.int .u32 12,.int .u16 0,.int .u32 0,.int .u16 2] 60)
  rw [s1] at this
  exact this)
 have h2:(wkW w).heap[w.heap.size+1+1]?=some (.cells #[.int .u8 0,.slice (some ⟨w.heap.size,0,none⟩) 2 2,.int .u8 0,.slice (some ⟨w.heap.size+1,0,none⟩) 2 2] 95 (0,0)):=by
  have:=heap_alloc_new ((w.alloc (.cells #[.int .u32 4,.int .u16 0,.int .u32 6,.int .u16 0] 60)).alloc (.cells #[.int .u32 12,.int .u16 0,.int .u32 0,.int .u16 2] 60)) (.cells #[.int .u8 0,.slice (some ⟨w.heap.size,0,none⟩) 2 2,.int .u8 0,.slice (some ⟨w.heap.size+1,0,none⟩) 2 2] 95)
  rw [s2] at this
  exact this
 have out:∀ k,w.heap.size<=k->k<(wkW w).heap.size->Out (wkW w) F k:=fun k hk hl=>⟨hl,fun q=>by have:=hF k q;omega⟩
 have l0:=(Array.getElem?_eq_some_iff.1 h0).1
 have l1:=(Array.getElem?_eq_some_iff.1 h1).1
 have l2:=(Array.getElem?_eq_some_iff.1 h2).1
 refine ⟨_,0,rfl,out _ (by omega) l2,fun i x hx=>?_⟩
 match i,hx with
 | 0,hx =>
  cases hx
  refine ⟨by rw [Lib.cell_of_heap h2];rfl,by decide,by decide,some ⟨w.heap.size,0,none⟩,2,by rw [Lib.cell_of_heap h2];rfl,by decide,fun _=>⟨_,0,rfl,out _ (Nat.le_refl _) l0,fun j y hy=>?_⟩⟩
  match j,hy with
  | 0,hy=>cases hy;exact ⟨by rw [Lib.cell_of_heap h0];rfl,by rw [Lib.cell_of_heap h0];rfl,by decide⟩
  | 1,hy=>cases hy;exact ⟨by rw [Lib.cell_of_heap h0];rfl,by rw [Lib.cell_of_heap h0];rfl,by decide⟩
  | j+2,hy=>simp at hy
 | 1,hx =>
  cases hx
  refine ⟨by rw [Lib.cell_of_heap h2];rfl,by decide,by decide,some ⟨w.heap.size+1,0,none⟩,2,by rw [Lib.cell_of_heap h2];rfl,by decide,fun _=>⟨_,0,rfl,out _ (by omega) l1,fun j y hy=>?_⟩⟩
  match j,hy with
  | 0,hy=>cases hy;exact ⟨by rw [Lib.cell_of_heap h1];rfl,by rw [Lib.cell_of_heap h1];rfl,by decide⟩
  | 1,hy=>cases hy;exact ⟨by rw [Lib.cell_of_heap h1];rfl,by rw [Lib.cell_of_heap h1];rfl,by decide⟩
  | j+2,hy=>simp at hy
 | i+2,hx=>simp [S.wkNs] at hx
set_option maxHeartbeats 4000000 in
theorem law26_works (w:World) (hL:LVE w):Calls Tryz.prog 33 #[] w fun e w'=>e=.returned (.bool true)/\Below w.heap.size w w':=by
 have Hw:=Lib.hid (k_world none none 0 0 [] [] 40 w hL (fun h=>by simp at h) (fun h=>by simp at h) (by decide) (by decide) (fun x hx=>by cases hx) (fun x hx=>by cases hx) (by decide))
 clear hL
 go_enter Tryz.func33,Tryz.ntmps33
 go_wp2_with fail
 refine Hw.out.mono ?_
 rintro e w1 ⟨Fs,b,p,F,hwr,rfl,hk1,hb1⟩
 have HWr:=Lib.hid hwr
 have HK1:=Lib.hid hk1
 have HB1:=Lib.hid hb1
 have HF:=Lib.hid (show ∀ k,F k->k<w1.heap.size from fun k hk=>(hk1.lt k hk).2)
 have HFl:=Lib.hid (show ∀ k,F k->w.heap.size<=k from fun k hk=>(hk1.lt k hk).1)
 clear hwr hk1 hb1 Hw
 obtain ⟨m0,hm0⟩:∃ m0,m0=S.wM (S.wL [] [] Fs) 40 []:=⟨_,rfl⟩
 have Hm0:=Lib.hid hm0
 rw [<- hm0] at HK1
 clear hm0
 go_wp2_with fail
 have hrd:m0.rd 26=(S.wL [] [] Fs).length/\m0.rd 27=(S.wL [] [] Fs).length+20:=by
  have:=HWr.out.fst.rd
  rw [<- Hm0.out] at this
  exact ⟨this 26,this 27⟩
 obtain ⟨H,hH⟩:∃ H:Int,H=(S.wL [] [] Fs).length:=⟨_,rfl⟩
 have hHb:0<=H/\H<=12000:=by have:=HWr.out.small;omega
 rw [<- hH] at hrd
 have HH:=Lib.hid hH
 have HRd:=Lib.hid hrd
 have hlay:=k_Lay (HK1.out.below (wk_below w1)) (some ⟨w1.heap.size+1+1,0,none⟩) 2 S.wkNs (wk_nodes w1 F HF.out) (by decide) (by rw [hrd.1];omega) (laidG_ok (by decide) (by rw [hrd.1];omega)) (by
  have h1:=(HWr.out.ok true).size2
  have h2:=HWr.out.wd.len
  rw [<- Hm0.out] at h2
  have h3:(S.wImg true [] [] Fs ((S.wL [] [] Fs).length+40)).size=(S.wL [] [] Fs).length+40:=rfl
  omega)
 have Hlay:=Lib.hid hlay
 have HB2:=Lib.hid (HB1.out.trans ((wk_below w1).mono HB1.out.size))
 clear hlay hrd hH
 refine Hlay.out.mono ?_
 rintro e w2 (⟨hno,-⟩ | ⟨-,gb,rfl,hg2,hk2,ho2⟩)
 ·exfalso
  rw [HRd.out.1,HRd.out.2] at hno
  have:S.sizes (S.laidNs S.wkNs)=6:=rfl
  omega
 have hs6:S.sizes (S.laidNs S.wkNs)=6:=rfl
 rw [HRd.out.1,hs6,<- HH.out,show (40:Int)/2=20 from by decide] at hk2
 rw [HRd.out.1] at hg2
 have HG2:=Lib.hid hg2
 have HK2:=Lib.hid hk2
 have HP2:=Lib.hid ((Pass.of_below (F:=F) (wk_below w1)).trans (.of_only ho2))
 clear hs6 hg2 hk2 ho2 Hlay HK1 HB2
 obtain ⟨g,hgE⟩:∃ g,g=S.laidG S.wkNs H:=⟨_,rfl⟩
 have HgE:=Lib.hid hgE
 rw [<- hgE] at HG2 HK2
 clear hgE
 go_wp2_with fail
 have hgw:=k_gword (0,2) (by decide) HG2.out
 have hw0:g.word (0,2)=4*(H+3)+1:=by rw [HgE.out];exact wk_word H
 rw [hw0] at hgw
 have Hgw:=Lib.hid hgw
 clear hgw hw0
 refine Hgw.out.mono ?_
 rintro e w3 ⟨rfl,hb3⟩
 have HP3:=Lib.hid (HP2.out.trans (.of_below hb3))
 have HG3:=Lib.hid (HG2.out.below hb3)
 have HK3:=Lib.hid (HK2.out.below hb3)
 clear hb3 HP2 HG2 HK2 Hgw
 have hw0b:0<=4*(H+3)+1/\4*(H+3)+1<=4294967295:=by omega
 obtain ⟨w0,hw0⟩:∃ w0,w0=4*(H+3)+1:=⟨_,rfl⟩
 have Hw0:=Lib.hid hw0
 rw [<- hw0] at hw0b ⊢
 clear hw0
 go_upto_region 8 with fail
 have hb4:Below w3.heap.size w3 (w3.alloc (.cells #[.int .u32 w0] 30)):=(Below.refl _ _).alloc (Nat.le_refl _) _
 have hr4:=heap_alloc_new w3 (.cells #[.int .u32 w0] 30)
 generalize w3.alloc (.cells #[.int .u32 w0] 30)=w4 at *
 have HP4:=Lib.hid (HP3.out.trans (.of_below hb4))
 have HG4:=Lib.hid (HG3.out.below hb4)
 have HK4:=Lib.hid (HK3.out.below hb4)
 have hz34:w3.heap.size<w4.heap.size:=(Array.getElem?_eq_some_iff.1 hr4).1
 have hnF:¬ F w3.heap.size:=fun q=>by
  have h1:=HF.out _ q
  have h2:=HP3.out.1.size
  omega
 have HO4:Hid (Out w4 F w3.heap.size):=Lib.hid ⟨hz34,hnF⟩
 have HR4:=Lib.hid hr4
 have a0:w4.cell? ⟨w3.heap.size,0,none⟩=some (.int .u32 w0):=by rw [Lib.cell_of_heap hr4];rfl
 clear hb4 hr4 HP3 HG3 HK3
 generalize w3.heap.size=wb at *
 obtain ⟨_,_,_,_,_,_,e0,e1,e2,e3,e4⟩:=HK4.out.cells
 have hbl:=HK4.out.blt
 refine wp_region_ext_tail 7 (by kernel_rfl) (by kernel_rfl) ?_
 have hE:=ext_cells w4
 simp only [List.take_succ_cons,List.take_zero,List.drop_succ_cons,List.drop_zero]
 repeat (first | go_big_quiet_step (fail))
 refine wpQuiet_nil ?_
 rintro w5 ⟨⟨_,hb5⟩,rfl⟩
 have HP5:=Lib.hid (HP4.out.trans (.of_below hb5))
 have HG5:=Lib.hid (HG4.out.below hb5)
 have HK5:=Lib.hid (HK4.out.below hb5)
 have hq5:=HO4.out.pass (.of_below (F:=F) hb5)
 have HO5:=Lib.hid hq5.1
 have HR5:=Lib.hid (hq5.2.trans HR4.out)
 clear hE hb5 HP4 HG4 HK4 HO4 HR4 hq5 e0 e1 e2 e3 e4 hbl a0 hz34
 go_wp2_with fail
 refine (k_PutR 16 w0 HK5.out hw0b).mono ?_
 rintro e w6 ⟨rv,rfl,hk6,ho6⟩
 have HK6:=Lib.hid hk6
 have HP6:=Lib.hid (HP5.out.trans (.of_only ho6))
 have HG6:=Lib.hid (HG5.out.pass (.of_only ho6))
 have hq6:=HO5.out.pass (.of_only ho6)
 have HO6:=Lib.hid hq6.1
 have HR6:=Lib.hid (hq6.2.trans HR5.out)
 clear hk6 ho6 HK5 HP5 HG5 HO5 HR5 hq6
 obtain ⟨_,_,_,_,_,_,e0,e1,e2,e3,e4⟩:=HK6.out.cells
 have hbl:=HK6.out.blt
 go_wp2_with fail
 refine (k_PutR 8 1 HK6.out (by decide)).mono ?_
 rintro e w7 ⟨rv2,rfl,hk7,ho7⟩
 have hmM:((((S.laidM g m0).setV 26 (H+6)).putV 16 w0).putV 8 1)=S.wkM H m0:=by rw [HgE.out,Hw0.out];rfl
 rw [hmM] at hk7
 have HK7:=Lib.hid hk7
 have HP7:=Lib.hid (HP6.out.trans (.of_only ho7))
 have HG7:=Lib.hid (HG6.out.pass (.of_only ho7))
 have hq7:=HO6.out.pass (.of_only ho7)
 have HO7:=Lib.hid hq7.1
 have HR7:=Lib.hid (hq7.2.trans HR6.out)
 clear hk7 ho7 HK6 HP6 HG6 HO6 HR6 hq7 e0 e1 e2 e3 e4 hbl hmM
 obtain ⟨I,hIe⟩:∃ I,I=S.wImg true [] [] Fs (H+40):=⟨_,rfl⟩
 have hok:∀ b,(S.wImg b [] [] Fs (H+40)).Ok:=fun b=>by rw [HH.out];exact HWr.out.ok b
 have hlab:H=(S.wImg true [] [] Fs (H+40)).lab S.kEnd:=by rw [HH.out];exact HWr.out.len
 have hrun:=wk_run (m0:=m0) hok hlab (by rw [Hm0.out,HH.out];exact HWr.out.wd) (by rw [Hm0.out,HH.out];exact HWr.out.fst.m2) (by rw [Hm0.out,HH.out];exact HWr.out.fst.m3) (by rw [Hm0.out];exact HWr.out.fst.m4) (by rw [Hm0.out];exact HWr.out.fst.m5) (by rw [Hm0.out];exact HWr.out.fst.low) (by omega)
 obtain ⟨hwd,hkept,hst1,hpl⟩:=hrun
 have hlen2:=call_len (I:=I) hwd S.kCollect 20000
 rw [<- hIe] at hkept hst1 hpl
 obtain ⟨_,l1,l2⟩:=w_label (hok true) has_stub
 obtain ⟨f1,_,_⟩:=w_label (hok true) has_stub
 obtain ⟨f2,l3,l4⟩:=w_label (hok true) (s:=S.kCollect) has_collect
 rw [<- hIe] at l1 l2 l3 l4 f1 f2
 obtain ⟨m2,hm2⟩:∃ m2,m2=S.callM I (S.wkM H m0) S.kCollect 20000:=⟨_,rfl⟩
 rw [<- hm2] at hkept hst1 hpl
 have hcallR:S.callR m2 (I.lab S.kStub)=0:=by
  unfold S.callR
  rw [if_neg (fun h=>h hst1),if_pos hpl]
 have hdb:Below w7.heap.size w7 w7.drew:=drew_below (Below.refl _ _)
 have hcall:=k_Call S.kCollect 20000 (I.lab S.kCollect) (I.lab S.kStub) (HK7.out.below hdb) f2 f1 ⟨l3,by omega⟩ ⟨l1,by omega⟩ hwd.run hwd.out hwd.steps (by decide)
 have hcv:S.callV (S.wkM H m0) (I.lab S.kStub) (I.lab S.kCollect) 20000=m2:=by rw [hm2];rfl
 rw [hcv,hcallR] at hcall
 have HKl:=Lib.hid (show (m2.mem.length:Int)=H+40 from by rw [hm2];exact hlen2)
 have Hcall:=Lib.hid hcall
 have Hkept:=Lib.hid hkept
 clear hcall hkept hst1 hpl hcallR hcv hm2 hlen2 f1 f2 l1 l2 l3 l4 hIe hok hlab hwd
 go_upto_region 10 with fail
 refine wp_region_any (by kernel_rfl) ?_
 change wpAny _ _ _ _ _ _ _ (World.drew w7)
 have HPd:=Lib.hid (HP7.out.trans (.of_below hdb))
 have hqd:=HO7.out.pass (.of_below (F:=F) hdb)
 have HOd:=Lib.hid hqd.1
 have HRd2:=Lib.hid (hqd.2.trans HR7.out)
 have HGd:=Lib.hid (HG7.out.below hdb)
 clear hdb HP7 HO7 HR7 HG7 HK7 hqd
 generalize w7.drew=wd at *
 refine wpAny_take (i:=0) (v:=?v0n1) rfl (by kernel_rfl) (by kernel_rfl) (by kernel_rfl) (fun _ _ _ h=>h) (Or.inl ⟨by rfl,?y0n1⟩) ?z0n1
 case y0n1=>(intro w;first | (go_simp;done) | (go_simp;with_reducible rfl))
 refine wpAny_ready (rs:=[1]) (by kernel_rfl) (by simp) ?_
 refine AllReady.cons rfl (fun K hK=>?_) AllReady.nil
 go_simp
 refine Hcall.out.mono ?_
 rintro e w8 ⟨rfl,F8,hk8,ho8,hf8⟩
 have HK8:=Lib.hid hk8
 have hp8:Pass F wd F8 w8:=⟨ho8,hf8⟩
 have HP8:=Lib.hid (HPd.out.trans hp8)
 have HG8:=Lib.hid (HGd.out.pass hp8)
 have hq8:=HOd.out.pass hp8
 have HR8:=Lib.hid (hq8.2.trans HRd2.out)
 have hwb8:wb<w8.heap.size:=hq8.1.1
 clear hk8 ho8 hf8 hp8 hq8 HPd HOd HRd2 HGd Hcall
 go_simp
 refine hK _ _ ?_
 clear hK K
 refine wpAny_take (i:=2) (v:=?v2n2) rfl (by kernel_rfl) (by kernel_rfl) (by kernel_rfl) (fun _ _ _ h=>h) (Or.inl ⟨by rfl,?y2n2⟩) ?z2n2
 case y2n2=>(intro w;first | (go_simp;done) | (go_simp;with_reducible rfl))
 refine wpAny_take (i:=3) (v:=?v3n3) rfl (by kernel_rfl) (by kernel_rfl) (by kernel_rfl) (fun _ _ _ h=>h) (Or.inl ⟨by rfl,?y3n3⟩) ?z3n3
 case y3n3=>(intro w;first | (go_simp;done) | (go_simp;with_reducible rfl))
 refine wpAny_take (i:=4) (v:=?v4n4) rfl (by kernel_rfl) (by kernel_rfl) (by kernel_rfl) (fun _ _ _ h=>h) (Or.inl ⟨by rfl,?y4n4⟩) ?z4n4
 case y4n4=>(intro w;first | (go_simp;done) | (go_simp;with_reducible rfl))
 refine wpAny_take (i:=5) (v:=?v5n5) rfl (by kernel_rfl) (by kernel_rfl) (by kernel_rfl) (fun _ _ _ h=>h) (Or.inl ⟨by rfl,?y5n5⟩) ?z5n5
 case y5n5=>(intro w;first | (go_simp;done) | (go_simp;with_reducible rfl))
 refine wpAny_take (i:=6) (v:=?v6n6) rfl (by kernel_rfl) (by kernel_rfl) (by kernel_rfl) (fun _ _ _ h=>h) (Or.inl ⟨by rfl,?y6n6⟩) ?z6n6
 case y6n6=>(intro w;first | (go_simp;done) | (go_simp;with_reducible rfl))
 refine wpAny_take (i:=7) (v:=?v7n7) rfl (by kernel_rfl) (by kernel_rfl) (by kernel_rfl) (fun _ _ _ h=>h) (Or.inl ⟨by rfl,?y7n7⟩) ?z7n7
 case y7n7=>(intro w;first | (go_simp;done) | (go_simp;with_reducible rfl))
 refine wpAny_ready (rs:=[8]) (by kernel_rfl) (by simp) ?_
 refine AllReady.cons rfl (fun K hK=>?_) AllReady.nil
 go_simp
 have hlen2:(12:Int)+12<=m2.mem.length:=by
  have:=HKl.out
  omega
 have e16:m2.memV 16=m2.mv 16:=mv_mem (by decide) (by omega)
 have hwd16:=k_WordB 16 HK8.out
 rw [e16] at hwd16
 have Hwd16:=Lib.hid hwd16
 have hb16:=HK8.out.ok.memw 16
 obtain ⟨v16,hv16⟩:∃ v16,v16=m2.mv 16:=⟨_,rfl⟩
 have hb16':0<=v16/\v16<=4294967295:=by rw [hv16];exact hb16
 rw [<- hv16] at Hwd16
 have Hv16:=Lib.hid hv16
 clear hwd16 e16 hb16 hv16
 refine Hwd16.out.mono ?_
 rintro e w9 ⟨rfl,hb9⟩
 have HK9:=Lib.hid (HK8.out.below hb9)
 have HG9:=Lib.hid (HG8.out.below hb9)
 have HP9:=Lib.hid (HP8.out.trans (.of_below hb9))
 have HR9:=Lib.hid ((hb9.block wb hwb8).trans HR8.out)
 have hz9:=hb9.size
 clear hb9 HK8 HG8 HP8 HR8 Hwd16
 go_simp
 refine hK _ _ ?_
 clear hK K
 refine wpAny_ready (rs:=[9]) (by kernel_rfl) (by simp) ?_
 refine AllReady.cons rfl (fun K hK=>?_) AllReady.nil
 go_simp
 refine hK _ _ ?_
 clear hK K
 have hb10:Below w9.heap.size w9 (w9.alloc (.cells #[.int .u32 v16] 30)):=(Below.refl _ _).alloc (Nat.le_refl _) _
 have hr10:=heap_alloc_new w9 (.cells #[.int .u32 v16] 30)
 generalize w9.alloc (.cells #[.int .u32 v16] 30)=w10 at *
 have HK10:=Lib.hid (HK9.out.below hb10)
 have HG10:=Lib.hid (HG9.out.below hb10)
 have HP10:=Lib.hid (HP9.out.trans (.of_below hb10))
 have HR10:=Lib.hid ((hb10.block wb (by omega)).trans HR9.out)
 have hz10:w9.heap.size<w10.heap.size:=(Array.getElem?_eq_some_iff.1 hr10).1
 have hkp:Calls Tryz.prog 31 #[.pointer (some ⟨b,0,none⟩),.pointer (some ⟨gb,0,none⟩),.slice (some ⟨wb,0,none⟩) 1 1,.slice (some ⟨w9.heap.size,0,none⟩) 1 1] w10 fun e w'=>e=.returned (.bool true)/\Below w10.heap.size w10 w':=by
  obtain ⟨nu,hke⟩:=Hkept.out.keeps
  have hgo:g.Ok H:=by rw [HgE.out];exact laidG_ok (by decide) ⟨hHb.1,by omega⟩
  have hsz:S.sizes g.ns=6:=by rw [HgE.out];rfl
  have e1:([16]:List Int).map m2.mv=[v16]:=by rw [Hv16.out];rfl
  rw [e1,<- HgE.out,<- Hw0.out,<- Hkept.out.m2] at hke
  have hre:=wk_reached H ⟨hHb.1,by omega⟩
  rw [<- HgE.out,<- Hw0.out] at hre
  exact k_Kept HK10.out HG10.out hgo (by omega) (some ⟨wb,0,none⟩) (some ⟨w9.heap.size,0,none⟩) 1 1 [w0] [v16] (reads_lit8 HR10.out rfl (by omega)) (reads_lit8 hr10 rfl hz10) (fun r hr=>by rw [List.mem_singleton] at hr;omega) (fun r hr=>by rw [List.mem_singleton] at hr;omega) (by simp) hke (by
   have h1:=hke.size 3 [1] hre
   have h2:=HKl.out
   have h3:=Hkept.out.m2
   omega) (by omega) (by have:=HKl.out;omega) (by decide) ⟨_,_,hre⟩
 have Hkp:=Lib.hid hkp
 clear hb10 hr10 hkp HK9 HG9 HP9 HR9
 refine wpAny_ready (rs:=[10]) (by kernel_rfl) (by simp) ?_
 refine AllReady.cons rfl (fun K hK=>?_) AllReady.nil
 go_simp
 refine Hkp.out.mono ?_
 rintro e w11 ⟨rfl,hb11⟩
 have HK11:=Lib.hid (HK10.out.below hb11)
 have HP11:=Lib.hid (HP10.out.trans (.of_below hb11))
 clear hb11 HK10 HP10 HG10 HR10 Hkp
 go_simp
 refine hK _ _ ?_
 clear hK K
 refine wpAny_take (i:=11) (v:=?v11n8) rfl (by kernel_rfl) (by kernel_rfl) (by kernel_rfl) (fun _ _ _ h=>h) (Or.inl ⟨by rfl,?y11n8⟩) ?z11n8
 case y11n8=>(intro w;first | (go_simp;done) | (go_simp;with_reducible rfl))
 refine wpAny_take (i:=12) (v:=?v12n9) rfl (by kernel_rfl) (by kernel_rfl) (by kernel_rfl) (fun _ _ _ h=>h) (Or.inl ⟨by rfl,?y12n9⟩) ?z12n9
 case y12n9=>(intro w;first | (go_simp;done) | (go_simp;with_reducible rfl))
 refine wpAny_take (i:=13) (v:=?v13n10) rfl (by kernel_rfl) (by kernel_rfl) (by kernel_rfl) (fun _ _ _ h=>h) (Or.inl ⟨by rfl,?y13n10⟩) ?z13n10
 case y13n10=>(intro w;first | (go_simp;done) | (go_simp;with_reducible rfl))
 refine wpAny_take (i:=15) (v:=?v15n11) rfl (by kernel_rfl) (by kernel_rfl) (by kernel_rfl) (fun _ _ _ h=>h) (Or.inl ⟨by rfl,?y15n11⟩) ?z15n11
 case y15n11=>(intro w;first | (go_simp;done) | (go_simp;with_reducible rfl))
 refine wpAny_take (i:=16) (v:=?v16n12) rfl (by kernel_rfl) (by kernel_rfl) (by kernel_rfl) (fun _ _ _ h=>h) (Or.inl ⟨by rfl,?y16n12⟩) ?z16n12
 case y16n12=>(intro w;first | (go_simp;done) | (go_simp;with_reducible rfl))
 refine wpAny_take (i:=17) (v:=?v17n13) rfl (by kernel_rfl) (by kernel_rfl) (by kernel_rfl) (fun _ _ _ h=>h) (Or.inl ⟨by rfl,?y17n13⟩) ?z17n13
 case y17n13=>(intro w;first | (go_simp;done) | (go_simp;with_reducible rfl))
 have e2:m2.memV 2=H+20:=by rw [mv_mem (by decide) (by have:=HKl.out;omega)];exact Hkept.out.m2
 have Hwd2:=Lib.hid (show ∀ y:Ext w11,Calls Tryz.prog 32 #[.pointer (some ⟨b,0,none⟩),.int .i64 2] y.val fun e w'=>e=.returned (.int .u32 (H+20))/\Below y.val.heap.size y.val w' from fun y=>by
  rw [<- e2]
  exact k_WordB 2 (HK11.out.below y.property))
 have u1:IntKind.i64.wrap (H+20)=H+20:=IntWalk.i64_in _ ⟨by omega,by omega⟩
 have u2:IntKind.u32.wrap (H+20)=H+20:=IntWalk.u32_in _ ⟨by omega,by omega⟩
 have u3:(H+20)%4294967296=H+20:=by omega
 have Hu1:=Lib.hid u1
 have Hu2:=Lib.hid u2
 obtain ⟨_,_,_,_,_,_,e0,e1,e2',e3,e4⟩:=HK11.out.cells
 have hbl:=HK11.out.blt
 clear e2
 refine wpAny_ready (rs:=[14,18]) (by kernel_rfl) (by simp) ?_
 refine AllReady.cons rfl (fun K hK=>?_) (AllReady.cons rfl (fun K hK=>?_) AllReady.nil)
 ·go_simp
  refine (Hwd2.out ⟨w11,Below.refl _ _⟩).mono ?_
  rintro e w12 ⟨rfl,hb12⟩
  have HK12:=Lib.hid (HK11.out.below hb12)
  have HPz:=Lib.hid (HP11.out.trans (.of_below hb12))
  obtain ⟨_,_,_,_,_,_,i0,i1,i2,i3,i4⟩:=HK12.out.cells
  have hbl2:=HK12.out.blt
  clear hb12
  go_simp
  refine hK _ _ ?_
  clear hK K
  refine wpAny_ready (rs:=[18]) (by kernel_rfl) (by simp) ?_
  refine AllReady.cons rfl (fun K hK=>?_) AllReady.nil
  go_simp
  refine hK _ _ ?_
  clear hK K
  refine wpAny_take (i:=19) (v:=?v19n101) rfl (by kernel_rfl) (by kernel_rfl) (by kernel_rfl) (fun _ _ _ h=>h) (Or.inl ⟨by rfl,?y19n101⟩) ?z19n101
  case y19n101=>(intro w;first | (go_simp;done) | (go_simp;with_reducible rfl))
  refine wpAny_take (i:=20) (v:=?v20n102) rfl (by kernel_rfl) (by kernel_rfl) (by kernel_rfl) (fun _ _ _ h=>h) (Or.inl ⟨by rfl,?y20n102⟩) ?z20n102
  case y20n102=>(intro w;first | (go_simp;done) | (go_simp;with_reducible rfl))
  refine wpAny_take (i:=21) (v:=?v21n103) rfl (by kernel_rfl) (by kernel_rfl) (by kernel_rfl) (fun _ _ _ h=>h) (Or.inl ⟨by rfl,?y21n103⟩) ?z21n103
  case y21n103=>(intro w;first | (go_simp;done) | (go_simp;with_reducible rfl))
  refine wpAny_take (i:=22) (v:=?v22n104) rfl (by kernel_rfl) (by kernel_rfl) (by kernel_rfl) (fun _ _ _ h=>h) (Or.inl ⟨by rfl,?y22n104⟩) ?z22n104
  case y22n104=>(intro w;first | (go_simp;done) | (go_simp;with_reducible rfl))
  refine wpAny_take (i:=23) (v:=?v23n105) rfl (by kernel_rfl) (by kernel_rfl) (by kernel_rfl) (fun _ _ _ h=>h) (Or.inl ⟨by rfl,?y23n105⟩) ?z23n105
  case y23n105=>(intro w;first | (go_simp;done) | (go_simp;with_reducible rfl))
  refine wpAny_done (by kernel_rfl) ?_ _
  go_wp2_with fail
  refine bodyPost_ret (v:=.bool true) (by simp [results,Tryz.results33,go_sem,Hu1.out,Hu2.out]) rfl ⟨rfl,?_⟩
  exact HB1.out.trans ((HPz.out.1.below HB1.out.size fun k hk=>HFl.out k hk))
 ·go_simp
  refine hK _ _ ?_
  clear hK K
  refine wpAny_take (i:=19) (v:=?v19n106) rfl (by kernel_rfl) (by kernel_rfl) (by kernel_rfl) (fun _ _ _ h=>h) (Or.inl ⟨by rfl,?y19n106⟩) ?z19n106
  case y19n106=>(intro w;first | (go_simp;done) | (go_simp;with_reducible rfl))
  refine wpAny_take (i:=20) (v:=?v20n107) rfl (by kernel_rfl) (by kernel_rfl) (by kernel_rfl) (fun _ _ _ h=>h) (Or.inl ⟨by rfl,?y20n107⟩) ?z20n107
  case y20n107=>(intro w;first | (go_simp;done) | (go_simp;with_reducible rfl))
  refine wpAny_ready (rs:=[14]) (by kernel_rfl) (by simp) ?_
  refine AllReady.cons rfl (fun K hK=>?_) AllReady.nil
  go_simp
  refine (Hwd2.out ⟨w11,Below.refl _ _⟩).mono ?_
  rintro e w12 ⟨rfl,hb12⟩
  have HPz:=Lib.hid (HP11.out.trans (.of_below hb12))
  clear hb12
  go_simp
  refine hK _ _ ?_
  clear hK K
  refine wpAny_take (i:=21) (v:=?v21n108) rfl (by kernel_rfl) (by kernel_rfl) (by kernel_rfl) (fun _ _ _ h=>h) (Or.inl ⟨by rfl,?y21n108⟩) ?z21n108
  case y21n108=>(intro w;first | (go_simp;done) | (go_simp;with_reducible rfl))
  refine wpAny_take (i:=22) (v:=?v22n109) rfl (by kernel_rfl) (by kernel_rfl) (by kernel_rfl) (fun _ _ _ h=>h) (Or.inl ⟨by rfl,?y22n109⟩) ?z22n109
  case y22n109=>(intro w;first | (go_simp;done) | (go_simp;with_reducible rfl))
  refine wpAny_take (i:=23) (v:=?v23n110) rfl (by kernel_rfl) (by kernel_rfl) (by kernel_rfl) (fun _ _ _ h=>h) (Or.inl ⟨by rfl,?y23n110⟩) ?z23n110
  case y23n110=>(intro w;first | (go_simp;done) | (go_simp;with_reducible rfl))
  refine wpAny_done (by kernel_rfl) ?_ _
  go_wp2_with fail
  refine bodyPost_ret (v:=.bool true) (by simp [results,Tryz.results33,go_sem,Hu1.out,Hu2.out]) rfl ⟨rfl,?_⟩
  exact HB1.out.trans ((HPz.out.1.below HB1.out.size fun k hk=>HFl.out k hk))
end
section
open Go.RowKit
def S.endL (p:Int):Nat->Int
 | 0=>38
 | j+1=>4*(p+3*j)+1
def S.listM (m:S.Mach) (p:Int) (N:Int):Nat->S.Mach
 | 0=>m
 | j+1=>(((S.listM m p N j).putV (p+3*j) 67).putV (p+3*j+1) (4*(100+(N-1-j)))).putV (p+3*j+2) (S.endL p j) |>.setV 26 (p+3*j+3)
def S.itemsL (N:Int):Nat->List Int
 | 0=>[]
 | j+1=>4*(100+(N-1-j))::S.itemsL N j
theorem itemsL_len (N:Int):∀ j,(S.itemsL N j).length=j
 | 0=>rfl
 | j+1=>by rw [S.itemsL,List.length_cons,itemsL_len N j]
theorem itemsL_at (N:Int):∀ {j q:Nat},q<j->(S.itemsL N j)[q]?=some (4*(100+(N-j+q)))
 | 0,q,h=>by omega
 | j+1,0,_=>by
  rw [S.itemsL]
  show some _=some _
  congr 3
  omega
 | j+1,q+1,h=>by
  rw [S.itemsL,List.getElem?_cons_succ,itemsL_at N (show q<j by omega)]
  congr 3
  omega
structure S.Lst (gw sw F:List Int) (size:Int) (m:S.Mach) (p N:Int) (j:Nat) (m':S.Mach):Prop where
 wd:S.Wd gw sw F size m'
 len:m'.mem.length=m.mem.length
 hd:∀ i:Nat,i<j->m'.mv (p+3*i)=67/\m'.mv (p+3*i+1)=4*(100+(N-1-i))/\m'.mv (p+3*i+2)=S.endL p i
 out:∀ x,0<=x->¬ (p<=x/\x<p+3*j)->m'.mv x=m.mv x
 rd:∀ r,r≠26->m'.rd r=m.rd r
 r26:j≠0->m'.rd 26=p+3*j
theorem endL_bdG {p:Int}(hp:0<=p):∀ {j:Nat},p+3*j<=300000000->0<=S.endL p j/\S.endL p j<=4294967295
 | 0,_=>by show 0<=(38:Int)/\(38:Int)<=4294967295;decide
 | j+1,h=>by rw [S.endL];omega
theorem lst_of {gw sw F:List Int}{size:Int}(hI:(S.wImg true gw sw F size).Ok){m:S.Mach}(h:S.Wd gw sw F size m){p N:Int}(hp:(S.wImg true gw sw F size).lab S.kEnd<=p) (hN:0<=N/\N<=1000) (hsz:p+3*N<=size) (hsz2:size<=300000000):∀ j:Nat,j<=N->S.Lst gw sw F size m p N j (S.listM m p N j)
 | 0,_=>⟨h,rfl,fun i hi=>by omega,fun x _ _=>rfl,fun _ _=>rfl,fun h=>absurd rfl h⟩
 | j+1,hj=>by
  have ih:=lst_of hI h hp hN hsz hsz2 j (by omega)
  have he:=end_bd hI
  have hp0:0<=p:=by omega
  have nc:∀ x,p<=x->¬ (S.wImg true gw sw F size).code x:=fun x hx hc=>by
   have:=(code_iff hI).1 hc
   omega
  have heb:=endL_bdG hp0 (j:=j) (by omega)
  obtain ⟨mj,hmj⟩:∃ mj,mj=S.listM m p N j:=⟨_,rfl⟩
  have e:S.listM m p N (j+1)=(((mj.putV (p+3*j) 67).putV (p+3*j+1) (4*(100+(N-1-j)))).putV (p+3*j+2) (S.endL p j)).setV 26 (p+3*j+3):=by rw [hmj];rfl
  rw [<- hmj] at ih
  rw [e]
  have w1:=wd_put hI ih.wd (i:=p+3*j) (v:=67) ⟨by omega,by omega⟩ (nc _ (by omega)) (by decide)
  have w2:=wd_put hI w1 (i:=p+3*j+1) (v:=4*(100+(N-1-j))) ⟨by omega,by omega⟩ (nc _ (by omega)) (by omega)
  have w3:=wd_put hI w2 (i:=p+3*j+2) (v:=S.endL p j) ⟨by omega,by omega⟩ (nc _ (by omega)) heb
  have w4:=wd_set hI w3 (i:=26) (v:=p+3*j+3) (by decide) (fun h=>absurd h (by decide)) (by omega)
  have hmv:∀ x,0<=x->((((mj.putV (p+3*j) 67).putV (p+3*j+1) (4*(100+(N-1-j)))).putV (p+3*j+2) (S.endL p j)).setV 26 (p+3*j+3)).mv x=if x=p+3*j+2 then S.endL p j else if x=p+3*j+1 then 4*(100+(N-1-j)) else if x=p+3*j then 67 else mj.mv x:=fun x hx=>by
   have l1:=w1.len
   have l2:=w2.len
   have l0:=ih.wd.len
   rw [setV_mv (by decide) (by decide),putV_mv (by omega) (by omega) hx,putV_mv (by omega) (by omega) hx,putV_mv (by omega) (by omega) hx]
  refine ⟨w4,?_,fun i hi=>?_,fun x hx hout=>?_,fun r hr=>?_,fun _=>?_⟩
  ·have h1:=w4.len
   have h2:=h.len
   omega
  ·by_cases c:i=j
   ·subst c
    refine ⟨?_,?_,?_⟩
    ·rw [hmv _ (by omega),if_neg (by omega),if_neg (by omega),if_pos rfl]
    ·rw [hmv _ (by omega),if_neg (by omega),if_pos rfl]
    ·rw [hmv _ (by omega),if_pos rfl]
   ·obtain ⟨q1,q2,q3⟩:=ih.hd i (by omega)
    refine ⟨?_,?_,?_⟩
    ·rw [hmv _ (by omega),if_neg (by omega),if_neg (by omega),if_neg (by omega)];exact q1
    ·rw [hmv _ (by omega),if_neg (by omega),if_neg (by omega),if_neg (by omega)];exact q2
    ·rw [hmv _ (by omega),if_neg (by omega),if_neg (by omega),if_neg (by omega)];exact q3
  ·rw [hmv x hx,if_neg (by omega),if_neg (by omega),if_neg (by omega)]
   exact ih.out x hx (by omega)
  ·rw [setV_rd w3.ok (by decide) (by decide),if_neg hr,putV_rd,putV_rd,putV_rd]
   exact ih.rd r hr
  ·rw [setV_rd w3.ok (by decide) (by decide),if_pos rfl]
   omega
theorem lst_late {I:S.Img}{mem:Int->Int}{p N e:Int}(hd:∀ x,p<=x->x<p+3*N->S.Dat I x) (hN:0<=N):∀ j:Nat,(j:Int)<=N ->
 (∀ i:Nat,i<j->mem (p+3*i)=67/\mem (p+3*i+1)=4*(100+(N-1-i))/\mem (p+3*i+2)=if i=0 then e else S.endL p i)->j≠0->S.LAtE I mem p (p+3*j) e (S.endL p j) (S.itemsL N j)
 | 0,_,_,h=>absurd rfl h
 | 1,hj,hm,_=>by
  obtain ⟨q1,q2,q3⟩:=hm 0 (by decide)
  rw [if_pos rfl] at q3
  have z1:p+3*((0:Nat):Int)=p:=by simp
  rw [z1] at q1 q2 q3
  show S.LAtE I mem p (p+3*((1:Nat):Int)) e (4*(p+3*((0:Nat):Int))+1) [4*(100+(N-1-((0:Nat):Int)))]
  rw [z1]
  exact ⟨p,rfl,Int.le_refl _,by omega,fun k hk=>hd _ (by omega) (by omega),q1,q2,q3⟩
 | j+2,hj,hm,_=>by
  have ih:=lst_late hd hN (j+1) (by omega) (fun i hi=>hm i (by omega)) (by omega)
  obtain ⟨q1,q2,q3⟩:=hm (j+1) (by omega)
  rw [if_neg (by omega)] at q3
  show S.LAtE I mem p (p+3*((j+2:Nat):Int)) e (4*(p+3*((j+1:Nat):Int))+1) (4*(100+(N-1-((j+1:Nat):Int)))::S.itemsL N (j+1))
  refine ⟨p+3*((j+1:Nat):Int),rfl,by omega,by omega,fun k hk=>hd _ (by omega) (by omega),q1,q2,?_⟩
  rw [q3]
  exact late_mono (Int.le_refl _) (by omega) (fun _ _ _=>rfl) ih
def S.ListAt (m:S.Mach):Int->List Int->Prop
 | v,[]=>v=38
 | v,x::r=>v%4=1/\0<=v/\v<4294967296/\m.memV (v/4)=67/\m.memV (v/4+1)=x/\S.ListAt m (m.memV (v/4+2)) r
end
section
open Go.RowKit
theorem k_Head (t l:Int) (w:World) (ht:0<=t/\t<=7) (hl:0<=l/\l<=1000000):Calls Tryz.prog 69 #[.int .i64 t,.int .i64 l] w fun e w'=>e=.returned (.int .u32 (32*l+4*t+3))/\w=w':=by
 have q1:IntKind.i64.wrap (32*l)=32*l:=IntWalk.i64_in _ ⟨by omega,by omega⟩
 have q2:IntKind.i64.wrap (4*t)=4*t:=IntWalk.i64_in _ ⟨by omega,by omega⟩
 have q3:IntKind.i64.wrap (32*l+4*t)=32*l+4*t:=IntWalk.i64_in _ ⟨by omega,by omega⟩
 have q4:IntKind.i64.wrap (32*l+4*t+3)=32*l+4*t+3:=IntWalk.i64_in _ ⟨by omega,by omega⟩
 have q5:(32*l+4*t+3)%4294967296=32*l+4*t+3:=by omega
 go_enter Tryz.func69,Tryz.ntmps69
 go_wp2_with fail
 go_ret
 exact ⟨rfl,rfl⟩
theorem k_Pointer (t:Int) (w:World) (ht:0<=t/\t<=335544320):Calls Tryz.prog 70 #[.int .i64 t] w fun e w'=>e=.returned (.int .u32 (4*t+1))/\w=w':=by
 have q2:IntKind.i64.wrap (4*t)=4*t:=IntWalk.i64_in _ ⟨by omega,by omega⟩
 have q4:IntKind.i64.wrap (4*t+1)=4*t+1:=IntWalk.i64_in _ ⟨by omega,by omega⟩
 have q5:(4*t+1)%4294967296=4*t+1:=by omega
 go_enter Tryz.func70,Tryz.ntmps70
 go_wp2_with fail
 go_ret
 exact ⟨rfl,rfl⟩
theorem k_Rest (n k:Int) (w:World) (hn:0<=n/\n<=1000000) (hk:0<=k/\k<=1000000):Calls Tryz.prog 39 #[.int .i64 n,.int .i64 k] w fun e w'=>e=.returned (.int .i64 (3*(n-min k 6)))/\w=w':=by
 by_cases c:k>6
 ·have d:decide (k>6)=true:=by simp [c]
  have hm:min k 6=6:=by omega
  rw [hm]
  have q1:IntKind.i64.wrap (n-6)=n-6:=IntWalk.i64_in _ ⟨by omega,by omega⟩
  have q2:IntKind.i64.wrap (3*(n-6))=3*(n-6):=IntWalk.i64_in _ ⟨by omega,by omega⟩
  clear c hm
  go_enter Tryz.func39,Tryz.ntmps39
  go_wp2_with fail
  go_ret
  exact ⟨rfl,rfl⟩
 ·have d:decide (k>6)=false:=by simp;omega
  have hm:min k 6=k:=by omega
  rw [hm]
  have q1:IntKind.i64.wrap (n-k)=n-k:=IntWalk.i64_in _ ⟨by omega,by omega⟩
  have q2:IntKind.i64.wrap (3*(n-k))=3*(n-k):=IntWalk.i64_in _ ⟨by omega,by omega⟩
  clear c hm
  go_enter Tryz.func39,Tryz.ntmps39
  go_wp2_with fail
  go_ret
  exact ⟨rfl,rfl⟩
theorem endL_bd {p:Int}(hp:0<=p):∀ {j:Nat},p+3*j<=300000000->0<=S.endL p j/\S.endL p j<=4294967295
 | 0,_=>by show 0<=(38:Int)/\(38:Int)<=4294967295;decide
 | j+1,h=>by rw [S.endL];omega
section
variable {w w':World}{F:Nat->Prop}{lo b p_:Nat}{H half:Int}{P:List (ByteArray×Int)}{m:S.Mach}
set_option maxHeartbeats 4000000 in
theorem k_list (gv:Value) (av:Value) (N:Int) (hK:KAt w lo b p_ F H half P m){p:Int}(hp:m.rd 26=p) (hp0:0<=p) (hN:-1000<=N/\N<=1000) (hpt:p+3*N<=200000000) :
 Calls Tryz.prog 37 #[.pointer (some ⟨b,0,none⟩),gv,av,.int .i64 N] w fun e w'=>e=.returned (.int .u32 (S.endL p N.toNat))/\KAt w' lo b p_ F H half P (S.listM m p N N.toNat)/\Only F w w':=by
 have HK:=Lib.hid hK
 have Hp:=Lib.hid hp
 obtain ⟨T,hT⟩:∃ T,T=N.toNat:=⟨_,rfl⟩
 have hTN:(0<=N/\(T:Int)=N)\/(N<0/\T=0):=by omega
 have hT1:T<=1000:=by omega
 have hptT:p+3*T<=300000000\/T=0:=by omega
 rw [<- hT]
 have HT:=Lib.hid hT
 clear hK hp hT
 have q0:IntKind.i64.wrap (N-1)=N-1:=IntWalk.i64_in _ ⟨by omega,by omega⟩
 go_enter Tryz.func37,Tryz.ntmps37
 go_wp2_with fail
 clear q0
 go_loopw [9,10] (fun v9 v10 wl=>∃ j:Nat,j<=T/\v10=.int .i64 (N-1-j)/\v9=.int .u32 (S.endL p j)/\Hid (KAt wl lo b p_ F H half P (S.listM m p N j))/\Hid (Only F w wl)/\Hid ((S.listM m p N j).rd 26=p+3*j)) (fun _ v10 _=>(intOf v10+1).toNat)
 case atStart=>exact ⟨0,by omega,by simp,rfl,HK,Lib.hid (Only.refl _ _),Lib.hid (by rw [S.listM,Hp.out];simp)⟩
 case round =>
  obtain ⟨j,hj,rfl,rfl,HKj,HOj,Hrj⟩:=hrel
  obtain ⟨_,_,_,_,_,_,e0,e1,e2,e3,e4⟩:=HKj.out.cells
  have hbl:=HKj.out.blt
  by_cases hlt:j<T
  ·have d1:decide (N-1-(j:Int)>=0)=true:=by simp;omega
   obtain ⟨at_,hat⟩:∃ at_,at_=p+3*(j:Int):=⟨_,rfl⟩
   obtain ⟨i,hi⟩:∃ i,i=N-1-(j:Int):=⟨_,rfl⟩
   have Hat:=Lib.hid hat
   have Hi:=Lib.hid hi
   have hab:0<=at_/\at_<=300000000:=by omega
   have hib:0<=i/\i<=1000:=by omega
   have heb:=endL_bd hp0 (j:=j) (by omega)
   obtain ⟨en,hen⟩:∃ en,en=S.endL p j:=⟨_,rfl⟩
   have Hen:=Lib.hid hen
   obtain ⟨mj,hmj⟩:∃ mj,mj=S.listM m p N j:=⟨_,rfl⟩
   have Hmj:=Lib.hid hmj
   rw [<- hi] at d1 ⊢
   rw [<- hen] at heb ⊢
   rw [<- hmj] at HKj Hrj
   rw [<- hat] at Hrj
   have hreg:=k_Reg 26 HKj.out
   rw [rd_reg (by decide) (by decide),Hrj.out] at hreg
   have Hreg:=Lib.hid hreg
   have c1:at_%18446744073709551616=at_:=by omega
   have c2:IntKind.i64.wrap (at_+1)=at_+1:=IntWalk.i64_in _ ⟨by omega,by omega⟩
   have c3:IntKind.i64.wrap (at_+2)=at_+2:=IntWalk.i64_in _ ⟨by omega,by omega⟩
   have c4:IntKind.u32.wrap (at_+3)=at_+3:=IntWalk.u32_in _ ⟨by omega,by omega⟩
   have c5:IntKind.i64.wrap (100+i)=100+i:=IntWalk.i64_in _ ⟨by omega,by omega⟩
   have c6:IntKind.i64.wrap (4*(100+i))=4*(100+i):=IntWalk.i64_in _ ⟨by omega,by omega⟩
   have c7:(4*(100+i))%4294967296=4*(100+i):=by omega
   have c8:IntKind.i64.wrap (i-1)=i-1:=IntWalk.i64_in _ ⟨by omega,by omega⟩
   clear hreg hat hi hen hmj
   go_wp2_with fail
   refine Hreg.out.mono ?_
   rintro e _ ⟨rfl,rfl⟩
   go_upto_region 6 with fail
   have Hhd:=Lib.hid (show ∀ y:Ext wr,Calls Tryz.prog 69 #[.int .i64 0,.int .i64 2] y.val fun e w'=>e=.returned (.int .u32 67)/\y.val=w' from fun y=>k_Head 0 2 y.val (by decide) (by decide))
   refine wp_region_ext_tail 7 (by kernel_rfl) (by kernel_rfl) ?_
   have hE:=ext_cells wr
   simp only [List.take_succ_cons,List.take_zero,List.drop_succ_cons,List.drop_zero]
   repeat (first | go_big_quiet_step ((go_at_call 69;exact ext_of_same (Hhd.out _))))
   refine wpQuiet_nil ?_
   rintro w2 ⟨⟨_,hb2⟩,rfl⟩
   have HK2:=Lib.hid (HKj.out.below hb2)
   have HO2:=Lib.hid (HOj.out.trans (Only.of_below (F:=F) hb2) fun _ _ q=>q)
   clear hE hb2 HKj HOj e0 e1 e2 e3 e4 hbl Hhd Hreg
   go_wp2_with fail
   refine (k_PutR at_ 67 HK2.out (by decide)).mono ?_
   rintro e w3 ⟨rv,rfl,hk3,ho3⟩
   have HK3:=Lib.hid hk3
   have HO3:=Lib.hid (HO2.out.trans ho3 fun _ _ q=>q)
   clear hk3 ho3 HK2 HO2
   obtain ⟨_,_,_,_,_,_,e0,e1,e2,e3,e4⟩:=HK3.out.cells
   have hbl:=HK3.out.blt
   go_wp2_with fail
   refine (k_PutR (at_+1) (4*(100+i)) HK3.out (by omega)).mono ?_
   rintro e w4 ⟨rv,rfl,hk4,ho4⟩
   have HK4:=Lib.hid hk4
   have HO4:=Lib.hid (HO3.out.trans ho4 fun _ _ q=>q)
   clear hk4 ho4 HK3 HO3 e0 e1 e2 e3 e4 hbl
   obtain ⟨_,_,_,_,_,_,e0,e1,e2,e3,e4⟩:=HK4.out.cells
   have hbl:=HK4.out.blt
   go_wp2_with fail
   refine (k_PutR (at_+2) en HK4.out heb).mono ?_
   rintro e w5 ⟨rv,rfl,hk5,ho5⟩
   have HK5:=Lib.hid hk5
   have HO5:=Lib.hid (HO4.out.trans ho5 fun _ _ q=>q)
   clear hk5 ho5 HK4 HO4 e0 e1 e2 e3 e4 hbl
   obtain ⟨_,_,_,_,_,_,e0,e1,e2,e3,e4⟩:=HK5.out.cells
   have hbl:=HK5.out.blt
   go_wp2_with fail
   refine (k_SetR 26 (at_+3) HK5.out (by omega)).mono ?_
   rintro e w6 ⟨rv,rfl,hk6,ho6⟩
   have HR6:=Lib.hid (setV_rd HK5.out.ok (i:=26) (v:=at_+3) (j:=26) (by decide) (by decide))
   have HK6:=Lib.hid hk6
   have HO6:=Lib.hid (HO5.out.trans ho6 fun _ _ q=>q)
   clear hk6 ho6 HK5 HO5 e0 e1 e2 e3 e4 hbl
   go_wp2_with fail
   refine (k_Pointer at_ w6 (by omega)).mono ?_
   rintro e _ ⟨rfl,rfl⟩
   go_wp2_with fail
   have hm1:S.listM m p N (j+1)=(((mj.putV at_ 67).putV (at_+1) (4*(100+i))).putV (at_+2) en).setV 26 (at_+3):=by
    rw [S.listM,<- Hmj.out,<- Hat.out,<- Hi.out,<- Hen.out]
   go_roundw
   case rel=>exact ⟨j+1,by omega,by rw [Hi.out];congr 1;omega,by rw [S.endL,Hat.out],Lib.hid (by rw [hm1];exact HK6.out),HO6,Lib.hid (by rw [hm1,HR6.out,if_pos trivial,Hat.out];omega)⟩
   case measure=>simp [intOf];omega
  ·have hje:j=T:=by omega
   subst hje
   have d1:decide (N-1-(j:Int)>=0)=false:=by simp;omega
   go_wp2_with fail
   go_ret
   exact ⟨rfl,HKj.out,HOj.out⟩
set_option maxHeartbeats 4000000 in
theorem k_items (v:Int) (L:List Int) (hK:KAt w lo b p_ F H half P m) (hL:S.ListAt m v L) (hl:L.length<200) :
 Calls Tryz.prog 38 #[.pointer (some ⟨b,0,none⟩),.int .u32 v] w fun e w'=>∃ A c,e=.returned (.tuple #[.slice A L.length c,.bool true])/\w'.ownsRow w.heap.size 30 1 (.slice A L.length c) L.length (L.map (Value.int .u32))/\Below w.heap.size w w':=by
 have HK:=Lib.hid hK
 have HL:=Lib.hid hL
 obtain ⟨T,hT⟩:∃ T,T=L.length:=⟨_,rfl⟩
 rw [<- hT] at hl ⊢
 have HT:=Lib.hid hT
 clear hK hL hT
 go_enter Tryz.func38,Tryz.ntmps38
 go_wp2_with fail
 go_loopw [1,6] (fun v1 v6 wl=>∃ k:Nat,k<=T/\(∃ x,v1=.int .u32 x/\Hid (S.ListAt m x (L.drop k)))/\(∃ A c,v6=.slice A k c/\Hid (wl.ownsRow w.heap.size 30 1 (.slice A k c) k ((L.take k).map (Value.int .u32))))/\Hid (Below w.heap.size w wl)) (fun _ v6 _=>T-lenV v6)
 case atStart=>exact ⟨0,by omega,⟨v,rfl,HL⟩,⟨none,0,rfl,Lib.hid (World.ownsRow_nil _ _ _ _)⟩,Lib.hid (Below.refl _ _)⟩
 case round =>
  obtain ⟨k,hk,⟨x,rfl,Hx⟩,⟨A,c,rfl,HO⟩,HB⟩:=hrel
  have hz:=HB.out.size
  have HKr:=Lib.hid (HK.out.below HB.out)
  by_cases hlt:k<T
  ·have hkl:k<L.length:=by rw [<- HT.out];exact hlt
   have hd:L.drop k=L[k]::L.drop (k+1):=List.drop_eq_getElem_cons hkl
   have hx:=Hx.out
   rw [hd] at hx
   obtain ⟨x1,x2,x3,x4,x5,x6⟩:=hx
   have Htk:=Lib.hid (show L.take (k+1)=L.take k++[L[k]] from by rw [List.take_add_one,List.getElem?_eq_getElem hkl];rfl)
   obtain ⟨y,hy⟩:∃ y,y=L[k]:=⟨_,rfl⟩
   rw [<- hy] at x5 Htk
   have d1:(x%4==1)=true:=by simp [x1]
   have d2:decide ((k:Int)<200)=true:=by simp;omega
   obtain ⟨q,hq⟩:∃ q,q=x/4:=⟨_,rfl⟩
   have hqb:0<=q/\q<=1073741823:=by omega
   rw [<- hq] at x4 x5 x6
   have Hq:=Lib.hid hq
   have hwd:=k_WordB q HKr.out
   rw [x4] at hwd
   have Hwd:=Lib.hid hwd
   have X5:=Lib.hid x5
   have X6:=Lib.hid x6
   clear hwd x4 x5 x6 hd hy x1
   have c0:x/4=q:=hq.symm
   have c1:q%18446744073709551616=q:=by omega
   have c2:IntKind.i64.wrap (q+1)=q+1:=IntWalk.i64_in _ ⟨by omega,by omega⟩
   have c3:IntKind.i64.wrap (q+2)=q+2:=IntWalk.i64_in _ ⟨by omega,by omega⟩
   clear hq
   go_wp2_with fail
   refine Hwd.out.mono ?_
   rintro e w2 ⟨rfl,hb2⟩
   have HB2:=Lib.hid (HB.out.trans (hb2.mono hz))
   have HO2:=Lib.hid (ownsRow_below HO.out hb2)
   have HK2:=Lib.hid (HKr.out.below hb2)
   clear hb2 HB HO HKr Hwd
   have hwd:=k_WordB (q+1) HK2.out
   rw [X5.out] at hwd
   have Hwd:=Lib.hid hwd
   clear hwd
   go_wp2_with fail
   refine Hwd.out.mono ?_
   rintro e w3 ⟨rfl,hb3⟩
   have HB3:=Lib.hid (HB2.out.trans (hb3.mono HB2.out.size))
   have HO3:=Lib.hid (ownsRow_below HO2.out hb3)
   have HK3:=Lib.hid (HK2.out.below hb3)
   have hz3:=HB3.out.size
   clear hb3 HB2 HO2 HK2 Hwd
   go_upto_region 4 with (at_builtin;refine wpList_push rfl (.tmp 23) (.tmp 30) _ rfl w.heap.size 30 u32_infoA Tryz.underlying50 rfl (by decide) #[.int .u32 y] _ k _ rfl HO3.out rfl rfl rfl (by simp [Value.oneCell']) (by simp only [maxLen];omega) (by omega) hz3 ?_;intro v' w7 ho7 hg7 hb7 _;obtain ⟨A8,c8,rfl⟩:=ownsRow_form ho7)
   have HB7:=Lib.hid (HB3.out.trans hb7)
   have HO7:Hid (w7.ownsRow w.heap.size 30 1 (.slice A8 (k+1) c8) (k+1) ((L.take (k+1)).map (Value.int .u32))):=Lib.hid (by
    rw [Htk.out,List.map_append]
    exact ho7)
   have HK7:=Lib.hid (HK.out.below HB7.out)
   clear ho7 hg7 hb7 HO3 HB3 HK3
   have hwd:=k_WordB (q+2) HK7.out
   have Hwd:=Lib.hid hwd
   obtain ⟨x2',hx2⟩:∃ x2',x2'=m.memV (q+2):=⟨_,rfl⟩
   rw [<- hx2] at X6 Hwd
   clear hwd hx2
   go_wp2_with fail
   refine Hwd.out.mono ?_
   rintro e w8 ⟨rfl,hb8⟩
   have HB8:=Lib.hid (HB7.out.trans (hb8.mono HB7.out.size))
   have HO8:=Lib.hid (ownsRow_below HO7.out hb8)
   clear hb8 HB7 HO7 HK7 Hwd
   go_wp2_with fail
   go_roundw
   case rel=>exact ⟨k+1,by omega,⟨x2',rfl,X6⟩,⟨A8,c8,rfl,HO8⟩,HB8⟩
   case measure=>simp [lenV];omega
  ·have hke:k=T:=by omega
   subst hke
   have hx:=Hx.out
   rw [HT.out,List.drop_length] at hx
   have hx38:x=38:=hx
   clear hx
   subst hx38
   go_wp2_with fail
   refine bodyPost_ret (v:=.tuple #[.slice A k c,.bool true]) (by simp [results,Tryz.results38,go_sem]) rfl ⟨A,c,rfl,?_,HB.out⟩
   have h:=HO.out
   have e:L.take k=L:=by rw [HT.out,List.take_length]
   rw [e] at h
   exact h
end
end
section
open Go.RowKit
theorem listAt_of {I:S.Img}{C:S.Mach}{st':S.Vw}(hs:S.Sees I C st'){lo hi:Int}:∀ {L:List Int}{v:Int},0<=lo->hi<=300000000->S.LAtE I st'.mem lo hi 38 v L->S.ListAt C v L
 | [],v,_,_,h=>h
 | x::r,v,h0,h1,⟨a,e1,e2,e3,e4,e5,e6,e7⟩=>by
  have hl:=hs.len
  have g:∀ j:Nat,j<3->C.memV (a+j)=st'.mem (a+j):=fun j hj=>by
   have hd:=e4 j hj
   rw [mv_mem hd.1 (by have:=hd.2.1;omega)]
   exact hs.mem _ hd.1 hd.2.1 hd.2.2.1
  have g0:=g 0 (by decide)
  have g1:=g 1 (by decide)
  have g2:=g 2 (by decide)
  have q:v/4=a:=by omega
  refine ⟨by omega,by omega,by omega,?_,?_,?_⟩
  ·rw [q];simpa using g0.trans (by simpa using e5)
  ·rw [q];simpa using g1.trans (by simpa using e6)
  ·rw [q]
   have:C.memV (a+2)=st'.mem (a+2):=by simpa using g2
   rw [this]
   exact listAt_of hs h0 h1 e7
end
section
open Go.RowKit
theorem reach_ex {g:S.Gr}{a:Int}(hg:g.Ok a) (roots:List Int):∃ n l,S.Reached g roots n l:=by
 have nlt:∀ {w:Int} {i:Nat},g.node w=some i->i<g.ns.length:=fun h=>(gr_node_some hg h).1
 have key:∀ (k:Nat) (L:List Nat),L.Nodup->(∀ i∈L,i<g.ns.length)->(∀ (j n:Nat),L[j]?=some n->(∃ r∈roots,g.node r=some n)\/∃ j' n',j'<j/\L[j']?=some n'/\∃ x∈(g.nd n').ws,g.node (g.word x)=some n)->401-L.length<=k->∃ n l,S.Reached g roots n l:=by
  intro k
  induction k with
  | zero =>
   intro L h1 h2 _ h4
   have:=nodup_400 hg h1 h2
   omega
  | succ k ih =>
   intro L h1 h2 h3 h4
   have hle:=nodup_400 hg h1 h2
   have more:∀ i:Nat,i ∉ L->i<g.ns.length->((∃ r∈roots,g.node r=some i)\/∃ j' n',j'<L.length/\L[j']?=some n'/\∃ x∈(g.nd n').ws,g.node (g.word x)=some i)->∃ n l,S.Reached g roots n l:=fun i hi hil hw=>by
    refine ih (L++[i]) ?_ ?_ ?_ ?_
    ·rw [List.nodup_append]
     refine ⟨h1,by simp,fun x hx y hy e=>?_⟩
     rw [List.mem_singleton] at hy
     subst hy
     exact hi (e ▸ hx)
    ·intro y hy
     rcases List.mem_append.1 hy with q | q
     ·exact h2 y q
     ·rw [List.mem_singleton] at q
      subst q
      exact hil
    ·intro j n hj
     by_cases c:j<L.length
     ·rw [List.getElem?_append_left c] at hj
      rcases h3 j n hj with q | ⟨j',n',q1,q2,q3⟩
      ·exact .inl q
      ·exact .inr ⟨j',n',q1,by rw [List.getElem?_append_left (by omega)];exact q2,q3⟩
     ·have hj2:j=L.length:=by
       have:=(List.getElem?_eq_some_iff.1 hj).1
       rw [List.length_append] at this
       simp at this
       omega
      subst hj2
      rw [List.getElem?_append_right (Nat.le_refl _)] at hj
      simp at hj
      subst hj
      rcases hw with q | ⟨j',n',q1,q2,q3⟩
      ·exact .inl q
      ·exact .inr ⟨j',n',q1,by rw [List.getElem?_append_left q1];exact q2,q3⟩
    ·rw [List.length_append]
     simp
     omega
   by_cases c1:∃ r∈roots,∃ i,g.node r=some i/\i ∉ L
   ·obtain ⟨r,hr,i,hi,hn⟩:=c1
    exact more i hn (nlt hi) (.inl ⟨r,hr,hi⟩)
   ·by_cases c2:∃ n'∈L,∃ x∈(g.nd n').ws,∃ i,g.node (g.word x)=some i/\i ∉ L
    ·obtain ⟨n',hn',x,hx,i,hi,hn⟩:=c2
     obtain ⟨j',hj',e⟩:=List.getElem_of_mem hn'
     exact more i hn (nlt hi) (.inr ⟨j',n',hj',by rw [List.getElem?_eq_getElem hj',e],x,hx,hi⟩)
    ·refine ⟨g.total L,L,h1,h2,fun r hr i hi=>?_,fun i hi x hx j hj=>?_,h3,rfl⟩
     ·exact Classical.byContradiction fun q=>c1 ⟨r,hr,i,hi,q⟩
     ·exact Classical.byContradiction fun q=>c2 ⟨i,hi,x,hx,j,hj,q⟩
 exact key 401 [] List.nodup_nil (fun i hi=>(List.not_mem_nil hi).elim) (fun j n hj=>by simp at hj) (by simp)
end
section
open Go.RowKit
def S.lnd (N:Int) (j:Nat):S.GN:=⟨0,[(4*(100+(N-1-j)),0),(38,j)]⟩
def S.lgr (p N:Int) (n:Nat):S.Gr:=⟨(List.range n).map (S.lnd N),(List.range n).map fun j:Nat=>p+3*(j:Int)⟩
theorem sizes3:∀ l:List S.GN,(∀ x∈l,x.size=3)->S.sizes l=3*l.length
 | [],_=>rfl
 | x::r,h=>by
  rw [S.sizes,sizes3 r (fun y hy=>h y (List.mem_cons_of_mem _ hy)),h x List.mem_cons_self,List.length_cons]
  omega
section
variable {p N:Int}{n:Nat}
theorem lgr_len:(S.lgr p N n).ns.length=n:=by show ((List.range n).map _).length=n;rw [List.length_map,List.length_range]
theorem lgr_3:∀ x∈(S.lgr p N n).ns,x.size=3:=fun x hx=>by
 obtain ⟨j,_,rfl⟩:=List.mem_map.1 (show x∈(List.range n).map _ from hx)
 rfl
theorem lgr_sizes:S.sizes (S.lgr p N n).ns=3*n:=by rw [sizes3 _ lgr_3,lgr_len]
theorem lgr_ok (hn:n<=30) (hp:0<=p/\p<=335544320) (hN:(n:Int)<=N/\N<=1000):(S.lgr p N n).Ok p:=by
 refine ⟨?_,by rw [lgr_len];exact hn,fun x hx=>?_,fun x hx=>?_,hp.1,hp.2⟩
 ·refine List.ext_getElem? fun i=>?_
  by_cases c:i<n
  ·rw [addrsFrom_at (by rw [lgr_len];exact c),sizes3 _ (fun x hx=>lgr_3 x (List.mem_of_mem_take hx)),List.length_take,lgr_len]
   show ((List.range n).map fun j:Nat=>p+3*(j:Int))[i]?=_
   rw [List.getElem?_map,List.getElem?_range c]
   show some (p+3*(i:Int))=_
   congr 2
   omega
  ·rw [List.getElem?_eq_none (by show ((List.range n).map _).length<=i;rw [List.length_map,List.length_range];omega),List.getElem?_eq_none (by rw [addrsFrom_len,lgr_len];omega)]
 ·obtain ⟨j,_,rfl⟩:=List.mem_map.1 (show x∈(List.range n).map _ from hx)
  show 2<=12
  decide
 ·obtain ⟨j,hj,rfl⟩:=List.mem_map.1 (show x∈(List.range n).map _ from hx)
  have:=List.mem_range.1 hj
  refine ⟨by show (0:Int)<=0;decide,fun y hy=>?_⟩
  have hy':y∈[((4*(100+(N-1-j)):Int),(0:Int)),(38,(j:Int))]:=hy
  simp only [List.mem_cons,List.not_mem_nil,or_false] at hy'
  rcases hy' with rfl | rfl
  ·exact ⟨by show 0<=4*(100+(N-1-(j:Int)));omega,by show 4*(100+(N-1-(j:Int)))<_;omega,Int.le_refl _⟩
  ·exact ⟨by show (0:Int)<=38;decide,by show (38:Int)<_;decide,by show (0:Int)<=(j:Int);omega⟩
theorem lgr_nd {j:Nat}(hj:j<n):(S.lgr p N n).nd j=S.lnd N j/\(S.lgr p N n).adr j=p+3*(j:Int):=by
 constructor
 ·show ((List.range n).map (S.lnd N)).getD j ⟨0,[]⟩=_
  rw [List.getD_eq_getElem?_getD,List.getElem?_map,List.getElem?_range hj]
  rfl
 ·show ((List.range n).map fun j:Nat=>p+3*(j:Int)).getD j 0=_
  rw [List.getD_eq_getElem?_getD,List.getElem?_map,List.getElem?_range hj]
  rfl
theorem lgr_word0 (hj:True) (x:Int) (hx:x%4=0\/x=38):(S.lgr p N n).word (x,0)=x:=by
 unfold S.Gr.word
 rw [if_neg (fun h=>absurd h.1 (by show ¬ (0:Int)<0;decide))]
 unfold S.plain
 rw [if_neg (by show ¬ (x%4=1\/x%4=3);omega)]
theorem lgr_word1 {j:Nat}(hj:j<n):(S.lgr p N n).word (38,((j+1:Nat):Int))=4*(p+3*(j:Int))+1:=by
 have hne:(S.lgr p N n).ns≠[]:=fun e=>by
  have:=lgr_len (p:=p) (N:=N) (n:=n)
  rw [e] at this
  simp at this
  omega
 unfold S.Gr.word
 rw [if_pos ⟨by show (0:Int)<((j+1:Nat):Int);omega,hne⟩,lgr_len]
 have e:((((j+1:Nat):Int)-1)%(n:Int)).toNat=j:=by
  rw [show (((j+1:Nat):Int)-1)=(j:Int) from by omega,Int.emod_eq_of_lt (by omega) (by omega)]
  rfl
 show 4*(S.lgr p N n).at_.getD ((((j+1:Nat):Int)-1)%(n:Int)).toNat 0+1=_
 rw [e]
 have:=(lgr_nd (p:=p) (N:=N) hj).2
 unfold S.Gr.adr at this
 rw [this]
theorem lgr_word (hN:n<=1000000){j:Nat}(hj:j<n):(S.lgr p N n).word (38,(j:Int))=S.endL p j:=by
 cases j with
 | zero=>exact lgr_word0 trivial 38 (.inr rfl)
 | succ j=>rw [lgr_word1 (show j<n by omega)];rfl
end
theorem shape_lo {g:S.Gr}{was now:List Int}{mem:Int->Int}{fr fr' r26:Int}{il:List Nat}{nu:Nat->Int}(h:S.Shape g was now mem fr r26 il nu) (hf:fr'<=fr):S.Shape g was now mem fr' r26 il nu :=
 ⟨h.nd,h.rng,h.len,h.good,fun n hn=>⟨Int.le_trans hf (h.at_ n hn).1,(h.at_ n hn).2⟩,h.words,h.dis⟩
theorem endL_pos' (p:Int):∀ {j:Nat},1<=j->S.endL p j=4*(p+3*((j:Int)-1))+1
 | 0,h=>by omega
 | j+1,_=>by rw [S.endL];omega
theorem keeps_lat {I:S.Img}{p:Int}{n:Nat}(hg:(S.lgr p n n).Ok p) (hn:1<=n) (hn2:n<=30){v:Int}{mem:Int->Int}{fr half r26 r27:Int}{il:List Nat}{nu:Nat->Int}(hK:S.Keeps (S.lgr p n n) [S.endL p n] [v] mem fr half r26 r27 il nu) (hd:∀ a,fr<=a->a<r26->S.Dat I a):S.LAt I mem fr r26 v (S.itemsL n n):=by
 have nodeP:∀ j:Nat,j<n->(S.lgr p n n).node (4*(p+3*(j:Int))+1)=some j:=fun j hj=>by
  have:=gr_node hg (i:=j) (by rw [lgr_len];exact hj)
  rw [(lgr_nd hj).2] at this
  exact this
 have key:∀ j:Nat,j<n->j∈il->S.LAt I mem fr r26 (4*nu j+1) (S.itemsL n (j+1)):=by
  intro j
  induction j with
  | zero =>
   intro hj hm
   obtain ⟨a1,a2,a3⟩:=hK.sh.at_ 0 hm
   have hs:((S.lgr p n n).nd 0).size=3:=by rw [(lgr_nd hj).1];rfl
   rw [hs] at a2
   have w0:=hK.sh.words 0 hm 0 (4*(100+((n:Int)-1-(0:Nat))),0) (by rw [(lgr_nd hj).1];rfl)
   have w1:=hK.sh.words 0 hm 1 (38,((0:Nat):Int)) (by rw [(lgr_nd hj).1];rfl)
   rw [lgr_word0 trivial _ (.inl (by omega))] at w0
   rw [lgr_word (by omega) hj] at w1
   have e0:=w0.1 (by unfold S.Gr.node;rw [if_neg (by omega)])
   have e1:=w1.1 (by unfold S.Gr.node;rw [if_neg (by show ¬ (38:Int)%4=1;decide)])
   refine ⟨nu 0,rfl,a1,a2,fun q hq=>hd _ (by omega) (by omega),by rw [a3,(lgr_nd hj).1];rfl,?_,?_⟩
   ·rw [show nu 0+1=nu 0+1+((0:Nat):Int) from by simp]
    exact e0.symm
   ·show mem (nu 0+2)=38
    rw [show nu 0+2=nu 0+1+((1:Nat):Int) from by omega]
    exact e1.symm
  | succ j ih =>
   intro hj hm
   obtain ⟨a1,a2,a3⟩:=hK.sh.at_ (j+1) hm
   have hs:((S.lgr p n n).nd (j+1)).size=3:=by rw [(lgr_nd hj).1];rfl
   rw [hs] at a2
   have w0:=hK.sh.words (j+1) hm 0 (4*(100+((n:Int)-1-(j+1:Nat))),0) (by rw [(lgr_nd hj).1];rfl)
   have w1:=hK.sh.words (j+1) hm 1 (38,((j+1:Nat):Int)) (by rw [(lgr_nd hj).1];rfl)
   rw [lgr_word0 trivial _ (.inl (by omega))] at w0
   rw [lgr_word1 (show j<n by omega)] at w1
   have e0:=w0.1 (by unfold S.Gr.node;rw [if_neg (by omega)])
   obtain ⟨m1,e1⟩:=w1.2 j (nodeP j (by omega))
   refine ⟨nu (j+1),rfl,a1,a2,fun q hq=>hd _ (by omega) (by omega),by rw [a3,(lgr_nd hj).1];rfl,?_,?_⟩
   ·rw [show nu (j+1)+1=nu (j+1)+1+((0:Nat):Int) from by simp]
    exact e0.symm
   ·rw [show nu (j+1)+2=nu (j+1)+1+((1:Nat):Int) from by omega,e1]
    exact ih (by omega) m1
 have hv:=hK.sh.good 0 (S.endL p n) v rfl rfl
 rw [endL_pos' p hn] at hv
 obtain ⟨m0,e0⟩:=hv.2 (n-1) (by
  have:=nodeP (n-1) (by omega)
  rw [show ((n-1:Nat):Int)=(n:Int)-1 from by omega] at this
  exact this)
 rw [e0]
 have:=key (n-1) (by omega) m0
 rw [show n-1+1=n from by omega] at this
 exact this
end
section
open Go.RowKit
theorem reach_le {g:S.Gr}{a:Int}(hg:g.Ok a){roots:List Int}{n:Int}{l:List Nat}(h:S.Reached g roots n l):n<=S.sizes g.ns:=by
 rw [h.sum,<- total_range hg]
 exact total_le hg h.nd h.rng fun i hi=>List.mem_range.2 (h.rng i hi)
section
variable {x:S.Stt}(hx:x.Ok){F:List Int}{H heap half:Int}(hI:∀ b,(S.wImg b (S.zeros x.ng) (S.zeros x.ns) F (H+heap)).Ok) (hH:H=(S.wImg true (S.zeros x.ng) (S.zeros x.ns) F (H+heap)).lab S.kEnd) (hhf:half=heap/2) (hh0:0<=heap)
 {m0:S.Mach} (hw:S.Wd (S.zeros x.ng) (S.zeros x.ns) F (H+heap) m0) (h2:m0.mv 2=H) (h3:m0.mv 3=H+half) (h4:m0.mv 4=half) (hfit:S.sizes (S.laidNs x.nodes)<=half) {g:S.Gr} (hgE:g=S.laidG x.nodes H)
include hx hI hH hhf hh0 hw h2 h3 h4 hfit hgE
end
end
end Go.Proofs.YtlldagdhlfpihaaGreatDoor
