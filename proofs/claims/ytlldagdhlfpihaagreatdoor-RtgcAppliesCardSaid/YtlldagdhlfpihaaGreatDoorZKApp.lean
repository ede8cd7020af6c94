/- Parts. -/
import Derived.Test.YtlldagdhlfpihaaGreatDoorZKApC
set_option linter.unusedVariables false
set_option linter.unusedSimpArgs false
set_option linter.unusedSectionVars false
namespace Go.Proofs.YtlldagdhlfpihaaGreatDoor
set_option maxRecDepth 100000
open Go.RowKit
theorem names_app:S.kRt 102∈S.wTells:=w_has (by kernel_rfl)
theorem name_app:S.kRt 102=⟨#[114,116,49,48,50]⟩:=by kernel_rfl
theorem endL_pos (p:Int):∀ {j:Nat},1<=j->S.endL p j=4*(p+3*((j:Int)-1))+1
 | 0,h=>by omega
 | j+1,_=>by rw [S.endL];omega
theorem apL_mem {F:List Int}{H:Int}(hI:(S.wImg true [] [] F (H+1000)).Ok)(hH:H=(S.wImg true [] [] F (H+1000)).lab S.kEnd){m0:S.Mach}(h:S.Wd [] [] F (H+1000) m0)(hsm:0<=H/\H<=100000){typ stub:Int}(ht:0<=typ/\typ<=7)(hs:0<=stub/\stub<=67108864){n:Nat}(hn:n<=30){i:Nat}(hi:i<n):(S.apL H typ stub m0 n).memV (H+2+3*i+2)=S.endL (H+2) i:=by
 have nc:∀ x,H<=x->¬ (S.wImg true [] [] F (H+1000)).code x:=fun x hx hc=>by
  have:=(code_iff hI).1 hc
  omega
 have w1:=wd_put hI h (i:=H) (v:=35+4*typ) ⟨by omega,by omega⟩ (nc _ (by omega)) (by omega)
 have w2:=wd_put hI w1 (i:=H+1) (v:=4*stub) ⟨by omega,by omega⟩ (nc _ (by omega)) (by omega)
 have w3:=wd_set hI w2 (i:=26) (v:=H+2) (by decide) (fun h=>absurd h (by decide)) (by omega)
 have L:=lst_of hI w3 (p:=H+2) (N:=n) (by omega) ⟨by omega,by omega⟩ (by omega) (by omega) n (by omega)
 have hl:=L.wd.len
 have hll:(((S.apL H typ stub m0 n).mem.length:Nat):Int)=H+1000:=hl
 rw [mv_mem (by omega) (by omega)]
 exact (L.hd i hi).2.2
set_option maxHeartbeats 4000000 in
theorem law_RtgcApplies (a mm:Int)(c pr:Bool)(w:World)(hL:LVE w)(ha:0<=a/\a<=255)(hmm:0<=mm/\mm<=255):Calls Tryz.prog 10 #[.int .u8 a,.int .u8 mm,.agg #[.bool c,.bool pr]] w fun e w'=>e=.returned (.bool true)/\Below w.heap.size w w':=by
 have HLV:=Lib.hid hL
 obtain ⟨m,hm⟩:∃ m:Nat,m=(a%6).toNat:=⟨_,rfl⟩
 obtain ⟨n,hn⟩:∃ n:Nat,n=(mm%31).toNat:=⟨_,rfl⟩
 have hm5:m<=5:=by omega
 have hn30:n<=30:=by omega
 have r1:IntKind.u8.wrap (a%6)=(m:Int):=by rw [show a%6=(m:Int) from by omega];exact IntWalk.u8_in _ ⟨by omega,by omega⟩
 have r2:a.tmod 6=(m:Int):=by rw [Int.tmod_eq_emod_of_nonneg ha.1];omega
 have r3:mm.tmod 31=(n:Int):=by rw [Int.tmod_eq_emod_of_nonneg hmm.1];omega
 have r4:a%6=(m:Int):=by omega
 have r5:mm%31=(n:Int):=by omega
 have r6:(m:Int)%256=m:=by omega
 have r7:(n:Int)%256=n:=by omega
 have r8:(m:Int)%18446744073709551616=m:=by omega
 have r9:(n:Int)%18446744073709551616=n:=by omega
 have ru1:IntKind.u8.wrap (m:Int)=m:=IntWalk.u8_in _ ⟨by omega,by omega⟩
 have ru2:IntKind.u8.wrap (n:Int)=n:=IntWalk.u8_in _ ⟨by omega,by omega⟩
 clear hm hn hL
 go_enter Tryz.func10,Tryz.ntmps10
 go_upto_region 1 with fail
 have hb0:Below w.heap.size w (w.alloc (.cells #[.bool c,.bool pr] 88)):=(Below.refl _ _).alloc (Nat.le_refl _) _
 have hr0:=heap_alloc_new w (.cells #[.bool c,.bool pr] 88)
 generalize w.alloc (.cells #[.bool c,.bool pr] 88)=w1 at *
 have z0:w1.cell? ⟨w.heap.size,0,none⟩=some (.bool c):=by rw [Lib.cell_of_heap hr0];rfl
 have z1:w1.cell? ⟨w.heap.size,1,none⟩=some (.bool pr):=by rw [Lib.cell_of_heap hr0];rfl
 have HB1:=Lib.hid hb0
 clear hr0 hb0
 obtain ⟨B0,hB0⟩:∃ B0,B0=w.heap.size:=⟨_,rfl⟩
 rw [<- hB0] at z0 z1 HB1 ⊢
 have HB0:=Lib.hid hB0
 clear hB0
 go_region
 have HB2:=Lib.hid (drew_below HB1.out)
 have HL2:=Lib.hid (show LVE w1.drew from by
  have h:=HB2.out
  rw [HB0.out] at h
  exact HLV.out.on h)
 generalize w1.drew=w2 at *
 clear z0 z1 HB1
 have hz2:B0<=w2.heap.size:=by rw [HB0.out];exact HB2.out.size
 have Hw:=Lib.hid (k_world none none 0 0 [] [] 1000 w2 HL2.out (fun h=>by simp at h) (fun h=>by simp at h) (by decide) (by decide) (fun x hx=>by cases hx) (fun x hx=>by cases hx) (by decide))
 go_wp2_with fail
 refine Hw.out.mono ?_
 rintro e w3 ⟨Fs,b,p,F,hwr,rfl,hk3,hb3⟩
 have HWr:=Lib.hid hwr
 have HK3:=Lib.hid hk3
 have HB3:=Lib.hid (HB2.out.trans (hb3.mono hz2))
 have HL3:=Lib.hid (HL2.out.on hb3)
 have HF:=Lib.hid (show ∀ k,F k->k<w3.heap.size from fun k hk=>(hk3.lt k hk).2)
 have HFl:=Lib.hid (show ∀ k,F k->B0<=k from fun k hk=>by have:=(hk3.lt k hk).1;omega)
 clear hwr hk3 hb3 Hw HB2 HL2
 obtain ⟨m0,hm0⟩:∃ m0,m0=S.wM (S.wL [] [] Fs) 1000 []:=⟨_,rfl⟩
 have Hm0:=Lib.hid hm0
 rw [<- hm0] at HK3
 have hrd:m0.rd 26=(S.wL [] [] Fs).length:=by
  have:=HWr.out.fst.rd
  rw [<- Hm0.out] at this
  exact this 26
 clear hm0
 obtain ⟨H,hH⟩:∃ H:Int,H=(S.wL [] [] Fs).length:=⟨_,rfl⟩
 have hHb:0<=H/\H<=12000:=by have:=HWr.out.small;omega
 rw [<- hH] at hrd
 have HH:=Lib.hid hH
 have HRd:=Lib.hid hrd
 clear hH hrd
 obtain ⟨stub,hst⟩:∃ s,s=(S.wImg true [] [] Fs ((S.wL [] [] Fs).length+1000)).lab S.kStub:=⟨_,rfl⟩
 obtain ⟨f1,l1,l2⟩:=w_label (HWr.out.ok true) has_stub
 rw [<- hst] at f1 l1 l2
 have HSt:=Lib.hid hst
 clear hst
 have hat:=k_At S.kStub HK3.out
 have f1':S.findP (S.wP [] [] Fs) S.kStub=some stub:=f1
 rw [f1'] at hat
 have Hat:=Lib.hid hat
 have Hf1:=Lib.hid f1'
 clear hat f1 f1'
 have c1:stub%18446744073709551616=stub:=by omega
 go_wp2_with fail
 refine Hat.out.mono ?_
 rintro e w4 ⟨rfl,hb4⟩
 have HK4:=Lib.hid (HK3.out.below hb4)
 have hz3:B0<=w3.heap.size:=by rw [HB0.out];exact HB3.out.size
 have HB4:=Lib.hid (HB3.out.trans (hb4.mono hz3))
 have HL4:=Lib.hid (HL3.out.on hb4)
 clear hb4 Hat HK3 HB3 HL3 hz3 hz2
 obtain ⟨typ,hty⟩:∃ typ:Int,typ=if c then 2 else 1:=⟨_,rfl⟩
 have htyb:typ=1\/typ=2:=by cases c <;> simp [hty]
 have HTy:=Lib.hid hty
 clear hty
 go_upto_if 39 with fail
 go_cut [13] (fun v13 wc=>v13=.int .i64 typ/\w4=wc)
 case first =>
  cases c
  ·have h2:=Lib.hid (show typ=1 from HTy.out)
   clear HTy
   go_wp2_with fail
   go_meet
   exact ⟨by rw [h2.out],rfl⟩
  ·have h2:=Lib.hid (show typ=2 from HTy.out)
   clear HTy
   go_wp2_with fail
   go_meet
   exact ⟨by rw [h2.out],rfl⟩
 case rest =>
 obtain ⟨rfl,rfl⟩:=hcut
 have hreg:=k_Reg 26 HK4.out
 rw [rd_reg (by decide) (by decide),HRd.out] at hreg
 have Hreg:=Lib.hid hreg
 clear hreg
 obtain ⟨_,_,_,_,_,_,e0,e1,e2,e3,e4⟩:=HK4.out.cells
 have hbl:=HK4.out.blt
 go_wp2_with fail
 refine Hreg.out.mono ?_
 rintro e _ ⟨rfl,rfl⟩
 clear Hreg
 have c2:H%18446744073709551616=H:=by omega
 have c3:H%4294967296=H:=by omega
 have c4:IntKind.i64.wrap (H+1)=H+1:=IntWalk.i64_in _ ⟨by omega,by omega⟩
 have c5:IntKind.u32.wrap (H+2)=H+2:=IntWalk.u32_in _ ⟨by omega,by omega⟩
 have c6:IntKind.i64.wrap (4*stub)=4*stub:=IntWalk.i64_in _ ⟨by omega,by omega⟩
 have c7:4*stub%4294967296=4*stub:=by omega
 have c8:bits .or .i64 (bits .or .i64 32 (typ*4)) 3%4294967296=35+4*typ:=by rcases htyb with rfl | rfl <;> decide
 go_wp2_with fail
 refine (k_PutR H (35+4*typ) HK4.out (by omega)).mono ?_
 rintro e w5 ⟨rv,rfl,hk5,ho5⟩
 have HK5:=Lib.hid hk5
 have HB5:=Lib.hid (show Below B0 w w5 from HB4.out.trans (ho5.below (by rw [HB0.out];exact HB4.out.size) (fun k hk=>HFl.out k hk)))
 clear hk5 ho5 HK4 HB4 e0 e1 e2 e3 e4 hbl c8
 obtain ⟨_,_,_,_,_,_,e0,e1,e2,e3,e4⟩:=HK5.out.cells
 have hbl:=HK5.out.blt
 go_wp2_with fail
 refine (k_PutR (H+1) (4*stub) HK5.out (by omega)).mono ?_
 rintro e w6 ⟨rv,rfl,hk6,ho6⟩
 have HK6:=Lib.hid hk6
 have HB6:=Lib.hid (show Below B0 w w6 from HB5.out.trans (ho6.below (by rw [HB0.out];exact HB5.out.size) (fun k hk=>HFl.out k hk)))
 clear hk6 ho6 HK5 HB5 e0 e1 e2 e3 e4 hbl
 obtain ⟨_,_,_,_,_,_,e0,e1,e2,e3,e4⟩:=HK6.out.cells
 have hbl:=HK6.out.blt
 go_wp2_with fail
 refine (k_SetR 26 (H+2) HK6.out (by omega)).mono ?_
 rintro e w7 ⟨rv,rfl,hk7,ho7⟩
 have HR7:=Lib.hid (setV_rd HK6.out.ok (i:=26) (v:=H+2) (j:=26) (by decide) (by decide))
 have HK7:=Lib.hid hk7
 have HB7:=Lib.hid (show Below B0 w w7 from HB6.out.trans (ho7.below (by rw [HB0.out];exact HB6.out.size) (fun k hk=>HFl.out k hk)))
 clear hk7 ho7 HK6 HB6 e0 e1 e2 e3 e4 hbl
 go_wp2_with fail
 have hli:=k_list (.pointer none) (.slice none 0 0) (n:Int) HK7.out (p:=H+2) (by rw [HR7.out,if_pos trivial]) (by omega) (by omega) (by omega)
 rw [Int.toNat_natCast] at hli
 refine hli.mono ?_
 rintro e w8 ⟨rfl,hk8,ho8⟩
 have HK8:=Lib.hid (show KAt w8 w2.heap.size b p F (S.wL [] [] Fs).length (1000/2) (S.wP [] [] Fs) (S.apL H typ stub m0 n) from hk8)
 have HB8:=Lib.hid (show Below B0 w w8 from HB7.out.trans (ho8.below (by rw [HB0.out];exact HB7.out.size) (fun k hk=>HFl.out k hk)))
 clear hk8 ho8 HK7 HB7 HR7 hli c2 c3 c4 c5 c6 c7
 have heb:=endL_bd (p:=H+2) (by omega) (j:=n) (by omega)
 obtain ⟨l,hl⟩:∃ l,l=S.endL (H+2) n:=⟨_,rfl⟩
 rw [<- hl] at heb ⊢
 have HLl:=Lib.hid hl
 clear hl
 go_upto_region 15 with fail
 obtain ⟨e,he⟩:∃ e:Int,e=if pr=false/\n≠0 then 20 else 38:=⟨_,rfl⟩
 have HE:=Lib.hid he
 clear he
 obtain ⟨bq,hbq⟩:∃ bq:Bool,bq=(!pr && decide (n≠0)):=⟨_,rfl⟩
 have HQ:=Lib.hid hbq
 clear hbq
 go_cut [83] from 78 to 82 (fun v83 wc=>v83=.bool bq/\w8=wc)
 case first =>
  cases pr
  ·by_cases h0:n=0
   ·have d1:decide ((n:Int)>0)=false:=by simp;omega
    have d0:decide (0<n)=false:=by simp;omega
    have h2:=Lib.hid (show bq=false from by rw [HQ.out,h0];rfl)
    have h3:n<=0:=by omega
    clear h0
    go_wp2_with fail
    go_meet
    exact ⟨by rw [h2.out],rfl⟩
   ·have d1:decide ((n:Int)>0)=true:=by simp;omega
    have d0:decide (0<n)=true:=by simp;omega
    have h2:=Lib.hid (show bq=true from by rw [HQ.out];simp [h0])
    have h3:1<=n:=by omega
    clear h0
    go_wp2_with fail
    go_meet
    exact ⟨by rw [h2.out],rfl⟩
  ·have h2:=Lib.hid (show bq=false from HQ.out)
   go_wp2_with fail
   go_meet
   exact ⟨by rw [h2.out],rfl⟩
 case rest =>
 obtain ⟨rfl,rfl⟩:=hcut
 go_upto_if 83 with fail
 go_cut [16,17] from 84 to 104 (fun _ _ wc=>Hid (KAt wc w2.heap.size b p F (S.wL [] [] Fs).length (1000/2) (S.wP [] [] Fs) (S.apE e H typ stub m0 n))/\Hid (Below B0 w wc))
 case first =>
  cases bq
  ·have he:e=38:=by
    rw [HE.out,if_neg]
    rintro ⟨q1,q2⟩
    have:=HQ.out
    simp [q1,q2] at this
   have HMK:=Lib.hid (show KAt w8 w2.heap.size b p F (S.wL [] [] Fs).length (1000/2) (S.wP [] [] Fs) (S.apE e H typ stub m0 n) from by
    have hM:S.apE e H typ stub m0 n=S.apL H typ stub m0 n:=by rw [he];rfl
    rw [hM]
    exact HK8.out)
   clear he
   go_wp2_with fail
   go_meet
   exact ⟨HMK,HB8⟩
  ·have hq:pr=false/\n≠0:=by
    have:=HQ.out
    simpa using this.symm
   have he:e=20:=by rw [HE.out,if_pos hq]
   have hn1:1<=n:=by omega
   have HHe:=Lib.hid he
   obtain ⟨q0,hq0⟩:∃ q0:Int,q0=H+2+3*((n:Int)-1):=⟨_,rfl⟩
   have c1:l/4=q0:=by rw [HLl.out,endL_pos _ hn1];omega
   have c2:q0%18446744073709551616=q0:=by omega
   have HQ0:=Lib.hid hq0
   have hmem:∀ i:Nat,i<n->(S.apL H typ stub m0 n).memV (H+2+3*i+2)=S.endL (H+2) i:=fun i hi=>by
    have hh:=HH.out
    refine apL_mem (F:=Fs) (by rw [hh];exact HWr.out.ok true) (by rw [hh];exact HWr.out.len) (by rw [Hm0.out,hh];exact HWr.out.wd) (by omega) (by omega) ?_ hn30 hi
    exact ⟨by omega,by omega⟩
   have HMem:=Lib.hid hmem
   clear hq he hq0 hmem
   go_wp2_with fail
   clear c1 c2
   go_loopw [16,17] (fun v16 v17 wl=>∃ i:Nat,1<=i/\i<=n/\v17=.int .i64 i/\v16=.int .i64 (H+2+3*((n:Int)-i))/\Hid (Below w8.heap.size w8 wl)) (fun _ v17 _=>((n:Int)-intOf v17).toNat)
   case atStart=>exact ⟨1,by omega,by omega,rfl,by rw [HQ0.out];rfl,Lib.hid (Below.refl _ _)⟩
   case round =>
    obtain ⟨i,hi1,hin,rfl,rfl,HBl⟩:=hrel
    obtain ⟨f,hf⟩:∃ f,f=H+2+3*((n:Int)-i):=⟨_,rfl⟩
    have HFf:=Lib.hid hf
    have hfb:H+2<=f/\f<=H+200:=by omega
    rw [<- hf]
    clear hf
    have c3:IntKind.i64.wrap (f+2)=f+2:=IntWalk.i64_in _ ⟨by omega,by omega⟩
    have HKl:=Lib.hid (HK8.out.below HBl.out)
    by_cases hlt:i<n
    ·have d1:decide ((i:Int)<n)=true:=by simp;omega
     have hm:=HMem.out (n-i) (by omega)
     rw [show H+2+3*((n-i:Nat):Int)+2=f+2 from by rw [HFf.out];omega,endL_pos _ (by omega)] at hm
     have hwd:=k_WordB (f+2) HKl.out
     rw [hm] at hwd
     obtain ⟨v,hv⟩:∃ v,v=4*(H+2+3*(((n-i:Nat):Int)-1))+1:=⟨_,rfl⟩
     obtain ⟨q1,hq1⟩:∃ q1,q1=H+2+3*((n:Int)-((i+1:Nat):Int)):=⟨_,rfl⟩
     rw [<- hv] at hwd
     have c4:v/4=q1:=by omega
     have c5:q1%18446744073709551616=q1:=by omega
     have c6:IntKind.i64.wrap ((i:Int)+1)=(i:Int)+1:=IntWalk.i64_in _ ⟨by omega,by omega⟩
     have Hwd:=Lib.hid hwd
     have c7:q1%4294967296=q1:=by omega
     have hvb:0<=v/\v<=4294967295:=by omega
     have HQ1:=Lib.hid hq1
     clear hwd hm hv hq1
     go_wp2_with fail
     refine Hwd.out.mono ?_
     rintro e2 w9 ⟨rfl,hb9⟩
     have HB9:=Lib.hid (HBl.out.trans (hb9.mono HBl.out.size))
     clear hb9 HBl Hwd
     go_wp2_with fail
     go_roundw
     case rel=>exact ⟨i+1,by omega,by omega,by congr 1,by rw [HQ1.out],HB9⟩
     case measure=>simp [intOf];omega
    ·have d1:decide ((i:Int)<n)=false:=by simp;omega
     have hf2:f=H+2:=by rw [HFf.out];omega
     subst hf2
     obtain ⟨_,_,_,_,_,_,e0,e1,e2,e3,e4⟩:=HKl.out.cells
     have hbl:=HKl.out.blt
     go_wp2_with fail
     refine (k_PutR (H+2+2) 20 HKl.out (by decide)).mono ?_
     rintro e2 w9 ⟨rv,rfl,hk9,ho9⟩
     have HMK:=Lib.hid (show KAt w9 w2.heap.size b p F (S.wL [] [] Fs).length (1000/2) (S.wP [] [] Fs) (S.apE e H typ stub m0 n) from by
      have hM:S.apE e H typ stub m0 n=(S.apL H typ stub m0 n).putV (H+2+2) 20:=by rw [HHe.out];rfl
      rw [hM]
      exact hk9)
     have HBl2:=Lib.hid (show Below B0 w w8 from HB8.out)
     have hz8:B0<=w8.heap.size:=by rw [HB0.out];exact HB8.out.size
     have HB9:=Lib.hid (show Below B0 w w9 from (HB8.out.trans (HBl.out.mono hz8)).trans (ho9.below (by have:=HBl.out.size;omega) (fun k hk=>HFl.out k hk)))
     clear hk9 ho9 HBl2 hz8
     go_wp2_with fail
     go_meet
     exact ⟨HMK,HB9⟩
 case rest =>
 obtain ⟨HKc,HBc⟩:=hcut
 have c10:IntKind.u32.wrap (H*4)=H*4:=IntWalk.u32_in _ ⟨by omega,by omega⟩
 have c11:IntKind.u32.wrap (H*4+1)=H*4+1:=IntWalk.u32_in _ ⟨by omega,by omega⟩
 clear HK8 HB8
 obtain ⟨_,_,_,_,_,_,e0,e1,e2,e3,e4⟩:=HKc.out.cells
 have hbl:=HKc.out.blt
 go_wp2_with fail
 refine (k_SetR 4 (H*4+1) HKc.out (by omega)).mono ?_
 rintro e9 w10 ⟨rv,rfl,hk10,ho10⟩
 obtain ⟨mA,hmA⟩:∃ mA,mA=(S.apE e H typ stub m0 n).setV 4 (4*H+1):=⟨_,rfl⟩
 have HK10:=Lib.hid (show KAt w10 w2.heap.size b p F (S.wL [] [] Fs).length (1000/2) (S.wP [] [] Fs) mA from by rw [hmA,Int.mul_comm 4 H];exact hk10)
 have HB10:=Lib.hid (show Below B0 w w10 from HBc.out.trans (ho10.below (by rw [HB0.out];exact HBc.out.size) (fun k hk=>HFl.out k hk)))
 have HmA:=Lib.hid hmA
 clear hk10 ho10 HKc HBc e0 e1 e2 e3 e4 hbl c10 c11 hmA
 go_wp2_with fail
 go_loopw [18] (fun v18 wl=>∃ j:Nat,j<=m/\v18=.int .i64 j/\Hid (KAt wl w2.heap.size b p F (S.wL [] [] Fs).length (1000/2) (S.wP [] [] Fs) (S.apArgs mA j))/\Hid (Below B0 w wl)) (fun v18 _=>((m:Int)-intOf v18).toNat)
 case atStart=>exact ⟨0,by omega,rfl,HK10,HB10⟩
 case round =>
  obtain ⟨j,hj,rfl,HKj,HBj⟩:=hrel
  obtain ⟨_,_,_,_,_,_,e0,e1,e2,e3,e4⟩:=HKj.out.cells
  have hbl:=HKj.out.blt
  by_cases hlt:j<m
  ·have d1:decide ((j:Int)<m)=true:=by simp;omega
   have c3:IntKind.i64.wrap (5+(j:Int))=5+j:=IntWalk.i64_in _ ⟨by omega,by omega⟩
   have c4:IntKind.i64.wrap (10+(j:Int))=10+j:=IntWalk.i64_in _ ⟨by omega,by omega⟩
   have c5:IntKind.i64.wrap (4*(10+(j:Int)))=4*(10+j):=IntWalk.i64_in _ ⟨by omega,by omega⟩
   have c6:IntKind.i64.wrap ((j:Int)+1)=j+1:=IntWalk.i64_in _ ⟨by omega,by omega⟩
   have c7:4*(10+(j:Int))%4294967296=4*(10+j):=by omega
   go_wp2_with fail
   refine (k_SetR (5+j) (4*(10+j)) HKj.out (by omega)).mono ?_
   rintro e9 w11 ⟨rv,rfl,hk11,ho11⟩
   have HK11:=Lib.hid (show KAt w11 w2.heap.size b p F (S.wL [] [] Fs).length (1000/2) (S.wP [] [] Fs) (S.apArgs mA (j+1)) from hk11)
   have HB11:=Lib.hid (show Below B0 w w11 from HBj.out.trans (ho11.below (by rw [HB0.out];exact HBj.out.size) (fun k hk=>HFl.out k hk)))
   clear hk11 ho11 HKj HBj e0 e1 e2 e3 e4 hbl
   go_wp2_with fail
   go_roundw
   case rel=>exact ⟨j+1,by omega,rfl,HK11,HB11⟩
   case measure=>simp [intOf];omega
  ·have hje:j=m:=by omega
   subst hje
   have d1:decide ((j:Int)<j)=false:=by simp
   have c7:(j:Int)%4294967296=j:=by omega
   go_wp2_with fail
   refine (k_SetR 10 l HKj.out heb).mono ?_
   rintro e9 w12 ⟨rv,rfl,hk12,ho12⟩
   have HK12:=Lib.hid hk12
   have HB12:=Lib.hid (show Below B0 w w12 from HBj.out.trans (ho12.below (by rw [HB0.out];exact HBj.out.size) (fun k hk=>HFl.out k hk)))
   clear hk12 ho12 HKj HBj e0 e1 e2 e3 e4 hbl
   obtain ⟨_,_,_,_,_,_,e0,e1,e2,e3,e4⟩:=HK12.out.cells
   have hbl:=HK12.out.blt
   go_wp2_with fail
   refine (k_SetR 2 j HK12.out (by omega)).mono ?_
   rintro e9 w13 ⟨rv2,rfl,hk13,ho13⟩
   have HK13:=Lib.hid (show KAt w13 w2.heap.size b p F (S.wL [] [] Fs).length (1000/2) (S.wP [] [] Fs) (S.apM e H typ stub m0 j n) from by
    have hM:S.apM e H typ stub m0 j n=((S.apArgs mA j).setV 10 l).setV 2 j:=by rw [HmA.out,HLl.out];rfl
    rw [hM]
    exact hk13)
   have HB13:=Lib.hid (show Below B0 w w13 from HB12.out.trans (ho13.below (by rw [HB0.out];exact HB12.out.size) (fun k hk=>HFl.out k hk)))
   clear hk13 ho13 HK12 HB12 e0 e1 e2 e3 e4 hbl
   have hok:∀ b,(S.wImg b [] [] Fs (H+1000)).Ok:=fun b=>by rw [HH.out];exact HWr.out.ok b
   have hlab:H=(S.wImg true [] [] Fs (H+1000)).lab S.kEnd:=by rw [HH.out];exact HWr.out.len
   have hstub:stub=(S.wImg true [] [] Fs (H+1000)).lab S.kStub:=by rw [HSt.out,HH.out]
   have hH13:1312<=H:=by
    have:=(end_bd (hok true)).1
    rw [<- hlab] at this
    simp at this
    omega
   have heOK:e=38\/e=20/\n≠0:=by
    rw [HE.out]
    by_cases hq:pr=false/\n≠0
    ·rw [if_pos hq];exact .inr ⟨rfl,hq.2⟩
    ·rw [if_neg hq];exact .inl rfl
   obtain ⟨MM,hMM⟩:∃ MM,MM=S.apM e H typ stub m0 j n:=⟨_,rfl⟩
   have hap:=ap_of (hok true) hlab (m0:=m0) (by rw [Hm0.out,HH.out];exact HWr.out.wd) ⟨hH13,by omega⟩ (typ:=typ) (stub:=stub) (e:=e) (by omega) ⟨l1,l2⟩ hm5 hn30 heOK
   rw [<- hMM] at hap HK13
   have hap2:S.ApF Fs (H+1000) H typ ((S.wImg true [] [] Fs (H+1000)).lab S.kStub) e j n MM:=by rw [<- hstub];exact hap
   obtain ⟨o1,o2,o3⟩:=ap_run hok hlab ⟨hH13,by omega⟩ hap2 htyb hm5 hn30 heOK
   rw [<- hstub] at o1 o2 o3
   obtain ⟨f2,l3,l4⟩:=w_label (hok true) names_app
   obtain ⟨ca,hca⟩:∃ ca,ca=(S.wImg true [] [] Fs (H+1000)).lab (S.kRt 102):=⟨_,rfl⟩
   obtain ⟨C,hC⟩:∃ C,C=S.callM (S.wImg true [] [] Fs (H+1000)) MM (S.kRt 102) 100000:=⟨_,rfl⟩
   have hcv:((MM.setV 31 stub).goV ca).steps_ 100000=C:=by rw [hC,hstub,hca];rfl
   rw [<- hC] at o1 o2 o3
   rw [<- hca] at f2 l3 l4
   have hca2:ca<=1000000000:=Int.le_trans l4 (by decide)
   clear hca hlab hstub
   have f2':S.findP (S.wP [] [] Fs) (S.kRt 102)=some ca:=f2
   obtain ⟨nm,hnm⟩:∃ nm,nm=S.kRt 102:=⟨_,rfl⟩
   have hnm2:nm=⟨#[114,116,49,48,50]⟩:=by rw [hnm,name_app]
   rw [<- hnm] at f2'
   obtain ⟨R,hR⟩:∃ R,R=S.callR C stub:=⟨_,rfl⟩
   have hcall:=app_call HK13.out f2' Hf1.out ⟨l3,l4⟩ ⟨l1,l2⟩ hap.wd.run hap.wd.out hap.wd.steps hcv hR.symm
   rw [hnm2] at hcall
   have R1:typ=1->R=7:=fun h=>by
    obtain ⟨x1,x2,x3⟩:=o1 h
    rw [hR]
    unfold S.callR
    rw [if_neg (fun q=>q x1),if_neg x2,x3]
    rfl
   have R2:typ=2->e=20->R=3:=fun h h'=>by
    obtain ⟨x1,x2,x3⟩:=o2 h h'
    rw [hR]
    unfold S.callR
    rw [if_neg (fun q=>q x1),if_neg x2,x3]
    rfl
   have R3:typ=2->e=38->R=0:=fun h h'=>by
    obtain ⟨x1,x2,-⟩:=o3 h h'
    rw [hR]
    unfold S.callR
    rw [if_neg (fun q=>q x1),if_pos x2]
   have HO3:=Lib.hid (fun h h'=>(o3 h h').2.2)
   have HR1:=Lib.hid R1
   have HR2:=Lib.hid R2
   have HR3:=Lib.hid R3
   have Hcall:=Lib.hid hcall
   clear f2' hnm2 hnm
   clear hok heOK hMM hap hap2 o1 o2 o3 f2 l3 l4 hca2 hC hcv hcall hR R1 R2 R3
   go_wp2_with fail
   refine Hcall.out.mono ?_
   rintro e9 w14 ⟨rfl,F14,hk14,ho14,hf14⟩
   have HK14:=Lib.hid hk14
   have HB14:=Lib.hid (show Below B0 w w14 from HB13.out.trans (ho14.below (by rw [HB0.out];exact HB13.out.size) (fun k hk=>HFl.out k hk)))
   have HL14:=Lib.hid (show LVE w14 from by
    have h:=HB14.out
    rw [HB0.out] at h
    exact HLV.out.on h)
   clear hk14 ho14 hf14 HK13 HB13 Hcall
   cases c
   ·have hR:=HR1.out HTy.out
    subst hR
    go_wp2_with fail
    refine (law26_works w14 HL14.out).mono ?_
    rintro e9 w15 ⟨rfl,hb15⟩
    have HB15:=Lib.hid (show Below w.heap.size w w15 from by
     have h:=HB14.out
     rw [HB0.out] at h
     exact h.trans (hb15.mono h.size))
    clear hb15
    go_wp2_with fail
    go_ret
    exact ⟨rfl,HB15.out⟩
   ·have hty:typ=2:=HTy.out
    go_upto_region 32 with fail
    go_cut [156] from 151 to 155 (fun v156 wc=>v156=.bool bq/\w14=wc)
    case first =>
     cases pr
     ·by_cases h0:n=0
      ·have d1:decide ((n:Int)>0)=false:=by simp;omega
       have d0:decide (0<n)=false:=by simp;omega
       have h2:=Lib.hid (show bq=false from by rw [HQ.out,h0];rfl)
       have h3:n<=0:=by omega
       clear h0
       go_wp2_with fail
       go_meet
       exact ⟨by rw [h2.out],rfl⟩
      ·have d1:decide ((n:Int)>0)=true:=by simp;omega
       have d0:decide (0<n)=true:=by simp;omega
       have h2:=Lib.hid (show bq=true from by rw [HQ.out];simp [h0])
       have h3:1<=n:=by omega
       clear h0
       go_wp2_with fail
       go_meet
       exact ⟨by rw [h2.out],rfl⟩
     ·have h2:=Lib.hid (show bq=false from HQ.out)
      go_wp2_with fail
      go_meet
      exact ⟨by rw [h2.out],rfl⟩
    case rest =>
    obtain ⟨rfl,rfl⟩:=hcut
    cases bq
    rotate_left
    ·have hq:pr=false/\n≠0:=by
      have:=HQ.out
      simpa using this.symm
     have hR:=HR2.out hty (by rw [HE.out,if_pos hq])
     subst hR
     clear hty hq
     go_wp2_with fail
     refine (law26_works w14 HL14.out).mono ?_
     rintro e9 w15 ⟨rfl,hb15⟩
     have HB15:=Lib.hid (show Below w.heap.size w w15 from by
      have h:=HB14.out
      rw [HB0.out] at h
      exact h.trans (hb15.mono h.size))
     clear hb15
     go_wp2_with fail
     go_ret
     exact ⟨rfl,HB15.out⟩
    ·have hq:¬ (pr=false/\n≠0):=by
      rintro ⟨q1,q2⟩
      have:=HQ.out
      simp [q1,q2] at this
     have hR:=HR3.out hty (by rw [HE.out,if_neg hq])
     subst hR
     obtain ⟨g1,g2,g3,g4⟩:=HO3.out hty (by rw [HE.out,if_neg hq])
     have G3:=Lib.hid g3
     have G4:=Lib.hid g4
     have hreg1:=k_Reg 1 HK14.out
     rw [rd_reg (by decide) (by decide),g1] at hreg1
     obtain ⟨s,hs⟩:∃ s:Nat,s=j+n:=⟨_,rfl⟩
     have hreg2:=k_Reg 2 HK14.out
     rw [rd_reg (by decide) (by decide),g2,show (j:Int)+n=(s:Int) from by omega] at hreg2
     have Hreg1:=Lib.hid hreg1
     have Hreg2:=Lib.hid hreg2
     have HSs:=Lib.hid hs
     have hs36:s<=36:=by omega
     clear hreg1 hreg2 g1 g2 g3 g4 hq hty
     obtain ⟨_,_,_,_,_,_,e0,e1,e2,e3,e4⟩:=HK14.out.cells
     have hbl:=HK14.out.blt
     have c1:IntKind.u32.wrap (H*4)=H*4:=IntWalk.u32_in _ ⟨by omega,by omega⟩
     have c2:IntKind.u32.wrap (H*4+1)=4*H+1:=by rw [Int.mul_comm];exact IntWalk.u32_in _ ⟨by omega,by omega⟩
     have c3:IntKind.i64.wrap ((j:Int)+n)=(s:Int):=by rw [show (j:Int)+n=(s:Int) from by omega];exact IntWalk.i64_in _ ⟨by omega,by omega⟩
     have c4:(s:Int)%4294967296=(s:Int):=by omega
     clear hs
     go_wp2_with fail
     refine Hreg1.out.mono ?_
     rintro e9 _ ⟨rfl,rfl⟩
     go_wp2_with fail
     refine Hreg2.out.mono ?_
     rintro e9 _ ⟨rfl,rfl⟩
     clear Hreg1 Hreg2 c1 c2
     go_wp2_with fail
     go_loopw [20] (fun v20 wl=>∃ i:Nat,i<=s/\i<=6/\v20=.int .i64 i/\w14=wl) (fun v20 _=>(6-intOf v20).toNat)
     case atStart=>exact ⟨0,by omega,by omega,rfl,rfl⟩
     case round =>
      obtain ⟨i,hi1,hi6,rfl,rfl⟩:=hrel
      by_cases hlt:i<s/\i<6
      ·obtain ⟨hlt1,hlt2⟩:=hlt
       have d1:decide ((i:Int)<s)=true:=by simp;omega
       have d2:decide ((i:Int)<6)=true:=by simp;omega
       have c5:IntKind.i64.wrap (10+(i:Int))=10+i:=IntWalk.i64_in _ ⟨by omega,by omega⟩
       have c6:IntKind.i64.wrap (4*(10+(i:Int)))=4*(10+i):=IntWalk.i64_in _ ⟨by omega,by omega⟩
       have c7:4*(10+(i:Int))%4294967296=4*(10+i):=by omega
       have c8:IntKind.i64.wrap (4+(i:Int))=4+i:=IntWalk.i64_in _ ⟨by omega,by omega⟩
       have c9:IntKind.i64.wrap ((i:Int)+1)=i+1:=IntWalk.i64_in _ ⟨by omega,by omega⟩
       have hreg:=k_Reg (4+i) HK14.out
       rw [rd_reg (by omega) (by omega),G3.out i (by rw [<- HSs.out];exact hlt1) hlt2] at hreg
       by_cases hm:i<j
       ·rw [if_pos hm] at hreg
        have Hreg:=Lib.hid hreg
        have d3:decide ((i:Int)>=j)=false:=by simp;omega
        have d4:decide ((j:Int)<=i)=false:=by simp;omega
        have d5:decide (j<=i)=false:=by simp;omega
        clear hreg
        go_wp2_with fail
        refine Hreg.out.mono ?_
        rintro e9 _ ⟨rfl,rfl⟩
        go_wp2_with fail
        go_roundw
        case rel=>exact ⟨i+1,by omega,by omega,rfl,by first | rfl | trivial⟩
        case measure=>simp [intOf];omega
       ·rw [if_neg hm] at hreg
        have Hreg:=Lib.hid hreg
        have d3:decide ((i:Int)>=j)=true:=by simp;omega
        have d4:decide ((j:Int)<=i)=true:=by simp;omega
        have d5:decide (j<=i)=true:=by simp;omega
        have c10:IntKind.i64.wrap (100+(i:Int))=100+i:=IntWalk.i64_in _ ⟨by omega,by omega⟩
        have c11:IntKind.i64.wrap (100+(i:Int)-j)=100+(i:Int)-j:=IntWalk.i64_in _ ⟨by omega,by omega⟩
        have c12:IntKind.i64.wrap (4*(100+(i:Int)-j))=4*(100+(i:Int)-j):=IntWalk.i64_in _ ⟨by omega,by omega⟩
        have c13:4*(100+(i:Int)-j)%4294967296=4*(100+(i:Int)-j):=by omega
        clear hreg
        go_wp2_with fail
        refine Hreg.out.mono ?_
        rintro e9 _ ⟨rfl,rfl⟩
        go_wp2_with fail
        go_roundw
        case rel=>exact ⟨i+1,by omega,by omega,rfl,by first | rfl | trivial⟩
        case measure=>simp [intOf];omega
      ·have hout:(¬ i<s)\/(i<s/\¬ i<6):=by omega
       have Hout:=Lib.hid hout
       clear hlt hout
       go_upto_region 37 with fail
       go_cut [195] from 187 to 194 (fun v195 wc=>v195=.bool false/\w14=wc)
       case first =>
        rcases Hout.out with h1 | ⟨h1,h2⟩
        ·have d1:decide ((i:Int)<s)=false:=by simp;omega
         have d0:decide (i<s)=false:=by simp;omega
         go_wp2_with fail
         go_meet
         exact ⟨rfl,by first | rfl | trivial⟩
        ·have d1:decide ((i:Int)<s)=true:=by simp;omega
         have d0:decide (i<s)=true:=by simp;omega
         have d2:decide ((i:Int)<6)=false:=by simp;omega
         have d3:decide (i<6)=false:=by simp;omega
         go_wp2_with fail
         go_meet
         exact ⟨by first | rfl | (simp;omega),by first | rfl | trivial⟩
       case rest =>
       obtain ⟨rfl,rfl⟩:=hcut
       by_cases h6:6<s
       ·have d3:decide ((s:Int)>6)=true:=by simp;omega
        have d4:decide ((6:Int)<s)=true:=by simp;omega
        have d5:decide (6<s)=true:=by simp;omega
        have hlen:((S.itemsL n n).drop (6-j)).length=s-6:=by have:=HSs.out;rw [List.length_drop,itemsL_len];omega
        have h0:((S.itemsL n n).drop (6-j))[0]?=some (4*(106-(j:Int))):=by
         rw [List.getElem?_drop,itemsL_at n (show 6-j+0<n by have:=HSs.out;omega)]
         refine congrArg some ?_
         omega
        obtain ⟨L,hLE⟩:∃ L,L=(S.itemsL n n).drop (6-j):=⟨_,rfl⟩
        rw [<- hLE] at hlen h0
        obtain ⟨v,hv⟩:∃ v,v=C.rd 10:=⟨_,rfl⟩
        have hreg:=k_Reg 10 HK14.out
        rw [rd_reg (by decide) (by decide),<- hv] at hreg
        have hit:=k_items v L HK14.out (by rw [hv,hLE];exact G4.out) (by omega)
        obtain ⟨T,hT⟩:∃ T:Nat,T=L.length:=⟨_,rfl⟩
        rw [<- hT] at hit hlen
        have Hreg:=Lib.hid hreg
        have Hit:=Lib.hid hit
        have H0:=Lib.hid h0
        have HT:=Lib.hid hT
        clear hreg hit h0 hT hv hLE
        go_wp2_with fail
        refine Hreg.out.mono ?_
        rintro e9 _ ⟨rfl,rfl⟩
        go_wp2_with fail
        refine Hit.out.mono ?_
        rintro e9 w15 ⟨A,cc,rfl,ho,hb15⟩
        have HB15:=Lib.hid (show Below w.heap.size w w15 from by
         have h:=HB14.out
         rw [HB0.out] at h
         exact h.trans (hb15.mono h.size))
        obtain ⟨gg,rfl,hg1,hg2,hg3,hg4,_⟩:=ownsRow_at ho (by omega)
        have z0:w15.cell? ⟨gg,0,none⟩=some (.int .u32 (4*(106-(j:Int)))):=by
         have h1:=hg4 0 (by omega)
         rw [List.getElem?_map,H0.out] at h1
         exact h1
        have HL15:=Lib.hid (HL14.out.on hb15)
        have hT1:1<=T:=by omega
        have HLn:=Lib.hid hlen
        have c5:IntKind.i64.wrap ((s:Int)-6)=(T:Int):=by
         rw [show (s:Int)-6=(T:Int) from by omega]
         exact IntWalk.i64_in _ ⟨by omega,by omega⟩
        have c6:IntKind.i64.wrap (106-(j:Int))=106-j:=IntWalk.i64_in _ ⟨by omega,by omega⟩
        have c7:IntKind.i64.wrap (4*(106-(j:Int)))=4*(106-j):=IntWalk.i64_in _ ⟨by omega,by omega⟩
        have c8:4*(106-(j:Int))%4294967296=4*(106-j):=by omega
        clear ho hb15 hg4 Hreg Hit hlen
        go_wp2_with fail
        refine (law26_works w15 HL15.out).mono ?_
        rintro e9 w16 ⟨rfl,hb16⟩
        have HB16:=Lib.hid (HB15.out.trans (hb16.mono HB15.out.size))
        clear hb16
        go_wp2_with fail
        go_ret
        exact ⟨rfl,HB16.out⟩
       ·have d3:decide ((s:Int)>6)=false:=by simp;omega
        have d4:decide ((6:Int)<s)=false:=by simp;omega
        have d5:decide (6<s)=false:=by simp;omega
        go_wp2_with fail
        refine (law26_works w14 HL14.out).mono ?_
        rintro e9 w15 ⟨rfl,hb15⟩
        have HB15:=Lib.hid (show Below w.heap.size w w15 from by
         have h:=HB14.out
         rw [HB0.out] at h
         exact h.trans (hb15.mono h.size))
        clear hb15
        go_wp2_with fail
        go_ret
        exact ⟨rfl,HB15.out⟩
end Go.Proofs.YtlldagdhlfpihaaGreatDoor
