/- Parts. -/
import Derived.Test.YtlldagdhlfpihaaGreatDoorZKTop
import Derived.Deep.OwnRows
import Derived.ChangeSame
import Derived.Deep.Slices
set_option linter.unusedVariables false
set_option linter.unusedSimpArgs false
set_option linter.unusedSectionVars false
namespace Go.Proofs.YtlldagdhlfpihaaGreatDoor
set_option maxRecDepth 100000
section
open Go.RowKit
def sttV (An Ar Ag As Aq Ap:Option Addr)(cn cr cg cs cq cp:Nat)(x:S.Stt):Value:=.agg #[.slice An x.nodes.length cn,.slice Ar x.roots.length cr,.slice Ag x.glob.length cg,.slice As x.stat.length cs,.slice Aq x.slots.length cq,.slice Ap x.places.length cp,.int .u32 x.sym.1,.int .u16 x.sym.2]
theorem reads_zeros {w:World}{b n:Nat}(h:w.heap[b]?=some (.cells (madeCells #[.int .u32 0] n) 30 (0,0))):Reads w w.heap.size (some ⟨b,0,none⟩) ((S.zeros n).map (Value.int .u32)):=fun _=>by
 refine ⟨b,0,rfl,(Array.getElem?_eq_some_iff.1 h).1,fun i x hx=>?_⟩
 have e:(madeCells #[Value.int .u32 0] n).toList=(S.zeros n).map (Value.int .u32):=by
  rw [S.zeros,List.map_replicate]
  exact toList_madeCells_one _ n
 rw [Nat.zero_add,Lib.cell_of_heap h]
 rw [<- e,Array.getElem?_toList] at hx
 exact hx
theorem has_static:S.kStatic∈S.wTells:=w_has (by kernel_rfl)
def LadP (w:World)(x:S.Stt)(heap:Int)(e:Ending)(w':World):Prop :=
 ∃ Fs,S.Wr (S.zeros x.ng) (S.zeros x.ns) Fs heap/\Below w.heap.size w w' /\
  ((heap/2<S.sizes (S.laidNs x.nodes)/\e=.returned (.tuple #[.pointer none,.pointer none,.slice none 0 0,.slice none 0 0]))\/(S.sizes (S.laidNs x.nodes)<=heap/2/\∃ b p F gb Aw cw Aa ca g,g=S.laidG x.nodes (S.wL (S.zeros x.ng) (S.zeros x.ns) Fs).length/\e=.returned (.tuple #[.pointer (some ⟨b,0,none⟩),.pointer (some ⟨gb,0,none⟩),.slice Aw (x.pl g).length cw,.slice Aa (x.pl g).length ca]) /\
   KAt w' w.heap.size b p F (S.wL (S.zeros x.ng) (S.zeros x.ns) Fs).length (heap/2) (S.wP (S.zeros x.ng) (S.zeros x.ns) Fs) (S.sttM x g ((S.laidM g (S.wM (S.wL (S.zeros x.ng) (S.zeros x.ns) Fs) heap [])).setV 26 ((S.wL (S.zeros x.ng) (S.zeros x.ns) Fs).length+S.sizes g.ns))) /\
   GAt w' F gb g/\ReadsF w' F Aw (((x.pl g).map Prod.snd).map (Value.int .u32))/\ReadsF w' F Aa (((x.pl g).map Prod.fst).map (Value.int .i64))))
set_option maxHeartbeats 8000000 in
theorem k_laid (w:World)(hL:LVE w)(x:S.Stt)(hx:x.Ok)(An Ar Ag As Aq Ap:Option Addr)(cn cr cg cs cq cp:Nat)(hs:SttF w An Ar Ag As Aq Ap x)(hcr:x.roots.length<=cr)(heap:Int)(hheap:2<=heap/\heap<=4000):Calls Tryz.prog 27 #[sttV An Ar Ag As Aq Ap cn cr cg cs cq cp x,.int .i64 heap] w (LadP w x heap):=by
 unfold sttV
 have hfew:=hs.few
 have hle:=stt_le x
 obtain ⟨NN,hNN⟩:∃ N,N=x.nodes.length:=⟨_,rfl⟩
 obtain ⟨NR,hNR⟩:∃ N,N=x.roots.length:=⟨_,rfl⟩
 obtain ⟨NG,hNG⟩:∃ N,N=x.glob.length:=⟨_,rfl⟩
 obtain ⟨NS,hNS⟩:∃ N,N=x.stat.length:=⟨_,rfl⟩
 obtain ⟨NQ,hNQ⟩:∃ N,N=x.slots.length:=⟨_,rfl⟩
 obtain ⟨NP,hNP⟩:∃ N,N=x.places.length:=⟨_,rfl⟩
 obtain ⟨R,hR⟩:∃ N,N=x.nr:=⟨_,rfl⟩
 obtain ⟨G,hG⟩:∃ N,N=x.ng:=⟨_,rfl⟩
 obtain ⟨T,hT⟩:∃ N,N=x.ns:=⟨_,rfl⟩
 obtain ⟨Q,hQ⟩:∃ N,N=x.nq:=⟨_,rfl⟩
 have mR:min (NR:Int) 8=(R:Int):=by have:x.nr=min x.roots.length 8:=rfl;omega
 have mG:min (NG:Int) 6=(G:Int):=by have:x.ng=min x.glob.length 6:=rfl;omega
 have mT:min (NS:Int) 6=(T:Int):=by have:x.ns=min x.stat.length 6:=rfl;omega
 have mQ:Q=min (min NQ NP) 6:=by rw [hQ,hNQ,hNP];rfl
 obtain ⟨⟨sy,sz⟩,hsym⟩:∃ q,q=x.sym:=⟨_,rfl⟩
 rw [<- hNN,<- hNR,<- hNG,<- hNS,<- hNQ,<- hNP] at hfew
 rw [<- hNR,<- hNG,<- hNS,<- hNQ,<- hNP] at hle
 rw [<- hR,<- hG,<- hT,<- hQ] at hle
 rw [<- hNN,<- hNR,<- hNG,<- hNS,<- hNQ,<- hNP,<- hsym]
 rw [<- hNR] at hcr
 have HS:=Lib.hid hs
 have HX:=Lib.hid hx
 have HLV:=Lib.hid hL
 have HNN:=Lib.hid hNN
 have HNR:=Lib.hid hNR
 have HNG:=Lib.hid hNG
 have HNS:=Lib.hid hNS
 have HNQ:=Lib.hid hNQ
 have HNP:=Lib.hid hNP
 have HR:=Lib.hid hR
 have HG:=Lib.hid hG
 have HT:=Lib.hid hT
 have HQ:=Lib.hid hQ
 have HSym:=Lib.hid hsym
 have HMQ:=Lib.hid mQ
 clear hs hx hL hNN hNR hNG hNS hNQ hNP hR hG hT hQ hsym mQ
 simp only
 go_enter Tryz.func27,Tryz.ntmps27
 go_upto_region 1 with fail
 have hb1:=(Below.refl w.heap.size w).alloc (Nat.le_refl _) (.cells #[.slice An NN cn,.slice Ar NR cr,.slice Ag NG cg,.slice As NS cs,.slice Aq NQ cq,.slice Ap NP cp,.int .u32 sy,.int .u16 sz] 62)
 have hr1:=heap_alloc_new w (.cells #[.slice An NN cn,.slice Ar NR cr,.slice Ag NG cg,.slice As NS cs,.slice Aq NQ cq,.slice Ap NP cp,.int .u32 sy,.int .u16 sz] 62)
 generalize w.alloc (.cells #[.slice An NN cn,.slice Ar NR cr,.slice Ag NG cg,.slice As NS cs,.slice Aq NQ cq,.slice Ap NP cp,.int .u32 sy,.int .u16 sz] 62)=wx at *
 obtain ⟨B0,hB0⟩:∃ B0,B0=w.heap.size:=⟨_,rfl⟩
 have hzx:B0+1<=wx.heap.size:=by have:=(Array.getElem?_eq_some_iff.1 hr1).1;omega
 rw [<- hB0] at hr1 hb1 ⊢
 have HB0:=Lib.hid hB0
 have HBx:=Lib.hid hb1
 have HBox:=Lib.hid hr1
 have z2:wx.cell? ⟨B0,2,none⟩=some (.slice Ag NG cg):=by rw [Lib.cell_of_heap hr1];rfl
 clear hb1 hB0
 have hmk:=run_make_row' (P:=Tryz.prog) 50 30 (.int .u32 0) 4 Tryz.underlying50 u32_infoA rfl .i64 .i64 G (by omega) (by omega)
 go_upto_region 2 with fail
 have hbG:=(Below.refl wx.heap.size wx).alloc (Nat.le_refl _) (.cells (madeCells #[.int .u32 0] G) 30)
 have hrG:=heap_alloc_new wx (.cells (madeCells #[.int .u32 0] G) 30)
 generalize wx.alloc (.cells (madeCells #[.int .u32 0] G) 30)=w2 at *
 clear hmk z2
 have hz2:wx.heap.size+1<=w2.heap.size:=(Array.getElem?_eq_some_iff.1 hrG).1
 have z3:w2.cell? ⟨B0,3,none⟩=some (.slice As NS cs):=by rw [Lib.cell_of_heap ((hbG.block B0 (by omega)).trans hr1)];rfl
 have hmk:=run_make_row' (P:=Tryz.prog) 50 30 (.int .u32 0) 4 Tryz.underlying50 u32_infoA rfl .i64 .i64 T (by omega) (by omega)
 go_upto_region 3 with fail
 have hbT:=(Below.refl w2.heap.size w2).alloc (Nat.le_refl _) (.cells (madeCells #[.int .u32 0] T) 30)
 have hrT:=heap_alloc_new w2 (.cells (madeCells #[.int .u32 0] T) 30)
 generalize w2.alloc (.cells (madeCells #[.int .u32 0] T) 30)=w3 at *
 clear hmk z3
 have hz3:w2.heap.size+1<=w3.heap.size:=(Array.getElem?_eq_some_iff.1 hrT).1
 have hrG3:=(hbT.block wx.heap.size (by omega)).trans hrG
 have HB3:=Lib.hid (show Below (B0+1) wx w3 from (hbG.mono hzx).trans (hbT.mono (by omega)))
 have HL3:=Lib.hid (show LVE w3 from by
  have h1:=HBx.out
  have h2:=HB3.out
  refine HLV.out.on ?_
  rw [HB0.out] at h1
  exact h1.trans (h2.mono (by rw [HB0.out];omega)))
 have hw:=k_world (some ⟨wx.heap.size,0,none⟩) (some ⟨w2.heap.size,0,none⟩) G T (S.zeros G) (S.zeros T) heap w3 HL3.out (reads_zeros hrG3) (reads_zeros hrT) (by rw [zeros_len];omega) (by rw [zeros_len];omega) (fun y hy=>by rw [List.eq_of_mem_replicate hy];decide) (fun y hy=>by rw [List.eq_of_mem_replicate hy];decide) ⟨by omega,by omega⟩
 rw [zeros_len,zeros_len] at hw
 have Hw:=Lib.hid hw
 clear hw hbG hrG hbT hrT hrG3 hr1
 go_wp2_with fail
 refine Hw.out.mono ?_
 rintro e w4 ⟨Fs,b,p,F,hwr,rfl,hk4,hb4⟩
 have HWr:=Lib.hid hwr
 have HK4:=Lib.hid hk4
 have HB4:=Lib.hid (HB3.out.trans (hb4.mono (by omega)))
 have HFx:=Lib.hid (show ∀ k,F k->B0+1<=k from fun k hk=>by have:=(hk4.lt k hk).1;omega)
 clear hwr hk4 hb4 Hw HB3 HL3
 obtain ⟨m0,hm0⟩:∃ m0,m0=S.wM (S.wL (S.zeros G) (S.zeros T) Fs) heap []:=⟨_,rfl⟩
 obtain ⟨H,hH⟩:∃ H:Int,H=(S.wL (S.zeros G) (S.zeros T) Fs).length:=⟨_,rfl⟩
 have hHb:0<=H/\H<=12000:=by have:=HWr.out.small;omega
 have hrd:m0.rd 26=H/\m0.rd 27=H+heap/2:=by
  have:=HWr.out.fst.rd
  rw [<- hm0,<- hH] at this
  exact ⟨this 26,this 27⟩
 have hml:(m0.mem.length:Int)=H+heap:=by
  have h2:=HWr.out.wd.len
  rw [<- hm0,<- hH] at h2
  exact h2
 rw [<- hm0,<- hH] at HK4
 have Hm0:=Lib.hid hm0
 have HH:=Lib.hid hH
 have HRd:=Lib.hid hrd
 have HMl:=Lib.hid hml
 have hzx4:B0+1<=w4.heap.size:=Nat.le_trans hzx HB4.out.size
 have hGpass:∀ w',Below (B0+1) wx w'->Pass (fun k=>w.heap.size<=k) w (fun k=>w.heap.size<=k) w':=fun w' h=>.of_below (by
  have h1:=HBx.out
  rw [HB0.out] at h1
  exact h1.trans (h.mono (by rw [HB0.out];omega)))
 have HPass:=Lib.hid hGpass
 have hnodes:NodesF w4 F An x.nodes:=by
  have h1:=HS.out.nodes.pass (hGpass w4 HB4.out)
  exact h1.pass ⟨.refl _ _,fun k _ hk=>by have:=HFx.out k hk;have:=HB0.out;omega⟩
 have hlay:=k_Lay HK4.out An cn x.nodes hnodes HS.out.few.1 (by rw [hrd.1];omega) (laidG_ok HX.out.nodes (by rw [hrd.1];omega)) (by omega)
 rw [<- HNN.out] at hlay
 have Hlay:=Lib.hid hlay
 have hbox4:=(HB4.out.block B0 (by omega)).trans HBox.out
 have z0:w4.cell? ⟨B0,0,none⟩=some (.slice An NN cn):=by rw [Lib.cell_of_heap hbox4];rfl
 clear hGpass hnodes hlay hbox4 hm0 hH hrd hml mG mT
 go_wp2_with fail
 refine Hlay.out.mono ?_
 rintro e w5 hcase
 clear z0 Hlay
 obtain ⟨sz0,hsz0⟩:∃ s,s=S.sizes (S.laidNs x.nodes):=⟨_,rfl⟩
 unfold LaidP at hcase
 rw [<- hsz0,HRd.out.2,HRd.out.1] at hcase
 have HSz:=Lib.hid hsz0
 clear hsz0
 rcases hcase with ⟨hc1,rfl,hb5⟩ | ⟨hc1,gb,rfl,hga5,hk5,ho5⟩
 ·have HB5:=Lib.hid (HB4.out.trans (hb5.mono hzx4))
  clear hb5
  go_wp2_with fail
  refine bodyPost_ret (v:=.tuple #[.pointer none,.pointer none,.slice none 0 0,.slice none 0 0]) (by simp [results,Tryz.results27,go_sem]) rfl ?_
  refine ⟨Fs,by rw [<- HG.out,<- HT.out];exact HWr.out,?_,.inl ⟨by rw [<- HSz.out];omega,rfl⟩⟩
  have h1:=HBx.out
  rw [HB0.out] at h1
  exact h1.trans (HB5.out.mono (by rw [HB0.out];omega))
 obtain ⟨g,hg⟩:∃ g,g=S.laidG x.nodes H:=⟨_,rfl⟩
 rw [<- hg] at hga5 hk5
 obtain ⟨m1,hm1⟩:∃ m1,m1=(S.laidM g m0).setV 26 (H+sz0):=⟨_,rfl⟩
 rw [<- hm1] at hk5
 have HGE:=Lib.hid hg
 have Hm1:=Lib.hid hm1
 have hgok:g.Ok H:=by rw [hg];exact laidG_ok HX.out.nodes ⟨by omega,by omega⟩
 have hgz:S.sizes g.ns=sz0:=by rw [hg,HSz.out];rfl
 have hszb:=laid_sizes x.nodes
 rw [<- HSz.out] at hszb
 have hgz2:H+S.sizes g.ns<=335544320:=by omega
 have HGok:=Lib.hid hgok
 have HGz:=Lib.hid hgz
 have HGz2:=Lib.hid hgz2
 obtain ⟨B1,hB1⟩:∃ B1,B1=w5.heap.size:=⟨_,rfl⟩
 have hls:=LSt.start hk5 hga5 (HB4.out.trans (ho5.below hzx4 HFx.out)) HFx.out
 rw [<- hB1] at hls
 have HL0:Hid (LSt wx (B0+1) B1 w3.heap.size b p gb F H (heap/2) (S.wP (S.zeros G) (S.zeros T) Fs) g m1 (.slice none 0 0) (.slice none 0 0) 0 0 (([]++S.segP g 16 x.roots 0).map Prod.snd) (([]++S.segP g 16 x.roots 0).map Prod.fst) w5):=Lib.hid hls
 obtain ⟨PP,hPP⟩:∃ PP,PP=S.wP (S.zeros G) (S.zeros T) Fs:=⟨_,rfl⟩
 obtain ⟨half,hhf⟩:∃ h,h=heap/2:=⟨_,rfl⟩
 obtain ⟨lo,hlo⟩:∃ lo,lo=w3.heap.size:=⟨_,rfl⟩
 rw [<- hPP,<- hhf,<- hlo] at HL0
 have HPP:=Lib.hid hPP
 have Hhf:=Lib.hid hhf
 have Hlo:=Lib.hid (show w.heap.size<=lo from by have:=HB0.out;omega)
 have z1:w5.cell? ⟨B0,1,none⟩=some (.slice Ar NR cr):=by rw [Lib.cell_of_heap ((HL0.out.bel.block B0 (by omega)).trans HBox.out)];rfl
 clear hga5 hk5 ho5 hls hg hm1 hgok hgz hgz2 hB1 HK4 HB4 hszb hPP hhf hlo hz2 hz3
 go_wp2_with fail
 go_loopw [12,13,15] (fun v12 v13 v15 wl=>∃ i:Nat,i<=R/\v15=.int .i64 i/\(∃ Aw cw Aa ca,v12=.slice Aw i cw/\v13=.slice Aa i ca/\Hid (LSt wx (B0+1) B1 lo b p gb F H half PP g m1 (.slice Aw i cw) (.slice Aa i ca) i i (([]++S.segP g 16 x.roots i).map Prod.snd) (([]++S.segP g 16 x.roots i).map Prod.fst) wl))) (fun _ _ v15 _=>R-(intOf v15).toNat)
 case atStart=>exact ⟨0,by omega,rfl,_,_,_,_,rfl,rfl,HL0⟩
 case round =>
  obtain ⟨i,hi,rfl,Aw,cw,Aa,ca,rfl,rfl,HL⟩:=hrel
  by_cases hlt:i<R
  ·have hil:i<x.roots.length:=by rw [<- HNR.out];omega
   obtain ⟨bw,ow,hAw,hbw,hcw⟩:=(HS.out.roots.pass (HPass.out wr HL.out.bel)) (by omega)
   obtain ⟨y0,y1,y2,y3,y4,y5⟩:=hcw i x.roots[i] (List.getElem?_eq_getElem hil)
   have hbw1:=hbw.1
   have hgd:x.roots.getD i (0,0)=x.roots[i]:=by rw [List.getD_eq_getElem?_getD,List.getElem?_eq_getElem hil];rfl
   obtain ⟨y,hy⟩:∃ y,y=x.roots[i]:=⟨_,rfl⟩
   rw [<- hy] at y0 y1 y2 y3 y4 y5 hgd
   obtain ⟨u,s⟩:=y
   simp only at y0 y1 y2 y3 y4 y5
   obtain ⟨gwv,hgwv⟩:∃ gwv,gwv=g.word (u,s):=⟨_,rfl⟩
   have hgw:=k_gword (u,s) ⟨y2,y3,y4,y5⟩ HL.out.gat
   rw [<- hgwv] at hgw
   have Hgw:=Lib.hid hgw
   have Hgd:=Lib.hid (show g.word (x.roots.getD i (0,0))=gwv from by rw [hgd,hgwv])
   have d1:decide ((i:Int)<R)=true:=by simp;omega
   have c1:IntKind.i64.wrap (16+(i:Int))=16+(i:Int):=IntWalk.i64_in _ ⟨by omega,by omega⟩
   have c2:IntKind.i64.wrap ((i:Int)+1)=i+1:=IntWalk.i64_in _ ⟨by omega,by omega⟩
   have hK63:i<=1000:=by omega
   subst hAw
   clear hgw hgd hgwv hcw hbw hy
   go_wp2_with fail
   refine Hgw.out.mono ?_
   rintro e w6 ⟨rfl,hb6⟩
   have HL6:=Lib.hid (HL.out.below hb6)
   clear HL hb6 Hgw y0 y1
   go_upto_region 16 with (at_builtin;refine wpList_push rfl (.tmp 57) (.tmp 64) _ rfl B1 30 u32_infoA Tryz.underlying50 rfl (by decide) #[.int .u32 gwv] _ i _ rfl HL6.out.rw rfl rfl rfl (by simp [Value.oneCell']) (by simp only [maxLen];omega) (by omega) HL6.out.top.z ?_;intro v' w7 ho7 hg7 hb7 _;obtain ⟨A8,c8,rfl⟩:=ownsRow_form ho7)
   have HL7:=Lib.hid (HL6.out.pushW ho7 hg7 hb7)
   clear HL6 ho7 hg7 hb7
   go_upto_region 14 with (at_builtin;refine wpList_push rfl (.tmp 66) (.tmp 69) _ rfl B1 3 int_info Tryz.underlying26 rfl (by decide) #[.int .i64 (16+(i:Int))] _ i _ rfl HL7.out.ra rfl rfl rfl (by simp [Value.oneCell']) (by simp only [maxLen];omega) (by omega) HL7.out.top.z ?_;intro v' w9 ho9 hg9 hb9 _;obtain ⟨A9,c9,rfl⟩:=ownsRow_form ho9)
   have HL9:=Lib.hid (HL7.out.pushA ho9 hg9 hb9)
   clear HL7 ho9 hg9 hb9
   go_wp2_with fail
   go_roundw
   case rel =>
    refine ⟨i+1,by omega,rfl,_,_,_,_,rfl,rfl,Lib.hid ?_⟩
    rw [plS,plF,Hgd.out]
    exact HL9.out
   case measure=>simp [intOf];omega
  ·have hie:R=i :=
    by omega
   subst hie
   have d1:decide ((R:Int)<R)=false:=by simp
   clear HL0
   obtain ⟨_,_,_,_,_,_,e0,e1,e2,e3,e4⟩:=HL.out.top.kat.cells
   have hbl:=HL.out.top.kat.blt
   have c1:(R:Int)%4294967296=R:=by omega
   obtain ⟨m2,hm2⟩:∃ m2,m2=m1.putV 8 (R:Int):=⟨_,rfl⟩
   go_wp2_with fail
   refine (k_PutT 8 R HL.out.top (by omega)).mono ?_
   rintro e w6 ⟨rv,rfl,hk6,ho6⟩
   rw [<- hm2] at hk6
   have HL6:=Lib.hid (HL.out.put hk6 ho6)
   have Hm2:=Lib.hid hm2
   clear hk6 ho6 HL e0 e1 e2 e3 e4 hbl c1 hm2
   obtain ⟨P1,hP1⟩:∃ P1,P1=S.segP g 16 x.roots R:=⟨_,rfl⟩
   have HL1:Hid (LSt wx (B0+1) B1 lo b p gb F H half PP g m2 (.slice Aw R cw) (.slice Aa R ca) R R ((P1++S.segP g 1312 x.glob 0).map Prod.snd) ((P1++S.segP g 1312 x.glob 0).map Prod.fst) w6):=Lib.hid (by
    rw [show S.segP g 1312 x.glob 0=[] from rfl,List.append_nil,hP1]
    have h:=HL6.out
    rw [List.nil_append] at h
    exact h)
   have HP1:=Lib.hid hP1
   clear HL6 hP1
   go_wp2_with fail
   go_loopw [12,13,16] (fun v12 v13 v16 wl=>∃ i:Nat,i<=G/\v16=.int .i64 i/\(∃ Aw cw Aa ca,v12=.slice Aw (R+i) cw/\v13=.slice Aa (R+i) ca/\Hid (LSt wx (B0+1) B1 lo b p gb F H half PP g m2 (.slice Aw (R+i) cw) (.slice Aa (R+i) ca) (R+i) (R+i) ((P1++S.segP g 1312 x.glob i).map Prod.snd) ((P1++S.segP g 1312 x.glob i).map Prod.fst) wl))) (fun _ _ v16 _=>G-(intOf v16).toNat)
   case atStart=>exact ⟨0,by omega,rfl,_,_,_,_,rfl,rfl,HL1⟩
   case round =>
    obtain ⟨i,hi,rfl,Aw,cw,Aa,ca,rfl,rfl,HL⟩:=hrel
    by_cases hlt:i<G
    ·have hil:i<x.glob.length:=by rw [<- HNG.out];omega
     obtain ⟨bw,ow,hAw,hbw,hcw⟩:=(HS.out.glob.pass (HPass.out wr HL.out.bel)) (by omega)
     obtain ⟨y0,y1,y2,y3,y4,y5⟩:=hcw i x.glob[i] (List.getElem?_eq_getElem hil)
     have hbw1:=hbw.1
     have hgd:x.glob.getD i (0,0)=x.glob[i]:=by rw [List.getD_eq_getElem?_getD,List.getElem?_eq_getElem hil];rfl
     obtain ⟨y,hy⟩:∃ y,y=x.glob[i]:=⟨_,rfl⟩
     rw [<- hy] at y0 y1 y2 y3 y4 y5 hgd
     obtain ⟨u,s⟩:=y
     simp only at y0 y1 y2 y3 y4 y5
     obtain ⟨gwv,hgwv⟩:∃ gwv,gwv=g.word (u,s):=⟨_,rfl⟩
     have hgw:=k_gword (u,s) ⟨y2,y3,y4,y5⟩ HL.out.gat
     rw [<- hgwv] at hgw
     have Hgw:=Lib.hid hgw
     have Hgd:=Lib.hid (show g.word (x.glob.getD i (0,0))=gwv from by rw [hgd,hgwv])
     have d1:decide ((i:Int)<G)=true:=by simp;omega
     have c1:IntKind.i64.wrap (1312+(i:Int))=1312+(i:Int):=IntWalk.i64_in _ ⟨by omega,by omega⟩
     have c2:IntKind.i64.wrap ((i:Int)+1)=i+1:=IntWalk.i64_in _ ⟨by omega,by omega⟩
     have z2:wr.cell? ⟨B0,2,none⟩=some (.slice Ag NG cg):=by rw [Lib.cell_of_heap ((HL.out.bel.block B0 (by omega)).trans HBox.out)];rfl
     have hK63:(R+i)<=1000:=by omega
     subst hAw
     clear hgw hgd hgwv hcw hbw hy
     go_wp2_with fail
     refine Hgw.out.mono ?_
     rintro e w6 ⟨rfl,hb6⟩
     have HL6:=Lib.hid (HL.out.below hb6)
     clear HL hb6 Hgw y0 y1 z2
     go_upto_region 22 with (at_builtin;refine wpList_push rfl (.tmp 85) (.tmp 93) _ rfl B1 30 u32_infoA Tryz.underlying50 rfl (by decide) #[.int .u32 gwv] _ (R+i) _ rfl HL6.out.rw rfl rfl rfl (by simp [Value.oneCell']) (by simp only [maxLen];omega) (by omega) HL6.out.top.z ?_;intro v' w7 ho7 hg7 hb7 _;obtain ⟨A8,c8,rfl⟩:=ownsRow_form ho7)
     have HL7:=Lib.hid (HL6.out.pushW ho7 hg7 hb7)
     clear HL6 ho7 hg7 hb7
     go_upto_region 20 with (at_builtin;refine wpList_push rfl (.tmp 95) (.tmp 98) _ rfl B1 3 int_info Tryz.underlying26 rfl (by decide) #[.int .i64 (1312+(i:Int))] _ (R+i) _ rfl HL7.out.ra rfl rfl rfl (by simp [Value.oneCell']) (by simp only [maxLen];omega) (by omega) HL7.out.top.z ?_;intro v' w9 ho9 hg9 hb9 _;obtain ⟨A9,c9,rfl⟩:=ownsRow_form ho9)
     have HL9:=Lib.hid (HL7.out.pushA ho9 hg9 hb9)
     clear HL7 ho9 hg9 hb9
     go_wp2_with fail
     go_roundw
     case rel =>
      refine ⟨i+1,by omega,rfl,_,_,_,_,rfl,rfl,Lib.hid ?_⟩
      rw [plS,plF,Hgd.out]
      exact HL9.out
     case measure=>simp [intOf];omega
    ·have hie:G=i:=by omega
     subst hie
     have d1:decide ((G:Int)<G)=false:=by simp
     clear HL1
     obtain ⟨P2,hP2⟩:∃ P2,P2=P1++S.segP g 1312 x.glob G:=⟨_,rfl⟩
     rw [<- hP2] at HL
     obtain ⟨sa,hsa⟩:∃ sa,sa=(1312:Int)+G:=⟨_,rfl⟩
     have HL2:Hid (LSt wx (B0+1) B1 lo b p gb F H half PP g m2 (.slice Aw (R+G) cw) (.slice Aa (R+G) ca) (R+G) (R+G) ((P2++S.segP g sa x.stat 0).map Prod.snd) ((P2++S.segP g sa x.stat 0).map Prod.fst) wr):=Lib.hid (by
      rw [show S.segP g sa x.stat 0=[] from rfl,List.append_nil]
      exact HL.out)
     have hfind:S.findP PP S.kStatic=some sa:=by
      obtain ⟨f1,_,_⟩:=w_label (HWr.out.ok true) has_static
      have f2:=(labs_head (HWr.out.ok true)).1
      rw [zeros_len] at f2
      rw [f2,<- hsa] at f1
      rw [HPP.out]
      exact f1
     have Hat:=Lib.hid (show ∀ (y:World) (m:S.Mach),KAt y lo b p F H half PP m->Calls Tryz.prog 40 #[.pointer (some ⟨b,0,none⟩),.string ⟨#[115,116,97,116,105,99]⟩] y fun e w'=>e=.returned (.int .i64 sa)/\Below y.heap.size y w' from fun y m hy=>by
      have h:=k_At S.kStatic hy
      rw [hfind] at h
      exact h)
     have Hsa:=Lib.hid hsa
     have HP2:=Lib.hid hP2
     have hsab:0<=sa/\sa<=2000:=by omega
     clear HL hP2 hsa hfind
     go_wp2_with fail
     go_loopw [12,13,17] (fun v12 v13 v17 wl=>∃ i:Nat,i<=T/\v17=.int .i64 i/\(∃ Aw cw Aa ca,v12=.slice Aw ((R+G)+i) cw/\v13=.slice Aa ((R+G)+i) ca/\Hid (LSt wx (B0+1) B1 lo b p gb F H half PP g m2 (.slice Aw ((R+G)+i) cw) (.slice Aa ((R+G)+i) ca) ((R+G)+i) ((R+G)+i) ((P2++S.segP g sa x.stat i).map Prod.snd) ((P2++S.segP g sa x.stat i).map Prod.fst) wl))) (fun _ _ v17 _=>T-(intOf v17).toNat)
     case atStart=>exact ⟨0,by omega,rfl,_,_,_,_,rfl,rfl,HL2⟩
     case round =>
      obtain ⟨i,hi,rfl,Aw,cw,Aa,ca,rfl,rfl,HL⟩:=hrel
      by_cases hlt:i<T
      ·have hil:i<x.stat.length:=by rw [<- HNS.out];omega
       obtain ⟨bw,ow,hAw,hbw,hcw⟩:=(HS.out.stat.pass (HPass.out wr HL.out.bel)) (by omega)
       obtain ⟨y0,y1,y2,y3,y4,y5⟩:=hcw i x.stat[i] (List.getElem?_eq_getElem hil)
       have hbw1:=hbw.1
       have hgd:x.stat.getD i (0,0)=x.stat[i]:=by rw [List.getD_eq_getElem?_getD,List.getElem?_eq_getElem hil];rfl
       obtain ⟨y,hy⟩:∃ y,y=x.stat[i]:=⟨_,rfl⟩
       rw [<- hy] at y0 y1 y2 y3 y4 y5 hgd
       obtain ⟨u,s⟩:=y
       simp only at y0 y1 y2 y3 y4 y5
       obtain ⟨gwv,hgwv⟩:∃ gwv,gwv=g.word (u,s):=⟨_,rfl⟩
       have hgw:=k_gword (u,s) ⟨y2,y3,y4,y5⟩ HL.out.gat
       rw [<- hgwv] at hgw
       have Hgw:=Lib.hid hgw
       have Hgd:=Lib.hid (show g.word (x.stat.getD i (0,0))=gwv from by rw [hgd,hgwv])
       have d1:decide ((i:Int)<T)=true:=by simp;omega
       have c1:IntKind.i64.wrap (sa+(i:Int))=sa+(i:Int):=IntWalk.i64_in _ ⟨by omega,by omega⟩
       have c2:IntKind.i64.wrap ((i:Int)+1)=i+1:=IntWalk.i64_in _ ⟨by omega,by omega⟩
       have z3:wr.cell? ⟨B0,3,none⟩=some (.slice As NS cs):=by rw [Lib.cell_of_heap ((HL.out.bel.block B0 (by omega)).trans HBox.out)];rfl
       have hK63:((R+G)+i)<=1000:=by omega
       subst hAw
       clear hgw hgd hgwv hcw hbw hy
       go_wp2_with fail
       refine Hgw.out.mono ?_
       rintro e w6 ⟨rfl,hb6⟩
       have HL6:=Lib.hid (HL.out.below hb6)
       clear HL hb6 Hgw y0 y1 z3
       go_upto_region 27 with (at_builtin;refine wpList_push rfl (.tmp 106) (.tmp 114) _ rfl B1 30 u32_infoA Tryz.underlying50 rfl (by decide) #[.int .u32 gwv] _ ((R+G)+i) _ rfl HL6.out.rw rfl rfl rfl (by simp [Value.oneCell']) (by simp only [maxLen];omega) (by omega) HL6.out.top.z ?_;intro v' w7 ho7 hg7 hb7 _;obtain ⟨A8,c8,rfl⟩:=ownsRow_form ho7)
       have HL7:=Lib.hid (HL6.out.pushW ho7 hg7 hb7)
       clear HL6 ho7 hg7 hb7
       go_wp2_with fail
       refine (Hat.out _ _ HL7.out.top.kat).mono ?_
       rintro e w8 ⟨rfl,hb8⟩
       have HL8:=Lib.hid (HL7.out.below hb8)
       clear HL7 hb8
       go_upto_region 25 with (at_builtin;refine wpList_push rfl (.tmp 116) (.tmp 121) _ rfl B1 3 int_info Tryz.underlying26 rfl (by decide) #[.int .i64 (sa+(i:Int))] _ ((R+G)+i) _ rfl HL8.out.ra rfl rfl rfl (by simp [Value.oneCell']) (by simp only [maxLen];omega) (by omega) HL8.out.top.z ?_;intro v' w9 ho9 hg9 hb9 _;obtain ⟨A9,c9,rfl⟩:=ownsRow_form ho9)
       have HL9:=Lib.hid (HL8.out.pushA ho9 hg9 hb9)
       clear HL8 ho9 hg9 hb9
       go_wp2_with fail
       go_roundw
       case rel =>
        refine ⟨i+1,by omega,rfl,_,_,_,_,rfl,rfl,Lib.hid ?_⟩
        rw [plS,plF,Hgd.out]
        exact HL9.out
       case measure=>simp [intOf];omega
      ·have hie:T=i:=by omega
       subst hie
       have d1:decide ((T:Int)<T)=false:=by simp
       clear HL2
       obtain ⟨P3,hP3⟩:∃ P3,P3=P2++S.segP g sa x.stat T:=⟨_,rfl⟩
       rw [<- hP3] at HL
       have z6:wr.cell? ⟨B0,6,none⟩=some (.int .u32 sy):=by rw [Lib.cell_of_heap ((HL.out.bel.block B0 (by omega)).trans HBox.out)];rfl
       have z7:wr.cell? ⟨B0,7,none⟩=some (.int .u16 sz):=by rw [Lib.cell_of_heap ((HL.out.bel.block B0 (by omega)).trans HBox.out)];rfl
       have hsw:=HX.out.sym
       rw [<- HSym.out] at hsw
       obtain ⟨gwv,hgwv⟩:∃ gwv,gwv=g.word (sy,sz):=⟨_,rfl⟩
       have hgw:=k_gword (sy,sz) hsw HL.out.gat
       rw [<- hgwv] at hgw
       have Hgw:=Lib.hid hgw
       have Hgwv:=Lib.hid hgwv
       have HP3:=Lib.hid hP3
       have hz:B0<wr.heap.size:=by have:=HL.out.bel.size;omega
       clear hgw hgwv hP3 hsw
       go_wp2_with fail
       refine Hgw.out.mono ?_
       rintro e w6 ⟨rfl,hb6⟩
       have HL6:=Lib.hid (HL.out.below hb6)
       clear HL hb6 Hgw z6 z7 hz
       go_upto_region 29 with (at_builtin;refine wpList_push rfl (.tmp 123) (.tmp 128) _ rfl B1 30 u32_infoA Tryz.underlying50 rfl (by decide) #[.int .u32 gwv] _ (R+G+T) _ rfl HL6.out.rw rfl rfl rfl (by simp [Value.oneCell']) (by simp only [maxLen];omega) (by omega) HL6.out.top.z ?_;intro v' w7 ho7 hg7 hb7 _;obtain ⟨A8,c8,rfl⟩:=ownsRow_form ho7)
       have HL7:=Lib.hid (HL6.out.pushW ho7 hg7 hb7)
       clear HL6 ho7 hg7 hb7
       go_upto_region 30 with (at_builtin;refine wpList_push rfl (.tmp 130) (.tmp 131) _ rfl B1 3 int_info Tryz.underlying26 rfl (by decide) #[.int .i64 5] _ (R+G+T) _ rfl HL7.out.ra rfl rfl rfl (by simp [Value.oneCell']) (by simp only [maxLen];omega) (by omega) HL7.out.top.z ?_;intro v' w9 ho9 hg9 hb9 _;obtain ⟨A9,c9,rfl⟩:=ownsRow_form ho9)
       have HL9:=Lib.hid (HL7.out.pushA ho9 hg9 hb9)
       clear HL7 ho9 hg9 hb9
       obtain ⟨P4,hP4⟩:∃ P4,P4=P3++[((5:Int),gwv)]:=⟨_,rfl⟩
       have HL10:Hid (LSt wx (B0+1) B1 lo b p gb F H half PP g m2 (.slice A8 (R+G+T+1) c8) (.slice A9 (R+G+T+1) c9) (R+G+T+1) (R+G+T+1) (P4.map Prod.snd) (P4.map Prod.fst) w9):=Lib.hid (by
        rw [hP4,List.map_append,List.map_append]
        exact HL9.out)
       have HP4:=Lib.hid hP4
       clear HL9 hP4
       obtain ⟨n0,hn0⟩:∃ n0,n0=R+G+T+1:=⟨_,rfl⟩
       have hn0b:n0<=30:=by omega
       rw [<- hn0] at HL10 ⊢
       have Hn0:=Lib.hid hn0
       clear hn0
       go_upto_region 31 with fail
       have hbq:=(Below.refl w9.heap.size w9).alloc (Nat.le_refl _) (.cells #[.int .u32 0,.int .u32 0] 126)
       have hrq:=heap_alloc_new w9 (.cells #[.int .u32 0,.int .u32 0] 126)
       generalize w9.alloc (.cells #[.int .u32 0,.int .u32 0] 126)=w10 at *
       obtain ⟨qb,hqb⟩:∃ qb,qb=w9.heap.size:=⟨_,rfl⟩
       rw [<- hqb] at hrq ⊢
       have hqB:B1<=qb:=by rw [hqb];exact HL10.out.top.z
       have HQ0:=Lib.hid hrq
       have HL11:=Lib.hid (HL10.out.below hbq)
       clear hbq hrq HL10 hqb
       go_wp2_with fail
       go_loopw [12,13,19] (fun v12 v13 v19 wl=>∃ i:Nat,i<=Q/\v19=.int .i64 i/\(∃ n Aw cw Aa ca,v12=.slice Aw n cw/\v13=.slice Aa n ca/\n<=n0+i/\Hid (LSt wx (B0+1) B1 lo b p gb F H half PP g m2 (.slice Aw n cw) (.slice Aa n ca) n n ((P4++(S.slotSt g x.slots x.places i).2.2).map Prod.snd) ((P4++(S.slotSt g x.slots x.places i).2.2).map Prod.fst) wl))/\Hid (wl.heap[qb]?=some (.cells #[.int .u32 (S.slotSt g x.slots x.places i).1,.int .u32 (S.slotSt g x.slots x.places i).2.1] 126 (0,0)))) (fun _ _ v19 _=>Q-(intOf v19).toNat)
       case atStart =>
        refine ⟨0,by omega,rfl,⟨_,_,_,_,_,rfl,rfl,by omega,?_⟩,HQ0⟩
        rw [show (S.slotSt g x.slots x.places 0).2.2=[] from rfl,List.append_nil]
        exact HL11
       case round =>
        clear HL11 HQ0
        obtain ⟨i,hi,rfl,⟨n,Aw,cw,Aa,ca,rfl,rfl,hn,HL⟩,HQb⟩:=hrel
        have hbox:=(HL.out.bel.block B0 (by omega)).trans HBox.out
        have hzb:B0<wr.heap.size:=by have:=HL.out.bel.size;omega
        have z4:wr.cell? ⟨B0,4,none⟩=some (.slice Aq NQ cq):=by rw [Lib.cell_of_heap hbox];rfl
        have z5:wr.cell? ⟨B0,5,none⟩=some (.slice Ap NP cp):=by rw [Lib.cell_of_heap hbox];rfl
        clear hbox
        by_cases hlt:i<Q
        ·have hipl:i<x.places.length:=by rw [<- HNP.out];omega
         have hiq:i<x.slots.length:=by rw [<- HNQ.out];omega
         obtain ⟨bp,op,hAp,hbp,hcp⟩:=(HS.out.places.pass (HPass.out wr HL.out.bel)) (by rw [List.length_map];omega)
         have y6:=hcp i (.int .u8 x.places[i]) (by rw [List.getElem?_map,List.getElem?_eq_getElem hipl];rfl)
         have hpb:=HX.out.places _ (List.getElem_mem hipl)
         have hpd:x.places.getD i 0=x.places[i]:=by rw [List.getD_eq_getElem?_getD,List.getElem?_eq_getElem hipl];rfl
         obtain ⟨pv,hpv⟩:∃ pv,pv=x.places[i]:=⟨_,rfl⟩
         rw [<- hpv] at y6 hpb hpd
         obtain ⟨s,hs⟩:∃ s:Nat,s=(pv%64).toNat:=⟨_,rfl⟩
         have hs64:s<64:=by omega
         obtain ⟨qn,hqn⟩:∃ qn:Nat,qn=s/32:=⟨_,rfl⟩
         obtain ⟨r,hr⟩:∃ r:Nat,r=s%32:=⟨_,rfl⟩
         have r1:IntKind.u8.wrap (pv%64)=(s:Int):=by rw [show pv%64=(s:Int) from by omega];exact IntWalk.u8_in _ ⟨by omega,by omega⟩
         have r2:pv.tmod 64=(s:Int):=by rw [Int.tmod_eq_emod_of_nonneg hpb.1];omega
         have r4:pv%64=(s:Int):=by omega
         have r6:(s:Int)%256=s:=by omega
         have r8:(s:Int)%18446744073709551616=s:=by omega
         have ru1:IntKind.u8.wrap (s:Int)=s:=IntWalk.u8_in _ ⟨by omega,by omega⟩
         have r9:(s:Int).tdiv 32=(qn:Int):=by rw [Int.tdiv_eq_ediv_of_nonneg (by omega)];omega
         have r10:(s:Int)/32=(qn:Int):=by omega
         have r11:(s:Int).tmod 32=(r:Int):=by rw [Int.tmod_eq_emod_of_nonneg (by omega)];omega
         have r12:(s:Int)%32=(r:Int):=by omega
         have r13:IntKind.i64.wrap (qn:Int)=qn:=IntWalk.i64_in _ ⟨by omega,by omega⟩
         have r14:IntKind.i64.wrap (r:Int)=r:=IntWalk.i64_in _ ⟨by omega,by omega⟩
         have r15:(r:Int)%18446744073709551616=r:=by omega
         have hok:=slotSt_ok HGok.out HGz2.out (pl:=x.places) HX.out.slots i (by omega)
         obtain ⟨b0,hb0⟩:∃ b0,b0=(S.slotSt g x.slots x.places i).1:=⟨_,rfl⟩
         obtain ⟨b1,hb1⟩:∃ b1,b1=(S.slotSt g x.slots x.places i).2.1:=⟨_,rfl⟩
         have hbb0:=hok.b0
         have hbb1:=hok.b1
         rw [<- hb0] at hbb0 HQb
         rw [<- hb1] at hbb1 HQb
         obtain ⟨bq,hbq⟩:∃ bq:Int,bq=if qn=0 then b0 else b1:=⟨_,rfl⟩
         have hbqb:0<=bq/\bq<4294967296:=by rw [hbq];split <;> assumption
         have hqr:qn<2/\r<32:=by omega
         have zq:wr.cell? ⟨qb,qn,none⟩=some (.int .u32 bq):=by
          rw [Lib.cell_of_heap HQb.out,hbq]
          rcases (show qn=0\/qn=1 from by omega) with h | h
          ·rw [h];rfl
          ·rw [h];rfl
         have hqz:qb<wr.heap.size:=(Array.getElem?_eq_some_iff.1 HQb.out).1
         have d1:decide ((i:Int)<NQ)=true:=by simp;omega
         have d2:decide ((i:Int)<NP)=true:=by simp;omega
         have d3:decide ((i:Int)<6)=true:=by simp;omega
         have hbp1:=hbp.1
         subst hAp
         have Hpd:=Lib.hid hpd
         have Hs:=Lib.hid (show s=(pv%64).toNat from hs)
         have Hqn:=Lib.hid (show s=32*qn+r from by omega)
         have Hb0:=Lib.hid hb0
         have Hb1:=Lib.hid hb1
         have Hbq:=Lib.hid hbq
         clear hpd hs hqn hr hb0 hb1 hbq hcp hbp hpv hok
         go_upto_region 35 with fail
         have tst:=bit_test hbqb r
         have orr:=bit_or hbqb hqr.2
         obtain ⟨tb,htb⟩:∃ tb,tb=S.bit bq r:=⟨_,rfl⟩
         rw [<- htb] at tst
         have Htb:=Lib.hid htb
         have Hs2:=Lib.hid (show x.places.getD i 0%64=(s:Int) from by rw [Hpd.out];exact r4)
         have fq:wr.frozen? ⟨qb,qn,none⟩=false:=Lib.frozen_of_heap HQb.out qn
         have c2:IntKind.i64.wrap ((i:Int)+1)=i+1:=IntWalk.i64_in _ ⟨by omega,by omega⟩
         clear htb
         cases tb
         rotate_left
         ·go_wp2_with fail
          go_roundw
          case rel =>
           have hst:=slot_true (g:=g) (sl:=x.slots) Hs2.out hs64 Hqn.out hqr.2 (by rw [<- Hb0.out,<- Hb1.out,<- Hbq.out];exact Htb.out.symm)
           refine ⟨i+1,by omega,rfl,⟨n,_,_,_,_,rfl,rfl,by omega,?_⟩,?_⟩
           ·rw [hst]
            exact HL
           ·rw [hst,<- Hb0.out,<- Hb1.out]
            exact HQb
          case measure=>simp [intOf];omega
         ·obtain ⟨hsA,hsB,hsC⟩:=slot_false (g:=g) (sl:=x.slots) Hs2.out hs64 Hqn.out hqr.2 Hb0.out Hb1.out (by rw [<- Hbq.out];exact Htb.out.symm)
          obtain ⟨b0',hb0'⟩:∃ b0',b0'=(if qn=0 then S.setB b0 r else b0):=⟨_,rfl⟩
          obtain ⟨b1',hb1'⟩:∃ b1',b1'=(if qn=0 then b1 else S.setB b1 r):=⟨_,rfl⟩
          rw [<- hb0'] at hsA
          rw [<- hb1'] at hsB
          have HQ2:Hid ((wr.setCell ⟨qb,qn,none⟩ (.int .u32 (S.setB bq r))).heap[qb]?=some (.cells #[.int .u32 b0',.int .u32 b1'] 126 (0,0))):=Lib.hid (by
           have h:=heap_set_at (j:=qn) (u:=.int .u32 (S.setB bq r)) HQb.out
           rw [h,hb0',hb1',Hbq.out]
           rcases (show qn=0\/qn=1 from by omega) with h | h
           ·rw [h];rfl
           ·rw [h];rfl)
          have HL2:=Lib.hid (HL.out.set (j:=qn) (u:=.int .u32 (S.setB bq r)) hqB HQb.out (by decide))
          have HsA:=Lib.hid hsA
          have HsB:=Lib.hid hsB
          have HsC:=Lib.hid hsC
          clear hsA hsB hsC hb0' hb1' y6
          go_upto_region 37 with fail
          generalize wr.setCell ⟨qb,qn,none⟩ (.int .u32 (S.setB bq r))=w6 at *
          clear zq fq tst orr hqz HL HQb z4 z5
          obtain ⟨bw,ow,hAw,hbw,hcw⟩:=(HS.out.slots.pass (HPass.out w6 HL2.out.bel)) (by omega)
          obtain ⟨y0,y1,y2,y3,y4,y5⟩:=hcw i x.slots[i] (List.getElem?_eq_getElem hiq)
          have hbw1:=hbw.1
          have hgd:x.slots.getD i (0,0)=x.slots[i]:=by rw [List.getD_eq_getElem?_getD,List.getElem?_eq_getElem hiq];rfl
          obtain ⟨yy,hy⟩:∃ yy,yy=x.slots[i]:=⟨_,rfl⟩
          rw [<- hy] at y0 y1 y2 y3 y4 y5 hgd
          obtain ⟨u,s5⟩:=yy
          simp only at y0 y1 y2 y3 y4 y5
          obtain ⟨gw5,hgw5⟩:∃ gw5,gw5=g.word (u,s5):=⟨_,rfl⟩
          have hgw:=k_gword (u,s5) ⟨y2,y3,y4,y5⟩ HL2.out.gat
          rw [<- hgw5] at hgw
          have Hgw:=Lib.hid hgw
          have Hgd:=Lib.hid (show g.word (x.slots.getD i (0,0))=gw5 from by rw [hgd,hgw5])
          have z4:w6.cell? ⟨B0,4,none⟩=some (.slice Aq NQ cq):=by rw [Lib.cell_of_heap ((HL2.out.bel.block B0 (by omega)).trans HBox.out)];rfl
          have hzb6:B0<w6.heap.size:=by have:=HL2.out.bel.size;omega
          have r20:IntKind.i64.wrap (32+(s:Int))=32+s:=IntWalk.i64_in _ ⟨by omega,by omega⟩
          subst hAw
          clear hgw hgd hgw5 hcw hbw hy
          go_wp2_with fail
          refine Hgw.out.mono ?_
          rintro e w7 ⟨rfl,hb7⟩
          have HL7:=Lib.hid (HL2.out.below hb7)
          have HQ7:=Lib.hid ((hb7.block qb (Array.getElem?_eq_some_iff.1 HQ2.out).1).trans HQ2.out)
          clear HL2 hb7 Hgw y0 y1 z4 HQ2
          go_upto_region 38 with (at_builtin;refine wpList_push rfl (.tmp 180) (.tmp 188) _ rfl B1 30 u32_infoA Tryz.underlying50 rfl (by decide) #[.int .u32 gw5] _ n _ rfl HL7.out.rw rfl rfl rfl (by simp [Value.oneCell']) (by simp only [maxLen];omega) (by omega) HL7.out.top.z ?_;intro v' w8 ho8 hg8 hb8 _;obtain ⟨A8,c8,rfl⟩:=ownsRow_form ho8)
          have HQ8:=Lib.hid (HL7.out.q_push HQ7.out (by decide) (.inl hg8))
          have HL8:=Lib.hid (HL7.out.pushW ho8 hg8 hb8)
          clear HL7 ho8 hg8 hb8 HQ7
          go_upto_region 33 with (at_builtin;refine wpList_push rfl (.tmp 190) (.tmp 193) _ rfl B1 3 int_info Tryz.underlying26 rfl (by decide) #[.int .i64 (32+(s:Int))] _ n _ rfl HL8.out.ra rfl rfl rfl (by simp [Value.oneCell']) (by simp only [maxLen];omega) (by omega) HL8.out.top.z ?_;intro v' w9 ho9 hg9 hb9 _;obtain ⟨A9,c9,rfl⟩:=ownsRow_form ho9)
          have HQ9:=Lib.hid (HL8.out.q_push HQ8.out (by decide) (.inr hg9))
          have HL9:=Lib.hid (HL8.out.pushA ho9 hg9 hb9)
          clear HL8 ho9 hg9 hb9 HQ8
          go_wp2_with fail
          go_roundw
          case rel =>
           refine ⟨i+1,by omega,rfl,⟨n+1,_,_,_,_,rfl,rfl,by omega,Lib.hid ?_⟩,Lib.hid ?_⟩
           ·rw [HsC.out,Hgd.out,<- List.append_assoc,List.map_append,List.map_append (f:=Prod.fst)]
            exact HL9.out
           ·rw [HsA.out,HsB.out]
            exact HQ9.out
          case measure=>simp [intOf];omega
        ·have hie:=Lib.hid (show i=Q from by omega)
         have hout:(NQ<=i)\/(i<NQ/\NP<=i)\/(i<NQ/\i<NP/\6<=i):=by
          have:=HMQ.out
          omega
         have Hout:=Lib.hid hout
         clear hlt hout
         go_upto_region 32 with fail
         go_cut [148] from 133 to 147 (fun v148 wc=>v148=.bool false/\wr=wc)
         case first =>
          rcases Hout.out with h1 | ⟨h1,h2⟩ | ⟨h1,h2,h3⟩
          ·have d1:decide ((i:Int)<NQ)=false:=by simp;omega
           have d4:decide (i<NQ)=false:=by simp;omega
           go_wp2_with fail
           go_meet
           exact ⟨rfl,rfl⟩
          ·have d1:decide ((i:Int)<NQ)=true:=by simp;omega
           have d2:decide ((i:Int)<NP)=false:=by simp;omega
           have d4:decide (i<NQ)=true:=by simp;omega
           have d5:decide (i<NP)=false:=by simp;omega
           go_wp2_with fail
           go_meet
           exact ⟨rfl,rfl⟩
          ·have d1:decide ((i:Int)<NQ)=true:=by simp;omega
           have d2:decide ((i:Int)<NP)=true:=by simp;omega
           have d3:decide ((i:Int)<6)=false:=by simp;omega
           have d4:decide (i<NQ)=true:=by simp;omega
           have d5:decide (i<NP)=true:=by simp;omega
           have d6:decide (i<6)=false:=by simp;omega
           go_wp2_with fail
           go_meet
           exact ⟨by first | rfl | (simp;omega),rfl⟩
         case rest =>
         obtain ⟨rfl,rfl⟩:=hcut
         clear z4 z5 Hout
         obtain ⟨b0,hb0⟩:∃ b0,b0=(x.q g).1:=⟨_,rfl⟩
         obtain ⟨b1,hb1⟩:∃ b1,b1=(x.q g).2.1:=⟨_,rfl⟩
         obtain ⟨pl,hpl⟩:∃ pl,pl=x.pl g:=⟨_,rfl⟩
         have hq:S.slotSt g x.slots x.places i=x.q g:=by rw [hie.out,HQ.out];rfl
         have hplE:P4++(x.q g).2.2=pl:=by
          rw [hpl]
          unfold S.Stt.pl
          rw [HP4.out,HP3.out,HP2.out,HP1.out,<- HR.out,<- HG.out,<- HT.out,<- HSym.out,<- Hgwv.out,Hsa.out]
          simp only [List.append_assoc,List.cons_append,List.nil_append]
         rw [hq,hplE] at HL
         rw [hq,<- hb0,<- hb1] at HQb
         have hpll:n=pl.length:=by have h:=HL.out.rw.1;simp at h;exact h.symm
         have hfit:=stt_fit HGok.out HGz2.out HX.out
         have hfst:=fun y=>(stt_fst HGok.out HGz2.out HX.out y).1
         rw [<- hpl] at hfit hfst
         have hsl:=stt_q HGok.out HGz2.out HX.out
         have hbb0:=hsl.b0
         have hbb1:=hsl.b1
         rw [<- hb0] at hbb0
         rw [<- hb1] at hbb1
         have hrng:∀ q∈pl,0<=q.1/\q.1<=100000:=fun q hq=>by
          have hst:=stt_le x
          rcases hfst q.1 (List.mem_map.2 ⟨q,hq,rfl⟩) with h | h | h | h
          ·omega
          ·have:=stt_le x
           omega
          ·omega
          ·have:=slX_rng h
           omega
         have Hb0:=Lib.hid hb0
         have Hb1:=Lib.hid hb1
         have Hpl:=Lib.hid hpl
         have Hpll:=Lib.hid hpll
         have Hfit:=Lib.hid hfit
         have Hrng:=Lib.hid hrng
         have HL5:Hid (LSt wx (B0+1) B1 lo b p gb F H half PP g (S.puts m2 (pl.take 0)) (.slice Aw n cw) (.slice Aa n ca) n n (pl.map Prod.snd) (pl.map Prod.fst) wr):=HL
         clear hq hplE hpl hpll hfit hfst hsl hrng hb0 hb1 HL
         go_wp2_with fail
         go_loopw [21] (fun v21 wl=>∃ k:Nat,k<=n/\v21=.int .i64 k/\Hid (LSt wx (B0+1) B1 lo b p gb F H half PP g (S.puts m2 (pl.take k)) (.slice Aw n cw) (.slice Aa n ca) n n (pl.map Prod.snd) (pl.map Prod.fst) wl)/\Hid (wl.heap[qb]?=some (.cells #[.int .u32 b0,.int .u32 b1] 126 (0,0)))) (fun v21 _=>n-(intOf v21).toNat)
         case atStart=>exact ⟨0,by omega,rfl,HL5,HQb⟩
         case round =>
          clear HL5 HQb
          obtain ⟨k,hk,rfl,HL,HQb⟩:=hrel
          obtain ⟨_,_,_,_,_,_,e0,e1,e2,e3,e4⟩:=HL.out.top.kat.cells
          have hbl:=HL.out.top.kat.blt
          by_cases hlt:k<n
          ·have hkl:k<pl.length:=by rw [<- Hpll.out];exact hlt
           obtain ⟨gw,hgw,gw1,gw2,gw3,gw4,_⟩:=ownsRow_at HL.out.rw (by omega)
           obtain ⟨ga,hga,ga1,ga2,ga3,ga4,_⟩:=ownsRow_at HL.out.ra (by omega)
           have hm:=List.getElem_mem hkl
           have hf:=Hfit.out _ hm
           have hr:=Hrng.out _ hm
           obtain ⟨y,hy⟩:∃ y,y=pl[k]:=⟨_,rfl⟩
           have y0:wr.cell? ⟨gw,k,none⟩=some (.int .u32 y.2):=by
            have h:=gw4 k (by omega)
            rw [List.getElem?_map,List.getElem?_map,List.getElem?_eq_getElem hkl,<- hy] at h
            exact h
           have y1:wr.cell? ⟨ga,k,none⟩=some (.int .i64 y.1):=by
            have h:=ga4 k (by omega)
            rw [List.getElem?_map,List.getElem?_map,List.getElem?_eq_getElem hkl,<- hy] at h
            exact h
           have Htk:=Lib.hid (show S.puts m2 (pl.take (k+1))=(S.puts m2 (pl.take k)).putV y.1 y.2 from by
            rw [List.take_add_one,List.getElem?_eq_getElem hkl,puts_append,hy]
            rfl)
           rw [<- hy] at hf hr
           have hfb:0<=y.2/\y.2<=4294967295:=⟨hf.1,by have:=hf.2.1;omega⟩
           obtain ⟨pa,pv⟩:=y
           simp only at y0 y1 Htk hfb hr
           have d1:decide ((k:Int)<n)=true:=by simp;omega
           have c2:IntKind.i64.wrap ((k:Int)+1)=k+1:=IntWalk.i64_in _ ⟨by omega,by omega⟩
           subst hgw hga
           clear gw4 ga4 hm hf hy
           go_upto_region 42 with fail
           refine wp_region_ext_tail 12 (by kernel_rfl) (by kernel_rfl) ?_
           have hE:=ext_cells wr
           simp only [List.take_succ_cons,List.take_zero,List.drop_succ_cons,List.drop_zero]
           repeat (first | go_big_quiet_step (fail))
           refine wpQuiet_nil ?_
           rintro w6 ⟨⟨_,hb6⟩,rfl⟩
           have HL6:=Lib.hid (HL.out.below hb6)
           have HQ6:=Lib.hid ((hb6.block qb (Array.getElem?_eq_some_iff.1 HQb.out).1).trans HQb.out)
           clear hE hb6 HL HQb y0 y1 e0 e1 e2 e3 e4 hbl
           go_wp2_with fail
           refine (k_PutT pa pv HL6.out.top hfb).mono ?_
           rintro e w7 ⟨rv,rfl,hk7,ho7⟩
           have HQ7:=Lib.hid (HL6.out.q_put hqB HQ6.out ho7)
           have HL7:=Lib.hid (HL6.out.put hk7 ho7)
           clear hk7 ho7 HL6 HQ6
           go_wp2_with fail
           go_roundw
           case rel=>exact ⟨k+1,by omega,rfl,Lib.hid (by rw [Htk.out];exact HL7.out),HQ7⟩
           case measure=>simp [intOf];omega
          ·have hke:k=n:=by omega
           have htk:pl.take k=pl:=by rw [hke,Hpll.out,List.take_length]
           rw [htk] at HL
           have d1:decide ((k:Int)<n)=false:=by simp;omega
           clear htk hke
           obtain ⟨mp,hmp⟩:∃ mp,mp=S.puts m2 pl:=⟨_,rfl⟩
           rw [<- hmp] at HL
           have Hmp:=Lib.hid hmp
           clear hmp
           go_wp2_with fail
           refine (k_PutT 9 2 HL.out.top (by decide)).mono ?_
           rintro e w6 ⟨rv,rfl,hk6,ho6⟩
           have HQ6:=Lib.hid (HL.out.q_put hqB HQb.out ho6)
           have HL6:=Lib.hid (HL.out.put hk6 ho6)
           clear hk6 ho6 HL HQb e0 e1 e2 e3 e4 hbl d1
           obtain ⟨_,_,_,_,_,_,e0,e1,e2,e3,e4⟩:=HL6.out.top.kat.cells
           have hbl:=HL6.out.top.kat.blt
           have zq:w6.cell? ⟨qb,0,none⟩=some (.int .u32 b0):=by rw [Lib.cell_of_heap HQ6.out];rfl
           have hqz:=(Array.getElem?_eq_some_iff.1 HQ6.out).1
           go_upto_region 44 with fail
           refine wp_region_ext_tail 6 (by kernel_rfl) (by kernel_rfl) ?_
           have hE:=ext_cells w6
           simp only [List.take_succ_cons,List.take_zero,List.drop_succ_cons,List.drop_zero]
           repeat (first | go_big_quiet_step (fail))
           refine wpQuiet_nil ?_
           rintro w7 ⟨⟨_,hb7⟩,rfl⟩
           have HL7:=Lib.hid (HL6.out.below hb7)
           have HQ7:=Lib.hid ((hb7.block qb hqz).trans HQ6.out)
           clear hE hb7 HL6 HQ6 zq hqz e0 e1 e2 e3 e4 hbl
           go_wp2_with fail
           refine (k_PutT 10 b0 HL7.out.top ⟨hbb0.1,by omega⟩).mono ?_
           rintro e w8 ⟨rv1,rfl,hk8,ho8⟩
           have HQ8:=Lib.hid (HL7.out.q_put hqB HQ7.out ho8)
           have HL8:=Lib.hid (HL7.out.put hk8 ho8)
           clear hk8 ho8 HL7 HQ7
           obtain ⟨_,_,_,_,_,_,e0,e1,e2,e3,e4⟩:=HL8.out.top.kat.cells
           have hbl:=HL8.out.top.kat.blt
           have zq:w8.cell? ⟨qb,1,none⟩=some (.int .u32 b1):=by rw [Lib.cell_of_heap HQ8.out];rfl
           have hqz:=(Array.getElem?_eq_some_iff.1 HQ8.out).1
           go_upto_region 45 with fail
           refine wp_region_ext_tail 6 (by kernel_rfl) (by kernel_rfl) ?_
           have hE:=ext_cells w8
           simp only [List.take_succ_cons,List.take_zero,List.drop_succ_cons,List.drop_zero]
           repeat (first | go_big_quiet_step (fail))
           refine wpQuiet_nil ?_
           rintro w9 ⟨⟨_,hb9⟩,rfl⟩
           have HL9:=Lib.hid (HL8.out.below hb9)
           clear hE hb9 HL8 HQ8 zq hqz e0 e1 e2 e3 e4 hbl
           go_wp2_with fail
           refine (k_PutT 11 b1 HL9.out.top ⟨hbb1.1,by omega⟩).mono ?_
           rintro e w10 ⟨rv2,rfl,hk10,ho10⟩
           have HL10:=Lib.hid (HL9.out.put hk10 ho10)
           clear hk10 ho10 HL9
           obtain ⟨_,_,_,_,_,_,e0,e1,e2,e3,e4⟩:=HL10.out.top.kat.cells
           have hbl:=HL10.out.top.kat.blt
           go_wp2_with fail
           refine (k_PutT 6 9 HL10.out.top (by decide)).mono ?_
           rintro e w11 ⟨rv3,rfl,hk11,ho11⟩
           have HL11:=Lib.hid (HL10.out.put hk11 ho11)
           clear hk11 ho11 HL10 e0 e1 e2 e3 e4 hbl
           go_wp2_with fail
           refine bodyPost_ret (v:=.tuple #[.pointer (some ⟨b,0,none⟩),.pointer (some ⟨gb,0,none⟩),.slice Aw n cw,.slice Aa n ca]) (by simp [results,Tryz.results27,go_sem]) rfl ?_
           have hL:=HL11.out
           have nF:∀ k,B1<=k->¬ F k:=fun k hk q=>by
            have:=(hL.top.lt k q).2
            omega
           refine ⟨Fs,by rw [<- HG.out,<- HT.out];exact HWr.out,?_,.inr ⟨by rw [<- HSz.out];omega,b,p,F,gb,Aw,cw,Aa,ca,g,?_,?_,?_,hL.gat.pass ⟨.refl _ _,fun k _ hk=>.inl hk⟩,?_,?_⟩⟩
           ·have h1:=HBx.out
            rw [HB0.out] at h1
            exact h1.trans (hL.bel.mono (by rw [HB0.out];omega))
           ·rw [HGE.out,HH.out,HG.out,HT.out]
           ·rw [<- Hpl.out,<- Hpll.out]
           ·have hk:=hL.top.kat.lo Hlo.out
            have hM:S.sttM x g ((S.laidM g (S.wM (S.wL (S.zeros x.ng) (S.zeros x.ns) Fs) heap [])).setV 26 ((S.wL (S.zeros x.ng) (S.zeros x.ns) Fs).length+S.sizes g.ns))=(((mp.putV 9 2).putV 10 b0).putV 11 b1).putV 6 9:=by
             unfold S.sttM
             rw [<- HG.out,<- HT.out,<- HH.out,<- Hm0.out,HGz.out,<- Hm1.out,<- HR.out,<- Hm2.out,<- Hpl.out,<- Hmp.out,<- Hb0.out,<- Hb1.out]
            rw [hM,<- HG.out,<- HT.out,<- HH.out,<- Hhf.out,<- HPP.out]
            exact hk
           ·rw [<- Hpl.out]
            exact own_f hL.rw nF
           ·rw [<- Hpl.out]
            exact own_f hL.ra nF
end
section
open Go.RowKit
section
variable {w w':World}{F:Nat->Prop}{lo b p_:Nat}{H half:Int}{P:List (ByteArray×Int)}{m:S.Mach}
set_option maxHeartbeats 4000000 in
theorem k_lwords (hK:KAt w lo b p_ F H half P m)(A0:Option Addr)(c0:Nat)(L:List Int)(hL:Reads w w.heap.size A0 (L.map (Value.int .i64)))(hl:L.length<=1000) :
 Calls Tryz.prog 30 #[.pointer (some ⟨b,0,none⟩),.slice A0 L.length c0] w fun e w'=>∃ A c,e=.returned (.slice A L.length c)/\w'.ownsRow w.heap.size 30 1 (.slice A L.length c) L.length ((L.map m.memV).map (Value.int .u32))/\Below w.heap.size w w':=by
 have HK:=Lib.hid hK
 have HL:=Lib.hid hL
 obtain ⟨T,hT⟩:∃ T,T=L.length:=⟨_,rfl⟩
 rw [<- hT] at hl ⊢
 have HT:=Lib.hid hT
 clear hK hL hT
 go_enter Tryz.func30,Tryz.ntmps30
 go_wp2_with fail
 go_loopw [5,6] (fun v5 v6 wl=>∃ k:Nat,k<=T/\v6=.int .i64 k/\(∃ A c,v5=.slice A k c/\Hid (wl.ownsRow w.heap.size 30 1 (.slice A k c) k (((L.take k).map m.memV).map (Value.int .u32))))/\Hid (Below w.heap.size w wl)) (fun _ v6 _=>T-(intOf v6).toNat)
 case atStart=>exact ⟨0,by omega,rfl,⟨none,0,rfl,Lib.hid (World.ownsRow_nil _ _ _ _)⟩,Lib.hid (Below.refl _ _)⟩
 case round =>
  obtain ⟨k,hk,rfl,⟨A,c,rfl,HO⟩,HB⟩:=hrel
  have hz:=HB.out.size
  by_cases hlt:k<T
  ·have hkl:k<L.length:=by rw [<- HT.out];exact hlt
   obtain ⟨ba,oa,hA,hba,hca⟩:=HL.out (by rw [List.length_map];omega)
   have q0:wr.cell? ⟨ba,oa+k,none⟩=some (.int .i64 L[k]):=by
    refine (World.cell?_of_block (w:=w) (a:=⟨ba,oa+k,none⟩) (HB.out.block ba hba)).trans (hca k _ ?_)
    rw [List.getElem?_map,List.getElem?_eq_getElem hkl]
    rfl
   have Htk:=Lib.hid (show (L.take (k+1)).map m.memV=(L.take k).map m.memV++[m.memV L[k]] from by rw [List.take_add_one,List.getElem?_eq_getElem hkl,List.map_append];rfl)
   obtain ⟨y,hy⟩:∃ y,y=L[k]:=⟨_,rfl⟩
   rw [<- hy] at q0 Htk
   have hwd:=k_WordB y (HK.out.below HB.out)
   obtain ⟨v,hv⟩:∃ v,v=m.memV y:=⟨_,rfl⟩
   rw [<- hv] at hwd Htk
   have Hwd:=Lib.hid hwd
   have d1:decide ((k:Int)<T)=true:=by simp;omega
   have c2:IntKind.i64.wrap ((k:Int)+1)=k+1:=IntWalk.i64_in _ ⟨by omega,by omega⟩
   have hba2:ba<wr.heap.size:=by omega
   subst hA
   clear hwd hca hy hv
   go_wp2_with fail
   refine Hwd.out.mono ?_
   rintro e w2 ⟨rfl,hb2⟩
   have HB2:=Lib.hid (HB.out.trans (hb2.mono hz))
   have HO2:=Lib.hid (ownsRow_below HO.out hb2)
   have hz2:=HB2.out.size
   clear hb2 HB HO Hwd q0
   go_upto_region 4 with (at_builtin;refine wpList_push rfl (.tmp 13) (.tmp 20) _ rfl w.heap.size 30 u32_infoA Tryz.underlying50 rfl (by decide) #[.int .u32 v] _ k _ rfl HO2.out rfl rfl rfl (by simp [Value.oneCell']) (by simp only [maxLen];omega) (by omega) hz2 ?_;intro v' w7 ho7 hg7 hb7 _;obtain ⟨A8,c8,rfl⟩:=ownsRow_form ho7)
   have HB7:=Lib.hid (HB2.out.trans hb7)
   have HO7:Hid (w7.ownsRow w.heap.size 30 1 (.slice A8 (k+1) c8) (k+1) (((L.take (k+1)).map m.memV).map (Value.int .u32))):=Lib.hid (by
    rw [Htk.out,List.map_append]
    exact ho7)
   clear ho7 hg7 hb7 HO2 HB2
   go_wp2_with fail
   go_roundw
   case rel=>exact ⟨k+1,by omega,rfl,⟨A8,c8,rfl,HO7⟩,HB7⟩
   case measure=>simp [intOf];omega
  ·have hke:T=k:=by omega
   subst hke
   have d1:decide ((T:Int)<T)=false:=by simp
   go_wp2_with fail
   go_ret
   refine ⟨A,c,rfl,?_,HB.out⟩
   have h:=HO.out
   have e:L.take T=L:=by rw [HT.out,List.take_length]
   rw [e] at h
   exact h
end
theorem SttF.below {w w':World}{An Ar Ag As Aq Ap:Option Addr}{x:S.Stt}(h:SttF w An Ar Ag As Aq Ap x)(hb:Below w.heap.size w w'):SttF w' An Ar Ag As Aq Ap x:=by
 have hp:Pass (fun k=>w.heap.size<=k) w (fun k=>w'.heap.size<=k) w':=⟨.of_below hb,fun k hk q=>by have:=hb.size;omega⟩
 exact ⟨h.nodes.pass hp,h.roots.pass hp,h.glob.pass hp,h.stat.pass hp,h.slots.pass hp,h.places.pass hp,h.few⟩
theorem name_coll:S.kCollect=⟨#[99,111,108,108,101,99,116]⟩:=by kernel_rfl
theorem call_200 {w:World}{F:Nat->Prop}{lo b p:Nat}{H half:Int}{P:List (ByteArray×Int)}{MM:S.Mach}{nm:ByteArray}{ca stub:Int}(hK:KAt w lo b p F H half P MM)(hs:S.findP P nm=some ca)(hst:S.findP P S.kStub=some stub)(ha:0<=ca/\ca<=67108864)(hst2:0<=stub/\stub<=67108864)(h0:MM.state=0)(h1:MM.out=[])(h2:MM.steps=0){C:S.Mach}(hC:((MM.setV 31 stub).goV ca).steps_ 200000=C){R:Int}(hR:S.callR C stub=R) :
 Calls Tryz.prog 29 #[.pointer (some ⟨b,0,none⟩),.string nm,.bool false,.int .i64 200000] w fun e w'=>e=.returned (.int .i64 R)/\KRan w lo b p F H half P C w':=by
 have h:=k_Call nm 200000 ca stub hK hs hst ⟨ha.1,Int.le_trans ha.2 (by decide)⟩ ⟨hst2.1,Int.le_trans hst2.2 (by decide)⟩ h0 h1 h2 (by decide)
 have e:S.callV MM stub ca 200000=C:=by
  unfold S.callV
  rw [show (200000:Int).toNat=200000 from rfl]
  exact hC
 rw [e,hR] at h
 exact h
structure S.ColO (x:S.Stt)(g:S.Gr)(H half:Int)(C:S.Mach):Prop where
 ok:C.Ok
 len:(C.mem.length:Int)=H+1000
 kept:∃ l nu,S.Keeps g ((x.pl g).map Prod.snd) (((x.pl g).map Prod.fst).map C.mv) C.mv (C.mv 2) half (C.rd 26) (C.rd 27) l nu
 r28:C.rd 28=1056
 m102:C.mv 102=7777
 m31:C.mv 31=5
 m9:C.mv 9=2
 m2:C.mv 2=H+half
 m3:C.mv 3=H
theorem coll_called {w:World}{F:Nat->Prop}{lo b p:Nat}{half:Int}{Fs:List Int}{x:S.Stt}(hx:x.Ok)(hwr:S.Wr (S.zeros x.ng) (S.zeros x.ns) Fs 1000){m0:S.Mach}(hm0:m0=S.wM (S.wL (S.zeros x.ng) (S.zeros x.ns) Fs) 1000 []){H:Int}(hH:H=(S.wL (S.zeros x.ng) (S.zeros x.ns) Fs).length)(hhf:half=1000/2){g:S.Gr}(hg:g=S.laidG x.nodes H)(hfit:S.sizes (S.laidNs x.nodes)<=half)
 {M:S.Mach} (hM:M=S.colM x g ((S.laidM g m0).setV 26 (H+S.sizes g.ns))) (hK:KAt w lo b p F H half (S.wP (S.zeros x.ng) (S.zeros x.ns) Fs) M) :
 Calls Tryz.prog 29 #[.pointer (some ⟨b,0,none⟩),.string ⟨#[99,111,108,108,101,99,116]⟩,.bool false,.int .i64 200000] w fun e w'=>e=.returned (.int .i64 0)/\∃ C,S.ColO x g H half C/\KRan w lo b p F H half (S.wP (S.zeros x.ng) (S.zeros x.ns) Fs) C w':=by
 have hI:∀ b,(S.wImg b (S.zeros x.ng) (S.zeros x.ns) Fs (H+1000)).Ok:=fun b=>by rw [hH];exact hwr.ok b
 have hlab:H=(S.wImg true (S.zeros x.ng) (S.zeros x.ns) Fs (H+1000)).lab S.kEnd:=by rw [hH];exact hwr.len
 have hw:S.Wd (S.zeros x.ng) (S.zeros x.ns) Fs (H+1000) m0:=by rw [hH,hm0];exact hwr.wd
 have h2:m0.mv 2=H:=by rw [hm0,hwr.fst.m2,hH]
 have h3:m0.mv 3=H+half:=by rw [hm0,hwr.fst.m3,hH,hhf]
 have h4:m0.mv 4=half:=by rw [hm0,hwr.fst.m4,hhf]
 obtain ⟨C,hC⟩:∃ C,C=S.callM (S.wImg true (S.zeros x.ng) (S.zeros x.ns) Fs (H+1000)) M S.kCollect 200000:=⟨_,rfl⟩
 obtain ⟨q1,q2,q3,q4,q5,q6,q7,q8,q9,q10⟩:=stt_collect hx hI hlab hhf (by decide) hw h2 h3 h4 hfit hg rfl hM hC
 obtain ⟨f2,l3,l4⟩:=w_label (hI true) has_collect
 obtain ⟨f1,l1,l2⟩:=w_label (hI true) has_stub
 have hR:S.callR C ((S.wImg true (S.zeros x.ng) (S.zeros x.ns) Fs (H+1000)).lab S.kStub)=0:=by
  unfold S.callR
  rw [if_neg (fun q=>q q3),if_pos q4]
 refine (call_200 (nm:=⟨#[99,111,108,108,101,99,116]⟩) hK (by rw [<- name_coll];exact f2) f1 ⟨l3,l4⟩ ⟨l1,l2⟩ q1.run q1.out q1.steps (C:=C) (by rw [hC];rfl) hR).mono ?_
 rintro e w' ⟨rfl,hk⟩
 have hkk:=hk
 obtain ⟨F',k1,_,_⟩:=hkk
 exact ⟨rfl,C,⟨k1.ok,by rw [hC];exact call_len q1 _ _,q2,q5,q6,q7,q8,q9,q10⟩,hk⟩
end
section
open Go.RowKit
structure CSt (wx:World)(lo b p gb:Nat)(F:Nat->Prop)(H half:Int)(P:List (ByteArray×Int))(g:S.Gr)(m:S.Mach)(Aw Aa:Option Addr)(was at_:List Int)(w:World):Prop where
 kat:KAt w lo b p F H half P m
 gat:GAt w F gb g
 rw:ReadsF w F Aw (was.map (Value.int .u32))
 ra:ReadsF w F Aa (at_.map (Value.int .i64))
 bel:Below lo wx w
section
variable {wx w w':World}{lo b p gb:Nat}{F F':Nat->Prop}{H half:Int}{P:List (ByteArray×Int)}{g:S.Gr}{m m':S.Mach}{Aw Aa:Option Addr}{was at_:List Int}
theorem CSt.pass (h:CSt wx lo b p gb F H half P g m Aw Aa was at_ w)(hk:KAt w' lo b p F' H half P m')(hp:Pass F w F' w'):CSt wx lo b p gb F' H half P g m' Aw Aa was at_ w' :=
 ⟨hk,h.gat.pass hp,h.rw.pass hp,h.ra.pass hp,h.bel.trans (h.kat.lobelow hp.1 h.kat.lolt)⟩
theorem CSt.only (h:CSt wx lo b p gb F H half P g m Aw Aa was at_ w)(hk:KAt w' lo b p F H half P m')(ho:Only F w w'):CSt wx lo b p gb F H half P g m' Aw Aa was at_ w':=h.pass hk (.of_only ho)
theorem CSt.below (h:CSt wx lo b p gb F H half P g m Aw Aa was at_ w)(hb:Below w.heap.size w w'):CSt wx lo b p gb F H half P g m Aw Aa was at_ w':=h.pass (h.kat.below hb) (.of_below hb)
end
theorem slotSt_len (g:S.Gr)(sl:List (Int×Int))(pl:List Int):∀ n:Nat,(S.slotSt g sl pl n).2.2.length<=n
 | 0=>by simp [S.slotSt]
 | n+1=>by
  have ih:=slotSt_len g sl pl n
  rw [S.slotSt]
  split
  ·split
   ·omega
   ·simp only [List.length_append,List.length_cons,List.length_nil];omega
  ·split
   ·omega
   ·simp only [List.length_append,List.length_cons,List.length_nil];omega
theorem stt_len (x:S.Stt)(g:S.Gr):(x.pl g).length<=27:=by
 have h:=stt_le x
 have h2:(x.q g).2.2.length<=x.nq:=slotSt_len _ _ _ _
 unfold S.Stt.pl
 simp only [List.length_append,segP_len,List.length_cons]
 omega
set_option maxHeartbeats 8000000 in
theorem law_RtgcCollects (w:World)(hL:LVE w)(x:S.Stt)(hx:x.Ok)(An Ar Ag As Aq Ap:Option Addr)(cn cr cg cs cq cp:Nat)(hs:SttF w An Ar Ag As Aq Ap x)(hcr:x.roots.length<=cr):Calls Tryz.prog 5 #[sttV An Ar Ag As Aq Ap cn cr cg cs cq cp x] w fun e w'=>e=.returned (.bool true)/\Below w.heap.size w w':=by
 have hlaid0:=fun (w':World) (hb:Below w.heap.size w w')=>k_laid w' (hL.on hb) x hx An Ar Ag As Aq Ap cn cr cg cs cq cp (hs.below hb) hcr 1000 (by decide)
 have Hlaid0:=Lib.hid hlaid0
 have HLV:=Lib.hid hL
 have HX:=Lib.hid hx
 clear hlaid0 hL hs hcr hx
 unfold sttV at Hlaid0 ⊢
 obtain ⟨NN,hNN⟩:∃ N,N=x.nodes.length:=⟨_,rfl⟩
 obtain ⟨NR,hNR⟩:∃ N,N=x.roots.length:=⟨_,rfl⟩
 obtain ⟨NG,hNG⟩:∃ N,N=x.glob.length:=⟨_,rfl⟩
 obtain ⟨NS,hNS⟩:∃ N,N=x.stat.length:=⟨_,rfl⟩
 obtain ⟨NQ,hNQ⟩:∃ N,N=x.slots.length:=⟨_,rfl⟩
 obtain ⟨NP,hNP⟩:∃ N,N=x.places.length:=⟨_,rfl⟩
 obtain ⟨sy,hsy⟩:∃ s,s=x.sym.1:=⟨_,rfl⟩
 obtain ⟨sz,hsz⟩:∃ s,s=x.sym.2:=⟨_,rfl⟩
 rw [<- hNN,<- hNR,<- hNG,<- hNS,<- hNQ,<- hNP,<- hsy,<- hsz] at Hlaid0 ⊢
 clear hNN hNR hNG hNS hNQ hNP hsy hsz
 go_enter Tryz.func5,Tryz.ntmps5
 go_upto_region 1 with fail
 have hb1:=(Below.refl w.heap.size w).alloc (Nat.le_refl _) (.cells #[.slice An NN cn,.slice Ar NR cr,.slice Ag NG cg,.slice As NS cs,.slice Aq NQ cq,.slice Ap NP cp,.int .u32 sy,.int .u16 sz] 62)
 have hr1:=heap_alloc_new w (.cells #[.slice An NN cn,.slice Ar NR cr,.slice Ag NG cg,.slice As NS cs,.slice Aq NQ cq,.slice Ap NP cp,.int .u32 sy,.int .u16 sz] 62)
 generalize w.alloc (.cells #[.slice An NN cn,.slice Ar NR cr,.slice Ag NG cg,.slice As NS cs,.slice Aq NQ cq,.slice Ap NP cp,.int .u32 sy,.int .u16 sz] 62)=w1 at *
 have Hlaid:=Lib.hid (Hlaid0.out w1 hb1)
 have z0:w1.cell? ⟨w.heap.size,0,none⟩=some (.slice An NN cn):=by rw [Lib.cell_of_heap hr1];rfl
 have z1:w1.cell? ⟨w.heap.size,1,none⟩=some (.slice Ar NR cr):=by rw [Lib.cell_of_heap hr1];rfl
 have z2:w1.cell? ⟨w.heap.size,2,none⟩=some (.slice Ag NG cg):=by rw [Lib.cell_of_heap hr1];rfl
 have z3:w1.cell? ⟨w.heap.size,3,none⟩=some (.slice As NS cs):=by rw [Lib.cell_of_heap hr1];rfl
 have z4:w1.cell? ⟨w.heap.size,4,none⟩=some (.slice Aq NQ cq):=by rw [Lib.cell_of_heap hr1];rfl
 have z5:w1.cell? ⟨w.heap.size,5,none⟩=some (.slice Ap NP cp):=by rw [Lib.cell_of_heap hr1];rfl
 have z6:w1.cell? ⟨w.heap.size,6,none⟩=some (.int .u32 sy):=by rw [Lib.cell_of_heap hr1];rfl
 have z7:w1.cell? ⟨w.heap.size,7,none⟩=some (.int .u16 sz):=by rw [Lib.cell_of_heap hr1];rfl
 have hlt1:=(Array.getElem?_eq_some_iff.1 hr1).1
 have HB1:=Lib.hid hb1
 clear hr1 hb1 Hlaid0
 go_wp2_with fail
 refine Hlaid.out.mono ?_
 rintro e w2 ⟨Fs,hwr,hb2,hcase⟩
 clear z0 z1 z2 z3 z4 z5 z6 z7 Hlaid
 rcases hcase with ⟨h1,_⟩ | ⟨hfit,b,p,F,gb,Aw,cw,Aa,ca,g,hg,rfl,hk,hga,hrw,hra⟩
 ·exfalso
  have:=laid_sizes x.nodes
  omega
 obtain ⟨H,hH⟩:∃ H:Int,H=(S.wL (S.zeros x.ng) (S.zeros x.ns) Fs).length:=⟨_,rfl⟩
 have hHb:0<=H/\H<=12000:=by have:=hwr.small;omega
 obtain ⟨half,hhf⟩:∃ h:Int,h=1000/2:=⟨_,rfl⟩
 have hh500:half=500:=by rw [hhf];rfl
 obtain ⟨m0,hm0⟩:∃ m0,m0=S.wM (S.wL (S.zeros x.ng) (S.zeros x.ns) Fs) 1000 []:=⟨_,rfl⟩
 obtain ⟨PP,hPP⟩:∃ PP,PP=S.wP (S.zeros x.ng) (S.zeros x.ns) Fs:=⟨_,rfl⟩
 rw [<- hH] at hk hg
 rw [<- hm0,<- hPP,<- hhf] at hk
 obtain ⟨M0,hM0⟩:∃ M0,M0=S.sttM x g ((S.laidM g m0).setV 26 (H+S.sizes g.ns)):=⟨_,rfl⟩
 rw [<- hM0] at hk
 obtain ⟨was,hwas⟩:∃ l,l=(x.pl g).map Prod.snd:=⟨_,rfl⟩
 obtain ⟨at_,hat⟩:∃ l,l=(x.pl g).map Prod.fst:=⟨_,rfl⟩
 obtain ⟨N,hN⟩:∃ N,N=(x.pl g).length:=⟨_,rfl⟩
 have hN27:N<=27:=by rw [hN];exact stt_len x g
 have hwl:was.length=N:=by rw [hwas,hN,List.length_map]
 have hal:at_.length=N:=by rw [hat,hN,List.length_map]
 rw [<- hwas] at hrw
 rw [<- hat] at hra
 rw [<- hN]
 have hgok:g.Ok H:=by rw [hg];exact laidG_ok HX.out.nodes ⟨by omega,by omega⟩
 have hszE:S.sizes g.ns=S.sizes (S.laidNs x.nodes):=by rw [hg];rfl
 have hgz:H+S.sizes g.ns<=335544320:=by have:=laid_sizes x.nodes;omega
 have HS2:Hid (CSt w1 w1.heap.size b p gb F H half PP g M0 Aw Aa was at_ w2):=Lib.hid ⟨hk,hga,hrw,hra,hb2⟩
 have HWr:=Lib.hid hwr
 have HH:=Lib.hid hH
 have Hhf:=Lib.hid hhf
 have Hm0:=Lib.hid hm0
 have HPP:=Lib.hid hPP
 have HM0:=Lib.hid hM0
 have Hwas:=Lib.hid hwas
 have Hat:=Lib.hid hat
 have HN:=Lib.hid hN
 have Hwl:=Lib.hid hwl
 have Hal:=Lib.hid hal
 have Hgok:=Lib.hid hgok
 have HszE:=Lib.hid hszE
 have Hgz:=Lib.hid hgz
 have Hg:=Lib.hid hg
 have Hfit:=Lib.hid (show S.sizes (S.laidNs x.nodes)<=half from by rw [hh500];have:=laid_sizes x.nodes;omega)
 clear hk hga hrw hra hb2 hwr hH hhf hm0 hPP hM0 hwas hat hN hwl hal hgok hszE hgz hg hfit
 obtain ⟨_,_,_,_,_,_,e0,e1,e2,e3,e4⟩:=HS2.out.kat.cells
 have hbl:=HS2.out.kat.blt
 go_wp2_with fail
 refine (k_PutR 102 7777 HS2.out.kat (by decide)).mono ?_
 rintro e w3 ⟨rv,rfl,hk3,ho3⟩
 have HS3:=Lib.hid (HS2.out.only hk3 ho3)
 clear hk3 ho3 HS2 e0 e1 e2 e3 e4 hbl
 obtain ⟨_,_,_,_,_,_,e0,e1,e2,e3,e4⟩:=HS3.out.kat.cells
 have hbl:=HS3.out.kat.blt
 go_wp2_with fail
 refine (k_PutR 31 5 HS3.out.kat (by decide)).mono ?_
 rintro e w4 ⟨rv2,rfl,hk4,ho4⟩
 have HS4:=Lib.hid (HS3.out.only hk4 ho4)
 clear hk4 ho4 HS3 e0 e1 e2 e3 e4 hbl
 obtain ⟨_,_,_,_,_,_,e0,e1,e2,e3,e4⟩:=HS4.out.kat.cells
 have hbl:=HS4.out.kat.blt
 go_wp2_with fail
 refine (k_SetR 7 123 HS4.out.kat (by decide)).mono ?_
 rintro e w5 ⟨rv3,rfl,hk5,ho5⟩
 obtain ⟨M,hM⟩:∃ M,M=((M0.putV 102 7777).putV 31 5).setV 7 123:=⟨_,rfl⟩
 rw [<- hM] at hk5
 have HS5:=Lib.hid (HS4.out.only hk5 ho5)
 have hM2:M=S.colM x g ((S.laidM g m0).setV 26 (H+S.sizes g.ns)):=by rw [hM,HM0.out];rfl
 have hcall:=coll_called HX.out HWr.out Hm0.out HH.out Hhf.out Hg.out Hfit.out hM2 (by rw [<- HPP.out];exact HS5.out.kat)
 rw [<- HPP.out] at hcall
 have Hcall:=Lib.hid hcall
 clear hk5 ho5 HS4 e0 e1 e2 e3 e4 hbl hM hM2 hcall
 go_wp2_with fail
 refine Hcall.out.mono ?_
 rintro e w6 ⟨rfl,C,ho,F6,hk6,ho6,hf6⟩
 have HS6:=Lib.hid (HS5.out.pass hk6 ⟨ho6,hf6⟩)
 have HO:=Lib.hid ho
 clear hk6 ho6 hf6 ho HS5 Hcall
 have hwo:=k_lwords HS6.out.kat Aa ca at_ HS6.out.ra.reads (by rw [Hal.out];omega)
 rw [Hal.out] at hwo
 have Hwo:=Lib.hid hwo
 clear hwo
 go_wp2_with fail
 refine Hwo.out.mono ?_
 rintro e w7 ⟨A',c',rfl,ho7,hb7⟩
 have HS7:=Lib.hid (HS6.out.below hb7)
 have hz67:=hb7.size
 have HR7:=Lib.hid ho7
 have HB7:=Lib.hid (show Below w.heap.size w w7 from HB1.out.trans (HS7.out.bel.mono (by omega)))
 clear ho7 hb7 Hwo
 have hlen:=HO.out.len
 have hnow:at_.map C.memV=at_.map C.mv:=List.map_congr_left fun y hy=>by
  have h:=(stt_fst Hgok.out Hgz.out HX.out y).1 (by rw [<- Hat.out];exact hy)
  have hst:=stt_le x
  have hH13:1312+x.ng+x.ns+11<=H:=by
   have:=(end_bd (HWr.out.ok true)).1
   rw [<- HWr.out.len,zeros_len,zeros_len,<- HH.out] at this
   omega
  refine mv_mem ?_ ?_
  ·rcases h with h | h | h | h
   ·omega
   ·omega
   ·omega
   ·have:=slX_rng h;omega
  ·rcases h with h | h | h | h
   ·omega
   ·omega
   ·omega
   ·have:=slX_rng h;omega
 have hFlt:∀ k,w6.heap.size<=k->¬ F6 k:=fun k hk q=>by
  have:=(HS6.out.kat.lt k q).2
  omega
 have Hkept:=Lib.hid (show ∀ y:Ext w7,Calls Tryz.prog 31 #[.pointer (some ⟨b,0,none⟩),.pointer (some ⟨gb,0,none⟩),.slice Aw N cw,.slice A' N c'] y.val fun e w'=>e=.returned (.bool true)/\Below y.val.heap.size y.val w' from fun y=>by
  have hS:=HS7.out.below y.property
  obtain ⟨l,nu,hkp⟩:=HO.out.kept
  rw [<- Hwas.out,<- Hat.out] at hkp
  have hnl:(at_.map C.mv).length=N:=by rw [List.length_map,Hal.out]
  have hrn:Reads y.val y.val.heap.size A' ((at_.map C.mv).map (Value.int .u32)):=by
   have h:=own_f (F:=F6) (ownsRow_below HR7.out y.property) hFlt
   rw [hnow] at h
   exact h.reads
  have hre:=reach_ex Hgok.out was
  have hok:=HO.out.ok
  have hsz:=hkp.size
  have hm2:=HO.out.m2
  have hsn:=reach_le Hgok.out (Classical.choose_spec (Classical.choose_spec hre))
  have h26:=hsz _ _ (Classical.choose_spec (Classical.choose_spec hre))
  have hls:=laid_sizes x.nodes
  have hszE:=HszE.out
  have h:=k_Kept hS.kat hS.gat Hgok.out Hgz.out Aw A' cw c' was (at_.map C.mv) hS.rw.reads hrn (fun r hr=>?_) (fun r hr=>?_) (by rw [Hwl.out];omega) (il:=l) (nu:=nu) ?_ (by rw [h26];omega) (by omega) (by omega) ⟨by omega,by omega⟩ hre
  ·rw [Hwl.out,hnl] at h
   exact h
  ·rw [Hwas.out] at hr
   obtain ⟨q,hq,rfl⟩:=List.mem_map.1 hr
   have hf:=stt_fit Hgok.out Hgz.out HX.out q hq
   exact ⟨hf.1,hf.2.1⟩
  ·obtain ⟨a,_,rfl⟩:=List.mem_map.1 hr
   have:=hok.memw a.toNat
   exact ⟨this.1,by have h2:=this.2;show C.mem.getD a.toNat 0<_;omega⟩
  ·exact hkp)
 have hv:∀ i:Int,0<=i->i<1312->C.memV i=C.mv i:=fun i h0 h1=>mv_mem h0 (by
  have hH13:1312+x.ng+x.ns+11<=H:=by
   have:=(end_bd (HWr.out.ok true)).1
   rw [<- HWr.out.len,zeros_len,zeros_len,<- HH.out] at this
   omega
  omega)
 have Hwd:=Lib.hid (show ∀ (i:Int) (y:Ext w7),Calls Tryz.prog 32 #[.pointer (some ⟨b,0,none⟩),.int .i64 i] y.val fun e w'=>e=.returned (.int .u32 (C.memV i))/\Below y.val.heap.size y.val w' from fun i y=>k_WordB i (HS7.out.below y.property).kat)
 have q102:C.memV 102=7777:=by rw [hv 102 (by decide) (by decide)];exact HO.out.m102
 have q31:C.memV 31=5:=by rw [hv 31 (by decide) (by decide)];exact HO.out.m31
 have q9:C.memV 9=2:=by rw [hv 9 (by decide) (by decide)];exact HO.out.m9
 have q2:C.memV 2=H+half:=by rw [hv 2 (by decide) (by decide)];exact HO.out.m2
 have q3:C.memV 3=H:=by rw [hv 3 (by decide) (by decide)];exact HO.out.m3
 have Hreg:=Lib.hid (show ∀ y:Ext w7,Calls Tryz.prog 26 #[.pointer (some ⟨p,0,none⟩),.int .i64 28] y.val fun e w'=>e=.returned (.int .u32 1056)/\y.val=w' from fun y=>by
  have h:=k_Reg 28 (HS7.out.below y.property).kat
  rw [rd_reg (by decide) (by decide),HO.out.r28] at h
  exact h)
 have Hwks:=Lib.hid (show ∀ y:Ext w7,Calls Tryz.prog 33 #[] y.val fun e w'=>e=.returned (.bool true)/\Below y.val.heap.size y.val w' from fun y=>law26_works y.val ((HLV.out.on HB7.out).on y.property))
 have c1:IntKind.i64.wrap (H+half)=H+half:=IntWalk.i64_in _ ⟨by omega,by omega⟩
 have c2:(H+half)%18446744073709551616=H+half:=by omega
 have c3:H%18446744073709551616=H:=by omega
 obtain ⟨_,_,_,_,_,_,e0,e1,e2,e3,e4⟩:=HS7.out.kat.cells
 have hbl:=HS7.out.kat.blt
 clear hnow hFlt hv hlen
 go_upto_region 11 with fail
 refine wp_region_ext (by kernel_rfl) (by kernel_rfl) ?_
 have hE:=ext_cells w7
 repeat (first
  | go_big_quiet_step ((first
   | (go_at_call 31;exact ext_of (Hkept.out _))
   | (go_at_call 26;exact ext_of_same (Hreg.out _))
   | (go_at_call 33;exact ext_of (Hwks.out _))
   | (go_at_call 32;exact ext_of (Hwd.out _ _)))))
 refine wpQuiet_nil ?_
 rintro w8 ⟨⟨_,hb8⟩,rfl⟩
 have HB8:=Lib.hid (HB7.out.trans (hb8.mono HB7.out.size))
 clear hE hb8
 go_wp2_with fail
 go_ret
 exact ⟨rfl,HB8.out⟩
end
section
set_option maxRecDepth 100000
open Go.ChangeShapes Go.WideShapes Go.ChangeAt Go.RowKit
section
variable {H:Type}{enc:TypeId×Value->H}{w:World}{base:Nat}{spare:Nat->Bool}{held:Bool}{fuel:Nat}{cs:List Value}{x:DataW H×List MemPlace}
theorem open_rowG {α:Type}[Inhabited α]{t e:TypeId}{sz:Nat}(ht:Tryz.prog.underlying t=some (.slice e))(hc:Tryz.prog.cellsOf e=sz)(hs:0<sz){Rel:List Value->α->Prop}
 (hR:∀ n cs' x',DataW.trod enc Tryz.prog w base spare held n e cs'=some x'->∃ y,Rel cs' y) (h:DataW.trod enc Tryz.prog w base spare held fuel t cs=some x) :
 ∃ (A:Option Addr) (c:Nat) (ys:List α),cs=[.slice A ys.length c]/\ys.length<=c/\ys.length<=maxLen/\(∀ y∈ys,∃ cs',Rel cs' y)/\(0<ys.length->∃ b off,A=some ⟨b,off,none⟩/\b<w.heap.size/\∀ (i:Nat) (y:α),ys[i]?=some y->∃ cs':List Value,cs'.length=sz/\Rel cs' y/\∀ j,j<sz->w.cell? ⟨b,off+i*sz+j,none⟩=cs'[j]?):=by
 rcases Deep.open_slice ht h with ⟨hcs,_⟩ | ⟨a,n,c,m,k,D,Pl,hcs,_,hlc,hcm,hm,hx,hi⟩
 ·exact ⟨none,0,[],hcs,by simp,by simp,fun y hy=>(by cases hy),fun hp=>by simp at hp⟩
 ·rw [hc] at hi
  have hml:n<=m:=by rw [hm];split <;> omega
  have each:∀ i,i<n->∃ y:α,∃ cs':List Value,cs'.length=sz/\Rel cs' y/\∀ j,j<sz->w.cell? (a.add (i*sz+j))=cs'[j]?:=by
   intro i hin
   obtain ⟨cs',hcc,htr⟩:=hi i (by omega)
   obtain ⟨_,hcl,hat⟩:=World.cells?_some hcc
   obtain ⟨y,hy⟩:=hR _ _ _ htr
   exact ⟨y,cs',hcl,hy,fun j hj=>by rw [<- Deep.add_add];exact hat j hj⟩
  obtain ⟨f,hfi⟩:=Deep.choose_lt each
  refine ⟨some a,c,(List.range n).map f,by simpa using hcs,by simp;omega,by simp;omega,fun y hy=>?_,fun hp=>?_⟩
  ·obtain ⟨i,hi2,rfl⟩:=List.mem_map.1 hy
   obtain ⟨cs',_,h2,_⟩:=hfi i (List.mem_range.1 hi2)
   exact ⟨cs',h2⟩
  ·have hn:0<n:=by simpa using hp
   obtain ⟨b,off,spot⟩:=a
   obtain ⟨cs0,l0,_,h0⟩:=hfi 0 hn
   have h00:=h0 0 hs
   rw [List.getElem?_eq_getElem (by omega)] at h00
   have hspot:spot=none:=by simpa [Addr.add] using World.cell?_spot h00
   subst hspot
   refine ⟨b,off,rfl,?_,fun i y hy=>?_⟩
   ·rw [show (⟨b,off,none⟩:Addr).add (0*sz+0)=⟨b,off,none⟩ by simp [Addr.add]] at h00
    unfold World.cell? at h00
    cases hq:w.heap[b]? with
    | none=>rw [hq] at h00;cases h00
    | some o=>exact (Array.getElem?_eq_some_iff.1 hq).1
   ·have hlti:i<n:=by have:=(List.getElem?_eq_some_iff.1 hy).1;simpa using this
    have hxe:f i=y:=by simpa [hlti] using hy
    subst hxe
    obtain ⟨cs',l1,l2,l3⟩:=hfi i hlti
    exact ⟨cs',l1,l2,fun j hj=>by rw [Nat.add_assoc,<- Go.WideShapes.add_plain];exact l3 j hj⟩
theorem word_cells:Tryz.prog.cellsOf 60=2:=by kernel_rfl
theorem node_cells:Tryz.prog.cellsOf 95=2:=by kernel_rfl
theorem set_cells:Tryz.prog.cellsOf 62=8:=by kernel_rfl
theorem u8_cells1:Tryz.prog.cellsOf 5=1:=by kernel_rfl
theorem u16_cells1:Tryz.prog.cellsOf 58=1:=by kernel_rfl
theorem u32_cells1:Tryz.prog.cellsOf 30=1:=by kernel_rfl
theorem ws_cells1:Tryz.prog.cellsOf 56=1:=by kernel_rfl
theorem ns_cells1:Tryz.prog.cellsOf 55=1:=by kernel_rfl
theorem ps_cells1:Tryz.prog.cellsOf 57=1:=by kernel_rfl
theorem wf_u32k {y:Int}(h:(Lit.int .u32 y).wf=true):0<=y/\y<4294967296:=by
 simp [Lit.wf,IntKind.min,IntKind.max,IntKind.signed,IntKind.bits] at h
 omega
theorem wf_u16k {y:Int}(h:(Lit.int .u16 y).wf=true):0<=y/\y<65536:=by
 simp [Lit.wf,IntKind.min,IntKind.max,IntKind.signed,IntKind.bits] at h
 omega
theorem wf_u8k {y:Int}(h:(Lit.int .u8 y).wf=true):0<=y/\y<256:=by
 simp [Lit.wf,IntKind.min,IntKind.max,IntKind.signed,IntKind.bits] at h
 omega
theorem open_word1 (h:DataW.trod enc Tryz.prog w base spare held fuel 60 cs=some x):∃ y:Int×Int,cs=[.int .u32 y.1,.int .u16 y.2]/\S.wf y:=by
 obtain ⟨y0,y1,n,_,hl,h0,h1⟩:=trod_struct2 Tryz.underlying60 h
 rw [word_cells] at hl
 match cs,hl with
 | [c0,c1],_ =>
  have g0:DataW.trod enc Tryz.prog w base spare held n 30 [c0]=some y0:=by simpa [u32_cells1] using h0
  have g1:DataW.trod enc Tryz.prog w base spare held n 58 [c1]=some y1:=by simpa [u16_cells1] using h1
  obtain ⟨a,ea,_,wa⟩:=DataW.trod_int Tryz.underlying30 g0
  obtain ⟨b,eb,_,wb⟩:=DataW.trod_int Tryz.underlying58 g1
  simp only [List.cons.injEq,and_true] at ea eb
  subst ea eb
  have q1:=wf_u32k wa
  have q2:=wf_u16k wb
  exact ⟨(a,b),rfl,q1.1,q1.2,q2.1,q2.2⟩
theorem open_words1 (h:DataW.trod enc Tryz.prog w base spare held fuel 56 cs=some x) :
 ∃ (A:Option Addr) (c:Nat) (l:List (Int×Int)),cs=[.slice A l.length c]/\l.length<=c/\l.length<=maxLen/\(∀ y∈l,S.wf y)/\WordsF w (fun k=>w.heap.size<=k) A l:=by
 obtain ⟨A,c,ys,h1,h2,h3,h4,h5⟩:=open_rowG (α:=Int×Int) Tryz.underlying56 word_cells (by decide) (Rel:=fun cs y=>cs=[.int .u32 y.1,.int .u16 y.2]/\S.wf y) (fun n cs' x' hx=>open_word1 hx) h
 refine ⟨A,c,ys,h1,h2,h3,fun y hy=>(h4 y hy).choose_spec.2,fun hp=>?_⟩
 obtain ⟨b,off,e,hb,hc⟩:=h5 hp
 refine ⟨b,off,e,⟨hb,by omega⟩,fun i y hy=>?_⟩
 obtain ⟨cs',_,⟨rfl,hw⟩,hj⟩:=hc i y hy
 exact ⟨hj 0 (by decide),hj 1 (by decide),hw⟩
theorem open_node1 (h:DataW.trod enc Tryz.prog w base spare held fuel 95 cs=some x):∃ y:S.GN×Option Addr×Nat,cs=[.int .u8 y.1.ty,.slice y.2.1 y.1.ws.length y.2.2]/\(0<=y.1.ty/\y.1.ty<256)/\y.1.ws.length<=y.2.2/\y.1.ws.length<=maxLen/\(∀ z∈y.1.ws,S.wf z)/\WordsF w (fun k=>w.heap.size<=k) y.2.1 y.1.ws:=by
 obtain ⟨y0,y1,n,_,hl,h0,h1⟩:=trod_struct2 Tryz.underlying95 h
 rw [node_cells] at hl
 match cs,hl with
 | [c0,c1],_ =>
  have g0:DataW.trod enc Tryz.prog w base spare held n 5 [c0]=some y0:=by simpa [u8_cells1] using h0
  have g1:DataW.trod enc Tryz.prog w base spare held n 56 [c1]=some y1:=by simpa [ws_cells1] using h1
  obtain ⟨a,ea,_,wa⟩:=DataW.trod_int Tryz.underlying5 g0
  obtain ⟨A,c,l,e1,q1,q2,q3,q4⟩:=open_words1 g1
  simp only [List.cons.injEq,and_true] at ea e1
  subst ea e1
  exact ⟨(⟨a,l⟩,A,c),rfl,wf_u8k wa,q1,q2,q3,q4⟩
theorem open_setting {b0:Nat}{v:Value}{d:DataW H}{ps:List MemPlace}(hval:Value.okWide Tryz.prog w .any b0 62 v)(h:DataW.Trod enc Tryz.prog w base spare held 62 v d ps) :
 ∃ (x:S.Stt) (An Ar Ag As Aq Ap:Option Addr) (cn cr cg cs cq cp:Nat),v=sttV An Ar Ag As Aq Ap cn cr cg cs cq cp x/\x.Ok/\SttF w An Ar Ag As Aq Ap x/\x.roots.length<=cr:=by
 obtain ⟨fuel,hf⟩:=h
 obtain ⟨vs,rfl,hsz⟩:=okWide_struct Tryz.underlying62 hval
 rw [set_cells] at hsz
 obtain ⟨l⟩:=vs
 match l,hsz with
 | [v0,v1,v2,v3,v4,v5,v6,v7],_ =>
  obtain ⟨xs,n,_,_,_,hxl,hfl⟩:=DataW.trod_struct Tryz.underlying62 hf
  have hx7:xs.length=7:=hxl
  have ex:∀ i,i<7->∃ y,xs[i]?=some y:=fun i hi=>⟨_,List.getElem?_eq_getElem (by omega)⟩
  obtain ⟨y0,e0⟩:=ex 0 (by decide)
  obtain ⟨y1,e1⟩:=ex 1 (by decide)
  obtain ⟨y2,e2⟩:=ex 2 (by decide)
  obtain ⟨y3,e3⟩:=ex 3 (by decide)
  obtain ⟨y4,e4⟩:=ex 4 (by decide)
  obtain ⟨y5,e5⟩:=ex 5 (by decide)
  obtain ⟨y6,e6⟩:=ex 6 (by decide)
  have hc:(Value.agg ⟨[v0,v1,v2,v3,v4,v5,v6,v7]⟩).cells.toList=[v0,v1,v2,v3,v4,v5,v6,v7]:=rfl
  rw [hc] at hfl
  have g0:DataW.trod enc Tryz.prog w base spare held n 55 [v0]=some y0:=by
   have:=hfl 0 _ rfl
   rw [e0] at this
   simpa [ns_cells1] using this
  have g1:DataW.trod enc Tryz.prog w base spare held n 56 [v1]=some y1:=by
   have:=hfl 1 _ rfl
   rw [e1] at this
   simpa [ws_cells1] using this
  have g2:DataW.trod enc Tryz.prog w base spare held n 56 [v2]=some y2:=by
   have:=hfl 2 _ rfl
   rw [e2] at this
   simpa [ws_cells1] using this
  have g3:DataW.trod enc Tryz.prog w base spare held n 56 [v3]=some y3:=by
   have:=hfl 3 _ rfl
   rw [e3] at this
   simpa [ws_cells1] using this
  have g4:DataW.trod enc Tryz.prog w base spare held n 56 [v4]=some y4:=by
   have:=hfl 4 _ rfl
   rw [e4] at this
   simpa [ws_cells1] using this
  have g5:DataW.trod enc Tryz.prog w base spare held n 57 [v5]=some y5:=by
   have:=hfl 5 _ rfl
   rw [e5] at this
   simpa [ps_cells1] using this
  have g6:DataW.trod enc Tryz.prog w base spare held n 60 [v6,v7]=some y6:=by
   have:=hfl 6 _ rfl
   rw [e6] at this
   simpa [word_cells] using this
  haveI:Inhabited S.GN:=⟨⟨0,[]⟩⟩
  obtain ⟨An,cn,ns,q0,_,a1,a2,a3⟩:=open_rowG (α:=S.GN×Option Addr×Nat) Tryz.underlying55 node_cells (by decide) (Rel:=fun cs y=>cs=[.int .u8 y.1.ty,.slice y.2.1 y.1.ws.length y.2.2]/\(0<=y.1.ty/\y.1.ty<256)/\y.1.ws.length<=y.2.2/\y.1.ws.length<=maxLen/\(∀ z∈y.1.ws,S.wf z)/\WordsF w (fun k=>w.heap.size<=k) y.2.1 y.1.ws) (fun n cs' x' hx=>open_node1 hx) g0
  obtain ⟨Ar,cr,rs,q1,b1,b2,b3,b4⟩:=open_words1 g1
  obtain ⟨Ag,cg,gs,q2,_,c2,c3,c4⟩:=open_words1 g2
  obtain ⟨As,cs,ss,q3,_,d2,d3,d4⟩:=open_words1 g3
  obtain ⟨Aq,cq,qs,q4,_,f2,f3,f4⟩:=open_words1 g4
  obtain ⟨Ap,cp,pls,q5,_,k1,k2,k3⟩:=open_rowG (α:=Int) Tryz.underlying57 u8_cells1 (by decide) (Rel:=fun cs y=>cs=[.int .u8 y]/\0<=y/\y<256) (fun n cs' x' hx=>by
   obtain ⟨a,ea,_,wa⟩:=DataW.trod_int Tryz.underlying5 hx
   exact ⟨a,ea,wf_u8k wa⟩) g5
  obtain ⟨sy,q6,hsy⟩:=open_word1 g6
  simp only [List.cons.injEq,and_true] at q0 q1 q2 q3 q4 q5 q6
  obtain ⟨rfl,rfl⟩:=q6
  subst q0 q1 q2 q3 q4 q5
  have hml:maxLen=9223372036854775807:=by decide
  rw [hml] at a1 b2 c2 d2 f2 k1
  have hnl:(ns.map Prod.fst).length=ns.length:=List.length_map _
  refine ⟨⟨ns.map Prod.fst,rs,gs,ss,qs,pls,sy⟩,An,Ar,Ag,As,Aq,Ap,cn,cr,cg,cs,cq,cp,?_,⟨fun y hy=>?_,b3,c3,d3,f3,fun y hy=>(k2 y hy).choose_spec.2,hsy⟩,⟨fun hp=>?_,b4,c4,d4,f4,fun hp=>?_,?_⟩,b1⟩
  ·unfold sttV
   simp only [hnl]
  ·obtain ⟨z,hz,rfl⟩:=List.mem_map.1 hy
   obtain ⟨_,_,h1,_,_,h4,_⟩:=a2 z hz
   exact ⟨h1.1,fun u hu=>⟨(h4 u hu).1,(h4 u hu).2.1,(h4 u hu).2.2.1⟩⟩
  ·obtain ⟨b,off,e,hb,hcc⟩:=a3 (by rw [<- hnl];exact hp)
   refine ⟨b,off,e,⟨hb,by omega⟩,fun i y hy=>?_⟩
   rw [List.getElem?_map] at hy
   obtain ⟨z,hz,rfl⟩:=Option.map_eq_some_iff.1 hy
   obtain ⟨cs',_,⟨rfl,h1,h2,h3,_,h5⟩,hj⟩:=hcc i z hz
   exact ⟨hj 0 (by decide),h1,by rw [hml] at h3;exact h3,z.2.1,z.2.2,hj 1 (by decide),h2,h5⟩
  ·rw [List.length_map] at hp
   obtain ⟨b,off,e,hb,hcc⟩:=k3 hp
   refine ⟨b,off,e,⟨hb,by omega⟩,fun i y hy=>?_⟩
   rw [List.getElem?_map] at hy
   obtain ⟨z,hz,rfl⟩:=Option.map_eq_some_iff.1 hy
   obtain ⟨cs',_,⟨rfl,_⟩,hj⟩:=hcc i z hz
   have:=hj 0 (by decide)
   rw [Nat.mul_one,Nat.add_zero] at this
   exact this
  ·exact ⟨by show (ns.map Prod.fst).length<=_;rw [hnl];exact a1,b2,c2,d2,f2,k1⟩
end
end
end Go.Proofs.YtlldagdhlfpihaaGreatDoor
