/- Parts. -/
import Derived.Test.YtgdjocajlndonaaGreatDoorZKTop
import Derived.Deep.OwnRows
set_option linter.all false
set_option maxHeartbeats 8000000
open Go.Lib renaming hid->Ya,cell_of_heap->Yb
open List renaming getElem?_eq_getElem->Yc,getD_eq_getElem?_getD->Yk,append_assoc->Ym,getElem?_map->Ys,map_append->Yv,take_succ_cons->Y8,nil_append->Yab,drop_succ_cons->Yae,getElem_mem->Yag,take_zero->Yal,append_nil->Yat,drop_zero->Yay,eq_of_mem_replicate->Yb8
open Array renaming getElem?_eq_some_iff->Ye
open Nat renaming le_refl->Yf
open Go.Value renaming int->Yt,oneCell'->Y3
open Go.IntWalk renaming i64_in->Yu
open Prod renaming fst->Yan,snd->Ybd
namespace Go.Proofs.YtgdjocajlndonaaGreatDoor
set_option maxRecDepth 100000
open Go.RowKit
def Zsj (An Ar Ag As Aq Ap:Option Addr)(cn cr cg cs cq cp:Nat)(x:S.am):Value:=.agg #[.slice An x.nodes.length cn,.slice Ar x.roots.length cr,.slice Ag x.glob.length cg,.slice As x.stat.length cs,.slice Aq x.slots.length cq,.slice Ap x.places.length cp,.int .u32 x.sym.1,.int .u16 x.sym.2]
theorem Zd5 {w:World}{b n:Nat}(h:w.heap[b]?=some (.cells (madeCells #[.int .u32 0] n) 25 (0,0))):Reads w w.heap.size (some ⟨b,0,none⟩) ((S.aa n).map (Yt .u32)):=fun _=>by
 refine ⟨b,0,rfl,(Ye.1 h).1,fun i x hx=>?_⟩;have e:(madeCells #[Yt .u32 0] n).toList=(S.aa n).map (Yt .u32):=by
  rw [S.aa,List.map_replicate];exact toList_madeCells_one _ n
 rw [Nat.zero_add,Yb h];rw [<- e,Array.getElem?_toList] at hx;exact hx
theorem Zsk:S.kStatic∈S.wTells:=Zur (by kernel_rfl)
def Z33 (w':World)(z b p gb:Nat)(F:Nat->Prop)(H half:Int)(P:List (ByteArray×Int))(g:S.Gr)(m:S.Mach)(Aw:Option Addr)(cw:Nat)(Aa:Option Addr)(ca n:Nat)(ws az:List Int):Prop :=
 ∃ B1 lo,z<=B1/\KTop w' B1 lo b p F H half P m/\GAt w' (fun k=>F k\/B1<=k) gb g/\w'.ownsRow B1 25 1 (.slice Aw n cw) n (ws.map (Yt .u32))/\w'.ownsRow B1 3 1 (.slice Aa n ca) n (az.map (Yt .i64))
def Z4a (w:World)(x:S.am)(heap:Int)(e:Ending)(w':World):Prop :=
 ∃ Fs,S.Wr (S.aa x.ng) (S.aa x.ns) Fs heap/\Below w.heap.size w w' /\
  ((heap/2<S.sizes (S.ac x.nodes)/\e=.returned (.tuple #[.pointer none,.pointer none,.slice none 0 0,.slice none 0 0]))\/(S.sizes (S.ac x.nodes)<=heap/2/\∃ b p F gb Aw cw Aa ca g,g=S.ah x.nodes (S.wL (S.aa x.ng) (S.aa x.ns) Fs).length/\e=.returned (.tuple #[.pointer (some ⟨b,0,none⟩),.pointer (some ⟨gb,0,none⟩),.slice Aw (x.pl g).length cw,.slice Aa (x.pl g).length ca]) /\
   KAt w' w.heap.size b p F (S.wL (S.aa x.ng) (S.aa x.ns) Fs).length (heap/2) (S.wP (S.aa x.ng) (S.aa x.ns) Fs) (S.a8 x g ((S.ag g (S.wM (S.wL (S.aa x.ng) (S.aa x.ns) Fs) heap [])).setV 26 ((S.wL (S.aa x.ng) (S.aa x.ns) Fs).length+S.sizes g.ns))) /\
   GAt w' F gb g/\ReadsF w' F Aw (((x.pl g).map Ybd).map (Yt .u32))/\ReadsF w' F Aa (((x.pl g).map Yan).map (Yt .i64)) /\
   Z33 w' w.heap.size b p gb F (S.wL (S.aa x.ng) (S.aa x.ns) Fs).length (heap/2) (S.wP (S.aa x.ng) (S.aa x.ns) Fs) g (S.a8 x g ((S.ag g (S.wM (S.wL (S.aa x.ng) (S.aa x.ns) Fs) heap [])).setV 26 ((S.wL (S.aa x.ng) (S.aa x.ns) Fs).length+S.sizes g.ns))) Aw cw Aa ca (x.pl g).length ((x.pl g).map Ybd) ((x.pl g).map Yan)))
theorem Zvt (w:World)(hL:LVE w)(x:S.am)(hx:x.Ok)(An Ar Ag As Aq Ap:Option Addr)(cn cr cg cs cq cp:Nat)(hs:SttF w An Ar Ag As Aq Ap x)(hcr:x.roots.length<=cr)(heap:Int)(hheap:2<=heap/\heap<=4000):Calls Tryz.prog 13 #[Zsj An Ar Ag As Aq Ap cn cr cg cs cq cp x,.int .i64 heap] w (Z4a w x heap):=by
 unfold Zsj;have hfew:=hs.few;have hle:=Zb3 x;obtain ⟨NN,hNN⟩:∃ N,N=x.nodes.length:=⟨_,rfl⟩
 obtain ⟨NR,hNR⟩:∃ N,N=x.roots.length:=⟨_,rfl⟩
 obtain ⟨NG,hNG⟩:∃ N,N=x.glob.length:=⟨_,rfl⟩
 obtain ⟨NS,hNS⟩:∃ N,N=x.stat.length:=⟨_,rfl⟩
 obtain ⟨NQ,hNQ⟩:∃ N,N=x.slots.length:=⟨_,rfl⟩
 obtain ⟨NP,hNP⟩:∃ N,N=x.places.length:=⟨_,rfl⟩
 obtain ⟨R,hR⟩:∃ N,N=x.nr:=⟨_,rfl⟩
 obtain ⟨G,hG⟩:∃ N,N=x.ng:=⟨_,rfl⟩
 obtain ⟨T,hT⟩:∃ N,N=x.ns:=⟨_,rfl⟩
 obtain ⟨Q,hQ⟩:∃ N,N=x.nq:=⟨_,rfl⟩
 have mR:min (NR:Int) 8=(R:Int):=by have:x.nr=min x.roots.length 8:=rfl;omega
 have mG:min (NG:Int) 6=(G:Int):=by have:x.ng=min x.glob.length 6:=rfl;omega
 have mT:min (NS:Int) 6=(T:Int):=by have:x.ns=min x.stat.length 6:=rfl;omega
 have mQ:Q=min (min NQ NP) 6:=by rw [hQ,hNQ,hNP];rfl
 obtain ⟨⟨sy,sz⟩,hsym⟩:∃ q,q=x.sym:=⟨_,rfl⟩
 rw [<- hNN,<- hNR,<- hNG,<- hNS,<- hNQ,<- hNP] at hfew;rw [<- hNR,<- hNG,<- hNS,<- hNQ,<- hNP] at hle;rw [<- hR,<- hG,<- hT,<- hQ] at hle;rw [<- hNN,<- hNR,<- hNG,<- hNS,<- hNQ,<- hNP,<- hsym];rw [<- hNR] at hcr;have HS:=Ya hs;have HX:=Ya hx;have HLV:=Ya hL;have HNN:=Ya hNN;have HNR:=Ya hNR;have HNG:=Ya hNG;have HNS:=Ya hNS;have HNQ:=Ya hNQ;have HNP:=Ya hNP;have HR:=Ya hR;have HG:=Ya hG;have HT:=Ya hT;have HQ:=Ya hQ;have HSym:=Ya hsym;have HMQ:=Ya mQ;clear hs hx hL hNN hNR hNG hNS hNQ hNP hR hG hT hQ hsym mQ;simp only;go_enter Tryz.func13,Tryz.ntmps13
 go_upto_region 1 with fail
 have hb1:=(Below.refl w.heap.size w).alloc (Yf _) (.cells #[.slice An NN cn,.slice Ar NR cr,.slice Ag NG cg,.slice As NS cs,.slice Aq NQ cq,.slice Ap NP cp,.int .u32 sy,.int .u16 sz] 30);have hr1:=heap_alloc_new w (.cells #[.slice An NN cn,.slice Ar NR cr,.slice Ag NG cg,.slice As NS cs,.slice Aq NQ cq,.slice Ap NP cp,.int .u32 sy,.int .u16 sz] 30);generalize w.alloc (.cells #[.slice An NN cn,.slice Ar NR cr,.slice Ag NG cg,.slice As NS cs,.slice Aq NQ cq,.slice Ap NP cp,.int .u32 sy,.int .u16 sz] 30)=wx at *;obtain ⟨B0,hB0⟩:=Yx w.heap.size;have hzx:B0+1<=wx.heap.size:=by have:=(Ye.1 hr1).1;omega
 rw [<- hB0] at hr1 hb1 ⊢;have HB0:=Ya hB0;have HBx:=Ya hb1;have HBox:=Ya hr1;have z2:wx.cell? ⟨B0,2,none⟩=some (.slice Ag NG cg):=by rw [Yb hr1];rfl
 clear hb1 hB0;have hmk:=run_make_row' (P:=Tryz.prog) 33 25 (.int .u32 0) 4 Tryz.underlying33 Zy rfl .i64 .i64 G (by omega) (by omega);go_upto_region 2 with fail
 have hbG:=(Below.refl wx.heap.size wx).alloc (Yf _) (.cells (madeCells #[.int .u32 0] G) 25);have hrG:=heap_alloc_new wx (.cells (madeCells #[.int .u32 0] G) 25);generalize wx.alloc (.cells (madeCells #[.int .u32 0] G) 25)=w2 at *;clear hmk z2;have hz2:wx.heap.size+1<=w2.heap.size:=(Ye.1 hrG).1;have z3:w2.cell? ⟨B0,3,none⟩=some (.slice As NS cs):=by rw [Yb ((hbG.block B0 (by omega)).trans hr1)];rfl
 have hmk:=run_make_row' (P:=Tryz.prog) 33 25 (.int .u32 0) 4 Tryz.underlying33 Zy rfl .i64 .i64 T (by omega) (by omega);go_upto_region 3 with fail
 have hbT:=(Below.refl w2.heap.size w2).alloc (Yf _) (.cells (madeCells #[.int .u32 0] T) 25);have hrT:=heap_alloc_new w2 (.cells (madeCells #[.int .u32 0] T) 25);generalize w2.alloc (.cells (madeCells #[.int .u32 0] T) 25)=w3 at *;clear hmk z3;have hz3:w2.heap.size+1<=w3.heap.size:=(Ye.1 hrT).1;have hrG3:=(hbT.block wx.heap.size (by omega)).trans hrG;have HB3:=Ya (show Below (B0+1) wx w3 from (hbG.mono hzx).trans (hbT.mono (by omega)));have HL3:=Ya (show LVE w3 from by
  have h1:=HBx.out;have h2:=HB3.out;refine HLV.out.on ?_;rw [HB0.out] at h1;exact h1.trans (h2.mono (by rw [HB0.out];omega)))
 have hw:=Zps (some ⟨wx.heap.size,0,none⟩) (some ⟨w2.heap.size,0,none⟩) G T (S.aa G) (S.aa T) heap w3 HL3.out (Zd5 hrG3) (Zd5 hrT) (by rw [Zh];omega) (by rw [Zh];omega) (fun y hy=>by rw [Yb8 hy];decide) (fun y hy=>by rw [Yb8 hy];decide) ⟨by omega,by omega⟩;rw [Zh,Zh] at hw;have Hw:=Ya hw;clear hw hbG hrG hbT hrT hrG3 hr1;go_wp2_with fail
 refine Hw.out.mono ?_;rintro e w4 ⟨Fs,b,p,F,hwr,rfl,hk4,hb4⟩;have HWr:=Ya hwr;have HK4:=Ya hk4;have HB4:=Ya (HB3.out.trans (hb4.mono (by omega)));have HFx:=Ya (show ∀ k,F k->B0+1<=k from fun k hk=>by have:=(hk4.lt k hk).1;omega);clear hwr hk4 hb4 Hw HB3 HL3;obtain ⟨m0,hm0⟩:=Yx (S.wM (S.wL (S.aa G) (S.aa T) Fs) heap []);obtain ⟨H,hH⟩:∃ H:Int,H=(S.wL (S.aa G) (S.aa T) Fs).length:=⟨_,rfl⟩
 have hHb:0<=H/\H<=12000:=by have:=HWr.out.small;omega
 have hrd:m0.rd 26=H/\m0.rd 27=H+heap/2:=by
  have:=HWr.out.fst.rd;rw [<- hm0,<- hH] at this;exact ⟨this 26,this 27⟩
 have hml:(m0.mem.length:Int)=H+heap:=by
  have h2:=HWr.out.wd.len;rw [<- hm0,<- hH] at h2;exact h2
 rw [<- hm0,<- hH] at HK4;have Hm0:=Ya hm0;have HH:=Ya hH;have HRd:=Ya hrd;have HMl:=Ya hml;have hzx4:B0+1<=w4.heap.size:=Nat.le_trans hzx HB4.out.size;have hGpass:∀ w',Below (B0+1) wx w'->Pass (fun k=>w.heap.size<=k) w (fun k=>w.heap.size<=k) w':=fun w' h=>.of_below (by
  have h1:=HBx.out;rw [HB0.out] at h1;exact h1.trans (h.mono (by rw [HB0.out];omega)))
 have HPass:=Ya hGpass;have hnodes:NodesF w4 F An x.nodes:=by
  have h1:=HS.out.nodes.pass (hGpass w4 HB4.out);exact h1.pass ⟨.refl _ _,fun k _ hk=>by have:=HFx.out k hk;have:=HB0.out;omega⟩
 have hlay:=Z21 HK4.out An cn x.nodes hnodes HS.out.few.1 (by rw [hrd.1];omega) (Zaz HX.out.nodes (by rw [hrd.1];omega)) (by omega);rw [<- HNN.out] at hlay;have Hlay:=Ya hlay;have hbox4:=(HB4.out.block B0 (by omega)).trans HBox.out;have z0:w4.cell? ⟨B0,0,none⟩=some (.slice An NN cn):=by rw [Yb hbox4];rfl
 clear hGpass hnodes hlay hbox4 hm0 hH hrd hml mG mT;go_wp2_with fail
 refine Hlay.out.mono ?_;rintro e w5 hcase;clear z0 Hlay;obtain ⟨sz0,hsz0⟩:∃ s,s=S.sizes (S.ac x.nodes):=⟨_,rfl⟩
 unfold Z20 at hcase;rw [<- hsz0,HRd.out.2,HRd.out.1] at hcase;have HSz:=Ya hsz0;clear hsz0;rcases hcase with ⟨hc1,rfl,hb5⟩ | ⟨hc1,gb,rfl,hga5,hk5,ho5⟩
 ·have HB5:=Ya (HB4.out.trans (hb5.mono hzx4))
  clear hb5;go_wp2_with fail
  refine bodyPost_ret (v:=.tuple #[.pointer none,.pointer none,.slice none 0 0,.slice none 0 0]) (by simp [results,Tryz.results13,go_sem]) rfl ?_;refine ⟨Fs,by rw [<- HG.out,<- HT.out];exact HWr.out,?_,.inl ⟨by rw [<- HSz.out];omega,rfl⟩⟩;have h1:=HBx.out;rw [HB0.out] at h1;exact h1.trans (HB5.out.mono (by rw [HB0.out];omega))
 obtain ⟨g,hg⟩:=Yx (S.ah x.nodes H);rw [<- hg] at hga5 hk5;obtain ⟨m1,hm1⟩:=Yx ((S.ag g m0).setV 26 (H+sz0));rw [<- hm1] at hk5;have HGE:=Ya hg;have Hm1:=Ya hm1;have hgok:g.Ok H:=by rw [hg];exact Zaz HX.out.nodes ⟨by omega,by omega⟩
 have hgz:S.sizes g.ns=sz0:=by rw [hg,HSz.out];rfl
 have hszb:=Z0 x.nodes;rw [<- HSz.out] at hszb;have hgz2:H+S.sizes g.ns<=335544320:=by omega
 have HGok:=Ya hgok;have HGz:=Ya hgz;have HGz2:=Ya hgz2;obtain ⟨B1,hB1⟩:=Yx w5.heap.size;have hls:=LSt.start hk5 hga5 (HB4.out.trans (ho5.below hzx4 HFx.out)) HFx.out;rw [<- hB1] at hls;have HL0:Hid (LSt wx (B0+1) B1 w3.heap.size b p gb F H (heap/2) (S.wP (S.aa G) (S.aa T) Fs) g m1 (.slice none 0 0) (.slice none 0 0) 0 0 (([]++S.ao g 16 x.roots 0).map Ybd) (([]++S.ao g 16 x.roots 0).map Yan) w5):=Ya hls;obtain ⟨PP,hPP⟩:=Yx (S.wP (S.aa G) (S.aa T) Fs);obtain ⟨half,hhf⟩:∃ h,h=heap/2:=⟨_,rfl⟩
 obtain ⟨lo,hlo⟩:=Yx w3.heap.size;rw [<- hPP,<- hhf,<- hlo] at HL0;have HPP:=Ya hPP;have Hhf:=Ya hhf;have Hlo:=Ya (show w.heap.size<=lo from by have:=HB0.out;omega);have z1:w5.cell? ⟨B0,1,none⟩=some (.slice Ar NR cr):=by rw [Yb ((HL0.out.bel.block B0 (by omega)).trans HBox.out)];rfl
 clear hga5 hk5 ho5 hls hg hm1 hgok hgz hgz2 hB1 HK4 HB4 hszb hPP hhf hlo hz2 hz3;go_wp2_with fail
 go_loopw [12,13,15] (fun v12 v13 v15 wl=>∃ i:Nat,i<=R/\v15=.int .i64 i/\(∃ Aw cw Aa ca,v12=.slice Aw i cw/\v13=.slice Aa i ca/\Hid (LSt wx (B0+1) B1 lo b p gb F H half PP g m1 (.slice Aw i cw) (.slice Aa i ca) i i (([]++S.ao g 16 x.roots i).map Ybd) (([]++S.ao g 16 x.roots i).map Yan) wl))) (fun _ _ v15 _=>R-(intOf v15).toNat)
 case atStart=>exact ⟨0,by omega,rfl,_,_,_,_,rfl,rfl,HL0⟩
 case round =>
  obtain ⟨i,hi,rfl,Aw,cw,Aa,ca,rfl,rfl,HL⟩:=hrel;by_cases hlt:i<R
  ·have hil:i<x.roots.length:=by rw [<- HNR.out];omega
   obtain ⟨bw,ow,hAw,hbw,hcw⟩:=(HS.out.roots.pass (HPass.out wr HL.out.bel)) (by omega)
   obtain ⟨y0,y1,y2,y3,y4,y5⟩:=hcw i x.roots[i] (Yc hil);have hbw1:=hbw.1;have hgd:x.roots.getD i (0,0)=x.roots[i]:=by rw [Yk,Yc hil];rfl
   obtain ⟨y,hy⟩:=Yx x.roots[i];rw [<- hy] at y0 y1 y2 y3 y4 y5 hgd;obtain ⟨u,s⟩:=y;simp only at y0 y1 y2 y3 y4 y5;obtain ⟨gwv,hgwv⟩:=Yx (g.word (u,s));have hgw:=Zcn (u,s) ⟨y2,y3,y4,y5⟩ HL.out.gat;rw [<- hgwv] at hgw;have Hgw:=Ya hgw;have Hgd:=Ya (show g.word (x.roots.getD i (0,0))=gwv from by rw [hgd,hgwv]);have d1:decide ((i:Int)<R)=true:=by simp;omega
   have c1:IntKind.i64.wrap (16+(i:Int))=16+(i:Int):=Yu _ ⟨by omega,by omega⟩;have c2:IntKind.i64.wrap ((i:Int)+1)=i+1:=Yu _ ⟨by omega,by omega⟩;have hK63:i<=1000:=by omega
   subst hAw;clear hgw hgd hgwv hcw hbw hy;go_wp2_with fail
   refine Hgw.out.mono ?_;rintro e w6 ⟨rfl,hb6⟩;have HL6:=Ya (HL.out.below hb6);clear HL hb6 Hgw y0 y1;go_upto_region 16 with (at_builtin;refine Zg rfl (.tmp 57) (.tmp 64) _ rfl B1 25 Zy Tryz.underlying33 rfl (by decide) #[.int .u32 gwv] _ i _ rfl HL6.out.rw rfl rfl rfl (by simp [Y3]) (by simp only [maxLen];omega) (by omega) HL6.out.top.z ?_;intro v' w7 ho7 hg7 hb7 _;obtain ⟨A8,c8,rfl⟩:=Za ho7)
   have HL7:=Ya (HL6.out.pushW ho7 hg7 hb7);clear HL6 ho7 hg7 hb7;go_upto_region 14 with (at_builtin;refine Zg rfl (.tmp 66) (.tmp 69) _ rfl B1 3 Zbv Tryz.underlying34 rfl (by decide) #[.int .i64 (16+(i:Int))] _ i _ rfl HL7.out.ra rfl rfl rfl (by simp [Y3]) (by simp only [maxLen];omega) (by omega) HL7.out.top.z ?_;intro v' w9 ho9 hg9 hb9 _;obtain ⟨A9,c9,rfl⟩:=Za ho9)
   have HL9:=Ya (HL7.out.pushA ho9 hg9 hb9);clear HL7 ho9 hg9 hb9;go_wp2_with fail
   go_roundw
   case rel =>
    refine ⟨i+1,by omega,rfl,_,_,_,_,rfl,rfl,Ya ?_⟩;rw [plS,plF,Hgd.out];exact HL9.out
   case measure=>simp [intOf];omega
  ·have hie:R=i :=
    by omega
   subst hie;have d1:decide ((R:Int)<R)=false:=by simp
   clear HL0;obtain ⟨_,_,_,_,_,_,e0,e1,e2,e3,e4⟩:=HL.out.top.kat.cells;have hbl:=HL.out.top.kat.blt;have c1:(R:Int)%4294967296=R:=by omega
   obtain ⟨m2,hm2⟩:=Yx (m1.putV 8 (R:Int));go_wp2_with fail
   refine (Zk0 8 R HL.out.top (by omega)).mono ?_;rintro e w6 ⟨rv,rfl,hk6,ho6⟩;rw [<- hm2] at hk6;have HL6:=Ya (HL.out.put hk6 ho6);have Hm2:=Ya hm2;clear hk6 ho6 HL e0 e1 e2 e3 e4 hbl c1 hm2;obtain ⟨P1,hP1⟩:=Yx (S.ao g 16 x.roots R);have HL1:Hid (LSt wx (B0+1) B1 lo b p gb F H half PP g m2 (.slice Aw R cw) (.slice Aa R ca) R R ((P1++S.ao g 1312 x.glob 0).map Ybd) ((P1++S.ao g 1312 x.glob 0).map Yan) w6):=Ya (by
    rw [show S.ao g 1312 x.glob 0=[] from rfl,Yat,hP1];have h:=HL6.out;rw [Yab] at h;exact h)
   have HP1:=Ya hP1;clear HL6 hP1;go_wp2_with fail
   go_loopw [12,13,16] (fun v12 v13 v16 wl=>∃ i:Nat,i<=G/\v16=.int .i64 i/\(∃ Aw cw Aa ca,v12=.slice Aw (R+i) cw/\v13=.slice Aa (R+i) ca/\Hid (LSt wx (B0+1) B1 lo b p gb F H half PP g m2 (.slice Aw (R+i) cw) (.slice Aa (R+i) ca) (R+i) (R+i) ((P1++S.ao g 1312 x.glob i).map Ybd) ((P1++S.ao g 1312 x.glob i).map Yan) wl))) (fun _ _ v16 _=>G-(intOf v16).toNat)
   case atStart=>exact ⟨0,by omega,rfl,_,_,_,_,rfl,rfl,HL1⟩
   case round =>
    obtain ⟨i,hi,rfl,Aw,cw,Aa,ca,rfl,rfl,HL⟩:=hrel;by_cases hlt:i<G
    ·have hil:i<x.glob.length:=by rw [<- HNG.out];omega
     obtain ⟨bw,ow,hAw,hbw,hcw⟩:=(HS.out.glob.pass (HPass.out wr HL.out.bel)) (by omega)
     obtain ⟨y0,y1,y2,y3,y4,y5⟩:=hcw i x.glob[i] (Yc hil);have hbw1:=hbw.1;have hgd:x.glob.getD i (0,0)=x.glob[i]:=by rw [Yk,Yc hil];rfl
     obtain ⟨y,hy⟩:=Yx x.glob[i];rw [<- hy] at y0 y1 y2 y3 y4 y5 hgd;obtain ⟨u,s⟩:=y;simp only at y0 y1 y2 y3 y4 y5;obtain ⟨gwv,hgwv⟩:=Yx (g.word (u,s));have hgw:=Zcn (u,s) ⟨y2,y3,y4,y5⟩ HL.out.gat;rw [<- hgwv] at hgw;have Hgw:=Ya hgw;have Hgd:=Ya (show g.word (x.glob.getD i (0,0))=gwv from by rw [hgd,hgwv]);have d1:decide ((i:Int)<G)=true:=by simp;omega
     have c1:IntKind.i64.wrap (1312+(i:Int))=1312+(i:Int):=Yu _ ⟨by omega,by omega⟩;have c2:IntKind.i64.wrap ((i:Int)+1)=i+1:=Yu _ ⟨by omega,by omega⟩;have z2:wr.cell? ⟨B0,2,none⟩=some (.slice Ag NG cg):=by rw [Yb ((HL.out.bel.block B0 (by omega)).trans HBox.out)];rfl
     have hK63:(R+i)<=1000:=by omega
     subst hAw;clear hgw hgd hgwv hcw hbw hy;go_wp2_with fail
     refine Hgw.out.mono ?_;rintro e w6 ⟨rfl,hb6⟩;have HL6:=Ya (HL.out.below hb6);clear HL hb6 Hgw y0 y1 z2;go_upto_region 22 with (at_builtin;refine Zg rfl (.tmp 85) (.tmp 93) _ rfl B1 25 Zy Tryz.underlying33 rfl (by decide) #[.int .u32 gwv] _ (R+i) _ rfl HL6.out.rw rfl rfl rfl (by simp [Y3]) (by simp only [maxLen];omega) (by omega) HL6.out.top.z ?_;intro v' w7 ho7 hg7 hb7 _;obtain ⟨A8,c8,rfl⟩:=Za ho7)
     have HL7:=Ya (HL6.out.pushW ho7 hg7 hb7);clear HL6 ho7 hg7 hb7;go_upto_region 20 with (at_builtin;refine Zg rfl (.tmp 95) (.tmp 98) _ rfl B1 3 Zbv Tryz.underlying34 rfl (by decide) #[.int .i64 (1312+(i:Int))] _ (R+i) _ rfl HL7.out.ra rfl rfl rfl (by simp [Y3]) (by simp only [maxLen];omega) (by omega) HL7.out.top.z ?_;intro v' w9 ho9 hg9 hb9 _;obtain ⟨A9,c9,rfl⟩:=Za ho9)
     have HL9:=Ya (HL7.out.pushA ho9 hg9 hb9);clear HL7 ho9 hg9 hb9;go_wp2_with fail
     go_roundw
     case rel =>
      refine ⟨i+1,by omega,rfl,_,_,_,_,rfl,rfl,Ya ?_⟩;rw [plS,plF,Hgd.out];exact HL9.out
     case measure=>simp [intOf];omega
    ·have hie:G=i:=by omega
     subst hie;have d1:decide ((G:Int)<G)=false:=by simp
     clear HL1;obtain ⟨P2,hP2⟩:=Yx (P1++S.ao g 1312 x.glob G);rw [<- hP2] at HL;obtain ⟨sa,hsa⟩:=Yx ((1312:Int)+G);have HL2:Hid (LSt wx (B0+1) B1 lo b p gb F H half PP g m2 (.slice Aw (R+G) cw) (.slice Aa (R+G) ca) (R+G) (R+G) ((P2++S.ao g sa x.stat 0).map Ybd) ((P2++S.ao g sa x.stat 0).map Yan) wr):=Ya (by
      rw [show S.ao g sa x.stat 0=[] from rfl,Yat];exact HL.out)
     have hfind:S.findP PP S.kStatic=some sa:=by
      obtain ⟨f1,_,_⟩:=Za2 (HWr.out.ok true) Zsk;have f2:=(Zt (HWr.out.ok true)).1;rw [Zh] at f2;rw [f2,<- hsa] at f1;rw [HPP.out];exact f1
     have Hat:=Ya (show ∀ (y:World) (m:S.Mach),KAt y lo b p F H half PP m->Calls Tryz.prog 55 #[.pointer (some ⟨b,0,none⟩),.string ⟨#[115,116,97,116,105,99]⟩] y fun e w'=>e=.returned (.int .i64 sa)/\Below y.heap.size y w' from fun y m hy=>by
      have h:=Z32 S.kStatic hy;rw [hfind] at h;exact h)
     have Hsa:=Ya hsa;have HP2:=Ya hP2;have hsab:0<=sa/\sa<=2000:=by omega
     clear HL hP2 hsa hfind;go_wp2_with fail
     go_loopw [12,13,17] (fun v12 v13 v17 wl=>∃ i:Nat,i<=T/\v17=.int .i64 i/\(∃ Aw cw Aa ca,v12=.slice Aw ((R+G)+i) cw/\v13=.slice Aa ((R+G)+i) ca/\Hid (LSt wx (B0+1) B1 lo b p gb F H half PP g m2 (.slice Aw ((R+G)+i) cw) (.slice Aa ((R+G)+i) ca) ((R+G)+i) ((R+G)+i) ((P2++S.ao g sa x.stat i).map Ybd) ((P2++S.ao g sa x.stat i).map Yan) wl))) (fun _ _ v17 _=>T-(intOf v17).toNat)
     case atStart=>exact ⟨0,by omega,rfl,_,_,_,_,rfl,rfl,HL2⟩
     case round =>
      obtain ⟨i,hi,rfl,Aw,cw,Aa,ca,rfl,rfl,HL⟩:=hrel;by_cases hlt:i<T
      ·have hil:i<x.stat.length:=by rw [<- HNS.out];omega
       obtain ⟨bw,ow,hAw,hbw,hcw⟩:=(HS.out.stat.pass (HPass.out wr HL.out.bel)) (by omega)
       obtain ⟨y0,y1,y2,y3,y4,y5⟩:=hcw i x.stat[i] (Yc hil);have hbw1:=hbw.1;have hgd:x.stat.getD i (0,0)=x.stat[i]:=by rw [Yk,Yc hil];rfl
       obtain ⟨y,hy⟩:=Yx x.stat[i];rw [<- hy] at y0 y1 y2 y3 y4 y5 hgd;obtain ⟨u,s⟩:=y;simp only at y0 y1 y2 y3 y4 y5;obtain ⟨gwv,hgwv⟩:=Yx (g.word (u,s));have hgw:=Zcn (u,s) ⟨y2,y3,y4,y5⟩ HL.out.gat;rw [<- hgwv] at hgw;have Hgw:=Ya hgw;have Hgd:=Ya (show g.word (x.stat.getD i (0,0))=gwv from by rw [hgd,hgwv]);have d1:decide ((i:Int)<T)=true:=by simp;omega
       have c1:IntKind.i64.wrap (sa+(i:Int))=sa+(i:Int):=Yu _ ⟨by omega,by omega⟩;have c2:IntKind.i64.wrap ((i:Int)+1)=i+1:=Yu _ ⟨by omega,by omega⟩;have z3:wr.cell? ⟨B0,3,none⟩=some (.slice As NS cs):=by rw [Yb ((HL.out.bel.block B0 (by omega)).trans HBox.out)];rfl
       have hK63:((R+G)+i)<=1000:=by omega
       subst hAw;clear hgw hgd hgwv hcw hbw hy;go_wp2_with fail
       refine Hgw.out.mono ?_;rintro e w6 ⟨rfl,hb6⟩;have HL6:=Ya (HL.out.below hb6);clear HL hb6 Hgw y0 y1 z3;go_upto_region 27 with (at_builtin;refine Zg rfl (.tmp 106) (.tmp 114) _ rfl B1 25 Zy Tryz.underlying33 rfl (by decide) #[.int .u32 gwv] _ ((R+G)+i) _ rfl HL6.out.rw rfl rfl rfl (by simp [Y3]) (by simp only [maxLen];omega) (by omega) HL6.out.top.z ?_;intro v' w7 ho7 hg7 hb7 _;obtain ⟨A8,c8,rfl⟩:=Za ho7)
       have HL7:=Ya (HL6.out.pushW ho7 hg7 hb7);clear HL6 ho7 hg7 hb7;go_wp2_with fail
       refine (Hat.out _ _ HL7.out.top.kat).mono ?_;rintro e w8 ⟨rfl,hb8⟩;have HL8:=Ya (HL7.out.below hb8);clear HL7 hb8;go_upto_region 25 with (at_builtin;refine Zg rfl (.tmp 116) (.tmp 121) _ rfl B1 3 Zbv Tryz.underlying34 rfl (by decide) #[.int .i64 (sa+(i:Int))] _ ((R+G)+i) _ rfl HL8.out.ra rfl rfl rfl (by simp [Y3]) (by simp only [maxLen];omega) (by omega) HL8.out.top.z ?_;intro v' w9 ho9 hg9 hb9 _;obtain ⟨A9,c9,rfl⟩:=Za ho9)
       have HL9:=Ya (HL8.out.pushA ho9 hg9 hb9);clear HL8 ho9 hg9 hb9;go_wp2_with fail
       go_roundw
       case rel =>
        refine ⟨i+1,by omega,rfl,_,_,_,_,rfl,rfl,Ya ?_⟩;rw [plS,plF,Hgd.out];exact HL9.out
       case measure=>simp [intOf];omega
      ·have hie:T=i:=by omega
       subst hie;have d1:decide ((T:Int)<T)=false:=by simp
       clear HL2;obtain ⟨P3,hP3⟩:=Yx (P2++S.ao g sa x.stat T);rw [<- hP3] at HL;have z6:wr.cell? ⟨B0,6,none⟩=some (.int .u32 sy):=by rw [Yb ((HL.out.bel.block B0 (by omega)).trans HBox.out)];rfl
       have z7:wr.cell? ⟨B0,7,none⟩=some (.int .u16 sz):=by rw [Yb ((HL.out.bel.block B0 (by omega)).trans HBox.out)];rfl
       have hsw:=HX.out.sym;rw [<- HSym.out] at hsw;obtain ⟨gwv,hgwv⟩:=Yx (g.word (sy,sz));have hgw:=Zcn (sy,sz) hsw HL.out.gat;rw [<- hgwv] at hgw;have Hgw:=Ya hgw;have Hgwv:=Ya hgwv;have HP3:=Ya hP3;have hz:B0<wr.heap.size:=by have:=HL.out.bel.size;omega
       clear hgw hgwv hP3 hsw;go_wp2_with fail
       refine Hgw.out.mono ?_;rintro e w6 ⟨rfl,hb6⟩;have HL6:=Ya (HL.out.below hb6);clear HL hb6 Hgw z6 z7 hz;go_upto_region 29 with (at_builtin;refine Zg rfl (.tmp 123) (.tmp 128) _ rfl B1 25 Zy Tryz.underlying33 rfl (by decide) #[.int .u32 gwv] _ (R+G+T) _ rfl HL6.out.rw rfl rfl rfl (by simp [Y3]) (by simp only [maxLen];omega) (by omega) HL6.out.top.z ?_;intro v' w7 ho7 hg7 hb7 _;obtain ⟨A8,c8,rfl⟩:=Za ho7)
       have HL7:=Ya (HL6.out.pushW ho7 hg7 hb7);clear HL6 ho7 hg7 hb7;go_upto_region 30 with (at_builtin;refine Zg rfl (.tmp 130) (.tmp 131) _ rfl B1 3 Zbv Tryz.underlying34 rfl (by decide) #[.int .i64 5] _ (R+G+T) _ rfl HL7.out.ra rfl rfl rfl (by simp [Y3]) (by simp only [maxLen];omega) (by omega) HL7.out.top.z ?_;intro v' w9 ho9 hg9 hb9 _;obtain ⟨A9,c9,rfl⟩:=Za ho9)
       have HL9:=Ya (HL7.out.pushA ho9 hg9 hb9);clear HL7 ho9 hg9 hb9;obtain ⟨P4,hP4⟩:=Yx (P3++[((5:Int),gwv)]);have HL10:Hid (LSt wx (B0+1) B1 lo b p gb F H half PP g m2 (.slice A8 (R+G+T+1) c8) (.slice A9 (R+G+T+1) c9) (R+G+T+1) (R+G+T+1) (P4.map Ybd) (P4.map Yan) w9):=Ya (by
        rw [hP4,Yv,Yv];exact HL9.out)
       have HP4:=Ya hP4;clear HL9 hP4;obtain ⟨n0,hn0⟩:=Yx (R+G+T+1);have hn0b:n0<=30:=by omega
       rw [<- hn0] at HL10 ⊢;have Hn0:=Ya hn0;clear hn0;go_upto_region 31 with fail
       have hbq:=(Below.refl w9.heap.size w9).alloc (Yf _) (.cells #[.int .u32 0,.int .u32 0] 92);have hrq:=heap_alloc_new w9 (.cells #[.int .u32 0,.int .u32 0] 92);generalize w9.alloc (.cells #[.int .u32 0,.int .u32 0] 92)=w10 at *;obtain ⟨qb,hqb⟩:=Yx w9.heap.size;rw [<- hqb] at hrq ⊢;have hqB:B1<=qb:=by rw [hqb];exact HL10.out.top.z
       have HQ0:=Ya hrq;have HL11:=Ya (HL10.out.below hbq);clear hbq hrq HL10 hqb;go_wp2_with fail
       go_loopw [12,13,19] (fun v12 v13 v19 wl=>∃ i:Nat,i<=Q/\v19=.int .i64 i/\(∃ n Aw cw Aa ca,v12=.slice Aw n cw/\v13=.slice Aa n ca/\n<=n0+i/\Hid (LSt wx (B0+1) B1 lo b p gb F H half PP g m2 (.slice Aw n cw) (.slice Aa n ca) n n ((P4++(S.af g x.slots x.places i).2.2).map Ybd) ((P4++(S.af g x.slots x.places i).2.2).map Yan) wl))/\Hid (wl.heap[qb]?=some (.cells #[.int .u32 (S.af g x.slots x.places i).1,.int .u32 (S.af g x.slots x.places i).2.1] 92 (0,0)))) (fun _ _ v19 _=>Q-(intOf v19).toNat)
       case atStart =>
        refine ⟨0,by omega,rfl,⟨_,_,_,_,_,rfl,rfl,by omega,?_⟩,HQ0⟩;rw [show (S.af g x.slots x.places 0).2.2=[] from rfl,Yat];exact HL11
       case round =>
        clear HL11 HQ0;obtain ⟨i,hi,rfl,⟨n,Aw,cw,Aa,ca,rfl,rfl,hn,HL⟩,HQb⟩:=hrel;have hbox:=(HL.out.bel.block B0 (by omega)).trans HBox.out;have hzb:B0<wr.heap.size:=by have:=HL.out.bel.size;omega
        have z4:wr.cell? ⟨B0,4,none⟩=some (.slice Aq NQ cq):=by rw [Yb hbox];rfl
        have z5:wr.cell? ⟨B0,5,none⟩=some (.slice Ap NP cp):=by rw [Yb hbox];rfl
        clear hbox;by_cases hlt:i<Q
        ·have hipl:i<x.places.length:=by rw [<- HNP.out];omega
         have hiq:i<x.slots.length:=by rw [<- HNQ.out];omega
         obtain ⟨bp,op,hAp,hbp,hcp⟩:=(HS.out.places.pass (HPass.out wr HL.out.bel)) (by rw [List.length_map];omega)
         have y6:=hcp i (.int .u8 x.places[i]) (by rw [Ys,Yc hipl];rfl);have hpb:=HX.out.places _ (Yag hipl);have hpd:x.places.getD i 0=x.places[i]:=by rw [Yk,Yc hipl];rfl
         obtain ⟨pv,hpv⟩:=Yx x.places[i];rw [<- hpv] at y6 hpb hpd;obtain ⟨s,hs⟩:∃ s:Nat,s=(pv%64).toNat:=⟨_,rfl⟩
         have hs64:s<64:=by omega
         obtain ⟨qn,hqn⟩:∃ qn:Nat,qn=s/32:=⟨_,rfl⟩
         obtain ⟨r,hr⟩:∃ r:Nat,r=s%32:=⟨_,rfl⟩
         have r1:IntKind.u8.wrap (pv%64)=(s:Int):=by rw [show pv%64=(s:Int) from by omega];exact IntWalk.u8_in _ ⟨by omega,by omega⟩
         have r2:pv.tmod 64=(s:Int):=by rw [Int.tmod_eq_emod_of_nonneg hpb.1];omega
         have r4:pv%64=(s:Int):=by omega
         have r6:(s:Int)%256=s:=by omega
         have r8:(s:Int)%18446744073709551616=s:=by omega
         have ru1:IntKind.u8.wrap (s:Int)=s:=IntWalk.u8_in _ ⟨by omega,by omega⟩;have r9:(s:Int).tdiv 32=(qn:Int):=by rw [Int.tdiv_eq_ediv_of_nonneg (by omega)];omega
         have r10:(s:Int)/32=(qn:Int):=by omega
         have r11:(s:Int).tmod 32=(r:Int):=by rw [Int.tmod_eq_emod_of_nonneg (by omega)];omega
         have r12:(s:Int)%32=(r:Int):=by omega
         have r13:IntKind.i64.wrap (qn:Int)=qn:=Yu _ ⟨by omega,by omega⟩;have r14:IntKind.i64.wrap (r:Int)=r:=Yu _ ⟨by omega,by omega⟩;have r15:(r:Int)%18446744073709551616=r:=by omega
         have hok:=Zi5 HGok.out HGz2.out (pl:=x.places) HX.out.slots i (by omega);obtain ⟨b0,hb0⟩:=Yx (S.af g x.slots x.places i).1;obtain ⟨b1,hb1⟩:=Yx (S.af g x.slots x.places i).2.1;have hbb0:=hok.b0;have hbb1:=hok.b1;rw [<- hb0] at hbb0 HQb;rw [<- hb1] at hbb1 HQb;obtain ⟨bq,hbq⟩:∃ bq:Int,bq=if qn=0 then b0 else b1:=⟨_,rfl⟩
         have hbqb:0<=bq/\bq<4294967296:=by rw [hbq];split <;> assumption
         have hqr:qn<2/\r<32:=by omega
         have zq:wr.cell? ⟨qb,qn,none⟩=some (.int .u32 bq):=by
          rw [Yb HQb.out,hbq];rcases (show qn=0\/qn=1 from by omega) with h | h
          ·rw [h];rfl
          ·rw [h];rfl
         have hqz:qb<wr.heap.size:=(Ye.1 HQb.out).1;have d1:decide ((i:Int)<NQ)=true:=by simp;omega
         have d2:decide ((i:Int)<NP)=true:=by simp;omega
         have d3:decide ((i:Int)<6)=true:=by simp;omega
         have hbp1:=hbp.1;subst hAp;have Hpd:=Ya hpd;have Hs:=Ya (show s=(pv%64).toNat from hs);have Hqn:=Ya (show s=32*qn+r from by omega);have Hb0:=Ya hb0;have Hb1:=Ya hb1;have Hbq:=Ya hbq;clear hpd hs hqn hr hb0 hb1 hbq hcp hbp hpv hok;go_upto_region 35 with fail
         have tst:=Zyk hbqb r;have orr:=Z22 hbqb hqr.2;obtain ⟨tb,htb⟩:=Yx (S.bm bq r);rw [<- htb] at tst;have Htb:=Ya htb;have Hs2:=Ya (show x.places.getD i 0%64=(s:Int) from by rw [Hpd.out];exact r4);have fq:wr.frozen? ⟨qb,qn,none⟩=false:=Lib.frozen_of_heap HQb.out qn;have c2:IntKind.i64.wrap ((i:Int)+1)=i+1:=Yu _ ⟨by omega,by omega⟩;clear htb
         cases tb
         rotate_left
         ·go_wp2_with fail
          go_roundw
          case rel =>
           have hst:=Zv3 (g:=g) (sl:=x.slots) Hs2.out hs64 Hqn.out hqr.2 (by rw [<- Hb0.out,<- Hb1.out,<- Hbq.out];exact Htb.out.symm);refine ⟨i+1,by omega,rfl,⟨n,_,_,_,_,rfl,rfl,by omega,?_⟩,?_⟩
           ·rw [hst]
            exact HL
           ·rw [hst,<- Hb0.out,<- Hb1.out]
            exact HQb
          case measure=>simp [intOf];omega
         ·obtain ⟨hsA,hsB,hsC⟩:=Zsu (g:=g) (sl:=x.slots) Hs2.out hs64 Hqn.out hqr.2 Hb0.out Hb1.out (by rw [<- Hbq.out];exact Htb.out.symm)
          obtain ⟨b0',hb0'⟩:∃ b0',b0'=(if qn=0 then S.be b0 r else b0):=⟨_,rfl⟩
          obtain ⟨b1',hb1'⟩:∃ b1',b1'=(if qn=0 then b1 else S.be b1 r):=⟨_,rfl⟩
          rw [<- hb0'] at hsA;rw [<- hb1'] at hsB;have HQ2:Hid ((wr.setCell ⟨qb,qn,none⟩ (.int .u32 (S.be bq r))).heap[qb]?=some (.cells #[.int .u32 b0',.int .u32 b1'] 92 (0,0))):=Ya (by
           have h:=Zfy (j:=qn) (u:=.int .u32 (S.be bq r)) HQb.out;rw [h,hb0',hb1',Hbq.out];rcases (show qn=0\/qn=1 from by omega) with h | h
           ·rw [h];rfl
           ·rw [h];rfl)
          have HL2:=Ya (HL.out.set (j:=qn) (u:=.int .u32 (S.be bq r)) hqB HQb.out (by decide));have HsA:=Ya hsA;have HsB:=Ya hsB;have HsC:=Ya hsC;clear hsA hsB hsC hb0' hb1' y6;go_upto_region 37 with fail
          generalize wr.setCell ⟨qb,qn,none⟩ (.int .u32 (S.be bq r))=w6 at *;clear zq fq tst orr hqz HL HQb z4 z5;obtain ⟨bw,ow,hAw,hbw,hcw⟩:=(HS.out.slots.pass (HPass.out w6 HL2.out.bel)) (by omega)
          obtain ⟨y0,y1,y2,y3,y4,y5⟩:=hcw i x.slots[i] (Yc hiq);have hbw1:=hbw.1;have hgd:x.slots.getD i (0,0)=x.slots[i]:=by rw [Yk,Yc hiq];rfl
          obtain ⟨yy,hy⟩:=Yx x.slots[i];rw [<- hy] at y0 y1 y2 y3 y4 y5 hgd;obtain ⟨u,s5⟩:=yy;simp only at y0 y1 y2 y3 y4 y5;obtain ⟨gw5,hgw5⟩:=Yx (g.word (u,s5));have hgw:=Zcn (u,s5) ⟨y2,y3,y4,y5⟩ HL2.out.gat;rw [<- hgw5] at hgw;have Hgw:=Ya hgw;have Hgd:=Ya (show g.word (x.slots.getD i (0,0))=gw5 from by rw [hgd,hgw5]);have z4:w6.cell? ⟨B0,4,none⟩=some (.slice Aq NQ cq):=by rw [Yb ((HL2.out.bel.block B0 (by omega)).trans HBox.out)];rfl
          have hzb6:B0<w6.heap.size:=by have:=HL2.out.bel.size;omega
          have r20:IntKind.i64.wrap (32+(s:Int))=32+s:=Yu _ ⟨by omega,by omega⟩;subst hAw;clear hgw hgd hgw5 hcw hbw hy;go_wp2_with fail
          refine Hgw.out.mono ?_;rintro e w7 ⟨rfl,hb7⟩;have HL7:=Ya (HL2.out.below hb7);have HQ7:=Ya ((hb7.block qb (Ye.1 HQ2.out).1).trans HQ2.out);clear HL2 hb7 Hgw y0 y1 z4 HQ2;go_upto_region 38 with (at_builtin;refine Zg rfl (.tmp 180) (.tmp 188) _ rfl B1 25 Zy Tryz.underlying33 rfl (by decide) #[.int .u32 gw5] _ n _ rfl HL7.out.rw rfl rfl rfl (by simp [Y3]) (by simp only [maxLen];omega) (by omega) HL7.out.top.z ?_;intro v' w8 ho8 hg8 hb8 _;obtain ⟨A8,c8,rfl⟩:=Za ho8)
          have HQ8:=Ya (HL7.out.q_push HQ7.out (by decide) (.inl hg8));have HL8:=Ya (HL7.out.pushW ho8 hg8 hb8);clear HL7 ho8 hg8 hb8 HQ7;go_upto_region 33 with (at_builtin;refine Zg rfl (.tmp 190) (.tmp 193) _ rfl B1 3 Zbv Tryz.underlying34 rfl (by decide) #[.int .i64 (32+(s:Int))] _ n _ rfl HL8.out.ra rfl rfl rfl (by simp [Y3]) (by simp only [maxLen];omega) (by omega) HL8.out.top.z ?_;intro v' w9 ho9 hg9 hb9 _;obtain ⟨A9,c9,rfl⟩:=Za ho9)
          have HQ9:=Ya (HL8.out.q_push HQ8.out (by decide) (.inr hg9));have HL9:=Ya (HL8.out.pushA ho9 hg9 hb9);clear HL8 ho9 hg9 hb9 HQ8;go_wp2_with fail
          go_roundw
          case rel =>
           refine ⟨i+1,by omega,rfl,⟨n+1,_,_,_,_,rfl,rfl,by omega,Ya ?_⟩,Ya ?_⟩
           ·rw [HsC.out,Hgd.out,<- Ym,Yv,Yv (f:=Yan)]
            exact HL9.out
           ·rw [HsA.out,HsB.out]
            exact HQ9.out
          case measure=>simp [intOf];omega
        ·have hie:=Ya (show i=Q from by omega)
         have hout:(NQ<=i)\/(i<NQ/\NP<=i)\/(i<NQ/\i<NP/\6<=i):=by
          have:=HMQ.out;omega
         have Hout:=Ya hout;clear hlt hout;go_upto_region 32 with fail
         go_cut [148] from 133 to 147 (fun v148 wc=>v148=.bool false/\wr=wc)
         case first =>
          rcases Hout.out with h1 | ⟨h1,h2⟩ | ⟨h1,h2,h3⟩
          ·have d1:decide ((i:Int)<NQ)=false:=by simp;omega
           have d4:decide (i<NQ)=false:=by simp;omega
           go_wp2_with fail
           go_meet
           exact ⟨rfl,rfl⟩
          ·have d1:decide ((i:Int)<NQ)=true:=by simp;omega
           have d2:decide ((i:Int)<NP)=false:=by simp;omega
           have d4:decide (i<NQ)=true:=by simp;omega
           have d5:decide (i<NP)=false:=by simp;omega
           go_wp2_with fail
           go_meet
           exact ⟨rfl,rfl⟩
          ·have d1:decide ((i:Int)<NQ)=true:=by simp;omega
           have d2:decide ((i:Int)<NP)=true:=by simp;omega
           have d3:decide ((i:Int)<6)=false:=by simp;omega
           have d4:decide (i<NQ)=true:=by simp;omega
           have d5:decide (i<NP)=true:=by simp;omega
           have d6:decide (i<6)=false:=by simp;omega
           go_wp2_with fail
           go_meet
           exact ⟨by first | rfl | (simp;omega),rfl⟩
         case rest =>
         obtain ⟨rfl,rfl⟩:=hcut;clear z4 z5 Hout;obtain ⟨b0,hb0⟩:=Yx (x.q g).1;obtain ⟨b1,hb1⟩:=Yx (x.q g).2.1;obtain ⟨pl,hpl⟩:=Yx (x.pl g);have hq:S.af g x.slots x.places i=x.q g:=by rw [hie.out,HQ.out];rfl
         have hplE:P4++(x.q g).2.2=pl:=by
          rw [hpl];unfold S.am.pl;rw [HP4.out,HP3.out,HP2.out,HP1.out,<- HR.out,<- HG.out,<- HT.out,<- HSym.out,<- Hgwv.out,Hsa.out];simp only [Ym,List.cons_append,Yab]
         rw [hq,hplE] at HL;rw [hq,<- hb0,<- hb1] at HQb;have hpll:n=pl.length:=by have h:=HL.out.rw.1;simp at h;exact h.symm
         have hfit:=Zfx HGok.out HGz2.out HX.out;have hfst:=fun y=>(Zfw HGok.out HGz2.out HX.out y).1
         rw [<- hpl] at hfit hfst;have hsl:=Zst HGok.out HGz2.out HX.out;have hbb0:=hsl.b0;have hbb1:=hsl.b1;rw [<- hb0] at hbb0;rw [<- hb1] at hbb1;have hrng:∀ q∈pl,0<=q.1/\q.1<=100000:=fun q hq=>by
          have hst:=Zb3 x;rcases hfst q.1 (List.mem_map.2 ⟨q,hq,rfl⟩) with h | h | h | h
          ·omega
          ·have:=Zb3 x
           omega
          ·omega
          ·have:=Zet h
           omega
         have Hb0:=Ya hb0;have Hb1:=Ya hb1;have Hpl:=Ya hpl;have Hpll:=Ya hpll;have Hfit:=Ya hfit;have Hrng:=Ya hrng;have HL5:Hid (LSt wx (B0+1) B1 lo b p gb F H half PP g (S.puts m2 (pl.take 0)) (.slice Aw n cw) (.slice Aa n ca) n n (pl.map Ybd) (pl.map Yan) wr):=HL;clear hq hplE hpl hpll hfit hfst hsl hrng hb0 hb1 HL;go_wp2_with fail
         go_loopw [21] (fun v21 wl=>∃ k:Nat,k<=n/\v21=.int .i64 k/\Hid (LSt wx (B0+1) B1 lo b p gb F H half PP g (S.puts m2 (pl.take k)) (.slice Aw n cw) (.slice Aa n ca) n n (pl.map Ybd) (pl.map Yan) wl)/\Hid (wl.heap[qb]?=some (.cells #[.int .u32 b0,.int .u32 b1] 92 (0,0)))) (fun v21 _=>n-(intOf v21).toNat)
         case atStart=>exact ⟨0,by omega,rfl,HL5,HQb⟩
         case round =>
          clear HL5 HQb;obtain ⟨k,hk,rfl,HL,HQb⟩:=hrel;obtain ⟨_,_,_,_,_,_,e0,e1,e2,e3,e4⟩:=HL.out.top.kat.cells;have hbl:=HL.out.top.kat.blt;by_cases hlt:k<n
          ·have hkl:k<pl.length:=by rw [<- Hpll.out];exact hlt
           obtain ⟨gw,hgw,gw1,gw2,gw3,gw4,_⟩:=Zam HL.out.rw (by omega);obtain ⟨ga,hga,ga1,ga2,ga3,ga4,_⟩:=Zam HL.out.ra (by omega);have hm:=Yag hkl;have hf:=Hfit.out _ hm;have hr:=Hrng.out _ hm;obtain ⟨y,hy⟩:=Yx pl[k];have y0:wr.cell? ⟨gw,k,none⟩=some (.int .u32 y.2):=by
            have h:=gw4 k (by omega);rw [Ys,Ys,Yc hkl,<- hy] at h;exact h
           have y1:wr.cell? ⟨ga,k,none⟩=some (.int .i64 y.1):=by
            have h:=ga4 k (by omega);rw [Ys,Ys,Yc hkl,<- hy] at h;exact h
           have Htk:=Ya (show S.puts m2 (pl.take (k+1))=(S.puts m2 (pl.take k)).putV y.1 y.2 from by
            rw [List.take_add_one,Yc hkl,Za7,hy];rfl)
           rw [<- hy] at hf hr;have hfb:0<=y.2/\y.2<=4294967295:=⟨hf.1,by have:=hf.2.1;omega⟩
           obtain ⟨pa,pv⟩:=y;simp only at y0 y1 Htk hfb hr;have d1:decide ((k:Int)<n)=true:=by simp;omega
           have c2:IntKind.i64.wrap ((k:Int)+1)=k+1:=Yu _ ⟨by omega,by omega⟩;subst hgw hga;clear gw4 ga4 hm hf hy;go_upto_region 42 with fail
           refine Ze 12 (by kernel_rfl) (by kernel_rfl) ?_;have hE:=Zf wr;simp only [Y8,Yal,Yae,Yay]
           repeat (first | go_big_quiet_step (fail))
           refine wpQuiet_nil ?_;rintro w6 ⟨⟨_,hb6⟩,rfl⟩;have HL6:=Ya (HL.out.below hb6);have HQ6:=Ya ((hb6.block qb (Ye.1 HQb.out).1).trans HQb.out);clear hE hb6 HL HQb y0 y1 e0 e1 e2 e3 e4 hbl;go_wp2_with fail
           refine (Zk0 pa pv HL6.out.top hfb).mono ?_;rintro e w7 ⟨rv,rfl,hk7,ho7⟩;have HQ7:=Ya (HL6.out.q_put hqB HQ6.out ho7);have HL7:=Ya (HL6.out.put hk7 ho7);clear hk7 ho7 HL6 HQ6;go_wp2_with fail
           go_roundw
           case rel=>exact ⟨k+1,by omega,rfl,Ya (by rw [Htk.out];exact HL7.out),HQ7⟩
           case measure=>simp [intOf];omega
          ·have hke:k=n:=by omega
           have htk:pl.take k=pl:=by rw [hke,Hpll.out,List.take_length]
           rw [htk] at HL;have d1:decide ((k:Int)<n)=false:=by simp;omega
           clear htk hke;obtain ⟨mp,hmp⟩:=Yx (S.puts m2 pl);rw [<- hmp] at HL;have Hmp:=Ya hmp;clear hmp;go_wp2_with fail
           refine (Zk0 9 2 HL.out.top (by decide)).mono ?_;rintro e w6 ⟨rv,rfl,hk6,ho6⟩;have HQ6:=Ya (HL.out.q_put hqB HQb.out ho6);have HL6:=Ya (HL.out.put hk6 ho6);clear hk6 ho6 HL HQb e0 e1 e2 e3 e4 hbl d1;obtain ⟨_,_,_,_,_,_,e0,e1,e2,e3,e4⟩:=HL6.out.top.kat.cells;have hbl:=HL6.out.top.kat.blt;have zq:w6.cell? ⟨qb,0,none⟩=some (.int .u32 b0):=by rw [Yb HQ6.out];rfl
           have hqz:=(Ye.1 HQ6.out).1;go_upto_region 44 with fail
           refine Ze 6 (by kernel_rfl) (by kernel_rfl) ?_;have hE:=Zf w6;simp only [Y8,Yal,Yae,Yay]
           repeat (first | go_big_quiet_step (fail))
           refine wpQuiet_nil ?_;rintro w7 ⟨⟨_,hb7⟩,rfl⟩;have HL7:=Ya (HL6.out.below hb7);have HQ7:=Ya ((hb7.block qb hqz).trans HQ6.out);clear hE hb7 HL6 HQ6 zq hqz e0 e1 e2 e3 e4 hbl;go_wp2_with fail
           refine (Zk0 10 b0 HL7.out.top ⟨hbb0.1,by omega⟩).mono ?_;rintro e w8 ⟨rv1,rfl,hk8,ho8⟩;have HQ8:=Ya (HL7.out.q_put hqB HQ7.out ho8);have HL8:=Ya (HL7.out.put hk8 ho8);clear hk8 ho8 HL7 HQ7;obtain ⟨_,_,_,_,_,_,e0,e1,e2,e3,e4⟩:=HL8.out.top.kat.cells;have hbl:=HL8.out.top.kat.blt;have zq:w8.cell? ⟨qb,1,none⟩=some (.int .u32 b1):=by rw [Yb HQ8.out];rfl
           have hqz:=(Ye.1 HQ8.out).1;go_upto_region 45 with fail
           refine Ze 6 (by kernel_rfl) (by kernel_rfl) ?_;have hE:=Zf w8;simp only [Y8,Yal,Yae,Yay]
           repeat (first | go_big_quiet_step (fail))
           refine wpQuiet_nil ?_;rintro w9 ⟨⟨_,hb9⟩,rfl⟩;have HL9:=Ya (HL8.out.below hb9);clear hE hb9 HL8 HQ8 zq hqz e0 e1 e2 e3 e4 hbl;go_wp2_with fail
           refine (Zk0 11 b1 HL9.out.top ⟨hbb1.1,by omega⟩).mono ?_;rintro e w10 ⟨rv2,rfl,hk10,ho10⟩;have HL10:=Ya (HL9.out.put hk10 ho10);clear hk10 ho10 HL9;obtain ⟨_,_,_,_,_,_,e0,e1,e2,e3,e4⟩:=HL10.out.top.kat.cells;have hbl:=HL10.out.top.kat.blt;go_wp2_with fail
           refine (Zk0 6 9 HL10.out.top (by decide)).mono ?_;rintro e w11 ⟨rv3,rfl,hk11,ho11⟩;have HL11:=Ya (HL10.out.put hk11 ho11);clear hk11 ho11 HL10 e0 e1 e2 e3 e4 hbl;go_wp2_with fail
           refine bodyPost_ret (v:=.tuple #[.pointer (some ⟨b,0,none⟩),.pointer (some ⟨gb,0,none⟩),.slice Aw n cw,.slice Aa n ca]) (by simp [results,Tryz.results13,go_sem]) rfl ?_;have hL:=HL11.out;have nF:∀ k,B1<=k->¬ F k:=fun k hk q=>by
            have:=(hL.top.lt k q).2;omega
           refine ⟨Fs,by rw [<- HG.out,<- HT.out];exact HWr.out,?_,.inr ⟨by rw [<- HSz.out];omega,b,p,F,gb,Aw,cw,Aa,ca,g,?_,?_,?_,hL.gat.pass ⟨.refl _ _,fun k _ hk=>.inl hk⟩,?_,?_,?_⟩⟩
           ·have h1:=HBx.out
            rw [HB0.out] at h1;exact h1.trans (hL.bel.mono (by rw [HB0.out];omega))
           ·rw [HGE.out,HH.out,HG.out,HT.out]
           ·rw [<- Hpl.out,<- Hpll.out]
           ·have hk:=hL.top.kat.lo Hlo.out
            have hM:S.a8 x g ((S.ag g (S.wM (S.wL (S.aa x.ng) (S.aa x.ns) Fs) heap [])).setV 26 ((S.wL (S.aa x.ng) (S.aa x.ns) Fs).length+S.sizes g.ns))=(((mp.putV 9 2).putV 10 b0).putV 11 b1).putV 6 9:=by
             unfold S.a8;rw [<- HG.out,<- HT.out,<- HH.out,<- Hm0.out,HGz.out,<- Hm1.out,<- HR.out,<- Hm2.out,<- Hpl.out,<- Hmp.out,<- Hb0.out,<- Hb1.out]
            rw [hM,<- HG.out,<- HT.out,<- HH.out,<- Hhf.out,<- HPP.out];exact hk
           ·rw [<- Hpl.out]
            exact Zn7 hL.rw nF
           ·rw [<- Hpl.out]
            exact Zn7 hL.ra nF
           ·have hM:S.a8 x g ((S.ag g (S.wM (S.wL (S.aa x.ng) (S.aa x.ns) Fs) heap [])).setV 26 ((S.wL (S.aa x.ng) (S.aa x.ns) Fs).length+S.sizes g.ns))=(((mp.putV 9 2).putV 10 b0).putV 11 b1).putV 6 9:=by
             unfold S.a8;rw [<- HG.out,<- HT.out,<- HH.out,<- Hm0.out,HGz.out,<- Hm1.out,<- HR.out,<- Hm2.out,<- Hpl.out,<- Hmp.out,<- Hb0.out,<- Hb1.out]
            rw [hM,<- HG.out,<- HT.out,<- HH.out,<- Hhf.out,<- HPP.out,<- Hpl.out,<- Hpll.out];refine ⟨B1,_,?_,hL.top,hL.gat,hL.rw,hL.ra⟩;have h1:=hL.hx;rw [HB0.out] at h1;omega
end Go.Proofs.YtgdjocajlndonaaGreatDoor
