/- Parts. -/
import Derived.Test.YtgdjocajlndonaaGreatDoorZGAgo
import Derived.Test.YtgdjocajlndonaaGreatDoorZKCol
set_option linter.all false
set_option maxHeartbeats 8000000
open Go.Lib renaming hid->Ya,cell_of_heap->Yb
open Array renaming getElem?_eq_some_iff->Ye
open Nat renaming le_refl->Yf
open Go.AllReady renaming cons->Yh,nil->Yj
open Go.RowKit.Below renaming refl->Yi
open List renaming length_map->Yp,mem_map->Y7,take_succ_cons->Y8,drop_succ_cons->Yae,take_zero->Yal,drop_zero->Yay,eq_of_mem_replicate->Yb8
open Go.IntWalk renaming i64_in->Yu
namespace Go.Proofs.YtgdjocajlndonaaGreatDoor
set_option maxRecDepth 100000
open Go.RowKit
theorem Pass.fresh {F F2:Nat->Prop}{w w':World}(hb:Below w.heap.size w w')(hF:∀ k,F2 k->w.heap.size<=k):Pass F w F2 w':=⟨.of_below hb,fun k hk q=>by have:=hF k q;omega⟩
theorem CSt.fresh {wx w w':World}{lo lo2 b p gb b2 p2:Nat}{F F2:Nat->Prop}{H half:Int}{P:List (ByteArray×Int)}{g:S.Gr}{m m':S.Mach}{Aw Aa:Option Addr}{was at_:List Int}(h:CSt wx lo b p gb F H half P g m Aw Aa was at_ w)(hb:Below w.heap.size w w')(hk:KAt w' lo2 b2 p2 F2 H half P m')(hlo:w.heap.size<=lo2):CSt wx lo b2 p2 gb F2 H half P g m' Aw Aa was at_ w':=by
 have hl:=h.kat.lolt;have hp:Pass F w F2 w':=.fresh hb fun k hk2=>by have:=(hk.lt k hk2).1;omega
 exact ⟨hk.lo (by omega),h.gat.pass hp,h.rw.pass hp,h.ra.pass hp,h.bel.trans (hb.mono hl)⟩
section
variable {w:World}{F:Nat->Prop}{lo b p:Nat}{half:Int}{Fs:List Int}{x:S.am}(hx:x.Ok)(hwr:S.Wr (S.aa x.ng) (S.aa x.ns) Fs 1000){m0:S.Mach}(hm0:m0=S.wM (S.wL (S.aa x.ng) (S.aa x.ns) Fs) 1000 []){H:Int}(hH:H=(S.wL (S.aa x.ng) (S.aa x.ns) Fs).length)(hhf:half=1000/2){g:S.Gr}(hg:g=S.ah x.nodes H)(hfit:S.sizes (S.ac x.nodes)<=half)
include hx hwr hm0 hH hhf hg hfit
theorem Zn6 {M:S.Mach}(hM:M=S.a8 x g ((S.ag g m0).setV 26 (H+S.sizes g.ns)))(hK:KAt w lo b p F H half (S.wP (S.aa x.ng) (S.aa x.ns) Fs) M) :
 Calls Tryz.prog 14 #[.pointer (some ⟨b,0,none⟩),.string ⟨#[99,111,108,108,101,99,116]⟩,.bool false,.int .i64 200000] w fun e w'=>e=.returned (.int .i64 0)/\∃ C n0,n0<=S.sizes g.ns/\S.df (S.aa x.ng) (S.aa x.ns) Fs (H+1000) g H ((x.pl g).map Prod.snd) ((x.pl g).map Prod.fst) half x.nr 2 n0 C/\Zzh w lo b p F H half (S.wP (S.aa x.ng) (S.aa x.ns) Fs) C w':=by
 have hI:∀ b,(S.ab b (S.aa x.ng) (S.aa x.ns) Fs (H+1000)).Ok:=fun b=>by rw [hH];exact hwr.ok b
 have hlab:H=(S.ab true (S.aa x.ng) (S.aa x.ns) Fs (H+1000)).lab S.kEnd:=by rw [hH];exact hwr.len
 have hw:S.Wd (S.aa x.ng) (S.aa x.ns) Fs (H+1000) m0:=by rw [hH,hm0];exact hwr.wd
 have h2:m0.mv 2=H:=by rw [hm0,hwr.fst.m2,hH]
 have h3:m0.mv 3=H+half:=by rw [hm0,hwr.fst.m3,hH,hhf]
 have h4:m0.mv 4=half:=by rw [hm0,hwr.fst.m4,hhf]
 obtain ⟨C,hC⟩:=Yx (S.aj (S.ab true (S.aa x.ng) (S.aa x.ns) Fs (H+1000)) M S.kCollect 200000);obtain ⟨q1,q3,q4,n0,q5,q6⟩:=Zuk hx hI hlab hhf rfl hw h2 h3 h4 hfit hg hM hC;obtain ⟨f2,l3,l4⟩:=Za2 (hI true) Zch;obtain ⟨f1,l1,l2⟩:=Za2 (hI true) Zcx;have hR:S.aq C ((S.ab true (S.aa x.ng) (S.aa x.ns) Fs (H+1000)).lab S.kStub)=0:=by
  unfold S.aq;rw [if_neg (fun q=>q q3),if_pos q4]
 refine (Zl8 (nm:=⟨#[99,111,108,108,101,99,116]⟩) hK (by rw [<- Znh];exact f2) f1 ⟨l3,l4⟩ ⟨l1,l2⟩ q1.run q1.out q1.steps (C:=C) (by rw [hC];rfl) hR).mono ?_;rintro e w' ⟨rfl,hk⟩;exact ⟨rfl,C,n0,q5,q6,hk⟩
theorem Zpz {was at_:List Int}{n0:Int}(hn0:n0<=500){C:S.Mach}(hA:S.df (S.aa x.ng) (S.aa x.ns) Fs (H+1000) g H was at_ half x.nr 2 n0 C)(hK:KAt w lo b p F H half (S.wP (S.aa x.ng) (S.aa x.ns) Fs) (S.ay C m0)) :
 Calls Tryz.prog 14 #[.pointer (some ⟨b,0,none⟩),.string ⟨#[99,111,108,108,101,99,116]⟩,.bool false,.int .i64 200000] w fun e w'=>e=.returned (.int .i64 0)/\∃ C',(∃ l nu,S.Keeps g was (at_.map C'.mv) C'.mv (C'.mv 2) half (C'.rd 26) (C'.rd 27) l nu)/\S.df (S.aa x.ng) (S.aa x.ns) Fs (H+1000) g H was at_ half x.nr 2 n0 C'/\Zzh w lo b p F H half (S.wP (S.aa x.ng) (S.aa x.ns) Fs) C' w':=by
 have hI:∀ b,(S.ab b (S.aa x.ng) (S.aa x.ns) Fs (H+1000)).Ok:=fun b=>by rw [hH];exact hwr.ok b
 have hw:S.Wd (S.aa x.ng) (S.aa x.ns) Fs (H+1000) m0:=by rw [hH,hm0];exact hwr.wd
 obtain ⟨l1',l2',l3',l4',l5',l6',l7',l8',l9'⟩:=Zb3 x;have hs:=hwr.small;obtain ⟨C',hC⟩:=Yx (S.aj (S.ab true (S.aa x.ng) (S.aa x.ns) Fs (H+1000)) (S.ay C m0) S.kCollect 200000);obtain ⟨q1,q2,q5,q3,q4⟩:=Zxm hI (by omega) hA hw (N:=200000) (by rw [Zh,Zh];omega) hC;obtain ⟨f2,l3,l4⟩:=Za2 (hI true) Zch;obtain ⟨f1,l1,l2⟩:=Za2 (hI true) Zcx;have hR:S.aq C' ((S.ab true (S.aa x.ng) (S.aa x.ns) Fs (H+1000)).lab S.kStub)=0:=by
  unfold S.aq;rw [if_neg (fun q=>q q3),if_pos q4]
 refine (Zl8 (nm:=⟨#[99,111,108,108,101,99,116]⟩) hK (by rw [<- Znh];exact f2) f1 ⟨l3,l4⟩ ⟨l1,l2⟩ q1.run q1.out q1.steps (C:=C') (by rw [hC];rfl) hR).mono ?_;rintro e w' ⟨rfl,hk⟩;exact ⟨rfl,C',q5,q2,hk⟩
end
theorem Zl7 (w:World)(hL:LVE w)(x:S.am)(hx:x.Ok)(An Ar Ag As Aq Ap:Option Addr)(cn cr cg cs cq cp:Nat)(hs:SttF w An Ar Ag As Aq Ap x)(hcr:x.roots.length<=cr):Calls Tryz.prog 3 #[Zsj An Ar Ag As Aq Ap cn cr cg cs cq cp x] w fun e w'=>e=.returned (.bool true)/\Below w.heap.size w w':=by
 have hlaid0:=fun (w':World) (hb:Below w.heap.size w w')=>Zvt w' (hL.on hb) x hx An Ar Ag As Aq Ap cn cr cg cs cq cp (hs.below hb) hcr 1000 (by decide)
 have Hlaid0:=Ya hlaid0;have HLV:=Ya hL;have HX:=Ya hx;clear hlaid0 hL hs hcr hx;unfold Zsj at Hlaid0 ⊢;obtain ⟨NN,hNN⟩:∃ N,N=x.nodes.length:=⟨_,rfl⟩
 obtain ⟨NR,hNR⟩:∃ N,N=x.roots.length:=⟨_,rfl⟩
 obtain ⟨NG,hNG⟩:∃ N,N=x.glob.length:=⟨_,rfl⟩
 obtain ⟨NS,hNS⟩:∃ N,N=x.stat.length:=⟨_,rfl⟩
 obtain ⟨NQ,hNQ⟩:∃ N,N=x.slots.length:=⟨_,rfl⟩
 obtain ⟨NP,hNP⟩:∃ N,N=x.places.length:=⟨_,rfl⟩
 obtain ⟨G,hGG⟩:∃ N,N=x.ng:=⟨_,rfl⟩
 obtain ⟨T,hTT⟩:∃ N,N=x.ns:=⟨_,rfl⟩
 have mG:min (NG:Int) 6=(G:Int):=by have:x.ng=min x.glob.length 6:=rfl;omega
 have mT:min (NS:Int) 6=(T:Int):=by have:x.ns=min x.stat.length 6:=rfl;omega
 have HGG:=Ya hGG;have HTT:=Ya hTT;have hGT:G<=6/\T<=6:=by have:=Zb3 x;omega
 obtain ⟨sy,hsy⟩:∃ s,s=x.sym.1:=⟨_,rfl⟩
 obtain ⟨sz,hsz⟩:∃ s,s=x.sym.2:=⟨_,rfl⟩
 rw [<- hNN,<- hNR,<- hNG,<- hNS,<- hNQ,<- hNP,<- hsy,<- hsz] at Hlaid0 ⊢;clear hNN hNR hNG hNS hNQ hNP hsy hsz hGG hTT;go_enter Tryz.func3,Tryz.ntmps3
 go_upto_region 1 with fail
 have hb1:=(Yi w.heap.size w).alloc (Yf _) (.cells #[.slice An NN cn,.slice Ar NR cr,.slice Ag NG cg,.slice As NS cs,.slice Aq NQ cq,.slice Ap NP cp,.int .u32 sy,.int .u16 sz] 30);have hr1:=heap_alloc_new w (.cells #[.slice An NN cn,.slice Ar NR cr,.slice Ag NG cg,.slice As NS cs,.slice Aq NQ cq,.slice Ap NP cp,.int .u32 sy,.int .u16 sz] 30);generalize w.alloc (.cells #[.slice An NN cn,.slice Ar NR cr,.slice Ag NG cg,.slice As NS cs,.slice Aq NQ cq,.slice Ap NP cp,.int .u32 sy,.int .u16 sz] 30)=w1 at *;have Hlaid:=Ya (Hlaid0.out w1 hb1);have z0:w1.cell? ⟨w.heap.size,0,none⟩=some (.slice An NN cn):=by rw [Yb hr1];rfl
 have z1:w1.cell? ⟨w.heap.size,1,none⟩=some (.slice Ar NR cr):=by rw [Yb hr1];rfl
 have z2:w1.cell? ⟨w.heap.size,2,none⟩=some (.slice Ag NG cg):=by rw [Yb hr1];rfl
 have z3:w1.cell? ⟨w.heap.size,3,none⟩=some (.slice As NS cs):=by rw [Yb hr1];rfl
 have z4:w1.cell? ⟨w.heap.size,4,none⟩=some (.slice Aq NQ cq):=by rw [Yb hr1];rfl
 have z5:w1.cell? ⟨w.heap.size,5,none⟩=some (.slice Ap NP cp):=by rw [Yb hr1];rfl
 have z6:w1.cell? ⟨w.heap.size,6,none⟩=some (.int .u32 sy):=by rw [Yb hr1];rfl
 have z7:w1.cell? ⟨w.heap.size,7,none⟩=some (.int .u16 sz):=by rw [Yb hr1];rfl
 have hlt1:=(Ye.1 hr1).1;have HB1:=Ya hb1;have HBox:=Ya hr1;clear hr1 hb1 Hlaid0;go_wp2_with fail
 refine Hlaid.out.mono ?_;rintro e w2 ⟨Fs,hwr,hb2,hcase⟩;clear z0 z1 z2 z3 z4 z5 z6 z7 Hlaid;rcases hcase with ⟨h1,_⟩ | ⟨hfit,b,p,F,gb,Aw,cw,Aa,ca,g,hg,rfl,hk,hga,hrw,hra,_⟩
 ·exfalso
  have:=Z0 x.nodes;omega
 obtain ⟨H,hH⟩:∃ H:Int,H=(S.wL (S.aa x.ng) (S.aa x.ns) Fs).length:=⟨_,rfl⟩
 have hHb:0<=H/\H<=12000:=by have:=hwr.small;omega
 obtain ⟨half,hhf⟩:∃ h:Int,h=1000/2:=⟨_,rfl⟩
 have hh500:half=500:=by rw [hhf];rfl
 obtain ⟨m0,hm0⟩:=Yx (S.wM (S.wL (S.aa x.ng) (S.aa x.ns) Fs) 1000 []);obtain ⟨PP,hPP⟩:=Yx (S.wP (S.aa x.ng) (S.aa x.ns) Fs);rw [<- hH] at hk hg;rw [<- hm0,<- hPP,<- hhf] at hk;obtain ⟨M0,hM0⟩:=Yx (S.a8 x g ((S.ag g m0).setV 26 (H+S.sizes g.ns)));rw [<- hM0] at hk;obtain ⟨was,hwas⟩:∃ l,l=(x.pl g).map Prod.snd:=⟨_,rfl⟩
 obtain ⟨at_,hat⟩:∃ l,l=(x.pl g).map Prod.fst:=⟨_,rfl⟩
 obtain ⟨N,hN⟩:=Yx (x.pl g).length;have hN27:N<=27:=by rw [hN];exact Zmd x g
 have hwl:was.length=N:=by rw [hwas,hN,Yp]
 have hal:at_.length=N:=by rw [hat,hN,Yp]
 rw [<- hwas] at hrw;rw [<- hat] at hra;rw [<- hN];have hgok:g.Ok H:=by rw [hg];exact Zaz HX.out.nodes ⟨by omega,by omega⟩
 have hszE:S.sizes g.ns=S.sizes (S.ac x.nodes):=by rw [hg];rfl
 have hgz:H+S.sizes g.ns<=335544320:=by have:=Z0 x.nodes;omega
 have HS2:Hid (CSt w1 w1.heap.size b p gb F H half PP g M0 Aw Aa was at_ w2):=Ya ⟨hk,hga,hrw,hra,hb2⟩;have HWr:=Ya hwr;have HH:=Ya hH;have Hhf:=Ya hhf;have Hm0:=Ya hm0;have HPP:=Ya hPP;have HM0:=Ya hM0;have Hwas:=Ya hwas;have Hat:=Ya hat;have HN:=Ya hN;have Hwl:=Ya hwl;have Hal:=Ya hal;have Hgok:=Ya hgok;have HszE:=Ya hszE;have Hgz:=Ya hgz;have Hg:=Ya hg;have Hfit:=Ya (show S.sizes (S.ac x.nodes)<=half from by rw [hh500];have:=Z0 x.nodes;omega);clear hk hga hrw hra hb2 hwr hH hhf hm0 hPP hM0 hwas hat hN hwl hal hgok hszE hgz hg hfit;have Hatr:=Ya (show ∀ y∈at_,0<=y/\y<H from fun y hy=>by
  have h:=(Zfw Hgok.out Hgz.out HX.out y).1 (by rw [<- Hat.out];exact hy);have hst:=Zb3 x;have hH13:1312+x.ng+x.ns+11<=H:=by
   have:=(Zbp (HWr.out.ok true)).1;rw [<- HWr.out.len,Zh,Zh,<- HH.out] at this;omega
  rcases h with h | h | h | h
  ·omega
  ·omega
  ·omega
  ·have:=Zet h;omega)
 have hcall:=Zn6 HX.out HWr.out Hm0.out HH.out Hhf.out Hg.out Hfit.out HM0.out (by rw [<- HPP.out];exact HS2.out.kat);rw [<- HPP.out,<- Hwas.out,<- Hat.out] at hcall;have Hcall:=Ya hcall;have HBox0:=Ya HBox.out;clear hcall;go_wp2_with fail
 refine Hcall.out.mono ?_;rintro e w6 ⟨rfl,C,n0,hn0,hag,F6,hk6,ho6,hf6⟩;have HS6:=Ya (HS2.out.pass hk6 ⟨ho6,hf6⟩);have HAg:=Ya hag;have hn500:n0<=500:=by have:=Z0 x.nodes;have:=HszE.out;omega
 clear hk6 ho6 hf6 hag HS2 Hcall hn0;go_wp2_with fail
 go_loopw [3,7] (fun v3 v7 wl=>∃ i:Nat,i<=2/\v7=.int .i64 i/\(∃ b p F C,v3=.pointer (some ⟨b,0,none⟩)/\Hid (CSt w1 w1.heap.size b p gb F H half PP g C Aw Aa was at_ wl)/\Hid (S.df (S.aa x.ng) (S.aa x.ns) Fs (H+1000) g H was at_ half x.nr 2 n0 C))) (fun _ v7 _=>2-(intOf v7).toNat)
 case atStart=>exact ⟨0,by omega,rfl,_,_,_,_,rfl,HS6,HAg⟩
 case round =>
  clear HS6 HAg;obtain ⟨i,hi,rfl,b,p,F,C,rfl,HS,HAg⟩:=hrel;obtain ⟨wq,rfl⟩:=Yx wr;by_cases hlt:i<2
  ·have d1:decide ((i:Int)<2)=true:=by simp;omega
   have d0:decide (i<2)=true:=by simp;omega
   have hzw:=HS.out.bel.size;have hzr:w.heap.size<wq.heap.size:=by omega
   have hbox:=(HS.out.bel.block w.heap.size (by omega)).trans HBox.out;go_upto_region 7 with fail
   go_cut [8] (fun v8 wc=>∃ b2 p2 F2 lo2,v8=.pointer (some ⟨b2,0,none⟩)/\Hid (wq.heap.size<=lo2/\KAt wc lo2 b2 p2 F2 H half PP m0)/\Hid (Below wq.heap.size wq wc))
   case first =>
    have hmkG:=run_make_row' (P:=Tryz.prog) 33 25 (.int .u32 0) 4 Tryz.underlying33 Zy rfl .i64 .i64 G (by omega) (by omega);have hmkT:=run_make_row' (P:=Tryz.prog) 33 25 (.int .u32 0) 4 Tryz.underlying33 Zy rfl .i64 .i64 T (by omega) (by omega);have Hworld:=Ya (show ∀ (wc:World) (bA bB:Nat),Hid (Below wq.heap.size wq wc)->wc.heap[bA]?=some (.cells (madeCells #[.int .u32 0] G) 25 (0,0))->wc.heap[bB]?=some (.cells (madeCells #[.int .u32 0] T) 25 (0,0))->Calls Tryz.prog 15 #[.slice (some ⟨bA,0,none⟩) G G,.slice (some ⟨bB,0,none⟩) T T,.int .i64 1000] wc fun e w'=>∃ b2 p2 F2 lo2,e=.returned (.pointer (some ⟨b2,0,none⟩))/\(wq.heap.size<=lo2/\KAt w' lo2 b2 p2 F2 H half PP m0)/\Below wq.heap.size wq w' from fun wc bA bB hb hA hB=>by
     have hL:LVE wc:=(HLV.out.on HB1.out).on ((HS.out.bel.trans (hb.out.mono hzw)).mono (Yf _));have h:=Zps (some ⟨bA,0,none⟩) (some ⟨bB,0,none⟩) G T (S.aa G) (S.aa T) 1000 wc hL (Zd5 hA) (Zd5 hB) (by rw [Zh];omega) (by rw [Zh];omega) (fun y hy=>by rw [Yb8 hy];decide) (fun y hy=>by rw [Yb8 hy];decide) (by decide);rw [Zh,Zh] at h;refine h.mono ?_;rintro e w' ⟨Fs2,b2,p2,F2,hwr2,rfl,hk2,hb2⟩;have hF:Fs2=Fs:=by
      have f1:=hwr2.forms;have f2:=HWr.out.forms;rw [HGG.out,HTT.out] at f1;exact (Zng f1 f2).2
     subst hF;refine ⟨b2,p2,F2,wc.heap.size,rfl,⟨hb.out.size,?_⟩,hb.out.trans (hb2.mono hb.out.size)⟩;rw [HGG.out,HTT.out,<- HH.out,<- HPP.out,<- Hm0.out,<- Hhf.out] at hk2;exact hk2)
    refine wp_region_any (by kernel_rfl) ?_;change wpAny _ _ _ _ _ _ _ (World.drew wq);have HBw:=Ya (show Below wq.heap.size wq wq.drew from Zba (Yi _ _));have hbox2:=(HBw.out.block w.heap.size hzr).trans hbox;generalize wq.drew=wd at *;have z2:wd.cell? ⟨w.heap.size,2,none⟩=some (.slice Ag NG cg):=by rw [Yb hbox2];rfl
    have z3:wd.cell? ⟨w.heap.size,3,none⟩=some (.slice As NS cs):=by rw [Yb hbox2];rfl
    clear hbox hbox2;refine wpAny_take (i:=0) (v:=?v0n1) rfl (by kernel_rfl) (by kernel_rfl) (by kernel_rfl) (fun _ _ _ h=>h) (Or.inl ⟨by rfl,?y0n1⟩) ?z0n1
    case y0n1=>(intro w;first | (go_simp;done) | (go_simp;with_reducible rfl))
    refine wpAny_take (i:=5) (v:=?v5n2) rfl (by kernel_rfl) (by kernel_rfl) (by kernel_rfl) (fun _ _ _ h=>h) (Or.inl ⟨by rfl,?y5n2⟩) ?z5n2
    case y5n2=>(intro w;first | (go_simp;done) | (go_simp;with_reducible rfl))
    refine wpAny_ready (rs:=[1,6]) (by kernel_rfl) (by simp) ?_;refine Yh rfl (fun K hK=>?_) (Yh rfl (fun K hK=>?_) Yj)
    ·go_simp
     refine hK _ _ ?_;clear hK K;refine wpAny_take (i:=2) (v:=?v2n3) rfl (by kernel_rfl) (by kernel_rfl) (by kernel_rfl) (fun _ _ _ h=>h) (Or.inl ⟨by rfl,?y2n3⟩) ?z2n3
     case y2n3=>(intro w;first | (go_simp;done) | (go_simp;with_reducible rfl))
     refine wpAny_take (i:=3) (v:=?v3n4) rfl (by kernel_rfl) (by kernel_rfl) (by kernel_rfl) (fun _ _ _ h=>h) (Or.inl ⟨by rfl,?y3n4⟩) ?z3n4
     case y3n4=>(intro w;first | (go_simp;done) | (go_simp;with_reducible rfl))
     refine wpAny_ready (rs:=[4,6]) (by kernel_rfl) (by simp) ?_;refine Yh rfl (fun K hK=>?_) (Yh rfl (fun K hK=>?_) Yj)
     ·go_simp
      refine hK _ _ ?_;clear hK K;have hbn:=(Yi wd.heap.size wd).alloc (Yf _) (.cells (madeCells #[.int .u32 0] G) 25);have rA:=heap_alloc_new wd (.cells (madeCells #[.int .u32 0] G) 25);generalize wd.alloc (.cells (madeCells #[.int .u32 0] G) 25)=wda at *;have z2:wda.cell? ⟨w.heap.size,2,none⟩=some (.slice Ag NG cg):=(hbn.cell (p:=⟨w.heap.size,2,none⟩) (show w.heap.size<wd.heap.size by have:=HBw.out.size;omega)).trans z2;have z3:wda.cell? ⟨w.heap.size,3,none⟩=some (.slice As NS cs):=(hbn.cell (p:=⟨w.heap.size,3,none⟩) (show w.heap.size<wd.heap.size by have:=HBw.out.size;omega)).trans z3;have HBw:=Ya (HBw.out.trans (hbn.mono HBw.out.size));clear hbn;refine wpAny_ready (rs:=[6]) (by kernel_rfl) (by simp) ?_;refine Yh rfl (fun K hK=>?_) Yj;go_simp
      refine hK _ _ ?_;clear hK K;refine wpAny_take (i:=7) (v:=?v7n5) rfl (by kernel_rfl) (by kernel_rfl) (by kernel_rfl) (fun _ _ _ h=>h) (Or.inl ⟨by rfl,?y7n5⟩) ?z7n5
      case y7n5=>(intro w;first | (go_simp;done) | (go_simp;with_reducible rfl))
      refine wpAny_take (i:=8) (v:=?v8n6) rfl (by kernel_rfl) (by kernel_rfl) (by kernel_rfl) (fun _ _ _ h=>h) (Or.inl ⟨by rfl,?y8n6⟩) ?z8n6
      case y8n6=>(intro w;first | (go_simp;done) | (go_simp;with_reducible rfl))
      refine wpAny_ready (rs:=[9]) (by kernel_rfl) (by simp) ?_;refine Yh rfl (fun K hK=>?_) Yj;go_simp
      refine hK _ _ ?_;clear hK K;have hbn:=(Yi wda.heap.size wda).alloc (Yf _) (.cells (madeCells #[.int .u32 0] T) 25);have rB:=heap_alloc_new wda (.cells (madeCells #[.int .u32 0] T) 25);generalize wda.alloc (.cells (madeCells #[.int .u32 0] T) 25)=wdab at *;have rA:=(hbn.block wd.heap.size (Ye.1 rA).1).trans rA;have z2:wdab.cell? ⟨w.heap.size,2,none⟩=some (.slice Ag NG cg):=(hbn.cell (p:=⟨w.heap.size,2,none⟩) (show w.heap.size<wda.heap.size by have:=HBw.out.size;omega)).trans z2;have z3:wdab.cell? ⟨w.heap.size,3,none⟩=some (.slice As NS cs):=(hbn.cell (p:=⟨w.heap.size,3,none⟩) (show w.heap.size<wda.heap.size by have:=HBw.out.size;omega)).trans z3;have HBw:=Ya (HBw.out.trans (hbn.mono HBw.out.size));clear hbn;have Hwd:=Ya (Hworld.out wdab wd.heap.size wda.heap.size HBw rA rB);refine wpAny_ready (rs:=[10]) (by kernel_rfl) (by simp) ?_;refine Yh rfl (fun K hK=>?_) Yj;go_simp
      refine Hwd.out.mono ?_;rintro e w9 ⟨b2,p2,F2,lo2,rfl,hk9,hb9⟩;have HK9:=Ya hk9;have HB9:=Ya hb9;clear hk9 hb9 Hwd;go_simp
      refine hK _ _ ?_;clear hK K;refine wpAny_take (i:=11) (v:=?v11n7) rfl (by kernel_rfl) (by kernel_rfl) (by kernel_rfl) (fun _ _ _ h=>h) (Or.inl ⟨by rfl,?y11n7⟩) ?z11n7
      case y11n7=>(intro w;first | (go_simp;done) | (go_simp;with_reducible rfl))
      refine wpAny_done (by kernel_rfl) ?_ _;go_wp2_with fail
      go_meet
      exact ⟨b2,p2,F2,lo2,rfl,HK9,HB9⟩
     ·go_simp
      refine hK _ _ ?_;clear hK K;refine wpAny_take (i:=7) (v:=?v7n8) rfl (by kernel_rfl) (by kernel_rfl) (by kernel_rfl) (fun _ _ _ h=>h) (Or.inl ⟨by rfl,?y7n8⟩) ?z7n8
      case y7n8=>(intro w;first | (go_simp;done) | (go_simp;with_reducible rfl))
      refine wpAny_take (i:=8) (v:=?v8n9) rfl (by kernel_rfl) (by kernel_rfl) (by kernel_rfl) (fun _ _ _ h=>h) (Or.inl ⟨by rfl,?y8n9⟩) ?z8n9
      case y8n9=>(intro w;first | (go_simp;done) | (go_simp;with_reducible rfl))
      refine wpAny_ready (rs:=[4,9]) (by kernel_rfl) (by simp) ?_;refine Yh rfl (fun K hK=>?_) (Yh rfl (fun K hK=>?_) Yj)
      ·go_simp
       refine hK _ _ ?_;clear hK K;have hbn:=(Yi wd.heap.size wd).alloc (Yf _) (.cells (madeCells #[.int .u32 0] G) 25);have rA:=heap_alloc_new wd (.cells (madeCells #[.int .u32 0] G) 25);generalize wd.alloc (.cells (madeCells #[.int .u32 0] G) 25)=wda at *;have z2:wda.cell? ⟨w.heap.size,2,none⟩=some (.slice Ag NG cg):=(hbn.cell (p:=⟨w.heap.size,2,none⟩) (show w.heap.size<wd.heap.size by have:=HBw.out.size;omega)).trans z2;have z3:wda.cell? ⟨w.heap.size,3,none⟩=some (.slice As NS cs):=(hbn.cell (p:=⟨w.heap.size,3,none⟩) (show w.heap.size<wd.heap.size by have:=HBw.out.size;omega)).trans z3;have HBw:=Ya (HBw.out.trans (hbn.mono HBw.out.size));clear hbn;refine wpAny_ready (rs:=[9]) (by kernel_rfl) (by simp) ?_;refine Yh rfl (fun K hK=>?_) Yj;go_simp
       refine hK _ _ ?_;clear hK K;have hbn:=(Yi wda.heap.size wda).alloc (Yf _) (.cells (madeCells #[.int .u32 0] T) 25);have rB:=heap_alloc_new wda (.cells (madeCells #[.int .u32 0] T) 25);generalize wda.alloc (.cells (madeCells #[.int .u32 0] T) 25)=wdab at *;have rA:=(hbn.block wd.heap.size (Ye.1 rA).1).trans rA;have z2:wdab.cell? ⟨w.heap.size,2,none⟩=some (.slice Ag NG cg):=(hbn.cell (p:=⟨w.heap.size,2,none⟩) (show w.heap.size<wda.heap.size by have:=HBw.out.size;omega)).trans z2;have z3:wdab.cell? ⟨w.heap.size,3,none⟩=some (.slice As NS cs):=(hbn.cell (p:=⟨w.heap.size,3,none⟩) (show w.heap.size<wda.heap.size by have:=HBw.out.size;omega)).trans z3;have HBw:=Ya (HBw.out.trans (hbn.mono HBw.out.size));clear hbn;have Hwd:=Ya (Hworld.out wdab wd.heap.size wda.heap.size HBw rA rB);refine wpAny_ready (rs:=[10]) (by kernel_rfl) (by simp) ?_;refine Yh rfl (fun K hK=>?_) Yj;go_simp
       refine Hwd.out.mono ?_;rintro e w9 ⟨b2,p2,F2,lo2,rfl,hk9,hb9⟩;have HK9:=Ya hk9;have HB9:=Ya hb9;clear hk9 hb9 Hwd;go_simp
       refine hK _ _ ?_;clear hK K;refine wpAny_take (i:=11) (v:=?v11n10) rfl (by kernel_rfl) (by kernel_rfl) (by kernel_rfl) (fun _ _ _ h=>h) (Or.inl ⟨by rfl,?y11n10⟩) ?z11n10
       case y11n10=>(intro w;first | (go_simp;done) | (go_simp;with_reducible rfl))
       refine wpAny_done (by kernel_rfl) ?_ _;go_wp2_with fail
       go_meet
       exact ⟨b2,p2,F2,lo2,rfl,HK9,HB9⟩
      ·go_simp
       refine hK _ _ ?_;clear hK K;have hbn:=(Yi wd.heap.size wd).alloc (Yf _) (.cells (madeCells #[.int .u32 0] T) 25);have rB:=heap_alloc_new wd (.cells (madeCells #[.int .u32 0] T) 25);generalize wd.alloc (.cells (madeCells #[.int .u32 0] T) 25)=wdb at *;have z2:wdb.cell? ⟨w.heap.size,2,none⟩=some (.slice Ag NG cg):=(hbn.cell (p:=⟨w.heap.size,2,none⟩) (show w.heap.size<wd.heap.size by have:=HBw.out.size;omega)).trans z2;have z3:wdb.cell? ⟨w.heap.size,3,none⟩=some (.slice As NS cs):=(hbn.cell (p:=⟨w.heap.size,3,none⟩) (show w.heap.size<wd.heap.size by have:=HBw.out.size;omega)).trans z3;have HBw:=Ya (HBw.out.trans (hbn.mono HBw.out.size));clear hbn;refine wpAny_ready (rs:=[4]) (by kernel_rfl) (by simp) ?_;refine Yh rfl (fun K hK=>?_) Yj;go_simp
       refine hK _ _ ?_;clear hK K;have hbn:=(Yi wdb.heap.size wdb).alloc (Yf _) (.cells (madeCells #[.int .u32 0] G) 25);have rA:=heap_alloc_new wdb (.cells (madeCells #[.int .u32 0] G) 25);generalize wdb.alloc (.cells (madeCells #[.int .u32 0] G) 25)=wdba at *;have rB:=(hbn.block wd.heap.size (Ye.1 rB).1).trans rB;have z2:wdba.cell? ⟨w.heap.size,2,none⟩=some (.slice Ag NG cg):=(hbn.cell (p:=⟨w.heap.size,2,none⟩) (show w.heap.size<wdb.heap.size by have:=HBw.out.size;omega)).trans z2;have z3:wdba.cell? ⟨w.heap.size,3,none⟩=some (.slice As NS cs):=(hbn.cell (p:=⟨w.heap.size,3,none⟩) (show w.heap.size<wdb.heap.size by have:=HBw.out.size;omega)).trans z3;have HBw:=Ya (HBw.out.trans (hbn.mono HBw.out.size));clear hbn;have Hwd:=Ya (Hworld.out wdba wdb.heap.size wd.heap.size HBw rA rB);refine wpAny_ready (rs:=[10]) (by kernel_rfl) (by simp) ?_;refine Yh rfl (fun K hK=>?_) Yj;go_simp
       refine Hwd.out.mono ?_;rintro e w9 ⟨b2,p2,F2,lo2,rfl,hk9,hb9⟩;have HK9:=Ya hk9;have HB9:=Ya hb9;clear hk9 hb9 Hwd;go_simp
       refine hK _ _ ?_;clear hK K;refine wpAny_take (i:=11) (v:=?v11n11) rfl (by kernel_rfl) (by kernel_rfl) (by kernel_rfl) (fun _ _ _ h=>h) (Or.inl ⟨by rfl,?y11n11⟩) ?z11n11
       case y11n11=>(intro w;first | (go_simp;done) | (go_simp;with_reducible rfl))
       refine wpAny_done (by kernel_rfl) ?_ _;go_wp2_with fail
       go_meet
       exact ⟨b2,p2,F2,lo2,rfl,HK9,HB9⟩
    ·go_simp
     refine hK _ _ ?_;clear hK K;refine wpAny_take (i:=7) (v:=?v7n12) rfl (by kernel_rfl) (by kernel_rfl) (by kernel_rfl) (fun _ _ _ h=>h) (Or.inl ⟨by rfl,?y7n12⟩) ?z7n12
     case y7n12=>(intro w;first | (go_simp;done) | (go_simp;with_reducible rfl))
     refine wpAny_take (i:=8) (v:=?v8n13) rfl (by kernel_rfl) (by kernel_rfl) (by kernel_rfl) (fun _ _ _ h=>h) (Or.inl ⟨by rfl,?y8n13⟩) ?z8n13
     case y8n13=>(intro w;first | (go_simp;done) | (go_simp;with_reducible rfl))
     refine wpAny_ready (rs:=[1,9]) (by kernel_rfl) (by simp) ?_;refine Yh rfl (fun K hK=>?_) (Yh rfl (fun K hK=>?_) Yj)
     ·go_simp
      refine hK _ _ ?_;clear hK K;refine wpAny_take (i:=2) (v:=?v2n14) rfl (by kernel_rfl) (by kernel_rfl) (by kernel_rfl) (fun _ _ _ h=>h) (Or.inl ⟨by rfl,?y2n14⟩) ?z2n14
      case y2n14=>(intro w;first | (go_simp;done) | (go_simp;with_reducible rfl))
      refine wpAny_take (i:=3) (v:=?v3n15) rfl (by kernel_rfl) (by kernel_rfl) (by kernel_rfl) (fun _ _ _ h=>h) (Or.inl ⟨by rfl,?y3n15⟩) ?z3n15
      case y3n15=>(intro w;first | (go_simp;done) | (go_simp;with_reducible rfl))
      refine wpAny_ready (rs:=[4,9]) (by kernel_rfl) (by simp) ?_;refine Yh rfl (fun K hK=>?_) (Yh rfl (fun K hK=>?_) Yj)
      ·go_simp
       refine hK _ _ ?_;clear hK K;have hbn:=(Yi wd.heap.size wd).alloc (Yf _) (.cells (madeCells #[.int .u32 0] G) 25);have rA:=heap_alloc_new wd (.cells (madeCells #[.int .u32 0] G) 25);generalize wd.alloc (.cells (madeCells #[.int .u32 0] G) 25)=wda at *;have z2:wda.cell? ⟨w.heap.size,2,none⟩=some (.slice Ag NG cg):=(hbn.cell (p:=⟨w.heap.size,2,none⟩) (show w.heap.size<wd.heap.size by have:=HBw.out.size;omega)).trans z2;have z3:wda.cell? ⟨w.heap.size,3,none⟩=some (.slice As NS cs):=(hbn.cell (p:=⟨w.heap.size,3,none⟩) (show w.heap.size<wd.heap.size by have:=HBw.out.size;omega)).trans z3;have HBw:=Ya (HBw.out.trans (hbn.mono HBw.out.size));clear hbn;refine wpAny_ready (rs:=[9]) (by kernel_rfl) (by simp) ?_;refine Yh rfl (fun K hK=>?_) Yj;go_simp
       refine hK _ _ ?_;clear hK K;have hbn:=(Yi wda.heap.size wda).alloc (Yf _) (.cells (madeCells #[.int .u32 0] T) 25);have rB:=heap_alloc_new wda (.cells (madeCells #[.int .u32 0] T) 25);generalize wda.alloc (.cells (madeCells #[.int .u32 0] T) 25)=wdab at *;have rA:=(hbn.block wd.heap.size (Ye.1 rA).1).trans rA;have z2:wdab.cell? ⟨w.heap.size,2,none⟩=some (.slice Ag NG cg):=(hbn.cell (p:=⟨w.heap.size,2,none⟩) (show w.heap.size<wda.heap.size by have:=HBw.out.size;omega)).trans z2;have z3:wdab.cell? ⟨w.heap.size,3,none⟩=some (.slice As NS cs):=(hbn.cell (p:=⟨w.heap.size,3,none⟩) (show w.heap.size<wda.heap.size by have:=HBw.out.size;omega)).trans z3;have HBw:=Ya (HBw.out.trans (hbn.mono HBw.out.size));clear hbn;have Hwd:=Ya (Hworld.out wdab wd.heap.size wda.heap.size HBw rA rB);refine wpAny_ready (rs:=[10]) (by kernel_rfl) (by simp) ?_;refine Yh rfl (fun K hK=>?_) Yj;go_simp
       refine Hwd.out.mono ?_;rintro e w9 ⟨b2,p2,F2,lo2,rfl,hk9,hb9⟩;have HK9:=Ya hk9;have HB9:=Ya hb9;clear hk9 hb9 Hwd;go_simp
       refine hK _ _ ?_;clear hK K;refine wpAny_take (i:=11) (v:=?v11n16) rfl (by kernel_rfl) (by kernel_rfl) (by kernel_rfl) (fun _ _ _ h=>h) (Or.inl ⟨by rfl,?y11n16⟩) ?z11n16
       case y11n16=>(intro w;first | (go_simp;done) | (go_simp;with_reducible rfl))
       refine wpAny_done (by kernel_rfl) ?_ _;go_wp2_with fail
       go_meet
       exact ⟨b2,p2,F2,lo2,rfl,HK9,HB9⟩
      ·go_simp
       refine hK _ _ ?_;clear hK K;have hbn:=(Yi wd.heap.size wd).alloc (Yf _) (.cells (madeCells #[.int .u32 0] T) 25);have rB:=heap_alloc_new wd (.cells (madeCells #[.int .u32 0] T) 25);generalize wd.alloc (.cells (madeCells #[.int .u32 0] T) 25)=wdb at *;have z2:wdb.cell? ⟨w.heap.size,2,none⟩=some (.slice Ag NG cg):=(hbn.cell (p:=⟨w.heap.size,2,none⟩) (show w.heap.size<wd.heap.size by have:=HBw.out.size;omega)).trans z2;have z3:wdb.cell? ⟨w.heap.size,3,none⟩=some (.slice As NS cs):=(hbn.cell (p:=⟨w.heap.size,3,none⟩) (show w.heap.size<wd.heap.size by have:=HBw.out.size;omega)).trans z3;have HBw:=Ya (HBw.out.trans (hbn.mono HBw.out.size));clear hbn;refine wpAny_ready (rs:=[4]) (by kernel_rfl) (by simp) ?_;refine Yh rfl (fun K hK=>?_) Yj;go_simp
       refine hK _ _ ?_;clear hK K;have hbn:=(Yi wdb.heap.size wdb).alloc (Yf _) (.cells (madeCells #[.int .u32 0] G) 25);have rA:=heap_alloc_new wdb (.cells (madeCells #[.int .u32 0] G) 25);generalize wdb.alloc (.cells (madeCells #[.int .u32 0] G) 25)=wdba at *;have rB:=(hbn.block wd.heap.size (Ye.1 rB).1).trans rB;have z2:wdba.cell? ⟨w.heap.size,2,none⟩=some (.slice Ag NG cg):=(hbn.cell (p:=⟨w.heap.size,2,none⟩) (show w.heap.size<wdb.heap.size by have:=HBw.out.size;omega)).trans z2;have z3:wdba.cell? ⟨w.heap.size,3,none⟩=some (.slice As NS cs):=(hbn.cell (p:=⟨w.heap.size,3,none⟩) (show w.heap.size<wdb.heap.size by have:=HBw.out.size;omega)).trans z3;have HBw:=Ya (HBw.out.trans (hbn.mono HBw.out.size));clear hbn;have Hwd:=Ya (Hworld.out wdba wdb.heap.size wd.heap.size HBw rA rB);refine wpAny_ready (rs:=[10]) (by kernel_rfl) (by simp) ?_;refine Yh rfl (fun K hK=>?_) Yj;go_simp
       refine Hwd.out.mono ?_;rintro e w9 ⟨b2,p2,F2,lo2,rfl,hk9,hb9⟩;have HK9:=Ya hk9;have HB9:=Ya hb9;clear hk9 hb9 Hwd;go_simp
       refine hK _ _ ?_;clear hK K;refine wpAny_take (i:=11) (v:=?v11n17) rfl (by kernel_rfl) (by kernel_rfl) (by kernel_rfl) (fun _ _ _ h=>h) (Or.inl ⟨by rfl,?y11n17⟩) ?z11n17
       case y11n17=>(intro w;first | (go_simp;done) | (go_simp;with_reducible rfl))
       refine wpAny_done (by kernel_rfl) ?_ _;go_wp2_with fail
       go_meet
       exact ⟨b2,p2,F2,lo2,rfl,HK9,HB9⟩
     ·go_simp
      refine hK _ _ ?_;clear hK K;have hbn:=(Yi wd.heap.size wd).alloc (Yf _) (.cells (madeCells #[.int .u32 0] T) 25);have rB:=heap_alloc_new wd (.cells (madeCells #[.int .u32 0] T) 25);generalize wd.alloc (.cells (madeCells #[.int .u32 0] T) 25)=wdb at *;have z2:wdb.cell? ⟨w.heap.size,2,none⟩=some (.slice Ag NG cg):=(hbn.cell (p:=⟨w.heap.size,2,none⟩) (show w.heap.size<wd.heap.size by have:=HBw.out.size;omega)).trans z2;have z3:wdb.cell? ⟨w.heap.size,3,none⟩=some (.slice As NS cs):=(hbn.cell (p:=⟨w.heap.size,3,none⟩) (show w.heap.size<wd.heap.size by have:=HBw.out.size;omega)).trans z3;have HBw:=Ya (HBw.out.trans (hbn.mono HBw.out.size));clear hbn;refine wpAny_ready (rs:=[1]) (by kernel_rfl) (by simp) ?_;refine Yh rfl (fun K hK=>?_) Yj;go_simp
      refine hK _ _ ?_;clear hK K;refine wpAny_take (i:=2) (v:=?v2n18) rfl (by kernel_rfl) (by kernel_rfl) (by kernel_rfl) (fun _ _ _ h=>h) (Or.inl ⟨by rfl,?y2n18⟩) ?z2n18
      case y2n18=>(intro w;first | (go_simp;done) | (go_simp;with_reducible rfl))
      refine wpAny_take (i:=3) (v:=?v3n19) rfl (by kernel_rfl) (by kernel_rfl) (by kernel_rfl) (fun _ _ _ h=>h) (Or.inl ⟨by rfl,?y3n19⟩) ?z3n19
      case y3n19=>(intro w;first | (go_simp;done) | (go_simp;with_reducible rfl))
      refine wpAny_ready (rs:=[4]) (by kernel_rfl) (by simp) ?_;refine Yh rfl (fun K hK=>?_) Yj;go_simp
      refine hK _ _ ?_;clear hK K;have hbn:=(Yi wdb.heap.size wdb).alloc (Yf _) (.cells (madeCells #[.int .u32 0] G) 25);have rA:=heap_alloc_new wdb (.cells (madeCells #[.int .u32 0] G) 25);generalize wdb.alloc (.cells (madeCells #[.int .u32 0] G) 25)=wdba at *;have rB:=(hbn.block wd.heap.size (Ye.1 rB).1).trans rB;have z2:wdba.cell? ⟨w.heap.size,2,none⟩=some (.slice Ag NG cg):=(hbn.cell (p:=⟨w.heap.size,2,none⟩) (show w.heap.size<wdb.heap.size by have:=HBw.out.size;omega)).trans z2;have z3:wdba.cell? ⟨w.heap.size,3,none⟩=some (.slice As NS cs):=(hbn.cell (p:=⟨w.heap.size,3,none⟩) (show w.heap.size<wdb.heap.size by have:=HBw.out.size;omega)).trans z3;have HBw:=Ya (HBw.out.trans (hbn.mono HBw.out.size));clear hbn;have Hwd:=Ya (Hworld.out wdba wdb.heap.size wd.heap.size HBw rA rB);refine wpAny_ready (rs:=[10]) (by kernel_rfl) (by simp) ?_;refine Yh rfl (fun K hK=>?_) Yj;go_simp
      refine Hwd.out.mono ?_;rintro e w9 ⟨b2,p2,F2,lo2,rfl,hk9,hb9⟩;have HK9:=Ya hk9;have HB9:=Ya hb9;clear hk9 hb9 Hwd;go_simp
      refine hK _ _ ?_;clear hK K;refine wpAny_take (i:=11) (v:=?v11n20) rfl (by kernel_rfl) (by kernel_rfl) (by kernel_rfl) (fun _ _ _ h=>h) (Or.inl ⟨by rfl,?y11n20⟩) ?z11n20
      case y11n20=>(intro w;first | (go_simp;done) | (go_simp;with_reducible rfl))
      refine wpAny_done (by kernel_rfl) ?_ _;go_wp2_with fail
      go_meet
      exact ⟨b2,p2,F2,lo2,rfl,HK9,HB9⟩
   case rest =>
   obtain ⟨b2,p2,F2,lo2,rfl,HV,HBv⟩:=hcut;clear hbox;have hlo2:=HV.out.1;have HKv:=Ya HV.out.2;have HFv:=Ya (show ∀ k,F2 k->wq.heap.size<=k from fun k hk=>by have:=(HV.out.2.lt k hk).1;omega);obtain ⟨N1,hN1⟩:=Yx C.mem.length;have hN1i:(N1:Int)=H+1000:=by rw [hN1];exact HAg.out.len
   have HN1:=Ya hN1;have hold:=fun (y:World) (hy:Below wq.heap.size wq y)=>(HS.out.below hy).kat
   have Hold:=Ya hold;have c1:IntKind.i64.wrap (H+1000)=(N1:Int):=by rw [hN1i];exact Yu _ ⟨by omega,by omega⟩
   have HN1i:=Ya hN1i;have hN1b:N1<=20000:=by omega
   clear HV hN1 hold hN1i;go_wp2_with fail
   go_loopw [9] (fun v9 wl=>∃ k:Nat,k<=N1/\v9=.int .i64 k/\Hid (KAt wl lo2 b2 p2 F2 H half PP (S.bf C m0 k))/\Hid (Below wq.heap.size wq wl)) (fun v9 _=>((N1:Int)-intOf v9).toNat)
   case atStart=>exact ⟨0,by omega,rfl,HKv,HBv⟩
   case round =>
    clear HKv HBv;obtain ⟨k,hk,rfl,HKk,HBk⟩:=hrel;obtain ⟨_,_,_,_,_,_,e0,e1,e2,e3,e4⟩:=(Hold.out _ HBk.out).cells;have hbl:=(Hold.out _ HBk.out).blt;by_cases hlk:k<N1
    ·have d2:decide ((k:Int)<N1)=true:=by simp;omega
     have d3:decide (k<N1)=true:=by simp;omega
     have c2:IntKind.i64.wrap ((k:Int)+1)=k+1:=Yu _ ⟨by omega,by omega⟩;obtain ⟨_,_,_,_,_,_,f0,f1,f2,f3,f4⟩:=HKk.out.cells;have hbl2:=HKk.out.blt;have hwd:=fun y:Ext wr=>Zbg k (Hold.out y.val (HBk.out.trans (y.property.mono HBk.out.size)))
     obtain ⟨v,hv⟩:=Yx (C.memV k);rw [<- hv] at hwd;have hvb:0<=v/\v<=4294967295:=by
      rw [hv,Zbj (by omega) (by rw [<- HN1.out];omega)];exact HAg.out.ok.memw _
     have Hwd:=Ya hwd;have Hv:=Ya hv;clear hwd hv;go_upto_region 13 with fail
     refine Ze 8 (by kernel_rfl) (by kernel_rfl) ?_;have hE:=Zf wr;simp only [Y8,Yal,Yae,Yay]
     repeat (first | go_big_quiet_step ((go_at_call 17;exact Zay (Hwd.out _))))
     refine wpQuiet_nil ?_;rintro w6 ⟨⟨_,hb6⟩,rfl⟩;have HK6:=Ya (HKk.out.below hb6);have HB6:=Ya (HBk.out.trans (hb6.mono HBk.out.size));clear hE hb6 HKk HBk e0 e1 e2 e3 e4 hbl f0 f1 f2 f3 f4 hbl2 Hwd;go_wp2_with fail
     refine (Zdi k v HK6.out hvb).mono ?_;rintro e w7 ⟨rv,rfl,hk7,ho7⟩;have HK7:Hid (KAt w7 lo2 b2 p2 F2 H half PP (S.bf C m0 (k+1))):=Ya (by rw [Zg3,<- Hv.out];exact hk7);have HB7:=Ya (HB6.out.trans (ho7.below HB6.out.size HFv.out));clear hk7 ho7 HK6 HB6;go_wp2_with fail
     go_roundw
     case rel=>exact ⟨k+1,by omega,rfl,HK7,HB7⟩
     case measure=>simp [intOf];omega
    ·have hke:k=N1:=by omega
     have d2:decide ((k:Int)<N1)=false:=by simp;omega
     have d3:decide (k<N1)=false:=by simp;omega
     have HK0:Hid (KAt wr lo2 b2 p2 F2 H half PP (S.a9 C (S.bf C m0 N1) 0)):=Ya (by rw [<- hke];exact HKk.out);clear hke HKk;go_wp2_with fail
     go_loopw [10] (fun v10 wl=>∃ j:Nat,j<=32/\v10=.int .i64 j/\Hid (KAt wl lo2 b2 p2 F2 H half PP (S.a9 C (S.bf C m0 N1) j))/\Hid (Below wq.heap.size wq wl)) (fun v10 _=>(32-intOf v10).toNat)
     case atStart=>exact ⟨0,by omega,rfl,HK0,HBk⟩
     case round =>
      clear HK0 HBk e0 e1 e2 e3 e4 hbl;obtain ⟨j,hj,rfl,HKj,HBj⟩:=hrel;by_cases hlj:j<32
      ·obtain ⟨_,_,_,_,_,_,e0,e1,e2,e3,e4⟩:=(Hold.out _ HBj.out).cells
       have hbl:=(Hold.out _ HBj.out).blt;have d4:decide ((j:Int)<32)=true:=by simp;omega
       have d5:decide (j<32)=true:=by simp;omega
       have c2:IntKind.i64.wrap ((j:Int)+1)=j+1:=Yu _ ⟨by omega,by omega⟩;obtain ⟨_,_,_,_,_,_,f0,f1,f2,f3,f4⟩:=HKj.out.cells;have hbl2:=HKj.out.blt;have hrg:=fun y:Ext wr=>Zd3 j (Hold.out y.val (HBj.out.trans (y.property.mono HBj.out.size)))
       obtain ⟨v,hv⟩:=Yx (C.regV j);rw [<- hv] at hrg;have hvb:0<=v/\v<=4294967295:=by
        rw [hv,Za1 (by omega) (by omega)];unfold S.Mach.rd;exact HAg.out.ok.word _
       have Hrg:=Ya hrg;have Hv:=Ya hv;clear hrg hv;go_upto_region 17 with fail
       refine Ze 11 (by kernel_rfl) (by kernel_rfl) ?_;have hE:=Zf wr;simp only [Y8,Yal,Yae,Yay]
       repeat (first | go_big_quiet_step ((go_at_call 19;exact Zp (Hrg.out _))))
       refine wpQuiet_nil ?_;rintro w6 ⟨⟨_,hb6⟩,rfl⟩;have HK6:=Ya (HKj.out.below hb6);have HB6:=Ya (HBj.out.trans (hb6.mono HBj.out.size));clear hE hb6 HKj HBj e0 e1 e2 e3 e4 hbl f0 f1 f2 f3 f4 hbl2 Hrg;go_wp2_with fail
       refine (Zgq j v HK6.out hvb).mono ?_;rintro e w7 ⟨rv,rfl,hk7,ho7⟩;have HK7:Hid (KAt w7 lo2 b2 p2 F2 H half PP (S.a9 C (S.bf C m0 N1) (j+1))):=Ya (by rw [Hv.out] at hk7;exact hk7);have HB7:=Ya (HB6.out.trans (ho7.below HB6.out.size HFv.out));clear hk7 ho7 HK6 HB6;go_wp2_with fail
       go_roundw
       case rel=>exact ⟨j+1,by omega,rfl,HK7,HB7⟩
       case measure=>simp [intOf];omega
      ·have hje:j=32:=by omega
       have d4:decide ((j:Int)<32)=false:=by simp;omega
       have d5:decide (j<32)=false:=by simp;omega
       have HK0:Hid (KAt wr lo2 b2 p2 F2 H half PP (S.ay C m0)):=Ya (by
        have h:=HKj.out;rw [hje,HN1.out] at h;exact h)
       have hcall:=Zpz HX.out HWr.out Hm0.out HH.out Hhf.out Hg.out Hfit.out hn500 HAg.out (by rw [<- HPP.out];exact HK0.out);rw [<- HPP.out] at hcall;have Hcall:=Ya hcall;clear hje HKj hcall;go_wp2_with fail
       refine Hcall.out.mono ?_;rintro e w10 ⟨rfl,C',hkp,hag,F12,hk10,ho10,hf10⟩;have HB10:=Ya (HBj.out.trans (ho10.below HBj.out.size HFv.out));have HS10:=Ya (HS.out.fresh HB10.out hk10 hlo2);have HAg2:=Ya hag;have HKp:=Ya hkp;clear hk10 ho10 hf10 hag hkp HK0 HBj Hcall;have hwo:=Zh7 HS10.out.kat Aa ca at_ HS10.out.ra.reads (by rw [Hal.out];omega);rw [Hal.out] at hwo;have Hwo:=Ya hwo;clear hwo;go_wp2_with fail
       refine Hwo.out.mono ?_;rintro e w11 ⟨A',c',rfl,ho11,hb11⟩;have HS11:=Ya (HS10.out.below hb11);have hkept:Calls Tryz.prog 20 #[.pointer (some ⟨b2,0,none⟩),.pointer (some ⟨gb,0,none⟩),.slice Aw N cw,.slice A' N c'] w11 fun e w'=>e=.returned (.bool true)/\Below w11.heap.size w11 w':=by
        have hS:=HS11.out;obtain ⟨l,nu,hkp⟩:=HKp.out;have hnow:at_.map C'.memV=at_.map C'.mv:=List.map_congr_left fun y hy=>by
         have h:=Hatr.out y hy;exact Zbj h.1 (by have:=HAg2.out.len;omega)
        have hnl:(at_.map C'.mv).length=N:=by rw [Yp,Hal.out]
        have hrn:Reads w11 w11.heap.size A' ((at_.map C'.mv).map (Value.int .u32)):=by
         have h:=Zn7 (F:=F12) ho11 (fun k hk q=>by
          have:=(HS10.out.kat.lt k q).2;omega)
         rw [hnow] at h;exact h.reads
        have hre:=Zls Hgok.out was;have hok:=HAg2.out.ok;have hlen:=HAg2.out.len;have hsz:=hkp.size;obtain ⟨fr,to_,il',nu',l',hG⟩:=HAg2.out.grm;have hm2:=hG.m2;have hft:=hG.hv.ft;have hlab:H=(S.ab true (S.aa x.ng) (S.aa x.ns) Fs (H+1000)).lab S.kEnd:=by rw [HH.out];exact HWr.out.len
        rw [<- hlab] at hft;have hsn:=Zd6 Hgok.out (Classical.choose_spec (Classical.choose_spec hre));have h26:=hsz _ _ (Classical.choose_spec (Classical.choose_spec hre));have hls:=Z0 x.nodes;have hszE:=HszE.out;have h:=Zqp hS.kat hS.gat Hgok.out Hgz.out Aw A' cw c' was (at_.map C'.mv) hS.rw.reads hrn (fun r hr=>?_) (fun r hr=>?_) (by rw [Hwl.out];omega) (il:=l) (nu:=nu) ?_ (by rw [h26];clear hlab;omega) (by omega) (by omega) ⟨by omega,by omega⟩ hre
        ·rw [Hwl.out,hnl] at h
         exact h
        ·rw [Hwas.out] at hr
         obtain ⟨q,hq,rfl⟩:=Y7.1 hr;have hf:=Zfx Hgok.out Hgz.out HX.out q hq;exact ⟨hf.1,hf.2.1⟩
        ·obtain ⟨a,_,rfl⟩:=Y7.1 hr
         have:=hok.memw a.toNat;exact ⟨this.1,by have h2:=this.2;show C'.mem.getD a.toNat 0<_;omega⟩
        ·exact hkp
       have Hkept:=Ya hkept;have c3:IntKind.i64.wrap ((i:Int)+1)=i+1:=Yu _ ⟨by omega,by omega⟩;clear ho11 hb11 Hwo hkept HS10 HKp;go_wp2_with fail
       refine Hkept.out.mono ?_;rintro e w12 ⟨rfl,hb12⟩;have HS12:=Ya (HS11.out.below hb12);clear hb12 HS11 Hkept;go_wp2_with fail
       go_roundw
       case rel=>exact ⟨i+1,by omega,rfl,_,_,_,_,rfl,HS12,HAg2⟩
       case measure=>simp [intOf];omega
  ·have d1:decide ((i:Int)<2)=false:=by simp;omega
   have d0:decide (i<2)=false:=by simp;omega
   have HBe:=Ya (show Below w.heap.size w wq from HB1.out.trans (HS.out.bel.mono (by have:=HB1.out.size;omega)));have HLe:=Ya (HLV.out.on HBe.out);go_wp2_with fail
   refine (Zas wq HLe.out).mono ?_;rintro e w12 ⟨rfl,hb12⟩;have HBf:=Ya (HBe.out.trans (hb12.mono HBe.out.size));clear hb12;go_wp2_with fail
   go_ret
   exact ⟨rfl,HBf.out⟩
end Go.Proofs.YtgdjocajlndonaaGreatDoor
