/- Parts. -/
import Derived.Test.YtgdjocajlndonaaGreatDoorZExtD
set_option linter.all false
set_option maxHeartbeats 8000000
open Go.Lib renaming hid->Ya,cell_of_heap->Yb
open Array renaming getElem?_eq_some_iff->Ye,replicate->Ya2
open List renaming length_map->Yp,mem_map->Y7
open Go.IntWalk renaming i64_in->Yu,u16_in->Ybw
open Int renaming tmod_eq_emod_of_nonneg->Ya6
namespace Go.Proofs.YtgdjocajlndonaaGreatDoor
set_option maxRecDepth 100000
open Go.RowKit
theorem Zyh:S.kReserve=⟨#[114,101,115,101,114,118,101]⟩:=by kernel_rfl
structure S.dr (x:S.am)(g:S.Gr)(H half n spare n0:Int)(size:Int)(C:S.Mach)(R:Int):Prop where
 room:n+spare<=half-S.sizes g.ns->R=0/\C.rd 26=H+S.sizes g.ns/\C.mv 2=H
 full:half-S.sizes g.ns<n+spare->half-n0<n+spare->R=256
 kept:half-S.sizes g.ns<n+spare->n+spare<=half-n0->R=0/\C.Ok/\(∃ l nu,S.Keeps g ((x.pl g).map Prod.snd) (((x.pl g).map Prod.fst).map C.mv) C.mv (C.mv 2) half (C.rd 26) (C.rd 27) l nu)/\C.mv 2=H+half/\C.rd 27-C.rd 26=half-n0/\C.rd 2=77/\C.rd 10=78
 len:(C.mem.length:Int)=size
theorem Zsp {w:World}{F:Nat->Prop}{lo b p:Nat}{half:Int}{Fs:List Int}{x:S.am}(hx:x.Ok){heap:Int}(hheap:2<=heap/\heap<=1000)(hwr:S.Wr (S.aa x.ng) (S.aa x.ns) Fs heap){m0:S.Mach}(hm0:m0=S.wM (S.wL (S.aa x.ng) (S.aa x.ns) Fs) heap []){H:Int}(hH:H=(S.wL (S.aa x.ng) (S.aa x.ns) Fs).length)(hhf:half=heap/2){g:S.Gr}(hg:g=S.ah x.nodes H)(hfit:S.sizes (S.ac x.nodes)<=half)
 {n spare:Int} (hn:0<=n/\n<=600) (hs:0<=spare/\spare<=50) {n0:Int} {l:List Nat} (re:S.Reached g ((x.pl g).map Prod.snd) n0 l)
 {M:S.Mach} (hM:M=S.de x g ((S.ag g m0).setV 26 (H+S.sizes g.ns)) n spare) (hK:KAt w lo b p F H half (S.wP (S.aa x.ng) (S.aa x.ns) Fs) M) :
 Calls Tryz.prog 14 #[.pointer (some ⟨b,0,none⟩),.string ⟨#[114,101,115,101,114,118,101]⟩,.bool false,.int .i64 200000] w fun e w'=>∃ R C,e=.returned (.int .i64 R)/\S.dr x g H half n spare n0 (H+heap) C R/\Zzh w lo b p F H half (S.wP (S.aa x.ng) (S.aa x.ns) Fs) C w':=by
 have hI:∀ b,(S.ab b (S.aa x.ng) (S.aa x.ns) Fs (H+heap)).Ok:=fun b=>by rw [hH];exact hwr.ok b
 have hlab:H=(S.ab true (S.aa x.ng) (S.aa x.ns) Fs (H+heap)).lab S.kEnd:=by rw [hH];exact hwr.len
 have hw:S.Wd (S.aa x.ng) (S.aa x.ns) Fs (H+heap) m0:=by rw [hH,hm0];exact hwr.wd
 have h2:m0.mv 2=H:=by rw [hm0,hwr.fst.m2,hH]
 have h3:m0.mv 3=H+half:=by rw [hm0,hwr.fst.m3,hH,hhf]
 have h4:m0.mv 4=half:=by rw [hm0,hwr.fst.m4,hhf]
 have h27:m0.rd 27=H+half:=by
  have:=hwr.fst.rd 27;rw [hm0,this,hH,hhf];rfl
 obtain ⟨C,hC⟩:=Yx (S.aj (S.ab true (S.aa x.ng) (S.aa x.ns) Fs (H+heap)) M S.kReserve 200000);obtain ⟨q1,q2,q3,q4,q5⟩:=Zpj hx hI hlab hhf ⟨by omega,by omega⟩ hw h2 h3 h4 h27 hfit hg hn hs hM hC re;obtain ⟨f2,l3,l4⟩:=Za2 (hI true) Zdy;obtain ⟨f1,l1,l2⟩:=Za2 (hI true) Zcx;refine (Zl8 (nm:=⟨#[114,101,115,101,114,118,101]⟩) hK (by rw [<- Zyh];exact f2) f1 ⟨l3,l4⟩ ⟨l1,l2⟩ q1.run q1.out q1.steps (C:=C) (by rw [hC];rfl) rfl).mono ?_;rintro e w' ⟨rfl,hk⟩;refine ⟨_,C,rfl,⟨fun h=>?_,fun h h'=>?_,fun h h'=>?_,by rw [hC];exact Zgr q1 _ _⟩,hk⟩
 ·obtain ⟨r1,r2,r3⟩:=q3 h
  refine ⟨?_,r2,r3⟩;unfold S.aq;rw [if_neg (fun q=>q q2),if_pos r1]
 ·obtain ⟨r1,r2⟩:=q4 h h'
  unfold S.aq;rw [if_neg (fun q=>q q2),if_neg r1,r2];rfl
 ·obtain ⟨r1,r2,⟨nu,r3⟩,r4⟩:=q5 h h'
  refine ⟨?_,r2,⟨l,nu,r3⟩,r4⟩;unfold S.aq;rw [if_neg (fun q=>q q2),if_pos r1]
theorem Zht (w:World)(hL:LVE w)(x:S.am)(hx:x.Ok)(An Ar Ag As Aq Ap:Option Addr)(cn cr cg cs cq cp:Nat)(hs:SttF w An Ar Ag As Aq Ap x)(hcr:x.roots.length<=cr)(hp a0 a1:Int)(hhp:0<=hp/\hp<65536)(ha0:0<=a0/\a0<65536)(ha1:0<=a1/\a1<65536):Calls Tryz.prog 4 #[Zsj An Ar Ag As Aq Ap cn cr cg cs cq cp x,.int .u16 hp,.agg #[.int .u16 a0,.int .u16 a1]] w fun e w'=>e=.returned (.bool true)/\Below w.heap.size w w':=by
 obtain ⟨hv,hhv⟩:=Yx (400+hp%501);have hvb:400<=hv/\hv<=900:=by omega
 obtain ⟨nq,hnq⟩:∃ nq:Int,nq=a0%601:=⟨_,rfl⟩
 obtain ⟨sp,hsp⟩:∃ sp:Int,sp=a1%51:=⟨_,rfl⟩
 have hnb:0<=nq/\nq<=600:=by omega
 have hsb:0<=sp/\sp<=50:=by omega
 have r1:IntKind.u16.wrap (hp%501)=hp%501:=Ybw _ ⟨by omega,by omega⟩;have r2:hp.tmod 501=hp%501:=Ya6 hhp.1;have r3:hp%501%18446744073709551616=hp%501:=by omega
 have r4:IntKind.i64.wrap (400+hp%501)=hv:=by rw [<- hhv];exact Yu _ ⟨by omega,by omega⟩
 have n1:IntKind.u16.wrap (a0%601)=nq:=by rw [<- hnq];exact Ybw _ ⟨by omega,by omega⟩
 have n2:a0.tmod 601=nq:=by rw [hnq];exact Ya6 ha0.1
 have n3:a0%601=nq:=hnq.symm;have n4:nq%18446744073709551616=nq:=by omega
 have n5:IntKind.u16.wrap nq=nq:=Ybw _ ⟨by omega,by omega⟩;have s1:IntKind.u16.wrap (a1%51)=sp:=by rw [<- hsp];exact Ybw _ ⟨by omega,by omega⟩
 have s2:a1.tmod 51=sp:=by rw [hsp];exact Ya6 ha1.1
 have s3:a1%51=sp:=hsp.symm;have s4:sp%18446744073709551616=sp:=by omega
 have s5:IntKind.u16.wrap sp=sp:=Ybw _ ⟨by omega,by omega⟩;have hlaid0:=fun (w':World) (hb:Below w.heap.size w w')=>Zvt w' (hL.on hb) x hx An Ar Ag As Aq Ap cn cr cg cs cq cp (hs.below hb) hcr hv ⟨by omega,by omega⟩
 have Hlaid0:=Ya hlaid0;have HLV:=Ya hL;have HX:=Ya hx;clear hlaid0 hL hs hcr hx hhv hnq hsp;unfold Zsj at Hlaid0 ⊢;obtain ⟨NN,hNN⟩:∃ N,N=x.nodes.length:=⟨_,rfl⟩
 obtain ⟨NR,hNR⟩:∃ N,N=x.roots.length:=⟨_,rfl⟩
 obtain ⟨NG,hNG⟩:∃ N,N=x.glob.length:=⟨_,rfl⟩
 obtain ⟨NS,hNS⟩:∃ N,N=x.stat.length:=⟨_,rfl⟩
 obtain ⟨NQ,hNQ⟩:∃ N,N=x.slots.length:=⟨_,rfl⟩
 obtain ⟨NP,hNP⟩:∃ N,N=x.places.length:=⟨_,rfl⟩
 obtain ⟨sy,hsy⟩:∃ s,s=x.sym.1:=⟨_,rfl⟩
 obtain ⟨sz,hsz⟩:∃ s,s=x.sym.2:=⟨_,rfl⟩
 rw [<- hNN,<- hNR,<- hNG,<- hNS,<- hNQ,<- hNP,<- hsy,<- hsz] at Hlaid0 ⊢;clear hNN hNR hNG hNS hNQ hNP hsy hsz;go_enter Tryz.func4,Tryz.ntmps4
 go_upto_region 1 with fail
 have hb1:=(Below.refl w.heap.size w).alloc (Nat.le_refl _) (.cells #[.slice An NN cn,.slice Ar NR cr,.slice Ag NG cg,.slice As NS cs,.slice Aq NQ cq,.slice Ap NP cp,.int .u32 sy,.int .u16 sz] 30);have hr1:=heap_alloc_new w (.cells #[.slice An NN cn,.slice Ar NR cr,.slice Ag NG cg,.slice As NS cs,.slice Aq NQ cq,.slice Ap NP cp,.int .u32 sy,.int .u16 sz] 30);have hsz1:(w.alloc (.cells #[.slice An NN cn,.slice Ar NR cr,.slice Ag NG cg,.slice As NS cs,.slice Aq NQ cq,.slice Ap NP cp,.int .u32 sy,.int .u16 sz] 30)).heap.size=w.heap.size+1:=by simp
 generalize w.alloc (.cells #[.slice An NN cn,.slice Ar NR cr,.slice Ag NG cg,.slice As NS cs,.slice Aq NQ cq,.slice Ap NP cp,.int .u32 sy,.int .u16 sz] 30)=w1 at *;have HB1a:=Ya hb1;have hba:=(Below.refl w1.heap.size w1).alloc (Nat.le_refl _) (.cells #[.int .u16 a0,.int .u16 a1] 52);have hra:=heap_alloc_new w1 (.cells #[.int .u16 a0,.int .u16 a1] 52);rw [hsz1] at hra;obtain ⟨qa,hqa⟩:=Yx (w.heap.size+1);have hz1:w.heap.size<w1.heap.size:=by omega
 generalize w1.alloc (.cells #[.int .u16 a0,.int .u16 a1] 52)=w1b at *;have hr1:=(hba.block w.heap.size hz1).trans hr1;have hb1:=hb1.trans (hba.mono (Nat.le_of_lt hz1));rw [<- hqa] at hra ⊢;have HAsk:=Ya hra;have HQa:=Ya hqa;clear hba hra hqa hz1 hsz1;have Hlaid:=Ya (Hlaid0.out w1b hb1);have z0:w1b.cell? ⟨w.heap.size,0,none⟩=some (.slice An NN cn):=by rw [Yb hr1];rfl
 have z1:w1b.cell? ⟨w.heap.size,1,none⟩=some (.slice Ar NR cr):=by rw [Yb hr1];rfl
 have z2:w1b.cell? ⟨w.heap.size,2,none⟩=some (.slice Ag NG cg):=by rw [Yb hr1];rfl
 have z3:w1b.cell? ⟨w.heap.size,3,none⟩=some (.slice As NS cs):=by rw [Yb hr1];rfl
 have z4:w1b.cell? ⟨w.heap.size,4,none⟩=some (.slice Aq NQ cq):=by rw [Yb hr1];rfl
 have z5:w1b.cell? ⟨w.heap.size,5,none⟩=some (.slice Ap NP cp):=by rw [Yb hr1];rfl
 have z6:w1b.cell? ⟨w.heap.size,6,none⟩=some (.int .u32 sy):=by rw [Yb hr1];rfl
 have z7:w1b.cell? ⟨w.heap.size,7,none⟩=some (.int .u16 sz):=by rw [Yb hr1];rfl
 have hlt1:=(Ye.1 hr1).1;have HB1:=Ya hb1;clear hr1 hb1 Hlaid0;go_wp2_with fail
 refine Hlaid.out.mono ?_;rintro e w2 ⟨Fs,hwr,hb2,hcase⟩;clear z0 z1 z2 z3 z4 z5 z6 z7 Hlaid;rcases hcase with h1 | ⟨hfit,b,p,F,gb,Aw,cw,Aa,ca,g,hg,rfl,hk,hga,hrw,hra,_⟩
 ·have HBn:=Ya (HB1.out.trans (hb2.mono HB1.out.size))
  have HLn:=Ya (HLV.out.on HBn.out);obtain ⟨_,rfl⟩:=h1;clear hb2 hwr;go_wp2_with fail
  refine (Zas w2 HLn.out).mono ?_;rintro e w3 ⟨rfl,hb3⟩;have HBm:=Ya (HBn.out.trans (hb3.mono HBn.out.size));clear hb3;go_wp2_with fail
  go_ret
  exact ⟨rfl,HBm.out⟩
 obtain ⟨H,hH⟩:∃ H:Int,H=(S.wL (S.aa x.ng) (S.aa x.ns) Fs).length:=⟨_,rfl⟩
 have hHb:0<=H/\H<=12000:=by have:=hwr.small;omega
 obtain ⟨half,hhf⟩:∃ h:Int,h=hv/2:=⟨_,rfl⟩
 have hh500:200<=half/\half<=450:=by omega
 obtain ⟨m0,hm0⟩:=Yx (S.wM (S.wL (S.aa x.ng) (S.aa x.ns) Fs) hv []);obtain ⟨PP,hPP⟩:=Yx (S.wP (S.aa x.ng) (S.aa x.ns) Fs);rw [<- hH] at hk hg;rw [<- hm0,<- hPP,<- hhf] at hk;obtain ⟨M0,hM0⟩:=Yx (S.a8 x g ((S.ag g m0).setV 26 (H+S.sizes g.ns)));rw [<- hM0] at hk;obtain ⟨was,hwas⟩:∃ l,l=(x.pl g).map Prod.snd:=⟨_,rfl⟩
 obtain ⟨at_,hat⟩:∃ l,l=(x.pl g).map Prod.fst:=⟨_,rfl⟩
 obtain ⟨N,hN⟩:=Yx (x.pl g).length;have hN27:N<=27:=by rw [hN];exact Zmd x g
 have hwl:was.length=N:=by rw [hwas,hN,Yp]
 have hal:at_.length=N:=by rw [hat,hN,Yp]
 rw [<- hwas] at hrw;rw [<- hat] at hra;rw [<- hN];have hgok:g.Ok H:=by rw [hg];exact Zaz HX.out.nodes ⟨by omega,by omega⟩
 have hszE:S.sizes g.ns=S.sizes (S.ac x.nodes):=by rw [hg];rfl
 have hgz:H+S.sizes g.ns<=335544320:=by have:=Z0 x.nodes;omega
 have HS2:Hid (CSt w1b w1b.heap.size b p gb F H half PP g M0 Aw Aa was at_ w2):=Ya ⟨hk,hga,hrw,hra,hb2⟩;have HWr:=Ya hwr;have HH:=Ya hH;have Hhf:=Ya hhf;have Hm0:=Ya hm0;have HPP:=Ya hPP;have HM0:=Ya hM0;have Hwas:=Ya hwas;have Hat:=Ya hat;have HN:=Ya hN;have Hwl:=Ya hwl;have Hal:=Ya hal;have Hgok:=Ya hgok;have HszE:=Ya hszE;have Hgz:=Ya hgz;have Hg:=Ya hg;have Hfit:=Ya (show S.sizes (S.ac x.nodes)<=half from by rw [hhf];exact hfit);clear hk hga hrw hra hb2 hwr hH hhf hm0 hPP hM0 hwas hat hN hwl hal hgok hszE hgz hg hfit;obtain ⟨us,hus⟩:=Yx (S.sizes g.ns);have husb:0<=us/\us<=half:=by
  have h1:=Z7 g.ns;have h2:=HszE.out;have h3:=Hfit.out;omega
 have hH13:1312<=H:=by
  have:=(Zbp (HWr.out.ok true)).1;rw [<- HWr.out.len,Zh,Zh,<- HH.out] at this;omega
 have hM26:M0.rd 26=H+us:=by
  have hI:∀ b,(S.ab b (S.aa x.ng) (S.aa x.ns) Fs (H+hv)).Ok:=fun b=>by rw [HH.out];exact HWr.out.ok b
  have hlab:H=(S.ab true (S.aa x.ng) (S.aa x.ns) Fs (H+hv)).lab S.kEnd:=by rw [HH.out];exact HWr.out.len
  have hw:S.Wd (S.aa x.ng) (S.aa x.ns) Fs (H+hv) m0:=by rw [HH.out,Hm0.out];exact HWr.out.wd
  have h2:m0.mv 2=H:=by rw [Hm0.out,HWr.out.fst.m2,HH.out]
  have h3:m0.mv 3=H+half:=by rw [Hm0.out,HWr.out.fst.m3,HH.out,Hhf.out]
  have h4:m0.mv 4=half:=by rw [Hm0.out,HWr.out.fst.m4,Hhf.out]
  have h:=(Zjc HX.out hI hlab Hhf.out (by omega) hw h2 h3 h4 Hfit.out Hg.out).2.2.2.2.2.1 26;rw [HM0.out,h,if_pos rfl,hus]
 have Hus:=Ya hus;have HM26:=Ya hM26;have hq2:qa<w1b.heap.size:=(Ye.1 HAsk.out).1;have hz2s:=HS2.out.bel.size;have hask:=(HS2.out.bel.block qa hq2).trans HAsk.out;have zq0:w2.cell? ⟨qa,0,none⟩=some (.int .u16 a0):=by rw [Yb hask];rfl
 have zq1:w2.cell? ⟨qa,1,none⟩=some (.int .u16 a1):=by rw [Yb hask];rfl
 have hq3:qa<w2.heap.size:=by omega
 clear hus hM26 hask r1 r2 r3 r4;go_upto_region 4 with fail
 go_region
 have HS3:=Ya (HS2.out.below (Zba (Below.refl _ _)));generalize w2.drew=w3 at *;clear zq0 zq1 HS2 n1 n2 n3 n4 n5 s1 s2 s3 s4 s5 hq2 hq3 hz2s;have hrb:∀ r∈was,0<=r/\r<4294967296:=fun r hr=>by
  rw [Hwas.out] at hr;obtain ⟨q,hq,rfl⟩:=Y7.1 hr;have hf:=Zfx Hgok.out Hgz.out HX.out q hq;exact ⟨hf.1,hf.2.1⟩
 have hre:=Zpi HS3.out.gat Hgok.out Hgz.out Aw cw was HS3.out.rw.reads hrb (by rw [Hwl.out];omega);rw [Hwl.out] at hre;have Hre:=Ya hre;have Hrb:=Ya hrb;clear hre hrb;go_wp2_with fail
 refine Hre.out.mono ?_;rintro e w4 ⟨n0,l,Al,cl,rfl,re,hb4⟩;have HS4:=Ya (HS3.out.below hb4);have HRe:=Ya re;have hn0:0<=n0/\n0<=us:=by
  have h1:=Zd6 Hgok.out re;have h2:=re.sum;have h3:=Zge Hgok.out l re.rng;have h4:=Hus.out;omega
 clear hb4 HS3 Hre re;obtain ⟨_,_,_,_,_,_,e0,e1,e2,e3,e4⟩:=HS4.out.kat.cells;have hbl:=HS4.out.kat.blt;have Hrg:=Ya (show ∀ y:Ext w4,Calls Tryz.prog 19 #[.pointer (some ⟨p,0,none⟩),.int .i64 26] y.val fun e w'=>e=.returned (.int .u32 (H+us))/\y.val=w' from fun y=>by
  have h:=Zd3 26 (HS4.out.below y.property).kat;rw [Za1 (by decide) (by decide),HM26.out] at h;exact h)
 have c1:(H+us)%18446744073709551616=H+us:=by omega
 have c2:IntKind.i64.wrap (H+us-H)=us:=by rw [show H+us-H=us from by omega];exact Yu _ ⟨by omega,by omega⟩
 go_upto_region 6 with fail
 refine Zl (by kernel_rfl) (by kernel_rfl) ?_;have hE:=Zf w4
 repeat (first | go_big_quiet_step ((go_at_call 19;exact Zp (Hrg.out _))))
 refine wpQuiet_nil ?_;rintro w5 ⟨⟨_,hb5⟩,rfl⟩;have HS5:=Ya (HS4.out.below hb5);clear hE hb5 HS4 Hrg e0 e1 e2 e3 e4 hbl c1 c2;obtain ⟨_,_,_,_,_,_,e0,e1,e2,e3,e4⟩:=HS5.out.kat.cells;have hbl:=HS5.out.kat.blt;have c1:sp%4294967296=sp:=by omega
 have c2:nq%4294967296=nq:=by omega
 go_wp2_with fail
 refine (Zdi 7 sp HS5.out.kat (by omega)).mono ?_;rintro e w6 ⟨rv,rfl,hk6,ho6⟩;have HS6:=Ya (HS5.out.only hk6 ho6);clear hk6 ho6 HS5 e0 e1 e2 e3 e4 hbl;obtain ⟨_,_,_,_,_,_,e0,e1,e2,e3,e4⟩:=HS6.out.kat.cells;have hbl:=HS6.out.kat.blt;go_wp2_with fail
 refine (Zgq 4 nq HS6.out.kat (by omega)).mono ?_;rintro e w7 ⟨rv2,rfl,hk7,ho7⟩;have HS7:=Ya (HS6.out.only hk7 ho7);clear hk7 ho7 HS6 e0 e1 e2 e3 e4 hbl;obtain ⟨_,_,_,_,_,_,e0,e1,e2,e3,e4⟩:=HS7.out.kat.cells;have hbl:=HS7.out.kat.blt;go_wp2_with fail
 refine (Zgq 2 77 HS7.out.kat (by decide)).mono ?_;rintro e w8 ⟨rv3,rfl,hk8,ho8⟩;have HS8:=Ya (HS7.out.only hk8 ho8);clear hk8 ho8 HS7 e0 e1 e2 e3 e4 hbl;obtain ⟨_,_,_,_,_,_,e0,e1,e2,e3,e4⟩:=HS8.out.kat.cells;have hbl:=HS8.out.kat.blt;go_wp2_with fail
 refine (Zgq 10 78 HS8.out.kat (by decide)).mono ?_;rintro e w9 ⟨rv4,rfl,hk9,ho9⟩;have HS9:=Ya (HS8.out.only hk9 ho9);have hM2:((((M0.putV 7 sp).setV 4 nq).setV 2 77).setV 10 78)=S.de x g ((S.ag g m0).setV 26 (H+S.sizes g.ns)) nq sp:=by rw [HM0.out];rfl
 have hcall:=Zsp HX.out ⟨by omega,by omega⟩ HWr.out Hm0.out HH.out Hhf.out Hg.out Hfit.out hnb hsb (by rw [<- Hwas.out];exact HRe.out) hM2 (by rw [<- HPP.out];exact HS9.out.kat);rw [<- HPP.out] at hcall;have Hcall:=Ya hcall;clear hk9 ho9 HS8 e0 e1 e2 e3 e4 hbl hM2 hcall c1 c2;go_wp2_with fail
 refine Hcall.out.mono ?_;rintro e w10 ⟨R,C,rfl,ho,F10,hk10,ho10,hf10⟩;have HSa:=Ya (HS9.out.pass hk10 ⟨ho10,hf10⟩);have HO:=Ya ho;have HBa:=Ya (show Below w.heap.size w w10 from HB1.out.trans (HSa.out.bel.mono HB1.out.size));clear hk10 ho10 hf10 ho HS9 Hcall;obtain ⟨_,_,_,_,_,_,e0,e1,e2,e3,e4⟩:=HSa.out.kat.cells;have hbl:=HSa.out.kat.blt;have c1:IntKind.i64.wrap (half-us)=half-us:=Yu _ ⟨by omega,by omega⟩;have c2:IntKind.i64.wrap (nq+sp)=nq+sp:=Yu _ ⟨by omega,by omega⟩;by_cases hA:nq+sp<=half-us
 ·obtain ⟨q1,q2,q3⟩:=HO.out.room (by rw [<- Hus.out];exact hA)
  subst q1;rw [<- Hus.out] at q2;have d1:decide (half-us>=nq+sp)=true:=by simp;omega
  have d2:decide (nq+sp<=half-us)=true:=by simp;omega
  have Hrg:=Ya (show ∀ y:Ext w10,Calls Tryz.prog 19 #[.pointer (some ⟨p,0,none⟩),.int .i64 26] y.val fun e w'=>e=.returned (.int .u32 (H+us))/\y.val=w' from fun y=>by
   have h:=Zd3 26 (HSa.out.below y.property).kat;rw [Za1 (by decide) (by decide),q2] at h;exact h)
  have Hwd:=Ya (show ∀ y:Ext w10,Calls Tryz.prog 17 #[.pointer (some ⟨b,0,none⟩),.int .i64 2] y.val fun e w'=>e=.returned (.int .u32 H)/\Below y.val.heap.size y.val w' from fun y=>by
   have h:=Zbg 2 (HSa.out.below y.property).kat;rw [Zbj (by decide) (by have:=HO.out.len;omega),q3] at h;exact h)
  have Hwks:=Ya (show ∀ y:Ext w10,Calls Tryz.prog 22 #[] y.val fun e w'=>e=.returned (.bool true)/\Below y.val.heap.size y.val w' from fun y=>Zas y.val ((HLV.out.on HBa.out).on y.property));have c3:(H+us)%18446744073709551616=H+us:=by omega
  have c4:IntKind.i64.wrap (H+us)=H+us:=Yu _ ⟨by omega,by omega⟩;have c5:H%18446744073709551616=H:=by omega
  clear q2 q3;go_upto_region 13 with fail
  refine Zl (by kernel_rfl) (by kernel_rfl) ?_;have hE:=Zf w10
  repeat (first
   | go_big_quiet_step ((first
    | (go_at_call 19;exact Zp (Hrg.out _))
    | (go_at_call 22;exact Zay (Hwks.out _))
    | (go_at_call 17;exact Zay (Hwd.out _)))))
  refine wpQuiet_nil ?_;rintro w11 ⟨⟨_,hb11⟩,rfl⟩;have HBb:=Ya (HBa.out.trans (hb11.mono HBa.out.size));clear hE hb11;go_wp2_with fail
  go_ret
  exact ⟨rfl,HBb.out⟩
 ·have d1:decide (half-us>=nq+sp)=false:=by simp;omega
  have d2:decide (nq+sp<=half-us)=false:=by simp;omega
  have c3:IntKind.i64.wrap (half-n0)=half-n0:=Yu _ ⟨by omega,by omega⟩;by_cases hB:half-n0<nq+sp
  ·have q1:=HO.out.full (by rw [<- Hus.out];omega) hB
   subst q1;have d3:decide (half-n0<nq+sp)=true:=by simp;omega
   go_wp2_with fail
   refine (Zas w10 (HLV.out.on HBa.out)).mono ?_;rintro e w11 ⟨rfl,hb11⟩;have HBb:=Ya (HBa.out.trans (hb11.mono HBa.out.size));clear hb11;go_wp2_with fail
   go_ret
   exact ⟨rfl,HBb.out⟩
  ·have d3:decide (half-n0<nq+sp)=false:=by simp;omega
   obtain ⟨q1,q2,q3,q4,q5,q6,q7⟩:=HO.out.kept (by rw [<- Hus.out];omega) (by omega);subst q1;have Q2:=Ya q2;have Q3:=Ya q3;have Q4:=Ya q4;have Q5:=Ya q5;have Q6:=Ya q6;have Q7:=Ya q7;clear q2 q3 q4 q5 q6 q7;go_upto_region 16 with fail
   have hwo:=Zh7 HSa.out.kat Aa ca at_ HSa.out.ra.reads (by rw [Hal.out];omega);have Hwo:=Ya (show ∀ y:Ext w10,Calls Tryz.prog 21 #[.pointer (some ⟨b,0,none⟩),.slice Aa N ca] y.val fun e w'=>∃ A c,e=.returned (.slice A N c)/\w'.ownsRow y.val.heap.size 25 1 (.slice A N c) N ((at_.map C.memV).map (Value.int .u32))/\Below y.val.heap.size y.val w' from fun y=>by
    have hS:=HSa.out.below y.property;have h:=Zh7 hS.kat Aa ca at_ hS.ra.reads (by rw [Hal.out];omega);rw [Hal.out] at h;exact h)
   clear hwo;refine Zbf 3 (Ya2 3 true++Ya2 46 false) (by kernel_rfl) (by kernel_rfl) ?_;have hE:=Zf w10;have hES:=Zlv w10;simp only [List.take_succ_cons,List.take_zero]
   repeat (first | go_big_quiet_step (fail))
   refine wpQuiet_nil ?_;rintro w11 ⟨⟨_,hb11⟩,rfl⟩;have hwo:=Hwo.out ⟨w11,hb11⟩;have Hwo1:=Ya hwo;have HSb:=Ya (HSa.out.below hb11);have HBb:=Ya (HBa.out.trans (hb11.mono HBa.out.size));clear Hwo hE hES hwo HSa HBa e0 e1 e2 e3 e4 hbl;change wpAny _ _ _ _ 46 _ _ _;refine wpAny_take (i:=3) (v:=?v3) rfl (by kernel_rfl) (by kernel_rfl) (by kernel_rfl) (fun _ _ _ h=>h) (Or.inl ⟨by rfl,?y3⟩) ?z3
   case y3=>(intro w;go_simp;first | done | with_reducible rfl)
   refine wpAny_take (i:=4) (v:=?v4) rfl (by kernel_rfl) (by kernel_rfl) (by kernel_rfl) (fun _ _ _ h=>h) (Or.inl ⟨by rfl,?y4⟩) ?z4
   case y4=>(intro w;go_simp;first | done | with_reducible rfl)
   refine wpAny_take (i:=5) (v:=?v5) rfl (by kernel_rfl) (by kernel_rfl) (by kernel_rfl) (fun _ _ _ h=>h) (Or.inl ⟨by rfl,?y5⟩) ?z5
   case y5=>(intro w;go_simp;first | done | with_reducible rfl)
   refine wpAny_take (i:=6) (v:=?v6) rfl (by kernel_rfl) (by kernel_rfl) (by kernel_rfl) (fun _ _ _ h=>h) (Or.inl ⟨by rfl,?y6⟩) ?z6
   case y6=>(intro w;go_simp;first | done | with_reducible rfl)
   refine wpAny_take (i:=7) (v:=?v7) rfl (by kernel_rfl) (by kernel_rfl) (by kernel_rfl) (fun _ _ _ h=>h) (Or.inl ⟨by rfl,?y7⟩) ?z7
   case y7=>(intro w;go_simp;first | done | with_reducible rfl)
   refine wpAny_ready (rs:=[8]) (by kernel_rfl) (by simp) ?_;refine AllReady.cons rfl (fun K hK=>?_) AllReady.nil;go_simp
   refine Hwo1.out.mono ?_;rintro e w12 ⟨A',c',rfl,ho12,hb12⟩;have HSc:=Ya (HSb.out.below hb12);have HBb2:=Ya (HBb.out.trans (hb12.mono HBb.out.size));have hlen:=HO.out.len;have hnow:at_.map C.memV=at_.map C.mv:=List.map_congr_left fun y hy=>by
    have h:=(Zfw Hgok.out Hgz.out HX.out y).1 (by rw [<- Hat.out];exact hy);have hst:=Zb3 x;have hH13':1312+x.ng+x.ns+11<=H:=by
     have:=(Zbp (HWr.out.ok true)).1;rw [<- HWr.out.len,Zh,Zh,<- HH.out] at this;omega
    refine Zbj ?_ ?_
    ·rcases h with h | h | h | h
     ·omega
     ·omega
     ·omega
     ·have:=Zet h;omega
    ·rcases h with h | h | h | h
     ·omega
     ·omega
     ·omega
     ·have:=Zet h;omega
   have hkept:Calls Tryz.prog 20 #[.pointer (some ⟨b,0,none⟩),.pointer (some ⟨gb,0,none⟩),.slice Aw N cw,.slice A' N c'] w12 fun e w'=>e=.returned (.bool true)/\Below w12.heap.size w12 w':=by
    have hS:=HSc.out;obtain ⟨l',nu,hkp⟩:=Q3.out;rw [<- Hwas.out,<- Hat.out] at hkp;have hnl:(at_.map C.mv).length=N:=by rw [Yp,Hal.out]
    have hrn:Reads w12 w12.heap.size A' ((at_.map C.mv).map (Value.int .u32)):=by
     have h:=Zn7 (F:=F10) ho12 (fun k hk q=>by
      exact absurd hk (Nat.not_le.2 (HSb.out.kat.lt k q).2))
     rw [hnow] at h;exact h.reads
    have hok:=Q2.out;have hm2:=Q4.out;have h26:=hkp.size n0 l HRe.out;have hhv:=Hhf.out;have h:=Zqp hS.kat hS.gat Hgok.out Hgz.out Aw A' cw c' was (at_.map C.mv) hS.rw.reads hrn Hrb.out (fun r hr=>?_) (by rw [Hwl.out];omega) (il:=l') (nu:=nu) hkp (by rw [h26];omega) (by omega) (by omega) ⟨by omega,by omega⟩ ⟨n0,l,HRe.out⟩
    ·rw [Hwl.out,hnl] at h
     exact h
    ·obtain ⟨a,_,rfl⟩:=Y7.1 hr
     have:=hok.memw a.toNat;exact ⟨this.1,by have h2:=this.2;show C.mem.getD a.toNat 0<_;omega⟩
   have Hkept:=Ya hkept;clear hkept hnow ho12 hb12 HSb HBb Hwo1 hlen;go_simp
   refine hK _ _ ?_;clear hK K;refine wpAny_ready (rs:=[9]) (by kernel_rfl) (by simp) ?_;refine AllReady.cons rfl (fun K hK=>?_) AllReady.nil;go_simp
   refine Hkept.out.mono ?_;rintro e w13 ⟨rfl,hb13⟩;have HSd:=Ya (HSc.out.below hb13);have HBc:=Ya (HBb2.out.trans (hb13.mono HBb2.out.size));obtain ⟨v27,hv27⟩:∃ v,v=C.rd 27:=⟨_,rfl⟩
   obtain ⟨v26,hv26⟩:∃ v,v=C.rd 26:=⟨_,rfl⟩
   have c6:IntKind.u32.wrap (v27-v26)=half-n0:=by
    rw [hv27,hv26,Q5.out];exact IntWalk.u32_in _ ⟨by omega,by omega⟩
   have c7:(half-n0)%18446744073709551616=half-n0:=by omega
   have d4:decide (half-n0>=nq+sp)=true:=by simp;omega
   have d5:decide (nq+sp<=half-n0)=true:=by simp;omega
   obtain ⟨_,_,_,_,_,_,e0,e1,e2,e3,e4⟩:=HSd.out.kat.cells;have hbl:=HSd.out.kat.blt;clear hb13 HSc HBb2 Hkept c1 c3 d1 d2 d3;go_simp
   refine hK _ _ ?_;clear hK K;have hE:=Zf w13;have Hr27:=Ya (show ∀ y:Ext w13,Calls Tryz.prog 19 #[.pointer (some ⟨p,0,none⟩),.int .i64 27] y.val fun e w'=>e=.returned (.int .u32 v27)/\y.val=w' from fun y=>by
    have h:=Zd3 27 (HSd.out.below y.property).kat;rw [Za1 (by decide) (by decide),<- hv27] at h;exact h)
   have Hr26:=Ya (show ∀ y:Ext w13,Calls Tryz.prog 19 #[.pointer (some ⟨p,0,none⟩),.int .i64 26] y.val fun e w'=>e=.returned (.int .u32 v26)/\y.val=w' from fun y=>by
    have h:=Zd3 26 (HSd.out.below y.property).kat;rw [Za1 (by decide) (by decide),<- hv26] at h;exact h)
   have Hr2:=Ya (show ∀ y:Ext w13,Calls Tryz.prog 19 #[.pointer (some ⟨p,0,none⟩),.int .i64 2] y.val fun e w'=>e=.returned (.int .u32 77)/\y.val=w' from fun y=>by
    have h:=Zd3 2 (HSd.out.below y.property).kat;rw [Za1 (by decide) (by decide),Q6.out] at h;exact h)
   have Hr10:=Ya (show ∀ y:Ext w13,Calls Tryz.prog 19 #[.pointer (some ⟨p,0,none⟩),.int .i64 10] y.val fun e w'=>e=.returned (.int .u32 78)/\y.val=w' from fun y=>by
    have h:=Zd3 10 (HSd.out.below y.property).kat;rw [Za1 (by decide) (by decide),Q7.out] at h;exact h)
   have Hwks:=Ya (show ∀ y:Ext w13,Calls Tryz.prog 22 #[] y.val fun e w'=>e=.returned (.bool true)/\Below y.val.heap.size y.val w' from fun y=>Zas y.val ((HLV.out.on HBc.out).on y.property));clear hv27 hv26;refine Zrz 10 (Ya2 49 true) (by kernel_rfl) ?_;simp only [List.drop_succ_cons,List.drop_zero]
   repeat (first
    | go_big_quiet_step ((first
     | (go_at_call 19;first | with_reducible exact Zp (Hr27.out _) | with_reducible exact Zp (Hr26.out _) | with_reducible exact Zp (Hr2.out _) | with_reducible exact Zp (Hr10.out _))
     | (go_at_call 22;exact Zay (Hwks.out _)))))
   refine wpQuiet_nil ?_;rintro w14 ⟨⟨_,hb14⟩,rfl⟩;have HBd:=Ya (HBc.out.trans (hb14.mono HBc.out.size));clear hE hb14;go_wp2_with fail
   go_ret
   exact ⟨rfl,HBd.out⟩
end Go.Proofs.YtgdjocajlndonaaGreatDoor
