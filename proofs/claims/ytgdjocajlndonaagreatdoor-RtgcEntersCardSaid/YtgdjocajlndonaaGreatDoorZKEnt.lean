/- Parts. -/
import Derived.Test.YtgdjocajlndonaaGreatDoorZGEnr
import Derived.Test.YtgdjocajlndonaaGreatDoorZKSet
set_option linter.all false
set_option maxHeartbeats 8000000
open Go.Lib renaming hid->Ya,cell_of_heap->Yb,frozen_of_heap->Yaj
open List renaming getElem?_eq_getElem->Yc,length_append->Yd,append_assoc->Ym,range->Yo,length_map->Yp,getElem?_map->Ys,map_append->Yv,not_mem_nil->Y6,mem_map->Y7,drop_succ_cons->Yae,mem_range->Yaf,append_nil->Yat,drop_zero->Yay,map_congr_left->Yba,length_range->Ybu,range_succ->Yb0,map_nil->Ycf
open Array renaming getElem?_eq_some_iff->Ye
open Nat renaming le_refl->Yf,zero_le->Ycc
open Go.RowKit.Below renaming refl->Yi
open Go.Value renaming int->Yt,oneCell'->Y3
open Go.IntWalk renaming i64_in->Yu,u32_in->Ybq,u16_in->Ybw
open Int renaming tmod_eq_emod_of_nonneg->Ya6
namespace Go.Proofs.YtgdjocajlndonaaGreatDoor
set_option maxRecDepth 100000
section
open Go.RowKit
def S.am.en (x:S.am):S.am:={ x with roots:=[],slots:=[] }
theorem Zvp {x:S.am}(h:x.Ok):x.en.Ok:=⟨h.nodes,fun y hy=>(Y6 hy).elim,h.glob,h.stat,fun y hy=>(Y6 hy).elim,h.places,h.sym⟩
section
variable {w w':World}{B1 lo b p:Nat}{F:Nat->Prop}{H half:Int}{P:List (ByteArray×Int)}{m m':S.Mach}
theorem Zvq (i v:Int)(h:KTop w B1 lo b p F H half P m)(hv:0<=v/\v<=4294967295):Calls Tryz.prog 18 #[.pointer (some ⟨p,0,none⟩),.int .i64 i,.int .u32 v] w fun e w'=>∃ r,e=.returned (.int .i64 r)/\KTop w' B1 lo b p F H half P (m.setV i v)/\Only F w w':=by
 obtain ⟨Aw,nw,cw,Ap,cp,h1,h2,h3⟩:=h.blk;obtain ⟨vm,vo,A,c,inp,rd,k1,k2,k3⟩:=h.mach;refine (Zq6 i v k1 hv).mono ?_;rintro e w' ⟨rfl,q1,q2⟩;have ho:Only F w w':=q2.weaken fun k _ hk=>k2 k (.inl hk)
 have hs:=ho.size;have hz:=h.z;have hbB:=h.bB;exact ⟨_,rfl,⟨by omega,h.bB,⟨Aw,nw,cw,Ap,cp,(ho.block b (by omega) h.nb).trans h1,h2.same hs fun k o s e=>ho.block k (by have:=(h3 k o s e).1;omega) (h3 k o s e).2,h3⟩,⟨vm,vo,A,c,inp,rd,q1,k2,k3⟩,h.lowb,h.nb,h.lt,h.few⟩,ho⟩
theorem Z01 (wv gv av:Value)(N:Int)(w:World)(hN:-1000<=N/\N<=0) :
 Calls Tryz.prog 64 #[wv,gv,av,.int .i64 N] w fun e w'=>e=.returned (.int .u32 38)/\Below w.heap.size w w':=by
 have q0:IntKind.i64.wrap (N-1)=N-1:=Yu _ ⟨by omega,by omega⟩;have d1:decide (N-1>=0)=false:=by simp;omega
 have d2:decide (0<=N-1)=false:=by simp;omega
 go_enter Tryz.func64,Tryz.ntmps64
 go_wp2_with fail
 go_loopw [9,10] (fun v9 v10 wl=>v10=.int .i64 (N-1)/\v9=.int .u32 38/\Hid (Below w.heap.size w wl)) (fun _ v10 _=>(intOf v10+1).toNat)
 case atStart=>exact ⟨rfl,rfl,Ya (Yi _ _)⟩
 case round =>
  obtain ⟨rfl,rfl,HB⟩:=hrel;go_wp2_with fail
  go_ret
  exact ⟨rfl,HB.out⟩
end
theorem Zl9 {w:World}{r:Nat}(h:w.heap[r]?=some (.cells #[.int .i64 1,.int .i64 4,.int .i64 5,.int .i64 6,.int .i64 7,.int .i64 8,.int .i64 9,.int .i64 10] 3 (0,0))){k:Nat}(hk:k<8):w.cell? ⟨r,k,none⟩=some (.int .i64 (S.bk k)):=by
 rw [Yb h]
 match k,hk with
 | 0,_=>rfl
 | 1,_=>rfl
 | 2,_=>rfl
 | 3,_=>rfl
 | 4,_=>rfl
 | 5,_=>rfl
 | 6,_=>rfl
 | 7,_=>rfl
def Z4u (w:World)(x:S.am)(c:Nat)(need heap:Int)(e:Ending)(w':World):Prop :=
 ∃ Fs,S.Wr (S.aa x.ng) (S.aa x.ns) Fs heap/\Below w.heap.size w w' /\
  ((heap/2<S.sizes (S.ac x.nodes)/\e=.returned (.tuple #[.pointer none,.pointer none,.slice none 0 0,.slice none 0 0,.int .i64 0]))\/(S.sizes (S.ac x.nodes)<=heap/2/\∃ lo b p F gb Aw cw An cn g C M H,H=((S.wL (S.aa x.ng) (S.aa x.ns) Fs).length:Int)/\g=S.ah x.nodes H /\
   M=S.bz (S.a8 x.en g ((S.ag g (S.wM (S.wL (S.aa x.ng) (S.aa x.ns) Fs) heap [])).setV 26 (H+S.sizes g.ns))) (S.bu g x.roots) c need /\
   C=S.aj (S.ab true (S.aa x.ng) (S.aa x.ns) Fs (H+heap)) M (S.kRt 100) 400000 /\
   e=.returned (.tuple #[.pointer (some ⟨b,0,none⟩),.pointer (some ⟨gb,0,none⟩),.slice Aw (S.au x.en g x.roots c).length cw,.slice An (S.au x.en g x.roots c).length cn,.int .i64 (S.aq C ((S.ab true (S.aa x.ng) (S.aa x.ns) Fs (H+heap)).lab S.kStub))]) /\
   KAt w' lo b p F H (heap/2) (S.wP (S.aa x.ng) (S.aa x.ns) Fs) C /\
   GAt w' F gb g/\ReadsF w' F Aw ((S.au x.en g x.roots c).map (Yt .u32))/\ReadsF w' F An (((((x.en.pl g).map Prod.fst).map C.memV++(Yo (c+1)).map fun i=>C.regV (S.bk i))).map (Yt .u32))))
theorem Zsh:S.kRt 100=⟨#[114,116,49,48,48]⟩:=by kernel_rfl
theorem Zsi {w:World}{F:Nat->Prop}{lo b p:Nat}{half:Int}{Fs:List Int}{x:S.am}(hx:x.Ok){hv:Int}(hheap:2<=hv/\hv<=1000)(hwr:S.Wr (S.aa x.ng) (S.aa x.ns) Fs hv){m0:S.Mach}(hm0:m0=S.wM (S.wL (S.aa x.ng) (S.aa x.ns) Fs) hv []){H:Int}(hH:H=(S.wL (S.aa x.ng) (S.aa x.ns) Fs).length)(hhf:half=hv/2){g:S.Gr}(hg:g=S.ah x.nodes H)(hfit:S.sizes (S.ac x.nodes)<=half)
 {c:Nat} (hc:c<=6) {need:Int} (hn:0<=need/\need<=300) {M:S.Mach} (hM:M=S.bz (S.a8 x.en g ((S.ag g m0).setV 26 (H+S.sizes g.ns))) (S.bu g x.roots) c need) {C:S.Mach} (hC:C=S.aj (S.ab true (S.aa x.ng) (S.aa x.ns) Fs (H+hv)) M (S.kRt 100) 400000) (hK:KAt w lo b p F H half (S.wP (S.aa x.ng) (S.aa x.ns) Fs) M) :
 Calls Tryz.prog 14 #[.pointer (some ⟨b,0,none⟩),.string ⟨#[114,116,49,48,48]⟩,.bool false,.int .i64 400000] w fun e w'=>e=.returned (.int .i64 (S.aq C ((S.ab true (S.aa x.ng) (S.aa x.ns) Fs (H+hv)).lab S.kStub)))/\Zzh w lo b p F H half (S.wP (S.aa x.ng) (S.aa x.ns) Fs) C w':=by
 have hI:∀ b,(S.ab b (S.aa x.ng) (S.aa x.ns) Fs (H+hv)).Ok:=fun b=>by rw [hH];exact hwr.ok b
 have hlab:H=(S.ab true (S.aa x.ng) (S.aa x.ns) Fs (H+hv)).lab S.kEnd:=by rw [hH];exact hwr.len
 have hw:S.Wd (S.aa x.ng) (S.aa x.ns) Fs (H+hv) m0:=by rw [hH,hm0];exact hwr.wd
 have h2:m0.mv 2=H:=by rw [hm0,hwr.fst.m2,hH]
 have h3:m0.mv 3=H+half:=by rw [hm0,hwr.fst.m3,hH,hhf]
 have h4:m0.mv 4=half:=by rw [hm0,hwr.fst.m4,hhf]
 have h7:m0.mv 7=0:=by rw [hm0];exact hwr.fst.low 7 (by decide) (by decide)
 have h27:m0.rd 27=H+half:=by
  have:=hwr.fst.rd 27;rw [hm0,this,hH,hhf];rfl
 have hgok:g.Ok H:=by rw [hg];exact Zaz hx.nodes ⟨by omega,by have:=hwr.small;omega⟩
 obtain ⟨n0,l,re⟩:=Zls hgok (S.au x.en g x.roots c);have q1:=(Znn (x:=x.en) (Zvp hx) rfl (by simp [S.am.nq,S.am.en]) hI hlab hhf ⟨by omega,by omega⟩ hw h2 h3 h4 h7 h27 hfit hg hx.roots hc hn hM hC re).1;obtain ⟨f2,l3,l4⟩:=Za2 (hI true) Zgg;obtain ⟨f1,l1,l2⟩:=Za2 (hI true) Zcx;have h:=Zvy ⟨#[114,116,49,48,48]⟩ 400000 _ _ hK (by rw [<- Zsh];exact f2) f1 ⟨l3,by omega⟩ ⟨l1,by omega⟩ q1.run q1.out q1.steps (by decide);have e:S.bl M ((S.ab true (S.aa x.ng) (S.aa x.ns) Fs (H+hv)).lab S.kStub) ((S.ab true (S.aa x.ng) (S.aa x.ns) Fs (H+hv)).lab (S.kRt 100)) 400000=C:=by
  unfold S.bl;rw [show (400000:Int).toNat=400000 from rfl,hC];rfl
 rw [e] at h;exact h
theorem Zyd (w:World)(hL:LVE w)(x:S.am)(hx:x.Ok)(An Ar Ag As Aq Ap:Option Addr)(cn cr cg cs cq cp:Nat)(hs:SttF w An Ar Ag As Aq Ap x)(c:Nat)(hc:c<=6)(need:Int)(hn:0<=need/\need<=300)(hv:Int)(hhv:400<=hv/\hv<=900) :
 Calls Tryz.prog 24 #[Zsj An Ar Ag As Aq Ap cn cr cg cs cq cp x,.string ⟨#[114,116,49,48,48]⟩,.int .i64 c,.int .u32 need,.int .i64 hv] w (Z4u w x c need hv):=by
 unfold Zsj;have hfew:=hs.few;have hlaid0:=fun (w':World) (hb:Below w.heap.size w w')=>Zvt w' (hL.on hb) x.en (Zvp hx) An none Ag As none Ap cn 0 cg cs 0 cp
  (by
   have h:=hs.below hb;exact ⟨h.nodes,fun q=>absurd q (by show ¬ (0<([]:List (Int×Int)).length);decide),h.glob,h.stat,fun q=>absurd q (by show ¬ (0<([]:List (Int×Int)).length);decide),h.places,⟨h.few.1,Ycc _,h.few.2.2.1,h.few.2.2.2.1,Ycc _,h.few.2.2.2.2.2⟩⟩)
  (Ycc _) hv ⟨by omega,by omega⟩
 have Hlaid0:=Ya hlaid0;have HLV:=Ya hL;have HX:=Ya hx;have Hs:=Ya hs;clear hlaid0 hL hs hx;unfold Zsj at Hlaid0;obtain ⟨NN,hNN⟩:∃ N,N=x.nodes.length:=⟨_,rfl⟩
 obtain ⟨NR,hNR⟩:∃ N,N=x.roots.length:=⟨_,rfl⟩
 obtain ⟨NG,hNG⟩:∃ N,N=x.glob.length:=⟨_,rfl⟩
 obtain ⟨NS,hNS⟩:∃ N,N=x.stat.length:=⟨_,rfl⟩
 obtain ⟨NQ,hNQ⟩:∃ N,N=x.slots.length:=⟨_,rfl⟩
 obtain ⟨NP,hNP⟩:∃ N,N=x.places.length:=⟨_,rfl⟩
 obtain ⟨sy,hsy⟩:∃ s,s=x.sym.1:=⟨_,rfl⟩
 obtain ⟨sz,hsz⟩:∃ s,s=x.sym.2:=⟨_,rfl⟩
 have Hlaid0:Hid (∀ (w':World),Below w.heap.size w w'->Calls Tryz.prog 13 #[.agg #[.slice An NN cn,.slice none 0 0,.slice Ag NG cg,.slice As NS cs,.slice none 0 0,.slice Ap NP cp,.int .u32 sy,.int .u16 sz],.int .i64 hv] w' (Z4a w' x.en hv)):=Ya (by
  rw [hNN,hNG,hNS,hNP,hsy,hsz];exact Hlaid0.out)
 rw [<- hNN,<- hNR,<- hNG,<- hNS,<- hNQ,<- hNP,<- hsy,<- hsz];have HNR:=Ya hNR;have hNRb:NR<=9223372036854775807:=by omega
 clear hNN hNR hNG hNS hNQ hNP hsy hsz hfew
 rename_i HlaidOld
 clear HlaidOld;go_enter Tryz.func24,Tryz.ntmps24
 go_upto_region 1 with fail
 have hb1:=(Yi w.heap.size w).alloc (Yf _) (.cells #[.slice An NN cn,.slice Ar NR cr,.slice Ag NG cg,.slice As NS cs,.slice Aq NQ cq,.slice Ap NP cp,.int .u32 sy,.int .u16 sz] 30);have hr1:=heap_alloc_new w (.cells #[.slice An NN cn,.slice Ar NR cr,.slice Ag NG cg,.slice As NS cs,.slice Aq NQ cq,.slice Ap NP cp,.int .u32 sy,.int .u16 sz] 30);generalize w.alloc (.cells #[.slice An NN cn,.slice Ar NR cr,.slice Ag NG cg,.slice As NS cs,.slice Aq NQ cq,.slice Ap NP cp,.int .u32 sy,.int .u16 sz] 30)=w1 at *;have hz1:=(Ye.1 hr1).1;have f1:∀ k,w1.frozen? ⟨w.heap.size,k,none⟩=false:=fun k=>Yaj hr1 k
 have f14:=f1 4;have d14:w1.cell? ⟨w.heap.size,4,none⟩=some (.slice Aq NQ cq):=by rw [Yb hr1];rfl
 have HB1:=Ya hb1;have HR1:=Ya hr1;clear hb1 hr1;go_upto_region 2 with fail
 have hr2:=Zfy (j:=4) (u:=.slice none 0 0) HR1.out;have hb2:=HB1.out.setCell (p:=⟨w.heap.size,4,none⟩) (Yf _) (.slice none 0 0);have hz2:w.heap.size<(w1.setCell ⟨w.heap.size,4,none⟩ (.slice none 0 0)).heap.size:=(Ye.1 hr2).1;generalize w1.setCell ⟨w.heap.size,4,none⟩ (.slice none 0 0)=w2 at *;have d21:w2.cell? ⟨w.heap.size,1,none⟩=some (.slice Ar NR cr):=by rw [Yb hr2];rfl
 have f21:w2.frozen? ⟨w.heap.size,1,none⟩=false:=Yaj hr2 1;have HB2:=Ya hb2;have HR2:=Ya hr2;clear hb2 hr2 f1 f14 d14 hz1 HB1 HR1;go_upto_region 4 with fail
 have hr3:=Zfy (j:=1) (u:=.slice none 0 0) HR2.out;have hb3:=HB2.out.setCell (p:=⟨w.heap.size,1,none⟩) (Yf _) (.slice none 0 0);have hz3:w.heap.size<(w2.setCell ⟨w.heap.size,1,none⟩ (.slice none 0 0)).heap.size:=(Ye.1 hr3).1;generalize w2.setCell ⟨w.heap.size,1,none⟩ (.slice none 0 0)=w3 at *;have z0:w3.cell? ⟨w.heap.size,0,none⟩=some (.slice An NN cn):=by rw [Yb hr3];rfl
 have z1:w3.cell? ⟨w.heap.size,1,none⟩=some (.slice none 0 0):=by rw [Yb hr3];rfl
 have z2:w3.cell? ⟨w.heap.size,2,none⟩=some (.slice Ag NG cg):=by rw [Yb hr3];rfl
 have z3:w3.cell? ⟨w.heap.size,3,none⟩=some (.slice As NS cs):=by rw [Yb hr3];rfl
 have z4:w3.cell? ⟨w.heap.size,4,none⟩=some (.slice none 0 0):=by rw [Yb hr3];rfl
 have z5:w3.cell? ⟨w.heap.size,5,none⟩=some (.slice Ap NP cp):=by rw [Yb hr3];rfl
 have z6:w3.cell? ⟨w.heap.size,6,none⟩=some (.int .u32 sy):=by rw [Yb hr3];rfl
 have z7:w3.cell? ⟨w.heap.size,7,none⟩=some (.int .u16 sz):=by rw [Yb hr3];rfl
 have HB3:=Ya hb3;have Hlaid:=Ya (Hlaid0.out w3 hb3);clear hr3 hb3 HB2 HR2 d21 f21 hz2 Hlaid0;go_wp2_with fail
 refine Hlaid.out.mono ?_;rintro e w4 ⟨Fs,hwr,hb4,hcase⟩;have HB4:=Ya (HB3.out.trans (hb4.mono HB3.out.size));clear z0 z1 z2 z3 z4 z5 z6 z7 Hlaid hb4;rcases hcase with h1 | ⟨hfit,b,p,F,gb,Aw,cw,Aa,ca,g,hg,rfl,hk,hga,hrw,hra,B1,lo,hzb,htop,hgat,how,hoa⟩
 ·have Hwr:=Ya hwr
  have H0:=Ya h1.1;obtain ⟨_,rfl⟩:=h1;clear hwr;go_wp2_with fail
  refine bodyPost_ret (v:=.tuple #[.pointer none,.pointer none,.slice none 0 0,.slice none 0 0,.int .i64 0]) (by simp [results,Tryz.results24,go_sem]) rfl ?_;exact ⟨Fs,Hwr.out,HB4.out,.inl ⟨H0.out,rfl⟩⟩
 obtain ⟨H,hH⟩:∃ H:Int,H=(S.wL (S.aa x.ng) (S.aa x.ns) Fs).length:=⟨_,rfl⟩
 replace hwr:S.Wr (S.aa x.ng) (S.aa x.ns) Fs hv:=hwr
 have hHb:0<=H/\H<=12000:=by have:=hwr.small;omega
 have hlow:∀ k,F k->w.heap.size<=k:=fun k hk2=>by have:=(hk.lt k hk2).1;omega
 obtain ⟨half,hhf⟩:∃ h:Int,h=hv/2:=⟨_,rfl⟩
 replace hg:g=S.ah x.nodes H:=by rw [hH];exact hg
 obtain ⟨m0,hm0⟩:=Yx (S.wM (S.wL (S.aa x.ng) (S.aa x.ns) Fs) hv []);obtain ⟨PP,hPP⟩:=Yx (S.wP (S.aa x.ng) (S.aa x.ns) Fs);obtain ⟨M0,hM0⟩:=Yx (S.a8 x.en g ((S.ag g m0).setV 26 (H+S.sizes g.ns)))
 replace htop:KTop w4 B1 lo b p F H half PP M0:=by
  rw [hM0,hm0,hH,hPP,hhf];exact htop
 obtain ⟨was,hwas⟩:∃ l,l=(x.en.pl g).map Prod.snd:=⟨_,rfl⟩
 obtain ⟨at_,hat⟩:∃ l,l=(x.en.pl g).map Prod.fst:=⟨_,rfl⟩
 obtain ⟨N,hN⟩:=Yx (x.en.pl g).length;have hN27:N<=27:=by rw [hN];exact Zmd x.en g
 rw [<- hwas,<- hN] at how;rw [<- hat,<- hN] at hoa;rw [<- hN];have hgok:g.Ok H:=by rw [hg];exact Zaz HX.out.nodes ⟨by omega,by omega⟩
 have hszE:S.sizes g.ns=S.sizes (S.ac x.nodes):=by rw [hg];rfl
 have hgz:H+S.sizes g.ns<=335544320:=by have:=Z0 x.nodes;omega
 have hz4:=HB4.out.size;have HL4:Hid (LSt w w.heap.size B1 lo b p gb F H half PP g M0 (.slice Aw N cw) (.slice Aa N ca) N N was at_ w4):=Ya ⟨htop,hgat,how,hoa,HB4.out,hlow,by omega⟩;have HWr:=Ya hwr;have HH:=Ya hH;have Hhf:=Ya hhf;have Hm0:=Ya hm0;have HPP:=Ya hPP;have HM0:=Ya hM0;have Hwas:=Ya hwas;have Hat:=Ya hat;have HN:=Ya hN;have Hgok:=Ya hgok;have Hgz:=Ya hgz;have Hg:=Ya hg;have Hfit:=Ya hfit;have Hlow:=Ya hlow;clear hk hga hrw hra hwr hH hhf hm0 hPP hM0 hwas hat hN hgok hszE hgz hg hfit how hoa hgat htop hlow HB4 hz4;have m1:min (c:Int) 6=c:=by omega
 have m2:IntKind.i64.wrap ((c:Int)+1)=(c:Int)+1:=Yu _ ⟨by omega,by omega⟩;have m3:decide ((c:Int)>6)=false:=by simp;omega
 have m4:decide (6<(c:Int))=false:=by simp;omega
 have m5:decide (6<c)=false:=by simp;omega
 go_upto_region 8 with fail
 have hr5:=heap_alloc_new w4 (.cells #[.int .i64 1,.int .i64 4,.int .i64 5,.int .i64 6,.int .i64 7,.int .i64 8,.int .i64 9,.int .i64 10] 3);have hb5:=(Yi w4.heap.size w4).alloc (Yf _) (.cells #[.int .i64 1,.int .i64 4,.int .i64 5,.int .i64 6,.int .i64 7,.int .i64 8,.int .i64 9,.int .i64 10] 3);have HL5:=Ya (HL4.out.below hb5);have hrB:B1<=w4.heap.size:=HL4.out.top.z;obtain ⟨r,hr⟩:=Yx w4.heap.size;generalize w4.alloc (.cells #[.int .i64 1,.int .i64 4,.int .i64 5,.int .i64 6,.int .i64 7,.int .i64 8,.int .i64 9,.int .i64 10] 3)=w5 at *;rw [<- hr] at hr5 hrB ⊢;have HR5:=Ya hr5;clear hr5 hb5 HL4 hr;obtain ⟨vv,hvv⟩:=Yx (S.bu g x.roots);have hvb:∀ k,k<8->0<=S.bt vv k/\S.bt vv k<=4294967295:=fun k hk=>by
  have h:=Zln Hgok.out Hgz.out HX.out.roots hk;unfold S.bt;rw [hvv]
  split
  ·decide
  ·exact ⟨h.1,by have:=h.2.1;omega⟩
 have Hvv:=Ya hvv;have Hvb:=Ya hvb;clear hvv hvb;go_wp2_with fail
 go_loopw [18,22] (fun v18 v22 wl=>∃ k:Nat,k<=8/\v22=.int .i64 k/\(∃ j:Nat,j=min k (c+1)/\∃ Aw cw,v18=.slice Aw (N+j) cw/\Hid (LSt w w.heap.size B1 lo b p gb F H half PP g (S.bx M0 vv k) (.slice Aw (N+j) cw) (.slice Aa N ca) (N+j) N (was++(Yo j).map vv) at_ wl))/\Hid (wl.heap[r]?=some (.cells #[.int .i64 1,.int .i64 4,.int .i64 5,.int .i64 6,.int .i64 7,.int .i64 8,.int .i64 9,.int .i64 10] 3 (0,0)))) (fun _ v22 _=>(8-intOf v22).toNat)
 case atStart=>exact ⟨0,by omega,rfl,⟨0,by omega,Aw,cw,rfl,Ya (by rw [List.range_zero,Ycf,Yat];exact HL5.out)⟩,HR5⟩
 case round =>
  obtain ⟨k,hk,rfl,⟨j,hj,Aw,cw,rfl,HL⟩,HRr⟩:=hrel;have Hj:=Ya hj;have hjk:j<=k/\j<=7:=by omega
  clear hj;by_cases hk8:k<8
  ·have d1:decide ((k:Int)<8)=true:=by simp;omega
   have d2:decide (k<8)=true:=by simp;omega
   have c1:IntKind.i64.wrap (4*(k:Int))=4*k:=Yu _ ⟨by omega,by omega⟩;have c2:4*(k:Int)%4294967296=4*k:=by omega
   have c3:IntKind.i64.wrap ((c:Int)-6)=(c:Int)-6:=Yu _ ⟨by omega,by omega⟩;have c4:IntKind.i64.wrap ((k:Int)+1)=k+1:=Yu _ ⟨by omega,by omega⟩;obtain ⟨wd,hwd⟩:∃ v,v=vv k:=⟨_,rfl⟩
   have Hwd:=Ya hwd;clear hwd m1 m2 m3 m4 m5 HL5 HR5
   go_upto_if 59 with fail
   go_cut [23] (fun v23 wc=>v23=.int .u32 wd/\Hid (LSt w w.heap.size B1 lo b p gb F H half PP g (S.bx M0 vv k) (.slice Aw (N+j) cw) (.slice Aa N ca) (N+j) N (was++(Yo j).map vv) at_ wc)/\Hid (wc.heap[r]?=some (.cells #[.int .i64 1,.int .i64 4,.int .i64 5,.int .i64 6,.int .i64 7,.int .i64 8,.int .i64 9,.int .i64 10] 3 (0,0))))
   case first =>
    by_cases hA:k<NR
    ·have hil:k<x.roots.length:=by rw [<- HNR.out];exact hA
     have hbw0:=HL.out.bel;obtain ⟨bw,ow,hAw,hbw,hcw⟩:=(Hs.out.roots.pass (F':=fun k=>wr.heap.size<=k) ⟨.of_below hbw0,fun k hk q=>by have:=hbw0.size;omega⟩) (by omega)
     obtain ⟨y0,y1,y2,y3,y4,y5⟩:=hcw k x.roots[k] (Yc hil);have hbw1:=hbw.1;have hgd:x.roots.getD k (0,0)=x.roots[k]:=by rw [List.getD_eq_getElem?_getD,Yc hil];rfl
     obtain ⟨y,hy⟩:=Yx x.roots[k];rw [<- hy] at y0 y1 y2 y3 y4 y5 hgd;obtain ⟨u,s⟩:=y;simp only at y0 y1 y2 y3 y4 y5;have hgw:=Zcn (u,s) ⟨y2,y3,y4,y5⟩ HL.out.gat;rw [show g.word (u,s)=wd from by rw [Hwd.out,Hvv.out,<- hgd];unfold S.bu;rw [if_pos hil]] at hgw;have Hgw:=Ya hgw;have d3:decide ((k:Int)<NR)=true:=by simp;omega
     have d4:decide (k<NR)=true:=by simp;omega
     subst hAw;clear hgw hgd hcw hbw hy hbw0;go_wp2_with fail
     refine Hgw.out.mono ?_;rintro e w6 ⟨rfl,hb6⟩;have HL6:=Ya (HL.out.below hb6);have HR6:=Ya ((hb6.block r (Ye.1 HRr.out).1).trans HRr.out);clear hb6 Hgw y0 y1;go_wp2_with fail
     go_meet
     exact ⟨rfl,HL6,HR6⟩
    ·have d3:decide ((k:Int)<NR)=false:=by simp;omega
     have d4:decide (k<NR)=false:=by simp;omega
     have hwd:4*(k:Int)=wd:=by
      rw [Hwd.out,Hvv.out];unfold S.bu;rw [if_neg (by rw [<- HNR.out];exact hA)]
     have Hwd2:=Ya hwd;clear hwd;go_wp2_with fail
     go_meet
     exact ⟨by rw [Hwd2.out],HL,HRr⟩
   case rest =>
   obtain ⟨rfl,HL1,HR1⟩:=hcut;clear HL HRr c1 c2;have hcell:=Zl9 HR1.out hk8;have hrz:=(Ye.1 HR1.out).1;obtain ⟨rk,hrk⟩:∃ v,v=S.bk k:=⟨_,rfl⟩
   rw [<- hrk] at hcell;have Hrk:=Ya hrk;clear hrk;obtain ⟨wv,hwv⟩:∃ v,v=S.bt vv k:=⟨_,rfl⟩
   have Hwv:=Ya hwv;clear hwv
   go_upto_if 70 with fail
   go_cut [23] (fun v23 wc=>v23=.int .u32 wv/\Hid (LSt w w.heap.size B1 lo b p gb F H half PP g (S.bx M0 vv k) (.slice Aw (N+j) cw) (.slice Aa N ca) (N+j) N (was++(Yo j).map vv) at_ wc)/\Hid (wc.heap[r]?=some (.cells #[.int .i64 1,.int .i64 4,.int .i64 5,.int .i64 6,.int .i64 7,.int .i64 8,.int .i64 9,.int .i64 10] 3 (0,0))))
   case first =>
    by_cases h7:k=7
    ·have hrk:rk=10:=by rw [Hrk.out,h7];rfl
     have hwv:wv=38:=by rw [Hwv.out];unfold S.bt;rw [if_pos h7]
     subst hrk hwv;clear h7;go_wp2_with fail
     refine (Z01 _ _ _ _ _ ⟨by omega,by omega⟩).mono ?_;rintro e w7 ⟨rfl,hb7⟩;have HL7:=Ya (HL1.out.below hb7);have HR7:=Ya ((hb7.block r hrz).trans HR1.out);clear hb7;go_wp2_with fail
     go_meet
     exact ⟨rfl,HL7,HR7⟩
    ·have hrk:rk≠10:=by rw [Hrk.out];unfold S.bk;split <;> omega
     have hwv:wd=wv:=by rw [Hwv.out,Hwd.out];unfold S.bt;rw [if_neg h7]
     have Hwv2:=Ya hwv;have d5:decide (rk=10)=false:=by simp [hrk]
     have d6:(rk==10)=false:=by simp [hrk]
     clear hwv h7;go_wp2_with fail
     go_meet
     exact ⟨by rw [Hwv2.out],HL1,HR1⟩
   case rest =>
   obtain ⟨rfl,HL2,HR2⟩:=hcut;clear HL1 HR1 hcell hrz;have hcell:=Zl9 HR2.out hk8;have hrz:=(Ye.1 HR2.out).1;rw [<- Hrk.out] at hcell;have hwb:0<=wv/\wv<=4294967295:=by rw [Hwv.out];exact Hvb.out k hk8
   obtain ⟨_,_,_,_,_,_,e0,e1,e2,e3,e4⟩:=HL2.out.top.kat.cells;have hbl:=HL2.out.top.kat.blt;go_upto_region 19 with fail
   refine Ze 9 (by kernel_rfl) (by kernel_rfl) ?_;have hE:=Zf wc;simp only [List.take_succ_cons,List.take_zero,Yae,Yay]
   repeat (first | go_big_quiet_step (fail))
   refine wpQuiet_nil ?_;rintro w6 ⟨⟨_,hb6⟩,rfl⟩;have HL6:=Ya (HL2.out.below hb6);have HR6:=Ya ((hb6.block r hrz).trans HR2.out);clear hE hb6 HL2 HR2 e0 e1 e2 e3 e4 hbl hcell hrz;go_wp2_with fail
   refine (Zvq rk wv HL6.out.top hwb).mono ?_;rintro e w7 ⟨rv,rfl,hk7,ho7⟩;have HL7:Hid (LSt w w.heap.size B1 lo b p gb F H half PP g (S.bx M0 vv (k+1)) (.slice Aw (N+j) cw) (.slice Aa N ca) (N+j) N (was++(Yo j).map vv) at_ w7):=Ya (by
    show LSt w w.heap.size B1 lo b p gb F H half PP g ((S.bx M0 vv k).setV (S.bk k) (S.bt vv k)) _ _ _ _ _ _ w7
    rw [<- Hrk.out,<- Hwv.out];exact HL6.out.put hk7 ho7)
   have HR7:=Ya (HL6.out.q_put hrB HR6.out ho7);clear hk7 ho7 HL6 HR6;by_cases hkc:k<=c
   ·have hj2:j+1=min (k+1) (c+1):=by have h1:=Hj.out;omega
    have hwv:wv=vv j:=by
     have h1:=Hj.out;rw [Hwv.out];unfold S.bt;rw [if_neg (by omega)]
     congr 1
     omega
    have d5:decide ((k:Int)<(c:Int)+1)=true:=by simp;omega
    have Hwv2:=Ya hwv;have Hj2:=Ya hj2;clear hwv hj2;go_upto_region 13 with (at_builtin;refine Zg rfl (.tmp 90) (.tmp 92) _ rfl B1 25 Zy Tryz.underlying33 rfl (by decide) #[.int .u32 wv] _ (N+j) _ rfl HL7.out.rw rfl rfl rfl (by simp [Y3]) (by simp only [maxLen];omega) (by omega) HL7.out.top.z ?_;intro v' w9 ho9 hg9 hb9 _;obtain ⟨A8,c8,rfl⟩:=Za ho9)
    have HL9:=Ya (HL7.out.pushW ho9 hg9 hb9);have HR9:=Ya ((hg9.block r (Ye.1 HR7.out).1 (fun e=>Zs HL7.out.rw HR7.out (by decide) e.symm)).trans HR7.out);clear ho9 hg9 hb9 HL7 HR7;go_wp2_with fail
    go_roundw
    case rel =>
     refine ⟨k+1,by omega,rfl,⟨j+1,Hj2.out,A8,c8,rfl,Ya ?_⟩,HR9⟩;rw [Yb0,Yv,<- Ym];have h:=HL9.out;rw [Hwv2.out] at h;exact h
    case measure=>simp [intOf];omega
   ·have hj2:j=min (k+1) (c+1):=by have h1:=Hj.out;omega
    have d5:decide ((k:Int)<(c:Int)+1)=false:=by simp;omega
    have Hj2:=Ya hj2;clear hj2;go_wp2_with fail
    go_roundw
    case rel=>exact ⟨k+1,by omega,rfl,⟨j,Hj2.out,Aw,cw,rfl,HL7⟩,HR7⟩
    case measure=>simp [intOf];omega
  ·have hke:k=8:=by omega
   have hje:j=c+1:=by have h1:=Hj.out;omega
   have d1:decide ((k:Int)<8)=false:=by simp;omega
   have d2:decide (k<8)=false:=by simp;omega
   have HLx:Hid (LSt w w.heap.size B1 lo b p gb F H half PP g (S.bx M0 vv 8) (.slice Aw (N+(c+1)) cw) (.slice Aa N ca) (N+(c+1)) N (was++(Yo (c+1)).map vv) at_ wr):=Ya (by rw [<- hke,<- hje];exact HL.out);subst hje;clear HL hke HL5 HR5 m1 m2 m3 m4 m5;obtain ⟨_,_,_,_,_,_,e0,e1,e2,e3,e4⟩:=HLx.out.top.kat.cells;have hbl:=HLx.out.top.kat.blt;have c1:(c:Int)%4294967296=c:=by omega
   go_wp2_with fail
   refine (Zvq 2 c HLx.out.top ⟨by omega,by omega⟩).mono ?_;rintro e w7 ⟨rv,rfl,hk7,ho7⟩;have HL7:=Ya (HLx.out.put hk7 ho7);have HR7:=Ya (HLx.out.q_put hrB HRr.out ho7);clear hk7 ho7 HLx HRr e0 e1 e2 e3 e4 hbl c1;obtain ⟨_,_,_,_,_,_,e0,e1,e2,e3,e4⟩:=HL7.out.top.kat.cells;have hbl:=HL7.out.top.kat.blt;go_wp2_with fail
   refine (Zvq 3 need HL7.out.top ⟨by omega,by omega⟩).mono ?_;rintro e w8 ⟨rv2,rfl,hk8,ho8⟩;obtain ⟨M,hM⟩:=Yx (S.bz M0 vv c need);have HL8:Hid (LSt w w.heap.size B1 lo b p gb F H half PP g M (.slice Aw (N+(c+1)) cw) (.slice Aa N ca) (N+(c+1)) N (was++(Yo (c+1)).map vv) at_ w8):=Ya (by rw [hM];exact HL7.out.put hk8 ho8);have HR8:=Ya (HL7.out.q_put hrB HR7.out ho8);have HM:=Ya hM;clear hk8 ho8 HL7 HR7 e0 e1 e2 e3 e4 hbl hM;obtain ⟨C,hC⟩:=Yx (S.aj (S.ab true (S.aa x.ng) (S.aa x.ns) Fs (H+hv)) M (S.kRt 100) 400000);have hcall:=Zsi HX.out ⟨by omega,by omega⟩ HWr.out Hm0.out HH.out Hhf.out Hg.out (by rw [Hhf.out];exact Hfit.out) hc hn (by rw [HM.out,HM0.out,Hvv.out]) hC (by rw [<- HPP.out];exact HL8.out.top.kat);rw [<- HPP.out] at hcall;obtain ⟨R,hR⟩:=Yx (S.aq C ((S.ab true (S.aa x.ng) (S.aa x.ns) Fs (H+hv)).lab S.kStub));rw [<- hR] at hcall;have Hcall:=Ya hcall;have HC:=Ya hC;have HR:=Ya hR;clear hcall hC hR;go_wp2_with fail
   refine Hcall.out.mono ?_;rintro e w10 ⟨rfl,F10,hk10,ho10,hf10⟩;have nF:∀ k,B1<=k->¬ F k:=fun k hk q=>by
    have:=(HL8.out.top.lt k q).2;omega
   have HK10:=Ya hk10;have HG10:Hid (GAt w10 F10 gb g):=Ya (HL8.out.gat.pass ⟨ho10.weaken fun k _ q=>.inl q,fun k hk q=>.inl (hf10 k hk q)⟩);have HW10:=Ya ((Zn7 HL8.out.rw nF).pass ⟨ho10,hf10⟩);have HA10:=Ya ((Zn7 HL8.out.ra nF).pass ⟨ho10,hf10⟩);have HB10:=Ya (HL8.out.bel.trans (ho10.below HL8.out.bel.size Hlow.out));have HR10:=Ya ((ho10.block r (Ye.1 HR8.out).1 (nF r hrB)).trans HR8.out);have Hal:=Ya (show at_.length=N by rw [Hat.out,HN.out,Yp]);clear hk10 ho10 hf10 HL8 HR8 Hcall nF;have hwo:=Zh7 HK10.out Aa ca at_ HA10.out.reads (by rw [Hal.out];omega);rw [Hal.out] at hwo;obtain ⟨nw,hnw⟩:∃ l,l=at_.map C.memV:=⟨_,rfl⟩
   rw [<- hnw] at hwo;have Hwo:=Ya hwo;have Hnw:=Ya hnw;clear hwo hnw;go_wp2_with fail
   refine Hwo.out.mono ?_;rintro e w11 ⟨An2,cn2,rfl,ho11,hb11⟩;have HO11:=Ya ho11;have HB11:=Ya hb11;clear ho11 hb11 Hwo;obtain ⟨rv8,hrv8⟩:∃ f:Nat->Int,f=fun i=>C.regV (S.bk i):=⟨_,rfl⟩
   have Hrv8:=Ya hrv8;clear hrv8;go_wp2_with fail
   go_loopw [25,26] (fun v25 v26 wl=>∃ k:Nat,k<=c+1/\v26=.int .i64 k/\(∃ A c2,v25=.slice A (N+k) c2/\Hid (wl.ownsRow w10.heap.size 25 1 (.slice A (N+k) c2) (N+k) ((nw++(Yo k).map rv8).map (Yt .u32))))/\Hid (Below w10.heap.size w10 wl)) (fun _ v26 _=>(c+1-intOf v26).toNat)
   case atStart=>exact ⟨0,by omega,rfl,⟨An2,cn2,rfl,Ya (by rw [List.range_zero,Ycf,Yat];exact HO11.out)⟩,HB11⟩
   case round =>
    obtain ⟨k,hk,rfl,⟨A,c2,rfl,HO⟩,HBk⟩:=hrel;clear HO11 HB11;by_cases hkc:k<c+1
    ·have d1:decide ((k:Int)<(c:Int)+1)=true:=by simp;omega
     have d2:decide ((k:Int)<8)=true:=by simp;omega
     have d3:decide (k<8)=true:=by simp;omega
     have c4:IntKind.i64.wrap ((k:Int)+1)=k+1:=Yu _ ⟨by omega,by omega⟩;have HKk:=Ya (HK10.out.below HBk.out);have hrr:=(HBk.out.block r (Ye.1 HR10.out).1).trans HR10.out;have hcell:=Zl9 hrr (show k<8 by omega);have hrz:=(Ye.1 hrr).1;obtain ⟨rk,hrk⟩:∃ v,v=S.bk k:=⟨_,rfl⟩
     rw [<- hrk] at hcell;obtain ⟨rv,hrv⟩:∃ v,v=rv8 k:=⟨_,rfl⟩
     have hrg:=fun y:Ext wr=>Zd3 rk (HKk.out.below y.property)
     rw [show C.regV rk=rv from by rw [hrv,Hrv8.out,hrk]] at hrg;have Hrg:=Ya hrg;have Hrv:=Ya hrv;have Hz10:=HBk.out.size;obtain ⟨_,_,_,_,_,_,e0,e1,e2,e3,e4⟩:=HKk.out.cells;have hbl:=HKk.out.blt;clear hrg hrv hrk hrr;go_upto_region 29 with fail
     refine Zau 10 1 [0,1,2,3,4,5,6,7,8,9] (by kernel_rfl) (by kernel_rfl) (fun _ _ _ _ _ h=>h) ?_;have hE:=Zf wr
     repeat (first | (refine Zgn rfl ?_;go_big_quiet_step ((go_at_call 19;exact Zp (Hrg.out _)))))
     refine wpQuiet_nil ?_;rintro w12 ⟨⟨_,hb12⟩,rfl⟩;simp only [Yae,Yay];have HO12:=Ya (Zc HO.out hb12);have HB12:=Ya (HBk.out.trans (hb12.mono HBk.out.size));have hz12:=HB12.out.size;clear hE hb12 HO HBk HKk Hrg e0 e1 e2 e3 e4 hbl hcell hrz Hz10;go_upto_region 28 with (at_builtin;refine Zg rfl (.tmp 118) (.tmp 128) _ rfl w10.heap.size 25 Zy Tryz.underlying33 rfl (by decide) #[.int .u32 rv] _ (N+k) _ rfl HO12.out rfl rfl rfl (by simp [Y3]) (by simp only [maxLen];omega) (by omega) hz12 ?_;intro v' w13 ho13 hg13 hb13 _;obtain ⟨A8,c8,rfl⟩:=Za ho13)
     have HB13:=Ya (HB12.out.trans hb13);have HO13:Hid (w13.ownsRow w10.heap.size 25 1 (.slice A8 (N+(k+1)) c8) (N+(k+1)) ((nw++(Yo (k+1)).map rv8).map (Yt .u32))):=Ya (by
      have e:nw++(Yo (k+1)).map rv8=(nw++(Yo k).map rv8)++[rv8 k]:=by
       rw [Yb0,Yv,<- Ym];rfl
      have h:=ho13;rw [e,Yv,<- Hrv.out];exact h)
     clear ho13 hg13 hb13 HO12 HB12 hz12;go_wp2_with fail
     go_roundw
     case rel=>exact ⟨k+1,by omega,rfl,⟨A8,c8,rfl,HO13⟩,HB13⟩
     case measure=>simp [intOf];omega
    ·have hke:k=c+1:=by omega
     have d1:decide ((k:Int)<(c:Int)+1)=false:=by simp;omega
     have HOx:Hid (wr.ownsRow w10.heap.size 25 1 (.slice A (N+(c+1)) c2) (N+(c+1)) ((nw++(Yo (c+1)).map rv8).map (Yt .u32))):=Ya (by rw [<- hke];exact HO.out);subst hke;clear HO;go_wp2_with fail
     refine bodyPost_ret (v:=.tuple #[.pointer (some ⟨b,0,none⟩),.pointer (some ⟨gb,0,none⟩),.slice Aw (N+(c+1)) cw,.slice A (N+(c+1)) c2,.int .i64 R]) (by simp [results,Tryz.results24,go_sem]) rfl ?_;have hwasE:was++(Yo (c+1)).map vv=S.au x.en g x.roots c:=by rw [Hwas.out,Hvv.out];rfl
     have hlen:(S.au x.en g x.roots c).length=N+(c+1):=by
      rw [<- hwasE,Yd,Yp,Ybu,Hwas.out,Yp,HN.out]
     have hfit:=Hfit.out;refine ⟨Fs,HWr.out,HB10.out.trans (HBk.out.mono HB10.out.size),.inr ⟨hfit,lo,b,p,F10,gb,Aw,cw,A,c2,g,C,M,H,HH.out,Hg.out,by rw [HM.out,HM0.out,Hvv.out,Hm0.out],HC.out,by rw [hlen,<- HR.out],?_,HG10.out.below HBk.out,?_,?_⟩⟩
     ·rw [<- Hhf.out,<- HPP.out]
      exact HK10.out.below HBk.out
     ·rw [<- hwasE]
      exact HW10.out.pass (.of_below HBk.out)
     ·have h:=Zn7 (F:=F10) HOx.out (fun k hk q=>absurd hk (Nat.not_le.2 (HK10.out.lt k q).2))
      rw [Hnw.out,Hrv8.out,Hat.out] at h;exact h
end
section
open Go.RowKit
structure S.dn (x:S.am)(g:S.Gr)(H half n n0 size:Int)(l:List Nat)(c:Nat)(C:S.Mach)(R:Int):Prop where
 room:n<=half-S.sizes g.ns->R=0/\C.mv 2=H/\C.rd 27-C.rd 26=half-S.sizes g.ns/\C.mv 8=0/\C.mv 6=0/\C.rd 2=c/\(∀ q∈x.en.pl g,C.mv q.1=q.2)/\∀ i,i<=c->C.rd (S.bk i)=S.bu g x.roots i
 full:half-S.sizes g.ns<n->half-n0<n->R=256
 kept:half-S.sizes g.ns<n->n<=half-n0->R=0/\C.Ok/\(∃ nu,S.Keeps g (S.au x.en g x.roots c) ((S.bo x.en g c).map C.mv) C.mv (C.mv 2) half (C.rd 26) (C.rd 27) l nu)/\C.mv 2=H+half/\C.rd 27-C.rd 26=half-n0/\C.mv 8=0/\C.mv 6=0/\C.rd 2=c/\∀ i,i<=c->C.rd (S.bk i)=C.mv (16+(i:Nat))
 len:(C.mem.length:Int)=size
 fit:n0<=S.sizes g.ns/\0<=n0
theorem Z02 {half:Int}{Fs:List Int}{x:S.am}(hx:x.Ok){hv:Int}(hheap:2<=hv/\hv<=1000)(hwr:S.Wr (S.aa x.ng) (S.aa x.ns) Fs hv){m0:S.Mach}(hm0:m0=S.wM (S.wL (S.aa x.ng) (S.aa x.ns) Fs) hv []){H:Int}(hH:H=(S.wL (S.aa x.ng) (S.aa x.ns) Fs).length)(hhf:half=hv/2){g:S.Gr}(hg:g=S.ah x.nodes H)(hfit:S.sizes (S.ac x.nodes)<=half)
 {c:Nat} (hc:c<=6) {need:Int} (hn:0<=need/\need<=300) {M:S.Mach} (hM:M=S.bz (S.a8 x.en g ((S.ag g m0).setV 26 (H+S.sizes g.ns))) (S.bu g x.roots) c need) {C:S.Mach} (hC:C=S.aj (S.ab true (S.aa x.ng) (S.aa x.ns) Fs (H+hv)) M (S.kRt 100) 400000)
 {n0:Int} {l:List Nat} (re:S.Reached g (S.au x.en g x.roots c) n0 l):S.dn x g H half need n0 (H+hv) l c C (S.aq C ((S.ab true (S.aa x.ng) (S.aa x.ns) Fs (H+hv)).lab S.kStub)):=by
 have hI:∀ b,(S.ab b (S.aa x.ng) (S.aa x.ns) Fs (H+hv)).Ok:=fun b=>by rw [hH];exact hwr.ok b
 have hlab:H=(S.ab true (S.aa x.ng) (S.aa x.ns) Fs (H+hv)).lab S.kEnd:=by rw [hH];exact hwr.len
 have hw:S.Wd (S.aa x.ng) (S.aa x.ns) Fs (H+hv) m0:=by rw [hH,hm0];exact hwr.wd
 have h2:m0.mv 2=H:=by rw [hm0,hwr.fst.m2,hH]
 have h3:m0.mv 3=H+half:=by rw [hm0,hwr.fst.m3,hH,hhf]
 have h4:m0.mv 4=half:=by rw [hm0,hwr.fst.m4,hhf]
 have h7:m0.mv 7=0:=by rw [hm0];exact hwr.fst.low 7 (by decide) (by decide)
 have h27:m0.rd 27=H+half:=by
  have:=hwr.fst.rd 27;rw [hm0,this,hH,hhf];rfl
 have hgok:g.Ok H:=by rw [hg];exact Zaz hx.nodes ⟨by omega,by have:=hwr.small;omega⟩
 obtain ⟨q1,q2,q3,q4,q5⟩:=Znn (x:=x.en) (Zvp hx) rfl (by simp [S.am.nq,S.am.en]) hI hlab hhf ⟨by omega,by omega⟩ hw h2 h3 h4 h7 h27 hfit hg hx.roots hc hn hM hC re;have hn0:=Zd6 hgok re;have hn1:0<=n0:=by
  have h2:=re.sum;have h3:=Zge hgok l re.rng;omega
 refine ⟨fun h=>?_,fun h h'=>?_,fun h h'=>?_,by rw [hC];exact Zgr q1 _ _,hn0,hn1⟩
 ·obtain ⟨r1,r⟩:=q3 h
  refine ⟨?_,r⟩;unfold S.aq;rw [if_neg (fun q=>q q2)];exact if_pos r1
 ·obtain ⟨r1,r2⟩:=q4 h h'
  unfold S.aq;rw [if_neg (fun q=>q q2)];exact (if_neg r1).trans (by rw [r2];rfl)
 ·obtain ⟨r1,r⟩:=q5 h h'
  refine ⟨?_,r⟩;unfold S.aq;rw [if_neg (fun q=>q q2)];exact if_pos r1
structure ESt (lo b p gb:Nat)(F:Nat->Prop)(H half:Int)(P:List (ByteArray×Int))(g:S.Gr)(m:S.Mach)(Aw An:Option Addr)(was now:List Int)(w:World):Prop where
 kat:KAt w lo b p F H half P m
 gat:GAt w F gb g
 rw:ReadsF w F Aw (was.map (Yt .u32))
 rn:ReadsF w F An (now.map (Yt .u32))
theorem ESt.below {w w':World}{lo b p gb:Nat}{F:Nat->Prop}{H half:Int}{P:List (ByteArray×Int)}{g:S.Gr}{m:S.Mach}{Aw An:Option Addr}{was now:List Int}(h:ESt lo b p gb F H half P g m Aw An was now w)(hb:Below w.heap.size w w'):ESt lo b p gb F H half P g m Aw An was now w' :=
 ⟨h.kat.below hb,h.gat.below hb,h.rw.pass (.of_below hb),h.rn.pass (.of_below hb)⟩
theorem Zq3 {x:S.am}(hx:x.Ok){g:S.Gr}{a0:Int}(hg:g.Ok a0)(hz:a0+S.sizes g.ns<=335544320):∀ y∈(x.en.pl g).map Prod.fst,0<=y/\y<1312+x.ng+x.ns:=fun y hy=>by
 rcases (Zfw (x:=x.en) hg hz (Zvp hx) y).1 hy with h | h | h | h
 ·have:x.en.nr=0:=rfl
  omega
 ·have e1:x.en.ng=x.ng:=rfl
  have e2:x.en.ns=x.ns:=rfl;omega
 ·omega
 ·have:=Zet h
  omega
theorem Zj0 (w:World)(hL:LVE w)(x:S.am)(hx:x.Ok)(An Ar Ag As Aq Ap:Option Addr)(cn cr cg cs cq cp:Nat)(hs:SttF w An Ar Ag As Aq Ap x)(hcr:x.roots.length<=cr)(hp a0 a1:Int)(hhp:0<=hp/\hp<65536)(ha0:0<=a0/\a0<65536)(ha1:0<=a1/\a1<65536):Calls Tryz.prog 5 #[Zsj An Ar Ag As Aq Ap cn cr cg cs cq cp x,.int .u16 hp,.agg #[.int .u16 a0,.int .u16 a1]] w fun e w'=>e=.returned (.bool true)/\Below w.heap.size w w':=by
 obtain ⟨hv,hhv⟩:=Yx (400+hp%501);have hvb:400<=hv/\hv<=900:=by omega
 obtain ⟨c,hc7⟩:∃ c:Nat,(c:Int)=a0%7:=⟨(a0%7).toNat,by omega⟩
 obtain ⟨nq,hnq⟩:∃ nq:Int,nq=a1%301:=⟨_,rfl⟩
 have hcb:c<=6:=by omega
 have hnb:0<=nq/\nq<=300:=by omega
 have r1:IntKind.u16.wrap (hp%501)=hp%501:=Ybw _ ⟨by omega,by omega⟩;have r2:hp.tmod 501=hp%501:=Ya6 hhp.1;have r3:hp%501%18446744073709551616=hp%501:=by omega
 have r4:IntKind.i64.wrap (400+hp%501)=hv:=by rw [<- hhv];exact Yu _ ⟨by omega,by omega⟩
 have n1:IntKind.u16.wrap (a1%301)=nq:=by rw [<- hnq];exact Ybw _ ⟨by omega,by omega⟩
 have n2:a1.tmod 301=nq:=by rw [hnq];exact Ya6 ha1.1
 have n3:a1%301=nq:=hnq.symm;have n4:nq%18446744073709551616=nq:=by omega
 have n5:IntKind.u16.wrap nq=nq:=Ybw _ ⟨by omega,by omega⟩;have s1:IntKind.u16.wrap (a0%7)=(c:Int):=by rw [hc7];exact Ybw _ ⟨by omega,by omega⟩
 have s2:a0.tmod 7=(c:Int):=by rw [hc7];exact Ya6 ha0.1
 have s3:a0%7=(c:Int):=hc7.symm;have s4:(c:Int)%18446744073709551616=c:=by omega
 have s5:IntKind.u16.wrap (c:Int)=c:=Ybw _ ⟨by omega,by omega⟩;have hent0:=fun (w':World) (hb:Below w.heap.size w w')=>Zyd w' (hL.on hb) x hx An Ar Ag As Aq Ap cn cr cg cs cq cp (hs.below hb) c hcb nq hnb hv hvb
 have Hent0:=Ya hent0;have HLV:=Ya hL;have HX:=Ya hx;clear hent0 hL hs hcr hx hhv hnq hc7;unfold Zsj at Hent0 ⊢;obtain ⟨NN,hNN⟩:∃ N,N=x.nodes.length:=⟨_,rfl⟩
 obtain ⟨NR,hNR⟩:∃ N,N=x.roots.length:=⟨_,rfl⟩
 obtain ⟨NG,hNG⟩:∃ N,N=x.glob.length:=⟨_,rfl⟩
 obtain ⟨NS,hNS⟩:∃ N,N=x.stat.length:=⟨_,rfl⟩
 obtain ⟨NQ,hNQ⟩:∃ N,N=x.slots.length:=⟨_,rfl⟩
 obtain ⟨NP,hNP⟩:∃ N,N=x.places.length:=⟨_,rfl⟩
 obtain ⟨sy,hsy⟩:∃ s,s=x.sym.1:=⟨_,rfl⟩
 obtain ⟨sz,hsz⟩:∃ s,s=x.sym.2:=⟨_,rfl⟩
 rw [<- hNN,<- hNR,<- hNG,<- hNS,<- hNQ,<- hNP,<- hsy,<- hsz] at Hent0 ⊢;clear hNN hNR hNG hNS hNQ hNP hsy hsz;go_enter Tryz.func5,Tryz.ntmps5
 go_upto_region 1 with fail
 have hb1:=(Yi w.heap.size w).alloc (Yf _) (.cells #[.slice An NN cn,.slice Ar NR cr,.slice Ag NG cg,.slice As NS cs,.slice Aq NQ cq,.slice Ap NP cp,.int .u32 sy,.int .u16 sz] 30);have hr1:=heap_alloc_new w (.cells #[.slice An NN cn,.slice Ar NR cr,.slice Ag NG cg,.slice As NS cs,.slice Aq NQ cq,.slice Ap NP cp,.int .u32 sy,.int .u16 sz] 30);have hsz1:(w.alloc (.cells #[.slice An NN cn,.slice Ar NR cr,.slice Ag NG cg,.slice As NS cs,.slice Aq NQ cq,.slice Ap NP cp,.int .u32 sy,.int .u16 sz] 30)).heap.size=w.heap.size+1:=by simp
 generalize w.alloc (.cells #[.slice An NN cn,.slice Ar NR cr,.slice Ag NG cg,.slice As NS cs,.slice Aq NQ cq,.slice Ap NP cp,.int .u32 sy,.int .u16 sz] 30)=w1 at *;have HB1a:=Ya hb1;have hba:=(Yi w1.heap.size w1).alloc (Yf _) (.cells #[.int .u16 a0,.int .u16 a1] 52);have hra:=heap_alloc_new w1 (.cells #[.int .u16 a0,.int .u16 a1] 52);rw [hsz1] at hra;obtain ⟨qa,hqa⟩:=Yx (w.heap.size+1);have hz1:w.heap.size<w1.heap.size:=by omega
 generalize w1.alloc (.cells #[.int .u16 a0,.int .u16 a1] 52)=w1b at *;have hr1:=(hba.block w.heap.size hz1).trans hr1;have hb1:=hb1.trans (hba.mono (Nat.le_of_lt hz1));rw [<- hqa] at hra ⊢;have HAsk:=Ya hra;have HQa:=Ya hqa;clear hba hra hqa hz1 hsz1;have zq0:w1b.cell? ⟨qa,0,none⟩=some (.int .u16 a0):=by rw [Yb HAsk.out];rfl
 have zq1:w1b.cell? ⟨qa,1,none⟩=some (.int .u16 a1):=by rw [Yb HAsk.out];rfl
 have hlq:=(Ye.1 HAsk.out).1;have hlq2:=(Ye.1 hr1).1
 go_region
 have hbd:=Zba (Yi w1b.heap.size w1b);have hr1:=(hbd.block w.heap.size (Ye.1 hr1).1).trans hr1;have hb1:=hb1.trans (hbd.mono hb1.size);generalize w1b.drew=w2 at *;clear zq0 zq1 hlq hlq2 hbd HAsk HQa HB1a n1 n2 n3 n5 s1 s2 s3 s5;have z0:w2.cell? ⟨w.heap.size,0,none⟩=some (.slice An NN cn):=by rw [Yb hr1];rfl
 have z1:w2.cell? ⟨w.heap.size,1,none⟩=some (.slice Ar NR cr):=by rw [Yb hr1];rfl
 have z2:w2.cell? ⟨w.heap.size,2,none⟩=some (.slice Ag NG cg):=by rw [Yb hr1];rfl
 have z3:w2.cell? ⟨w.heap.size,3,none⟩=some (.slice As NS cs):=by rw [Yb hr1];rfl
 have z4:w2.cell? ⟨w.heap.size,4,none⟩=some (.slice Aq NQ cq):=by rw [Yb hr1];rfl
 have z5:w2.cell? ⟨w.heap.size,5,none⟩=some (.slice Ap NP cp):=by rw [Yb hr1];rfl
 have z6:w2.cell? ⟨w.heap.size,6,none⟩=some (.int .u32 sy):=by rw [Yb hr1];rfl
 have z7:w2.cell? ⟨w.heap.size,7,none⟩=some (.int .u16 sz):=by rw [Yb hr1];rfl
 have hlt1:=(Ye.1 hr1).1;have Hent:=Ya (Hent0.out w2 hb1);have HB2:=Ya hb1;have n6:nq%4294967296=nq:=by omega
 clear hr1 hb1 Hent0;go_wp2_with fail
 refine Hent.out.mono ?_;rintro e w3 ⟨Fs,hwr,hb3,hcase⟩;have HB3:=Ya (HB2.out.trans (hb3.mono HB2.out.size));clear z0 z1 z2 z3 z4 z5 z6 z7 Hent hb3 hlt1 r1 r2 r3 r4 n4 n6 s4;rcases hcase with h1 | ⟨hfit,lo,b,p,F,gb,Aw,cw,An2,cn2,g,C,M,H,hH,hg,hM,hC,rfl,hk,hga,hrw,hrn⟩
 ·obtain ⟨_,rfl⟩:=h1
  clear hwr;go_wp2_with fail
  refine (Zas w3 (HLV.out.on HB3.out)).mono ?_;rintro e w4 ⟨rfl,hb4⟩;have HBm:=Ya (HB3.out.trans (hb4.mono HB3.out.size));clear hb4;go_wp2_with fail
  go_ret
  exact ⟨rfl,HBm.out⟩
 obtain ⟨half,hhf⟩:∃ h:Int,h=hv/2:=⟨_,rfl⟩
 have hh500:200<=half/\half<=450:=by omega
 have hhv2:2*half<=hv:=by omega
 have hHb:0<=H/\H<=12000:=by have:=hwr.small;omega
 have hgok:g.Ok H:=by rw [hg];exact Zaz HX.out.nodes ⟨by omega,by omega⟩
 have hszE:S.sizes g.ns=S.sizes (S.ac x.nodes):=by rw [hg];rfl
 have hgz:H+S.sizes g.ns<=335544320:=by have:=Z0 x.nodes;omega
 obtain ⟨us,hus⟩:=Yx (S.sizes g.ns);have husb:0<=us/\us<=half:=by
  have h1:=Z7 g.ns;omega
 have hH13:1312+x.ng+x.ns+11<=H:=by
  have:=(Zbp (hwr.ok true)).1;rw [<- hwr.len,Zh,Zh,<- hH] at this;omega
 obtain ⟨R,hR⟩:=Yx (S.aq C ((S.ab true (S.aa x.ng) (S.aa x.ns) Fs (H+hv)).lab S.kStub));have hout:∀ (n0:Int) (l:List Nat),S.Reached g (S.au x.en g x.roots c) n0 l->S.dn x g H half nq n0 (H+hv) l c C R:=fun n0 l re=>by
  rw [hR];exact Z02 HX.out ⟨by omega,by omega⟩ hwr rfl hH hhf hg (by rw [hhf];exact hfit) hcb hnb hM hC re
 have Hout:=Ya hout;obtain ⟨PP,hPP⟩:=Yx (S.wP (S.aa x.ng) (S.aa x.ns) Fs);obtain ⟨was,hwas⟩:∃ l,l=S.au x.en g x.roots c:=⟨_,rfl⟩
 obtain ⟨now,hnow⟩:∃ l,l=((x.en.pl g).map Prod.fst).map C.memV++(Yo (c+1)).map fun i=>C.regV (S.bk i):=⟨_,rfl⟩
 obtain ⟨N,hN⟩:=Yx was.length;have hN50:N<=34:=by
  rw [hN,hwas,S.au,Yd,Yp,Yp,Ybu];have:=Zmd x.en g;omega
 have hnl:now.length=N:=by
  rw [hnow,hN,hwas,S.au];simp only [Yd,Yp,Ybu]
 rw [<- hwas] at hrw;rw [<- hnow] at hrn;rw [<- hPP,<- hhf] at hk;rw [<- hwas,<- hN,<- hR];have HE3:Hid (ESt lo b p gb F H half PP g C Aw An2 was now w3):=Ya ⟨hk,hga,hrw,hrn⟩;have hrb:∀ r∈was,0<=r/\r<4294967296:=fun r hr=>by
  rw [hwas] at hr;rcases List.mem_append.1 (show r∈(x.en.pl g).map Prod.snd++_ from hr) with h | h
  ·obtain ⟨q,hq,rfl⟩:=Y7.1 h
   have hf:=Zfx (x:=x.en) hgok hgz (Zvp HX.out) q hq;exact ⟨hf.1,hf.2.1⟩
  ·obtain ⟨i,hi,rfl⟩:=Y7.1 h
   have hf:=Zln hgok hgz HX.out.roots (i:=i) (by have:=Yaf.1 hi;omega);exact ⟨hf.1,hf.2.1⟩
 have Hrb:=Ya hrb;have Hgok:=Ya hgok;have Hgz:=Ya hgz;have Hus:=Ya hus;have Hwas:=Ya hwas;have Hnow:=Ya hnow;have HN:=Ya hN;have Hnl:=Ya hnl;have HH13:=Ya hH13;clear hwr hH hg hM hC hfit hk hga hrw hrn hhf hgok hszE hgz hus hR hout hPP hwas hnow hN hnl hrb hH13;have hre:=Zpi HE3.out.gat Hgok.out Hgz.out Aw cw was HE3.out.rw.reads Hrb.out (by rw [<- HN.out];omega);rw [<- HN.out] at hre;have Hre:=Ya hre;clear hre;go_wp2_with fail
 refine Hre.out.mono ?_;rintro e w4 ⟨n0,l,Al,cl,rfl,re,hb4⟩;have HE4:=Ya (HE3.out.below hb4);have HB4:=Ya (HB3.out.trans (hb4.mono HB3.out.size));have HRe:=Ya re;have ho:=Hout.out n0 l (by rw [<- Hwas.out];exact re);have hn0:0<=n0/\n0<=us:=by have:=ho.fit;have:=Hus.out;omega
 have HO:=Ya ho;clear hb4 HE3 HB3 Hre re ho Hout;obtain ⟨_,_,_,_,_,_,e0,e1,e2,e3,e4⟩:=HE4.out.kat.cells;have hbl:=HE4.out.kat.blt;have cN0:IntKind.i64.wrap (half-n0)=half-n0:=Yu _ ⟨by omega,by omega⟩;have hv1:0<=hv:=by omega
 by_cases hA:nq<=half-us
 ·obtain ⟨q1,PM2,P27,PM8,PM6,PR2,hpl,hrg⟩:=HO.out.room (by rw [<- Hus.out];exact hA)
  rw [<- Hus.out] at P27;subst q1;have hnow:now=was:=by
   have hml:=HO.out.len;have h13:=HH13.out;rw [Hnow.out,Hwas.out,S.au]
   congr 1
   ·rw [List.map_map]
    refine Yba fun q hq=>?_
    have hr:=Zq3 HX.out Hgok.out Hgz.out q.1 (Y7.2 ⟨q,hq,rfl⟩)
    show C.memV q.1=q.2
    rw [Zbj hr.1 (by omega)];exact hpl q hq
   ·refine Yba fun i hi=>?_
    have hi2:=Yaf.1 hi;have hb:=Ziy (i:=i) (by omega);rw [Za1 (by omega) (by omega)];exact hrg i (by omega)
  have Hnw:=Ya hnow;clear hpl hrg hnow;obtain ⟨v27,hv27⟩:∃ v,v=C.rd 27:=⟨_,rfl⟩
  obtain ⟨v26,hv26⟩:∃ v,v=C.rd 26:=⟨_,rfl⟩
  have c6:IntKind.u32.wrap (v27-v26)=half-us:=by
   rw [hv27,hv26,P27];exact Ybq _ ⟨by omega,by omega⟩
  have c7:(half-us)%18446744073709551616=half-us:=by omega
  have c8:(c:Int)%4294967296=c:=by omega
  have d4:decide (half-us<nq)=false:=by simp;omega
  have hml:=HO.out.len;have h13:=HH13.out;have Hr27:=Ya (show ∀ y:Ext w4,Calls Tryz.prog 19 #[.pointer (some ⟨p,0,none⟩),.int .i64 27] y.val fun e w'=>e=.returned (.int .u32 v27)/\y.val=w' from fun y=>by
   have h:=Zd3 27 (HE4.out.below y.property).kat;rw [Za1 (by decide) (by decide),<- hv27] at h;exact h)
  have Hr26:=Ya (show ∀ y:Ext w4,Calls Tryz.prog 19 #[.pointer (some ⟨p,0,none⟩),.int .i64 26] y.val fun e w'=>e=.returned (.int .u32 v26)/\y.val=w' from fun y=>by
   have h:=Zd3 26 (HE4.out.below y.property).kat;rw [Za1 (by decide) (by decide),<- hv26] at h;exact h)
  have Hr2:=Ya (show ∀ y:Ext w4,Calls Tryz.prog 19 #[.pointer (some ⟨p,0,none⟩),.int .i64 2] y.val fun e w'=>e=.returned (.int .u32 c)/\y.val=w' from fun y=>by
   have h:=Zd3 2 (HE4.out.below y.property).kat;rw [Za1 (by decide) (by decide),PR2] at h;exact h)
  have Hw8:=Ya (show ∀ y:Ext w4,Calls Tryz.prog 17 #[.pointer (some ⟨b,0,none⟩),.int .i64 8] y.val fun e w'=>e=.returned (.int .u32 0)/\Below y.val.heap.size y.val w' from fun y=>by
   have h:=Zbg 8 (HE4.out.below y.property).kat;rw [Zbj (by decide) (by omega),PM8] at h;exact h)
  have Hw6:=Ya (show ∀ y:Ext w4,Calls Tryz.prog 17 #[.pointer (some ⟨b,0,none⟩),.int .i64 6] y.val fun e w'=>e=.returned (.int .u32 0)/\Below y.val.heap.size y.val w' from fun y=>by
   have h:=Zbg 6 (HE4.out.below y.property).kat;rw [Zbj (by decide) (by omega),PM6] at h;exact h)
  have Hw2:=Ya (show ∀ (w5:World),ESt lo b p gb F H half PP g C Aw An2 was now w5->∀ y:Ext w5,Calls Tryz.prog 17 #[.pointer (some ⟨b,0,none⟩),.int .i64 2] y.val fun e w'=>e=.returned (.int .u32 H)/\Below y.val.heap.size y.val w' from fun w5 hE5 y=>by
   have h:=Zbg 2 (hE5.below y.property).kat;rw [Zbj (by decide) (by omega),PM2] at h;exact h)
  clear hv27 hv26;go_upto_region 8 with fail
  refine Zl (by kernel_rfl) (by kernel_rfl) ?_;have hE:=Zf w4
  repeat (first
   | go_big_quiet_step ((first
    | (go_at_call 19;first | with_reducible exact Zp (Hr27.out _) | with_reducible exact Zp (Hr26.out _) | with_reducible exact Zp (Hr2.out _))
    | (go_at_call 17;first | with_reducible exact Zay (Hw8.out _) | with_reducible exact Zay (Hw6.out _)))))
  refine wpQuiet_nil ?_;rintro w5 ⟨⟨_,hb5⟩,rfl⟩;have HE5:=Ya (HE4.out.below hb5);have HB5:=Ya (HB4.out.trans (hb5.mono HB4.out.size));have Hw2:=Ya (Hw2.out w5 HE5.out);clear hE hb5 HE4 HB4 Hr27 Hr26 Hr2 Hw8 Hw6 e0 e1 e2 e3 e4 hbl c6 c7 c8 d4 hml h13;obtain ⟨_,_,_,_,_,_,e0,e1,e2,e3,e4⟩:=HE5.out.kat.cells;have hbl:=HE5.out.kat.blt;have c9:(H)%18446744073709551616=H:=by omega
  go_upto_region 10 with fail
  refine Zl (by kernel_rfl) (by kernel_rfl) ?_;have hE:=Zf w5
  repeat (first | go_big_quiet_step ((go_at_call 17;exact Zay (Hw2.out _))))
  refine wpQuiet_nil ?_;rintro w6 ⟨⟨_,hb6⟩,rfl⟩;have HE6:=Ya (HE5.out.below hb6);have HB6:=Ya (HB5.out.trans (hb6.mono HB5.out.size));clear hE hb6 HE5 HB5 Hw2 e0 e1 e2 e3 e4 hbl c9;go_wp2_with fail
  go_loopw [16] (fun v16 wl=>∃ k:Nat,k<=N/\v16=.int .i64 k/\Hid (ESt lo b p gb F H half PP g C Aw An2 was now wl)/\Hid (Below w.heap.size w wl)) (fun v16 _=>(N-intOf v16).toNat)
  case atStart=>exact ⟨0,by omega,rfl,HE6,HB6⟩
  case round =>
   clear HE6 HB6;obtain ⟨k,hk,rfl,HEk,HBk⟩:=hrel;by_cases hkN:k<N
   ·have hkw:k<was.length:=by rw [<- HN.out];exact hkN
    obtain ⟨ba,oa,hAa,hba,hca⟩:=HEk.out.rw.reads (by rw [Yp];omega);obtain ⟨bn,on,hAn,hbn,hcn⟩:=HEk.out.rn.reads (by rw [Hnw.out,Yp];omega);obtain ⟨v,hv⟩:=Yx was[k];have y0:wr.cell? ⟨ba,oa+k,none⟩=some (.int .u32 v):=hca k _ (by rw [Ys,Yc hkw,hv];rfl);have y1:wr.cell? ⟨bn,on+k,none⟩=some (.int .u32 v):=hcn k _ (by rw [Hnw.out,Ys,Yc hkw,hv];rfl);have d1:decide ((k:Int)<N)=true:=by simp;omega
    have d2:decide (k<N)=true:=by simp;omega
    have c2:IntKind.i64.wrap ((k:Int)+1)=k+1:=Yu _ ⟨by omega,by omega⟩;subst hAa hAn;clear hv hca hcn;go_upto_region 14 with fail
    go_region
    have hbd:=Zba (Yi wr.heap.size wr);have HE7:=Ya (HEk.out.below hbd);have HB7:=Ya (HBk.out.trans (hbd.mono HBk.out.size));generalize wr.drew=w7 at *;clear hbd y0 y1 HEk HBk hba hbn;go_wp2_with fail
    go_roundw
    case rel=>exact ⟨k+1,by omega,rfl,HE7,HB7⟩
    case measure=>simp [intOf];omega
   ·have hkE:k=N:=by omega
    subst hkE;have d1:decide ((k:Int)<k)=false:=by simp
    go_wp2_with fail
    refine (Zas wr (HLV.out.on HBk.out)).mono ?_;rintro e w7 ⟨rfl,hb7⟩;have HB7:=Ya (HBk.out.trans (hb7.mono HBk.out.size));clear hb7;go_wp2_with fail
    go_ret
    exact ⟨rfl,HB7.out⟩
 ·by_cases hB:half-n0<nq
  ·have q1:=HO.out.full (by rw [<- Hus.out];omega) hB
   subst q1;have d3:decide (half-n0<nq)=true:=by simp;omega
   go_wp2_with fail
   refine (Zas w4 (HLV.out.on HB4.out)).mono ?_;rintro e w5 ⟨rfl,hb5⟩;have HBb:=Ya (HB4.out.trans (hb5.mono HB4.out.size));clear hb5;go_wp2_with fail
   go_ret
   exact ⟨rfl,HBb.out⟩
  ·obtain ⟨q1,qok,⟨nu,hkp⟩,PM2,P27,PM8,PM6,PR2,hrg⟩:=HO.out.kept (by rw [<- Hus.out];omega) (by omega)
   subst q1;have hnow:now=(S.bo x.en g c).map C.mv:=by
    have hml:=HO.out.len;have h13:=HH13.out;rw [Hnow.out,S.bo,Yv,List.map_map]
    congr 1
    ·rw [List.map_map]
     refine Yba fun q hq=>?_
     have hr:=Zq3 HX.out Hgok.out Hgz.out q.1 (Y7.2 ⟨q,hq,rfl⟩);exact Zbj hr.1 (by omega)
    ·rw [List.map_map]
     refine Yba fun i hi=>?_
     have hi2:=Yaf.1 hi;have hb:=Ziy (i:=i) (by omega);rw [Za1 (by omega) (by omega)];exact hrg i (by omega)
   have Hnw:=Ya hnow;have Hkp:=Ya hkp;have Hqok:=Ya qok;have HPM2:=Ya PM2;clear hrg hnow hkp qok;obtain ⟨v27,hv27⟩:∃ v,v=C.rd 27:=⟨_,rfl⟩
   obtain ⟨v26,hv26⟩:∃ v,v=C.rd 26:=⟨_,rfl⟩
   have c6:IntKind.u32.wrap (v27-v26)=half-n0:=by
    rw [hv27,hv26,P27];exact Ybq _ ⟨by omega,by omega⟩
   have c7:(half-n0)%18446744073709551616=half-n0:=by omega
   have c8:(c:Int)%4294967296=c:=by omega
   have d4:decide (half-n0<nq)=false:=by simp;omega
   have hml:=HO.out.len;have h13:=HH13.out;have Hr27:=Ya (show ∀ y:Ext w4,Calls Tryz.prog 19 #[.pointer (some ⟨p,0,none⟩),.int .i64 27] y.val fun e w'=>e=.returned (.int .u32 v27)/\y.val=w' from fun y=>by
    have h:=Zd3 27 (HE4.out.below y.property).kat;rw [Za1 (by decide) (by decide),<- hv27] at h;exact h)
   have Hr26:=Ya (show ∀ y:Ext w4,Calls Tryz.prog 19 #[.pointer (some ⟨p,0,none⟩),.int .i64 26] y.val fun e w'=>e=.returned (.int .u32 v26)/\y.val=w' from fun y=>by
    have h:=Zd3 26 (HE4.out.below y.property).kat;rw [Za1 (by decide) (by decide),<- hv26] at h;exact h)
   have Hr2:=Ya (show ∀ y:Ext w4,Calls Tryz.prog 19 #[.pointer (some ⟨p,0,none⟩),.int .i64 2] y.val fun e w'=>e=.returned (.int .u32 c)/\y.val=w' from fun y=>by
    have h:=Zd3 2 (HE4.out.below y.property).kat;rw [Za1 (by decide) (by decide),PR2] at h;exact h)
   have Hw8:=Ya (show ∀ y:Ext w4,Calls Tryz.prog 17 #[.pointer (some ⟨b,0,none⟩),.int .i64 8] y.val fun e w'=>e=.returned (.int .u32 0)/\Below y.val.heap.size y.val w' from fun y=>by
    have h:=Zbg 8 (HE4.out.below y.property).kat;rw [Zbj (by decide) (by omega),PM8] at h;exact h)
   have Hw6:=Ya (show ∀ y:Ext w4,Calls Tryz.prog 17 #[.pointer (some ⟨b,0,none⟩),.int .i64 6] y.val fun e w'=>e=.returned (.int .u32 0)/\Below y.val.heap.size y.val w' from fun y=>by
    have h:=Zbg 6 (HE4.out.below y.property).kat;rw [Zbj (by decide) (by omega),PM6] at h;exact h)
   have Hw2:=Ya (show ∀ (w5:World),ESt lo b p gb F H half PP g C Aw An2 was now w5->∀ y:Ext w5,Calls Tryz.prog 17 #[.pointer (some ⟨b,0,none⟩),.int .i64 2] y.val fun e w'=>e=.returned (.int .u32 (H+half))/\Below y.val.heap.size y.val w' from fun w5 hE5 y=>by
    have h:=Zbg 2 (hE5.below y.property).kat;rw [Zbj (by decide) (by omega),PM2] at h;exact h)
   clear hv27 hv26;go_upto_region 8 with fail
   refine Zl (by kernel_rfl) (by kernel_rfl) ?_;have hE:=Zf w4
   repeat (first
    | go_big_quiet_step ((first
     | (go_at_call 19;first | with_reducible exact Zp (Hr27.out _) | with_reducible exact Zp (Hr26.out _) | with_reducible exact Zp (Hr2.out _))
     | (go_at_call 17;first | with_reducible exact Zay (Hw8.out _) | with_reducible exact Zay (Hw6.out _)))))
   refine wpQuiet_nil ?_;rintro w5 ⟨⟨_,hb5⟩,rfl⟩;have HE5:=Ya (HE4.out.below hb5);have HB5:=Ya (HB4.out.trans (hb5.mono HB4.out.size));have Hw2:=Ya (Hw2.out w5 HE5.out);clear hE hb5 HE4 HB4 Hr27 Hr26 Hr2 Hw8 Hw6 e0 e1 e2 e3 e4 hbl c6 c7 c8 d4 hml h13;obtain ⟨_,_,_,_,_,_,e0,e1,e2,e3,e4⟩:=HE5.out.kat.cells;have hbl:=HE5.out.kat.blt;have c9:(H+half)%18446744073709551616=H+half:=by omega
   go_upto_region 10 with fail
   refine Zl (by kernel_rfl) (by kernel_rfl) ?_;have hE:=Zf w5
   repeat (first | go_big_quiet_step ((go_at_call 17;exact Zay (Hw2.out _))))
   refine wpQuiet_nil ?_;rintro w6 ⟨⟨_,hb6⟩,rfl⟩;have HE6:=Ya (HE5.out.below hb6);have HB6:=Ya (HB5.out.trans (hb6.mono HB5.out.size));clear hE hb6 HE5 HB5 Hw2 e0 e1 e2 e3 e4 hbl c9;have d8:decide (H+half=H)=false:=by simp;omega
   have d9:(H+half==H)=false:=by simp;omega
   have hkept:∀ (w7:World),ESt lo b p gb F H half PP g C Aw An2 was now w7->Calls Tryz.prog 20 #[.pointer (some ⟨b,0,none⟩),.pointer (some ⟨gb,0,none⟩),.slice Aw N cw,.slice An2 N cn2] w7 fun e w'=>e=.returned (.bool true)/\Below w7.heap.size w7 w':=fun w7 hE7=>by
    have hkp:=Hkp.out;rw [<- Hwas.out,<- Hnw.out] at hkp;have hml:=HO.out.len;have h13:=HH13.out;have h26:=hkp.size n0 l HRe.out;have hm2:=HPM2.out;have h:=Zqp hE7.kat hE7.gat Hgok.out Hgz.out Aw An2 cw cn2 was now hE7.rw.reads hE7.rn.reads Hrb.out (fun r hr=>?_) (by rw [<- HN.out];omega) (il:=l) (nu:=nu) hkp (by rw [h26];omega) (by omega) (by omega) ⟨by omega,by omega⟩ ⟨n0,l,HRe.out⟩
    ·rw [<- HN.out,Hnl.out] at h
     exact h
    ·rw [Hnw.out] at hr
     obtain ⟨a,_,rfl⟩:=Y7.1 hr;have:=Hqok.out.memw a.toNat;exact ⟨this.1,by have h2:=this.2;show C.mem.getD a.toNat 0<_;omega⟩
   have Hkept:=Ya hkept;clear hkept;go_wp2_with fail
   refine (Hkept.out _ HE6.out).mono ?_;rintro e w7 ⟨rfl,hb7⟩;have HB7:=Ya (HB6.out.trans (hb7.mono HB6.out.size));clear hb7;go_wp2_with fail
   refine (Zas w7 (HLV.out.on HB7.out)).mono ?_;rintro e w8 ⟨rfl,hb8⟩;have HB8:=Ya (HB7.out.trans (hb8.mono HB7.out.size));clear hb8;go_wp2_with fail
   go_ret
   exact ⟨rfl,HB8.out⟩
end
end Go.Proofs.YtgdjocajlndonaaGreatDoor
