/- Parts. -/
import Derived.Test.YtdeepoikgfaecaaGreatDoorZExtC
import Derived.BigQuiet
import Derived.BigRegion
set_option linter.all false
set_option maxHeartbeats 16000000
open Go.Lib renaming hid->Ya,cell_of_heap->Yb
open List renaming getElem?_eq_getElem->Yd,getElem?_eq_some_iff->Ye,getD_eq_getElem?_getD->Yk,length_map->Ys,mem_cons->Yu,cons_append->Yv,range->Yz,getElem?_map->Y0,getElem_mem->Yap,getElem_of_mem->Yaw,mem_range->Yay,mem_map->Ya1,flatMap_append->Ya7,range_succ->Ych,length_range->Ycj
open Array renaming getElem?_eq_some_iff->Yh,replicate->Y4
open Go.IntWalk renaming i64_in->Y6
namespace Go.Proofs.YtdeepoikgfaecaaGreatDoor
set_option maxRecDepth 100000
section
open Go.RowKit
theorem Zpa (i:Nat)(x y:Int)(a:Nat)(hx:x=2^i*a)(hy0:0<=y)(hy1:y<2^i)(hs:x+y<4611686018427387904):bits .or .i64 x y=x+y:=by
 have hx0:0<=x:=by
  rw [hx];exact Int.mul_nonneg (Int.le_of_lt (Int.pow_pos (by decide))) (Int.natCast_nonneg a)
 obtain ⟨m,rfl⟩:=Int.eq_ofNat_of_zero_le hy0;have hm:m<2^i:=by
  have:((m:Nat):Int)<((2^i:Nat):Int):=by simpa using hy1
  omega
 have hxn:x.toNat=2^i*a:=by
  have:x=((2^i*a:Nat):Int):=by rw [hx];simp
  omega
 show IntKind.i64.wrap ((BitVec.ofInt 64 x ||| BitVec.ofInt 64 (m:Int)).toNat:Int)=_
 have e:(BitVec.ofInt 64 x ||| BitVec.ofInt 64 (m:Int)).toNat=x.toNat+m:=by
  rw [BitVec.toNat_or,BitVec.toNat_ofInt,BitVec.toNat_ofInt];have e1:(x%((2^64:Nat):Int)).toNat=2^i*a:=by
   rw [<- hxn];omega
  have e2:(((m:Nat):Int)%((2^64:Nat):Int)).toNat=m:=by omega
  rw [e1,e2,<- Nat.two_pow_add_eq_or_of_lt hm,hxn]
 rw [e,IntKind.wrap_i64];omega
theorem Zhl (ty:Int)(n:Nat)(ht:0<=ty)(hn:n<=1000000):bits .or .i64 (bits .or .i64 ((n:Int)*32) (ty%8*4)) 3%4294967296=S.headW ty n:=by
 rw [Zpa 5 ((n:Int)*32) (ty%8*4) n (by simp;omega) (by omega) (by omega) (by omega),Zpa 2 ((n:Int)*32+ty%8*4) 3 (n*8+(ty%8).toNat) (by simp;omega) (by decide) (by decide) (by omega)];unfold S.headW;omega
theorem Zi5 {L:List Nat}(h:L.Nodup)(o:Option Nat):(S.ag L o).Nodup:=by
 cases o with
 | none=>rw [Zb9];exact h
 | some n =>
  by_cases c:n∈L
  ·rw [Zey c];exact h
  ·rw [Zdn c,List.nodup_append]
   refine ⟨h,by simp,fun x hx y hy e=>?_⟩;rw [List.mem_singleton] at hy;subst hy;exact c (e ▸ hx)
theorem Zvx (g:S.Gr)(l:List Nat):(l.length:Int)<=g.total l:=by
 induction l with
 | nil=>simp [S.Gr.total]
 | cons i r ih =>
  rw [S.Gr.total,List.length_cons];unfold S.GN.size;omega
theorem Zhm {g:S.Gr}{a:Int}(hg:g.Ok a){L:List Nat}(h:L.Nodup)(hr:∀ i∈L,i<g.ns.length):L.length<=400:=by
 have h1:=Zgq hg (l:=L) (m:=Yz g.ns.length) h hr fun i hi=>Yay.2 (hr i hi)
 have h2:=Zvx g L;have h4:=Zj7 hg (Yz g.ns.length) fun i hi=>Yay.1 hi
 rw [Ycj] at h4;have:=hg.few;omega
section
variable {g:S.Gr}{was now:List Int}{mem:Int->Int}{fr half r26 r27:Int}{il:List Nat}{nu:Nat->Int}
theorem Zi6 {a:Int}(hg:g.Ok a)(h:S.Keeps g was now mem fr half r26 r27 il nu){x y:Int}(hgd:S.Good g (·∈il) nu x y){L:List Nat}(hL:∀ i∈L,i∈il) :
 (g.node x=none->x=y)/\(∀ n,g.node x=some n->y=4*nu n+1/\0<=nu n/\nu n<=335544320/\∀ m∈L,nu m=nu n->m=n)/\(∀ i∈S.ag L (g.node x),i∈il)/\∀ m∈L,0<=nu m/\nu m<=335544320:=by
 have h0:=h.from0;have ht:=h.top;have bd:∀ n∈il,0<=nu n/\nu n<=335544320:=fun n hn=>by
  obtain ⟨q1,q2,_⟩:=h.sh.at_ n hn;have:=Zd6 hg n;omega
 refine ⟨hgd.1,fun n hn=>?_,fun i hi=>?_,fun m hm=>bd m (hL m hm)⟩
 ·obtain ⟨q1,q2⟩:=hgd.2 n hn
  exact ⟨q2,(bd n q1).1,(bd n q1).2,fun m hm e=>Zxf hg h.sh (hL m hm) q1 e⟩
 ·rcases addN_mem.1 hi with q | q
  ·exact hL i q
  ·exact (hgd.2 i q).1
end
section
variable {w w':World}{F F':Nat->Prop}{gb:Nat}{g:S.Gr}{a:Int}{lo b p:Nat}{H half:Int}{P:List (ByteArray×Int)}{m:S.Mach}
theorem Zet (i:Int)(h:KAt w lo b p F H half P m):Calls Tryz.prog 9 #[.pointer (some ⟨b,0,none⟩),.int .i64 i] w fun e w'=>e=.returned (.int .u32 (m.memV i))/\Below w.heap.size w w':=by
 refine (Z01 i h).mono ?_;rintro e w' ⟨rfl,n,rfl⟩;exact ⟨rfl,below_drewN (Below.refl _ _) n⟩
theorem Z0a (hK:KAt w lo b p F H half P m)(h:GAt w F' gb g)(hg:g.Ok a)(hz:a+S.sizes g.ns<=335544320)(Aw An:Option Addr)(cw cn:Nat)(was now:List Int)(hw:Reads w w.heap.size Aw (was.map (Value.int .u32)))(hn:Reads w w.heap.size An (now.map (Value.int .u32)))
 (hwb:∀ r∈was,0<=r/\r<4294967296) (hnb:∀ r∈now,0<=r/\r<4294967296) (hwl:was.length<=1000) {il:List Nat} {nu:Nat->Int} (hk:S.Keeps g was now m.mv (m.mv 2) half (m.rd 26) (m.rd 27) il nu) (hml:m.rd 26<m.mem.length) (hml2:10<=m.mem.length) (hmlz:m.mem.length<=335544320) (hhalf:0<=half/\half<=335544320) (hr:∃ s l,S.Reached g was s l) :
 Calls Tryz.prog 32 #[.pointer (some ⟨b,0,none⟩),.pointer (some ⟨gb,0,none⟩),.slice Aw was.length cw,.slice An now.length cn] w fun e w'=>e=.returned (.bool true)/\Below w.heap.size w w':=by
 have HW:=Ya hw;have HNo:=Ya hn;have HWb:=Ya hwb;have HNb:=Ya hnb;have HG:=Ya h;have HK:=Ya hK;have HGo:=Ya hg;have HZ:=Ya hz;have HKe:=Ya hk;have hlen:=hk.sh.len;obtain ⟨N,hN⟩:=Yx was.length;have HN:=Ya hN;have HN2:Hid (N=now.length):=Ya (hN.trans hlen);rw [<- hlen,<- hN];have hbne:((N:Int) != N)=false:=by simp
 obtain ⟨fr,hfr⟩:=Yx (m.mv 2);have HFr:=Ya hfr;have hfr0:0<=fr:=by rw [hfr];exact hk.from0
 have hfrt:fr<=m.rd 26:=by
  obtain ⟨s,l,hr⟩:=hr;have h1:=hk.size s l hr;have h2:=(Zj7 hg l hr.rng).1;have h3:=hr.sum;rw [hfr];omega
 obtain ⟨r26,hr26⟩:∃ r,r=m.rd 26:=⟨_,rfl⟩
 have HR26:=Ya hr26;have hr26b:r26<=335544320:=by rw [hr26];exact hk.top
 rw [<- hr26] at hml hfrt;have HML:=Ya hml;have hre:Calls Tryz.prog 85 #[.pointer (some ⟨gb,0,none⟩),.slice Aw N cw] w fun e w'=>∃ n l A c,e=.returned (.tuple #[.int .i64 n,.slice A l.length c])/\S.Reached g was n l/\Below w.heap.size w w':=by
  have:=Zyd h hg hz Aw cw was hw hwb hwl;rw [<- hN] at this;exact this
 have HRe:=Ya hre;rw [<- hN] at hwl;clear hw hn hwb hnb h hK hg hz hk hlen hN hfr hr hr26 hre;go_enter Tryz.func32,Tryz.ntmps32
 go_wp2_with fail
 refine HRe.out.mono ?_;rintro e w2 ⟨sz,lr,Ar,cr,rfl,hrr,hb2⟩;have hsz:r26=fr+sz:=by rw [HR26.out,HFr.out];exact HKe.out.size sz lr hrr
 have HSz:=Ya hsz;have hszb:0<=sz/\sz<=335544320:=by omega
 have HB2:=Ya hb2;clear hrr hb2 HRe hsz;obtain ⟨NR,hNR⟩:=Yx lr.length;rw [<- hNR];clear hNR;go_wp2_with fail
 have e2:m.memV 2=fr:=by rw [Zht (by decide) (by omega)];exact HFr.out.symm
 have hwd:=Zet 2 (HK.out.below HB2.out);rw [e2] at hwd;refine hwd.mono ?_;rintro e w3 ⟨rfl,hb3⟩;have HB3:=Ya (HB2.out.trans (hb3.mono HB2.out.size));have f3:fr%18446744073709551616=fr:=by omega
 clear hwd hb3 HB2 e2;go_wp2_with fail
 go_loopw [12,13,14] (fun v12 v13 v14 wl=>∃ k:Nat,k<=N/\v14=.int .i64 k/\(∃ L A c B d,v12=.slice A L.length c/\v13=.slice B L.length d/\Hid (Two2 wl w.heap.size nu L A c B d)/\Hid (L.Nodup)/\Hid (∀ i∈L,i∈il))/\Hid (Below w.heap.size w wl)) (fun _ _ v14 _=>N-(intOf v14).toNat)
 case atStart=>exact ⟨0,by omega,rfl,⟨[],none,0,none,0,rfl,rfl,Ya (Two2.nil _ _ _),Ya List.nodup_nil,Ya (fun i hi=>(List.not_mem_nil hi).elim)⟩,HB3⟩
 case round =>
  clear HB3;obtain ⟨k,hk,rfl,⟨L,A,c,B,d,rfl,rfl,HT,HND,HL⟩,HB3⟩:=hrel;have hz3:=HB3.out.size;have hLl:=Zhm HGo.out HND.out fun i hi=>HKe.out.sh.rng i (HL.out i hi)
  by_cases hlt:k<N
  ·have hkw:k<was.length:=by rw [<- HN.out];exact hlt
   have hkn:k<now.length:=by rw [<- HN2.out];exact hlt
   obtain ⟨b1,o1,hA1,hb1,hc1⟩:=(HW.out.below HB3.out) (by rw [Ys];omega)
   obtain ⟨b2,o2,hA2,hb2,hc2⟩:=(HNo.out.below HB3.out) (by rw [Ys];omega)
   have q1:=hc1 k (.int .u32 was[k]) (by rw [Y0,Yd hkw];rfl);have q2:=hc2 k (.int .u32 now[k]) (by rw [Y0,Yd hkn];rfl);have r1:=HWb.out _ (Yap hkw);have r2:=HNb.out _ (Yap hkn);have Hgd:=Ya (HKe.out.sh.good k _ _ (Yd hkw) (Yd hkn));obtain ⟨x,hx⟩:=Yx was[k];obtain ⟨y,hy⟩:=Yx now[k];rw [<- hx,<- hy] at Hgd;rw [<- hx] at q1 r1;rw [<- hy] at q2 r2;have b1l:b1<wr.heap.size:=by omega
   have b2l:b2<wr.heap.size:=by omega
   obtain ⟨p1,p2,p3,p4⟩:=Zi6 HGo.out HKe.out Hgd.out HL.out;have Hcall:=Ya (fun e:Ext wr=>Zsn (w:=e.val) x y r1 r2 (HG.out.below (HB3.out.trans (e.property.mono hz3))) (.pointer (some ⟨b,0,none⟩)) w.heap.size (by have:=e.property.size;omega) nu L A B c d (HT.out.below e.property) (by omega) p1 p2 p4);subst hA1 hA2;clear hc1 hc2 hx hy hkw hkn p1 p2 p4 hb1 hb2;have HL2:=Ya p3;clear p3;go_upto_region 10 with fail
   refine Z2 12 (Y4 12 true++Y4 8 false) (by kernel_rfl) (by kernel_rfl) ?_;have hE:=Ze wr;have hES:=Zpm wr;simp only [List.take_succ_cons,List.take_zero]
   repeat (first | go_big_quiet_step (fail))
   refine wpQuiet_nil ?_;rintro w8 ⟨⟨_,hb8⟩,rfl⟩;have hcall:=Hcall.out ⟨w8,hb8⟩;have HB8:=Ya (HB3.out.trans (hb8.mono hz3));have HC8:=Ya hcall;clear Hcall hE hES hcall;change wpAny _ _ _ _ 8 _ _ _;refine wpAny_ready (rs:=[12]) (by kernel_rfl) (by simp) ?_;refine AllReady.cons rfl (fun K hK=>?_) AllReady.nil;go_simp
   refine HC8.out.mono ?_;rintro e w9 ⟨A9,c9,B9,d9,rfl,ht9,hb9,-⟩;have HT9:=Ya ht9;have HB9:=Ya (HB8.out.trans hb9);have HN9:=Ya (Zi5 HND.out (g.node x));clear HC8 ht9 hb9 hLl hb8;generalize S.ag L (g.node x)=L9 at *;go_simp
   refine hK _ _ ?_;clear hK K;refine wpAny_take (i:=13) (v:=?v13n) rfl (by kernel_rfl) (by kernel_rfl) (by kernel_rfl) (fun _ _ _ h=>h) (Or.inl ⟨by rfl,?y13n⟩) ?z13n
   case y13n=>(intro w;first | (go_simp;done) | (go_simp;with_reducible rfl))
   refine wpAny_take (i:=14) (v:=?v14n) rfl (by kernel_rfl) (by kernel_rfl) (by kernel_rfl) (fun _ _ _ h=>h) (Or.inl ⟨by rfl,?y14n⟩) ?z14n
   case y14n=>(intro w;first | (go_simp;done) | (go_simp;with_reducible rfl))
   refine wpAny_take (i:=15) (v:=?v15n) rfl (by kernel_rfl) (by kernel_rfl) (by kernel_rfl) (fun _ _ _ h=>h) (Or.inl ⟨by rfl,?y15n⟩) ?z15n
   case y15n=>(intro w;first | (go_simp;done) | (go_simp;with_reducible rfl))
   refine wpAny_take (i:=16) (v:=?v16n) rfl (by kernel_rfl) (by kernel_rfl) (by kernel_rfl) (fun _ _ _ h=>h) (Or.inl ⟨by rfl,?y16n⟩) ?z16n
   case y16n=>(intro w;first | (go_simp;done) | (go_simp;with_reducible rfl))
   refine wpAny_take (i:=17) (v:=?v17n) rfl (by kernel_rfl) (by kernel_rfl) (by kernel_rfl) (fun _ _ _ h=>h) (Or.inl ⟨by rfl,?y17n⟩) ?z17n
   case y17n=>(intro w;first | (go_simp;done) | (go_simp;with_reducible rfl))
   refine wpAny_take (i:=18) (v:=?v18n) rfl (by kernel_rfl) (by kernel_rfl) (by kernel_rfl) (fun _ _ _ h=>h) (Or.inl ⟨by rfl,?y18n⟩) ?z18n
   case y18n=>(intro w;first | (go_simp;done) | (go_simp;with_reducible rfl))
   refine wpAny_take (i:=19) (v:=?v19n) rfl (by kernel_rfl) (by kernel_rfl) (by kernel_rfl) (fun _ _ _ h=>h) (Or.inl ⟨by rfl,?y19n⟩) ?z19n
   case y19n=>(intro w;first | (go_simp;done) | (go_simp;with_reducible rfl))
   refine wpAny_done (by kernel_rfl) ?_ _;go_wp2_with fail
   go_roundw
   case rel=>exact ⟨k+1,by omega,by go_num,⟨L9,A9,c9,B9,d9,rfl,rfl,HT9,HN9,HL2⟩,HB9⟩
   case measure=>simp [intOf];omega
  ·have hke:k=N:=by omega
   subst hke;go_wp2_with fail
   go_loopw [12,13,16] (fun v12 v13 v16 wl=>∃ i:Nat,v16=.int .i64 i/\(∃ L A c B d,i<=L.length/\v12=.slice A L.length c/\v13=.slice B L.length d/\Hid (Two2 wl w.heap.size nu L A c B d)/\Hid (L.Nodup)/\Hid (∀ i∈L,i∈il))/\Hid (Below w.heap.size w wl)) (fun _ _ v16 _=>400-(intOf v16).toNat)
   case atStart=>exact ⟨0,rfl,⟨L,A,c,B,d,Nat.zero_le _,rfl,rfl,HT,HND,HL⟩,HB3⟩
   case round =>
    clear HB3 HT HND HL hLl;obtain ⟨i,rfl,⟨L,A,c,B,d,hi,rfl,rfl,HT,HND,HL⟩,HB3⟩:=hrel;have hz3:=HB3.out.size;have hLl:=Zhm HGo.out HND.out fun i hi=>HKe.out.sh.rng i (HL.out i hi)
    by_cases hlt:i<L.length
    ·obtain ⟨b1,o1,hA1,hb1,hc1⟩:=(Reads.of_own HT.out.old) (by rw [Ys];omega)
     obtain ⟨b2,o2,hA2,hb2,hc2⟩:=(Reads.of_own HT.out.new) (by rw [Ys,Ys];omega)
     have q1:=hc1 i (Zt0 L[i]) (by rw [Y0,Yd hlt];rfl);have q2:=hc2 i (.int .i64 (nu L[i])) (by rw [Y0,Y0,Yd hlt];rfl);have Hin:=Ya (HL.out _ (Yap hlt));obtain ⟨nn,hnn⟩:=Yx L[i];rw [<- hnn] at q1 q2 Hin;unfold Zt0 at q1;have hir:=HKe.out.sh.rng nn Hin.out;obtain ⟨a1,a2,a3⟩:=HKe.out.sh.at_ nn Hin.out;rw [<- HFr.out] at a1;rw [<- HR26.out] at a2;have Hwds:=Ya (HKe.out.sh.words nn Hin.out);obtain ⟨An',cn',Aa',ca',d0,d1,d2,d3⟩:=HG.out.cells;have hgb0:=HG.out.out.1;have hgb:gb<wr.heap.size:=by omega
     replace d0:=(HB3.out.cell (p:=⟨gb,0,none⟩) hgb0).trans d0
     obtain ⟨bn,offn,rfl,hbn,hnn2⟩:=d2 (by omega);obtain ⟨y0,y1,y2,Aw',cw',y3,y4,hww⟩:=hnn2 nn (g.nd nn) (Zdm HGo.out hir).1;have hbn0:=hbn.1;have hbn1:bn<wr.heap.size:=by omega
     replace y0:=(HB3.out.cell (p:=⟨bn,offn+nn*2,none⟩) hbn0).trans y0
     replace y3:=(HB3.out.cell (p:=⟨bn,offn+nn*2+1,none⟩) hbn0).trans y3
     have hwl:=HGo.out.short _ (Zdm HGo.out hir).2;unfold S.GN.size at a2;obtain ⟨nd,hnd⟩:=Yx (g.nd nn);have Hnd:=Ya hnd;rw [<- hnd] at a2 a3 y0 y1 y2 y3 y4 hww hwl Hwds;obtain ⟨ty,ws⟩:=nd;simp only at a2 a3 y0 y1 y2 y3 y4 hww hwl Hwds;obtain ⟨NW,hNW⟩:=Yx ws.length;have HNW:=Ya hNW;rw [<- hNW] at a2 a3 y2 y3 y4 hwl;obtain ⟨v,hv⟩:=Yx (nu nn);have Hv:=Ya hv;rw [<- hv] at a1 a2 a3 q2;obtain ⟨NN,hNN⟩:=Yx g.ns.length;have HNN:=Ya hNN;rw [<- hNN] at d0 hir;obtain ⟨NL,hNL⟩:=Yx L.length;have HNL:=Ya hNL;rw [<- hNL] at hlt hi hLl ⊢;have HW':=Ya hww;have A3:=Ya a3;subst hA1 hA2;clear hc1 hc2 hnn hnd hNW hv hNN hNL hnn2 d1 d2 d3 hww a3;go_upto_region 16 with fail
     go_region
     have Hb4:=Ya (Zef ((Below.refl wr.heap.size wr).alloc (Nat.le_refl _) (.cells #[.int .u8 ty,.slice Aw' NW cw'] 42)));have hr4:(wr.alloc (.cells #[.int .u8 ty,.slice Aw' NW cw'] 42)).drew.heap[wr.heap.size]?=some (.cells #[.int .u8 ty,.slice Aw' NW cw'] 42):=heap_alloc_new wr _;generalize (wr.alloc (.cells #[.int .u8 ty,.slice Aw' NW cw'] 42)).drew=w4 at *;have hz4:=Hb4.out.size;have hlt4:wr.heap.size<w4.heap.size:=(Yh.1 hr4).1;have x0:w4.cell? ⟨wr.heap.size,0,none⟩=some (.int .u8 ty):=by rw [Yb hr4];rfl
     have x1:w4.cell? ⟨wr.heap.size,1,none⟩=some (.slice Aw' NW cw'):=by rw [Yb hr4];rfl
     have q3:w4.cell? ⟨b2,o2+i,none⟩=some (.int .i64 v):=by
      have:b2<wr.heap.size:=by
       have:=(HT.out.new.lt b2 rfl).2;exact this
      exact (Hb4.out.cell (p:=⟨b2,o2+i,none⟩) this).trans q2
     have hb24:b2<w4.heap.size:=by
      have:=(HT.out.new.lt b2 rfl).2;omega
     have HX4:=Ya hr4;have HB4:=Ya (HB3.out.trans (Hb4.out.mono hz3));have HT4:=Ya (HT.out.below Hb4.out);clear hr4 q1 q2 hb1 hb2 y0 y3 d0 hgb hgb0 hbn hbn0 hbn1 Hb4 HB3 HT;have hwx:w.heap.size<=wr.heap.size:=hz3;generalize wr.heap.size=xb at *;go_upto_region 18 with fail
     have l1:decide (v<fr)=false:=by simp;omega
     have l2:decide (v+1+NW>r26)=false:=by simp;omega
     have l3:IntKind.i64.wrap (v+1)=v+1:=Y6 _ ⟨by omega,by omega⟩;have l4:IntKind.i64.wrap (v+1+NW)=v+1+NW:=Y6 _ ⟨by omega,by omega⟩;have l5:r26%18446744073709551616=r26:=by omega
     have l6:bits .or .i64 (bits .or .i64 ((NW:Int)*32) (ty%8*4)) 3%4294967296=S.headW ty NW:=Zhl ty NW y1.1 (by omega);have er:m.regV 26=r26:=by rw [Zck (by decide) (by decide)];exact HR26.out.symm
     have ew:m.memV v=S.headW ty NW:=by rw [Zht (by omega) (by omega)];exact A3.out
     have Hreg:=Ya (show ∀ y:Ext w4,Calls Tryz.prog 8 #[.pointer (some ⟨p,0,none⟩),.int .i64 26] y.val fun e w'=>e=.returned (.int .u32 r26)/\y.val=w' from fun y=>by
      rw [<- er];exact Zfy 26 (HK.out.below (HB4.out.trans (y.property.mono HB4.out.size))))
     have Hwrd:=Ya (show ∀ y:Ext w4,Calls Tryz.prog 9 #[.pointer (some ⟨b,0,none⟩),.int .i64 v] y.val fun e w'=>e=.returned (.int .u32 (S.headW ty NW))/\Below y.val.heap.size y.val w' from fun y=>by
      rw [<- ew];exact Zet v (HK.out.below (HB4.out.trans (y.property.mono HB4.out.size))))
     clear er ew;obtain ⟨Aw0,nw0,cw0,Ap0,cp0,hP0,c0,c1,c2,c3,c4⟩:=(HK.out.below HB4.out).cells;have hbl:=(HK.out.below HB4.out).blt;refine Zs (by kernel_rfl) (by kernel_rfl) ?_;have hE:=Ze w4
     repeat (first
      | go_big_quiet_step ((first
       | (go_at_call 8;exact Zm (Hreg.out _))
       | (go_at_call 9;exact Zas (Hwrd.out _)))))
     refine wpQuiet_nil ?_;rintro w5 ⟨⟨_,hb5⟩,rfl⟩;have HB5:=Ya (HB4.out.trans (hb5.mono HB4.out.size));have HX5:=Ya ((hb5.block xb hlt4).trans HX4.out);have HT5:=Ya (HT4.out.below hb5);rw [l6];clear hE hb5 HX4 HT4 HB4 Hreg Hwrd hP0 c0 c1 c2 c3 c4 hbl x0 x1 q3 hb24 l6;go_wp2_with fail
     clear l1 l2 l3 l4 l5;rw [HNL.out];go_loopw [12,13,19] (fun v12 v13 v19 wl=>∃ q:Nat,q<=NW/\v19=.int .i64 q/\(∃ L' A c B d,i<L'.length/\v12=.slice A L'.length c/\v13=.slice B L'.length d/\Hid (Two2 wl w.heap.size nu L' A c B d)/\Hid (L'.Nodup)/\Hid (∀ i∈L',i∈il))/\Hid (wl.heap[xb]?=some (.cells #[.int .u8 ty,.slice Aw' NW cw'] 42))/\Hid (Below w.heap.size w wl)) (fun _ _ v19 _=>NW-(intOf v19).toNat)
     case atStart=>exact ⟨0,by omega,rfl,⟨L,_,c,_,d,by rw [<- HNL.out];exact hlt,rfl,rfl,HT5,HND,HL⟩,HX5,HB5⟩
     case round =>
      clear HT5 HND HL HX5 HB5;obtain ⟨q,hq,rfl,⟨L',A',c',B',d',hiL,rfl,rfl,HT,HND,HL⟩,HX,HB⟩:=hrel;have hz5:=HB.out.size;have hLl5:=Zhm HGo.out HND.out fun i hi=>HKe.out.sh.rng i (HL.out i hi)
      have hxlt:xb<wr.heap.size:=(Yh.1 HX.out).1;have x1:wr.cell? ⟨xb,1,none⟩=some (.slice Aw' NW cw'):=by rw [Yb HX.out];rfl
      by_cases hlq:q<NW
      ·have hqw:q<ws.length:=by rw [<- HNW.out];exact hlq
       obtain ⟨b3,off3,hA3,hb3,hc3⟩:=(HW'.out.pass (Pass.of_below (F:=F') HB.out)) (by omega)
       obtain ⟨z0,z1,z2,z3,z4,z5⟩:=hc3 q ws[q] (Yd hqw);have hb31:=hb3.1;have Hgd:=Ya (Hwds.out q ws[q] (Yd hqw));obtain ⟨x,hx⟩:=Yx ws[q];rw [<- hx] at z0 z1 z2 z3 z4 z5 Hgd;obtain ⟨u,t⟩:=x;simp only at z0 z1 z2 z3 z4 z5;rw [<- Hv.out] at Hgd;have hgf:=Zbw HGo.out (x:=(u,t)) ⟨z2,z3,z4⟩ HZ.out;obtain ⟨p1,p2,p3,p4⟩:=Zi6 HGo.out HKe.out Hgd.out HL.out;have P1:=Ya p1;have P2:=Ya p2;have P3:=Ya p3;have P4:=Ya p4;have hmvb:=HK.out.ok.memw (v+1+q).toNat;have em:m.memV (v+1+q)=m.mv (v+1+q):=Zht (by omega) (by omega);have hmvb2:0<=m.mv (v+1+q)/\m.mv (v+1+q)<4294967296:=⟨hmvb.1,by have:=hmvb.2;show m.mem.getD (v+1+q).toNat 0<_;omega⟩
       have l3:IntKind.i64.wrap (v+1)=v+1:=Y6 _ ⟨by omega,by omega⟩;have l7:IntKind.i64.wrap (v+1+q)=v+1+q:=Y6 _ ⟨by omega,by omega⟩;have HEm:=Ya em;have HMb:=Ya hmvb2;subst hA3;clear hc3 hx hqw hb3 p1 p2 p3 p4 hmvb hmvb2 em;go_wp2_with fail
       refine (Zh0 (u,t) ⟨z2,z3,z4,z5⟩ (HG.out.below HB.out)).mono ?_;rintro e w6 ⟨rfl,hb6⟩;have HB6:=Ya (HB.out.trans (hb6.mono hz5));have HT6:=Ya (HT.out.below hb6);have HX6:=Ya ((hb6.block xb hxlt).trans HX.out);clear hb6 z0 z1;obtain ⟨gwv,hgwv⟩:=Yx (g.word (u,t));rw [<- hgwv] at hgf P1 P2 P3 ⊢;clear hgwv Hgd;go_wp2_with fail
       refine (Zet (v+1+q) (HK.out.below HB6.out)).mono ?_;rintro e w7 ⟨rfl,hb7⟩;rw [HEm.out];have hz6:=HB6.out.size;have HB7:=Ya (HB6.out.trans (hb7.mono hz6));have HT7:=Ya (HT6.out.below hb7);have hxlt6:xb<w6.heap.size:=(Yh.1 HX6.out).1;have HX7:=Ya ((hb7.block xb hxlt6).trans HX6.out);have hz7:=HB7.out.size;clear hb7;generalize m.mv (v+1+q)=mvv at *;go_wp2_with fail
       refine (Zsn gwv mvv hgf HMb.out (HG.out.below HB7.out) (.pointer (some ⟨b,0,none⟩)) w.heap.size hz7 nu L' A' B' c' d' HT7.out (by omega) P1.out P2.out P4.out).mono ?_;rintro e w9 ⟨A9,c9,B9,d9,rfl,ht9,hb9,hr9⟩;have HT9:=Ya ht9;have HB9:=Ya (HB7.out.trans hb9);have HN9:=Ya (Zi5 HND.out (g.node gwv));have hxlt7:xb<w7.heap.size:=(Yh.1 HX7.out).1;have HX9:=Ya ((hr9 xb hxlt7 (fun e=>Zx HT7.out.old HX7.out (by decide) ((Zbf A' _ _ 0 0).trans e)) (fun e=>Zx HT7.out.new HX7.out (by decide) ((Zbf B' _ _ 0 0).trans e))).trans HX7.out);have hi9:i<(S.ag L' (g.node gwv)).length:=Nat.lt_of_lt_of_le hiL (Zpn L' (g.node gwv)).1;clear ht9 hb9 hr9 hLl5 HT7 HB7 HX7 HT6 HB6 HX6 HT HB HX hxlt hxlt6 hxlt7 x1 P1 P2 P4;generalize S.ag L' (g.node gwv)=L9 at *;go_wp2_with fail
       go_roundw
       case rel=>exact ⟨q+1,by omega,by go_num,⟨L9,A9,c9,B9,d9,hi9,rfl,rfl,HT9,HN9,P3⟩,HX9,HB9⟩
       case measure=>simp [intOf];omega
      ·have hqe:q=NW:=by omega
       subst hqe;go_wp2_with fail
       go_roundw
       case rel=>exact ⟨i+1,by go_num,⟨L',A',c',B',d',hiL,rfl,rfl,HT,HND,HL⟩,HB⟩
       case measure=>simp [intOf];omega
    ·have er:m.regV 26=r26:=by rw [Zck (by decide) (by decide)];exact HR26.out.symm
     have er2:m.regV 27=fr+half:=by rw [Zck (by decide) (by decide),HFr.out];exact HKe.out.r27
     have l5:r26%18446744073709551616=r26:=by omega
     have l6:(fr+half)%18446744073709551616=fr+half:=by omega
     have l7:IntKind.i64.wrap (fr+sz)=fr+sz:=Y6 _ ⟨by omega,by omega⟩;have l8:IntKind.i64.wrap (fr+half)=fr+half:=Y6 _ ⟨by omega,by omega⟩;have l9:(r26==fr+sz)=true:=by simp [HSz.out]
     have Hreg:=Ya (show ∀ (y:Ext wr) (i:Int),Calls Tryz.prog 8 #[.pointer (some ⟨p,0,none⟩),.int .i64 i] y.val fun e w'=>e=.returned (.int .u32 (m.regV i))/\y.val=w' from fun y i=>Zfy i (HK.out.below (HB3.out.trans (y.property.mono HB3.out.size))));obtain ⟨Aw0,nw0,cw0,Ap0,cp0,hP0,c0,c1,c2,c3,c4⟩:=(HK.out.below HB3.out).cells;have hbl:=(HK.out.below HB3.out).blt;go_upto_region 27 with fail
     refine Zs (by kernel_rfl) (by kernel_rfl) ?_;have hE:=Ze wr
     repeat (first
      | go_big_quiet_step ((first
       | (go_at_call 8;exact Zm (Hreg.out _ _)))))
     refine wpQuiet_nil ?_;rintro w5 ⟨⟨_,hb5⟩,rfl⟩;go_wp2_with fail
     refine bodyPost_ret (v:=.bool true) (results_tmp Tryz.results32 _ _ _) rfl ⟨rfl,HB3.out.trans (hb5.mono hz3)⟩
end
end
section
open Go.RowKit
def S.ae (I:S.Img)(m:S.Mach)(name:ByteArray)(N:Nat):S.Mach:=((m.setV 31 (I.lab S.kStub)).goV (I.lab name)).steps_ N
theorem Zhn {s:ByteArray}:∀ {xs:List S.Item},s∈S.tells xs->∃ (j:Nat) (x:S.Item),xs[j]?=some x/\x.kind=2/\x.label=s
 | [],h=>by cases h
 | y::r,h=>by
  rw [S.tells] at h
  split at h
  ·rename_i c
   rcases Yu.1 h with e | h
   ·exact ⟨0,y,rfl,c,e.symm⟩
   ·obtain ⟨j,x,h1,h2⟩:=Zhn h
    exact ⟨j+1,x,h1,h2⟩
  ·obtain ⟨j,x,h1,h2⟩:=Zhn h
   exact ⟨j+1,x,h1,h2⟩
theorem Zyn (gw sw:List Int):S.tells (S.joined (S.wObjs gw sw))=S.wTells:=by
 rw [Zch,Za3,Za3,(Zf6 gw sw).1,<- List.append_assoc];rfl
theorem Zl9 {s:ByteArray}(h:(S.wTells.any fun t=>decide (t=s))=true):s∈S.wTells:=by
 obtain ⟨t,ht,he⟩:=List.any_eq_true.1 h;rw [<- of_decide_eq_true he];exact ht
section
variable {gw sw F:List Int}{size:Int}
theorem Zar (hI:(S.aa true gw sw F size).Ok){s:ByteArray}(h:s∈S.wTells) :
 S.findP (S.placesTo (S.joined (S.wObjs gw sw)) F 0 (S.joined (S.wObjs gw sw)).length) s=some ((S.aa true gw sw F size).lab s)/\0<=(S.aa true gw sw F size).lab s/\(S.aa true gw sw F size).lab s<=67108864:=by
 obtain ⟨j,x,h1,h2,h3⟩:=Zhn (Zyn gw sw ▸ h);subst h3;have hl:=Zcp hI (i:=j) h1 h2;have hj:=(Ye.1 h1).1;refine ⟨Zwc hI h1 h2,?_,?_⟩
 ·rw [hl];exact Zln hI j
 ·rw [hl];exact Zhb hI (Nat.le_of_lt hj)
theorem Zbr:S.kStub∈S.wTells:=Zl9 (by kernel_rfl)
theorem Zma (hI:∀ b,(S.aa b gw sw F size).Ok){m:S.Mach}(h:S.Wd gw sw F size m){name:ByteArray}(hn:name∈S.wTells){d:Int}{R:Int->S.BO->Nat->Prop}(hd:d<=256)
 (hr:S.Real (S.aa true gw sw F size) name false (S.viewOf (m.setV 31 ((S.aa true gw sw F size).lab S.kStub))) d R) {N:Nat} {P:S.Vw->Prop}
 (hR:∀ ret o k,R ret o k->∃ st',(o=.ret st'\/o=.left ((S.aa true gw sw F size).lab S.kStub) st')/\k+1<=N/\P st') :
 ∃ st',P st'/\S.az (S.aa true gw sw F size) (S.ae (S.aa true gw sw F size) m name N) st'/\(S.ae (S.aa true gw sw F size) m name N).state=1/\(S.ae (S.aa true gw sw F size) m name N).place=(S.aa true gw sw F size).lab S.kStub/\(S.ae (S.aa true gw sw F size) m name N).rd 28=1056:=by
 obtain ⟨_,n1,n2⟩:=Zar (hI true) hn;obtain ⟨_,s1,s2⟩:=Zar (hI true) Zbr;have hset:=Zok (hI true) h (name:=name) ⟨n1,by omega⟩ ⟨s1,by omega⟩;have e:S.viewOf ((m.setV 31 ((S.aa true gw sw F size).lab S.kStub)).goV ((S.aa true gw sw F size).lab name))=S.viewOf (m.setV 31 ((S.aa true gw sw F size).lab S.kStub)):=by
  have h0:(m.setV 31 ((S.aa true gw sw F size).lab S.kStub)).state=0:=by
   rw [Zbn (by decide) (by decide)];exact h.run
  unfold S.Mach.goV;rw [if_neg (by rw [h0];decide)];rfl
 exact Zv6 hI hset hd (by rw [e];exact hr) hR
theorem Zs6 (hI:∀ b,(S.aa b gw sw F size).Ok){m:S.Mach}(h:S.Wd gw sw F size m){name:ByteArray}(hn:name∈S.wTells){d:Int}{R R0:Int->S.BO->Nat->Prop}(hd:d<=256)
 (hr:S.Real (S.aa true gw sw F size) name false (S.viewOf (m.setV 31 ((S.aa true gw sw F size).lab S.kStub))) d R) (hr0:S.Real (S.aa false gw sw F size) name false (S.viewOf (m.setV 31 ((S.aa true gw sw F size).lab S.kStub))) d R0) {N:Nat} {c:Int}
 (hR:∀ ret o k,R ret o k->∃ st',o=.halt c st'/\k<=N) (hR0:∀ ret o k,R0 ret o k->∃ c st',o=.halt c st'/\k<=N) :
 (S.ae (S.aa true gw sw F size) m name N).state=1/\(S.ae (S.aa true gw sw F size) m name N).code=c/\(S.ae (S.aa true gw sw F size) m name N).place≠(S.aa true gw sw F size).lab S.kStub:=by
 obtain ⟨_,n1,n2⟩:=Zar (hI true) hn;obtain ⟨_,s1,s2⟩:=Zar (hI true) Zbr;have hset:=Zok (hI true) h (name:=name) ⟨n1,by omega⟩ ⟨s1,by omega⟩;have e:S.viewOf ((m.setV 31 ((S.aa true gw sw F size).lab S.kStub)).goV ((S.aa true gw sw F size).lab name))=S.viewOf (m.setV 31 ((S.aa true gw sw F size).lab S.kStub)):=by
  have h0:(m.setV 31 ((S.aa true gw sw F size).lab S.kStub)).state=0:=by
   rw [Zbn (by decide) (by decide)];exact h.run
  unfold S.Mach.goV;rw [if_neg (by rw [h0];decide)];rfl
 exact Zv7 hI hset hd (by rw [e];exact hr) (by rw [e];exact hr0) hR hR0
structure S.Hv (size H half fr to_:Int):Prop where
 size:H+2*half<=size
 h0:0<=half
 ft:(fr=H/\to_=H+half)\/(fr=H+half/\to_=H)
theorem Zob (b:Bool)(hI:∀ b,(S.aa b gw sw F size).Ok){x:Int}(h0:0<=x)(h1:x<size)(h2:x<1056\/1312<=x)(h3:x<1312+gw.length+sw.length\/(S.aa true gw sw F size).lab S.kEnd<=x):S.Dat (S.aa b gw sw F size) x:=by
 have he:=Zb5 (hI true);have hc:¬ (S.aa true gw sw F size).code x:=fun q=>by
  have:=(Zgs (hI true)).1 q;omega
 have e1:(S.aa b gw sw F size).lo=1056:=rfl;have e2:(S.aa b gw sw F size).hi=1312:=rfl;refine ⟨h0,h1,fun q=>?_,fun q=>hc ?_⟩
 ·have:=q.1
  have:=q.2;omega
 ·cases b with
  | true=>exact q
  | false =>
   have hle:=Zci (hI true) (i:=2+gw.length+sw.length) (j:=gw.length+sw.length+8) (by omega);exact ⟨Int.le_trans hle q.1,q.2⟩
theorem Zvy (b:Bool)(hI:∀ b,(S.aa b gw sw F size).Ok){half fr to_ r26:Int}(hv:S.Hv size ((S.aa true gw sw F size).lab S.kEnd) half fr to_){O:List S.Ob}
 (hobs:(∀ o∈O,S.ObOk o/\fr<=o.at_/\o.at_+o.ws.length<=r26)/\(∀ o∈O,∀ o'∈O,o≠o'->o.at_+o.ws.length<=o'.at_\/o'.at_+o'.ws.length<=o.at_)/\O.Nodup) (hr:r26<=fr+half) (hs:S.tot O<=half):S.Cf.Ok (S.aa b gw sw F size) ⟨O,fr,to_,half⟩:=by
 have he:=Zb5 (hI true);have hs2:=(hI true).size2;have hsz:(S.aa true gw sw F size).size=size:=rfl;obtain ⟨v1,v2,v3⟩:=hv;refine ⟨fun x (h1:fr<=x) (h2:x<fr+half)=>Zob b hI (by omega) (by omega) (by omega) (by omega),fun x (h1:to_<=x) (h2:x<to_+half)=>Zob b hI (by omega) (by omega) (by omega) (by omega),?_,?_,?_,v2,?_,?_,fun x h1 h2=>Zob b hI h1 (by omega) (.inl h2) (by omega),fun o ho=>⟨(hobs.1 o ho).1,(hobs.1 o ho).2.1,?_⟩,hobs.2.1,hobs.2.2,hs⟩
 ·show fr+half<=to_\/to_+half<=fr;omega
 ·show 1312<=fr;omega
 ·show 1312<=to_;omega
 ·show fr+half<=335544320;omega
 ·show to_+half<=335544320;omega
 ·have:=(hobs.1 o ho).2.2
  show o.at_+(o.ws.length:Int)<=fr+half
  omega
theorem Zvz (b:Bool):∃ i,S.Seg (S.aa b gw sw F size) S.kMove i (S.bItems S.rMove):=Znk (j:=2) (r:=S.rMove) rfl
theorem Zv0 (b:Bool):∃ i,S.Seg (S.aa b gw sw F size) S.kScan i (S.bItems S.rScan):=Znk (j:=3) (r:=S.rScan) rfl
theorem Zs7 (b:Bool):∃ i,S.Seg (S.aa b gw sw F size) S.kFrame i (S.bItems S.rFrame):=Znk (j:=4) (r:=S.rFrame) rfl
theorem Zoc (b:Bool):∃ i,S.Seg (S.aa b gw sw F size) S.kCollect i (S.bItems S.rCollect):=Znk (j:=5) (r:=S.rCollect) rfl
theorem Zv1 (b:Bool):∃ i,S.Seg (S.aa b gw sw F size) S.kCons i (S.bItems S.rCons):=Znk (j:=7) (r:=S.rCons) rfl
structure S.au (gw sw F:List Int)(size:Int)(g:S.Gr)(a:Int)(was at_:List Int)(mem:Int->Int)(half fr to_ r26:Int)(il:List Nat)(nu:Nat->Int)(n0:Int)(l:List Nat)(cnt n:Nat):Prop where
 hv:S.Hv size ((S.aa true gw sw F size).lab S.kEnd) half fr to_
 gok:g.Ok a
 top:a+S.sizes g.ns<=335544320
 sh:S.Shape g was (at_.map mem) mem fr r26 il nu
 fit:∀ x∈was,g.fit x
 room:r26<=fr+half
 tot:g.total il<=half
 re:S.Reached g was n0 l
 m2:mem 2=fr
 m3:mem 3=to_
 m4:mem 4=half
 m8:mem 8=cnt
 c16:cnt<=16
 fm:(mem 6=0/\n=0)\/(mem 6=9/\n=2/\mem 9=2/\(0<=mem 10/\mem 10<4294967296)/\(0<=mem 11/\mem 11<4294967296))
 root:∀ x,S.RX (S.aa true gw sw F size) mem cnt n x->x∈at_\/(0<=mem x/\mem x<4294967296/\mem x%4≠1)
 at_:∀ x∈at_,S.RX (S.aa true gw sw F size) mem cnt n x
def S.au.cf (g:S.Gr)(mem:Int->Int)(nu:Nat->Int)(il:List Nat)(fr to_ half:Int):S.Cf:=⟨il.map (g.ob mem nu),fr,to_,half⟩
def S.au.T (g:S.Gr)(mem:Int->Int)(nu:Nat->Int)(l:List Nat)(o:S.Ob):Prop:=∃ i∈l,g.ob mem nu i=o
theorem Z2e (b:Bool)(hI:∀ b,(S.aa b gw sw F size).Ok){mem:Int->Int}{cnt n:Nat}{x:Int}:S.RX (S.aa b gw sw F size) mem cnt n x↔S.RX (S.aa true gw sw F size) mem cnt n x:=by
 have:(S.aa b gw sw F size).lab S.kCode=(S.aa true gw sw F size).lab S.kCode:=rfl;unfold S.RX;rw [this]
section
variable {g:S.Gr}{a:Int}{was at_:List Int}{mem:Int->Int}{half fr to_ r26:Int}{il:List Nat}{nu:Nat->Int}{n0:Int}{l:List Nat}{cnt n:Nat}
theorem Zs8 (b:Bool)(hI:∀ b,(S.aa b gw sw F size).Ok)(h:S.au gw sw F size g a was at_ mem half fr to_ r26 il nu n0 l cnt n):S.Cf.Ok (S.aa b gw sw F size) (S.au.cf g mem nu il fr to_ half):=by
 have he:=Zb5 (hI true);have hs2:=(hI true).size2;have hsz:(S.aa true gw sw F size).size=size:=rfl;obtain ⟨v1,v2,v3⟩:=h.hv;have hr:=h.room;exact Zvy b hI h.hv (Z0q h.gok h.sh (by omega) (by omega) h.top) h.room (by rw [Zkf];exact h.tot)
theorem Zyo (b:Bool)(hI:∀ b,(S.aa b gw sw F size).Ok)(h:S.au gw sw F size g a was at_ mem half fr to_ r26 il nu n0 l cnt n):S.bz (S.aa b gw sw F size) (S.au.cf g mem nu il fr to_ half) (S.au.T g mem nu l) cnt n mem:=by
 have he:=Zb5 (hI true);have hs2:=(hI true).size2;have hsz:(S.aa b gw sw F size).size=size:=rfl;have hsz2:(S.aa true gw sw F size).size=size:=rfl;obtain ⟨v1,v2,v3⟩:=h.hv;have hr:=h.room;have hlab:(S.aa b gw sw F size).lab S.kCode=1312+gw.length+sw.length:=(Zv (hI b)).2.1;have hlabt:(S.aa true gw sw F size).lab S.kCode=1312+gw.length+sw.length:=(Zv (hI true)).2.1;have e1:(S.aa b gw sw F size).lo=1056:=rfl;have e2:(S.aa b gw sw F size).hi=1312:=rfl;have hroot:∀ x,S.RX (S.aa true gw sw F size) mem cnt n x->S.WOk (S.au.cf g mem nu il fr to_ half) (S.au.T g mem nu l) (mem x):=fun x hx=>by
  rcases h.root x hx with hm | ⟨h1,h2,h3⟩
  ·obtain ⟨i,hi,e⟩:=Yaw hm
   have hi2:i<was.length:=by rw [h.sh.len,Ys];exact hi
   have hw:was[i]∈was:=Yap hi2;have hgd:=h.sh.good i was[i] (mem x) (Yd hi2) (by rw [Y0,Yd hi,e];rfl);exact Zxg h.gok h.sh rfl (by omega) (by omega) (h.fit _ hw) hgd fun k hk=>⟨k,h.re.root _ hw k hk,rfl⟩
  ·exact ⟨h1,h2,fun q=>absurd q h3⟩
 refine ⟨h.m2,h.m3,h.m4,fun o ho k w hk=>?_,h.m8,h.c16,by rw [hlab];omega,by rw [hlab];show _<=fr;omega,by rw [hlab];show _<=to_;omega,fun x h1 h2=>Zob b hI (by omega) (by omega) (by omega) (by omega),?_,fun x hx=>hroot x ((Z2e b hI).1 hx),fun o ho hT w hw=>?_⟩
 ·obtain ⟨i,hi,rfl⟩:=Ya1.1 ho
  obtain ⟨q1,q2,q3⟩:=h.sh.at_ i hi
  cases k with
  | zero =>
   cases hk
   show mem (nu i+0)=_
   rw [Int.add_zero];exact q3
  | succ k =>
   have:(g.ob mem nu i).ws[k+1]?=some w:=hk;unfold S.Gr.ob at this;simp only [List.getElem?_cons_succ,Y0] at this
   cases hq:(Yz (g.nd i).ws.length)[k]? with
   | none=>rw [hq] at this;cases this
   | some j =>
    rw [hq] at this;have hlt:=(Ye.1 hq).1;rw [Ycj] at hlt;rw [List.getElem?_range hlt] at hq
    cases hq
    cases this
    show mem (nu i+((k+1:Nat):Int))=mem (nu i+1+k)
    congr 1
    omega
 ·rcases h.fm with ⟨f1,f2⟩ | ⟨f1,f2,f3,f4,f5⟩
  ·exact .inl ⟨f1,f2⟩
  ·subst f2
   refine .inr ⟨by rw [f1];decide,⟨by rw [f1];decide,by decide,by rw [f1,f3];rfl,fun j hj=>?_,.inl (by rw [f1];decide),fun j hj=>?_,fun j i hj hi hb=>?_⟩,fun j hj=>?_⟩
   ·rw [f1]
    refine ⟨by omega,fun q=>?_,fun q=>?_,fun q=>?_,by omega,by omega⟩
    ·have:=q.1;omega
    ·have:=q.1
     have:fr<=9+(j:Int):=q.1;omega
    ·have:to_<=9+(j:Int):=q.1
     omega
   ·rw [f1]
    match j,hj with
    | 0,_=>exact f4
    | 1,_=>exact f5
   ·refine hroot _ (.inl (.inr ⟨j,hj,i,hi,rfl,hb⟩))
   ·rw [f1]
    omega
 ·obtain ⟨i,hi,rfl⟩:=hT
  have hil:i∈il:=by
   obtain ⟨i',hi',e⟩:=Ya1.1 ho;have hil2:∀ j∈l,j∈il:=Zfh h.re (fun r hr j hj=>by
    obtain ⟨k,hk,e⟩:=Yaw hr;have hk2:k<(at_.map mem).length:=by rw [<- h.sh.len];exact hk
    exact ((h.sh.good k r _ (by rw [<- e];exact Yd hk) (Yd hk2)).2 j hj).1) (fun j hj x hx q hq=>by
    obtain ⟨k,hk,e⟩:=Yaw hx;exact ((h.sh.words j hj k x (by rw [<- e];exact Yd hk)).2 q hq).1)
   exact hil2 i hi
  rcases Ztl hw with rfl | ⟨k,x,hk,rfl⟩
  ·have hm:=h.gok.wd _ (Zdm h.gok (h.sh.rng i hil)).2
   have hl:=h.gok.short _ (Zdm h.gok (h.sh.rng i hil)).2;exact ⟨by unfold S.headW;omega,by unfold S.headW;omega,fun q=>by unfold S.headW at q;omega⟩
  ·have hm:=h.gok.wd _ (Zdm h.gok (h.sh.rng i hil)).2
   have hx:=List.mem_of_getElem? hk;exact Zxg h.gok h.sh rfl (by omega) (by omega) (Zpl h.gok (hm.2 x hx) h.top) (h.sh.words i hil k x hk) fun q hq=>⟨q,h.re.clo i hi x hx q hq,rfl⟩
theorem Zmb (b:Bool)(hI:∀ b,(S.aa b gw sw F size).Ok){st st':S.Vw}(h:S.au gw sw F size g a was at_ st.mem half fr to_ r26 il nu n0 l cnt n){ρ:List S.Ob}(hd:S.Cd (S.au.cf g st.mem nu il fr to_ half) (S.au.T g st.mem nu l) (S.RX (S.aa b gw sw F size) st.mem cnt n) st ρ st') :
 ∃ nu',S.Keeps g was (at_.map st'.mem) st'.mem to_ half (st'.reg 26) (st'.reg 27) l nu'/\S.tot ρ=n0 :=
 Zwb h.gok (Zs8 b hI h) (now:=at_.map st.mem) h.sh rfl h.re h.fit h.top hd (fun x hx=>(Z2e b hI).2 (h.at_ x hx)) rfl rfl
end
end
theorem Zod {g:S.Gr}{was now now':List Int}{mem mem':Int->Int}{fr half r26 r27:Int}{il:List Nat}{nu:Nat->Int}(h:S.Keeps g was now mem fr half r26 r27 il nu)(hn:now=now')(hm:∀ a,fr<=a->a<r26->mem' a=mem a):S.Keeps g was now' mem' fr half r26 r27 il nu:=by
 subst hn;have hs:=h.sh;have sz:∀ n,(g.nd n).size=1+(g.nd n).ws.length:=fun n=>rfl
 refine ⟨⟨hs.nd,hs.rng,hs.len,hs.good,fun n hn=>?_,fun n hn k x hx=>?_,hs.dis⟩,h.size,h.r27,h.from0,h.top⟩
 ·obtain ⟨q1,q2,q3⟩:=hs.at_ n hn
  have:=sz n;exact ⟨q1,q2,by rw [hm _ q1 (by omega)];exact q3⟩
 ·obtain ⟨q1,q2,q3⟩:=hs.at_ n hn
  have:=sz n;have hk:=(Ye.1 hx).1;rw [hm _ (by omega) (by omega)];exact hs.words n hn k x hx
structure S.bl (gw sw F:List Int)(size:Int)(g:S.Gr)(was at_:List Int)(half fr to_:Int)(l:List Nat)(cnt n:Nat)(m m':S.Mach):Prop where
 keeps:∃ nu,S.Keeps g was (at_.map m'.mv) m'.mv to_ half (m'.rd 26) (m'.rd 27) l nu
 m2:m'.mv 2=to_
 m3:m'.mv 3=fr
 reg:∀ j,S.visB j=true->j≠4->j≠5->j≠26->j≠27->j≠29->m'.rd j=m.rd j
 mem:∀ a,0<=a->a<size->¬ (1056<=a/\a<1312)->a≠2->a≠3->¬ S.RX (S.aa true gw sw F size) m.mv cnt n a->¬ (fr<=a/\a<fr+half)->¬ (to_<=a/\a<to_+half)->m'.mv a=m.mv a
section
variable {gw sw F:List Int}{size:Int}{g:S.Gr}{a:Int}{was at_:List Int}{half fr to_ r26:Int}{il:List Nat}{nu:Nat->Int}{n0:Int}{l:List Nat}{cnt n:Nat}
theorem Zv2 (hI:∀ b,(S.aa b gw sw F size).Ok){mem:Int->Int}(h:S.au gw sw F size g a was at_ mem half fr to_ r26 il nu n0 l cnt n){x:Int}(hx:S.RX (S.aa true gw sw F size) mem cnt n x):5<=x/\x<size/\¬ (1056<=x/\x<1312):=by
 have he:=Zb5 (hI true);have hlab:(S.aa true gw sw F size).lab S.kCode=1312+gw.length+sw.length:=(Zv (hI true)).2.1;have hc:=h.c16;have hn:n<=2:=by rcases h.fm with ⟨_,q⟩ | ⟨_,q,_⟩ <;> omega
 rcases hx with ((rfl | q) | ⟨j,hj,i,hi,rfl,_⟩) | q
 ·omega
 ·omega
 ·omega
 ·omega
theorem Zpb (m:S.Mach)(v:Int):(S.viewOf (m.setV 31 v)).mem=m.mv:=by
 funext x
 exact Zkg (by decide) (by decide)
theorem Zpc {m:S.Mach}(h:m.Ok)(v:Int){j:Int}(hj:j≠31):(S.viewOf (m.setV 31 v)).reg j=m.rd j:=by
 show (m.setV 31 v).rd j=_
 rw [Zd7 h (by decide) (by decide),if_neg hj]
theorem Z1y {j:Int}(h:S.visB j=true):j≠31:=by
 unfold S.visB at h;have:=of_decide_eq_true h;omega
theorem Zyp (hI:∀ b,(S.aa b gw sw F size).Ok){m m':S.Mach}(hw:m.Ok)(h:S.au gw sw F size g a was at_ m.mv half fr to_ r26 il nu n0 l cnt n){v:Int}{st0 st st':S.Vw}(hs0:st0=S.viewOf (m.setV 31 v)){ρ:List S.Ob}
 (hsm:st.mem=m.mv) (hsr:∀ j,S.visB j=true->j≠4->st.reg j=st0.reg j)
 (hd:S.Cd (S.au.cf g m.mv nu il fr to_ half) (S.au.T g m.mv nu l) (S.RX (S.aa true gw sw F size) m.mv cnt n) st ρ st') (hs:S.az (S.aa true gw sw F size) m' st'):S.bl gw sw F size g was at_ half fr to_ l cnt n m m'/\S.tot ρ=n0:=by
 have he:=Zb5 (hI true);have hsz:(S.aa true gw sw F size).size=size:=rfl;have hlo:(S.aa true gw sw F size).lo=1056:=rfl;have hhi:(S.aa true gw sw F size).hi=1312:=rfl;obtain ⟨v1,v2,v3⟩:=h.hv;have h':S.au gw sw F size g a was at_ st.mem half fr to_ r26 il nu n0 l cnt n:=by rw [hsm];exact h
 obtain ⟨nu',hk,ht⟩:=Zmb true hI h' (by rw [hsm];exact hd);have hm:∀ x,0<=x->x<size->¬ (1056<=x/\x<1312)->m'.mv x=st'.mem x:=fun x h0 h1 h2=>hs.mem x h0 h1 fun q=>h2 ⟨q.1,q.2⟩
 have hle:S.tot ρ<=half:=by
  have:=Zbj ρ _ hd.nd hd.sub;have h3:=(Zs8 true hI h).sum;have h4:(S.au.cf g m.mv nu il fr to_ half).hf=half:=rfl;omega
 have h26:m'.rd 26=st'.reg 26:=hs.reg 26 (by decide);have h27:m'.rd 27=st'.reg 27:=hs.reg 27 (by decide);have t26:st'.reg 26=to_+S.tot ρ:=hd.r26;refine ⟨⟨⟨nu',?_⟩,?_,?_,fun j hj h4 h5 h26 h27 h29=>?_,fun x h0 h1 h2 h3 h4 h5 h6 h7=>?_⟩,ht⟩
 ·rw [h26,h27]
  refine Zod hk (List.map_congr_left fun x hx=>?_) fun x h0 h1=>hm x (by omega) (by omega) (by omega)
  obtain ⟨q1,q2,q3⟩:=Zv2 hI h (h.at_ x hx);exact (hm x (by omega) q2 q3).symm
 ·rw [hm 2 (by decide) (by omega) (by omega)];exact hd.m2
 ·rw [hm 3 (by decide) (by omega) (by omega)];exact hd.m3
 ·rw [hs.reg j hj,hd.reg j h4 h5 h26 h27 h29,hsr j hj h4,hs0]
  exact Zpc hw v (Z1y hj)
 ·rw [hm x h0 h1 h2,hd.mem x h3 h4 h5 h6 (fun q=>h7 ⟨q.1,by have:=q.2;have h8:(S.au.cf g m.mv nu il fr to_ half).to_=to_:=rfl;omega⟩),hsm]
theorem Zeu:S.kCollect∈S.wTells:=Zl9 (by kernel_rfl)
theorem Zho (hI:∀ b,(S.aa b gw sw F size).Ok){m:S.Mach}(hw:S.Wd gw sw F size m)(h:S.au gw sw F size g a was at_ m.mv half fr to_ r26 il nu n0 l cnt n){N:Nat}(hN:701+130*((cnt:Int)+(gw.length+sw.length))+10100*n+170*n0<=N) :
 S.bl gw sw F size g was at_ half fr to_ l cnt n m (S.ae (S.aa true gw sw F size) m S.kCollect N)/\(S.ae (S.aa true gw sw F size) m S.kCollect N).state=1/\(S.ae (S.aa true gw sw F size) m S.kCollect N).place=(S.aa true gw sw F size).lab S.kStub/\(S.ae (S.aa true gw sw F size) m S.kCollect N).rd 28=1056:=by
 obtain ⟨iM,sM⟩:=Zvz (gw:=gw) (sw:=sw) (F:=F) (size:=size) true;obtain ⟨iS,sS⟩:=Zv0 (gw:=gw) (sw:=sw) (F:=F) (size:=size) true;obtain ⟨iF,sF⟩:=Zs7 (gw:=gw) (sw:=sw) (F:=F) (size:=size) true;obtain ⟨iC,sC⟩:=Zoc (gw:=gw) (sw:=sw) (F:=F) (size:=size) true;have hlab:(S.aa true gw sw F size).lab S.kCode=1312+gw.length+sw.length:=(Zv (hI true)).2.1;obtain ⟨st0,hst0⟩:=Yx (S.viewOf (m.setV 31 ((S.aa true gw sw F size).lab S.kStub)));have hsm:st0.mem=m.mv:=by rw [hst0];exact Zpb _ _
 have h':S.au gw sw F size g a was at_ st0.mem half fr to_ r26 il nu n0 l cnt n:=by rw [hsm];exact h
 have hr:=Zl4 (hI true) (Zs8 true hI h') sM sS sF sC (Zyo true hI h');have hkt:∀ (ρ:List S.Ob) (st':S.Vw),S.Cd (S.au.cf g st0.mem nu il fr to_ half) (S.au.T g st0.mem nu l) (S.RX (S.aa true gw sw F size) st0.mem cnt n) st0 ρ st'->S.tot ρ=n0:=fun ρ st' hd=>by
  obtain ⟨_,_,ht⟩:=Zmb true hI h' hd;exact ht
 obtain ⟨st',hP,hsee,h1,h2,h3⟩:=Zma hI hw Zeu (d:=72) (by decide) (by rw [<- hst0];exact hr) (N:=N)
  (P:=fun st'=>∃ ρ,S.Cd (S.au.cf g st0.mem nu il fr to_ half) (S.au.T g st0.mem nu l) (S.RX (S.aa true gw sw F size) st0.mem cnt n) st0 ρ st') fun ret o k hR=>by
   obtain ⟨st',ρ,rfl,hd,hk⟩:=hR;have:=hkt ρ st' hd;rw [hlab] at hk;exact ⟨st',.inl rfl,by omega,ρ,hd⟩
 obtain ⟨ρ,hd⟩:=hP;rw [hsm] at hd;exact ⟨(Zyp hI hw.ok h hst0 (st:=st0) hsm (fun _ _ _=>rfl) hd hsee).1,h1,h2,h3⟩
end
end
section
open Go.RowKit
def S.ah (x:S.GN):S.GN:=⟨x.ty,x.ws.take 12⟩
def S.ac (ns:List S.GN):List S.GN:=(ns.take 30).map S.ah
def S.aj (ns:List S.GN)(a:Int):S.Gr:=⟨S.ac ns,S.addrsFrom a (S.ac ns)⟩
def S.ab (g:S.Gr)(i:Nat):List (Int×Int):=(g.adr i,S.headW (g.nd i).ty (g.nd i).ws.length)::(Yz (g.nd i).ws.length).map fun k=>(g.adr i+1+(k:Nat),g.word ((g.nd i).ws.getD k (0,0)))
def S.aq (g:S.Gr)(m:S.Mach):S.Mach:=S.puts m ((Yz g.ns.length).flatMap (S.ab g))
section
variable {m:S.Mach}
theorem Zmc (m:S.Mach):∀ l:List (Int×Int),(S.puts m l).reg=m.reg/\(S.puts m l).place=m.place/\(S.puts m l).input=m.input/\(S.puts m l).out=m.out/\(S.puts m l).state=m.state/\(S.puts m l).steps=m.steps/\(S.puts m l).mem.length=m.mem.length:=by
 intro l
 induction l generalizing m with
 | nil=>exact ⟨rfl,rfl,rfl,rfl,rfl,rfl,rfl⟩
 | cons p r ih =>
  obtain ⟨e1,e2,e3,e4,e5,e6,e7⟩:=Zfi m p.1 p.2;obtain ⟨f1,f2,f3,f4,f5,f6,f7⟩:=ih (m:=m.putV p.1 p.2);exact ⟨f1.trans e1,f2.trans e2,f3.trans e3,f4.trans e4,f5.trans e5,f6.trans e6,f7.trans e7⟩
theorem Zpd (m:S.Mach)(a h:Int)(f:Nat->Int)(h0:0<=a):∀ q:Nat,a+1+q<=m.mem.length->∀ x,0<=x->(S.puts m ((a,h)::(Yz q).map fun k=>(a+1+(k:Nat),f k))).mv x=if x=a then h else if a<x/\x<=a+q then f (x-a-1).toNat else m.mv x
 | 0,hl,x,hx=>by
  show (m.putV a h).mv x=_
  rw [Zhs h0 (by omega) hx,if_neg (show ¬ (a<x/\x<=a+((0:Nat):Int)) by omega)]
 | q+1,hl,x,hx=>by
  have ih:=Zpd m a h f h0 q (by omega) x hx;have e:S.puts m ((a,h)::(Yz (q+1)).map fun k=>(a+1+(k:Nat),f k))=(S.puts m ((a,h)::(Yz q).map fun k=>(a+1+(k:Nat),f k))).putV (a+1+(q:Nat)) (f q):=by
   rw [Ych,List.map_append,<- Yv,Zb4];rfl
  rw [e,Zhs (by omega) (by rw [(Zmc m _).2.2.2.2.2.2];omega) hx,ih];by_cases c:x=a+1+(q:Nat)
  ·rw [if_pos c,if_neg (by omega),if_pos (by omega)]
   congr 1
   omega
  ·rw [if_neg c]
   by_cases c2:x=a
   ·rw [if_pos c2,if_pos c2]
   ·rw [if_neg c2,if_neg c2]
    by_cases c3:a<x/\x<=a+q
    ·rw [if_pos c3,if_pos (by omega)]
    ·rw [if_neg c3,if_neg (by omega)]
end
section
variable {g:S.Gr}{a:Int}(hg:g.Ok a)
include hg
theorem Zfg (m:S.Mach){i:Nat}(hi:i<g.ns.length)(hl:a+S.sizes g.ns<=m.mem.length){x:Int}(hx:0<=x) :
 (S.puts m (S.ab g i)).mv x=if x=g.adr i then S.headW (g.nd i).ty (g.nd i).ws.length else if g.adr i<x/\x<=g.adr i+(g.nd i).ws.length then g.word ((g.nd i).ws.getD (x-g.adr i-1).toNat (0,0)) else m.mv x:=by
 have h1:=Zhr hg hi;have h0:=hg.a0;have e:(g.nd i).size=1+(g.nd i).ws.length:=rfl;unfold S.ab;exact Zpd m (g.adr i) _ (fun k=>g.word ((g.nd i).ws.getD k (0,0))) (by omega) _ (by omega) x hx
theorem Zoe (m:S.Mach)(hl:a+S.sizes g.ns<=m.mem.length):∀ i:Nat,i<=g.ns.length ->
 (∀ j,j<i->(S.puts m ((Yz i).flatMap (S.ab g))).mv (g.adr j)=S.headW (g.nd j).ty (g.nd j).ws.length/\∀ (k:Nat) (x:Int×Int),(g.nd j).ws[k]?=some x->(S.puts m ((Yz i).flatMap (S.ab g))).mv (g.adr j+1+k)=g.word x) /\
 (∀ x,0<=x->¬ (a<=x/\x<a+S.sizes g.ns)->(S.puts m ((Yz i).flatMap (S.ab g))).mv x=m.mv x)
 | 0,_=>⟨fun j hj=>by omega,fun x _ _=>rfl⟩
 | i+1,h=>by
  obtain ⟨ih1,ih2⟩:=Zoe m hl i (by omega);have hi:i<g.ns.length:=by omega
  have e:S.puts m ((Yz (i+1)).flatMap (S.ab g))=S.puts (S.puts m ((Yz i).flatMap (S.ab g))) (S.ab g i):=by
   rw [Ych,Ya7,Zb4];simp
  obtain ⟨m1,hm1⟩:=Yx (S.puts m ((Yz i).flatMap (S.ab g)));have hl1:a+S.sizes g.ns<=m1.mem.length:=by rw [hm1,(Zmc m _).2.2.2.2.2.2];exact hl
  rw [<- hm1] at ih1 ih2;rw [e,<- hm1];have hE:=Zhr hg hi;have h0:=hg.a0;have es:∀ n,(g.nd n).size=1+(g.nd n).ws.length:=fun n=>rfl
  have hes:=es i;refine ⟨fun j hj=>?_,fun x hx hout=>?_⟩
  ·have hjl:j<g.ns.length:=by omega
   have hEj:=Zhr hg hjl;have hesj:=es j;by_cases c:j=i
   ·subst c
    refine ⟨by rw [Zfg hg m1 hi hl1 (by omega),if_pos rfl],fun k x hx=>?_⟩;have hk:=(Ye.1 hx).1;rw [Zfg hg m1 hi hl1 (by omega),if_neg (by omega),if_pos (by omega),show (g.adr j+1+(k:Int)-g.adr j-1).toNat=k from by omega,Yk,hx];rfl
   ·have hlt:=Zti hg (show j<i by omega) hi
    obtain ⟨q1,q2⟩:=ih1 j (by omega);refine ⟨by rw [Zfg hg m1 hi hl1 (by omega),if_neg (by omega),if_neg (by omega)];exact q1,fun k x hx=>?_⟩;have hk:=(Ye.1 hx).1;rw [Zfg hg m1 hi hl1 (by omega),if_neg (by omega),if_neg (by omega)];exact q2 k x hx
  ·rw [Zfg hg m1 hi hl1 hx,if_neg (by omega),if_neg (by omega)]
   exact ih2 x hx hout
end
theorem Zof {gw sw F:List Int}{size:Int}(hI:(S.aa true gw sw F size).Ok){g:S.Gr}{a:Int}(hg:g.Ok a){m:S.Mach}(h:S.Wd gw sw F size m)(ha:(S.aa true gw sw F size).lab S.kEnd<=a)(ht:a+S.sizes g.ns<=size)(hz:a+S.sizes g.ns<=335544320):∀ i:Nat,i<=g.ns.length->S.Wd gw sw F size (S.puts m ((Yz i).flatMap (S.ab g)))
 | 0,_=>h
 | i+1,hi=>by
  have ih:=Zof hI hg h ha ht hz i (by omega);have e:S.puts m ((Yz (i+1)).flatMap (S.ab g))=S.puts (S.puts m ((Yz i).flatMap (S.ab g))) (S.ab g i):=by
   rw [Ych,Ya7,Zb4];simp
  rw [e];have hil:i<g.ns.length:=by omega
  have hE:=Zhr hg hil;have h0:=hg.a0;have es:(g.nd i).size=1+(g.nd i).ws.length:=rfl;have hm:=hg.wd _ (Zdm hg hil).2;have hsh:=hg.short _ (Zdm hg hil).2;have hnc:∀ x,a<=x->¬ (S.aa true gw sw F size).code x:=fun x hx hc=>by
   have:=(Zgs hI).1 hc;omega
  generalize S.puts m ((Yz i).flatMap (S.ab g))=m1 at ih;have key:∀ (l:List (Int×Int)) (m1:S.Mach),S.Wd gw sw F size m1->(∀ p∈l,a<=p.1/\p.1<size/\0<=p.2/\p.2<=4294967295)->S.Wd gw sw F size (S.puts m1 l):=by
   intro l
   induction l with
   | nil=>intro m1 h _;exact h
   | cons p r ihl =>
    intro m1 h hp;obtain ⟨p1,p2,p3⟩:=hp p List.mem_cons_self;exact ihl _ (Ztp hI h ⟨by omega,p2⟩ (hnc _ p1) p3) fun q hq=>hp q (List.mem_cons_of_mem _ hq)
  refine key _ m1 ih fun p hp=>?_
  unfold S.ab at hp;rcases Yu.1 hp with rfl | hp
  ·exact ⟨by omega,by show g.adr i<size;omega,by show 0<=S.headW _ _;unfold S.headW;omega,by show S.headW _ _<=_;unfold S.headW;omega⟩
  ·obtain ⟨k,hk,rfl⟩:=Ya1.1 hp
   have hk':=Yay.1 hk;have hx:(g.nd i).ws.getD k (0,0)∈(g.nd i).ws:=by
    rw [Yk,Yd hk'];exact Yap hk'
   have hb:=Zbw hg (hm.2 _ hx) hz;exact ⟨by show a<=g.adr i+1+(k:Int);omega,by show g.adr i+1+(k:Int)<size;omega,hb.1,by show g.word _<=_;omega⟩
theorem Zi7 {g:S.Gr}{a:Int}(hg:g.Ok a)(hz:a+S.sizes g.ns<=335544320){mem:Int->Int}(h:∀ j,j<g.ns.length->mem (g.adr j)=S.headW (g.nd j).ty (g.nd j).ws.length/\∀ (k:Nat) (x:Int×Int),(g.nd j).ws[k]?=some x->mem (g.adr j+1+k)=g.word x)(was:List Int) :
 S.Shape g was was mem a (a+S.sizes g.ns) (Yz g.ns.length) g.adr:=by
 have good:∀ x,S.Good g (·∈Yz g.ns.length) g.adr x x:=fun x=>⟨fun _=>rfl,fun n hn=>by
  obtain ⟨q1,q2⟩:=Zgc hg hn;exact ⟨Yay.2 q1,q2⟩⟩
 refine ⟨List.nodup_range,fun n hn=>Yay.1 hn,rfl,fun i x y hx hy=>by rw [hx] at hy;cases hy;exact good x,fun n hn=>?_,fun n hn k x hx=>?_,fun n hn m hm hne=>?_⟩
 ·have hn':=Yay.1 hn
  obtain ⟨q1,q2⟩:=Zhr hg hn';exact ⟨q1,q2,(h n hn').1⟩
 ·rw [(h n (Yay.1 hn)).2 k x hx]
  exact good _
 ·rcases Nat.lt_or_gt_of_ne hne with c | c
  ·exact .inl (Zti hg c (Yay.1 hm))
  ·exact .inr (Zti hg c (Yay.1 hn))
theorem Zhp {g:S.Gr}{a:Int}(hg:g.Ok a):g.total (Yz g.ns.length)=S.sizes g.ns:=by
 have key:∀ n:Nat,n<=g.ns.length->g.total (Yz n)=S.sizes (g.ns.take n):=by
  intro n
  induction n with
  | zero=>intro _;simp [S.Gr.total,S.sizes]
  | succ n ih =>
   intro h;have tapp:∀ l:List Nat,g.total (l++[n])=g.total l+(g.nd n).size:=by
    intro l
    induction l with
    | nil=>simp [S.Gr.total]
    | cons x r ih=>rw [Yv,S.Gr.total,S.Gr.total,ih];omega
   rw [Ych,tapp,ih (by omega),Zoh hg (by omega)]
 rw [key _ (Nat.le_refl _),List.take_length]
end
end Go.Proofs.YtdeepoikgfaecaaGreatDoor
