/- Parts. -/
import Derived.Test.YtldbnjajjfgipaaGreatDoorZVKw
set_option linter.all false
set_option maxHeartbeats 16000000
open Go.Lib renaming hid->Ya,cell_of_heap->Yb
open Nat renaming le_refl->Yd
open Go.AllReady renaming cons->Yf,nil->Yi
open Go.RowKit.Below renaming refl->Yj
open Go.Value renaming oneCell'->Yt,slice->Y6
open List renaming mem_cons_self->Y4,mem_append_left->Yc5
namespace Go.Proofs.YtldbnjajjfgipaaGreatDoor
open S Go.Proofs.Tryz Go.RowKit
set_option maxRecDepth 100000
structure KS1 (B:Nat)(W:World)(A:Option Addr)(c:Nat)(xs:List Value):Prop where
 own:W.ownsRow B 105 2 (.slice A 15 c) 15 xs
 oc:OCg W (Y6 A 15 c).ownBlock objs26 xs
theorem KS1.below {B:Nat}{W W':World}{A:Option Addr}{c:Nat}{xs:List Value}(h:KS1 B W A c xs)(hb:Below W.heap.size W W'):KS1 B W' A c xs:=⟨Zc h.own hb,h.oc.below hb⟩
structure KS2 (W:World)(g:Option Nat)(A:Option Addr)(c:Nat)(xs:List Value):Prop where
 rd:Reads W W.heap.size A xs
 oc:OCg W g objs28 xs
 nil:A=none->39=0
theorem KS2.below {W W':World}{g:Option Nat}{A:Option Addr}{c:Nat}{xs:List Value}(h:KS2 W g A c xs)(hb:Below W.heap.size W W'):KS2 W' g A c xs:=⟨(h.rd.below hb).moreM hb.size,h.oc.below hb,h.nil⟩
structure KS3 (B:Nat)(W:World)(A:Option Addr)(c:Nat)(xs:List Value):Prop where
 own:W.ownsRow B 105 2 (.slice A 54 c) 54 xs
 oc:OCg W (Y6 A 54 c).ownBlock (objs26++objs28) xs
theorem KS3.below {B:Nat}{W W':World}{A:Option Addr}{c:Nat}{xs:List Value}(h:KS3 B W A c xs)(hb:Below W.heap.size W W'):KS3 B W' A c xs:=⟨Zc h.own hb,h.oc.below hb⟩
theorem Zd7 {n:Nat}{xs:List Value}{W:World}{g:Option Nat}{os:List S.Obj}(h:OCg W g os xs)(hn:os.length=n):xs.length=n*2:=by rw[h.len,hn]
theorem Ztx (B:Nat)(W:World)(hL:LVE W)(hB:B<=W.heap.size):Calls prog 51 #[.int .i64 0] W λ e w'=>∃A c xs,e=.returned (.slice A 15 c)/\KS1 B w' A c xs/\Below W.heap.size W w'/\∀k,(Y6 A 15 c).ownBlock=some k->W.heap.size<=k:=by
 refine(Zpa (λ _=>none) W [.int .i64 0] (λ b k h=>by cases h) hL (by rw[RepT];exact⟨_,_,rfl,by rw[RepV],by rw[RepT]⟩)).mono ?_;rintro e w1 ⟨v1,H1,rfl,hb1,-,hH1,hr1,ht1⟩
 replace hH1:∀b k,H1 b=some k->b<w1.heap.size:=λ b k h=>(hH1 b k h).lt
 obtain⟨xs1,hl1,ho1,hgH⟩:=Zki (ht1 _ rfl) hr1 (.inl ⟨rfl,rfl⟩) (by kernel_rfl);have hoc1:=Zlc hH1 hl1 (λ x hx=>Zdk Zn8 x (Yc5 _ hx));obtain⟨A1,c1,rfl⟩:=Za ho1;obtain⟨g2,e2,hg0,hg1,_,hg4,_⟩:=Zae ho1 (by decide)
 cases e2
 have hgn:H1 g2=some 30:=(hgH g2 rfl).trans (congrArg some (by kernel_rfl));have hself:=Zl9 hH1 hgn (λ j hj k v hcv=>by
  have hjl:j<xs1.length:=by rw[hoc1.len];exact hj
  have hcj:=hg4 j (by omega);rw[hcv] at hcj;have hi:j/2<objs26.length:=by
   have:objs26.length=15:=by decide
   omega
  obtain⟨A',c',p0,p1,_⟩:=hoc1.at_ (j/2) _ (List.getElem?_eq_getElem hi);rcases Nat.mod_two_eq_zero_or_one j with e|e
  .have:j/2*2=j:=by omega
   rw[this,<- hcj] at p0
   cases p0
  .have:j/2*2+1=j:=by omega
   rw[this,<- hcj] at p1
   cases p1) hl1 (λ x hx=>Zdk Zn8 x (Yc5 _ hx))
 exact⟨_,_,xs1,rfl,⟨Zn ho1 hB,hself⟩,hb1,λ k hk=>(ho1.lt k hk).1⟩
theorem Zjg (B:Nat)(W:World)(hL:LVE W){A:Option Addr}{c:Nat}{xs:List Value}(h1:KS1 B W A c xs):Calls prog 73 #[] W λ e w'=>∃A2 c2 xs2,e=.returned (.slice A2 39 c2)/\KS1 B w' A c xs/\KS2 w' (Y6 A 15 c).ownBlock A2 c2 xs2/\Below W.heap.size W w':=by
 refine(Znq (λ _=>none) W [] (λ b k h=>by cases h) hL (by rw[RepT])).mono ?_;rintro e w5 ⟨v5,H5,rfl,hb5,hO5,hH5,hr5,ht5⟩
 replace hH5:∀b k,H5 b=some k->b<w5.heap.size:=λ b k h=>(hH5 b k h).lt
 obtain⟨xs5,hl5,ho5,-⟩:=Zki (ht5 _ rfl) hr5 (.inl ⟨rfl,rfl⟩) (by kernel_rfl);have hoc5:=Zi0 (g:=(Y6 A 15 c).ownBlock) (λ b k hk=>⟨hH5 b k hk,λ e=>by
  have hlt:=(h1.own.lt b e.symm).2;rw[hO5 b hlt] at hk
  cases hk⟩) hl5 (λ x hx=>Zdk Zwu x hx)
 obtain⟨A5,c5,rfl⟩:=Za ho5;exact⟨A5,c5,xs5,rfl,h1.below hb5,⟨Zat ho5,hoc5,Zdj ho5⟩,hb5⟩
structure KMn (B p0 p1:Nat)(W:World):Prop where
 lt:p1<B
 c0:W.cell? ⟨p1,0,none⟩=some (.string kMain)
 c1:W.cell? ⟨p1,1,none⟩=some (.slice (some ⟨p0,0,none⟩) 2 2)
 oc:OC W B [oMainV] [.string kMain,.slice (some ⟨p0,0,none⟩) 2 2]
theorem KMn.below {B p0 p1:Nat}{W W':World}(h:KMn B p0 p1 W)(hb:Below B W W'):KMn B p0 p1 W':=⟨h.lt,(hb.cell (p:=⟨p1,0,none⟩) h.lt).trans h.c0,(hb.cell (p:=⟨p1,1,none⟩) h.lt).trans h.c1,h.oc.below hb⟩
structure KLt (W:World)(pm p0:Nat):Prop where
 blk:W.heap[pm]?=some (.cells #[.string kMain,.slice (some ⟨p0,0,none⟩) 2 2] 105 (0,0))
theorem KLt.lt {W:World}{pm p0:Nat}(h:KLt W pm p0):pm<W.heap.size:=(Array.getElem?_eq_some_iff.1 h.blk).1
theorem KLt.below {W W':World}{pm p0:Nat}(h:KLt W pm p0)(hb:Below W.heap.size W W'):KLt W' pm p0:=⟨(hb.block pm h.lt).trans h.blk⟩
theorem KLt.grown {W W':World}{pm p0:Nat}{g:Option Nat}(h:KLt W pm p0)(hb:W.grownBy W' g)(hne:∀k,g=some k->k≠pm):KLt W' pm p0:=⟨(hb.block pm h.lt (λ e=>hne pm e.symm rfl)).trans h.blk⟩
theorem KLt.rd {W:World}{pm p0:Nat}(h:KLt W pm p0):Reads W W.heap.size (some ⟨pm,0,none⟩) [.string kMain,.slice (some ⟨p0,0,none⟩) 2 2]:=λ _=>⟨pm,0,rfl,h.lt,λ i x hx=>by
 rw[Yb h.blk,Nat.zero_add]
 match i,hx with
 | 0,hx=>cases hx;rfl
 | 1,hx=>cases hx;rfl
 | i+2,hx=>simp at hx⟩
theorem Zd8 {B:Nat}{W W':World}{A A2 A3:Option Addr}{c c2 c3:Nat}{xs xs2:List Value}(h1:KS1 B W A c xs)(h2:KS2 W (Y6 A 15 c).ownBlock A2 c2 xs2)(ho:W'.ownsRow B 105 2 (.slice A3 (15+39) c3) (15+39) (xs++xs2))(hg:W.grownBy W' (Y6 A 15 c).ownBlock)(hat:(Y6 A3 (15+39) c3).ownBlock=(Y6 A 15 c).ownBlock\/(Y6 A3 (15+39) c3).ownBlock=some W.heap.size):KS3 B W' A3 c3 (xs++xs2) :=
 ⟨ho,(h1.oc.app h2.oc).grow hg (hat.imp (λ h=>h) λ h=>⟨_,h,Yd _⟩)⟩
theorem Zd9 {B p0 p1:Nat}{W W':World}{A3 A4:Option Addr}{c3 c4:Nat}{xs:List Value}(h3:KS3 B W A3 c3 xs)(hm:KMn B p0 p1 W)(hB:B<=W.heap.size)(hg:W.grownBy W' (Y6 A3 54 c3).ownBlock)(hat:(Y6 A4 (54+1) c4).ownBlock=(Y6 A3 54 c3).ownBlock\/(Y6 A4 (54+1) c4).ownBlock=some W.heap.size):OC W' W'.heap.size (objs26++objs28++[oMainV]) (xs++[.string kMain,.slice (some ⟨p0,0,none⟩) 2 2]) :=
 ((h3.oc.app (hm.oc.g hB λ k hk=>(h3.own.lt k hk).1)).grow hg (hat.imp (λ h=>h) λ h=>⟨_,h,Yd _⟩)).oc
theorem Zb0:objs28.length=39:=by kernel_rfl
theorem Zma (heap:Int)(hheap:1<=heap/\heap<=1000000)(inp:List Int)(hib:∀x∈inp,0<=x/\x<=255)(hil:inp.length<=1000)(Ai:Option Addr)(ci ni:Nat)(hni:ni=inp.length)(w:World)(hL:LVE w)(hi:Reads w w.heap.size Ai (inp.map (Value.int .u8)))(hA0:Ai=none->ni=0) :
 Calls prog 35 #[.int .i64 heap,.slice Ai ni ci] w (Ztw w heap inp):=by
 have HL:=Ya hL;have HI:=Ya hi;have HNW:=Ya (λ(base:Nat) (oc:List Value) (Ao:Option Addr) (co:Nat) (W:World) (hb:Below w.heap.size w W) ho hoc=>Zy9 heap hheap inp hib hil Ao Ai co ci ni hni base oc W ho hoc ((hi.below hb).moreM hb.size) hA0);clear hL hi hni hib hil hA0 hheap;go_enter func35,ntmps35
 go_upto_region 2 with fail
 obtain⟨wb,hwb⟩:=Yx ((w.alloc (.cells #[.int .i64 2,.int .i64 0,.int .i64 0,.int .i64 0,.int .i64 0,.int .i64 0,.string ⟨#[102,48]⟩,.int .u32 0,.int .i64 1,.int .i64 36,.int .i64 0,.int .i64 0,.int .i64 0,.int .i64 0,.string ⟨#[]⟩,.int .u32 0] 135)).alloc (.cells #[.string ⟨#[109,97,105,110]⟩,.slice (some ⟨w.heap.size,0,none⟩) 2 2] 105));rw[<- hwb];have hown:wb.ownsRow w.heap.size 135 8 (.slice (some ⟨w.heap.size,0,none⟩) 2 2) 2 (oMainV.items.flatMap Zb):=by
  have h:=Zjy (w:=w) (base:=w.heap.size) (e:=135) (size:=8) (n:=2) (cs:=(oMainV.items.flatMap Zb).toArray) (xs:=oMainV.items.flatMap Zb) (Yd _) rfl rfl (by simp[maxLen]);rw[hwb];exact Zc h ((Yj _ _).alloc (Yd _) _)
 have hbw:Below w.heap.size w wb:=by
  rw[hwb];exact((Yj _ _).alloc (Yd _) _).alloc (by simp) _
 have hsz:wb.heap.size=w.heap.size+2:=by rw[hwb];simp
 have hx:wb.heap[w.heap.size+1]?=some (.cells #[.string kMain,.slice (some ⟨w.heap.size,0,none⟩) 2 2] 105 (0,0)):=by
  have h:=heap_alloc_new (w.alloc (.cells #[.int .i64 2,.int .i64 0,.int .i64 0,.int .i64 0,.int .i64 0,.int .i64 0,.string ⟨#[102,48]⟩,.int .u32 0,.int .i64 1,.int .i64 36,.int .i64 0,.int .i64 0,.int .i64 0,.int .i64 0,.string ⟨#[]⟩,.int .u32 0] 135)) (.cells #[.string ⟨#[109,97,105,110]⟩,.slice (some ⟨w.heap.size,0,none⟩) 2 2] 105);rw[<- hwb] at h;simp only[World.size_alloc] at h;exact h
 have HMn:=Ya (show KMn wb.heap.size w.heap.size (w.heap.size+1) wb from⟨by omega,by rw[Yb hx];rfl,by rw[Yb hx];rfl,OC.one_ (x:=oMainV) (Zj0 hown rfl (λ x hx=>((Zdk Znr) oMainV Y4).1 x hx)) ((Zdk Znr) oMainV Y4).2.1 ((Zdk Znr) oMainV Y4).2.2⟩);have HBW:=Ya hbw;clear hown hx hwb hbw;obtain⟨wq,hwq⟩:=Yx wb.drew;refine wp_region_any (by kernel_rfl) ?_;change wpAny _ _ _ _ _ _ _ (World.drew _);rw[<- hwq];have HB:=Ya (show Below wb.heap.size wb wq by rw[hwq];exact(Yj _ _).drew);clear hwq;refine wpAny_take (i:=6) (v:=?v6_1) rfl (by kernel_rfl) (by kernel_rfl) (by kernel_rfl) (λ _ _ _ h=>h) (Or.inl ⟨by rfl,?y6_1⟩) ?z6_1
 case y6_1=>(intro w;first | (go_simp;done) | (go_simp;with_reducible rfl))
 refine wpAny_take (i:=7) (v:=?v7_2) rfl (by kernel_rfl) (by kernel_rfl) (by kernel_rfl) (λ _ _ _ h=>h) (Or.inl ⟨by rfl,?y7_2⟩) ?z7_2
 case y7_2=>(intro w;first | (go_simp;done) | (go_simp;with_reducible rfl))
 refine wpAny_ready (rs:=[0,3]) (by kernel_rfl) (by simp) ?_;refine Yf rfl (λ K hK=>?_) (Yf rfl (λ K hK=>?_) Yi)
 .skip
  go_simp
  refine(Ztx wb.heap.size wq (HL.out.on (HBW.out.trans (HB.out.mono HBW.out.size))) HB.out.size).mono ?_;rintro e w1 ⟨A1,c1,xs1,rfl,k1,hb,hk1⟩;have HBn:=Ya (HB.out.trans (hb.mono HB.out.size));have K1:=Ya k1;clear k1 hb hk1 HB;have HB:=HBn;clear HBn;go_simp
  refine hK _ _ ?_;clear hK K;refine wpAny_ready (rs:=[1,3]) (by kernel_rfl) (by simp) ?_;refine Yf rfl (λ K hK=>?_) (Yf rfl (λ K hK=>?_) Yi)
  .skip
   go_simp
   refine(Zjg wb.heap.size w1 (HL.out.on (HBW.out.trans (HB.out.mono HBW.out.size))) K1.out).mono ?_;rintro e w2 ⟨A2,c2,xs2,rfl,k1,k2,hb⟩;have HBn:=Ya (HB.out.trans (hb.mono HB.out.size));clear K1;have K1:=Ya k1;have K2:=Ya k2;clear k1 k2 hb HB;have HB:=HBn;clear HBn;go_simp
   refine hK _ _ ?_;clear hK K;refine wpAny_ready (rs:=[2,3]) (by kernel_rfl) (by simp) ?_;refine Yf rfl (λ K hK=>?_) (Yf rfl (λ K hK=>?_) Yi)
   .skip
    rw[if_pos (by kernel_rfl)];refine Zi (.tmp 11) (.tmp 12) _ rfl wb.heap.size 105 Ze underlying102 rfl (by decide) (.slice A1 15 c1) 15 xs1 (by kernel_rfl) K1.out.own w2.heap.size A2 39 c2 xs2 (by kernel_rfl) (Zd7 K2.out.oc Zb0) K2.out.nil K2.out.rd K2.out.oc.one (by simp only[maxLen];omega) (by omega) HB.out.size ?_;intro v3 w3 ho3 hg3 hb3 hat3;obtain⟨A3,c3,rfl⟩:=Za ho3;have K3:=Ya (Zd8 K1.out K2.out ho3 hg3 hat3);have HBn:=Ya (HB.out.trans hb3);clear ho3 hg3 hb3 hat3 HB K1 K2;have HB:=HBn;clear HBn;refine hK _ _ ?_;clear hK K;refine wpAny_ready (rs:=[3]) (by kernel_rfl) (by simp) ?_;refine Yf rfl (λ K hK=>?_) Yi;have m0:=(HMn.out.below HB.out).c0;have m1:=(HMn.out.below HB.out).c1;go_simp
    refine hK _ _ ?_;clear hK K;refine wpAny_ready (rs:=[4]) (by kernel_rfl) (by simp) ?_;refine Yf rfl (λ K hK=>?_) Yi;go_simp
    obtain⟨w5,hw5⟩:=Yx (w3.alloc (.cells #[.string kMain,.slice (some ⟨w.heap.size,0,none⟩) 2 2] 105));obtain⟨pm,hpm⟩:=Yx w3.heap.size;have hbn:Below w3.heap.size w3 w5:=by rw[hw5];exact(Yj _ _).alloc (Yd _) _
    have KT:=Ya (show KLt w5 pm w.heap.size from⟨by rw[hw5,hpm];exact heap_alloc_new _ _⟩);have HBn:=Ya (HB.out.trans (hbn.mono HB.out.size));have NE:=Ya (show ∀k,(Y6 A3 54 c3).ownBlock=some k->k≠pm from λ k hk=>by have:=(K3.out.own.lt k hk).2;omega);have K3n:=Ya (K3.out.below hbn);clear K3;have K3:=K3n;clear K3n;change K _ (w3.alloc (.cells #[.string kMain,.slice (some ⟨w.heap.size,0,none⟩) 2 2] 105));rw[<- hw5,<- hpm];clear hw5 hpm hbn HB;have HB:=HBn;clear HBn;refine hK _ _ ?_;clear hK K;refine wpAny_ready (rs:=[5]) (by kernel_rfl) (by simp) ?_;refine Yf rfl (λ K hK=>?_) Yi;rw[if_pos (by kernel_rfl)];refine Zi (.tmp 13) (.tmp 15) _ rfl wb.heap.size 105 Ze underlying102 rfl (by decide) (.slice A3 54 c3) 54 (xs1++xs2) (by kernel_rfl) K3.out.own w5.heap.size (some ⟨pm,0,none⟩) 1 1 [.string kMain,.slice (some ⟨w.heap.size,0,none⟩) 2 2] (by kernel_rfl) rfl (λ h=>by cases h) KT.out.rd (by simp[Yt]) (by simp only[maxLen];omega) (by omega) HB.out.size ?_;intro v4 w6 ho4 hg4 hb4 hat4;obtain⟨A4,c4,rfl⟩:=Za ho4;have hoc4:=Zd9 K3.out (HMn.out.below HB.out) HB.out.size hg4 hat4;have HBf:=Ya (HBW.out.trans ((HB.out.trans hb4).mono HBW.out.size));have HN:=Ya (HNW.out _ _ A4 c4 w6 HBf.out ho4 hoc4);clear ho4 hg4 hb4 hat4 hoc4;refine hK _ _ ?_;clear hK K;refine wpAny_ready (rs:=[8]) (by kernel_rfl) (by simp) ?_;refine Yf rfl (λ K hK=>?_) Yi;go_simp
    refine HN.out.mono ?_;rintro e w7 ⟨Fs,b,p,FF,hwr,rfl,hk,hb6⟩;have HWr:=Ya hwr;have HK:=Ya (hk.lo HBf.out.size);have HBx:=Ya (HBf.out.trans (hb6.mono HBf.out.size));clear hwr hk hb6;go_simp
    refine hK _ _ ?_;clear hK K;refine wpAny_take (i:=9) (v:=?v9_3) rfl (by kernel_rfl) (by kernel_rfl) (by kernel_rfl) (λ _ _ _ h=>h) (Or.inl ⟨by rfl,?y9_3⟩) ?z9_3
    case y9_3=>(intro w;first | (go_simp;done) | (go_simp;with_reducible rfl))
    refine wpAny_done (by kernel_rfl) ?_ _;go_wp2_with fail
    go_ret
    exact⟨Fs,b,p,FF,HWr.out,rfl,HK.out,HBx.out⟩
   .skip
    have m0:=(HMn.out.below HB.out).c0;have m1:=(HMn.out.below HB.out).c1;go_simp
    refine hK _ _ ?_;clear hK K;refine wpAny_ready (rs:=[2,4]) (by kernel_rfl) (by simp) ?_;refine Yf rfl (λ K hK=>?_) (Yf rfl (λ K hK=>?_) Yi)
    .skip
     rw[if_pos (by kernel_rfl)];refine Zi (.tmp 11) (.tmp 12) _ rfl wb.heap.size 105 Ze underlying102 rfl (by decide) (.slice A1 15 c1) 15 xs1 (by kernel_rfl) K1.out.own w2.heap.size A2 39 c2 xs2 (by kernel_rfl) (Zd7 K2.out.oc Zb0) K2.out.nil K2.out.rd K2.out.oc.one (by simp only[maxLen];omega) (by omega) HB.out.size ?_;intro v3 w9 ho3 hg3 hb3 hat3;obtain⟨A3,c3,rfl⟩:=Za ho3;have K3:=Ya (Zd8 K1.out K2.out ho3 hg3 hat3);have HBn:=Ya (HB.out.trans hb3);clear ho3 hg3 hb3 hat3 HB K1 K2;have HB:=HBn;clear HBn;refine hK _ _ ?_;clear hK K;refine wpAny_ready (rs:=[4]) (by kernel_rfl) (by simp) ?_;refine Yf rfl (λ K hK=>?_) Yi;go_simp
     obtain⟨w10,hw10⟩:=Yx (w9.alloc (.cells #[.string kMain,.slice (some ⟨w.heap.size,0,none⟩) 2 2] 105));obtain⟨pm,hpm⟩:=Yx w9.heap.size;have hbn:Below w9.heap.size w9 w10:=by rw[hw10];exact(Yj _ _).alloc (Yd _) _
     have KT:=Ya (show KLt w10 pm w.heap.size from⟨by rw[hw10,hpm];exact heap_alloc_new _ _⟩);have HBn:=Ya (HB.out.trans (hbn.mono HB.out.size));have NE:=Ya (show ∀k,(Y6 A3 54 c3).ownBlock=some k->k≠pm from λ k hk=>by have:=(K3.out.own.lt k hk).2;omega);have K3n:=Ya (K3.out.below hbn);clear K3;have K3:=K3n;clear K3n;change K _ (w9.alloc (.cells #[.string kMain,.slice (some ⟨w.heap.size,0,none⟩) 2 2] 105));rw[<- hw10,<- hpm];clear hw10 hpm hbn HB;have HB:=HBn;clear HBn;refine hK _ _ ?_;clear hK K;refine wpAny_ready (rs:=[5]) (by kernel_rfl) (by simp) ?_;refine Yf rfl (λ K hK=>?_) Yi;rw[if_pos (by kernel_rfl)];refine Zi (.tmp 13) (.tmp 15) _ rfl wb.heap.size 105 Ze underlying102 rfl (by decide) (.slice A3 54 c3) 54 (xs1++xs2) (by kernel_rfl) K3.out.own w10.heap.size (some ⟨pm,0,none⟩) 1 1 [.string kMain,.slice (some ⟨w.heap.size,0,none⟩) 2 2] (by kernel_rfl) rfl (λ h=>by cases h) KT.out.rd (by simp[Yt]) (by simp only[maxLen];omega) (by omega) HB.out.size ?_;intro v4 w11 ho4 hg4 hb4 hat4;obtain⟨A4,c4,rfl⟩:=Za ho4;have hoc4:=Zd9 K3.out (HMn.out.below HB.out) HB.out.size hg4 hat4;have HBf:=Ya (HBW.out.trans ((HB.out.trans hb4).mono HBW.out.size));have HN:=Ya (HNW.out _ _ A4 c4 w11 HBf.out ho4 hoc4);clear ho4 hg4 hb4 hat4 hoc4;refine hK _ _ ?_;clear hK K;refine wpAny_ready (rs:=[8]) (by kernel_rfl) (by simp) ?_;refine Yf rfl (λ K hK=>?_) Yi;go_simp
     refine HN.out.mono ?_;rintro e w12 ⟨Fs,b,p,FF,hwr,rfl,hk,hb6⟩;have HWr:=Ya hwr;have HK:=Ya (hk.lo HBf.out.size);have HBx:=Ya (HBf.out.trans (hb6.mono HBf.out.size));clear hwr hk hb6;go_simp
     refine hK _ _ ?_;clear hK K;refine wpAny_take (i:=9) (v:=?v9_4) rfl (by kernel_rfl) (by kernel_rfl) (by kernel_rfl) (λ _ _ _ h=>h) (Or.inl ⟨by rfl,?y9_4⟩) ?z9_4
     case y9_4=>(intro w;first | (go_simp;done) | (go_simp;with_reducible rfl))
     refine wpAny_done (by kernel_rfl) ?_ _;go_wp2_with fail
     go_ret
     exact⟨Fs,b,p,FF,HWr.out,rfl,HK.out,HBx.out⟩
    .skip
     go_simp
     obtain⟨w13,hw13⟩:=Yx (w2.alloc (.cells #[.string kMain,.slice (some ⟨w.heap.size,0,none⟩) 2 2] 105));obtain⟨pm,hpm⟩:=Yx w2.heap.size;have hbn:Below w2.heap.size w2 w13:=by rw[hw13];exact(Yj _ _).alloc (Yd _) _
     have KT:=Ya (show KLt w13 pm w.heap.size from⟨by rw[hw13,hpm];exact heap_alloc_new _ _⟩);have HBn:=Ya (HB.out.trans (hbn.mono HB.out.size));have NE:=Ya (show ∀k,(Y6 A1 15 c1).ownBlock=some k->k≠pm from λ k hk=>by have:=(K1.out.own.lt k hk).2;omega);have K1n:=Ya (K1.out.below hbn);clear K1;have K1:=K1n;clear K1n;have K2n:=Ya (K2.out.below hbn);clear K2;have K2:=K2n;clear K2n;change K _ (w2.alloc (.cells #[.string kMain,.slice (some ⟨w.heap.size,0,none⟩) 2 2] 105));rw[<- hw13,<- hpm];clear hw13 hpm hbn HB;have HB:=HBn;clear HBn;refine hK _ _ ?_;clear hK K;refine wpAny_ready (rs:=[2]) (by kernel_rfl) (by simp) ?_;refine Yf rfl (λ K hK=>?_) Yi;rw[if_pos (by kernel_rfl)];refine Zi (.tmp 11) (.tmp 12) _ rfl wb.heap.size 105 Ze underlying102 rfl (by decide) (.slice A1 15 c1) 15 xs1 (by kernel_rfl) K1.out.own w13.heap.size A2 39 c2 xs2 (by kernel_rfl) (Zd7 K2.out.oc Zb0) K2.out.nil K2.out.rd K2.out.oc.one (by simp only[maxLen];omega) (by omega) HB.out.size ?_;intro v3 w14 ho3 hg3 hb3 hat3;obtain⟨A3,c3,rfl⟩:=Za ho3;have K3:=Ya (Zd8 K1.out K2.out ho3 hg3 hat3);have HBn:=Ya (HB.out.trans hb3);have NEn:=Ya (show ∀k,(Y6 A3 54 c3).ownBlock=some k->k≠pm from λ k hk=>by
      rcases hat3 with e|e
      .exact NE.out k (e.symm.trans hk)
      .have e2:some k=some w13.heap.size:=hk.symm.trans e
       have e3:k=w13.heap.size:=Option.some.inj e2;have:=KT.out.lt;omega)
     have KTn:=Ya (KT.out.grown hg3 NE.out);clear NE KT;have NE:=NEn;have KT:=KTn;clear NEn KTn;clear ho3 hg3 hb3 hat3 HB K1 K2;have HB:=HBn;clear HBn;refine hK _ _ ?_;clear hK K;refine wpAny_ready (rs:=[5]) (by kernel_rfl) (by simp) ?_;refine Yf rfl (λ K hK=>?_) Yi;rw[if_pos (by kernel_rfl)];refine Zi (.tmp 13) (.tmp 15) _ rfl wb.heap.size 105 Ze underlying102 rfl (by decide) (.slice A3 54 c3) 54 (xs1++xs2) (by kernel_rfl) K3.out.own w14.heap.size (some ⟨pm,0,none⟩) 1 1 [.string kMain,.slice (some ⟨w.heap.size,0,none⟩) 2 2] (by kernel_rfl) rfl (λ h=>by cases h) KT.out.rd (by simp[Yt]) (by simp only[maxLen];omega) (by omega) HB.out.size ?_;intro v4 w15 ho4 hg4 hb4 hat4;obtain⟨A4,c4,rfl⟩:=Za ho4;have hoc4:=Zd9 K3.out (HMn.out.below HB.out) HB.out.size hg4 hat4;have HBf:=Ya (HBW.out.trans ((HB.out.trans hb4).mono HBW.out.size));have HN:=Ya (HNW.out _ _ A4 c4 w15 HBf.out ho4 hoc4);clear ho4 hg4 hb4 hat4 hoc4;refine hK _ _ ?_;clear hK K;refine wpAny_ready (rs:=[8]) (by kernel_rfl) (by simp) ?_;refine Yf rfl (λ K hK=>?_) Yi;go_simp
     refine HN.out.mono ?_;rintro e w16 ⟨Fs,b,p,FF,hwr,rfl,hk,hb6⟩;have HWr:=Ya hwr;have HK:=Ya (hk.lo HBf.out.size);have HBx:=Ya (HBf.out.trans (hb6.mono HBf.out.size));clear hwr hk hb6;go_simp
     refine hK _ _ ?_;clear hK K;refine wpAny_take (i:=9) (v:=?v9_5) rfl (by kernel_rfl) (by kernel_rfl) (by kernel_rfl) (λ _ _ _ h=>h) (Or.inl ⟨by rfl,?y9_5⟩) ?z9_5
     case y9_5=>(intro w;first | (go_simp;done) | (go_simp;with_reducible rfl))
     refine wpAny_done (by kernel_rfl) ?_ _;go_wp2_with fail
     go_ret
     exact⟨Fs,b,p,FF,HWr.out,rfl,HK.out,HBx.out⟩
  .skip
   have m0:=(HMn.out.below HB.out).c0;have m1:=(HMn.out.below HB.out).c1;go_simp
   refine hK _ _ ?_;clear hK K;refine wpAny_ready (rs:=[1,4]) (by kernel_rfl) (by simp) ?_;refine Yf rfl (λ K hK=>?_) (Yf rfl (λ K hK=>?_) Yi)
   .skip
    go_simp
    refine(Zjg wb.heap.size w1 (HL.out.on (HBW.out.trans (HB.out.mono HBW.out.size))) K1.out).mono ?_;rintro e w18 ⟨A2,c2,xs2,rfl,k1,k2,hb⟩;have HBn:=Ya (HB.out.trans (hb.mono HB.out.size));clear K1;have K1:=Ya k1;have K2:=Ya k2;clear k1 k2 hb HB;have HB:=HBn;clear HBn;go_simp
    refine hK _ _ ?_;clear hK K;refine wpAny_ready (rs:=[2,4]) (by kernel_rfl) (by simp) ?_;refine Yf rfl (λ K hK=>?_) (Yf rfl (λ K hK=>?_) Yi)
    .skip
     rw[if_pos (by kernel_rfl)];refine Zi (.tmp 11) (.tmp 12) _ rfl wb.heap.size 105 Ze underlying102 rfl (by decide) (.slice A1 15 c1) 15 xs1 (by kernel_rfl) K1.out.own w18.heap.size A2 39 c2 xs2 (by kernel_rfl) (Zd7 K2.out.oc Zb0) K2.out.nil K2.out.rd K2.out.oc.one (by simp only[maxLen];omega) (by omega) HB.out.size ?_;intro v3 w19 ho3 hg3 hb3 hat3;obtain⟨A3,c3,rfl⟩:=Za ho3;have K3:=Ya (Zd8 K1.out K2.out ho3 hg3 hat3);have HBn:=Ya (HB.out.trans hb3);clear ho3 hg3 hb3 hat3 HB K1 K2;have HB:=HBn;clear HBn;refine hK _ _ ?_;clear hK K;refine wpAny_ready (rs:=[4]) (by kernel_rfl) (by simp) ?_;refine Yf rfl (λ K hK=>?_) Yi;go_simp
     obtain⟨w20,hw20⟩:=Yx (w19.alloc (.cells #[.string kMain,.slice (some ⟨w.heap.size,0,none⟩) 2 2] 105));obtain⟨pm,hpm⟩:=Yx w19.heap.size;have hbn:Below w19.heap.size w19 w20:=by rw[hw20];exact(Yj _ _).alloc (Yd _) _
     have KT:=Ya (show KLt w20 pm w.heap.size from⟨by rw[hw20,hpm];exact heap_alloc_new _ _⟩);have HBn:=Ya (HB.out.trans (hbn.mono HB.out.size));have NE:=Ya (show ∀k,(Y6 A3 54 c3).ownBlock=some k->k≠pm from λ k hk=>by have:=(K3.out.own.lt k hk).2;omega);have K3n:=Ya (K3.out.below hbn);clear K3;have K3:=K3n;clear K3n;change K _ (w19.alloc (.cells #[.string kMain,.slice (some ⟨w.heap.size,0,none⟩) 2 2] 105));rw[<- hw20,<- hpm];clear hw20 hpm hbn HB;have HB:=HBn;clear HBn;refine hK _ _ ?_;clear hK K;refine wpAny_ready (rs:=[5]) (by kernel_rfl) (by simp) ?_;refine Yf rfl (λ K hK=>?_) Yi;rw[if_pos (by kernel_rfl)];refine Zi (.tmp 13) (.tmp 15) _ rfl wb.heap.size 105 Ze underlying102 rfl (by decide) (.slice A3 54 c3) 54 (xs1++xs2) (by kernel_rfl) K3.out.own w20.heap.size (some ⟨pm,0,none⟩) 1 1 [.string kMain,.slice (some ⟨w.heap.size,0,none⟩) 2 2] (by kernel_rfl) rfl (λ h=>by cases h) KT.out.rd (by simp[Yt]) (by simp only[maxLen];omega) (by omega) HB.out.size ?_;intro v4 w21 ho4 hg4 hb4 hat4;obtain⟨A4,c4,rfl⟩:=Za ho4;have hoc4:=Zd9 K3.out (HMn.out.below HB.out) HB.out.size hg4 hat4;have HBf:=Ya (HBW.out.trans ((HB.out.trans hb4).mono HBW.out.size));have HN:=Ya (HNW.out _ _ A4 c4 w21 HBf.out ho4 hoc4);clear ho4 hg4 hb4 hat4 hoc4;refine hK _ _ ?_;clear hK K;refine wpAny_ready (rs:=[8]) (by kernel_rfl) (by simp) ?_;refine Yf rfl (λ K hK=>?_) Yi;go_simp
     refine HN.out.mono ?_;rintro e w22 ⟨Fs,b,p,FF,hwr,rfl,hk,hb6⟩;have HWr:=Ya hwr;have HK:=Ya (hk.lo HBf.out.size);have HBx:=Ya (HBf.out.trans (hb6.mono HBf.out.size));clear hwr hk hb6;go_simp
     refine hK _ _ ?_;clear hK K;refine wpAny_take (i:=9) (v:=?v9_6) rfl (by kernel_rfl) (by kernel_rfl) (by kernel_rfl) (λ _ _ _ h=>h) (Or.inl ⟨by rfl,?y9_6⟩) ?z9_6
     case y9_6=>(intro w;first | (go_simp;done) | (go_simp;with_reducible rfl))
     refine wpAny_done (by kernel_rfl) ?_ _;go_wp2_with fail
     go_ret
     exact⟨Fs,b,p,FF,HWr.out,rfl,HK.out,HBx.out⟩
    .skip
     go_simp
     obtain⟨w23,hw23⟩:=Yx (w18.alloc (.cells #[.string kMain,.slice (some ⟨w.heap.size,0,none⟩) 2 2] 105));obtain⟨pm,hpm⟩:=Yx w18.heap.size;have hbn:Below w18.heap.size w18 w23:=by rw[hw23];exact(Yj _ _).alloc (Yd _) _
     have KT:=Ya (show KLt w23 pm w.heap.size from⟨by rw[hw23,hpm];exact heap_alloc_new _ _⟩);have HBn:=Ya (HB.out.trans (hbn.mono HB.out.size));have NE:=Ya (show ∀k,(Y6 A1 15 c1).ownBlock=some k->k≠pm from λ k hk=>by have:=(K1.out.own.lt k hk).2;omega);have K1n:=Ya (K1.out.below hbn);clear K1;have K1:=K1n;clear K1n;have K2n:=Ya (K2.out.below hbn);clear K2;have K2:=K2n;clear K2n;change K _ (w18.alloc (.cells #[.string kMain,.slice (some ⟨w.heap.size,0,none⟩) 2 2] 105));rw[<- hw23,<- hpm];clear hw23 hpm hbn HB;have HB:=HBn;clear HBn;refine hK _ _ ?_;clear hK K;refine wpAny_ready (rs:=[2]) (by kernel_rfl) (by simp) ?_;refine Yf rfl (λ K hK=>?_) Yi;rw[if_pos (by kernel_rfl)];refine Zi (.tmp 11) (.tmp 12) _ rfl wb.heap.size 105 Ze underlying102 rfl (by decide) (.slice A1 15 c1) 15 xs1 (by kernel_rfl) K1.out.own w23.heap.size A2 39 c2 xs2 (by kernel_rfl) (Zd7 K2.out.oc Zb0) K2.out.nil K2.out.rd K2.out.oc.one (by simp only[maxLen];omega) (by omega) HB.out.size ?_;intro v3 w24 ho3 hg3 hb3 hat3;obtain⟨A3,c3,rfl⟩:=Za ho3;have K3:=Ya (Zd8 K1.out K2.out ho3 hg3 hat3);have HBn:=Ya (HB.out.trans hb3);have NEn:=Ya (show ∀k,(Y6 A3 54 c3).ownBlock=some k->k≠pm from λ k hk=>by
      rcases hat3 with e|e
      .exact NE.out k (e.symm.trans hk)
      .have e2:some k=some w23.heap.size:=hk.symm.trans e
       have e3:k=w23.heap.size:=Option.some.inj e2;have:=KT.out.lt;omega)
     have KTn:=Ya (KT.out.grown hg3 NE.out);clear NE KT;have NE:=NEn;have KT:=KTn;clear NEn KTn;clear ho3 hg3 hb3 hat3 HB K1 K2;have HB:=HBn;clear HBn;refine hK _ _ ?_;clear hK K;refine wpAny_ready (rs:=[5]) (by kernel_rfl) (by simp) ?_;refine Yf rfl (λ K hK=>?_) Yi;rw[if_pos (by kernel_rfl)];refine Zi (.tmp 13) (.tmp 15) _ rfl wb.heap.size 105 Ze underlying102 rfl (by decide) (.slice A3 54 c3) 54 (xs1++xs2) (by kernel_rfl) K3.out.own w24.heap.size (some ⟨pm,0,none⟩) 1 1 [.string kMain,.slice (some ⟨w.heap.size,0,none⟩) 2 2] (by kernel_rfl) rfl (λ h=>by cases h) KT.out.rd (by simp[Yt]) (by simp only[maxLen];omega) (by omega) HB.out.size ?_;intro v4 w25 ho4 hg4 hb4 hat4;obtain⟨A4,c4,rfl⟩:=Za ho4;have hoc4:=Zd9 K3.out (HMn.out.below HB.out) HB.out.size hg4 hat4;have HBf:=Ya (HBW.out.trans ((HB.out.trans hb4).mono HBW.out.size));have HN:=Ya (HNW.out _ _ A4 c4 w25 HBf.out ho4 hoc4);clear ho4 hg4 hb4 hat4 hoc4;refine hK _ _ ?_;clear hK K;refine wpAny_ready (rs:=[8]) (by kernel_rfl) (by simp) ?_;refine Yf rfl (λ K hK=>?_) Yi;go_simp
     refine HN.out.mono ?_;rintro e w26 ⟨Fs,b,p,FF,hwr,rfl,hk,hb6⟩;have HWr:=Ya hwr;have HK:=Ya (hk.lo HBf.out.size);have HBx:=Ya (HBf.out.trans (hb6.mono HBf.out.size));clear hwr hk hb6;go_simp
     refine hK _ _ ?_;clear hK K;refine wpAny_take (i:=9) (v:=?v9_7) rfl (by kernel_rfl) (by kernel_rfl) (by kernel_rfl) (λ _ _ _ h=>h) (Or.inl ⟨by rfl,?y9_7⟩) ?z9_7
     case y9_7=>(intro w;first | (go_simp;done) | (go_simp;with_reducible rfl))
     refine wpAny_done (by kernel_rfl) ?_ _;go_wp2_with fail
     go_ret
     exact⟨Fs,b,p,FF,HWr.out,rfl,HK.out,HBx.out⟩
   .skip
    go_simp
    obtain⟨w27,hw27⟩:=Yx (w1.alloc (.cells #[.string kMain,.slice (some ⟨w.heap.size,0,none⟩) 2 2] 105));obtain⟨pm,hpm⟩:=Yx w1.heap.size;have hbn:Below w1.heap.size w1 w27:=by rw[hw27];exact(Yj _ _).alloc (Yd _) _
    have KT:=Ya (show KLt w27 pm w.heap.size from⟨by rw[hw27,hpm];exact heap_alloc_new _ _⟩);have HBn:=Ya (HB.out.trans (hbn.mono HB.out.size));have NE:=Ya (show ∀k,(Y6 A1 15 c1).ownBlock=some k->k≠pm from λ k hk=>by have:=(K1.out.own.lt k hk).2;omega);have K1n:=Ya (K1.out.below hbn);clear K1;have K1:=K1n;clear K1n;change K _ (w1.alloc (.cells #[.string kMain,.slice (some ⟨w.heap.size,0,none⟩) 2 2] 105));rw[<- hw27,<- hpm];clear hw27 hpm hbn HB;have HB:=HBn;clear HBn;refine hK _ _ ?_;clear hK K;refine wpAny_ready (rs:=[1]) (by kernel_rfl) (by simp) ?_;refine Yf rfl (λ K hK=>?_) Yi;go_simp
    refine(Zjg wb.heap.size w27 (HL.out.on (HBW.out.trans (HB.out.mono HBW.out.size))) K1.out).mono ?_;rintro e w28 ⟨A2,c2,xs2,rfl,k1,k2,hb⟩;have HBn:=Ya (HB.out.trans (hb.mono HB.out.size));clear K1;have K1:=Ya k1;have K2:=Ya k2;have KTn:=Ya (KT.out.below hb);clear KT;have KT:=KTn;clear KTn;clear k1 k2 hb HB;have HB:=HBn;clear HBn;go_simp
    refine hK _ _ ?_;clear hK K;refine wpAny_ready (rs:=[2]) (by kernel_rfl) (by simp) ?_;refine Yf rfl (λ K hK=>?_) Yi;rw[if_pos (by kernel_rfl)];refine Zi (.tmp 11) (.tmp 12) _ rfl wb.heap.size 105 Ze underlying102 rfl (by decide) (.slice A1 15 c1) 15 xs1 (by kernel_rfl) K1.out.own w28.heap.size A2 39 c2 xs2 (by kernel_rfl) (Zd7 K2.out.oc Zb0) K2.out.nil K2.out.rd K2.out.oc.one (by simp only[maxLen];omega) (by omega) HB.out.size ?_;intro v3 w29 ho3 hg3 hb3 hat3;obtain⟨A3,c3,rfl⟩:=Za ho3;have K3:=Ya (Zd8 K1.out K2.out ho3 hg3 hat3);have HBn:=Ya (HB.out.trans hb3);have NEn:=Ya (show ∀k,(Y6 A3 54 c3).ownBlock=some k->k≠pm from λ k hk=>by
     rcases hat3 with e|e
     .exact NE.out k (e.symm.trans hk)
     .have e2:some k=some w28.heap.size:=hk.symm.trans e
      have e3:k=w28.heap.size:=Option.some.inj e2;have:=KT.out.lt;omega)
    have KTn:=Ya (KT.out.grown hg3 NE.out);clear NE KT;have NE:=NEn;have KT:=KTn;clear NEn KTn;clear ho3 hg3 hb3 hat3 HB K1 K2;have HB:=HBn;clear HBn;refine hK _ _ ?_;clear hK K;refine wpAny_ready (rs:=[5]) (by kernel_rfl) (by simp) ?_;refine Yf rfl (λ K hK=>?_) Yi;rw[if_pos (by kernel_rfl)];refine Zi (.tmp 13) (.tmp 15) _ rfl wb.heap.size 105 Ze underlying102 rfl (by decide) (.slice A3 54 c3) 54 (xs1++xs2) (by kernel_rfl) K3.out.own w29.heap.size (some ⟨pm,0,none⟩) 1 1 [.string kMain,.slice (some ⟨w.heap.size,0,none⟩) 2 2] (by kernel_rfl) rfl (λ h=>by cases h) KT.out.rd (by simp[Yt]) (by simp only[maxLen];omega) (by omega) HB.out.size ?_;intro v4 w30 ho4 hg4 hb4 hat4;obtain⟨A4,c4,rfl⟩:=Za ho4;have hoc4:=Zd9 K3.out (HMn.out.below HB.out) HB.out.size hg4 hat4;have HBf:=Ya (HBW.out.trans ((HB.out.trans hb4).mono HBW.out.size));have HN:=Ya (HNW.out _ _ A4 c4 w30 HBf.out ho4 hoc4);clear ho4 hg4 hb4 hat4 hoc4;refine hK _ _ ?_;clear hK K;refine wpAny_ready (rs:=[8]) (by kernel_rfl) (by simp) ?_;refine Yf rfl (λ K hK=>?_) Yi;go_simp
    refine HN.out.mono ?_;rintro e w31 ⟨Fs,b,p,FF,hwr,rfl,hk,hb6⟩;have HWr:=Ya hwr;have HK:=Ya (hk.lo HBf.out.size);have HBx:=Ya (HBf.out.trans (hb6.mono HBf.out.size));clear hwr hk hb6;go_simp
    refine hK _ _ ?_;clear hK K;refine wpAny_take (i:=9) (v:=?v9_8) rfl (by kernel_rfl) (by kernel_rfl) (by kernel_rfl) (λ _ _ _ h=>h) (Or.inl ⟨by rfl,?y9_8⟩) ?z9_8
    case y9_8=>(intro w;first | (go_simp;done) | (go_simp;with_reducible rfl))
    refine wpAny_done (by kernel_rfl) ?_ _;go_wp2_with fail
    go_ret
    exact⟨Fs,b,p,FF,HWr.out,rfl,HK.out,HBx.out⟩
 .skip
  have m0:=(HMn.out.below HB.out).c0;have m1:=(HMn.out.below HB.out).c1;go_simp
  refine hK _ _ ?_;clear hK K;refine wpAny_ready (rs:=[0,4]) (by kernel_rfl) (by simp) ?_;refine Yf rfl (λ K hK=>?_) (Yf rfl (λ K hK=>?_) Yi)
  .skip
   go_simp
   refine(Ztx wb.heap.size wq (HL.out.on (HBW.out.trans (HB.out.mono HBW.out.size))) HB.out.size).mono ?_;rintro e w33 ⟨A1,c1,xs1,rfl,k1,hb,hk1⟩;have HBn:=Ya (HB.out.trans (hb.mono HB.out.size));have K1:=Ya k1;clear k1 hb hk1 HB;have HB:=HBn;clear HBn;go_simp
   refine hK _ _ ?_;clear hK K;refine wpAny_ready (rs:=[1,4]) (by kernel_rfl) (by simp) ?_;refine Yf rfl (λ K hK=>?_) (Yf rfl (λ K hK=>?_) Yi)
   .skip
    go_simp
    refine(Zjg wb.heap.size w33 (HL.out.on (HBW.out.trans (HB.out.mono HBW.out.size))) K1.out).mono ?_;rintro e w34 ⟨A2,c2,xs2,rfl,k1,k2,hb⟩;have HBn:=Ya (HB.out.trans (hb.mono HB.out.size));clear K1;have K1:=Ya k1;have K2:=Ya k2;clear k1 k2 hb HB;have HB:=HBn;clear HBn;go_simp
    refine hK _ _ ?_;clear hK K;refine wpAny_ready (rs:=[2,4]) (by kernel_rfl) (by simp) ?_;refine Yf rfl (λ K hK=>?_) (Yf rfl (λ K hK=>?_) Yi)
    .skip
     rw[if_pos (by kernel_rfl)];refine Zi (.tmp 11) (.tmp 12) _ rfl wb.heap.size 105 Ze underlying102 rfl (by decide) (.slice A1 15 c1) 15 xs1 (by kernel_rfl) K1.out.own w34.heap.size A2 39 c2 xs2 (by kernel_rfl) (Zd7 K2.out.oc Zb0) K2.out.nil K2.out.rd K2.out.oc.one (by simp only[maxLen];omega) (by omega) HB.out.size ?_;intro v3 w35 ho3 hg3 hb3 hat3;obtain⟨A3,c3,rfl⟩:=Za ho3;have K3:=Ya (Zd8 K1.out K2.out ho3 hg3 hat3);have HBn:=Ya (HB.out.trans hb3);clear ho3 hg3 hb3 hat3 HB K1 K2;have HB:=HBn;clear HBn;refine hK _ _ ?_;clear hK K;refine wpAny_ready (rs:=[4]) (by kernel_rfl) (by simp) ?_;refine Yf rfl (λ K hK=>?_) Yi;go_simp
     obtain⟨w36,hw36⟩:=Yx (w35.alloc (.cells #[.string kMain,.slice (some ⟨w.heap.size,0,none⟩) 2 2] 105));obtain⟨pm,hpm⟩:=Yx w35.heap.size;have hbn:Below w35.heap.size w35 w36:=by rw[hw36];exact(Yj _ _).alloc (Yd _) _
     have KT:=Ya (show KLt w36 pm w.heap.size from⟨by rw[hw36,hpm];exact heap_alloc_new _ _⟩);have HBn:=Ya (HB.out.trans (hbn.mono HB.out.size));have NE:=Ya (show ∀k,(Y6 A3 54 c3).ownBlock=some k->k≠pm from λ k hk=>by have:=(K3.out.own.lt k hk).2;omega);have K3n:=Ya (K3.out.below hbn);clear K3;have K3:=K3n;clear K3n;change K _ (w35.alloc (.cells #[.string kMain,.slice (some ⟨w.heap.size,0,none⟩) 2 2] 105));rw[<- hw36,<- hpm];clear hw36 hpm hbn HB;have HB:=HBn;clear HBn;refine hK _ _ ?_;clear hK K;refine wpAny_ready (rs:=[5]) (by kernel_rfl) (by simp) ?_;refine Yf rfl (λ K hK=>?_) Yi;rw[if_pos (by kernel_rfl)];refine Zi (.tmp 13) (.tmp 15) _ rfl wb.heap.size 105 Ze underlying102 rfl (by decide) (.slice A3 54 c3) 54 (xs1++xs2) (by kernel_rfl) K3.out.own w36.heap.size (some ⟨pm,0,none⟩) 1 1 [.string kMain,.slice (some ⟨w.heap.size,0,none⟩) 2 2] (by kernel_rfl) rfl (λ h=>by cases h) KT.out.rd (by simp[Yt]) (by simp only[maxLen];omega) (by omega) HB.out.size ?_;intro v4 w37 ho4 hg4 hb4 hat4;obtain⟨A4,c4,rfl⟩:=Za ho4;have hoc4:=Zd9 K3.out (HMn.out.below HB.out) HB.out.size hg4 hat4;have HBf:=Ya (HBW.out.trans ((HB.out.trans hb4).mono HBW.out.size));have HN:=Ya (HNW.out _ _ A4 c4 w37 HBf.out ho4 hoc4);clear ho4 hg4 hb4 hat4 hoc4;refine hK _ _ ?_;clear hK K;refine wpAny_ready (rs:=[8]) (by kernel_rfl) (by simp) ?_;refine Yf rfl (λ K hK=>?_) Yi;go_simp
     refine HN.out.mono ?_;rintro e w38 ⟨Fs,b,p,FF,hwr,rfl,hk,hb6⟩;have HWr:=Ya hwr;have HK:=Ya (hk.lo HBf.out.size);have HBx:=Ya (HBf.out.trans (hb6.mono HBf.out.size));clear hwr hk hb6;go_simp
     refine hK _ _ ?_;clear hK K;refine wpAny_take (i:=9) (v:=?v9_9) rfl (by kernel_rfl) (by kernel_rfl) (by kernel_rfl) (λ _ _ _ h=>h) (Or.inl ⟨by rfl,?y9_9⟩) ?z9_9
     case y9_9=>(intro w;first | (go_simp;done) | (go_simp;with_reducible rfl))
     refine wpAny_done (by kernel_rfl) ?_ _;go_wp2_with fail
     go_ret
     exact⟨Fs,b,p,FF,HWr.out,rfl,HK.out,HBx.out⟩
    .skip
     go_simp
     obtain⟨w39,hw39⟩:=Yx (w34.alloc (.cells #[.string kMain,.slice (some ⟨w.heap.size,0,none⟩) 2 2] 105));obtain⟨pm,hpm⟩:=Yx w34.heap.size;have hbn:Below w34.heap.size w34 w39:=by rw[hw39];exact(Yj _ _).alloc (Yd _) _
     have KT:=Ya (show KLt w39 pm w.heap.size from⟨by rw[hw39,hpm];exact heap_alloc_new _ _⟩);have HBn:=Ya (HB.out.trans (hbn.mono HB.out.size));have NE:=Ya (show ∀k,(Y6 A1 15 c1).ownBlock=some k->k≠pm from λ k hk=>by have:=(K1.out.own.lt k hk).2;omega);have K1n:=Ya (K1.out.below hbn);clear K1;have K1:=K1n;clear K1n;have K2n:=Ya (K2.out.below hbn);clear K2;have K2:=K2n;clear K2n;change K _ (w34.alloc (.cells #[.string kMain,.slice (some ⟨w.heap.size,0,none⟩) 2 2] 105));rw[<- hw39,<- hpm];clear hw39 hpm hbn HB;have HB:=HBn;clear HBn;refine hK _ _ ?_;clear hK K;refine wpAny_ready (rs:=[2]) (by kernel_rfl) (by simp) ?_;refine Yf rfl (λ K hK=>?_) Yi;rw[if_pos (by kernel_rfl)];refine Zi (.tmp 11) (.tmp 12) _ rfl wb.heap.size 105 Ze underlying102 rfl (by decide) (.slice A1 15 c1) 15 xs1 (by kernel_rfl) K1.out.own w39.heap.size A2 39 c2 xs2 (by kernel_rfl) (Zd7 K2.out.oc Zb0) K2.out.nil K2.out.rd K2.out.oc.one (by simp only[maxLen];omega) (by omega) HB.out.size ?_;intro v3 w40 ho3 hg3 hb3 hat3;obtain⟨A3,c3,rfl⟩:=Za ho3;have K3:=Ya (Zd8 K1.out K2.out ho3 hg3 hat3);have HBn:=Ya (HB.out.trans hb3);have NEn:=Ya (show ∀k,(Y6 A3 54 c3).ownBlock=some k->k≠pm from λ k hk=>by
      rcases hat3 with e|e
      .exact NE.out k (e.symm.trans hk)
      .have e2:some k=some w39.heap.size:=hk.symm.trans e
       have e3:k=w39.heap.size:=Option.some.inj e2;have:=KT.out.lt;omega)
     have KTn:=Ya (KT.out.grown hg3 NE.out);clear NE KT;have NE:=NEn;have KT:=KTn;clear NEn KTn;clear ho3 hg3 hb3 hat3 HB K1 K2;have HB:=HBn;clear HBn;refine hK _ _ ?_;clear hK K;refine wpAny_ready (rs:=[5]) (by kernel_rfl) (by simp) ?_;refine Yf rfl (λ K hK=>?_) Yi;rw[if_pos (by kernel_rfl)];refine Zi (.tmp 13) (.tmp 15) _ rfl wb.heap.size 105 Ze underlying102 rfl (by decide) (.slice A3 54 c3) 54 (xs1++xs2) (by kernel_rfl) K3.out.own w40.heap.size (some ⟨pm,0,none⟩) 1 1 [.string kMain,.slice (some ⟨w.heap.size,0,none⟩) 2 2] (by kernel_rfl) rfl (λ h=>by cases h) KT.out.rd (by simp[Yt]) (by simp only[maxLen];omega) (by omega) HB.out.size ?_;intro v4 w41 ho4 hg4 hb4 hat4;obtain⟨A4,c4,rfl⟩:=Za ho4;have hoc4:=Zd9 K3.out (HMn.out.below HB.out) HB.out.size hg4 hat4;have HBf:=Ya (HBW.out.trans ((HB.out.trans hb4).mono HBW.out.size));have HN:=Ya (HNW.out _ _ A4 c4 w41 HBf.out ho4 hoc4);clear ho4 hg4 hb4 hat4 hoc4;refine hK _ _ ?_;clear hK K;refine wpAny_ready (rs:=[8]) (by kernel_rfl) (by simp) ?_;refine Yf rfl (λ K hK=>?_) Yi;go_simp
     refine HN.out.mono ?_;rintro e w42 ⟨Fs,b,p,FF,hwr,rfl,hk,hb6⟩;have HWr:=Ya hwr;have HK:=Ya (hk.lo HBf.out.size);have HBx:=Ya (HBf.out.trans (hb6.mono HBf.out.size));clear hwr hk hb6;go_simp
     refine hK _ _ ?_;clear hK K;refine wpAny_take (i:=9) (v:=?v9_10) rfl (by kernel_rfl) (by kernel_rfl) (by kernel_rfl) (λ _ _ _ h=>h) (Or.inl ⟨by rfl,?y9_10⟩) ?z9_10
     case y9_10=>(intro w;first | (go_simp;done) | (go_simp;with_reducible rfl))
     refine wpAny_done (by kernel_rfl) ?_ _;go_wp2_with fail
     go_ret
     exact⟨Fs,b,p,FF,HWr.out,rfl,HK.out,HBx.out⟩
   .skip
    go_simp
    obtain⟨w43,hw43⟩:=Yx (w33.alloc (.cells #[.string kMain,.slice (some ⟨w.heap.size,0,none⟩) 2 2] 105));obtain⟨pm,hpm⟩:=Yx w33.heap.size;have hbn:Below w33.heap.size w33 w43:=by rw[hw43];exact(Yj _ _).alloc (Yd _) _
    have KT:=Ya (show KLt w43 pm w.heap.size from⟨by rw[hw43,hpm];exact heap_alloc_new _ _⟩);have HBn:=Ya (HB.out.trans (hbn.mono HB.out.size));have NE:=Ya (show ∀k,(Y6 A1 15 c1).ownBlock=some k->k≠pm from λ k hk=>by have:=(K1.out.own.lt k hk).2;omega);have K1n:=Ya (K1.out.below hbn);clear K1;have K1:=K1n;clear K1n;change K _ (w33.alloc (.cells #[.string kMain,.slice (some ⟨w.heap.size,0,none⟩) 2 2] 105));rw[<- hw43,<- hpm];clear hw43 hpm hbn HB;have HB:=HBn;clear HBn;refine hK _ _ ?_;clear hK K;refine wpAny_ready (rs:=[1]) (by kernel_rfl) (by simp) ?_;refine Yf rfl (λ K hK=>?_) Yi;go_simp
    refine(Zjg wb.heap.size w43 (HL.out.on (HBW.out.trans (HB.out.mono HBW.out.size))) K1.out).mono ?_;rintro e w44 ⟨A2,c2,xs2,rfl,k1,k2,hb⟩;have HBn:=Ya (HB.out.trans (hb.mono HB.out.size));clear K1;have K1:=Ya k1;have K2:=Ya k2;have KTn:=Ya (KT.out.below hb);clear KT;have KT:=KTn;clear KTn;clear k1 k2 hb HB;have HB:=HBn;clear HBn;go_simp
    refine hK _ _ ?_;clear hK K;refine wpAny_ready (rs:=[2]) (by kernel_rfl) (by simp) ?_;refine Yf rfl (λ K hK=>?_) Yi;rw[if_pos (by kernel_rfl)];refine Zi (.tmp 11) (.tmp 12) _ rfl wb.heap.size 105 Ze underlying102 rfl (by decide) (.slice A1 15 c1) 15 xs1 (by kernel_rfl) K1.out.own w44.heap.size A2 39 c2 xs2 (by kernel_rfl) (Zd7 K2.out.oc Zb0) K2.out.nil K2.out.rd K2.out.oc.one (by simp only[maxLen];omega) (by omega) HB.out.size ?_;intro v3 w45 ho3 hg3 hb3 hat3;obtain⟨A3,c3,rfl⟩:=Za ho3;have K3:=Ya (Zd8 K1.out K2.out ho3 hg3 hat3);have HBn:=Ya (HB.out.trans hb3);have NEn:=Ya (show ∀k,(Y6 A3 54 c3).ownBlock=some k->k≠pm from λ k hk=>by
     rcases hat3 with e|e
     .exact NE.out k (e.symm.trans hk)
     .have e2:some k=some w44.heap.size:=hk.symm.trans e
      have e3:k=w44.heap.size:=Option.some.inj e2;have:=KT.out.lt;omega)
    have KTn:=Ya (KT.out.grown hg3 NE.out);clear NE KT;have NE:=NEn;have KT:=KTn;clear NEn KTn;clear ho3 hg3 hb3 hat3 HB K1 K2;have HB:=HBn;clear HBn;refine hK _ _ ?_;clear hK K;refine wpAny_ready (rs:=[5]) (by kernel_rfl) (by simp) ?_;refine Yf rfl (λ K hK=>?_) Yi;rw[if_pos (by kernel_rfl)];refine Zi (.tmp 13) (.tmp 15) _ rfl wb.heap.size 105 Ze underlying102 rfl (by decide) (.slice A3 54 c3) 54 (xs1++xs2) (by kernel_rfl) K3.out.own w45.heap.size (some ⟨pm,0,none⟩) 1 1 [.string kMain,.slice (some ⟨w.heap.size,0,none⟩) 2 2] (by kernel_rfl) rfl (λ h=>by cases h) KT.out.rd (by simp[Yt]) (by simp only[maxLen];omega) (by omega) HB.out.size ?_;intro v4 w46 ho4 hg4 hb4 hat4;obtain⟨A4,c4,rfl⟩:=Za ho4;have hoc4:=Zd9 K3.out (HMn.out.below HB.out) HB.out.size hg4 hat4;have HBf:=Ya (HBW.out.trans ((HB.out.trans hb4).mono HBW.out.size));have HN:=Ya (HNW.out _ _ A4 c4 w46 HBf.out ho4 hoc4);clear ho4 hg4 hb4 hat4 hoc4;refine hK _ _ ?_;clear hK K;refine wpAny_ready (rs:=[8]) (by kernel_rfl) (by simp) ?_;refine Yf rfl (λ K hK=>?_) Yi;go_simp
    refine HN.out.mono ?_;rintro e w47 ⟨Fs,b,p,FF,hwr,rfl,hk,hb6⟩;have HWr:=Ya hwr;have HK:=Ya (hk.lo HBf.out.size);have HBx:=Ya (HBf.out.trans (hb6.mono HBf.out.size));clear hwr hk hb6;go_simp
    refine hK _ _ ?_;clear hK K;refine wpAny_take (i:=9) (v:=?v9_11) rfl (by kernel_rfl) (by kernel_rfl) (by kernel_rfl) (λ _ _ _ h=>h) (Or.inl ⟨by rfl,?y9_11⟩) ?z9_11
    case y9_11=>(intro w;first | (go_simp;done) | (go_simp;with_reducible rfl))
    refine wpAny_done (by kernel_rfl) ?_ _;go_wp2_with fail
    go_ret
    exact⟨Fs,b,p,FF,HWr.out,rfl,HK.out,HBx.out⟩
  .skip
   go_simp
   obtain⟨w48,hw48⟩:=Yx (wq.alloc (.cells #[.string kMain,.slice (some ⟨w.heap.size,0,none⟩) 2 2] 105));obtain⟨pm,hpm⟩:=Yx wq.heap.size;have hbn:Below wq.heap.size wq w48:=by rw[hw48];exact(Yj _ _).alloc (Yd _) _
   have KT:=Ya (show KLt w48 pm w.heap.size from⟨by rw[hw48,hpm];exact heap_alloc_new _ _⟩);have HBn:=Ya (HB.out.trans (hbn.mono HB.out.size));change K _ (wq.alloc (.cells #[.string kMain,.slice (some ⟨w.heap.size,0,none⟩) 2 2] 105));rw[<- hw48,<- hpm];clear hw48 hpm hbn HB;have HB:=HBn;clear HBn;refine hK _ _ ?_;clear hK K;refine wpAny_ready (rs:=[0]) (by kernel_rfl) (by simp) ?_;refine Yf rfl (λ K hK=>?_) Yi;go_simp
   refine(Ztx wb.heap.size w48 (HL.out.on (HBW.out.trans (HB.out.mono HBW.out.size))) HB.out.size).mono ?_;rintro e w49 ⟨A1,c1,xs1,rfl,k1,hb,hk1⟩;have HBn:=Ya (HB.out.trans (hb.mono HB.out.size));have K1:=Ya k1;have KTn:=Ya (KT.out.below hb);have NE:=Ya (show ∀k,(Y6 A1 15 c1).ownBlock=some k->k≠pm from λ k hk=>by have:=hk1 k hk;have:=KT.out.lt;omega);clear KT;have KT:=KTn;clear KTn;clear k1 hb hk1 HB;have HB:=HBn;clear HBn;go_simp
   refine hK _ _ ?_;clear hK K;refine wpAny_ready (rs:=[1]) (by kernel_rfl) (by simp) ?_;refine Yf rfl (λ K hK=>?_) Yi;go_simp
   refine(Zjg wb.heap.size w49 (HL.out.on (HBW.out.trans (HB.out.mono HBW.out.size))) K1.out).mono ?_;rintro e w50 ⟨A2,c2,xs2,rfl,k1,k2,hb⟩;have HBn:=Ya (HB.out.trans (hb.mono HB.out.size));clear K1;have K1:=Ya k1;have K2:=Ya k2;have KTn:=Ya (KT.out.below hb);clear KT;have KT:=KTn;clear KTn;clear k1 k2 hb HB;have HB:=HBn;clear HBn;go_simp
   refine hK _ _ ?_;clear hK K;refine wpAny_ready (rs:=[2]) (by kernel_rfl) (by simp) ?_;refine Yf rfl (λ K hK=>?_) Yi;rw[if_pos (by kernel_rfl)];refine Zi (.tmp 11) (.tmp 12) _ rfl wb.heap.size 105 Ze underlying102 rfl (by decide) (.slice A1 15 c1) 15 xs1 (by kernel_rfl) K1.out.own w50.heap.size A2 39 c2 xs2 (by kernel_rfl) (Zd7 K2.out.oc Zb0) K2.out.nil K2.out.rd K2.out.oc.one (by simp only[maxLen];omega) (by omega) HB.out.size ?_;intro v3 w51 ho3 hg3 hb3 hat3;obtain⟨A3,c3,rfl⟩:=Za ho3;have K3:=Ya (Zd8 K1.out K2.out ho3 hg3 hat3);have HBn:=Ya (HB.out.trans hb3);have NEn:=Ya (show ∀k,(Y6 A3 54 c3).ownBlock=some k->k≠pm from λ k hk=>by
    rcases hat3 with e|e
    .exact NE.out k (e.symm.trans hk)
    .have e2:some k=some w50.heap.size:=hk.symm.trans e
     have e3:k=w50.heap.size:=Option.some.inj e2;have:=KT.out.lt;omega)
   have KTn:=Ya (KT.out.grown hg3 NE.out);clear NE KT;have NE:=NEn;have KT:=KTn;clear NEn KTn;clear ho3 hg3 hb3 hat3 HB K1 K2;have HB:=HBn;clear HBn;refine hK _ _ ?_;clear hK K;refine wpAny_ready (rs:=[5]) (by kernel_rfl) (by simp) ?_;refine Yf rfl (λ K hK=>?_) Yi;rw[if_pos (by kernel_rfl)];refine Zi (.tmp 13) (.tmp 15) _ rfl wb.heap.size 105 Ze underlying102 rfl (by decide) (.slice A3 54 c3) 54 (xs1++xs2) (by kernel_rfl) K3.out.own w51.heap.size (some ⟨pm,0,none⟩) 1 1 [.string kMain,.slice (some ⟨w.heap.size,0,none⟩) 2 2] (by kernel_rfl) rfl (λ h=>by cases h) KT.out.rd (by simp[Yt]) (by simp only[maxLen];omega) (by omega) HB.out.size ?_;intro v4 w52 ho4 hg4 hb4 hat4;obtain⟨A4,c4,rfl⟩:=Za ho4;have hoc4:=Zd9 K3.out (HMn.out.below HB.out) HB.out.size hg4 hat4;have HBf:=Ya (HBW.out.trans ((HB.out.trans hb4).mono HBW.out.size));have HN:=Ya (HNW.out _ _ A4 c4 w52 HBf.out ho4 hoc4);clear ho4 hg4 hb4 hat4 hoc4;refine hK _ _ ?_;clear hK K;refine wpAny_ready (rs:=[8]) (by kernel_rfl) (by simp) ?_;refine Yf rfl (λ K hK=>?_) Yi;go_simp
   refine HN.out.mono ?_;rintro e w53 ⟨Fs,b,p,FF,hwr,rfl,hk,hb6⟩;have HWr:=Ya hwr;have HK:=Ya (hk.lo HBf.out.size);have HBx:=Ya (HBf.out.trans (hb6.mono HBf.out.size));clear hwr hk hb6;go_simp
   refine hK _ _ ?_;clear hK K;refine wpAny_take (i:=9) (v:=?v9_12) rfl (by kernel_rfl) (by kernel_rfl) (by kernel_rfl) (λ _ _ _ h=>h) (Or.inl ⟨by rfl,?y9_12⟩) ?z9_12
   case y9_12=>(intro w;first | (go_simp;done) | (go_simp;with_reducible rfl))
   refine wpAny_done (by kernel_rfl) ?_ _;go_wp2_with fail
   go_ret
   exact⟨Fs,b,p,FF,HWr.out,rfl,HK.out,HBx.out⟩
