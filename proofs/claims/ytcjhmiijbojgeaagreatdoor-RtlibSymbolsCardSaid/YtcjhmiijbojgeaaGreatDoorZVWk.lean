/- Parts. -/
import Derived.Test.YtcjhmiijbojgeaaGreatDoorZVSm
import Derived.Test.YtcjhmiijbojgeaaGreatDoorZVKx
import Derived.Test.YtcjhmiijbojgeaaGreatDoorZVCa
set_option linter.all false
set_option maxHeartbeats 8000000
open Go.Lib renaming hid->Ya
open List renaming getElem?_eq_getElem->Ye,length_cons->Yk,mem_cons->Yr,not_mem_nil->Yv,take_add_one->Yan,getElem_mem->Yas
open Go.IntWalk renaming i64_in->Ym
open Go.Value renaming int->Yu
open Int renaming tmod_eq_emod_of_nonneg->Ya3,le_trans->Ybx,tdiv_eq_ediv_of_nonneg->Yb0
namespace Go.Proofs.YtcjhmiijbojgeaaGreatDoor
open S Go.Proofs.Tryz Go.RowKit
set_option maxRecDepth 100000
section
theorem Z3h (a b:Int):(⟨#[114,116]⟩:ByteArray)++strOfNums [a,b]=⟨#[114,116,UInt8.ofNat a.toNat,UInt8.ofNat b.toNat]⟩:=by
 apply ByteArray.ext
 simp[strOfNums]
theorem Z3i (op:Int)(h:10<=op/\op<=99)(w:World):Calls prog 14 #[.int .i64 op] w λ e w'=>e=.returned (.string ⟨#[114,116,UInt8.ofNat (48+op/10).toNat,UInt8.ofNat (48+op%10).toNat]⟩)/\Below w.heap.size w w':=by
 have d1:decide (op<10)=false:=decide_eq_false (by omega);have q1:Int.tdiv op 10=op/10:=Yb0 (by omega);have q2:Int.tmod op 10=op%10:=Ya3 (by omega);have e1:IntKind.i64.wrap (48+op/10)=48+op/10:=Ym _ ⟨by omega,by omega⟩;have e2:IntKind.i64.wrap (48+op%10)=48+op%10:=Ym _ ⟨by omega,by omega⟩;have e3:IntKind.u8.wrap (48+op/10)=48+op/10:=IntWalk.u8_in _ ⟨by omega,by omega⟩;have e4:IntKind.u8.wrap (48+op%10)=48+op%10:=IntWalk.u8_in _ ⟨by omega,by omega⟩;have c:(convert 52 9 (.slice (some ⟨w.heap.size,0,none⟩) 2 2)).run prog (w.alloc (.cells #[.int .u8 (48+op/10),.int .u8 (48+op%10)] 5))=.ok (.string (strOfNums [48+op/10,48+op%10])) (w.alloc (.cells #[.int .u8 (48+op/10),.int .u8 (48+op%10)] 5)):=Z51 w [48+op/10,48+op%10] 2 rfl;have hsz:(strOfNums [48+op/10,48+op%10]).size=2:=by rw[strOfNums_size];rfl
 have a:=Ya (Z3h (48+op/10) (48+op%10));generalize strOfNums [48+op/10,48+op%10]=sn at *;go_enter func14,ntmps14
 go_wp2_with fail
 go_ret
 exact⟨by rw[<- a.out];rfl,(Below.refl _ _).alloc (Nat.le_refl _) _⟩
theorem Zl2 {op:Int}(h:op∈kPrims)(w:World):Calls prog 14 #[.int .i64 op] w λ e w'=>e=.returned (.string (kRt op))/\Below w.heap.size w w':=by
 have c:(10<=op/\op<=99)/\(⟨#[114,116,UInt8.ofNat (48+op/10).toNat,UInt8.ofNat (48+op%10).toNat]⟩:ByteArray)=kRt op:=by
  unfold kPrims at h;simp only[Yr,Yv,or_false] at h;rcases h with rfl|rfl|rfl|rfl|rfl|rfl|rfl|rfl <;> exact⟨by decide,by kernel_rfl⟩
 have a:=Z3i op c.1 w;rw[c.2] at a;exact a
namespace S
inductive Dd where
 | str (t:ByteArray)
 | int (t:ByteArray) (z:Int)
def Dd.cells:Dd->List Value
 | .str t=>[.int .i64 4,.int .i64 0,.string t,.slice none 0 0,.int .i64 0]
 | .int t _=>[.int .i64 2,.int .i64 0,.string t,.slice none 0 0,.int .i64 0]
def Dd.Ok:Dd->Prop
 | .str t=>t.size<=1000
 | .int t z=>t.size<=1000/\(0<=z/\z<=1000000)/\∃p neg l,Tz t p neg l/\tz neg l=z
def Dd.mach (m:Mach):Dd->Mach
 | .str t=>takeM m 4 (charsU (octs t))
 | .int _ _=>m
def Dd.word (m:Mach):Dd->Int
 | .str _=>4*m.rd 26+1
 | .int _ z=>4*z
def Dd.isStr:Dd->Bool
 | .str _=>true
 | .int _ _=>false
def askM (m:Mach):List Dd->Mach
 | []=>m
 | d::r=>askM (d.mach m) r
def askW (m:Mach):List Dd->List Int
 | []=>[]
 | d::r=>d.word m::askW (d.mach m) r
end S
theorem Zn0:∀(l:List S.Dd)(m:S.Mach)(d:S.Dd),S.askM m (l++[d])=d.mach (S.askM m l)
 | [],_,_=>rfl
 | x::l,m,d=>Zn0 l (x.mach m) d
theorem Zn1:∀(l:List S.Dd)(m:S.Mach)(d:S.Dd),S.askW m (l++[d])=S.askW m l++[d.word (S.askM m l)]
 | [],_,_=>rfl
 | x::l,m,d=>by
  show _::S.askW (x.mach m) (l++[d])=_::(S.askW (x.mach m) l++_)
  rw[Zn1 l (x.mach m) d];rfl
theorem Zqz:∀(l:List S.Dd)(m:S.Mach),(S.askW m l).length=l.length
 | [],_=>rfl
 | x::l,m=>by
  show(S.askW (x.mach m) l).length+1=_
  rw[Zqz l (x.mach m),Yk]
theorem Zky:∀(l:List Int)(m:S.Mach)(i x:Int),setsV m i (l++[x])=(setsV m i l).setV (i+l.length) x
 | [],m,i,x=>by
  show m.setV i x=m.setV (i+((0:Nat):Int)) x
  rw[show i+((0:Nat):Int)=i by omega]
 | y::l,m,i,x=>by
  show setsV (m.setV i y) (i+1) (l++[x])=_
  rw[Zky l (m.setV i y) (i+1) x]
  show(setsV (m.setV i y) (i+1) l).setV _ x=(setsV (m.setV i y) (i+1) l).setV _ x
  rw[show i+1+(l.length:Int)=i+((y::l).length:Int) by rw[Yk];omega]
theorem Zje (d:S.Dd):d.cells.length=5:=by cases d <;> rfl
theorem Zq0 (a:List S.Dd)(k:Nat)(c:k<a.length)(j:Nat)(e:j<5):(a.flatMap S.Dd.cells)[k*5+j]?=a[k].cells[j]?:=by
 induction a generalizing k with
 | nil=>simp at c
 | cons d r ih =>
  rw[List.flatMap_cons]
  cases k with
  | zero =>
   rw[Nat.zero_mul,Nat.zero_add,List.getElem?_append_left (by rw[Zje];exact e)];rfl
  | succ k =>
   rw[List.getElem?_append_right (by rw[Zje];omega),Zje,show(k+1)*5+j-5=k*5+j by omega];exact ih k (by rw[Yk] at c;omega)
section
variable {w:World}{F:Nat->Prop}{lo b p:Nat}{H half:Int}{P:List (ByteArray×Int)}{m:S.Mach}
theorem Z3j (d:S.Dd)(hd:d.Ok)(i:KAt w lo b p F H half P m)(a:0<=m.rd 26/\m.rd 26<=100000000) :
 Calls prog 9 #[.pointer (some ⟨b,0,none⟩),.agg d.cells.toArray] w λ e w'=>e=.returned (.int .u32 (d.word m))/\KAt w' lo b p F H half P (d.mach m)/\Only F w w'/\(d.isStr=false->Below w.heap.size w w'):=by
 cases d with
 | str t =>
  refine(Zqv 0 t (Nat.le_trans hd (by decide)) i a).mono ?_;rintro e w' ⟨rfl,g,c⟩;exact⟨rfl,g,c,λ h=>by cases h⟩
 | int t z =>
  obtain⟨g,c,n,neg,l,j,k⟩:=hd;refine(Zzp 0 t n neg l j (Nat.le_trans g (by decide)) z k c w b).mono ?_;rintro e w' ⟨rfl,f⟩;exact⟨rfl,i.below f,Only.of_below f,λ _=>f⟩
end
end
theorem Z3k {l a:List Int}{x:Int}(h:a=l++[x]):l.map (Yu .u32)++[Yu .u32 x]=a.map (Yu .u32):=by rw[h,List.map_append];rfl
def S.am (F:List Int)(heap:Int)(inp:List Int)(ds:List S.Dd):S.Mach:=setsV (S.askM (vM F heap inp) ds) 4 (S.askW (vM F heap inp) ds)
structure S.bo (F:List Int)(inp:List Int)(ds:List S.Dd):Prop where
 r26:∀k,k<=ds.length->0<=(S.askM (vM F 8000 inp) (ds.take k)).rd 26/\(S.askM (vM F 8000 inp) (ds.take k)).rd 26<=100000000
 wd:∀x∈S.askW (vM F 8000 inp) ds,0<=x/\x<=4294967295
 st:(am F 8000 inp ds).state=0
 out:(am F 8000 inp ds).out=[]
 steps:(am F 8000 inp ds).steps=0
theorem Zsy {op:Int}(h:op∈kPrims):kRt op∈wTellsV/\op.toNat=op:=by
 unfold kPrims at h;simp only[Yr,Yv,or_false] at h;have q:=has_rtsV;rcases h with rfl|rfl|rfl|rfl|rfl|rfl|rfl|rfl
 .exact⟨q.1,rfl⟩
 .exact⟨q.2.1,rfl⟩
 .exact⟨q.2.2.1,rfl⟩
 .exact⟨q.2.2.2.1,rfl⟩
 .exact⟨q.2.2.2.2.1,rfl⟩
 .exact⟨q.2.2.2.2.2.1,rfl⟩
 .exact⟨q.2.2.2.2.2.2.1,rfl⟩
 .exact⟨q.2.2.2.2.2.2.2,rfl⟩
theorem Zsz:kMapped∈wTellsV:=Zdq (by kernel_rfl)
theorem Zq1 {c inp:List Int}{a:Int}(hw:be [] [] c a inp){op:Int}(f:op∈kPrims){w:World}{lo b p:Nat}{F:Nat->Prop}{H half:Int}{M:S.Mach}(i:KAt w lo b p F H half (ay [] [] c) M)(h0:M.state=0)(o:M.out=[])(l:M.steps=0)(N:Nat)(hN:N<=1000000) :
 Calls prog 12 #[.pointer (some ⟨b,0,none⟩),.string (kRt op),.bool true,.int .i64 N] w λ e w'=>e=.returned (.int .i64 (vE c a M op.toNat N))/\Z1s w lo b p F H half (ay [] [] c) (callP (vI c a) M (kRt op) N) w':=by
 obtain⟨k,g⟩:=Zsy f;have d:=hw.ok true;obtain⟨f1,f2,f3⟩:=Zck (gw:=[]) (sw:=[]) (F:=c) (size:=(wLV [] [] c).length+a) d k;obtain⟨s,j,q⟩:=Zck (gw:=[]) (sw:=[]) (F:=c) (size:=(wLV [] [] c).length+a) d Zsz;obtain⟨s1,n,r⟩:=Zck (gw:=[]) (sw:=[]) (F:=c) (size:=(wLV [] [] c).length+a) d Zi8;have h:=Z2y (kRt op) N _ _ _ i f1 s1 s ⟨f2,Ybx f3 (by decide)⟩ ⟨n,Ybx r (by decide)⟩ ⟨j,Ybx q (by decide)⟩ h0 o l (by omega);have e:af M ((wImgV true [] [] c ((wLV [] [] c).length+a)).lab kMapped) ((wImgV true [] [] c ((wLV [] [] c).length+a)).lab (kRt op)) N=callP (vI c a) M (kRt op) N:=by
  unfold af callP;rw[Int.toNat_natCast];rfl
 rw[e] at h;unfold vE;rw[g];exact h
def Z3l (op:Int)(ds:List S.Dd)(inp:List Int)(w:World)(e:Ending)(w':World):Prop :=
 ∃Fs b p F A n c,be [] [] Fs 8000 inp/\e=.returned (.tuple #[.pointer (some ⟨b,0,none⟩),.slice A n c,.int .i64 (vE Fs 8000 (am Fs 8000 inp ds) op.toNat 400000)]) /\
  KAt w' w.heap.size b p F (wLV [] [] Fs).length 4000 (ay [] [] Fs) (callP (vI Fs 8000) (am Fs 8000 inp ds) (kRt op) 400000)/\Below w.heap.size w w'
theorem Z3m (op:Int)(a3:op∈kPrims)(f:List S.Dd)(hd:∀d∈f,d.Ok)(d8:∀k d,f[k]?=some d->d.isStr=true->k=0)(h3:f.length<=3)(inp:List Int)(f5:∀x∈inp,0<=x/\x<=255)(f0:inp.length<=1000)(c6:∀o,be [] [] o 8000 inp->bo o inp f)
 (Aa Ai:Option Addr) (n ca ci ni:Nat) (hn:n=f.length) (f1:ni=inp.length) (w:World) (hL:LVE w) (ha:Reads w w.heap.size Aa (f.flatMap S.Dd.cells)) (hi:Reads w w.heap.size Ai (inp.map (Yu .u8))) (g6:Ai=none->ni=0) :
 Calls prog 6 #[.int .i64 op,.slice Aa n ca,.slice Ai ni ci,.int .i64 (-1)] w (Z3l op f inp w):=by
 have h4:=Ya a3;have HD:=Ya hd;have HS:=Ya d8;have HN:=Ya hn;have HA:=Ya ha;have HL:=Ya hL;have HOk:=Ya c6;have d7:=Ya (λ W=>Zl2 a3 W);have HW:=Ya (Zjb 8000 (by decide) inp f5 f0 Ai ci ni f1 w hL hi g6);rw[<- hn] at h3;clear a3 hd d8 hn ha hL hi f5 f0 c6 f1 g6;go_enter func6,ntmps6
 go_wp2_with fail
 refine HW.out.mono ?_;rintro e w1 ⟨o,b,p,F,a9,rfl,g4,b1⟩;have f3:=Ya a9;have I:=Ya (HOk.out o a9);have e8:=Ya b1;have k1:=b1.size;obtain⟨m0,a2⟩:=Yx (vM o 8000 inp);have V:KAt w1 w.heap.size b p F (wLV [] [] o).length 4000 (ay [] [] o) m0:=by rw[a2];exact g4
 have a4:=Ya a2;have M:=Ya V;clear a9 g4 V b1 HW HOk a2;obtain⟨L,a1⟩:∃L:Int,L=(wLV [] [] o).length:=⟨_,rfl⟩
 rw[<- a1] at M;have i2:=Ya a1;obtain⟨PP,a6⟩:=Yx (ay [] [] o);rw[<- a6] at M;have h8:=Ya a6;clear a1 a6;go_wp2_with fail
 go_loopw [12,13] (λ h6 a0 wr=>∃(k:Nat)(A:Option Addr)(c:Nat)(wm:World),k<=n/\a0=.int .i64 k/\h6=.slice A k c/\Hid (KAt wm w.heap.size b p F L 4000 PP (S.askM m0 (f.take k)))/\Hid (Below wm.heap.size wm wr)/\Hid (wr.ownsRow wm.heap.size 31 1 (.slice A k c) k ((S.askW m0 (f.take k)).map (Yu .u32)))/\Hid (k=0->A=none/\c=0)/\Hid (Below w.heap.size w wr)) (λ _ a0 _=>n-(intOf a0).toNat)
 case atStart=>exact⟨0,none,0,w1,Nat.zero_le _,rfl,rfl,M,Ya (Below.refl _ _),Ya ⟨rfl,.inl ⟨rfl,rfl⟩⟩,Ya (λ _=>⟨rfl,rfl⟩),e8⟩
 case round =>
  clear M e8;obtain⟨k,A,c,wm,hk,rfl,rfl,i,t,HO,HZ,HB⟩:=hrel;by_cases b3:k<n
  .have d1:decide ((k:Int)<(n:Int))=true:=decide_eq_true (by omega)
   have i3:(k:Int)<(n:Int):=by omega
   have D:k<f.length:=by rw[<- HN.out];exact b3
   obtain⟨d,f8⟩:=Yx f[k];have O:=Ya f8;obtain⟨g,off,rfl,hg,z⟩:=HA.out (by
    have:=Zq0 f k D 0 (by decide);have h2:(f[k].cells)[0]?≠none:=by cases f[k] <;> simp[S.Dd.cells]
    rw[<- this] at h2;by_cases q:0<(f.flatMap S.Dd.cells).length
    .exact q
    .exact absurd (List.getElem?_eq_none (by omega)) h2)
   have r:∀j v,j<5->d.cells[j]?=some v->wr.cell? ⟨g,off+(k*5+j),none⟩=some v:=λ j v hj hv=>(HB.out.cell (p:=⟨g,off+(k*5+j),none⟩) hg).trans (z (k*5+j) v (by rw[Zq0 f k D j hj,<- O.out];exact hv))
   obtain⟨y0,y1,U,y3,y4,hy⟩:∃y0 y1 U y3 y4,d.cells=[y0,y1,U,y3,y4]:=by cases d <;> exact⟨_,_,_,_,_,rfl⟩
   rw[hy] at r;have c0:wr.cell? ⟨g,off+k*5,none⟩=some y0:=by have:=r 0 y0 (by decide) rfl;simpa using this
   have c1:wr.cell? ⟨g,off+(k*5+1),none⟩=some y1:=r 1 y1 (by decide) rfl;have c2:wr.cell? ⟨g,off+(k*5+2),none⟩=some U:=r 2 U (by decide) rfl;have c3:wr.cell? ⟨g,off+(k*5+3),none⟩=some y3:=r 3 y3 (by decide) rfl;have c4:wr.cell? ⟨g,off+(k*5+4),none⟩=some y4:=r 4 y4 (by decide) rfl;have h1:=i.out.below t.out;have a8:=Z3j d (HD.out d (by rw[O.out];exact Yas D)) h1 (by rw[a4.out];exact I.out.r26 k (by omega));rw[hy] at a8;have f7:=Ya a8;clear z r hy a8 h1 f8;have h7:wr.cell? ⟨g,off+k*5+1,none⟩=some y1:=c1;have i9:wr.cell? ⟨g,off+k*5+2,none⟩=some U:=c2;have j6:wr.cell? ⟨g,off+k*5+3,none⟩=some y3:=c3;have h9:wr.cell? ⟨g,off+k*5+4,none⟩=some y4:=c4;have e2:IntKind.i64.wrap ((k:Int)+1)=(k:Int)+1:=Ym _ ⟨by omega,by omega⟩;go_wp2_with fail
   refine f7.out.mono ?_;rintro e w2 ⟨rfl,b8,g9,d9⟩;have Y:f.take (k+1)=f.take k++[d]:=by rw[Yan,Ye D,O.out];rfl
   have f6:S.askM m0 (f.take (k+1))=d.mach (S.askM m0 (f.take k)):=by rw[Y,Zn0]
   have f4:S.askW m0 (f.take (k+1))=S.askW m0 (f.take k)++[d.word (S.askM m0 (f.take k))]:=by rw[Y,Zn1]
   have g2:∃R,KAt R w.heap.size b p F L 4000 PP (S.askM m0 (f.take (k+1)))/\Below R.heap.size R w2/\w2.ownsRow R.heap.size 31 1 (.slice A k c) k ((S.askW m0 (f.take k)).map (Yu .u32)):=by
    rw[f6]
    cases hst:d.isStr with
    | true =>
     have h0:=HS.out k d (by rw[Ye D,O.out]) hst;obtain⟨rfl,rfl⟩:=HZ.out h0;subst h0;exact⟨w2,b8,Below.refl _ _,rfl,.inl ⟨rfl,rfl⟩⟩
    | false =>
     have hb:=d9 hst;have e:d.mach (S.askM m0 (f.take k))=S.askM m0 (f.take k):=by cases d <;> first|rfl|cases hst
     rw[e];exact⟨wm,i.out,t.out.trans (hb.mono t.out.size),Zc HO.out hb⟩
   obtain⟨R,d6,b5,e6⟩:=g2;have b9:=Ya d6;have e7:=Ya b5;have g5:=Ya e6;have g1:=Ya f4;have c8:=(i.out.below t.out)
   have c9:=Ya (HB.out.trans (c8.lobelow g9 HB.out.size));have h5:=b5.size;obtain⟨wd,g7⟩:=Yx (d.word (S.askM m0 (f.take k)));rw[<- g7] at g1⊢;clear b8 g9 d9 Y f6 f4 d6 b5 e6 c8 g7 i t HO HB f7 c0 c1 c2 c3 c4 h7 i9 j6 h9 HZ;go_wp2_with (at_builtin;refine Zl rfl (.tmp 25) (.tmp 32) _ rfl R.heap.size 31 Znz underlying28 rfl (by decide) #[.int .u32 wd] _ _ _ rfl g5.out rfl rfl rfl (by simp[Value.oneCell']) (by simp only[maxLen];omega) (by omega) h5 ?_;intro v' w3 a5 i1 b0 d0;obtain⟨A2,c2,rfl⟩:=Za a5;have j8:Hid (w3.ownsRow R.heap.size 31 1 (.slice A2 (k+1) c2) (k+1) ((S.askW m0 (f.take (k+1))).map (Yu .u32))):=Ya (Zwi a5 (Z3k g1.out));have j7:=Ya (e7.out.trans b0);have j9:=Ya (c9.out.trans (b0.mono b9.out.lolt));clear a5 i1 b0 d0 g5 e7 c9)
   go_roundw
   case rel=>exact⟨k+1,A2,c2,R,by omega,by go_num,rfl,b9,j7,j8,Ya (λ h=>by omega),j9⟩
   case measure=>simp[intOf] <;> omega
  .have hke:k=n:=by omega
   subst hke;have d1:decide ((k:Int)<(k:Int))=false:=by simp
   have d2:decide ((-1:Int)>=0)=false:=by decide
   have e9:f.take k=f:=by rw[HN.out,List.take_length]
   rw[e9] at i HO;go_upto_region 9 with fail
   refine Zq (by kernel_rfl) (by kernel_rfl) ?_
   repeat (first|go_big_quiet_step (fail))
   refine wpQuiet_nil ?_;rintro w2 ⟨U,d5⟩;have N:Below wr.heap.size wr w2:=by rw[d5];exact U.property
   clear d5 U;have Q:=Ya ((i.out.below t.out).below N);have b7:=Ya (Zc HO.out N);have e5:=Ya (HB.out.trans (N.mono HB.out.size));have j5:=Ya (λ(j:Nat) (hj:wm.heap.size<=j)=>i.out.newF hj);clear N i t HO HB e9;obtain⟨M1,Z⟩:=Yx (S.askM m0 f);obtain⟨G,K⟩:=Yx (S.askW m0 f);have d4:G.length=k:=by rw[K,Zqz,HN.out]
   rw[<- Z] at Q;rw[<- K] at b7;have i6:=Ya Z;have i8:=Ya K;have b6:=Ya d4;have j3:=Ya (show ∀x∈G,0<=x/\x<=4294967295 by rw[K,a4.out];exact I.out.wd);clear Z K d4;go_wp2_with fail
   go_loopw [14] (λ b4 wr=>∃q:Nat,q<=k/\b4=.int .i64 q/\Hid (KAt wr w.heap.size b p F L 4000 PP (setsV M1 4 (G.take q)))/\Hid (Only F w2 wr)) (λ b4 _=>k-(intOf b4).toNat)
   case atStart=>exact⟨0,Nat.zero_le _,rfl,Q,Ya (Only.of_below (Below.refl _ _))⟩
   case round =>
    obtain⟨q,hq,rfl,l,y⟩:=hrel;by_cases b3:q<k
    .have d3:decide ((q:Int)<(k:Int))=true:=decide_eq_true (by omega)
     have i3:(q:Int)<(k:Int):=by omega
     have b2:q<G.length:=by rw[b6.out];exact b3
     obtain⟨g,e,i4,c7,_,g8,_⟩:=Zan b7.out (by omega)
     cases e
     obtain⟨u,hu⟩:=Yx G[q];have HU:=Ya hu;have f9:=j3.out G[q] (Yas b2);rw[<- hu] at f9;have hx:=g8 q (by omega);rw[List.getElem?_map,Ye b2,<- hu] at hx;have i5:wr.cell? ⟨g,q,none⟩=some (.int .u32 u):=(World.cell?_of_block (a:=⟨g,q,none⟩) (y.out.block g c7 (j5.out g i4))).trans hx;have i7:g<wr.heap.size:=Nat.lt_of_lt_of_le c7 y.out.size;have i0:=l.out.blt;obtain⟨_,_,_,_,_,_,e0,e1,e2,e3,e4⟩:=l.out.cells;have p1:IntKind.i64.wrap (4+(q:Int))=4+q:=Ym _ ⟨by omega,by omega⟩;have p2:IntKind.i64.wrap ((q:Int)+1)=(q:Int)+1:=Ym _ ⟨by omega,by omega⟩;clear hu hx;go_upto_region 14 with fail
     refine Zj 10 (by kernel_rfl) (by kernel_rfl) ?_;have hE:=Zk wr;simp only[List.take_succ_cons,List.take_zero,List.drop_succ_cons,List.drop_zero]
     repeat (first|go_big_quiet_step (fail))
     refine wpQuiet_nil ?_;rintro w4 ⟨⟨_,s⟩,rfl⟩;have c5:=Ya (l.out.below s);have g3:=Ya (y.out.trans (Only.of_below (F:=F) s) λ _ _ q=>q);clear hE s e0 e1 e2 e3 e4 i0 i7 i5 l y g8;go_wp2_with fail
     try simp only[p1]
     refine(Zeq (4+q) u c5.out f9).mono ?_;rintro e w5 ⟨rv,rfl,B,J⟩;have X:Hid (KAt w5 w.heap.size b p F L 4000 PP (setsV M1 4 (G.take (q+1)))):=Ya (by
      have e:=Zky (G.take q) M1 4 u;rw[List.length_take,Nat.min_eq_left (by omega)] at e;rw[Yan,Ye b2]
      show KAt w5 w.heap.size b p F L 4000 PP (setsV M1 4 (G.take q++[G[q]]))
      rw[<- HU.out,e];exact B)
     have k0:=Ya (g3.out.trans J λ _ _ q=>q);clear B J c5 g3;go_wp2_with fail
     go_roundw
     case rel=>exact⟨q+1,by omega,by go_num,X,k0⟩
     case measure=>simp[intOf] <;> omega
    .have hqe:q=k:=by omega
     subst hqe;have d3:decide ((q:Int)<(q:Int))=false:=by simp
     have T:setsV M1 4 (G.take q)=am o 8000 inp f:=by
      rw[List.take_of_length_le (by rw[b6.out];exact Nat.le_refl _),i6.out,i8.out,a4.out];rfl
     rw[T] at l;clear T;go_wp2_with fail
     refine(d7.out _).mono ?_;rintro e w4 ⟨rfl,s⟩;have a7:=l.out.below s;rw[h8.out] at a7;have HC:=Ya (Zq1 f3.out h4.out a7 I.out.st I.out.out I.out.steps 400000 (by decide));have g0:=Ya ((e5.out.trans (Q.out.lobelow y.out e5.out.size)).trans (s.mono l.out.lolt));have f2:=g0.out.size;obtain⟨C,hC⟩:=Yx (callP (vI o 8000) (am o 8000 inp f) (kRt op) 400000);obtain⟨E,hE⟩:=Yx (vE o 8000 (am o 8000 inp f) op.toNat 400000);rw[<- hC,<- hE] at HC;have j4:=Ya hC;have j2:=Ya hE;clear hC hE s a7 l y;go_wp2_with fail
     refine HC.out.mono ?_;rintro e w5 ⟨rfl,F5,B,J,j1⟩;have X:=Ya B;have j0:=Ya (g0.out.trans (J.below f2 λ j hj=>(Q.out.lt j hj).1));clear B J j1;go_wp2_with fail
     refine bodyPost_ret (v:=.tuple #[.pointer (some ⟨b,0,none⟩),.slice A q c,.int .i64 E]) (by simp[results,results6,go_sem]) rfl ?_;refine⟨o,b,p,F5,A,q,c,f3.out,by rw[j2.out],?_,j0.out⟩;rw[<- j4.out,<- i2.out];exact X.out
section
attribute [local irreducible] midV
set_option maxRecDepth 100000
def S.an (m m':S.Mach):Prop:=m'.state=m.state/\m'.out=m.out/\m'.steps=m.steps
theorem Zfz (m:S.Mach){i:Int}(v:Int)(h0:0<i)(a:i<32):an m (m.setV i v):=by rw[Zai h0 a];exact⟨rfl,rfl,rfl⟩
theorem Zf0 (m:S.Mach)(i v:Int):an m (m.putV i v):=⟨(Zbi m i v).2.2.2.2.1,(Zbi m i v).2.2.2.1,(Zbi m i v).2.2.2.2.2.1⟩
theorem S.an.trans {a b c:S.Mach}(h:an a b)(k:an b c):an a c:=⟨k.1.trans h.1,k.2.1.trans h.2.1,k.2.2.trans h.2.2⟩
theorem Zn2:∀(l:List Int)(m:S.Mach)(a:Int),an m (putsV m a l)
 | [],_,_=>⟨rfl,rfl,rfl⟩
 | x::l,m,a=>(Zf0 m a x).trans (Zn2 l _ _)
theorem Zw6 (m:S.Mach)(typ:Int)(ws:List Int):an m (S.takeM m typ ws):=(Zn2 _ m _).trans (Zfz _ _ (by decide) (by decide))
section
variable {F:List Int}{inp:List Int}(hw:be [] [] F 8000 inp)
include hw
theorem Z3n:(vM F 8000 inp).rd 26=(wLV [] [] F).length:=(hw.fst.rd 26).trans rfl
theorem Zw7:(vM F 8000 inp).state=0/\(vM F 8000 inp).out=[]/\(vM F 8000 inp).steps=0:=⟨hw.wd.run,hw.wd.out,hw.wd.steps⟩
theorem Z3o:WdV [] [] F ((wLV [] [] F).length+8000) (vM F 8000 inp):=hw.wd
attribute [local irreducible] vM
theorem Zzv {a:List S.Dd}(e:∀k,k<=a.length->0<=(S.askM (vM F 8000 inp) (a.take k)).rd 26/\(S.askM (vM F 8000 inp) (a.take k)).rd 26<=100000000)(d:∀x∈S.askW (vM F 8000 inp) a,0<=x/\x<=4294967295)(c:an (vM F 8000 inp) (am F 8000 inp a)):bo F inp a:=by
 obtain⟨f,h,g⟩:=Zw7 hw;exact⟨e,d,c.1.trans f,c.2.1.trans h,c.2.2.trans g⟩
theorem Z8l:0<=(vM F 8000 inp).rd 26/\(vM F 8000 inp).rd 26<=100000000:=by
 rw[Z3n hw];have:=hw.small;omega
end
end
theorem Zd6 (m:S.Mach)(d v:Int):(m.put d v).mem.length=m.mem.length:=by
 unfold S.Mach.put
 split <;> rfl
theorem Z3p (m:S.Mach)(i:Inst):(m.act i).1.mem.length=m.mem.length:=by
 obtain⟨op,d,a,b,imm⟩:=i;unfold S.Mach.act;simp only;by_cases l:op<=14
 .rw[if_pos l]
  by_cases e:m.rd b=0/\(op=5\/op=6)
  .rw[if_pos e]
  .rw[if_neg e];exact Zd6 _ _ _
 rw[if_neg l];by_cases e:op<=22
 .rw[if_pos e];exact Zd6 _ _ _
 rw[if_neg e];by_cases h:op=23
 .rw[if_pos h];exact Zd6 _ _ _
 rw[if_neg h];by_cases k:op=24
 .rw[if_pos k]
  by_cases c:u32m (m.rd a+u32m imm)<m.mem.length
  .rw[if_pos c];exact Zd6 _ _ _
  .rw[if_neg c]
 rw[if_neg k];by_cases c:op=25
 .rw[if_pos c]
  by_cases f:u32m (m.rd a+u32m imm)<m.mem.length
  .rw[if_pos f];exact List.length_set
  .rw[if_neg f]
 rw[if_neg c];by_cases f:op<=31
 .rw[if_pos f]
 rw[if_neg f];by_cases n:op=32
 .rw[if_pos n];exact Zd6 _ _ _
 rw[if_neg n];by_cases j:op=33
 .rw[if_pos j];exact Zd6 _ _ _
 rw[if_neg j];by_cases o:op=34
 .rw[if_pos o]
  cases hi:m.input with
  | nil=>exact Zd6 _ _ _
  | cons x r=>exact Zd6 _ _ _
 rw[if_neg o];by_cases g:op=35
 .rw[if_pos g]
 .rw[if_neg g]
theorem Zzw (m:S.Mach):m.step.mem.length=m.mem.length:=by
 unfold S.Mach.step S.Mach.fell
 split
 .rfl
 split
 .rfl
 split
 .rfl
 split
 .rfl
 .exact Z3p _ _
theorem Zn3 (m:S.Mach):∀k,(m.steps_ k).mem.length=m.mem.length
 | 0=>rfl
 | k+1=>(Zzw _).trans (Zn3 m k)
section
attribute [local irreducible] midV
structure S.dg (L:Int)(C:S.Mach):Prop where
 r4:C.regV 4=4*L+1
 m0:C.memV L=71
 m1:C.memV (L+1)=22
 m2:C.memV (L+2)=22
theorem Zjf {m:S.Mach}{a v:Int}(h0:0<=a)(h:m.mv a=v)(c:v≠0):m.memV a=v:=by
 by_cases q:a<m.mem.length
 .rw[Z0f h0 q];exact h
 .exfalso
  have e:m.mv a=m.mem.getD a.toNat 0:=rfl;rw[e,List.getD_eq_getElem?_getD,List.getElem?_eq_none (by omega)] at h;exact c h.symm
theorem Zpo {F:List Int}(hw:be [] [] F 200 []){M:S.Mach}(a:M=((vM F 200 []).setV 4 8).setV 5 22) :
 vE F 200 M 27 5000=0/\dg (wLV [] [] F).length (callP (vI F 200) M (kRt 27) 5000):=by
 obtain⟨g,f,c,e,d⟩:=Zzb hw (by decide) a (N:=5000) (by decide);exact⟨g,(Zmk (by decide) (by decide)).trans f,Zjf (by omega) c (by decide),Zjf (by omega) e (by decide),Zjf (by omega) d (by decide)⟩
theorem Z3q (w:World)(hL:LVE w):Calls prog 5 #[] w λ e w'=>e=.returned (.bool true)/\Below w.heap.size w w':=by
 have HW:=Ya (Zjb 200 (by decide) [] (λ x hx=>by cases hx) (by decide) none 0 0 rfl w hL (λ h=>by simp at h) (λ _=>rfl));have X:=Ya (λ W=>Zl2 (op:=27) (by decide) W);clear hL;go_enter func5,ntmps5
 go_wp2_with fail
 refine HW.out.mono ?_;rintro e w1 ⟨t,b,p,F,c,rfl,a4,T⟩;have b2:=Ya c;have a2:=Ya T;have hsz:=T.size;have a8:=c.small;obtain⟨m0,f⟩:=Yx (vM t 200 []);have n:KAt w1 w.heap.size b p F (wLV [] [] t).length (200/2) (ay [] [] t) m0:=by rw[f];exact a4
 have a:=Ya n;have a7:((m0.setV 4 8).setV 5 22).state=0/\((m0.setV 4 8).setV 5 22).out=[]/\((m0.setV 4 8).setV 5 22).steps=0:=by
  have q:=(Zfz m0 (i:=4) 8 (by decide) (by decide)).trans (Zfz _ (i:=5) 22 (by decide) (by decide));have r1:m0.state=0:=by rw[f];exact c.wd.run
  have r2:m0.out=[]:=by rw[f];exact c.wd.out
  have r3:m0.steps=0:=by rw[f];exact c.wd.steps
  exact⟨q.1.trans r1,q.2.1.trans r2,q.2.2.trans r3⟩
 have u:=Ya a7;have v:=Zpo c (M:=(m0.setV 4 8).setV 5 22) (by rw[f]);obtain⟨C,hC⟩:=Yx (callP (vI t 200) ((m0.setV 4 8).setV 5 22) (kRt 27) 5000);rw[<- hC] at v;have b4:=Ya hC;have g:=Ya v;obtain⟨L,hL⟩:∃L:Int,L=(wLV [] [] t).length:=⟨_,rfl⟩
 rw[<- hL] at g a;have b5:0<=L/\L<=18000:=by omega
 obtain⟨PP,A⟩:=Yx (ay [] [] t);rw[<- A] at a;have b0:=Ya A;clear a4 n c T a7 v hC f hL A a8 HW;have k:=a.out.blt;obtain⟨_,_,_,_,_,_,e0,e1,Y,e3,e4⟩:=a.out.cells;go_wp2_with fail
 refine(Zeq 4 8 a.out (by decide)).mono ?_;rintro e w2 ⟨r2,rfl,V,a6⟩;have l:=Ya V;have D:=Ya (a2.out.trans (a.out.lobelow a6 hsz));clear V a6 k e0 e1 Y e3 e4 a a2 hsz;have k:=l.out.blt;obtain⟨_,_,_,_,_,_,e0,e1,Y,e3,e4⟩:=l.out.cells;go_wp2_with fail
 refine(Zeq 5 22 l.out (by decide)).mono ?_;rintro e w3 ⟨r3,rfl,U,Z⟩;have o:=Ya U;have E:=Ya (D.out.trans (l.out.lobelow Z D.out.size));clear U Z k e0 e1 Y e3 e4 l D;go_wp2_with fail
 refine(X.out _).mono ?_;rintro e w4 ⟨rfl,J⟩;have I:=o.out.below J;rw[b0.out] at I;have K:=Zq1 b2.out (op:=27) (by decide) I u.out.1 u.out.2.1 u.out.2.2 5000 (by decide);rw[show vE t 200 ((m0.setV 4 8).setV 5 22) (27:Int).toNat 5000=0 from g.out.1,<- b4.out] at K;have HC:=Ya K;have R:=Ya (E.out.trans (J.mono E.out.size));have b1:=Ya (λ(j:Nat) (hj:F j)=>(o.out.lt j hj).1);clear J I K E o;go_wp2_with fail
 refine HC.out.mono ?_;rintro e w5 ⟨rfl,F5,a0,a3,b3⟩;have d:=Ya a0;have O:=Ya (R.out.trans (a3.below R.out.size b1.out));clear a0 a3 b3 HC R;have k:=d.out.blt;obtain⟨_,_,_,_,_,_,e0,e1,Y,e3,e4⟩:=d.out.cells;have hr:=Zrp 4 d.out;rw[g.out.2.r4] at hr;have HR:=Ya hr;clear hr;have t1:Int.tdiv (4*L+1) 4=L:=by rw[Yb0 (by omega)];omega
 have t2:Int.tmod (4*L+1) 4=1:=by rw[Ya3 (by omega)];omega
 have t3:IntKind.i64.wrap L=L:=Ym _ ⟨by omega,by omega⟩;have t4:IntKind.i64.wrap (L+1)=L+1:=Ym _ ⟨by omega,by omega⟩;have t5:IntKind.i64.wrap (L+2)=L+2:=Ym _ ⟨by omega,by omega⟩;go_wp2_with fail
 refine HR.out.mono ?_;rintro e _ ⟨rfl,rfl⟩;go_wp2_with fail
 refine HR.out.mono ?_;rintro e _ ⟨rfl,rfl⟩;go_wp2_with fail
 have s:=Zgl L d.out;rw[g.out.2.m0] at s;refine s.mono ?_;rintro e w6 ⟨rfl,N⟩;have z:=Ya (d.out.below N);have B:=Ya (O.out.trans (N.mono O.out.size));clear s N d O HR k e0 e1 Y e3 e4;go_wp2_with fail
 have Q:=Zgl (L+1) z.out;rw[g.out.2.m1] at Q;refine Q.mono ?_;rintro e w7 ⟨rfl,r⟩;have a5:=Ya (z.out.below r);have G:=Ya (B.out.trans (r.mono B.out.size));clear Q r z B;go_wp2_with fail
 have y:=Zgl (L+2) a5.out;rw[g.out.2.m2] at y;refine y.mono ?_;rintro e w8 ⟨rfl,a1⟩;have a9:=Ya (G.out.trans (a1.mono G.out.size));clear y a1 a5 G;go_wp2_with fail
 go_ret
 exact⟨rfl,a9.out⟩
end
