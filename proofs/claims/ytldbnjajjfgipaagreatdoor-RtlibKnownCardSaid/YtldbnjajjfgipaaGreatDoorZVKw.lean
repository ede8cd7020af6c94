/- Parts. -/
import Derived.Test.YtldbnjajjfgipaaGreatDoorZVSyr
import Derived.Test.YtldbnjajjfgipaaGreatDoorZVOb
import Derived.Test.YtldbnjajjfgipaaGreatDoorZKOb
set_option linter.all false
set_option maxHeartbeats 4000000
open Go.Lib renaming hid->Ya,cell_of_heap->Yb
open Nat renaming le_refl->Yd,le_of_lt->Yay
namespace Go.Proofs.YtldbnjajjfgipaaGreatDoor
open S Go.Proofs.Tryz Go.RowKit
set_option maxRecDepth 100000
section
theorem Ztv (b:Nat)(t:ByteArray)(p:Nat)(neg:Bool)(l:List Int)(ht:Tz t p neg l)(hs:t.size<=1000000)(z:Int)(hz:tz neg l=z)(hr:0<=z/\z<=1000000)(w:World) :
 Calls prog 37 #[.pointer (some ⟨b,0,none⟩),.string t] w λ e w'=>e=.returned (.int .u32 (4*z))/\Below w.heap.size w w':=by
 have hp:=Znv t p neg l ht hs w;rw[hz] at hp;have HP:=Ya hp;have hwi:=λ(neg:Bool) (A:Option Addr) (N c:Nat) (l:List Int) (w:World) (B:Nat) hB h=>Zwz bk bo 1 0 true false _ _ tz_least.1 tz_most.1 (by decide) (by decide) neg A N c l z w B hB h
 rw[tz_least.2,tz_most.2,show(decide (-536870912<=z) && decide (z<=536870911))=true by rw[decide_eq_true (by omega),decide_eq_true (by omega)];rfl] at hwi;have HWI:=Ya hwi;have HSm:=Ya (λ(neg:Bool) (A:Option Addr) (N c:Nat) (l:List Int) (w:World) (B:Nat) hB h=>Zzu neg A N c l z w B hB h ⟨by omega,by omega⟩);have e1:IntKind.i64.wrap (4*z)=4*z:=IntWalk.i64_in _ ⟨by omega,by omega⟩;have e2:IntKind.i32.wrap (4*z)=4*z:=IntWalk.i32_in _ ⟨by omega,by omega⟩;have e3:IntKind.u32.wrap (4*z)=4*z:=IntWalk.u32_in _ ⟨by omega,by omega⟩;have e4:4*z%4294967296=4*z:=by omega
 clear hp hwi ht hz;go_enter func37,ntmps37
 go_wp2_with fail
 refine HP.out.mono ?_;rintro e w1 ⟨n1,A,m,c,l1,rfl,hn1,hb1⟩;have HN1:=Ya hn1;have HB1:=Ya hb1;clear hn1 hb1;unfold Zib;go_upto_region 2 with fail
 have hx0:=heap_alloc_new w1 (.cells #[.bool n1,.slice A m c] 56);have hb2:Below w1.heap.size w1 (w1.alloc (.cells #[.bool n1,.slice A m c] 56)):=(Below.refl _ _).alloc (Yd _) _;have hz2:w1.heap.size<(w1.alloc (.cells #[.bool n1,.slice A m c] 56)).heap.size:=by simp
 generalize w1.alloc (.cells #[.bool n1,.slice A m c] 56)=w2 at *;have HN2:=Ya (HN1.out.below hb2);have HB2:=Ya (HB1.out.trans (hb2.mono HB1.out.size));have HX:=Ya hx0;have q0:w2.cell? ⟨w1.heap.size,0,none⟩=some (.bool n1):=by rw[Yb hx0];rfl
 have q1:w2.cell? ⟨w1.heap.size,1,none⟩=some (.slice A m c):=by rw[Yb hx0];rfl
 clear hx0 hb2 HN1 HB1;go_wp2_with fail
 refine(HWI.out n1 A m c l1 w2 w1.heap.size (Yay hz2) HN2.out).mono ?_;rintro e w3 ⟨rfl,hb3⟩;have hx3:=(hb3.block _ hz2).trans HX.out;have HN3:=Ya (HN2.out.below (hb3.mono (Yay hz2)));have HB3:=Ya (HB2.out.trans (hb3.mono HB2.out.size));have hz3:=Nat.lt_of_lt_of_le hz2 hb3.size;have r0:w3.cell? ⟨w1.heap.size,0,none⟩=some (.bool n1):=by rw[Yb hx3];rfl
 have r1:w3.cell? ⟨w1.heap.size,1,none⟩=some (.slice A m c):=by rw[Yb hx3];rfl
 clear hb3 hx3 q0 q1 HN2 HB2;go_wp2_with fail
 refine(HSm.out n1 A m c l1 w3 w1.heap.size (Yay hz3) HN3.out).mono ?_;rintro e w4 ⟨rfl,hb4⟩;have HB4:=Ya (HB3.out.trans (hb4.mono HB3.out.size));clear hb4;go_wp2_with fail
 go_ret
 exact⟨rfl,HB4.out⟩
section
variable {w:World}{F:Nat->Prop}{lo b p:Nat}{H half:Int}{P:List (ByteArray×Int)}{m:Mach}
theorem KAt.newF (h:KAt w lo b p F H half P m){k:Nat}(hk:w.heap.size<=k):¬F k:=λ q=>by have:=(h.lt k q).2;omega
theorem Zwj (n0:Int)(t:ByteArray)(pz:Nat)(neg:Bool)(l:List Int)(ht:Tz t pz neg l)(hs:t.size<=1000000)(z:Int)(hz:tz neg l=z)(hr:0<=z/\z<=1000000)(w:World)(b:Nat) :
 Calls prog 11 #[.pointer (some ⟨b,0,none⟩),.agg #[.int .i64 2,.int .i64 n0,.string t,.slice none 0 0,.int .i64 0]] w λ e w'=>e=.returned (.int .u32 (4*z))/\Below w.heap.size w w':=by
 have HI:=Ya (λ W=>Ztv b t pz neg l ht hs z hz hr W);clear ht hs hz hr;go_enter func11,ntmps11
 go_wp2_with fail
 refine(HI.out _).mono ?_;rintro e w2 ⟨rfl,hb2⟩;have HB2:=Ya (((Below.refl w.heap.size w).alloc (Yd _) (.cells #[.int .i64 2,.int .i64 n0,.string t,.slice none 0 0,.int .i64 0] 24)).trans (hb2.mono (by simp)));clear hb2;go_wp2_with fail
 go_ret
 exact⟨rfl,HB2.out⟩
theorem Zwk (n0:Int)(t:ByteArray)(hs:t.size<=100000)(hK:KAt w lo b p F H half P m)(h26:0<=m.rd 26/\m.rd 26<=100000000) :
 Calls prog 11 #[.pointer (some ⟨b,0,none⟩),.agg #[.int .i64 4,.int .i64 n0,.string t,.slice none 0 0,.int .i64 0]] w λ e w'=>e=.returned (.int .u32 (4*m.rd 26+1))/\KAt w' lo b p F H half P (takeM m 4 (charsU (octs t)))/\Only F w w':=by
 have HK:=Ya hK;have HC:=Ya (λ W=>Zzt t hs W);have H26:=Ya h26;have Hlen:=Ya (show(charsU (octs t)).length<=100000 by have:=Zpl (octs t);rw[Ze3] at this;omega);clear hK h26 hs;go_enter func11,ntmps11
 go_wp2_with fail
 refine(HC.out _).mono ?_;rintro e w2 ⟨A,n,c,rfl,hn,ho,hb2⟩;have hb1:Below w.heap.size w (w.alloc (.cells #[.int .i64 4,.int .i64 n0,.string t,.slice none 0 0,.int .i64 0] 24)):=(Below.refl _ _).alloc (Yd _) _;have hz1:(w.alloc (.cells #[.int .i64 4,.int .i64 n0,.string t,.slice none 0 0,.int .i64 0] 24)).heap.size=w.heap.size+1:=by simp
 have HB2:=Ya (hb1.trans (hb2.mono (by omega)));have HK2:=Ya (HK.out.below HB2.out);have HT:=Ya (Z18 4 A n c (charsU (octs t)) hn (by decide) (by rw[hn];exact Hlen.out) (λ x hx=>by have:=Zsf _ x hx;omega) HK2.out H26.out (Zat ho) (λ k o s e=>HK.out.newF (by
  have:=ho.lt k (by
   subst e;rcases ho.2 with⟨e2,_⟩|⟨g,cap,cur,e2,_⟩
   .cases e2
   .cases e2;rfl)
  omega)))
 clear ho hb2 hb1 hz1 hn HK HK2;go_wp2_with fail
 refine HT.out.mono ?_;rintro e w3 ⟨rfl,hk3,ho3⟩;have HK3:=Ya hk3;have HO3:=Ya ((Only.of_below (F:=F) HB2.out).trans ho3 λ _ _ q=>q);clear hk3 ho3;go_wp2_with fail
 go_ret
 exact⟨rfl,HK3.out,HO3.out⟩
end
end
section
theorem Zl9 {H:Zl}{w:World}(hH:∀b k,H b=some k->b<w.heap.size){g n:Nat}(hg:H g=some n)(hcells:∀j,j<n->∀k v,w.cell? ⟨g,j,none⟩≠some (.int k v)) :
 ∀{os:List S.Obj} {xs:List Value},RepL H w (ag os) xs->(∀x∈os,(∀y∈x.items,0<=y.word/\y.word<=4294967295)/\x.name.size<=maxLen/\∀y∈x.items,y.label.size<=maxLen)->OCg w (some g) os xs
 | [],xs,h,_=>by
  have h':RepL H w [] xs:=h;rw[RepL] at h';subst h';exact { len:=rfl,one:=λ u hu=>(List.not_mem_nil hu).elim,at_:=λ i x hx=>by simp at hx }
 | o::r,xs,h,hw=>by
  have h':RepL H w (.str o.name::.row o.items.length (encItems o.items)::ag r) xs:=h;rw[RepL] at h';obtain⟨v0,rs,rfl,_,hv0,h'⟩:=h';rw[RepL] at h';obtain⟨v1,rs,rfl,_,hv1,h'⟩:=h';rw[RepV] at hv0;subst hv0;obtain⟨q1,q2,q3⟩:=hw o List.mem_cons_self;have hv1':=hv1;obtain⟨A,c,rfl,hi⟩:=Ziw hH hv1 q1;rw[RepV] at hv1';obtain⟨A',c',e,_,_,hc⟩:=hv1'
  cases e
  have key:0<o.items.length->∃b off,A=some ⟨b,off,none⟩/\b<w.heap.size/\some b≠some g/\∀j y,o.items[j]?=some y->ItemAt w b (off+j*8) y:=λ hp=>by
   obtain⟨b,off,e,hb,hx⟩:=hi hp;refine⟨b,off,e,hb,?_,hx⟩;intro hbg
   cases hbg
   rcases hc with e0|⟨b',o',k,e0,hbk,hle,hr⟩
   .cases hxs:o.items with
    | nil=>rw[hxs] at hp;simp at hp
    | cons y ys=>rw[hxs] at e0;cases e0
   .rw[e] at e0
    cases e0
    rw[hg] at hbk
    cases hbk
    obtain⟨y,hy⟩:∃y,o.items[0]?=some y:=⟨_,List.getElem?_eq_getElem hp⟩
    have h0:=(hx 0 y hy).1;rw[Nat.zero_mul,Nat.add_zero] at h0;refine hcells off ?_ _ _ h0
    cases hxs:o.items with
    | nil=>rw[hxs] at hp;simp at hp
    | cons y ys =>
     rw[hxs] at hle;have:(encItems (y::ys)).length=8+(encItems ys).length:=by
      show(_++encItems ys).length=_
      rw[List.length_append];rfl
     omega
  have ih:=Zl9 hH hg hcells h' λ x hx=>hw x (List.mem_cons_of_mem _ hx)
  have h1:OCg w (some g) [o] [.string o.name,.slice A o.items.length c]:=⟨rfl,by simp[Value.oneCell'],λ i y hy=>by
   cases i with
   | zero=>cases hy;exact⟨A,c,rfl,rfl,key,q2,q3⟩
   | succ i=>cases hy⟩
  exact h1.app ih
theorem Zy8:ay (objs26++objs28++[oMainV])=true:=by kernel_rfl
attribute [local irreducible] midV
theorem Zhy:(objs26++objs28++[oMainV]).length=55:=by kernel_rfl
theorem Zhz (gw sw:List Int):af gw sw (objs26++objs28++[oMainV])=wObjsV gw sw:=rfl
def Zor (gw sw:List Int)(w:World)(heap:Int)(inp:List Int)(e:Ending)(w':World):Prop :=
 ∃Fs b p F,bl gw sw Fs heap inp/\e=.returned (.pointer (some ⟨b,0,none⟩))/\KAt w' w.heap.size b p F (ac gw sw Fs).length (heap/2) (bm gw sw Fs) (wM (ac gw sw Fs) heap inp)/\Below w.heap.size w w'
theorem Zos {gw sw:List Int}(hg:gw=[])(hs:sw=[]){heap:Int}(hheap:1<=heap/\heap<=1000000){inp:List Int}(hib:∀x∈inp,0<=x/\x<=255){r:Int}{L:List Int}{P:List (ByteArray×Int)}(hr:Zgu (wObjsV gw sw) 0 r L P):r=0/\∃F,bl gw sw F heap inp/\L=ac gw sw F/\P=bm gw sw F :=
 Z2b (λ x hx=>by rw[hg] at hx;cases hx) (λ x hx=>by rw[hs] at hx;cases hx) (by rw[hg];decide) (by rw[hs];decide) hib hheap hr
theorem Zwl {gw sw:List Int}(hg:gw=[])(hs:sw=[])(heap:Int)(hheap:1<=heap/\heap<=1000000)(inp:List Int)(hib:∀x∈inp,0<=x/\x<=255)(hil:inp.length<=1000)(Ao Ai:Option Addr)(co ci ni:Nat)(hni:ni=inp.length)(base:Nat)(oc:List Value)(w:World)(ho:w.ownsRow base 105 2 (.slice Ao 55 co) 55 oc)(hoc:OC w w.heap.size (objs26++objs28++[oMainV]) oc)(hi:Reads w w.heap.size Ai (inp.map (Value.int .u8)))(hA0:Ai=none->ni=0) :
 Calls prog 72 #[.slice Ao 55 co,.slice none gw.length 0,.slice none sw.length 0,.int .i64 heap,.slice Ai ni ci] w (Zor gw sw w heap inp):=by
 have hg0:gw.length=0:=by rw[hg];rfl
 have hs0:sw.length=0:=by rw[hs];rfl
 have hnew:=Z23 (objs26++objs28++[oMainV]) Ao none none Ai co 0 0 ci gw sw inp heap w oc (Zat (n:=(objs26++objs28++[oMainV]).length) (by rw[Zhy];exact ho)) hoc (λ h=>by have:=Zdj ho h;omega) (λ h=>by rw[List.length_map] at h;omega) (λ h=>by rw[List.length_map] at h;omega) hi (by omega) (by omega) (by rw[Zhy];decide) (λ x hx=>by rw[hg] at hx;cases hx) (λ x hx=>by rw[hs] at hx;cases hx) hib (by omega) ⟨by omega,hheap.2⟩ (Zci gw sw (by omega) (by omega)) (λ o ho=>by
  have h:=Zy8;have h2:=List.all_eq_true.1 h o ho;simp only[Bool.and_eq_true] at h2;refine⟨by have:=of_decide_eq_true h2.1.2;omega,λ x hx=>by have:=of_decide_eq_true (List.all_eq_true.1 h2.2 x hx);omega⟩) (λ r L P hr=>by
  rw[Zhz] at hr;obtain⟨e0,F,hwr,rfl,rfl⟩:=Zos hg hs hheap hib hr;have h1:=hwr.len;have h2:=(Zdf (hwr.ok true)).1;have h3:=hwr.small;refine⟨e0,by omega,by omega,hwr.words,?_⟩;have h4:=Zbn (joined (wObjsV gw sw)) F 0 (joined (wObjsV gw sw)).length;have h5:=Zci gw sw (by omega) (by omega);rw[Zhz] at h5;exact Nat.le_trans h4 h5)
 rw[Zhy,<- hni] at hnew;refine hnew.mono ?_;rintro e w4 ⟨L,P,b,p,F,hres,rfl,hk,hb4⟩;rw[Zhz] at hres;obtain⟨_,Fs,hwr,rfl,rfl⟩:=Zos hg hs hheap hib hres;exact⟨Fs,b,p,F,hwr,rfl,hk,hb4⟩
def Ztw (w:World)(heap:Int)(inp:List Int):Ending->World->Prop:=Zor [] [] w heap inp
theorem Zy9 (heap:Int)(hheap:1<=heap/\heap<=1000000)(inp:List Int)(hib:∀x∈inp,0<=x/\x<=255)(hil:inp.length<=1000)(Ao Ai:Option Addr)(co ci ni:Nat)(hni:ni=inp.length)(base:Nat)(oc:List Value)(w:World)(ho:w.ownsRow base 105 2 (.slice Ao 55 co) 55 oc)(hoc:OC w w.heap.size (objs26++objs28++[oMainV]) oc)(hi:Reads w w.heap.size Ai (inp.map (Value.int .u8)))(hA0:Ai=none->ni=0) :
 Calls prog 72 #[.slice Ao 55 co,.slice none 0 0,.slice none 0 0,.int .i64 heap,.slice Ai ni ci] w (Ztw w heap inp) :=
 Zwl (gw:=[]) (sw:=[]) rfl rfl heap hheap inp hib hil Ao Ai co ci ni hni base oc w ho hoc hi hA0
end
