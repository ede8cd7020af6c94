/- Parts. -/
import Derived.Test.YtcjhmiijbojgeaaGreatDoorZVOb
import Derived.Test.YtcjhmiijbojgeaaGreatDoorZVWr
import Derived.Test.YtcjhmiijbojgeaaGreatDoorZKOb
set_option linter.all false
set_option maxHeartbeats 16000000
open Go.Lib renaming hid->Ya,cell_of_heap->Yb
open Nat renaming le_refl->Yc
open List renaming getElem?_eq_getElem->Ye,mem_cons_self->Yw,length_map->Y8,all_eq_true->Ya2,mem_append_left->Ybh
open Go.AllReady renaming cons->Yf,nil->Yi
open Go.RowKit.Below renaming refl->Yj
open Go.Value renaming oneCell'->Yt,int->Yu,slice->Yab
namespace Go.Proofs.YtcjhmiijbojgeaaGreatDoor
open S Go.Proofs.Tryz Go.RowKit
set_option maxRecDepth 100000
section
theorem Znx {H:Zn}{w:World}(D:∀b k,H b=some k->b<w.heap.size){g n:Nat}(hg:H g=some n)(a:∀j,j<n->∀k v,w.cell? ⟨g,j,none⟩≠some (.int k v)) :
 ∀{os:List S.Obj} {xs:List Value},RepL H w (ac os) xs->(∀x∈os,(∀y∈x.items,0<=y.word/\y.word<=4294967295)/\x.name.size<=maxLen/\∀y∈x.items,y.label.size<=maxLen)->OCg w (some g) os xs
 | [],xs,h,_=>by
  have d:RepL H w [] xs:=h;rw[RepL] at d;subst d;exact { len:=rfl,one:=λ u L=>(List.not_mem_nil L).elim,at_:=λ i x l=>by simp at l }
 | o::r,xs,h,hw=>by
  have d:RepL H w (.str o.name::.row o.items.length (encItems o.items)::ac r) xs:=h;rw[RepL] at d;obtain⟨v0,rs,rfl,_,q,d⟩:=d;rw[RepL] at d;obtain⟨v1,rs,rfl,_,p,d⟩:=d;rw[RepV] at q;subst q;obtain⟨E,G,K⟩:=hw o Yw;have f:=p;obtain⟨A,c,rfl,hi⟩:=Zj8 D p E;rw[RepV] at f;obtain⟨A',c',e,_,_,F⟩:=f
  cases e
  have z:0<o.items.length->∃b off,A=some ⟨b,off,none⟩/\b<w.heap.size/\some b≠some g/\∀j y,o.items[j]?=some y->ItemAt w b (off+j*8) y:=λ hp=>by
   obtain⟨b,off,e,I,l⟩:=hi hp;refine⟨b,off,e,I,?_,l⟩;intro C
   cases C
   rcases F with m|⟨b',o',k,m,s,B,hr⟩
   .cases hxs:o.items with
    | nil=>rw[hxs] at hp;simp at hp
    | cons y ys=>rw[hxs] at m;cases m
   .rw[e] at m
    cases m
    rw[hg] at s
    cases s
    obtain⟨y,t⟩:∃y,o.items[0]?=some y:=⟨_,Ye hp⟩
    have h0:=(l 0 y t).1;rw[Nat.zero_mul,Nat.add_zero] at h0;refine a off ?_ _ _ h0
    cases hxs:o.items with
    | nil=>rw[hxs] at hp;simp at hp
    | cons y ys =>
     rw[hxs] at B;have:(encItems (y::ys)).length=8+(encItems ys).length:=by
      show(_++encItems ys).length=_
      rw[List.length_append];rfl
     omega
  have ih:=Znx D hg a d λ x l=>hw x (List.mem_cons_of_mem _ l)
  have J:OCg w (some g) [o] [.string o.name,.slice A o.items.length c]:=⟨rfl,by simp[Yt],λ i y t=>by
   cases i with
   | zero=>cases t;exact⟨A,c,rfl,rfl,z,G,K⟩
   | succ i=>cases t⟩
  exact J.app ih
theorem Z20:aw (objs26++objs28++[oMainV])=true:=by kernel_rfl
attribute [local irreducible] midV
theorem Zi9:(objs26++objs28++[oMainV]).length=55:=by kernel_rfl
theorem Zja (gw sw:List Int):ab gw sw (objs26++objs28++[oMainV])=wObjsV gw sw:=rfl
def Zqs (gw sw:List Int)(w:World)(heap:Int)(inp:List Int)(e:Ending)(w':World):Prop :=
 ∃Fs b p F,be gw sw Fs heap inp/\e=.returned (.pointer (some ⟨b,0,none⟩))/\KAt w' w.heap.size b p F (wLV gw sw Fs).length (heap/2) (ay gw sw Fs) (wM (wLV gw sw Fs) heap inp)/\Below w.heap.size w w'
theorem Zqt {gw sw:List Int}(hg:gw=[])(e:sw=[]){a:Int}(b:1<=a/\a<=1000000){inp:List Int}(d:∀x∈inp,0<=x/\x<=255){r:Int}{L:List Int}{P:List (ByteArray×Int)}(f:Ziw (wObjsV gw sw) 0 r L P):r=0/\∃F,be gw sw F a inp/\L=wLV gw sw F/\P=ay gw sw F :=
 Z6q (λ x c=>by rw[hg] at c;cases c) (λ x c=>by rw[e] at c;cases c) (by rw[hg];decide) (by rw[e];decide) d b f
theorem Zzk {gw sw:List Int}(hg:gw=[])(q:sw=[])(a:Int)(c:1<=a/\a<=1000000)(inp:List Int)(j:∀x∈inp,0<=x/\x<=255)(G:inp.length<=1000)(u k:Option Addr)(co B t:Nat)(y:t=inp.length)(base:Nat)(oc:List Value)(w:World)(m:w.ownsRow base 82 2 (.slice u 55 co) 55 oc)(v:OC w w.heap.size (objs26++objs28++[oMainV]) oc)(hi:Reads w w.heap.size k (inp.map (Yu .u8)))(J:k=none->t=0) :
 Calls prog 37 #[.slice u 55 co,.slice none gw.length 0,.slice none sw.length 0,.int .i64 a,.slice k t B] w (Zqs gw sw w a inp):=by
 have H:gw.length=0:=by rw[hg];rfl
 have E:sw.length=0:=by rw[q];rfl
 have f:=Z66 (objs26++objs28++[oMainV]) u none none k co 0 0 B gw sw inp a w oc (Zap (n:=(objs26++objs28++[oMainV]).length) (by rw[Zi9];exact m)) v (λ h=>by have:=Zee m h;omega) (λ h=>by rw[Y8] at h;omega) (λ h=>by rw[Y8] at h;omega) hi (by omega) (by omega) (by rw[Zi9];decide) (λ x i=>by rw[hg] at i;cases i) (λ x i=>by rw[q] at i;cases i) j (by omega) ⟨by omega,c.2⟩ (Zc8 gw sw (by omega) (by omega)) (λ o m=>by
  have h:=Z20;have l:=Ya2.1 h o m;simp only[Bool.and_eq_true] at l;refine⟨by have:=of_decide_eq_true l.1.2;omega,λ x i=>by have:=of_decide_eq_true (Ya2.1 l.2 x i);omega⟩) (λ r L P A=>by
  rw[Zja] at A;obtain⟨C,F,d,rfl,rfl⟩:=Zqt hg q c j A;have h1:=d.len;have l:=(Zas (d.ok true)).1;have h3:=d.small;refine⟨C,by omega,by omega,d.words,?_⟩;have D:=Zb5 (joined (wObjsV gw sw)) F 0 (joined (wObjsV gw sw)).length;have z:=Zc8 gw sw (by omega) (by omega);rw[Zja] at z;exact Nat.le_trans D z)
 rw[Zi9,<- y] at f;refine f.mono ?_;rintro e w4 ⟨L,P,b,p,F,g,rfl,I,s⟩;rw[Zja] at g;obtain⟨_,K,d,rfl,rfl⟩:=Zqt hg q c j g;exact⟨K,b,p,F,d,rfl,I,s⟩
def Zwq (w:World)(heap:Int)(inp:List Int):Ending->World->Prop:=Zqs [] [] w heap inp
theorem Z21 (a:Int)(b:1<=a/\a<=1000000)(inp:List Int)(j:∀x∈inp,0<=x/\x<=255)(e:inp.length<=1000)(f c:Option Addr)(co k d:Nat)(h:d=inp.length)(base:Nat)(oc:List Value)(w:World)(l:w.ownsRow base 82 2 (.slice f 55 co) 55 oc)(g:OC w w.heap.size (objs26++objs28++[oMainV]) oc)(hi:Reads w w.heap.size c (inp.map (Yu .u8)))(i:c=none->d=0) :
 Calls prog 37 #[.slice f 55 co,.slice none 0 0,.slice none 0 0,.int .i64 a,.slice c d k] w (Zwq w a inp) :=
 Zzk (gw:=[]) (sw:=[]) rfl rfl a b inp j e f c co k d h base oc w l g hi i
end
structure KS1 (B:Nat)(W:World)(A:Option Addr)(c:Nat)(xs:List Value):Prop where
 own:W.ownsRow B 82 2 (.slice A 15 c) 15 xs
 oc:OCg W (Yab A 15 c).ownBlock objs26 xs
theorem KS1.below {B:Nat}{W b:World}{A:Option Addr}{c:Nat}{xs:List Value}(h:KS1 B W A c xs)(a:Below W.heap.size W b):KS1 B b A c xs:=⟨Zc h.own a,h.oc.below a⟩
structure KS2 (W:World)(g:Option Nat)(A:Option Addr)(c:Nat)(xs:List Value):Prop where
 rd:Reads W W.heap.size A xs
 oc:OCg W g objs28 xs
 nil:A=none->39=0
theorem KS2.below {W b:World}{g:Option Nat}{A:Option Addr}{c:Nat}{xs:List Value}(h:KS2 W g A c xs)(a:Below W.heap.size W b):KS2 b g A c xs:=⟨(h.rd.below a).moreM a.size,h.oc.below a,h.nil⟩
structure KS3 (B:Nat)(W:World)(A:Option Addr)(c:Nat)(xs:List Value):Prop where
 own:W.ownsRow B 82 2 (.slice A 54 c) 54 xs
 oc:OCg W (Yab A 54 c).ownBlock (objs26++objs28) xs
theorem KS3.below {B:Nat}{W b:World}{A:Option Addr}{c:Nat}{xs:List Value}(h:KS3 B W A c xs)(a:Below W.heap.size W b):KS3 B b A c xs:=⟨Zc h.own a,h.oc.below a⟩
theorem Zew {n:Nat}{xs:List Value}{W:World}{g:Option Nat}{os:List S.Obj}(h:OCg W g os xs)(a:os.length=n):xs.length=n*2:=by rw[h.len,a]
theorem Zwr (B:Nat)(W:World)(z:LVE W)(F:B<=W.heap.size):Calls prog 38 #[.int .i64 0] W λ e w'=>∃A c xs,e=.returned (.slice A 15 c)/\KS1 B w' A c xs/\Below W.heap.size W w'/\∀k,(Yab A 15 c).ownBlock=some k->W.heap.size<=k:=by
 refine(Zrg (λ _=>none) W [.int .i64 0] (λ b k h=>by cases h) z (by rw[RepT];exact⟨_,_,rfl,by rw[RepV],by rw[RepT]⟩)).mono ?_;rintro e w1 ⟨v1,y,rfl,p,-,a,u,q⟩
 replace a:∀b k,y b=some k->b<w1.heap.size:=λ b k h=>(a b k h).lt
 obtain⟨l,m,d,t⟩:=Zlu (q _ rfl) u (.inl ⟨rfl,rfl⟩) (by kernel_rfl);have f:=Zmo a m (λ x o=>Zed Zp5 x (Ybh _ o));obtain⟨A1,c1,rfl⟩:=Za d;obtain⟨w,D,G,I,_,n,_⟩:=Zan d (by decide)
 cases D
 have s:y w=some 30:=(t w rfl).trans (congrArg some (by kernel_rfl));have i:=Znx a s (λ j H k v r=>by
  have C:j<l.length:=by rw[f.len];exact H
  have g:=n j (by omega);rw[r] at g;have hi:j/2<objs26.length:=by
   have:objs26.length=15:=by decide
   omega
  obtain⟨A',c',p0,p1,_⟩:=f.at_ (j/2) _ (Ye hi);rcases Nat.mod_two_eq_zero_or_one j with e|e
  .have:j/2*2=j:=by omega
   rw[this,<- g] at p0
   cases p0
  .have:j/2*2+1=j:=by omega
   rw[this,<- g] at p1
   cases p1) m (λ x o=>Zed Zp5 x (Ybh _ o))
 exact⟨_,_,l,rfl,⟨Zo d F,i⟩,p,λ k E=>(d.lt k E).1⟩
theorem Zkv (B:Nat)(W:World)(v:LVE W){A:Option Addr}{c:Nat}{xs:List Value}(t:KS1 B W A c xs):Calls prog 39 #[] W λ e w'=>∃s c2 j,e=.returned (.slice s 39 c2)/\KS1 B w' A c xs/\KS2 w' (Yab A 15 c).ownBlock s c2 j/\Below W.heap.size W w':=by
 refine(Zpj (λ _=>none) W [] (λ b k h=>by cases h) v (by rw[RepT])).mono ?_;rintro e y ⟨v5,u,rfl,f,m,d,l,n⟩
 replace d:∀b k,u b=some k->b<y.heap.size:=λ b k h=>(d b k h).lt
 obtain⟨p,r,a,-⟩:=Zlu (n _ rfl) l (.inl ⟨rfl,rfl⟩) (by kernel_rfl);have i:=Zj9 (g:=(Yab A 15 c).ownBlock) (λ b k q=>⟨d b k q,λ e=>by
  have o:=(t.own.lt b e.symm).2;rw[m b o] at q
  cases q⟩) r (λ x w=>Zed Zzn x w)
 obtain⟨z,c5,rfl⟩:=Za a;exact⟨z,c5,p,rfl,t.below f,⟨Zap a,i,Zee a⟩,f⟩
structure KMn (B p0 p1:Nat)(W:World):Prop where
 lt:p1<B
 c0:W.cell? ⟨p1,0,none⟩=some (.string kMain)
 c1:W.cell? ⟨p1,1,none⟩=some (.slice (some ⟨p0,0,none⟩) 2 2)
 oc:OC W B [oMainV] [.string kMain,.slice (some ⟨p0,0,none⟩) 2 2]
theorem KMn.below {B p0 p1:Nat}{W b:World}(h:KMn B p0 p1 W)(a:Below B W b):KMn B p0 p1 b:=⟨h.lt,(a.cell (p:=⟨p1,0,none⟩) h.lt).trans h.c0,(a.cell (p:=⟨p1,1,none⟩) h.lt).trans h.c1,h.oc.below a⟩
structure KLt (W:World)(pm p0:Nat):Prop where
 blk:W.heap[pm]?=some (.cells #[.string kMain,.slice (some ⟨p0,0,none⟩) 2 2] 82 (0,0))
theorem KLt.lt {W:World}{a p0:Nat}(h:KLt W a p0):a<W.heap.size:=(Array.getElem?_eq_some_iff.1 h.blk).1
theorem KLt.below {W b:World}{a p0:Nat}(h:KLt W a p0)(c:Below W.heap.size W b):KLt b a p0:=⟨(c.block a h.lt).trans h.blk⟩
theorem KLt.grown {W c:World}{a p0:Nat}{g:Option Nat}(h:KLt W a p0)(d:W.grownBy c g)(b:∀k,g=some k->k≠a):KLt c a p0:=⟨(d.block a h.lt (λ e=>b a e.symm rfl)).trans h.blk⟩
theorem KLt.rd {W:World}{b p0:Nat}(h:KLt W b p0):Reads W W.heap.size (some ⟨b,0,none⟩) [.string kMain,.slice (some ⟨p0,0,none⟩) 2 2]:=λ _=>⟨b,0,rfl,h.lt,λ i x a=>by
 rw[Yb h.blk,Nat.zero_add]
 match i,a with
 | 0,a=>cases a;rfl
 | 1,a=>cases a;rfl
 | i+2,a=>simp at a⟩
theorem Zex {B:Nat}{W e:World}{A f b:Option Addr}{c c2 c3:Nat}{xs a:List Value}(i:KS1 B W A c xs)(g:KS2 W (Yab A 15 c).ownBlock f c2 a)(j:e.ownsRow B 82 2 (.slice b (15+39) c3) (15+39) (xs++a))(hg:W.grownBy e (Yab A 15 c).ownBlock)(d:(Yab b (15+39) c3).ownBlock=(Yab A 15 c).ownBlock\/(Yab b (15+39) c3).ownBlock=some W.heap.size):KS3 B e b c3 (xs++a) :=
 ⟨j,(i.oc.app g.oc).grow hg (d.imp (λ h=>h) λ h=>⟨_,h,Yc _⟩)⟩
theorem Zey {B p0 p1:Nat}{W c:World}{a e:Option Addr}{c3 c4:Nat}{xs:List Value}(d:KS3 B W a c3 xs)(hm:KMn B p0 p1 W)(i:B<=W.heap.size)(hg:W.grownBy c (Yab a 54 c3).ownBlock)(b:(Yab e (54+1) c4).ownBlock=(Yab a 54 c3).ownBlock\/(Yab e (54+1) c4).ownBlock=some W.heap.size):OC c c.heap.size (objs26++objs28++[oMainV]) (xs++[.string kMain,.slice (some ⟨p0,0,none⟩) 2 2]) :=
 ((d.oc.app (hm.oc.g i λ k f=>(d.own.lt k f).1)).grow hg (b.imp (λ h=>h) λ h=>⟨_,h,Yc _⟩)).oc
theorem Zcr:objs28.length=39:=by kernel_rfl
theorem Zjb (a0:Int)(c6:1<=a0/\a0<=1000000)(inp:List Int)(e1:∀x∈inp,0<=x/\x<=255)(d9:inp.length<=1000)(Ai:Option Addr)(ci ni:Nat)(e0:ni=inp.length)(w:World)(hL:LVE w)(hi:Reads w w.heap.size Ai (inp.map (Yu .u8)))(e4:Ai=none->ni=0) :
 Calls prog 19 #[.int .i64 a0,.slice Ai ni ci] w (Zwq w a0 inp):=by
 have HL:=Ya hL;have HI:=Ya hi;have Z:=Ya (λ(base:Nat) (oc:List Value) (Ao:Option Addr) (co:Nat) (W:World) (T:Below w.heap.size w W) ho f4=>Z21 a0 c6 inp e1 d9 Ao Ai co ci ni e0 base oc W ho f4 ((hi.below T).moreM T.size) e4);clear hL hi e0 e1 d9 e4 c6;go_enter func19,ntmps19
 go_upto_region 2 with fail
 obtain⟨O,b2⟩:=Yx ((w.alloc (.cells #[.int .i64 2,.int .i64 0,.int .i64 0,.int .i64 0,.int .i64 0,.int .i64 0,.string ⟨#[102,48]⟩,.int .u32 0,.int .i64 1,.int .i64 36,.int .i64 0,.int .i64 0,.int .i64 0,.int .i64 0,.string ⟨#[]⟩,.int .u32 0] 79)).alloc (.cells #[.string ⟨#[109,97,105,110]⟩,.slice (some ⟨w.heap.size,0,none⟩) 2 2] 82));rw[<- b2];have c8:O.ownsRow w.heap.size 79 8 (.slice (some ⟨w.heap.size,0,none⟩) 2 2) 2 (oMainV.items.flatMap Zb):=by
  have h:=Zlc (w:=w) (base:=w.heap.size) (e:=79) (size:=8) (n:=2) (cs:=(oMainV.items.flatMap Zb).toArray) (xs:=oMainV.items.flatMap Zb) (Yc _) rfl rfl (by simp[maxLen]);rw[b2];exact Zc h ((Yj _ _).alloc (Yc _) _)
 have e5:Below w.heap.size w O:=by
  rw[b2];exact((Yj _ _).alloc (Yc _) _).alloc (by simp) _
 have hsz:O.heap.size=w.heap.size+2:=by rw[b2];simp
 have hx:O.heap[w.heap.size+1]?=some (.cells #[.string kMain,.slice (some ⟨w.heap.size,0,none⟩) 2 2] 82 (0,0)):=by
  have h:=heap_alloc_new (w.alloc (.cells #[.int .i64 2,.int .i64 0,.int .i64 0,.int .i64 0,.int .i64 0,.int .i64 0,.string ⟨#[102,48]⟩,.int .u32 0,.int .i64 1,.int .i64 36,.int .i64 0,.int .i64 0,.int .i64 0,.int .i64 0,.string ⟨#[]⟩,.int .u32 0] 79)) (.cells #[.string ⟨#[109,97,105,110]⟩,.slice (some ⟨w.heap.size,0,none⟩) 2 2] 82);rw[<- b2] at h;simp only[World.size_alloc] at h;exact h
 have P:=Ya (show KMn O.heap.size w.heap.size (w.heap.size+1) O from⟨by omega,by rw[Yb hx];rfl,by rw[Yb hx];rfl,OC.one_ (x:=oMainV) (Zlb c8 rfl (λ x hx=>((Zed Zpk) oMainV Yw).1 x hx)) ((Zed Zpk) oMainV Yw).2.1 ((Zed Zpk) oMainV Yw).2.2⟩);have s:=Ya e5;clear c8 hx b2 e5;obtain⟨wq,d1⟩:=Yx O.drew;refine wp_region_any (by kernel_rfl) ?_;change wpAny _ _ _ _ _ _ _ (World.drew _);rw[<- d1];have a:=Ya (show Below O.heap.size O wq by rw[d1];exact(Yj _ _).drew);clear d1;refine wpAny_take (i:=6) (v:=?v6_1) rfl (by kernel_rfl) (by kernel_rfl) (by kernel_rfl) (λ _ _ _ h=>h) (Or.inl ⟨by rfl,?y6_1⟩) ?z6_1
 case y6_1=>(intro w;first | (go_simp;done) | (go_simp;with_reducible rfl))
 refine wpAny_take (i:=7) (v:=?v7_2) rfl (by kernel_rfl) (by kernel_rfl) (by kernel_rfl) (λ _ _ _ h=>h) (Or.inl ⟨by rfl,?y7_2⟩) ?z7_2
 case y7_2=>(intro w;first | (go_simp;done) | (go_simp;with_reducible rfl))
 refine wpAny_ready (rs:=[0,3]) (by kernel_rfl) (by simp) ?_;refine Yf rfl (λ K d=>?_) (Yf rfl (λ K d=>?_) Yi)
 .skip
  go_simp
  refine(Zwr O.heap.size wq (HL.out.on (s.out.trans (a.out.mono s.out.size))) a.out.size).mono ?_;rintro e w1 ⟨A1,c1,I,rfl,X,T,b5⟩;have c:=Ya (a.out.trans (T.mono a.out.size));have y:=Ya X;clear X T b5 a;have a:=c;clear c;go_simp
  refine d _ _ ?_;clear d K;refine wpAny_ready (rs:=[1,3]) (by kernel_rfl) (by simp) ?_;refine Yf rfl (λ K d=>?_) (Yf rfl (λ K d=>?_) Yi)
  .skip
   go_simp
   refine(Zkv O.heap.size w1 (HL.out.on (s.out.trans (a.out.mono s.out.size))) y.out).mono ?_;rintro e w2 ⟨A2,c2,H,rfl,X,k2,T⟩;have c:=Ya (a.out.trans (T.mono a.out.size));clear y;have y:=Ya X;have t:=Ya k2;clear X k2 T a;have a:=c;clear c;go_simp
   refine d _ _ ?_;clear d K;refine wpAny_ready (rs:=[2,3]) (by kernel_rfl) (by simp) ?_;refine Yf rfl (λ K d=>?_) (Yf rfl (λ K d=>?_) Yi)
   .skip
    rw[if_pos (by kernel_rfl)];refine Zi (.tmp 11) (.tmp 12) _ rfl O.heap.size 82 Ze underlying84 rfl (by decide) (.slice A1 15 c1) 15 I (by kernel_rfl) y.out.own w2.heap.size A2 39 c2 H (by kernel_rfl) (Zew t.out.oc Zcr) t.out.nil t.out.rd t.out.oc.one (by simp only[maxLen];omega) (by omega) a.out.size ?_;intro v3 w3 o u F f;obtain⟨U,c3,rfl⟩:=Za o;have L:=Ya (Zex y.out t.out o u f);have c:=Ya (a.out.trans F);clear o u F f a y t;have a:=c;clear c;refine d _ _ ?_;clear d K;refine wpAny_ready (rs:=[3]) (by kernel_rfl) (by simp) ?_;refine Yf rfl (λ K d=>?_) Yi;have m0:=(P.out.below a.out).c0;have m1:=(P.out.below a.out).c1;go_simp
    refine d _ _ ?_;clear d K;refine wpAny_ready (rs:=[4]) (by kernel_rfl) (by simp) ?_;refine Yf rfl (λ K d=>?_) Yi;go_simp
    obtain⟨w5,c7⟩:=Yx (w3.alloc (.cells #[.string kMain,.slice (some ⟨w.heap.size,0,none⟩) 2 2] 82));obtain⟨J,q⟩:=Yx w3.heap.size;have m:Below w3.heap.size w3 w5:=by rw[c7];exact(Yj _ _).alloc (Yc _) _
    have G:=Ya (show KLt w5 J w.heap.size from⟨by rw[c7,q];exact heap_alloc_new _ _⟩);have c:=Ya (a.out.trans (m.mono a.out.size));have R:=Ya (show ∀k,(Yab U 54 c3).ownBlock=some k->k≠J from λ k z=>by have:=(L.out.own.lt k z).2;omega);have Y:=Ya (L.out.below m);clear L;have L:=Y;clear Y;change K _ (w3.alloc (.cells #[.string kMain,.slice (some ⟨w.heap.size,0,none⟩) 2 2] 82));rw[<- c7,<- q];clear c7 q m a;have a:=c;clear c;refine d _ _ ?_;clear d K;refine wpAny_ready (rs:=[5]) (by kernel_rfl) (by simp) ?_;refine Yf rfl (λ K d=>?_) Yi;rw[if_pos (by kernel_rfl)];refine Zi (.tmp 13) (.tmp 15) _ rfl O.heap.size 82 Ze underlying84 rfl (by decide) (.slice U 54 c3) 54 (I++H) (by kernel_rfl) L.out.own w5.heap.size (some ⟨J,0,none⟩) 1 1 [.string kMain,.slice (some ⟨w.heap.size,0,none⟩) 2 2] (by kernel_rfl) rfl (λ h=>by cases h) G.out.rd (by simp[Yt]) (by simp only[maxLen];omega) (by omega) a.out.size ?_;intro v4 w6 r B C l;obtain⟨A4,c4,rfl⟩:=Za r;have j:=Zey L.out (P.out.below a.out) a.out.size B l;have g:=Ya (s.out.trans ((a.out.trans C).mono s.out.size));have HN:=Ya (Z.out _ _ A4 c4 w6 g.out r j);clear r B C l j;refine d _ _ ?_;clear d K;refine wpAny_ready (rs:=[8]) (by kernel_rfl) (by simp) ?_;refine Yf rfl (λ K d=>?_) Yi;go_simp
    refine HN.out.mono ?_;rintro e w7 ⟨Fs,b,p,FF,E,rfl,z,D⟩;have M:=Ya E;have HK:=Ya (z.lo g.out.size);have N:=Ya (g.out.trans (D.mono g.out.size));clear E z D;go_simp
    refine d _ _ ?_;clear d K;refine wpAny_take (i:=9) (v:=?v9_3) rfl (by kernel_rfl) (by kernel_rfl) (by kernel_rfl) (λ _ _ _ h=>h) (Or.inl ⟨by rfl,?y9_3⟩) ?z9_3
    case y9_3=>(intro w;first | (go_simp;done) | (go_simp;with_reducible rfl))
    refine wpAny_done (by kernel_rfl) ?_ _;go_wp2_with fail
    go_ret
    exact⟨Fs,b,p,FF,M.out,rfl,HK.out,N.out⟩
   .skip
    have m0:=(P.out.below a.out).c0;have m1:=(P.out.below a.out).c1;go_simp
    refine d _ _ ?_;clear d K;refine wpAny_ready (rs:=[2,4]) (by kernel_rfl) (by simp) ?_;refine Yf rfl (λ K d=>?_) (Yf rfl (λ K d=>?_) Yi)
    .skip
     rw[if_pos (by kernel_rfl)];refine Zi (.tmp 11) (.tmp 12) _ rfl O.heap.size 82 Ze underlying84 rfl (by decide) (.slice A1 15 c1) 15 I (by kernel_rfl) y.out.own w2.heap.size A2 39 c2 H (by kernel_rfl) (Zew t.out.oc Zcr) t.out.nil t.out.rd t.out.oc.one (by simp only[maxLen];omega) (by omega) a.out.size ?_;intro v3 w9 o u F f;obtain⟨U,c3,rfl⟩:=Za o;have L:=Ya (Zex y.out t.out o u f);have c:=Ya (a.out.trans F);clear o u F f a y t;have a:=c;clear c;refine d _ _ ?_;clear d K;refine wpAny_ready (rs:=[4]) (by kernel_rfl) (by simp) ?_;refine Yf rfl (λ K d=>?_) Yi;go_simp
     obtain⟨d7,a7⟩:=Yx (w9.alloc (.cells #[.string kMain,.slice (some ⟨w.heap.size,0,none⟩) 2 2] 82));obtain⟨J,q⟩:=Yx w9.heap.size;have m:Below w9.heap.size w9 d7:=by rw[a7];exact(Yj _ _).alloc (Yc _) _
     have G:=Ya (show KLt d7 J w.heap.size from⟨by rw[a7,q];exact heap_alloc_new _ _⟩);have c:=Ya (a.out.trans (m.mono a.out.size));have R:=Ya (show ∀k,(Yab U 54 c3).ownBlock=some k->k≠J from λ k z=>by have:=(L.out.own.lt k z).2;omega);have Y:=Ya (L.out.below m);clear L;have L:=Y;clear Y;change K _ (w9.alloc (.cells #[.string kMain,.slice (some ⟨w.heap.size,0,none⟩) 2 2] 82));rw[<- a7,<- q];clear a7 q m a;have a:=c;clear c;refine d _ _ ?_;clear d K;refine wpAny_ready (rs:=[5]) (by kernel_rfl) (by simp) ?_;refine Yf rfl (λ K d=>?_) Yi;rw[if_pos (by kernel_rfl)];refine Zi (.tmp 13) (.tmp 15) _ rfl O.heap.size 82 Ze underlying84 rfl (by decide) (.slice U 54 c3) 54 (I++H) (by kernel_rfl) L.out.own d7.heap.size (some ⟨J,0,none⟩) 1 1 [.string kMain,.slice (some ⟨w.heap.size,0,none⟩) 2 2] (by kernel_rfl) rfl (λ h=>by cases h) G.out.rd (by simp[Yt]) (by simp only[maxLen];omega) (by omega) a.out.size ?_;intro v4 f7 r B C l;obtain⟨A4,c4,rfl⟩:=Za r;have j:=Zey L.out (P.out.below a.out) a.out.size B l;have g:=Ya (s.out.trans ((a.out.trans C).mono s.out.size));have HN:=Ya (Z.out _ _ A4 c4 f7 g.out r j);clear r B C l j;refine d _ _ ?_;clear d K;refine wpAny_ready (rs:=[8]) (by kernel_rfl) (by simp) ?_;refine Yf rfl (λ K d=>?_) Yi;go_simp
     refine HN.out.mono ?_;rintro e g8 ⟨Fs,b,p,FF,E,rfl,z,D⟩;have M:=Ya E;have HK:=Ya (z.lo g.out.size);have N:=Ya (g.out.trans (D.mono g.out.size));clear E z D;go_simp
     refine d _ _ ?_;clear d K;refine wpAny_take (i:=9) (v:=?v9_4) rfl (by kernel_rfl) (by kernel_rfl) (by kernel_rfl) (λ _ _ _ h=>h) (Or.inl ⟨by rfl,?y9_4⟩) ?z9_4
     case y9_4=>(intro w;first | (go_simp;done) | (go_simp;with_reducible rfl))
     refine wpAny_done (by kernel_rfl) ?_ _;go_wp2_with fail
     go_ret
     exact⟨Fs,b,p,FF,M.out,rfl,HK.out,N.out⟩
    .skip
     go_simp
     obtain⟨b6,a5⟩:=Yx (w2.alloc (.cells #[.string kMain,.slice (some ⟨w.heap.size,0,none⟩) 2 2] 82));obtain⟨J,q⟩:=Yx w2.heap.size;have m:Below w2.heap.size w2 b6:=by rw[a5];exact(Yj _ _).alloc (Yc _) _
     have G:=Ya (show KLt b6 J w.heap.size from⟨by rw[a5,q];exact heap_alloc_new _ _⟩);have c:=Ya (a.out.trans (m.mono a.out.size));have R:=Ya (show ∀k,(Yab A1 15 c1).ownBlock=some k->k≠J from λ k z=>by have:=(y.out.own.lt k z).2;omega);have V:=Ya (y.out.below m);clear y;have y:=V;clear V;have a1:=Ya (t.out.below m);clear t;have t:=a1;clear a1;change K _ (w2.alloc (.cells #[.string kMain,.slice (some ⟨w.heap.size,0,none⟩) 2 2] 82));rw[<- a5,<- q];clear a5 q m a;have a:=c;clear c;refine d _ _ ?_;clear d K;refine wpAny_ready (rs:=[2]) (by kernel_rfl) (by simp) ?_;refine Yf rfl (λ K d=>?_) Yi;rw[if_pos (by kernel_rfl)];refine Zi (.tmp 11) (.tmp 12) _ rfl O.heap.size 82 Ze underlying84 rfl (by decide) (.slice A1 15 c1) 15 I (by kernel_rfl) y.out.own b6.heap.size A2 39 c2 H (by kernel_rfl) (Zew t.out.oc Zcr) t.out.nil t.out.rd t.out.oc.one (by simp only[maxLen];omega) (by omega) a.out.size ?_;intro v3 e8 o u F f;obtain⟨U,c3,rfl⟩:=Za o;have L:=Ya (Zex y.out t.out o u f);have c:=Ya (a.out.trans F);have Q:=Ya (show ∀k,(Yab U 54 c3).ownBlock=some k->k≠J from λ k z=>by
      rcases f with e|e
      .exact R.out k (e.symm.trans z)
      .have e2:some k=some b6.heap.size:=z.symm.trans e
       have e3:k=b6.heap.size:=Option.some.inj e2;have:=G.out.lt;omega)
     have A:=Ya (G.out.grown u R.out);clear R G;have R:=Q;have G:=A;clear Q A;clear o u F f a y t;have a:=c;clear c;refine d _ _ ?_;clear d K;refine wpAny_ready (rs:=[5]) (by kernel_rfl) (by simp) ?_;refine Yf rfl (λ K d=>?_) Yi;rw[if_pos (by kernel_rfl)];refine Zi (.tmp 13) (.tmp 15) _ rfl O.heap.size 82 Ze underlying84 rfl (by decide) (.slice U 54 c3) 54 (I++H) (by kernel_rfl) L.out.own e8.heap.size (some ⟨J,0,none⟩) 1 1 [.string kMain,.slice (some ⟨w.heap.size,0,none⟩) 2 2] (by kernel_rfl) rfl (λ h=>by cases h) G.out.rd (by simp[Yt]) (by simp only[maxLen];omega) (by omega) a.out.size ?_;intro v4 e7 r B C l;obtain⟨A4,c4,rfl⟩:=Za r;have j:=Zey L.out (P.out.below a.out) a.out.size B l;have g:=Ya (s.out.trans ((a.out.trans C).mono s.out.size));have HN:=Ya (Z.out _ _ A4 c4 e7 g.out r j);clear r B C l j;refine d _ _ ?_;clear d K;refine wpAny_ready (rs:=[8]) (by kernel_rfl) (by simp) ?_;refine Yf rfl (λ K d=>?_) Yi;go_simp
     refine HN.out.mono ?_;rintro e g6 ⟨Fs,b,p,FF,E,rfl,z,D⟩;have M:=Ya E;have HK:=Ya (z.lo g.out.size);have N:=Ya (g.out.trans (D.mono g.out.size));clear E z D;go_simp
     refine d _ _ ?_;clear d K;refine wpAny_take (i:=9) (v:=?v9_5) rfl (by kernel_rfl) (by kernel_rfl) (by kernel_rfl) (λ _ _ _ h=>h) (Or.inl ⟨by rfl,?y9_5⟩) ?z9_5
     case y9_5=>(intro w;first | (go_simp;done) | (go_simp;with_reducible rfl))
     refine wpAny_done (by kernel_rfl) ?_ _;go_wp2_with fail
     go_ret
     exact⟨Fs,b,p,FF,M.out,rfl,HK.out,N.out⟩
  .skip
   have m0:=(P.out.below a.out).c0;have m1:=(P.out.below a.out).c1;go_simp
   refine d _ _ ?_;clear d K;refine wpAny_ready (rs:=[1,4]) (by kernel_rfl) (by simp) ?_;refine Yf rfl (λ K d=>?_) (Yf rfl (λ K d=>?_) Yi)
   .skip
    go_simp
    refine(Zkv O.heap.size w1 (HL.out.on (s.out.trans (a.out.mono s.out.size))) y.out).mono ?_;rintro e b1 ⟨A2,c2,H,rfl,X,k2,T⟩;have c:=Ya (a.out.trans (T.mono a.out.size));clear y;have y:=Ya X;have t:=Ya k2;clear X k2 T a;have a:=c;clear c;go_simp
    refine d _ _ ?_;clear d K;refine wpAny_ready (rs:=[2,4]) (by kernel_rfl) (by simp) ?_;refine Yf rfl (λ K d=>?_) (Yf rfl (λ K d=>?_) Yi)
    .skip
     rw[if_pos (by kernel_rfl)];refine Zi (.tmp 11) (.tmp 12) _ rfl O.heap.size 82 Ze underlying84 rfl (by decide) (.slice A1 15 c1) 15 I (by kernel_rfl) y.out.own b1.heap.size A2 39 c2 H (by kernel_rfl) (Zew t.out.oc Zcr) t.out.nil t.out.rd t.out.oc.one (by simp only[maxLen];omega) (by omega) a.out.size ?_;intro v3 c5 o u F f;obtain⟨U,c3,rfl⟩:=Za o;have L:=Ya (Zex y.out t.out o u f);have c:=Ya (a.out.trans F);clear o u F f a y t;have a:=c;clear c;refine d _ _ ?_;clear d K;refine wpAny_ready (rs:=[4]) (by kernel_rfl) (by simp) ?_;refine Yf rfl (λ K d=>?_) Yi;go_simp
     obtain⟨c9,b0⟩:=Yx (c5.alloc (.cells #[.string kMain,.slice (some ⟨w.heap.size,0,none⟩) 2 2] 82));obtain⟨J,q⟩:=Yx c5.heap.size;have m:Below c5.heap.size c5 c9:=by rw[b0];exact(Yj _ _).alloc (Yc _) _
     have G:=Ya (show KLt c9 J w.heap.size from⟨by rw[b0,q];exact heap_alloc_new _ _⟩);have c:=Ya (a.out.trans (m.mono a.out.size));have R:=Ya (show ∀k,(Yab U 54 c3).ownBlock=some k->k≠J from λ k z=>by have:=(L.out.own.lt k z).2;omega);have Y:=Ya (L.out.below m);clear L;have L:=Y;clear Y;change K _ (c5.alloc (.cells #[.string kMain,.slice (some ⟨w.heap.size,0,none⟩) 2 2] 82));rw[<- b0,<- q];clear b0 q m a;have a:=c;clear c;refine d _ _ ?_;clear d K;refine wpAny_ready (rs:=[5]) (by kernel_rfl) (by simp) ?_;refine Yf rfl (λ K d=>?_) Yi;rw[if_pos (by kernel_rfl)];refine Zi (.tmp 13) (.tmp 15) _ rfl O.heap.size 82 Ze underlying84 rfl (by decide) (.slice U 54 c3) 54 (I++H) (by kernel_rfl) L.out.own c9.heap.size (some ⟨J,0,none⟩) 1 1 [.string kMain,.slice (some ⟨w.heap.size,0,none⟩) 2 2] (by kernel_rfl) rfl (λ h=>by cases h) G.out.rd (by simp[Yt]) (by simp only[maxLen];omega) (by omega) a.out.size ?_;intro v4 g1 r B C l;obtain⟨A4,c4,rfl⟩:=Za r;have j:=Zey L.out (P.out.below a.out) a.out.size B l;have g:=Ya (s.out.trans ((a.out.trans C).mono s.out.size));have HN:=Ya (Z.out _ _ A4 c4 g1 g.out r j);clear r B C l j;refine d _ _ ?_;clear d K;refine wpAny_ready (rs:=[8]) (by kernel_rfl) (by simp) ?_;refine Yf rfl (λ K d=>?_) Yi;go_simp
     refine HN.out.mono ?_;rintro e g5 ⟨Fs,b,p,FF,E,rfl,z,D⟩;have M:=Ya E;have HK:=Ya (z.lo g.out.size);have N:=Ya (g.out.trans (D.mono g.out.size));clear E z D;go_simp
     refine d _ _ ?_;clear d K;refine wpAny_take (i:=9) (v:=?v9_6) rfl (by kernel_rfl) (by kernel_rfl) (by kernel_rfl) (λ _ _ _ h=>h) (Or.inl ⟨by rfl,?y9_6⟩) ?z9_6
     case y9_6=>(intro w;first | (go_simp;done) | (go_simp;with_reducible rfl))
     refine wpAny_done (by kernel_rfl) ?_ _;go_wp2_with fail
     go_ret
     exact⟨Fs,b,p,FF,M.out,rfl,HK.out,N.out⟩
    .skip
     go_simp
     obtain⟨b8,a8⟩:=Yx (b1.alloc (.cells #[.string kMain,.slice (some ⟨w.heap.size,0,none⟩) 2 2] 82));obtain⟨J,q⟩:=Yx b1.heap.size;have m:Below b1.heap.size b1 b8:=by rw[a8];exact(Yj _ _).alloc (Yc _) _
     have G:=Ya (show KLt b8 J w.heap.size from⟨by rw[a8,q];exact heap_alloc_new _ _⟩);have c:=Ya (a.out.trans (m.mono a.out.size));have R:=Ya (show ∀k,(Yab A1 15 c1).ownBlock=some k->k≠J from λ k z=>by have:=(y.out.own.lt k z).2;omega);have V:=Ya (y.out.below m);clear y;have y:=V;clear V;have a1:=Ya (t.out.below m);clear t;have t:=a1;clear a1;change K _ (b1.alloc (.cells #[.string kMain,.slice (some ⟨w.heap.size,0,none⟩) 2 2] 82));rw[<- a8,<- q];clear a8 q m a;have a:=c;clear c;refine d _ _ ?_;clear d K;refine wpAny_ready (rs:=[2]) (by kernel_rfl) (by simp) ?_;refine Yf rfl (λ K d=>?_) Yi;rw[if_pos (by kernel_rfl)];refine Zi (.tmp 11) (.tmp 12) _ rfl O.heap.size 82 Ze underlying84 rfl (by decide) (.slice A1 15 c1) 15 I (by kernel_rfl) y.out.own b8.heap.size A2 39 c2 H (by kernel_rfl) (Zew t.out.oc Zcr) t.out.nil t.out.rd t.out.oc.one (by simp only[maxLen];omega) (by omega) a.out.size ?_;intro v3 f1 o u F f;obtain⟨U,c3,rfl⟩:=Za o;have L:=Ya (Zex y.out t.out o u f);have c:=Ya (a.out.trans F);have Q:=Ya (show ∀k,(Yab U 54 c3).ownBlock=some k->k≠J from λ k z=>by
      rcases f with e|e
      .exact R.out k (e.symm.trans z)
      .have e2:some k=some b8.heap.size:=z.symm.trans e
       have e3:k=b8.heap.size:=Option.some.inj e2;have:=G.out.lt;omega)
     have A:=Ya (G.out.grown u R.out);clear R G;have R:=Q;have G:=A;clear Q A;clear o u F f a y t;have a:=c;clear c;refine d _ _ ?_;clear d K;refine wpAny_ready (rs:=[5]) (by kernel_rfl) (by simp) ?_;refine Yf rfl (λ K d=>?_) Yi;rw[if_pos (by kernel_rfl)];refine Zi (.tmp 13) (.tmp 15) _ rfl O.heap.size 82 Ze underlying84 rfl (by decide) (.slice U 54 c3) 54 (I++H) (by kernel_rfl) L.out.own f1.heap.size (some ⟨J,0,none⟩) 1 1 [.string kMain,.slice (some ⟨w.heap.size,0,none⟩) 2 2] (by kernel_rfl) rfl (λ h=>by cases h) G.out.rd (by simp[Yt]) (by simp only[maxLen];omega) (by omega) a.out.size ?_;intro v4 f9 r B C l;obtain⟨A4,c4,rfl⟩:=Za r;have j:=Zey L.out (P.out.below a.out) a.out.size B l;have g:=Ya (s.out.trans ((a.out.trans C).mono s.out.size));have HN:=Ya (Z.out _ _ A4 c4 f9 g.out r j);clear r B C l j;refine d _ _ ?_;clear d K;refine wpAny_ready (rs:=[8]) (by kernel_rfl) (by simp) ?_;refine Yf rfl (λ K d=>?_) Yi;go_simp
     refine HN.out.mono ?_;rintro e g4 ⟨Fs,b,p,FF,E,rfl,z,D⟩;have M:=Ya E;have HK:=Ya (z.lo g.out.size);have N:=Ya (g.out.trans (D.mono g.out.size));clear E z D;go_simp
     refine d _ _ ?_;clear d K;refine wpAny_take (i:=9) (v:=?v9_7) rfl (by kernel_rfl) (by kernel_rfl) (by kernel_rfl) (λ _ _ _ h=>h) (Or.inl ⟨by rfl,?y9_7⟩) ?z9_7
     case y9_7=>(intro w;first | (go_simp;done) | (go_simp;with_reducible rfl))
     refine wpAny_done (by kernel_rfl) ?_ _;go_wp2_with fail
     go_ret
     exact⟨Fs,b,p,FF,M.out,rfl,HK.out,N.out⟩
   .skip
    go_simp
    obtain⟨d3,a6⟩:=Yx (w1.alloc (.cells #[.string kMain,.slice (some ⟨w.heap.size,0,none⟩) 2 2] 82));obtain⟨J,q⟩:=Yx w1.heap.size;have m:Below w1.heap.size w1 d3:=by rw[a6];exact(Yj _ _).alloc (Yc _) _
    have G:=Ya (show KLt d3 J w.heap.size from⟨by rw[a6,q];exact heap_alloc_new _ _⟩);have c:=Ya (a.out.trans (m.mono a.out.size));have R:=Ya (show ∀k,(Yab A1 15 c1).ownBlock=some k->k≠J from λ k z=>by have:=(y.out.own.lt k z).2;omega);have V:=Ya (y.out.below m);clear y;have y:=V;clear V;change K _ (w1.alloc (.cells #[.string kMain,.slice (some ⟨w.heap.size,0,none⟩) 2 2] 82));rw[<- a6,<- q];clear a6 q m a;have a:=c;clear c;refine d _ _ ?_;clear d K;refine wpAny_ready (rs:=[1]) (by kernel_rfl) (by simp) ?_;refine Yf rfl (λ K d=>?_) Yi;go_simp
    refine(Zkv O.heap.size d3 (HL.out.on (s.out.trans (a.out.mono s.out.size))) y.out).mono ?_;rintro e d4 ⟨A2,c2,H,rfl,X,k2,T⟩;have c:=Ya (a.out.trans (T.mono a.out.size));clear y;have y:=Ya X;have t:=Ya k2;have A:=Ya (G.out.below T);clear G;have G:=A;clear A;clear X k2 T a;have a:=c;clear c;go_simp
    refine d _ _ ?_;clear d K;refine wpAny_ready (rs:=[2]) (by kernel_rfl) (by simp) ?_;refine Yf rfl (λ K d=>?_) Yi;rw[if_pos (by kernel_rfl)];refine Zi (.tmp 11) (.tmp 12) _ rfl O.heap.size 82 Ze underlying84 rfl (by decide) (.slice A1 15 c1) 15 I (by kernel_rfl) y.out.own d4.heap.size A2 39 c2 H (by kernel_rfl) (Zew t.out.oc Zcr) t.out.nil t.out.rd t.out.oc.one (by simp only[maxLen];omega) (by omega) a.out.size ?_;intro v3 f5 o u F f;obtain⟨U,c3,rfl⟩:=Za o;have L:=Ya (Zex y.out t.out o u f);have c:=Ya (a.out.trans F);have Q:=Ya (show ∀k,(Yab U 54 c3).ownBlock=some k->k≠J from λ k z=>by
     rcases f with e|e
     .exact R.out k (e.symm.trans z)
     .have e2:some k=some d4.heap.size:=z.symm.trans e
      have e3:k=d4.heap.size:=Option.some.inj e2;have:=G.out.lt;omega)
    have A:=Ya (G.out.grown u R.out);clear R G;have R:=Q;have G:=A;clear Q A;clear o u F f a y t;have a:=c;clear c;refine d _ _ ?_;clear d K;refine wpAny_ready (rs:=[5]) (by kernel_rfl) (by simp) ?_;refine Yf rfl (λ K d=>?_) Yi;rw[if_pos (by kernel_rfl)];refine Zi (.tmp 13) (.tmp 15) _ rfl O.heap.size 82 Ze underlying84 rfl (by decide) (.slice U 54 c3) 54 (I++H) (by kernel_rfl) L.out.own f5.heap.size (some ⟨J,0,none⟩) 1 1 [.string kMain,.slice (some ⟨w.heap.size,0,none⟩) 2 2] (by kernel_rfl) rfl (λ h=>by cases h) G.out.rd (by simp[Yt]) (by simp only[maxLen];omega) (by omega) a.out.size ?_;intro v4 f8 r B C l;obtain⟨A4,c4,rfl⟩:=Za r;have j:=Zey L.out (P.out.below a.out) a.out.size B l;have g:=Ya (s.out.trans ((a.out.trans C).mono s.out.size));have HN:=Ya (Z.out _ _ A4 c4 f8 g.out r j);clear r B C l j;refine d _ _ ?_;clear d K;refine wpAny_ready (rs:=[8]) (by kernel_rfl) (by simp) ?_;refine Yf rfl (λ K d=>?_) Yi;go_simp
    refine HN.out.mono ?_;rintro e g9 ⟨Fs,b,p,FF,E,rfl,z,D⟩;have M:=Ya E;have HK:=Ya (z.lo g.out.size);have N:=Ya (g.out.trans (D.mono g.out.size));clear E z D;go_simp
    refine d _ _ ?_;clear d K;refine wpAny_take (i:=9) (v:=?v9_8) rfl (by kernel_rfl) (by kernel_rfl) (by kernel_rfl) (λ _ _ _ h=>h) (Or.inl ⟨by rfl,?y9_8⟩) ?z9_8
    case y9_8=>(intro w;first | (go_simp;done) | (go_simp;with_reducible rfl))
    refine wpAny_done (by kernel_rfl) ?_ _;go_wp2_with fail
    go_ret
    exact⟨Fs,b,p,FF,M.out,rfl,HK.out,N.out⟩
 .skip
  have m0:=(P.out.below a.out).c0;have m1:=(P.out.below a.out).c1;go_simp
  refine d _ _ ?_;clear d K;refine wpAny_ready (rs:=[0,4]) (by kernel_rfl) (by simp) ?_;refine Yf rfl (λ K d=>?_) (Yf rfl (λ K d=>?_) Yi)
  .skip
   go_simp
   refine(Zwr O.heap.size wq (HL.out.on (s.out.trans (a.out.mono s.out.size))) a.out.size).mono ?_;rintro e b3 ⟨A1,c1,I,rfl,X,T,b5⟩;have c:=Ya (a.out.trans (T.mono a.out.size));have y:=Ya X;clear X T b5 a;have a:=c;clear c;go_simp
   refine d _ _ ?_;clear d K;refine wpAny_ready (rs:=[1,4]) (by kernel_rfl) (by simp) ?_;refine Yf rfl (λ K d=>?_) (Yf rfl (λ K d=>?_) Yi)
   .skip
    go_simp
    refine(Zkv O.heap.size b3 (HL.out.on (s.out.trans (a.out.mono s.out.size))) y.out).mono ?_;rintro e b4 ⟨A2,c2,H,rfl,X,k2,T⟩;have c:=Ya (a.out.trans (T.mono a.out.size));clear y;have y:=Ya X;have t:=Ya k2;clear X k2 T a;have a:=c;clear c;go_simp
    refine d _ _ ?_;clear d K;refine wpAny_ready (rs:=[2,4]) (by kernel_rfl) (by simp) ?_;refine Yf rfl (λ K d=>?_) (Yf rfl (λ K d=>?_) Yi)
    .skip
     rw[if_pos (by kernel_rfl)];refine Zi (.tmp 11) (.tmp 12) _ rfl O.heap.size 82 Ze underlying84 rfl (by decide) (.slice A1 15 c1) 15 I (by kernel_rfl) y.out.own b4.heap.size A2 39 c2 H (by kernel_rfl) (Zew t.out.oc Zcr) t.out.nil t.out.rd t.out.oc.one (by simp only[maxLen];omega) (by omega) a.out.size ?_;intro v3 b7 o u F f;obtain⟨U,c3,rfl⟩:=Za o;have L:=Ya (Zex y.out t.out o u f);have c:=Ya (a.out.trans F);clear o u F f a y t;have a:=c;clear c;refine d _ _ ?_;clear d K;refine wpAny_ready (rs:=[4]) (by kernel_rfl) (by simp) ?_;refine Yf rfl (λ K d=>?_) Yi;go_simp
     obtain⟨d2,a2⟩:=Yx (b7.alloc (.cells #[.string kMain,.slice (some ⟨w.heap.size,0,none⟩) 2 2] 82));obtain⟨J,q⟩:=Yx b7.heap.size;have m:Below b7.heap.size b7 d2:=by rw[a2];exact(Yj _ _).alloc (Yc _) _
     have G:=Ya (show KLt d2 J w.heap.size from⟨by rw[a2,q];exact heap_alloc_new _ _⟩);have c:=Ya (a.out.trans (m.mono a.out.size));have R:=Ya (show ∀k,(Yab U 54 c3).ownBlock=some k->k≠J from λ k z=>by have:=(L.out.own.lt k z).2;omega);have Y:=Ya (L.out.below m);clear L;have L:=Y;clear Y;change K _ (b7.alloc (.cells #[.string kMain,.slice (some ⟨w.heap.size,0,none⟩) 2 2] 82));rw[<- a2,<- q];clear a2 q m a;have a:=c;clear c;refine d _ _ ?_;clear d K;refine wpAny_ready (rs:=[5]) (by kernel_rfl) (by simp) ?_;refine Yf rfl (λ K d=>?_) Yi;rw[if_pos (by kernel_rfl)];refine Zi (.tmp 13) (.tmp 15) _ rfl O.heap.size 82 Ze underlying84 rfl (by decide) (.slice U 54 c3) 54 (I++H) (by kernel_rfl) L.out.own d2.heap.size (some ⟨J,0,none⟩) 1 1 [.string kMain,.slice (some ⟨w.heap.size,0,none⟩) 2 2] (by kernel_rfl) rfl (λ h=>by cases h) G.out.rd (by simp[Yt]) (by simp only[maxLen];omega) (by omega) a.out.size ?_;intro v4 g2 r B C l;obtain⟨A4,c4,rfl⟩:=Za r;have j:=Zey L.out (P.out.below a.out) a.out.size B l;have g:=Ya (s.out.trans ((a.out.trans C).mono s.out.size));have HN:=Ya (Z.out _ _ A4 c4 g2 g.out r j);clear r B C l j;refine d _ _ ?_;clear d K;refine wpAny_ready (rs:=[8]) (by kernel_rfl) (by simp) ?_;refine Yf rfl (λ K d=>?_) Yi;go_simp
     refine HN.out.mono ?_;rintro e g3 ⟨Fs,b,p,FF,E,rfl,z,D⟩;have M:=Ya E;have HK:=Ya (z.lo g.out.size);have N:=Ya (g.out.trans (D.mono g.out.size));clear E z D;go_simp
     refine d _ _ ?_;clear d K;refine wpAny_take (i:=9) (v:=?v9_9) rfl (by kernel_rfl) (by kernel_rfl) (by kernel_rfl) (λ _ _ _ h=>h) (Or.inl ⟨by rfl,?y9_9⟩) ?z9_9
     case y9_9=>(intro w;first | (go_simp;done) | (go_simp;with_reducible rfl))
     refine wpAny_done (by kernel_rfl) ?_ _;go_wp2_with fail
     go_ret
     exact⟨Fs,b,p,FF,M.out,rfl,HK.out,N.out⟩
    .skip
     go_simp
     obtain⟨b9,a3⟩:=Yx (b4.alloc (.cells #[.string kMain,.slice (some ⟨w.heap.size,0,none⟩) 2 2] 82));obtain⟨J,q⟩:=Yx b4.heap.size;have m:Below b4.heap.size b4 b9:=by rw[a3];exact(Yj _ _).alloc (Yc _) _
     have G:=Ya (show KLt b9 J w.heap.size from⟨by rw[a3,q];exact heap_alloc_new _ _⟩);have c:=Ya (a.out.trans (m.mono a.out.size));have R:=Ya (show ∀k,(Yab A1 15 c1).ownBlock=some k->k≠J from λ k z=>by have:=(y.out.own.lt k z).2;omega);have V:=Ya (y.out.below m);clear y;have y:=V;clear V;have a1:=Ya (t.out.below m);clear t;have t:=a1;clear a1;change K _ (b4.alloc (.cells #[.string kMain,.slice (some ⟨w.heap.size,0,none⟩) 2 2] 82));rw[<- a3,<- q];clear a3 q m a;have a:=c;clear c;refine d _ _ ?_;clear d K;refine wpAny_ready (rs:=[2]) (by kernel_rfl) (by simp) ?_;refine Yf rfl (λ K d=>?_) Yi;rw[if_pos (by kernel_rfl)];refine Zi (.tmp 11) (.tmp 12) _ rfl O.heap.size 82 Ze underlying84 rfl (by decide) (.slice A1 15 c1) 15 I (by kernel_rfl) y.out.own b9.heap.size A2 39 c2 H (by kernel_rfl) (Zew t.out.oc Zcr) t.out.nil t.out.rd t.out.oc.one (by simp only[maxLen];omega) (by omega) a.out.size ?_;intro v3 g0 o u F f;obtain⟨U,c3,rfl⟩:=Za o;have L:=Ya (Zex y.out t.out o u f);have c:=Ya (a.out.trans F);have Q:=Ya (show ∀k,(Yab U 54 c3).ownBlock=some k->k≠J from λ k z=>by
      rcases f with e|e
      .exact R.out k (e.symm.trans z)
      .have e2:some k=some b9.heap.size:=z.symm.trans e
       have e3:k=b9.heap.size:=Option.some.inj e2;have:=G.out.lt;omega)
     have A:=Ya (G.out.grown u R.out);clear R G;have R:=Q;have G:=A;clear Q A;clear o u F f a y t;have a:=c;clear c;refine d _ _ ?_;clear d K;refine wpAny_ready (rs:=[5]) (by kernel_rfl) (by simp) ?_;refine Yf rfl (λ K d=>?_) Yi;rw[if_pos (by kernel_rfl)];refine Zi (.tmp 13) (.tmp 15) _ rfl O.heap.size 82 Ze underlying84 rfl (by decide) (.slice U 54 c3) 54 (I++H) (by kernel_rfl) L.out.own g0.heap.size (some ⟨J,0,none⟩) 1 1 [.string kMain,.slice (some ⟨w.heap.size,0,none⟩) 2 2] (by kernel_rfl) rfl (λ h=>by cases h) G.out.rd (by simp[Yt]) (by simp only[maxLen];omega) (by omega) a.out.size ?_;intro v4 e9 r B C l;obtain⟨A4,c4,rfl⟩:=Za r;have j:=Zey L.out (P.out.below a.out) a.out.size B l;have g:=Ya (s.out.trans ((a.out.trans C).mono s.out.size));have HN:=Ya (Z.out _ _ A4 c4 e9 g.out r j);clear r B C l j;refine d _ _ ?_;clear d K;refine wpAny_ready (rs:=[8]) (by kernel_rfl) (by simp) ?_;refine Yf rfl (λ K d=>?_) Yi;go_simp
     refine HN.out.mono ?_;rintro e h0 ⟨Fs,b,p,FF,E,rfl,z,D⟩;have M:=Ya E;have HK:=Ya (z.lo g.out.size);have N:=Ya (g.out.trans (D.mono g.out.size));clear E z D;go_simp
     refine d _ _ ?_;clear d K;refine wpAny_take (i:=9) (v:=?v9_10) rfl (by kernel_rfl) (by kernel_rfl) (by kernel_rfl) (λ _ _ _ h=>h) (Or.inl ⟨by rfl,?y9_10⟩) ?z9_10
     case y9_10=>(intro w;first | (go_simp;done) | (go_simp;with_reducible rfl))
     refine wpAny_done (by kernel_rfl) ?_ _;go_wp2_with fail
     go_ret
     exact⟨Fs,b,p,FF,M.out,rfl,HK.out,N.out⟩
   .skip
    go_simp
    obtain⟨d0,a4⟩:=Yx (b3.alloc (.cells #[.string kMain,.slice (some ⟨w.heap.size,0,none⟩) 2 2] 82));obtain⟨J,q⟩:=Yx b3.heap.size;have m:Below b3.heap.size b3 d0:=by rw[a4];exact(Yj _ _).alloc (Yc _) _
    have G:=Ya (show KLt d0 J w.heap.size from⟨by rw[a4,q];exact heap_alloc_new _ _⟩);have c:=Ya (a.out.trans (m.mono a.out.size));have R:=Ya (show ∀k,(Yab A1 15 c1).ownBlock=some k->k≠J from λ k z=>by have:=(y.out.own.lt k z).2;omega);have V:=Ya (y.out.below m);clear y;have y:=V;clear V;change K _ (b3.alloc (.cells #[.string kMain,.slice (some ⟨w.heap.size,0,none⟩) 2 2] 82));rw[<- a4,<- q];clear a4 q m a;have a:=c;clear c;refine d _ _ ?_;clear d K;refine wpAny_ready (rs:=[1]) (by kernel_rfl) (by simp) ?_;refine Yf rfl (λ K d=>?_) Yi;go_simp
    refine(Zkv O.heap.size d0 (HL.out.on (s.out.trans (a.out.mono s.out.size))) y.out).mono ?_;rintro e d6 ⟨A2,c2,H,rfl,X,k2,T⟩;have c:=Ya (a.out.trans (T.mono a.out.size));clear y;have y:=Ya X;have t:=Ya k2;have A:=Ya (G.out.below T);clear G;have G:=A;clear A;clear X k2 T a;have a:=c;clear c;go_simp
    refine d _ _ ?_;clear d K;refine wpAny_ready (rs:=[2]) (by kernel_rfl) (by simp) ?_;refine Yf rfl (λ K d=>?_) Yi;rw[if_pos (by kernel_rfl)];refine Zi (.tmp 11) (.tmp 12) _ rfl O.heap.size 82 Ze underlying84 rfl (by decide) (.slice A1 15 c1) 15 I (by kernel_rfl) y.out.own d6.heap.size A2 39 c2 H (by kernel_rfl) (Zew t.out.oc Zcr) t.out.nil t.out.rd t.out.oc.one (by simp only[maxLen];omega) (by omega) a.out.size ?_;intro v3 f3 o u F f;obtain⟨U,c3,rfl⟩:=Za o;have L:=Ya (Zex y.out t.out o u f);have c:=Ya (a.out.trans F);have Q:=Ya (show ∀k,(Yab U 54 c3).ownBlock=some k->k≠J from λ k z=>by
     rcases f with e|e
     .exact R.out k (e.symm.trans z)
     .have e2:some k=some d6.heap.size:=z.symm.trans e
      have e3:k=d6.heap.size:=Option.some.inj e2;have:=G.out.lt;omega)
    have A:=Ya (G.out.grown u R.out);clear R G;have R:=Q;have G:=A;clear Q A;clear o u F f a y t;have a:=c;clear c;refine d _ _ ?_;clear d K;refine wpAny_ready (rs:=[5]) (by kernel_rfl) (by simp) ?_;refine Yf rfl (λ K d=>?_) Yi;rw[if_pos (by kernel_rfl)];refine Zi (.tmp 13) (.tmp 15) _ rfl O.heap.size 82 Ze underlying84 rfl (by decide) (.slice U 54 c3) 54 (I++H) (by kernel_rfl) L.out.own f3.heap.size (some ⟨J,0,none⟩) 1 1 [.string kMain,.slice (some ⟨w.heap.size,0,none⟩) 2 2] (by kernel_rfl) rfl (λ h=>by cases h) G.out.rd (by simp[Yt]) (by simp only[maxLen];omega) (by omega) a.out.size ?_;intro v4 f6 r B C l;obtain⟨A4,c4,rfl⟩:=Za r;have j:=Zey L.out (P.out.below a.out) a.out.size B l;have g:=Ya (s.out.trans ((a.out.trans C).mono s.out.size));have HN:=Ya (Z.out _ _ A4 c4 f6 g.out r j);clear r B C l j;refine d _ _ ?_;clear d K;refine wpAny_ready (rs:=[8]) (by kernel_rfl) (by simp) ?_;refine Yf rfl (λ K d=>?_) Yi;go_simp
    refine HN.out.mono ?_;rintro e h1 ⟨Fs,b,p,FF,E,rfl,z,D⟩;have M:=Ya E;have HK:=Ya (z.lo g.out.size);have N:=Ya (g.out.trans (D.mono g.out.size));clear E z D;go_simp
    refine d _ _ ?_;clear d K;refine wpAny_take (i:=9) (v:=?v9_11) rfl (by kernel_rfl) (by kernel_rfl) (by kernel_rfl) (λ _ _ _ h=>h) (Or.inl ⟨by rfl,?y9_11⟩) ?z9_11
    case y9_11=>(intro w;first | (go_simp;done) | (go_simp;with_reducible rfl))
    refine wpAny_done (by kernel_rfl) ?_ _;go_wp2_with fail
    go_ret
    exact⟨Fs,b,p,FF,M.out,rfl,HK.out,N.out⟩
  .skip
   go_simp
   obtain⟨d5,a9⟩:=Yx (wq.alloc (.cells #[.string kMain,.slice (some ⟨w.heap.size,0,none⟩) 2 2] 82));obtain⟨J,q⟩:=Yx wq.heap.size;have m:Below wq.heap.size wq d5:=by rw[a9];exact(Yj _ _).alloc (Yc _) _
   have G:=Ya (show KLt d5 J w.heap.size from⟨by rw[a9,q];exact heap_alloc_new _ _⟩);have c:=Ya (a.out.trans (m.mono a.out.size));change K _ (wq.alloc (.cells #[.string kMain,.slice (some ⟨w.heap.size,0,none⟩) 2 2] 82));rw[<- a9,<- q];clear a9 q m a;have a:=c;clear c;refine d _ _ ?_;clear d K;refine wpAny_ready (rs:=[0]) (by kernel_rfl) (by simp) ?_;refine Yf rfl (λ K d=>?_) Yi;go_simp
   refine(Zwr O.heap.size d5 (HL.out.on (s.out.trans (a.out.mono s.out.size))) a.out.size).mono ?_;rintro e e6 ⟨A1,c1,I,rfl,X,T,b5⟩;have c:=Ya (a.out.trans (T.mono a.out.size));have y:=Ya X;have A:=Ya (G.out.below T);have R:=Ya (show ∀k,(Yab A1 15 c1).ownBlock=some k->k≠J from λ k z=>by have:=b5 k z;have:=G.out.lt;omega);clear G;have G:=A;clear A;clear X T b5 a;have a:=c;clear c;go_simp
   refine d _ _ ?_;clear d K;refine wpAny_ready (rs:=[1]) (by kernel_rfl) (by simp) ?_;refine Yf rfl (λ K d=>?_) Yi;go_simp
   refine(Zkv O.heap.size e6 (HL.out.on (s.out.trans (a.out.mono s.out.size))) y.out).mono ?_;rintro e d8 ⟨A2,c2,H,rfl,X,k2,T⟩;have c:=Ya (a.out.trans (T.mono a.out.size));clear y;have y:=Ya X;have t:=Ya k2;have A:=Ya (G.out.below T);clear G;have G:=A;clear A;clear X k2 T a;have a:=c;clear c;go_simp
   refine d _ _ ?_;clear d K;refine wpAny_ready (rs:=[2]) (by kernel_rfl) (by simp) ?_;refine Yf rfl (λ K d=>?_) Yi;rw[if_pos (by kernel_rfl)];refine Zi (.tmp 11) (.tmp 12) _ rfl O.heap.size 82 Ze underlying84 rfl (by decide) (.slice A1 15 c1) 15 I (by kernel_rfl) y.out.own d8.heap.size A2 39 c2 H (by kernel_rfl) (Zew t.out.oc Zcr) t.out.nil t.out.rd t.out.oc.one (by simp only[maxLen];omega) (by omega) a.out.size ?_;intro v3 f2 o u F f;obtain⟨U,c3,rfl⟩:=Za o;have L:=Ya (Zex y.out t.out o u f);have c:=Ya (a.out.trans F);have Q:=Ya (show ∀k,(Yab U 54 c3).ownBlock=some k->k≠J from λ k z=>by
    rcases f with e|e
    .exact R.out k (e.symm.trans z)
    .have e2:some k=some d8.heap.size:=z.symm.trans e
     have e3:k=d8.heap.size:=Option.some.inj e2;have:=G.out.lt;omega)
   have A:=Ya (G.out.grown u R.out);clear R G;have R:=Q;have G:=A;clear Q A;clear o u F f a y t;have a:=c;clear c;refine d _ _ ?_;clear d K;refine wpAny_ready (rs:=[5]) (by kernel_rfl) (by simp) ?_;refine Yf rfl (λ K d=>?_) Yi;rw[if_pos (by kernel_rfl)];refine Zi (.tmp 13) (.tmp 15) _ rfl O.heap.size 82 Ze underlying84 rfl (by decide) (.slice U 54 c3) 54 (I++H) (by kernel_rfl) L.out.own f2.heap.size (some ⟨J,0,none⟩) 1 1 [.string kMain,.slice (some ⟨w.heap.size,0,none⟩) 2 2] (by kernel_rfl) rfl (λ h=>by cases h) G.out.rd (by simp[Yt]) (by simp only[maxLen];omega) (by omega) a.out.size ?_;intro v4 f0 r B C l;obtain⟨A4,c4,rfl⟩:=Za r;have j:=Zey L.out (P.out.below a.out) a.out.size B l;have g:=Ya (s.out.trans ((a.out.trans C).mono s.out.size));have HN:=Ya (Z.out _ _ A4 c4 f0 g.out r j);clear r B C l j;refine d _ _ ?_;clear d K;refine wpAny_ready (rs:=[8]) (by kernel_rfl) (by simp) ?_;refine Yf rfl (λ K d=>?_) Yi;go_simp
   refine HN.out.mono ?_;rintro e g7 ⟨Fs,b,p,FF,E,rfl,z,D⟩;have M:=Ya E;have HK:=Ya (z.lo g.out.size);have N:=Ya (g.out.trans (D.mono g.out.size));clear E z D;go_simp
   refine d _ _ ?_;clear d K;refine wpAny_take (i:=9) (v:=?v9_12) rfl (by kernel_rfl) (by kernel_rfl) (by kernel_rfl) (λ _ _ _ h=>h) (Or.inl ⟨by rfl,?y9_12⟩) ?z9_12
   case y9_12=>(intro w;first | (go_simp;done) | (go_simp;with_reducible rfl))
   refine wpAny_done (by kernel_rfl) ?_ _;go_wp2_with fail
   go_ret
   exact⟨Fs,b,p,FF,M.out,rfl,HK.out,N.out⟩
