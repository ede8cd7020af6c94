/- Parts. -/
import Derived.Test.YtcjhmiijbojgeaaGreatDoorZGObs
import Derived.Test.YtcjhmiijbojgeaaGreatDoorZKWor
import Derived.BigQuiet
set_option linter.all false
set_option maxHeartbeats 4000000
open Go.Lib renaming hid->Ya
open Nat renaming le_refl->Yc,lt_of_lt_of_le->Ys,le_trans->Yz,le_of_lt->Ya5
open List renaming length_append->Yd,getElem?_append_left->Yn,getElem?_append_right->Yo,mem_cons->Yr,not_mem_nil->Yv,mem_cons_self->Yw,mem_cons_of_mem->Y0,mem_append->Yag,take_zero->Yaj,take_succ_cons->Yaq,drop_zero->Ya0,drop_succ_cons->Ya1,all_eq_true->Ya2,mem_map->Yb3
open Go.Value renaming oneCell'->Yt,int->Yu,slice->Yab,string->Ycu
namespace Go.Proofs.YtcjhmiijbojgeaaGreatDoor
open S Go.Proofs.Tryz Go.RowKit
set_option maxRecDepth 100000
section
def S.callM (I:Img)(m:Mach)(name:ByteArray)(N:Nat):Mach:=((m.setV 31 (I.lab kStub)).goV (I.lab name)).steps_ N
theorem Zh6 {s:ByteArray}:∀{xs:List S.Item},s∈tells xs->∃(j:Nat)(x:S.Item),xs[j]?=some x/\x.kind=2/\x.label=s
 | [],h=>by cases h
 | y::r,h=>by
  rw[tells] at h
  split at h
  .rename_i c
   rcases Yr.1 h with e|h
   .exact⟨0,y,rfl,c,e.symm⟩
   .obtain⟨j,x,h1,h2⟩:=Zh6 h
    exact⟨j+1,x,h1,h2⟩
  .obtain⟨j,x,h1,h2⟩:=Zh6 h
   exact⟨j+1,x,h1,h2⟩
section
variable {gw sw F:List Int}{size:Int}
structure S.Hv (size H half fr to_:Int):Prop where
 size:H+2*half<=size
 h0:0<=half
 ft:(fr=H/\to_=H+half)\/(fr=H+half/\to_=H)
end
end
section
section
variable {H:Zn}{w:World}(hH:∀b k,H b=some k->b<w.heap.size)
theorem Zf7:∀{xs:List S.Item} {b o:Nat},RepC H w (encItems xs) b o->(∀x∈xs,0<=x.word/\x.word<=4294967295)->∀(i:Nat)(x:S.Item),xs[i]?=some x->ItemAt w b (o+i*8) x
 | [],b,o,_,_,i,x,h=>by cases h
 | y::r,b,o,hr,hw,i,x,h=>by
  have c:RepC H w ([.int .i64 y.kind,.int .i64 y.inst.op,.int .i64 y.inst.d,.int .i64 y.inst.a,.int .i64 y.inst.b,.int .i64 y.inst.imm,.str y.label,.int .u32 y.word]++encItems r) b o:=hr;simp only[List.cons_append,List.nil_append,RepC,RepV] at c;obtain⟨_,⟨v0,c0,rfl⟩,_,⟨v1,c1,rfl⟩,_,⟨v2,c2,rfl⟩,_,⟨v3,c3,rfl⟩,_,⟨v4,c4,rfl⟩,_,⟨v5,c5,rfl⟩,_,⟨v6,c6,rfl⟩,_,⟨v7,c7,rfl⟩,e⟩:=c
  cases i with
  | zero =>
   cases h
   rw[Nat.zero_mul,Nat.add_zero];exact⟨c0,c1,c2,c3,c4,c5,c6,c7,(hw y Yw).1,(hw y Yw).2⟩
  | succ i =>
   have:=Zf7 (xs:=r) e (λ z f=>hw z (Y0 _ f)) i x h;rw[show o+(i+1)*8=o+1+1+1+1+1+1+1+1+i*8 from by omega];exact this
include hH
theorem Zj8 {xs:List S.Item}{v:Value}(h:RepV H w (.row xs.length (encItems xs)) v)(f:∀x∈xs,0<=x.word/\x.word<=4294967295):∃A c,v=.slice A xs.length c/\Items w w.heap.size A xs:=by
 simp only[RepV] at h;obtain⟨A,c,rfl,_,_,a⟩:=h;refine⟨A,c,rfl,λ hp=>?_⟩;rcases a with e|⟨b,o,k,rfl,g,_,d⟩
 .cases xs with
  | nil=>simp at hp
  | cons y r=>cases e
 .exact⟨b,o,rfl,hH b k g,Zf7 d f⟩
end
def S.aw (os:List S.Obj):Bool:=os.all λ o=>o.items.all (λ x=>decide (0<=x.word/\x.word<=4294967295)) && decide (o.name.size<=1000) && o.items.all (λ x=>decide (x.label.size<=1000))
theorem Zp5:aw (objs26++[oMain])=true:=by kernel_rfl
theorem Zed {os:List S.Obj}(h:aw os=true):∀x∈os,(∀y∈x.items,0<=y.word/\y.word<=4294967295)/\x.name.size<=maxLen/\∀y∈x.items,y.label.size<=maxLen:=λ x g=>by
 have:=Ya2.1 h x g;simp only[Bool.and_eq_true] at this;obtain⟨⟨e,d⟩,c⟩:=this;have f:=of_decide_eq_true d;refine⟨λ y a=>of_decide_eq_true (Ya2.1 e y a),by simp only[maxLen];omega,λ y a=>?_⟩;have:=of_decide_eq_true (Ya2.1 c y a);simp only[maxLen];omega
end
structure OC (w:World)(B:Nat)(os:List S.Obj)(oc:List Value):Prop where
 len:oc.length=os.length*2
 one:∀u∈oc,u.oneCell'=true
 at_:∀(i:Nat)(x:S.Obj),os[i]?=some x->∃A c,oc[i*2]?=some (.string x.name)/\oc[i*2+1]?=some (.slice A x.items.length c)/\Items w B A x.items/\x.name.size<=maxLen/\∀y∈x.items,y.label.size<=maxLen
theorem Zx5 {w:World}{base:Nat}{e:TypeId}{A:Option Addr}{c:Nat}{os:List S.Obj}{oc:List Value}(g:w.ownsRow base e 2 (.slice A os.length c) os.length oc)(a:OC w w.heap.size os oc):Objs w w.heap.size A os:=λ hp=>by
 obtain⟨b,off,rfl,m,h⟩:=Zap g (by rw[a.len];omega);refine⟨b,off,rfl,m,λ i x j=>?_⟩;obtain⟨p,o,h0,n,f,l,d⟩:=a.at_ i x j;exact⟨h _ _ h0,⟨p,o,h _ _ n,f⟩,l,d⟩
theorem OC.app {w:World}{B:Nat}{a b:List S.Obj}{m n:List Value}(h:OC w B a m)(k:OC w B b n):OC w B (a++b) (m++n):=by
 refine⟨by rw[Yd,Yd,h.len,k.len];omega,λ u o=>(Yag.1 o).elim (h.one u) (k.one u),λ i x d=>?_⟩;by_cases c:i<a.length
 .rw[Yn c] at d
  obtain⟨l,j,h0,g,e⟩:=h.at_ i x d;have f:=h.len;exact⟨l,j,by rw[Yn (by omega)];exact h0,by rw[Yn (by omega)];exact g,e⟩
 .rw[Yo (by omega)] at d
  obtain⟨l,j,h0,g,e⟩:=k.at_ (i-a.length) x d;have f:=h.len;exact⟨l,j,by rw[Yo (by omega),f,show i*2-a.length*2=(i-a.length)*2 from by omega];exact h0,by rw[Yo (by omega),f,show i*2+1-a.length*2=(i-a.length)*2+1 from by omega];exact g,e⟩
theorem OC.below {w w':World}{B:Nat}{os:List S.Obj}{oc:List Value}(h:OC w B os oc)(d:Below B w w'):OC w' B os oc:=⟨h.len,h.one,λ i x f=>by
 obtain⟨j,g,h0,e,c,a⟩:=h.at_ i x f;exact⟨j,g,h0,e,c.below d,a⟩⟩
theorem OC.more {w:World}{B B':Nat}{os:List S.Obj}{oc:List Value}(h:OC w B os oc)(hB:B<=B'):OC w B' os oc:=⟨h.len,h.one,λ i x c=>by
 obtain⟨j,g,h0,f,a,d⟩:=h.at_ i x c;refine⟨j,g,h0,f,λ hp=>?_,d⟩;obtain⟨b,off,e,hb,q⟩:=a hp;exact⟨b,off,e,by omega,q⟩⟩
theorem OC.one_ {w:World}{B:Nat}{x:S.Obj}{A:Option Addr}{c:Nat}(hi:Items w B A x.items)(d:x.name.size<=maxLen)(e:∀y∈x.items,y.label.size<=maxLen):OC w B [x] [.string x.name,.slice A x.items.length c] :=
 ⟨rfl,by simp[Yt],λ i y a=>by
  cases i with
  | zero=>cases a;exact⟨A,c,rfl,rfl,hi,d,e⟩
  | succ i=>cases a⟩
def S.ab (gw sw:List Int)(os:List S.Obj):List S.Obj:=oHead gw sw::(os++[oTail])
theorem ReadsP.same' {w:World}{B B':Nat}{A:Option Addr}{L:List (ByteArray×Int)}(h:ReadsP w B A L)(hb:B<=B'):ReadsP w B' A L:=λ hp=>by
 obtain⟨b,off,e,c,a⟩:=h hp;exact⟨b,off,e,by omega,a⟩
theorem Zlb {w:World}{base:Nat}{e:TypeId}{A:Option Addr}{n c:Nat}{cs:List Value}{xs:List S.Item}(h:w.ownsRow base e 8 (.slice A n c) n cs)(a:cs=xs.flatMap Zb)(d:∀x∈xs,0<=x.word/\x.word<=4294967295):Items w w.heap.size A xs:=by
 subst a;exact Items.of_own h d
theorem MAt.base {w:World}{B B' p:Nat}{d e:Value}{A:Option Addr}{c:Nat}{inp:List Int}{rd:Nat}{m:Mach}(h:MAt w B p d e A c inp rd m)(a:B'<=B):MAt w B' p d e A c inp rd m :=
 ⟨h.ok,Yz a h.low,h.blk,Zo h.mem a,Zo h.out a,h.rin,h.left,h.rdle,h.inl,h.low0,h.la,h.d1,h.d2⟩
theorem Z1r {w:World}{B p NL i:Nat}{l:Value}{A Aw f:Option Addr}{c cw cp lo:Nat}{inp:List Int}{m:Mach}{H half:Int}{P:List (ByteArray×Int)}(hm:MAt w B p l (.slice none 0 0) A c inp 0 m)(hA:∀k o s,A=some ⟨k,o,s⟩->B<=k)(h:lo<=B)(r:ReadsP w w.heap.size f P)(d:∀k o s,f=some ⟨k,o,s⟩->k<B)(q:i=P.length)(j:P.length<=1048576) :
 KAt (w.alloc (.cells #[.pointer (some ⟨p,0,none⟩),.slice Aw NL cw,.slice f i cp,.int .i64 H,.int .i64 half] 37)) lo w.heap.size p (Zal p l (.slice none 0 0)) H half P m:=by
 have g:Below w.heap.size w (w.alloc (.cells #[.pointer (some ⟨p,0,none⟩),.slice Aw NL cw,.slice f i cp,.int .i64 H,.int .i64 half] 37)):=(Below.refl _ _).alloc (Yc _) _;have n:B<=w.heap.size:=Yz hm.low (Ya5 hm.lt);refine⟨⟨Aw,NL,cw,f,cp,by rw[<- q];exact heap_alloc_new w _,(r.below g).same' g.size,λ k o s e=>⟨Ys (Ys (d k o s e) n) g.size,λ a=>by
  have:=(hm.foot_lt a).1;have:=d k o s e;omega⟩⟩,⟨l,_,A,c,inp,0,(hm.base h).below g,λ _ a=>a,λ k o s e a=>?_⟩,by omega,λ a=>?_,λ k a=>⟨by have:=(hm.foot_lt a).1;omega,by have:=(hm.foot_lt a).2;have:=g.size;omega⟩,j⟩
 .obtain⟨d1,d2,d3⟩:=hm.d1 k o s e
  rcases a with a|a|a
  .exact d1 a
  .exact d2 a
  .exact d3 a
 .have:=(hm.foot_lt a).2
  omega
theorem Zbj {w w':World}{lo b p:Nat}{F:Nat->Prop}{H half:Int}{P:List (ByteArray×Int)}{m:Mach}{B:Nat}{w0:World}(h0:Below lo w0 w)(h:KAt w lo b p F H half P m)(a:Only F w w'):Below lo w0 w':=h0.trans (h.lobelow a h.lolt)
def Z83 (w:World)(gw sw:List Int)(os:List S.Obj)(heap:Int)(inp:List Int)(e:Ending)(w':World):Prop :=
 ∃L P b p F,Ziw (ab gw sw os) 0 0 L P/\e=.returned (.pointer (some ⟨b,0,none⟩))/\KAt w' w.heap.size b p F L.length (heap/2) P (wM L heap inp)/\Below w.heap.size w w'
theorem Ze:(prog.info? 82).map (λ i=>(i.zero,i.size,i.bytes))=some (some (.agg #[.string ByteArray.empty,.slice none 0 0]),2,40):=by kernel_rfl
theorem Z66 (os:List S.Obj)(Ao Ag As Ai:Option Addr)(co cg cs ci:Nat)(gw sw inp:List Int)(heap:Int)(w:World)(oc:List Value)(l1:Reads w w.heap.size Ao oc)(f5:OC w w.heap.size os oc)(d3:Ao=none->os.length=0)(hg:Reads w w.heap.size Ag (gw.map (Yu .u32)))(hs:Reads w w.heap.size As (sw.map (Yu .u32)))(hi:Reads w w.heap.size Ai (inp.map (Yu .u8)))
 (s0:gw.length<=100) (q6:sw.length<=100) (s5:os.length<=100) (n4:∀x∈gw,0<=x/\x<=4294967295) (m8:∀x∈sw,0<=x/\x<=4294967295) (l5:∀x∈inp,0<=x/\x<=255) (p8:inp.length<=1000000) (j6:0<=heap/\heap<=1000000) (l4:(joined (ab gw sw os)).length<=1048576) (h0:∀o∈os,o.name.size<=100000/\∀x∈o.items,x.label.size<=100000)
 (p5:∀r L P,Ziw (ab gw sw os) 0 r L P->r=0/\0<L.length/\L.length<=300000000/\(∀x∈L,0<=x/\x<=4294967295)/\P.length<=1048576) :
 Calls prog 37 #[.slice Ao os.length co,.slice Ag gw.length cg,.slice As sw.length cs,.int .i64 heap,.slice Ai inp.length ci] w (Z83 w gw sw os heap inp):=by
 obtain⟨G,hG⟩:=Yx gw.length;obtain⟨T,hT⟩:=Yx sw.length;have HW:=Ya (λ(W:World) (hb:Below w.heap.size w W)=>Zuh Ag cg gw W ((hg.below hb).moreM hb.size) (by omega));have HS:=Ya (λ(W:World) (hb:Below w.heap.size w W)=>Zuh As cs sw W ((hs.below hb).moreM hb.size) (by omega));rw[<- hG] at HW s0⊢;rw[<- hT] at HS q6⊢;obtain⟨O,hO⟩:=Yx os.length;have HO:=Ya hO;have s3:=Ya f5;have q2:=Ya l1;have a1:oc.length=O*2:=by rw[hO];exact f5.len
 have a5:=f5.one;rw[<- hO] at s5 d3⊢;have HI:=Ya hi;have s1:=Ya l5;have r2:=Ya n4;have q7:=Ya m8;have m7:=Ya p5;have q1:=Ya l4;have p0:=Ya h0;have HG:=Ya hG;have HT:=Ya hT;obtain⟨NI,i7⟩:=Yx inp.length;have o6:=Ya i7;rw[<- i7] at p8⊢;clear f5 l1 hg hs hi hG hT hO l5 n4 m8 p5 l4 h0 i7;go_enter func37,ntmps37
 go_wp2_with fail
 refine(Zug _ _ (by decide) (by decide)).mono ?_;rintro e w1 ⟨rfl,g8⟩;go_upto_region 2 with fail
 have n6:(w1.alloc (.cells #[.int .i64 8,.int .i64 0,.int .i64 0,.int .i64 0,.int .i64 0,.int .i64 0,.string ⟨#[]⟩,.int .u32 1312] 79)).ownsRow w.heap.size 79 8 (.slice (some ⟨w1.heap.size,0,none⟩) 1 1) 1 ([bSp 1312].flatMap Zb):=by
  exact Zlc g8.size rfl rfl (by simp[maxLen])
 have f9:Below w.heap.size w (w1.alloc (.cells #[.int .i64 8,.int .i64 0,.int .i64 0,.int .i64 0,.int .i64 0,.int .i64 0,.string ⟨#[]⟩,.int .u32 1312] 79)):=g8.alloc g8.size _;generalize w1.alloc (.cells #[.int .i64 8,.int .i64 0,.int .i64 0,.int .i64 0,.int .i64 0,.int .i64 0,.string ⟨#[]⟩,.int .u32 1312] 79)=w2 at *;have n0:=f9.size;clear g8;go_wp2_with fail
 refine(HW.out w2 f9).mono ?_;rintro e w3 ⟨A3,c3,rfl,f8,j5⟩;have h8:=Zc n6 j5;have c0:=f9.trans (j5.mono n0);have l7:=c0.size;clear j5;go_upto_region 3 with(at_builtin;refine Zs rfl (.tmp 22) (.tmp 24) _ rfl w.heap.size 79 Zv underlying80 rfl (by decide) _ _ _ rfl h8 w3.heap.size A3 G c3 _ rfl f8.1 (Zee f8) (Zap f8) (Zd4 _) (by simp only[maxLen];omega) (by omega) l7 ?_;intro v' w4 i9 q3 n3 o5;obtain⟨A4,c4,rfl⟩:=Za i9)
 have e7:Below w.heap.size w w4:=c0.trans n3;have l2:=e7.size;clear n6 h8 f8 f9 q3 n3 o5 c0 l7 n0;go_upto_region 4 with(at_builtin;refine Zl rfl (.tmp 26) (.tmp 28) _ rfl w.heap.size 79 Zv underlying80 rfl (by decide) #[.int .i64 2,.int .i64 0,.int .i64 0,.int .i64 0,.int .i64 0,.int .i64 0,.string kStatic,.int .u32 0] _ _ _ rfl i9 rfl rfl rfl (by simp[Yt]) (by simp only[maxLen];omega) (by omega) l2 ?_;intro v' w5 k3 r6 m0 l9;obtain⟨A5,c5,rfl⟩:=Za k3)
 have a6:Below w.heap.size w w5:=e7.trans m0;have l3:=a6.size;clear i9 r6 m0 l9 e7 l2;go_wp2_with fail
 refine(HS.out w5 a6).mono ?_;rintro e w6 ⟨A6,c6,rfl,f7,j9⟩;have h5:=Zc k3 j9;have d6:=a6.trans (j9.mono l3);have n9:=d6.size;clear j9;go_upto_region 5 with(at_builtin;refine Zs rfl (.tmp 30) (.tmp 32) _ rfl w.heap.size 79 Zv underlying80 rfl (by decide) _ _ _ rfl h5 w6.heap.size A6 T c6 _ rfl f7.1 (Zee f7) (Zap f7) (Zd4 _) (by simp only[maxLen];omega) (by omega) n9 ?_;intro v' w7 j4 r0 p4 k9;obtain⟨A7,c7,rfl⟩:=Za j4)
 have b9:Below w.heap.size w w7:=d6.trans p4;have k5:=b9.size;clear k3 h5 f7 r0 p4 k9 a6 d6 l3 n9;go_upto_region 6 with fail
 have j8:=heap_alloc_new w7 (.cells #[.int .i64 1,.int .i64 36,.int .i64 0,.int .i64 0,.int .i64 0,.int .i64 0,.string ⟨#[]⟩,.int .u32 0] 79);have b7:Below w.heap.size w (w7.alloc (.cells #[.int .i64 1,.int .i64 36,.int .i64 0,.int .i64 0,.int .i64 0,.int .i64 0,.string ⟨#[]⟩,.int .u32 0] 79)):=b9.alloc k5 _;have l8:=j4.alloc (.cells #[.int .i64 1,.int .i64 36,.int .i64 0,.int .i64 0,.int .i64 0,.int .i64 0,.string ⟨#[]⟩,.int .u32 0] 79);have i5:w7.heap.size<(w7.alloc (.cells #[.int .i64 1,.int .i64 36,.int .i64 0,.int .i64 0,.int .i64 0,.int .i64 0,.string ⟨#[]⟩,.int .u32 0] 79)).heap.size:=by simp
 generalize w7.alloc (.cells #[.int .i64 1,.int .i64 36,.int .i64 0,.int .i64 0,.int .i64 0,.int .i64 0,.string ⟨#[]⟩,.int .u32 0] 79)=w8 at *;have m4:=b7.size;obtain⟨r8,i1⟩:=Yx w7.heap.size;rw[<- i1] at j8 i5⊢;have E:∀j,w8.cell? ⟨r8,j,none⟩=(#[.int .i64 1,.int .i64 36,.int .i64 0,.int .i64 0,.int .i64 0,.int .i64 0,.string ⟨#[]⟩,.int .u32 0]:Array Value)[j]?:=λ j=>Zd9 j8 j
 have g0:=E 0;have g1:=E 1;have g2:=E 2;have g3:=E 3;have g4:=E 4;have g5:=E 5;have g6:=E 6;have g7:=E 7;simp only[List.getElem?_toArray,List.getElem?_cons_zero,List.getElem?_cons_succ] at g0 g1 g2 g3 g4 g5 g6 g7;clear i1 j4 b9 k5 j8 E;have u:(w8.alloc (.cells #[.int .i64 2,.int .i64 0,.int .i64 0,.int .i64 0,.int .i64 0,.int .i64 0,.string kCode,.int .u32 0,.int .i64 2,.int .i64 0,.int .i64 0,.int .i64 0,.int .i64 0,.int .i64 0,.string kStub,.int .u32 0,.int .i64 1,.int .i64 36,.int .i64 0,.int .i64 0,.int .i64 0,.int .i64 0,.string ⟨#[]⟩,.int .u32 0,.int .i64 2,.int .i64 0,.int .i64 0,.int .i64 0,.int .i64 0,.int .i64 0,.string kMapped,.int .u32 0,.int .i64 6,.int .i64 0,.int .i64 0,.int .i64 0,.int .i64 0,.int .i64 0,.string ⟨#[]⟩,.int .u32 0,.int .i64 1,.int .i64 36,.int .i64 0,.int .i64 0,.int .i64 0,.int .i64 0,.string ⟨#[]⟩,.int .u32 0] 79)).ownsRow 0 79 8 (.slice (some ⟨w8.heap.size,0,none⟩) 6 6) 6 ([bL kCode,bL kStub,bHalt,bL kMapped,bW 0,bHalt].flatMap Zb):=Zlc (Nat.zero_le _) rfl rfl (by simp[maxLen]);have b8:Below w.heap.size w (w8.alloc (.cells #[.int .i64 2,.int .i64 0,.int .i64 0,.int .i64 0,.int .i64 0,.int .i64 0,.string kCode,.int .u32 0,.int .i64 2,.int .i64 0,.int .i64 0,.int .i64 0,.int .i64 0,.int .i64 0,.string kStub,.int .u32 0,.int .i64 1,.int .i64 36,.int .i64 0,.int .i64 0,.int .i64 0,.int .i64 0,.string ⟨#[]⟩,.int .u32 0,.int .i64 2,.int .i64 0,.int .i64 0,.int .i64 0,.int .i64 0,.int .i64 0,.string kMapped,.int .u32 0,.int .i64 6,.int .i64 0,.int .i64 0,.int .i64 0,.int .i64 0,.int .i64 0,.string ⟨#[]⟩,.int .u32 0,.int .i64 1,.int .i64 36,.int .i64 0,.int .i64 0,.int .i64 0,.int .i64 0,.string ⟨#[]⟩,.int .u32 0] 79)):=b7.alloc m4 _;have h7:=l8.alloc (.cells #[.int .i64 2,.int .i64 0,.int .i64 0,.int .i64 0,.int .i64 0,.int .i64 0,.string kCode,.int .u32 0,.int .i64 2,.int .i64 0,.int .i64 0,.int .i64 0,.int .i64 0,.int .i64 0,.string kStub,.int .u32 0,.int .i64 1,.int .i64 36,.int .i64 0,.int .i64 0,.int .i64 0,.int .i64 0,.string ⟨#[]⟩,.int .u32 0,.int .i64 2,.int .i64 0,.int .i64 0,.int .i64 0,.int .i64 0,.int .i64 0,.string kMapped,.int .u32 0,.int .i64 6,.int .i64 0,.int .i64 0,.int .i64 0,.int .i64 0,.int .i64 0,.string ⟨#[]⟩,.int .u32 0,.int .i64 1,.int .i64 36,.int .i64 0,.int .i64 0,.int .i64 0,.int .i64 0,.string ⟨#[]⟩,.int .u32 0] 79);go_upto_region 7 with(at_builtin;refine Zs rfl (.tmp 36) (.tmp 43) _ rfl w.heap.size 79 Zv underlying80 rfl (by decide) _ _ _ rfl h7 _ (some ⟨w8.heap.size,0,none⟩) 6 6 _ rfl u.1 (λ h=>by cases h) (Zap u) (Zd4 _) (by simp only[maxLen];omega) (by omega) b8.size ?_;intro v' w9 j0 s4 n8 o1;obtain⟨A9,c9,rfl⟩:=Za j0)
 have e5:Below w.heap.size w w9:=b8.trans n8;have k7:=e5.size;clear l8 h7 u b8 s4 n8 o1 b7 m4 i5 g0 g1 g2 g3 g4 g5 g6 g7;go_wp2_with fail
 refine(Zug _ _ (by decide) (by decide)).mono ?_;rintro e q ⟨rfl,b0⟩;have i3:=Zc j0 b0;have M:Below w.heap.size w q:=e5.trans (b0.mono k7);have o4:=M.size;clear j0 b0 e5 k7;go_upto_region 8 with fail
 have u:(q.alloc (.cells #[.int .i64 2,.int .i64 0,.int .i64 0,.int .i64 0,.int .i64 0,.int .i64 0,.string ⟨#[109,111,114,101]⟩,.int .u32 0,.int .i64 8,.int .i64 0,.int .i64 0,.int .i64 0,.int .i64 0,.int .i64 0,.string ⟨#[]⟩,.int .u32 8,.int .i64 2,.int .i64 0,.int .i64 0,.int .i64 0,.int .i64 0,.int .i64 0,.string ⟨#[101,110,100]⟩,.int .u32 0] 79)).ownsRow q.heap.size 79 8 (.slice (some ⟨q.heap.size,0,none⟩) 3 3) 3 (tItems.flatMap Zb):=Zlc (Yc _) rfl rfl (by simp[maxLen]);have a8:Below w.heap.size w (q.alloc (.cells #[.int .i64 2,.int .i64 0,.int .i64 0,.int .i64 0,.int .i64 0,.int .i64 0,.string ⟨#[109,111,114,101]⟩,.int .u32 0,.int .i64 8,.int .i64 0,.int .i64 0,.int .i64 0,.int .i64 0,.int .i64 0,.string ⟨#[]⟩,.int .u32 8,.int .i64 2,.int .i64 0,.int .i64 0,.int .i64 0,.int .i64 0,.int .i64 0,.string ⟨#[101,110,100]⟩,.int .u32 0] 79)):=M.alloc o4 _;have i4:=i3.alloc (.cells #[.int .i64 2,.int .i64 0,.int .i64 0,.int .i64 0,.int .i64 0,.int .i64 0,.string ⟨#[109,111,114,101]⟩,.int .u32 0,.int .i64 8,.int .i64 0,.int .i64 0,.int .i64 0,.int .i64 0,.int .i64 0,.string ⟨#[]⟩,.int .u32 8,.int .i64 2,.int .i64 0,.int .i64 0,.int .i64 0,.int .i64 0,.int .i64 0,.string ⟨#[101,110,100]⟩,.int .u32 0] 79);generalize q.alloc (.cells #[.int .i64 2,.int .i64 0,.int .i64 0,.int .i64 0,.int .i64 0,.int .i64 0,.string ⟨#[109,111,114,101]⟩,.int .u32 0,.int .i64 8,.int .i64 0,.int .i64 0,.int .i64 0,.int .i64 0,.int .i64 0,.string ⟨#[]⟩,.int .u32 8,.int .i64 2,.int .i64 0,.int .i64 0,.int .i64 0,.int .i64 0,.int .i64 0,.string ⟨#[101,110,100]⟩,.int .u32 0] 79)=w11 at *;have b4:=a8.size;clear i3 M;go_upto_region 9 with fail
 go_upto_region 10 with(at_builtin;refine Zl rfl (.tmp 49) (.tmp 52) _ rfl w11.heap.size 82 Ze underlying84 rfl (by decide) #[.string kHead,.slice A9 (1+G+1+T+6) c9] _ _ _ rfl (World.ownsRow_nil _ _ _ _) rfl rfl rfl (by simp[Yt]) (by simp[maxLen]) (by decide) (Yc _) ?_;intro v' q9 d5 m3 a3 k2;obtain⟨t0,s7,rfl⟩:=Za d5)
 have D:Below w.heap.size w q9:=a8.trans (a3.mono b4);have p7:=D.size;have V:=a3.size;have m9:=q2.out.below D;clear m3 k2;go_upto_region 11 with(at_builtin;refine Zs rfl (.tmp 54) (.tmp 55) _ rfl w11.heap.size 82 Ze underlying84 rfl (by decide) _ _ _ rfl d5 w.heap.size Ao O co oc rfl a1 d3 m9 a5 (by simp only[maxLen];omega) (by omega) V ?_;intro v' r1 e6 p6 a7 j2;obtain⟨t1,t4,rfl⟩:=Za e6)
 have j7:Below w.heap.size w r1:=D.trans (a7.mono b4);go_upto_region 12 with(at_builtin;refine Zl rfl (.tmp 57) (.tmp 60) _ rfl w11.heap.size 82 Ze underlying84 rfl (by decide) #[.string kTail,.slice (some ⟨q.heap.size,0,none⟩) 3 3] _ _ _ rfl e6 rfl rfl rfl (by simp[Yt]) (by simp only[maxLen];omega) (by omega) (Yz V a7.size) ?_;intro v' C b3 o7 i2 i6;obtain⟨n5,p3,rfl⟩:=Za b3)
 have m:Below w11.heap.size w11 C:=a3.trans (a7.trans i2);have A:Below w.heap.size w C:=a8.trans (m.mono b4);have d4:=Zc i4 m;have a4:=Zc u m;have f3:=A.size;clear i4 u a8 a3 a7 i2 p6 o7 j2 i6 d5 e6 D j7 m m9 p7 V;have f0:Items C C.heap.size A9 (hItems gw sw):=Zlb d4 (by
  unfold hItems;simp only[List.flatMap_cons,List.flatMap_append,List.flatMap_nil,List.append_nil,List.append_assoc];rfl) (λ x hx=>by
  unfold hItems at hx;simp only[Yr,Yag,Yb3,Yv,or_false] at hx;rcases hx with rfl|⟨w,hw,rfl⟩|rfl|⟨w,hw,rfl⟩|rfl|rfl|rfl|rfl|rfl|rfl
  .decide
  .exact r2.out w hw
  .decide
  .exact q7.out w hw
  all_goals decide)
 have b2:Items C C.heap.size (some ⟨q.heap.size,0,none⟩) tItems:=Zlb a4 rfl (λ x hx=>by
  unfold tItems at hx;simp only[Yr,Yv,or_false] at hx;rcases hx with rfl|rfl|rfl <;> decide)
 have o0:(hItems gw sw).length=1+G+1+T+6:=by rw[Zbv,HG.out,HT.out];omega
 have U:∀y∈hItems gw sw,y.label.size<=maxLen:=λ y hy=>by
  unfold hItems at hy;simp only[Yr,Yag,Yb3,Yv,or_false] at hy;rcases hy with rfl|⟨w,hw,rfl⟩|rfl|⟨w,hw,rfl⟩|rfl|rfl|rfl|rfl|rfl|rfl
  all_goals first|decide | (show bNo.size<=maxLen;decide)
 have g9:=OC.one_ (x:=oHead gw sw) (c:=c9) f0 (show kHead.size<=maxLen by decide) U;have h4:=OC.one_ (x:=oTail) (c:=3) b2 (by decide) (λ y hy=>by
  have N:y∈tItems:=hy;unfold tItems at N;simp only[Yr,Yv,or_false] at N;rcases N with rfl|rfl|rfl <;> decide)
 have h9:=(g9.app (((s3.out.below A).more f3))).app h4;have a0:(ab gw sw os).length=0+1+O+1:=by
  unfold ab;rw[List.length_cons,Yd,<- HO.out];simp;omega
 have f1:Objs C C.heap.size n5 (ab gw sw os):=by
  refine Zx5 (base:=w11.heap.size) (e:=82) (c:=p3) (oc:=[]++#[Ycu kHead,Yab A9 (1+G+1+T+6) c9].toList++oc++#[Ycu kTail,Yab (some ⟨q.heap.size,0,none⟩) 3 3].toList) (by rw[a0];exact b3) ?_;have e:ab gw sw os=[oHead gw sw]++os++[oTail]:=by simp[ab]
  rw[e];have J:([]++#[Ycu kHead,Yab A9 (1+G+1+T+6) c9].toList++oc++#[Ycu kTail,Yab (some ⟨q.heap.size,0,none⟩) 3 3].toList:List Value)=[Ycu kHead,Yab A9 (hItems gw sw).length c9]++oc++[Ycu kTail,Yab (some ⟨q.heap.size,0,none⟩) tItems.length 3]:=by
   rw[o0];rfl
  rw[J];exact h9
 have i8:=Zvo n5 p3 (ab gw sw os) 0 C f1 (by rw[a0];omega) q1.out (λ k o l x hx=>by
  have hm:=List.mem_of_getElem? l;unfold ab at hm;rcases Yr.1 hm with rfl|hm
  .have h1:=U x hx
   have h2:(oHead gw sw).name.size<=100:=show kHead.size<=100 by decide
   simp only[maxLen] at h1;have h3:x.label.size<=100:=by
    have hy:x∈hItems gw sw:=hx;unfold hItems at hy;simp only[Yr,Yag,Yb3,Yv,or_false] at hy;rcases hy with rfl|⟨w,hw,rfl⟩|rfl|⟨w,hw,rfl⟩|rfl|rfl|rfl|rfl|rfl|rfl
    all_goals first|decide | (show bNo.size<=100;decide)
   omega
  .rcases Yag.1 hm with hm|hm
   .have:=(p0.out o hm).1
    have:=(p0.out o hm).2 x hx;omega
   .rw[List.mem_singleton] at hm
    subst hm;have N:x∈tItems:=hx;unfold tItems at N;simp only[Yr,Yv,or_false] at N;rcases N with rfl|rfl|rfl <;> decide)
 rw[a0] at i8;have p1:=Ya i8;clear i8 f1 h9 g9 h4 f0 b2 U o0 a0 b3 d4 a4 a5 a1 d3;go_wp2_with fail
 refine p1.out.mono ?_;rintro e t ⟨vo,vp,r,L,P,rfl,d8,b1,a2,h6⟩;obtain⟨rfl,r5,q0,m2,o2⟩:=m7.out r L P d8;obtain⟨Aw,cw,rfl⟩:=Za b1;obtain⟨Ap,cp,rfl⟩:=Za a2;have m5:=Ya d8;have r4:=Ya m2;have o9:=Ya (Reads.of_own b1);have o8:=Ya (ReadsP.of_own a2);have r3:=Ya (show ∀k o s,Ap=some ⟨k,o,s⟩->k<t.heap.size from λ k o s e=>(a2.lt k (by rw[e];rfl)).2);have K:=A.trans (h6.mono f3);have s6:=K.size;clear d8 m2 b1 a2 h6 p1 m7;obtain⟨x1,x2,x3⟩:=Zgd t #[.slice Aw L.length cw,.slice Ap P.length cp] 35;go_upto_region 13 with fail
 generalize t.alloc (.cells #[.slice Aw L.length cw,.slice Ap P.length cp] 35)=w16 at *;have k4:w16.cell? ⟨t.heap.size,0,none⟩=some (.slice Aw L.length cw):=by simp[World.cell?,x1]
 have j3:w16.cell? ⟨t.heap.size,1,none⟩=some (.slice Ap P.length cp):=by simp[World.cell?,x1]
 have f2:=x2.size;have d1:t.heap.size<w16.heap.size:=by omega
 have i:=K.trans (x2.mono (by omega));have j1:w.heap.size<=w16.heap.size:=i.size;have e8:=Ya ((o9.out.below x2).moreM f2);have d7:=Ya ((o8.out.below x2));obtain⟨NL,a9⟩:=Yx L.length;have p9:=Ya a9;obtain⟨NP,f6⟩:=Yx P.length;have k6:=Ya f6;rw[<- a9] at k4 r5 q0;rw[<- f6] at j3 o2;rw[<- a9,<- f6];have n1:((NL:Int)==0)=false:=by simp;omega
 have n2:IntKind.i64.wrap ((NL:Int)+heap)=NL+heap:=IntWalk.i64_in _ ⟨by omega,by omega⟩;have l0:=Ya x2;have q8:=Ya x1;have o3:=Ya (show Calls prog 54 #[.slice Aw NL cw,.int .i64 (NL+heap),.slice Ai NI ci] w16 (Zp6 w16 NL (NL+heap) inp (Zkc L (NL+heap).toNat inp)) by
  have:=Zyf Aw Ai cw ci L inp (NL+heap) w16 e8.out ((HI.out.below i).moreM i.size) (by rw[<- a9];exact q0) (by rw[<- o6.out];exact p8) r4.out s1.out;rw[<- a9,<- o6.out] at this;exact this)
 clear x1 x2 x3 a9 f6 o9 o8 A f3;go_wp2_with fail
 refine o3.out.mono ?_;rintro e c8 (⟨d3,-⟩|⟨-,p,vm,t2,t3,rfl,hm,z,l6⟩)
 .exact absurd (show Zh8 NL (NL+heap) from⟨by omega,by omega,by omega⟩) d3
 have n7:=z.size;have i0:t.heap.size<c8.heap.size:=by omega
 have k0:c8.cell? ⟨t.heap.size,0,none⟩=some (.slice Aw NL cw):=(z.cell (p:=⟨t.heap.size,0,none⟩) d1).trans k4;have k1:c8.cell? ⟨t.heap.size,1,none⟩=some (.slice Ap NP cp):=(z.cell (p:=⟨t.heap.size,1,none⟩) d1).trans j3;have d9:=i.trans (z.mono i.size);have HM:=Ya hm;have m6:=Ya l6;have e9:=Ya (d7.out.below (z.mono f2));have b6:=Ya (show ∀k o s,Ap=some ⟨k,o,s⟩->k<w16.heap.size from λ k o s e=>Ys (r3.out k o s e) f2);have Y:=Ya d9;clear hm l6 k4 j3 z K i d9 o3 l0 q8 e8 d7 d1;have d2:Int.tdiv heap 2=heap/2:=Int.tdiv_eq_ediv_of_nonneg j6.1;go_upto_region 18 with fail
 go_upto_region 19 with fail
 obtain⟨hf,hhf⟩:=Yx (heap/2);have k8:=Ya hhf;have s9:0<=hf/\hf<=heap:=by omega
 simp only[<- hhf];clear hhf;have a:=Ya (Z1r (Aw:=Aw) (NL:=NL) (cw:=cw) (cp:=cp) (H:=NL) (half:=hf) HM.out m6.out j1 (e9.out.same' (Ya5 i0)) b6.out k6.out (by rw[<- k6.out];exact o2));have f:=Ya (Y.out.alloc Y.out.size (.cells #[.pointer (some ⟨p,0,none⟩),.slice Aw NL cw,.slice Ap NP cp,.int .i64 NL,.int .i64 hf] 37));generalize c8.alloc (.cells #[.pointer (some ⟨p,0,none⟩),.slice Aw NL cw,.slice Ap NP cp,.int .i64 NL,.int .i64 hf] 37)=w20 at *;generalize c8.heap.size=bb at *;obtain⟨F,hF⟩:=Yx (Zal p vm (.slice none 0 0));rw[<- hF] at a;clear hF HM m6 e9 b6 Y k0 k1 i0 n7 d2;have c1:heap%4294967296=heap:=by omega
 have c2:(NL:Int)%4294967296=NL:=by omega
 have c3:IntKind.i64.wrap ((NL:Int)+hf)=NL+hf:=IntWalk.i64_in _ ⟨by omega,by omega⟩;have c4:((NL:Int)+hf)%4294967296=NL+hf:=by omega
 have c5:hf%4294967296=hf:=by omega
 obtain⟨_,_,_,_,_,_,R,Q,J,X,Z⟩:=a.out.cells;have g:=a.out.blt;have I:=Ya (show ∀y:Ext w20,KAt y.val w.heap.size bb p F NL hf P _ from λ y=>a.out.below y.property);go_wp2_with fail
 refine(Zcv 1 heap a.out ⟨by omega,by omega⟩).mono ?_;rintro e r9 ⟨rv,rfl,n,l⟩;have d:=Ya (Zbj (B:=0) f.out a.out l);clear a f l R Q J X Z g I;have a:=Ya n;have f:=d;clear n d;obtain⟨_,_,_,_,_,_,R,Q,J,X,Z⟩:=a.out.cells;have g:=a.out.blt;have I:=Ya (show ∀y:Ext r9,KAt y.val w.heap.size bb p F NL hf P _ from λ y=>a.out.below y.property);go_wp2_with fail
 refine(Zcv 2 NL a.out ⟨by omega,by omega⟩).mono ?_;rintro e p2 ⟨rv,rfl,n,l⟩;have d:=Ya (Zbj (B:=0) f.out a.out l);clear a f l R Q J X Z g I;have a:=Ya n;have f:=d;clear n d;obtain⟨_,_,_,_,_,_,R,Q,J,X,Z⟩:=a.out.cells;have g:=a.out.blt;have I:=Ya (show ∀y:Ext p2,KAt y.val w.heap.size bb p F NL hf P _ from λ y=>a.out.below y.property);go_upto_region 21 with fail
 refine Zj 11 (by kernel_rfl) (by kernel_rfl) ?_;have hE:=Zk p2;simp only[Yaq,Yaj,Ya1,Ya0]
 repeat (first|go_big_quiet_step (fail))
 refine wpQuiet_nil ?_;rintro y ⟨⟨_,b5⟩,rfl⟩;have d0:=Ya (I.out ⟨y,b5⟩);have f4:=Ya (f.out.trans (b5.mono f.out.size));clear hE a f;have a:=d0;have f:=f4;clear d0 f4;go_wp2_with fail
 refine(Zcv 3 (NL+hf) a.out ⟨by omega,by omega⟩).mono ?_;rintro e s2 ⟨rv,rfl,n,l⟩;have d:=Ya (Zbj (B:=0) f.out a.out l);clear a f l R Q J X Z g I;have a:=Ya n;have f:=d;clear n d;obtain⟨_,_,_,_,_,_,R,Q,J,X,Z⟩:=a.out.cells;have g:=a.out.blt;have I:=Ya (show ∀y:Ext s2,KAt y.val w.heap.size bb p F NL hf P _ from λ y=>a.out.below y.property);go_wp2_with fail
 refine(Zcv 4 hf a.out ⟨by omega,by omega⟩).mono ?_;rintro e q4 ⟨rv,rfl,n,l⟩;have d:=Ya (Zbj (B:=0) f.out a.out l);clear a f l R Q J X Z g I;have a:=Ya n;have f:=d;clear n d;obtain⟨_,_,_,_,_,_,R,Q,J,X,Z⟩:=a.out.cells;have g:=a.out.blt;have I:=Ya (show ∀y:Ext q4,KAt y.val w.heap.size bb p F NL hf P _ from λ y=>a.out.below y.property);go_wp2_with fail
 refine(Zcv 5 38 a.out ⟨by omega,by omega⟩).mono ?_;rintro e r7 ⟨rv,rfl,n,l⟩;have d:=Ya (Zbj (B:=0) f.out a.out l);clear a f l R Q J X Z g I;have a:=Ya n;have f:=d;clear n d;obtain⟨_,_,_,_,_,_,R,Q,J,X,Z⟩:=a.out.cells;have g:=a.out.blt;have I:=Ya (show ∀y:Ext r7,KAt y.val w.heap.size bb p F NL hf P _ from λ y=>a.out.below y.property);go_wp2_with fail
 refine(Zeq 26 NL a.out ⟨by omega,by omega⟩).mono ?_;rintro e m1 ⟨rv,rfl,n,l⟩;have d:=Ya (Zbj (B:=0) f.out a.out l);clear a f l R Q J X Z g I;have a:=Ya n;have f:=d;clear n d;obtain⟨_,_,_,_,_,_,R,Q,J,X,Z⟩:=a.out.cells;have g:=a.out.blt;have I:=Ya (show ∀y:Ext m1,KAt y.val w.heap.size bb p F NL hf P _ from λ y=>a.out.below y.property);go_upto_region 25 with fail
 refine Zj 11 (by kernel_rfl) (by kernel_rfl) ?_;have hE:=Zk m1;simp only[Yaq,Yaj,Ya1,Ya0]
 repeat (first|go_big_quiet_step (fail))
 refine wpQuiet_nil ?_;rintro y ⟨⟨_,b5⟩,rfl⟩;have d0:=Ya (I.out ⟨y,b5⟩);have f4:=Ya (f.out.trans (b5.mono f.out.size));clear hE a f;have a:=d0;have f:=f4;clear d0 f4;go_wp2_with fail
 refine(Zeq 27 (NL+hf) a.out ⟨by omega,by omega⟩).mono ?_;rintro e q5 ⟨rv,rfl,n,l⟩;have d:=Ya (Zbj (B:=0) f.out a.out l);clear a f l R Q J X Z g I;have a:=Ya n;have f:=d;clear n d;obtain⟨_,_,_,_,_,_,R,Q,J,X,Z⟩:=a.out.cells;have g:=a.out.blt;have I:=Ya (show ∀y:Ext q5,KAt y.val w.heap.size bb p F NL hf P _ from λ y=>a.out.below y.property);go_wp2_with fail
 refine(Zeq 28 1056 a.out ⟨by omega,by omega⟩).mono ?_;rintro e s8 ⟨rv,rfl,n,l⟩;have d:=Ya (Zbj (B:=0) f.out a.out l);clear a f l R Q J X Z g I;have a:=Ya n;have f:=d;clear n d;go_wp2_with fail
 refine bodyPost_ret (v:=.pointer (some ⟨bb,0,none⟩)) (results_tmp results37 _ _ _) rfl ⟨L,P,bb,p,F,m5.out,rfl,?_,f.out⟩;rw[<- p9.out,<- k8.out];have e:wM L heap inp=((((((((Zkc L ((NL:Int)+heap).toNat inp).putV 1 heap).putV 2 NL).putV 3 (NL+hf)).putV 4 hf).putV 5 38).setV 26 NL).setV 27 (NL+hf)).setV 28 1056:=by
  unfold wM;rw[<- p9.out,<- k8.out]
 rw[e];exact a.out
section
section
variable {H:Zn}{w:World}(hH:∀b k,H b=some k->b<w.heap.size)
include hH
theorem Zmo:∀{os:List S.Obj} {xs:List Value},RepL H w (ac os) xs->(∀x∈os,(∀y∈x.items,0<=y.word/\y.word<=4294967295)/\x.name.size<=maxLen/\∀y∈x.items,y.label.size<=maxLen)->OC w w.heap.size os xs
 | [],xs,h,_=>by
  have a:RepL H w [] xs:=h;rw[RepL] at a;subst a;exact { len:=rfl,one:=λ u m=>(Yv m).elim,at_:=λ i x f=>by simp at f }
 | o::r,xs,h,hw=>by
  have a:RepL H w (.str o.name::.row o.items.length (encItems o.items)::ac r) xs:=h;rw[RepL] at a;obtain⟨v0,rs,rfl,_,d,a⟩:=a;rw[RepL] at a;obtain⟨v1,rs,rfl,_,e,a⟩:=a;rw[RepV] at d;subst d;obtain⟨g,j,l⟩:=hw o Yw;obtain⟨A,c,rfl,hi⟩:=Zj8 hH e g;have ih:=Zmo a λ x f=>hw x (Y0 _ f)
  exact(OC.one_ (x:=o) (c:=c) hi j l).app ih
end
theorem KAt.lo {w:World}{lo a b p:Nat}{F:Nat->Prop}{H half:Int}{P:List (ByteArray×Int)}{m:Mach}(h:KAt w lo b p F H half P m)(d:a<=lo):KAt w a b p F H half P m:=by
 obtain⟨g,i,A,c,inp,rd,j,k2,f⟩:=h.mach;exact⟨h.blk,⟨g,i,A,c,inp,rd,j.base d,k2,f⟩,Yz d h.lowb,h.nb,λ k e=>⟨Yz d (h.lt k e).1,(h.lt k e).2⟩,h.few⟩
theorem ItemAt.block {w w':World}{b o:Nat}{x:S.Item}(h:ItemAt w b o x)(c:w'.heap[b]?=w.heap[b]?):ItemAt w' b o x:=h.keep λ o=>World.cell?_of_block (a:=⟨b,o,none⟩) c
section
end
end
def Pass (F:Nat->Prop)(w:World)(F':Nat->Prop)(w':World):Prop:=Only F w w'/\∀k,k<w.heap.size->F' k->F k
theorem Pass.of_only {F:Nat->Prop}{w w':World}(h:Only F w w'):Pass F w F w':=⟨h,λ _ _ q=>q⟩
theorem Pass.of_below {F:Nat->Prop}{w w':World}(h:Below w.heap.size w w'):Pass F w F w':=.of_only (.of_below h)
theorem Pass.trans {F a F2:Nat->Prop}{w w1 c:World}(h:Pass F w a w1)(k:Pass a w1 F2 c):Pass F w F2 c :=
 ⟨h.1.trans k.1 λ i hi q=>h.2 i hi q,λ i hi q=>h.2 i hi (k.2 i (Ys hi h.1.size) q)⟩
