/- Parts. -/
import Derived.Test.YtdeepoikgfaecaaGreatDoorZKObj
import Derived.Test.YtdeepoikgfaecaaGreatDoorZKGra
import Derived.BigQuiet
set_option linter.all false
set_option maxHeartbeats 4000000
open Go.Lib renaming hid->Ya
open List renaming length_append->Yc,getElem?_append_left->Yn,getElem?_append_right->Yo,mem_cons->Yu,not_mem_nil->Y3,take_succ_cons->Y7,mem_append->Y8,drop_succ_cons->Yab,take_zero->Yam,drop_zero->Yas,mem_map->Ya1
open Nat renaming le_refl->Yf,lt_of_lt_of_le->Yt,le_trans->Y9,le_of_lt->Ybi
open Go.Value renaming int->Y1,oneCell'->Yac,slice->Ybc,string->Yc5
namespace Go.Proofs.YtdeepoikgfaecaaGreatDoor
set_option maxRecDepth 100000
open Go.RowKit
structure OC (w:World)(B:Nat)(os:List S.Obj)(oc:List Value):Prop where
 len:oc.length=os.length*2
 one:∀ u∈oc,u.oneCell'=true
 at_:∀ (i:Nat) (x:S.Obj),os[i]?=some x->∃ A c,oc[i*2]?=some (.string x.name)/\oc[i*2+1]?=some (.slice A x.items.length c)/\Items w B A x.items/\x.name.size<=maxLen/\∀ y∈x.items,y.label.size<=maxLen
theorem Zwm {w:World}{base:Nat}{e:TypeId}{A:Option Addr}{c:Nat}{os:List S.Obj}{oc:List Value}(ho:w.ownsRow base e 2 (.slice A os.length c) os.length oc)(hc:OC w w.heap.size os oc):Objs w w.heap.size A os:=fun hp=>by
 obtain ⟨b,off,rfl,hb,h⟩:=Zc0 ho (by rw [hc.len];omega);refine ⟨b,off,rfl,hb,fun i x hx=>?_⟩;obtain ⟨A',c',h0,h1,h2,h3,h4⟩:=hc.at_ i x hx;exact ⟨h _ _ h0,⟨A',c',h _ _ h1,h2⟩,h3,h4⟩
theorem OC.app {w:World}{B:Nat}{a b:List S.Obj}{ca cb:List Value}(h:OC w B a ca)(k:OC w B b cb):OC w B (a++b) (ca++cb):=by
 refine ⟨by rw [Yc,Yc,h.len,k.len];omega,fun u hu=>(Y8.1 hu).elim (h.one u) (k.one u),fun i x hx=>?_⟩;by_cases c:i<a.length
 ·rw [Yn c] at hx
  obtain ⟨A',c',h0,h1,h2⟩:=h.at_ i x hx;have hl:=h.len;exact ⟨A',c',by rw [Yn (by omega)];exact h0,by rw [Yn (by omega)];exact h1,h2⟩
 ·rw [Yo (by omega)] at hx
  obtain ⟨A',c',h0,h1,h2⟩:=k.at_ (i-a.length) x hx;have hl:=h.len;exact ⟨A',c',by rw [Yo (by omega),hl,show i*2-a.length*2=(i-a.length)*2 from by omega];exact h0,by rw [Yo (by omega),hl,show i*2+1-a.length*2=(i-a.length)*2+1 from by omega];exact h1,h2⟩
theorem OC.below {w w':World}{B:Nat}{os:List S.Obj}{oc:List Value}(h:OC w B os oc)(hb:Below B w w'):OC w' B os oc:=⟨h.len,h.one,fun i x hx=>by
 obtain ⟨A',c',h0,h1,h2,h3⟩:=h.at_ i x hx;exact ⟨A',c',h0,h1,h2.below hb,h3⟩⟩
theorem OC.more {w:World}{B B':Nat}{os:List S.Obj}{oc:List Value}(h:OC w B os oc)(hB:B<=B'):OC w B' os oc:=⟨h.len,h.one,fun i x hx=>by
 obtain ⟨A',c',h0,h1,h2,h3⟩:=h.at_ i x hx;refine ⟨A',c',h0,h1,fun hp=>?_,h3⟩;obtain ⟨b,off,e,hb,q⟩:=h2 hp;exact ⟨b,off,e,by omega,q⟩⟩
theorem OC.one_ {w:World}{B:Nat}{x:S.Obj}{A:Option Addr}{c:Nat}(hi:Items w B A x.items)(hn:x.name.size<=maxLen)(hl:∀ y∈x.items,y.label.size<=maxLen):OC w B [x] [.string x.name,.slice A x.items.length c] :=
 ⟨rfl,by simp [Yac],fun i y hy=>by
  cases i with
  | zero=>cases hy;exact ⟨A,c,rfl,rfl,hi,hn,hl⟩
  | succ i=>cases hy⟩
def S.al (gw sw:List Int)(os:List S.Obj):List S.Obj:=S.oHead gw sw::(os++[S.oTail])
theorem ReadsP.same' {w:World}{B B':Nat}{A:Option Addr}{L:List (ByteArray×Int)}(h:ReadsP w B A L)(hb:B<=B'):ReadsP w B' A L:=fun hp=>by
 obtain ⟨b,off,e,hbB,hc⟩:=h hp;exact ⟨b,off,e,by omega,hc⟩
theorem Zpo {w:World}{base:Nat}{e:TypeId}{A:Option Addr}{n c:Nat}{cs:List Value}{xs:List S.Item}(h:w.ownsRow base e 8 (.slice A n c) n cs)(hc:cs=xs.flatMap Zb)(hw:∀ x∈xs,0<=x.word/\x.word<=4294967295):Items w w.heap.size A xs:=by
 subst hc;exact Items.of_own h hw
theorem MAt.base {w:World}{B B' p:Nat}{vm vo:Value}{A:Option Addr}{c:Nat}{inp:List Int}{rd:Nat}{m:S.Mach}(h:MAt w B p vm vo A c inp rd m)(hb:B'<=B):MAt w B' p vm vo A c inp rd m :=
 ⟨h.ok,Y9 hb h.low,h.blk,Z0 h.mem hb,Z0 h.out hb,h.rin,h.left,h.rdle,h.inl,h.low0,h.la,h.d1,h.d2⟩
theorem Zy6 {w:World}{B p NL NP:Nat}{vm:Value}{A Aw Ap:Option Addr}{c cw cp lo:Nat}{inp:List Int}{m:S.Mach}{H half:Int}{P:List (ByteArray×Int)}(hm:MAt w B p vm (.slice none 0 0) A c inp 0 m)(hA:∀ k o s,A=some ⟨k,o,s⟩->B<=k)(hlo:lo<=B)(hP:ReadsP w w.heap.size Ap P)(hPb:∀ k o s,Ap=some ⟨k,o,s⟩->k<B)(hNP:NP=P.length)(hPl:P.length<=1048576) :
 KAt (w.alloc (.cells #[.pointer (some ⟨p,0,none⟩),.slice Aw NL cw,.slice Ap NP cp,.int .i64 H,.int .i64 half] 32)) lo w.heap.size p (Zat p vm (.slice none 0 0)) H half P m:=by
 have hb:Below w.heap.size w (w.alloc (.cells #[.pointer (some ⟨p,0,none⟩),.slice Aw NL cw,.slice Ap NP cp,.int .i64 H,.int .i64 half] 32)):=(Below.refl _ _).alloc (Yf _) _;have hBw:B<=w.heap.size:=Y9 hm.low (Ybi hm.lt);refine ⟨⟨Aw,NL,cw,Ap,cp,by rw [<- hNP];exact heap_alloc_new w _,(hP.below hb).same' hb.size,fun k o s e=>⟨Yt (Yt (hPb k o s e) hBw) hb.size,fun hk=>by
  have:=(hm.foot_lt hk).1;have:=hPb k o s e;omega⟩⟩,⟨vm,_,A,c,inp,0,(hm.base hlo).below hb,fun _ hk=>hk,fun k o s e hk=>?_⟩,by omega,fun hk=>?_,fun k hk=>⟨by have:=(hm.foot_lt hk).1;omega,by have:=(hm.foot_lt hk).2;have:=hb.size;omega⟩,hPl⟩
 ·obtain ⟨d1,d2,d3⟩:=hm.d1 k o s e
  rcases hk with hk | hk | hk
  ·exact d1 hk
  ·exact d2 hk
  ·exact d3 hk
 ·have:=(hm.foot_lt hk).2
  omega
theorem Zbl {w w':World}{lo b p:Nat}{F:Nat->Prop}{H half:Int}{P:List (ByteArray×Int)}{m:S.Mach}{B:Nat}{w0:World}(h0:Below lo w0 w)(h:KAt w lo b p F H half P m)(ho:Only F w w'):Below lo w0 w':=h0.trans (h.lobelow ho h.lolt)
def Z2w (w:World)(gw sw:List Int)(os:List S.Obj)(heap:Int)(inp:List Int)(e:Ending)(w':World):Prop :=
 ∃ L P b p F,Zkx (S.al gw sw os) 0 0 L P/\e=.returned (.pointer (some ⟨b,0,none⟩))/\KAt w' w.heap.size b p F L.length (heap/2) P (S.wM L heap inp)/\Below w.heap.size w w'
theorem Zcn:(Tryz.prog.info? 55).map (fun i=>(i.zero,i.size,i.bytes))=some (some (.agg #[.string ByteArray.empty,.slice none 0 0]),2,40):=by kernel_rfl
theorem Z17 (os:List S.Obj)(Ao Ag As Ai:Option Addr)(co cg cs ci:Nat)(gw sw inp:List Int)(heap:Int)(w:World)(oc:List Value)(hoc:Reads w w.heap.size Ao oc)(hos:OC w w.heap.size os oc)(hno:Ao=none->os.length=0)(hg:Reads w w.heap.size Ag (gw.map (Y1 .u32)))(hs:Reads w w.heap.size As (sw.map (Y1 .u32)))(hi:Reads w w.heap.size Ai (inp.map (Y1 .u8)))
 (hgl:gw.length<=100) (hsl:sw.length<=100) (hol:os.length<=100) (hgw:∀ x∈gw,0<=x/\x<=4294967295) (hsw:∀ x∈sw,0<=x/\x<=4294967295) (hiw:∀ x∈inp,0<=x/\x<=255) (hil:inp.length<=1000000) (hheap:0<=heap/\heap<=1000000) (hjl:(S.joined (S.al gw sw os)).length<=1048576) (hlab:∀ o∈os,o.name.size<=100000/\∀ x∈o.items,x.label.size<=100000)
 (hok:∀ r L P,Zkx (S.al gw sw os) 0 r L P->r=0/\0<L.length/\L.length<=300000000/\(∀ x∈L,0<=x/\x<=4294967295)/\P.length<=1048576) :
 Calls Tryz.prog 19 #[.slice Ao os.length co,.slice Ag gw.length cg,.slice As sw.length cs,.int .i64 heap,.slice Ai inp.length ci] w (Z2w w gw sw os heap inp):=by
 obtain ⟨G,hG⟩:=Yx gw.length;obtain ⟨T,hT⟩:=Yx sw.length;have HW:=Ya (fun (W:World) (hb:Below w.heap.size w W)=>Zta Ag cg gw W ((hg.below hb).moreM hb.size) (by omega));have HS:=Ya (fun (W:World) (hb:Below w.heap.size w W)=>Zta As cs sw W ((hs.below hb).moreM hb.size) (by omega));rw [<- hG] at HW hgl ⊢;rw [<- hT] at HS hsl ⊢;obtain ⟨O,hO⟩:=Yx os.length;have HO:=Ya hO;have HOC:=Ya hos;have HRO:=Ya hoc;have hoclen:oc.length=O*2:=by rw [hO];exact hos.len
 have hocone:=hos.one;rw [<- hO] at hol hno ⊢;have HI:=Ya hi;have HIW:=Ya hiw;have HGW:=Ya hgw;have HSW:=Ya hsw;have HOK:=Ya hok;have HJL:=Ya hjl;have HLB:=Ya hlab;have HG:=Ya hG;have HT:=Ya hT;obtain ⟨NI,hNI⟩:=Yx inp.length;have HNI:=Ya hNI;rw [<- hNI] at hil ⊢;clear hos hoc hg hs hi hG hT hO hiw hgw hsw hok hjl hlab hNI;go_enter Tryz.func19,Tryz.ntmps19
 go_wp2_with fail
 refine (Zs9 _ _ (by decide) (by decide)).mono ?_;rintro e w1 ⟨rfl,hb1⟩;go_upto_region 2 with fail
 have ho1:(w1.alloc (.cells #[.int .i64 8,.int .i64 0,.int .i64 0,.int .i64 0,.int .i64 0,.int .i64 0,.string ⟨#[]⟩,.int .u32 1312] 59)).ownsRow w.heap.size 59 8 (.slice (some ⟨w1.heap.size,0,none⟩) 1 1) 1 ([S.bSp 1312].flatMap Zb):=by
  exact Zog hb1.size rfl rfl (by simp [maxLen])
 have hba:Below w.heap.size w (w1.alloc (.cells #[.int .i64 8,.int .i64 0,.int .i64 0,.int .i64 0,.int .i64 0,.int .i64 0,.string ⟨#[]⟩,.int .u32 1312] 59)):=hb1.alloc hb1.size _;generalize w1.alloc (.cells #[.int .i64 8,.int .i64 0,.int .i64 0,.int .i64 0,.int .i64 0,.int .i64 0,.string ⟨#[]⟩,.int .u32 1312] 59)=w2 at *;have hz2:=hba.size;clear hb1;go_wp2_with fail
 refine (HW.out w2 hba).mono ?_;rintro e w3 ⟨A3,c3,rfl,ho3,hb3⟩;have ho1b:=Zc ho1 hb3;have hb03:=hba.trans (hb3.mono hz2);have hz3:=hb03.size;clear hb3;go_upto_region 3 with (at_builtin;refine Z7 rfl (.tmp 22) (.tmp 24) _ rfl w.heap.size 59 Zz Tryz.underlying53 rfl (by decide) _ _ _ rfl ho1b w3.heap.size A3 G c3 _ rfl ho3.1 (Zkb ho3) (Zc0 ho3) (Zdw _) (by simp only [maxLen];omega) (by omega) hz3 ?_;intro v' w4 ho4 hg4 hb4 hat4;obtain ⟨A4,c4,rfl⟩:=Za ho4)
 have hb04:Below w.heap.size w w4:=hb03.trans hb4;have hz4:=hb04.size;clear ho1 ho1b ho3 hba hg4 hb4 hat4 hb03 hz3 hz2;go_upto_region 4 with (at_builtin;refine Zo rfl (.tmp 26) (.tmp 28) _ rfl w.heap.size 59 Zz Tryz.underlying53 rfl (by decide) #[.int .i64 2,.int .i64 0,.int .i64 0,.int .i64 0,.int .i64 0,.int .i64 0,.string S.kStatic,.int .u32 0] _ _ _ rfl ho4 rfl rfl rfl (by simp [Yac]) (by simp only [maxLen];omega) (by omega) hz4 ?_;intro v' w5 ho5 hg5 hb5 hat5;obtain ⟨A5,c5,rfl⟩:=Za ho5)
 have hb05:Below w.heap.size w w5:=hb04.trans hb5;have hz5:=hb05.size;clear ho4 hg5 hb5 hat5 hb04 hz4;go_wp2_with fail
 refine (HS.out w5 hb05).mono ?_;rintro e w6 ⟨A6,c6,rfl,ho6,hb6⟩;have ho5b:=Zc ho5 hb6;have hb06:=hb05.trans (hb6.mono hz5);have hz6:=hb06.size;clear hb6;go_upto_region 5 with (at_builtin;refine Z7 rfl (.tmp 30) (.tmp 32) _ rfl w.heap.size 59 Zz Tryz.underlying53 rfl (by decide) _ _ _ rfl ho5b w6.heap.size A6 T c6 _ rfl ho6.1 (Zkb ho6) (Zc0 ho6) (Zdw _) (by simp only [maxLen];omega) (by omega) hz6 ?_;intro v' w7 ho7 hg7 hb7 hat7;obtain ⟨A7,c7,rfl⟩:=Za ho7)
 have hb07:Below w.heap.size w w7:=hb06.trans hb7;have hz7:=hb07.size;clear ho5 ho5b ho6 hg7 hb7 hat7 hb05 hb06 hz5 hz6;go_upto_region 6 with fail
 have hk8:=heap_alloc_new w7 (.cells #[.int .i64 1,.int .i64 36,.int .i64 0,.int .i64 0,.int .i64 0,.int .i64 0,.string ⟨#[]⟩,.int .u32 0] 59);have hb08:Below w.heap.size w (w7.alloc (.cells #[.int .i64 1,.int .i64 36,.int .i64 0,.int .i64 0,.int .i64 0,.int .i64 0,.string ⟨#[]⟩,.int .u32 0] 59)):=hb07.alloc hz7 _;have ho8:=ho7.alloc (.cells #[.int .i64 1,.int .i64 36,.int .i64 0,.int .i64 0,.int .i64 0,.int .i64 0,.string ⟨#[]⟩,.int .u32 0] 59);have hlt8:w7.heap.size<(w7.alloc (.cells #[.int .i64 1,.int .i64 36,.int .i64 0,.int .i64 0,.int .i64 0,.int .i64 0,.string ⟨#[]⟩,.int .u32 0] 59)).heap.size:=by simp
 generalize w7.alloc (.cells #[.int .i64 1,.int .i64 36,.int .i64 0,.int .i64 0,.int .i64 0,.int .i64 0,.string ⟨#[]⟩,.int .u32 0] 59)=w8 at *;have hz8:=hb08.size;obtain ⟨p12,hp12⟩:=Yx w7.heap.size;rw [<- hp12] at hk8 hlt8 ⊢;have hc8:∀ j,w8.cell? ⟨p12,j,none⟩=(#[.int .i64 1,.int .i64 36,.int .i64 0,.int .i64 0,.int .i64 0,.int .i64 0,.string ⟨#[]⟩,.int .u32 0]:Array Value)[j]?:=fun j=>Zea hk8 j
 have g0:=hc8 0;have g1:=hc8 1;have g2:=hc8 2;have g3:=hc8 3;have g4:=hc8 4;have g5:=hc8 5;have g6:=hc8 6;have g7:=hc8 7;simp only [List.getElem?_toArray,List.getElem?_cons_zero,List.getElem?_cons_succ] at g0 g1 g2 g3 g4 g5 g6 g7;clear hp12 ho7 hb07 hz7 hk8 hc8;have hlit:(w8.alloc (.cells #[.int .i64 2,.int .i64 0,.int .i64 0,.int .i64 0,.int .i64 0,.int .i64 0,.string S.kCode,.int .u32 0,.int .i64 2,.int .i64 0,.int .i64 0,.int .i64 0,.int .i64 0,.int .i64 0,.string S.kStub,.int .u32 0,.int .i64 1,.int .i64 36,.int .i64 0,.int .i64 0,.int .i64 0,.int .i64 0,.string ⟨#[]⟩,.int .u32 0,.int .i64 2,.int .i64 0,.int .i64 0,.int .i64 0,.int .i64 0,.int .i64 0,.string S.kMapped,.int .u32 0,.int .i64 6,.int .i64 0,.int .i64 0,.int .i64 0,.int .i64 0,.int .i64 0,.string ⟨#[]⟩,.int .u32 0,.int .i64 1,.int .i64 36,.int .i64 0,.int .i64 0,.int .i64 0,.int .i64 0,.string ⟨#[]⟩,.int .u32 0] 59)).ownsRow 0 59 8 (.slice (some ⟨w8.heap.size,0,none⟩) 6 6) 6 ([S.bL S.kCode,S.bL S.kStub,S.bHalt,S.bL S.kMapped,S.bW 0,S.bHalt].flatMap Zb):=Zog (Nat.zero_le _) rfl rfl (by simp [maxLen]);have hb8a:Below w.heap.size w (w8.alloc (.cells #[.int .i64 2,.int .i64 0,.int .i64 0,.int .i64 0,.int .i64 0,.int .i64 0,.string S.kCode,.int .u32 0,.int .i64 2,.int .i64 0,.int .i64 0,.int .i64 0,.int .i64 0,.int .i64 0,.string S.kStub,.int .u32 0,.int .i64 1,.int .i64 36,.int .i64 0,.int .i64 0,.int .i64 0,.int .i64 0,.string ⟨#[]⟩,.int .u32 0,.int .i64 2,.int .i64 0,.int .i64 0,.int .i64 0,.int .i64 0,.int .i64 0,.string S.kMapped,.int .u32 0,.int .i64 6,.int .i64 0,.int .i64 0,.int .i64 0,.int .i64 0,.int .i64 0,.string ⟨#[]⟩,.int .u32 0,.int .i64 1,.int .i64 36,.int .i64 0,.int .i64 0,.int .i64 0,.int .i64 0,.string ⟨#[]⟩,.int .u32 0] 59)):=hb08.alloc hz8 _;have ho8a:=ho8.alloc (.cells #[.int .i64 2,.int .i64 0,.int .i64 0,.int .i64 0,.int .i64 0,.int .i64 0,.string S.kCode,.int .u32 0,.int .i64 2,.int .i64 0,.int .i64 0,.int .i64 0,.int .i64 0,.int .i64 0,.string S.kStub,.int .u32 0,.int .i64 1,.int .i64 36,.int .i64 0,.int .i64 0,.int .i64 0,.int .i64 0,.string ⟨#[]⟩,.int .u32 0,.int .i64 2,.int .i64 0,.int .i64 0,.int .i64 0,.int .i64 0,.int .i64 0,.string S.kMapped,.int .u32 0,.int .i64 6,.int .i64 0,.int .i64 0,.int .i64 0,.int .i64 0,.int .i64 0,.string ⟨#[]⟩,.int .u32 0,.int .i64 1,.int .i64 36,.int .i64 0,.int .i64 0,.int .i64 0,.int .i64 0,.string ⟨#[]⟩,.int .u32 0] 59);go_upto_region 7 with (at_builtin;refine Z7 rfl (.tmp 36) (.tmp 43) _ rfl w.heap.size 59 Zz Tryz.underlying53 rfl (by decide) _ _ _ rfl ho8a _ (some ⟨w8.heap.size,0,none⟩) 6 6 _ rfl hlit.1 (fun h=>by cases h) (Zc0 hlit) (Zdw _) (by simp only [maxLen];omega) (by omega) hb8a.size ?_;intro v' w9 ho9 hg9 hb9 hat9;obtain ⟨A9,c9,rfl⟩:=Za ho9)
 have hb09:Below w.heap.size w w9:=hb8a.trans hb9;have hz9:=hb09.size;clear ho8 ho8a hlit hb8a hg9 hb9 hat9 hb08 hz8 hlt8 g0 g1 g2 g3 g4 g5 g6 g7;go_wp2_with fail
 refine (Zs9 _ _ (by decide) (by decide)).mono ?_;rintro e w10 ⟨rfl,hb10⟩;have ho10:=Zc ho9 hb10;have hb010:Below w.heap.size w w10:=hb09.trans (hb10.mono hz9);have hz10:=hb010.size;clear ho9 hb10 hb09 hz9;go_upto_region 8 with fail
 have hlit:(w10.alloc (.cells #[.int .i64 2,.int .i64 0,.int .i64 0,.int .i64 0,.int .i64 0,.int .i64 0,.string ⟨#[109,111,114,101]⟩,.int .u32 0,.int .i64 8,.int .i64 0,.int .i64 0,.int .i64 0,.int .i64 0,.int .i64 0,.string ⟨#[]⟩,.int .u32 8,.int .i64 2,.int .i64 0,.int .i64 0,.int .i64 0,.int .i64 0,.int .i64 0,.string ⟨#[101,110,100]⟩,.int .u32 0] 59)).ownsRow w10.heap.size 59 8 (.slice (some ⟨w10.heap.size,0,none⟩) 3 3) 3 (S.tItems.flatMap Zb):=Zog (Yf _) rfl rfl (by simp [maxLen]);have hb11:Below w.heap.size w (w10.alloc (.cells #[.int .i64 2,.int .i64 0,.int .i64 0,.int .i64 0,.int .i64 0,.int .i64 0,.string ⟨#[109,111,114,101]⟩,.int .u32 0,.int .i64 8,.int .i64 0,.int .i64 0,.int .i64 0,.int .i64 0,.int .i64 0,.string ⟨#[]⟩,.int .u32 8,.int .i64 2,.int .i64 0,.int .i64 0,.int .i64 0,.int .i64 0,.int .i64 0,.string ⟨#[101,110,100]⟩,.int .u32 0] 59)):=hb010.alloc hz10 _;have ho11:=ho10.alloc (.cells #[.int .i64 2,.int .i64 0,.int .i64 0,.int .i64 0,.int .i64 0,.int .i64 0,.string ⟨#[109,111,114,101]⟩,.int .u32 0,.int .i64 8,.int .i64 0,.int .i64 0,.int .i64 0,.int .i64 0,.int .i64 0,.string ⟨#[]⟩,.int .u32 8,.int .i64 2,.int .i64 0,.int .i64 0,.int .i64 0,.int .i64 0,.int .i64 0,.string ⟨#[101,110,100]⟩,.int .u32 0] 59);generalize w10.alloc (.cells #[.int .i64 2,.int .i64 0,.int .i64 0,.int .i64 0,.int .i64 0,.int .i64 0,.string ⟨#[109,111,114,101]⟩,.int .u32 0,.int .i64 8,.int .i64 0,.int .i64 0,.int .i64 0,.int .i64 0,.int .i64 0,.string ⟨#[]⟩,.int .u32 8,.int .i64 2,.int .i64 0,.int .i64 0,.int .i64 0,.int .i64 0,.int .i64 0,.string ⟨#[101,110,100]⟩,.int .u32 0] 59)=w11 at *;have hz11:=hb11.size;clear ho10 hb010;go_upto_region 9 with fail
 go_upto_region 10 with (at_builtin;refine Zo rfl (.tmp 49) (.tmp 52) _ rfl w11.heap.size 55 Zcn Tryz.underlying51 rfl (by decide) #[.string S.kHead,.slice A9 (1+G+1+T+6) c9] _ _ _ rfl (World.ownsRow_nil _ _ _ _) rfl rfl rfl (by simp [Yac]) (by simp [maxLen]) (by decide) (Yf _) ?_;intro v' w12 ho12 hg12 hb12 hat12;obtain ⟨A12,c12,rfl⟩:=Za ho12)
 have hb012:Below w.heap.size w w12:=hb11.trans (hb12.mono hz11);have hz12:=hb012.size;have hz12b:=hb12.size;have hro:=HRO.out.below hb012;clear hg12 hat12;go_upto_region 11 with (at_builtin;refine Z7 rfl (.tmp 54) (.tmp 55) _ rfl w11.heap.size 55 Zcn Tryz.underlying51 rfl (by decide) _ _ _ rfl ho12 w.heap.size Ao O co oc rfl hoclen hno hro hocone (by simp only [maxLen];omega) (by omega) hz12b ?_;intro v' w13 ho13 hg13 hb13 hat13;obtain ⟨A13,c13,rfl⟩:=Za ho13)
 have hb013:Below w.heap.size w w13:=hb012.trans (hb13.mono hz11);go_upto_region 12 with (at_builtin;refine Zo rfl (.tmp 57) (.tmp 60) _ rfl w11.heap.size 55 Zcn Tryz.underlying51 rfl (by decide) #[.string S.kTail,.slice (some ⟨w10.heap.size,0,none⟩) 3 3] _ _ _ rfl ho13 rfl rfl rfl (by simp [Yac]) (by simp only [maxLen];omega) (by omega) (Y9 hz12b hb13.size) ?_;intro v' w14 ho14 hg14 hb14 hat14;obtain ⟨A14,c14,rfl⟩:=Za ho14)
 have hb1114:Below w11.heap.size w11 w14:=hb12.trans (hb13.trans hb14);have hb014:Below w.heap.size w w14:=hb11.trans (hb1114.mono hz11);have ho14h:=Zc ho11 hb1114;have hlit14:=Zc hlit hb1114;have hz14:=hb014.size;clear ho11 hlit hb11 hb12 hb13 hb14 hg13 hg14 hat13 hat14 ho12 ho13 hb012 hb013 hb1114 hro hz12 hz12b;have hhead:Items w14 w14.heap.size A9 (S.hItems gw sw):=Zpo ho14h (by
  unfold S.hItems;simp only [List.flatMap_cons,List.flatMap_append,List.flatMap_nil,List.append_nil,List.append_assoc];rfl) (fun x hx=>by
  unfold S.hItems at hx;simp only [Yu,Y8,Ya1,Y3,or_false] at hx;rcases hx with rfl | ⟨w,hw,rfl⟩ | rfl | ⟨w,hw,rfl⟩ | rfl | rfl | rfl | rfl | rfl | rfl
  ·decide
  ·exact HGW.out w hw
  ·decide
  ·exact HSW.out w hw
  all_goals decide)
 have htail:Items w14 w14.heap.size (some ⟨w10.heap.size,0,none⟩) S.tItems:=Zpo hlit14 rfl (fun x hx=>by
  unfold S.tItems at hx;simp only [Yu,Y3,or_false] at hx;rcases hx with rfl | rfl | rfl <;> decide)
 have hhl:(S.hItems gw sw).length=1+G+1+T+6:=by rw [Zbv,HG.out,HT.out];omega
 have hlabs:∀ y∈S.hItems gw sw,y.label.size<=maxLen:=fun y hy=>by
  unfold S.hItems at hy;simp only [Yu,Y8,Ya1,Y3,or_false] at hy;rcases hy with rfl | ⟨w,hw,rfl⟩ | rfl | ⟨w,hw,rfl⟩ | rfl | rfl | rfl | rfl | rfl | rfl
  all_goals first | decide | (show S.bNo.size<=maxLen;decide)
 have hoc1:=OC.one_ (x:=S.oHead gw sw) (c:=c9) hhead (show S.kHead.size<=maxLen by decide) hlabs;have hoc3:=OC.one_ (x:=S.oTail) (c:=3) htail (by decide) (fun y hy=>by
  have hy':y∈S.tItems:=hy;unfold S.tItems at hy';simp only [Yu,Y3,or_false] at hy';rcases hy' with rfl | rfl | rfl <;> decide)
 have hocA:=(hoc1.app (((HOC.out.below hb014).more hz14))).app hoc3;have hlen:(S.al gw sw os).length=0+1+O+1:=by
  unfold S.al;rw [List.length_cons,Yc,<- HO.out];simp;omega
 have hobjs:Objs w14 w14.heap.size A14 (S.al gw sw os):=by
  refine Zwm (base:=w11.heap.size) (e:=55) (c:=c14) (oc:=[]++#[Yc5 S.kHead,Ybc A9 (1+G+1+T+6) c9].toList++oc++#[Yc5 S.kTail,Ybc (some ⟨w10.heap.size,0,none⟩) 3 3].toList) (by rw [hlen];exact ho14) ?_;have e:S.al gw sw os=[S.oHead gw sw]++os++[S.oTail]:=by simp [S.al]
  rw [e];have e2:([]++#[Yc5 S.kHead,Ybc A9 (1+G+1+T+6) c9].toList++oc++#[Yc5 S.kTail,Ybc (some ⟨w10.heap.size,0,none⟩) 3 3].toList:List Value)=[Yc5 S.kHead,Ybc A9 (S.hItems gw sw).length c9]++oc++[Yc5 S.kTail,Ybc (some ⟨w10.heap.size,0,none⟩) S.tItems.length 3]:=by
   rw [hhl];rfl
  rw [e2];exact hocA
 have hlk:=Zt9 A14 c14 (S.al gw sw os) 0 w14 hobjs (by rw [hlen];omega) HJL.out (fun k o ho x hx=>by
  have hm:=List.mem_of_getElem? ho;unfold S.al at hm;rcases Yu.1 hm with rfl | hm
  ·have h1:=hlabs x hx
   have h2:(S.oHead gw sw).name.size<=100:=show S.kHead.size<=100 by decide
   simp only [maxLen] at h1;have h3:x.label.size<=100:=by
    have hy:x∈S.hItems gw sw:=hx;unfold S.hItems at hy;simp only [Yu,Y8,Ya1,Y3,or_false] at hy;rcases hy with rfl | ⟨w,hw,rfl⟩ | rfl | ⟨w,hw,rfl⟩ | rfl | rfl | rfl | rfl | rfl | rfl
    all_goals first | decide | (show S.bNo.size<=100;decide)
   omega
  ·rcases Y8.1 hm with hm | hm
   ·have:=(HLB.out o hm).1
    have:=(HLB.out o hm).2 x hx;omega
   ·rw [List.mem_singleton] at hm
    subst hm;have hy':x∈S.tItems:=hx;unfold S.tItems at hy';simp only [Yu,Y3,or_false] at hy';rcases hy' with rfl | rfl | rfl <;> decide)
 rw [hlen] at hlk;have HLK:=Ya hlk;clear hlk hobjs hocA hoc1 hoc3 hhead htail hlabs hhl hlen ho14 ho14h hlit14 hocone hoclen hno;go_wp2_with fail
 refine HLK.out.mono ?_;rintro e w15 ⟨vo,vp,r,L,P,rfl,hres,ho15,hp15,hb15⟩;obtain ⟨rfl,hL0,hLl,hLw,hPl⟩:=HOK.out r L P hres;obtain ⟨Aw,cw,rfl⟩:=Za ho15;obtain ⟨Ap,cp,rfl⟩:=Za hp15;have HRes:=Ya hres;have HLw:=Ya hLw;have HRd:=Ya (Reads.of_own ho15);have HRp:=Ya (ReadsP.of_own hp15);have HPb:=Ya (show ∀ k o s,Ap=some ⟨k,o,s⟩->k<w15.heap.size from fun k o s e=>(hp15.lt k (by rw [e];rfl)).2);have hb015:=hb014.trans (hb15.mono hz14);have hz15:=hb015.size;clear hres hLw ho15 hp15 hb15 HLK HOK;obtain ⟨x1,x2,x3⟩:=Zfq w15 #[.slice Aw L.length cw,.slice Ap P.length cp] 30;go_upto_region 13 with fail
 generalize w15.alloc (.cells #[.slice Aw L.length cw,.slice Ap P.length cp] 30)=w16 at *;have hX0:w16.cell? ⟨w15.heap.size,0,none⟩=some (.slice Aw L.length cw):=by simp [World.cell?,x1]
 have hX1:w16.cell? ⟨w15.heap.size,1,none⟩=some (.slice Ap P.length cp):=by simp [World.cell?,x1]
 have hz16:=x2.size;have hX16:w15.heap.size<w16.heap.size:=by omega
 have hb016:=hb015.trans (x2.mono (by omega));have hlo16:w.heap.size<=w16.heap.size:=hb016.size;have HRd16:=Ya ((HRd.out.below x2).moreM hz16);have HRp16:=Ya ((HRp.out.below x2));obtain ⟨NL,hNL⟩:=Yx L.length;have HNL:=Ya hNL;obtain ⟨NP,hNP⟩:=Yx P.length;have HNP:=Ya hNP;rw [<- hNL] at hX0 hL0 hLl;rw [<- hNP] at hX1 hPl;rw [<- hNL,<- hNP];have n1:((NL:Int)==0)=false:=by simp;omega
 have n2:IntKind.i64.wrap ((NL:Int)+heap)=NL+heap:=IntWalk.i64_in _ ⟨by omega,by omega⟩;have HW16:=Ya x2;have HX1:=Ya x1;have HNw:=Ya (show Calls Tryz.prog 68 #[.slice Aw NL cw,.int .i64 (NL+heap),.slice Ai NI ci] w16 (Zpi w16 NL (NL+heap) inp (Zjp L (NL+heap).toNat inp)) by
  have:=Zv8 Aw Ai cw ci L inp (NL+heap) w16 HRd16.out ((HI.out.below hb016).moreM hb016.size) (by rw [<- hNL];exact hLl) (by rw [<- HNI.out];exact hil) HLw.out HIW.out;rw [<- hNL,<- HNI.out] at this;exact this)
 clear x1 x2 x3 hNL hNP HRd HRp hb014 hz14;go_wp2_with fail
 refine HNw.out.mono ?_;rintro e w17 (⟨hno,-⟩ | ⟨-,p,vm,Ai2,ci2,rfl,hm,hb17,ha2⟩)
 ·exact absurd (show Zh9 NL (NL+heap) from ⟨by omega,by omega,by omega⟩) hno
 have hz17:=hb17.size;have hX17:w15.heap.size<w17.heap.size:=by omega
 have k0:w17.cell? ⟨w15.heap.size,0,none⟩=some (.slice Aw NL cw):=(hb17.cell (p:=⟨w15.heap.size,0,none⟩) hX16).trans hX0;have k1:w17.cell? ⟨w15.heap.size,1,none⟩=some (.slice Ap NP cp):=(hb17.cell (p:=⟨w15.heap.size,1,none⟩) hX16).trans hX1;have hb017:=hb016.trans (hb17.mono hb016.size);have HM:=Ya hm;have HA2:=Ya ha2;have HRp17:=Ya (HRp16.out.below (hb17.mono hz16));have HPb17:=Ya (show ∀ k o s,Ap=some ⟨k,o,s⟩->k<w16.heap.size from fun k o s e=>Yt (HPb.out k o s e) hz16);have Hb017:=Ya hb017;clear hm ha2 hX0 hX1 hb17 hb015 hb016 hb017 HNw HW16 HX1 HRd16 HRp16 hX16;have d2:Int.tdiv heap 2=heap/2:=Int.tdiv_eq_ediv_of_nonneg hheap.1;go_upto_region 18 with fail
 go_upto_region 19 with fail
 obtain ⟨hf,hhf⟩:=Yx (heap/2);have Hhf:=Ya hhf;have hfb:0<=hf/\hf<=heap:=by omega
 simp only [<- hhf];clear hhf;have HK:=Ya (Zy6 (Aw:=Aw) (NL:=NL) (cw:=cw) (cp:=cp) (H:=NL) (half:=hf) HM.out HA2.out hlo16 (HRp17.out.same' (Ybi hX17)) HPb17.out HNP.out (by rw [<- HNP.out];exact hPl));have HB:=Ya (Hb017.out.alloc Hb017.out.size (.cells #[.pointer (some ⟨p,0,none⟩),.slice Aw NL cw,.slice Ap NP cp,.int .i64 NL,.int .i64 hf] 32));generalize w17.alloc (.cells #[.pointer (some ⟨p,0,none⟩),.slice Aw NL cw,.slice Ap NP cp,.int .i64 NL,.int .i64 hf] 32)=w20 at *;generalize w17.heap.size=bb at *;obtain ⟨F,hF⟩:=Yx (Zat p vm (.slice none 0 0));rw [<- hF] at HK;clear hF HM HA2 HRp17 HPb17 Hb017 k0 k1 hX17 hz17 d2;have c1:heap%4294967296=heap:=by omega
 have c2:(NL:Int)%4294967296=NL:=by omega
 have c3:IntKind.i64.wrap ((NL:Int)+hf)=NL+hf:=IntWalk.i64_in _ ⟨by omega,by omega⟩;have c4:((NL:Int)+hf)%4294967296=NL+hf:=by omega
 have c5:hf%4294967296=hf:=by omega
 obtain ⟨_,_,_,_,_,_,e0,e1,e2,e3,e4⟩:=HK.out.cells;have hbl:=HK.out.blt;have HC:=Ya (show ∀ y:Ext w20,KAt y.val w.heap.size bb p F NL hf P _ from fun y=>HK.out.below y.property);go_wp2_with fail
 refine (Zd9 1 heap HK.out ⟨by omega,by omega⟩).mono ?_;rintro e w21 ⟨rv,rfl,hk,ho⟩;have HB2:=Ya (Zbl (B:=0) HB.out HK.out ho);clear HK HB ho e0 e1 e2 e3 e4 hbl HC;have HK:=Ya hk;have HB:=HB2;clear hk HB2;obtain ⟨_,_,_,_,_,_,e0,e1,e2,e3,e4⟩:=HK.out.cells;have hbl:=HK.out.blt;have HC:=Ya (show ∀ y:Ext w21,KAt y.val w.heap.size bb p F NL hf P _ from fun y=>HK.out.below y.property);go_wp2_with fail
 refine (Zd9 2 NL HK.out ⟨by omega,by omega⟩).mono ?_;rintro e w22 ⟨rv,rfl,hk,ho⟩;have HB2:=Ya (Zbl (B:=0) HB.out HK.out ho);clear HK HB ho e0 e1 e2 e3 e4 hbl HC;have HK:=Ya hk;have HB:=HB2;clear hk HB2;obtain ⟨_,_,_,_,_,_,e0,e1,e2,e3,e4⟩:=HK.out.cells;have hbl:=HK.out.blt;have HC:=Ya (show ∀ y:Ext w22,KAt y.val w.heap.size bb p F NL hf P _ from fun y=>HK.out.below y.property);go_upto_region 21 with fail
 refine Zi 11 (by kernel_rfl) (by kernel_rfl) ?_;have hE:=Ze w22;simp only [Y7,Yam,Yab,Yas]
 repeat (first | go_big_quiet_step (fail))
 refine wpQuiet_nil ?_;rintro y ⟨⟨_,hby⟩,rfl⟩;have HKy:=Ya (HC.out ⟨y,hby⟩);have HBy:=Ya (HB.out.trans (hby.mono HB.out.size));clear hE HK HB;have HK:=HKy;have HB:=HBy;clear HKy HBy;go_wp2_with fail
 refine (Zd9 3 (NL+hf) HK.out ⟨by omega,by omega⟩).mono ?_;rintro e w23 ⟨rv,rfl,hk,ho⟩;have HB2:=Ya (Zbl (B:=0) HB.out HK.out ho);clear HK HB ho e0 e1 e2 e3 e4 hbl HC;have HK:=Ya hk;have HB:=HB2;clear hk HB2;obtain ⟨_,_,_,_,_,_,e0,e1,e2,e3,e4⟩:=HK.out.cells;have hbl:=HK.out.blt;have HC:=Ya (show ∀ y:Ext w23,KAt y.val w.heap.size bb p F NL hf P _ from fun y=>HK.out.below y.property);go_wp2_with fail
 refine (Zd9 4 hf HK.out ⟨by omega,by omega⟩).mono ?_;rintro e w24 ⟨rv,rfl,hk,ho⟩;have HB2:=Ya (Zbl (B:=0) HB.out HK.out ho);clear HK HB ho e0 e1 e2 e3 e4 hbl HC;have HK:=Ya hk;have HB:=HB2;clear hk HB2;obtain ⟨_,_,_,_,_,_,e0,e1,e2,e3,e4⟩:=HK.out.cells;have hbl:=HK.out.blt;have HC:=Ya (show ∀ y:Ext w24,KAt y.val w.heap.size bb p F NL hf P _ from fun y=>HK.out.below y.property);go_wp2_with fail
 refine (Zd9 5 38 HK.out ⟨by omega,by omega⟩).mono ?_;rintro e w25 ⟨rv,rfl,hk,ho⟩;have HB2:=Ya (Zbl (B:=0) HB.out HK.out ho);clear HK HB ho e0 e1 e2 e3 e4 hbl HC;have HK:=Ya hk;have HB:=HB2;clear hk HB2;obtain ⟨_,_,_,_,_,_,e0,e1,e2,e3,e4⟩:=HK.out.cells;have hbl:=HK.out.blt;have HC:=Ya (show ∀ y:Ext w25,KAt y.val w.heap.size bb p F NL hf P _ from fun y=>HK.out.below y.property);go_wp2_with fail
 refine (Zge 26 NL HK.out ⟨by omega,by omega⟩).mono ?_;rintro e w26 ⟨rv,rfl,hk,ho⟩;have HB2:=Ya (Zbl (B:=0) HB.out HK.out ho);clear HK HB ho e0 e1 e2 e3 e4 hbl HC;have HK:=Ya hk;have HB:=HB2;clear hk HB2;obtain ⟨_,_,_,_,_,_,e0,e1,e2,e3,e4⟩:=HK.out.cells;have hbl:=HK.out.blt;have HC:=Ya (show ∀ y:Ext w26,KAt y.val w.heap.size bb p F NL hf P _ from fun y=>HK.out.below y.property);go_upto_region 25 with fail
 refine Zi 11 (by kernel_rfl) (by kernel_rfl) ?_;have hE:=Ze w26;simp only [Y7,Yam,Yab,Yas]
 repeat (first | go_big_quiet_step (fail))
 refine wpQuiet_nil ?_;rintro y ⟨⟨_,hby⟩,rfl⟩;have HKy:=Ya (HC.out ⟨y,hby⟩);have HBy:=Ya (HB.out.trans (hby.mono HB.out.size));clear hE HK HB;have HK:=HKy;have HB:=HBy;clear HKy HBy;go_wp2_with fail
 refine (Zge 27 (NL+hf) HK.out ⟨by omega,by omega⟩).mono ?_;rintro e w27 ⟨rv,rfl,hk,ho⟩;have HB2:=Ya (Zbl (B:=0) HB.out HK.out ho);clear HK HB ho e0 e1 e2 e3 e4 hbl HC;have HK:=Ya hk;have HB:=HB2;clear hk HB2;obtain ⟨_,_,_,_,_,_,e0,e1,e2,e3,e4⟩:=HK.out.cells;have hbl:=HK.out.blt;have HC:=Ya (show ∀ y:Ext w27,KAt y.val w.heap.size bb p F NL hf P _ from fun y=>HK.out.below y.property);go_wp2_with fail
 refine (Zge 28 1056 HK.out ⟨by omega,by omega⟩).mono ?_;rintro e w28 ⟨rv,rfl,hk,ho⟩;have HB2:=Ya (Zbl (B:=0) HB.out HK.out ho);clear HK HB ho e0 e1 e2 e3 e4 hbl HC;have HK:=Ya hk;have HB:=HB2;clear hk HB2;go_wp2_with fail
 refine bodyPost_ret (v:=.pointer (some ⟨bb,0,none⟩)) (results_tmp Tryz.results19 _ _ _) rfl ⟨L,P,bb,p,F,HRes.out,rfl,?_,HB.out⟩;rw [<- HNL.out,<- Hhf.out];have e:S.wM L heap inp=((((((((Zjp L ((NL:Int)+heap).toNat inp).putV 1 heap).putV 2 NL).putV 3 (NL+hf)).putV 4 hf).putV 5 38).setV 26 NL).setV 27 (NL+hf)).setV 28 1056:=by
  unfold S.wM;rw [<- HNL.out,<- Hhf.out]
 rw [e];exact HK.out
end Go.Proofs.YtdeepoikgfaecaaGreatDoor
