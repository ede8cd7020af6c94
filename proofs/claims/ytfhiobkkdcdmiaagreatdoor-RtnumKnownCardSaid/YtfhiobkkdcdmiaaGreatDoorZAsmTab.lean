/- Parts. -/
import Derived.Test.YtfhiobkkdcdmiaaGreatDoorZAsmK
import Derived.Deep.RegionLaw
import Derived.Deep.Cut
import Derived.Deep.CutRange
import Derived.WalkMore
set_option linter.all false
set_option maxHeartbeats 4000000
open Go.Lib renaming hid->Ya
open Nat renaming le_refl->Yb
open List renaming getD_eq_getElem?_getD->Ye,getElem?_eq_some_iff->Yg,replicate->Yu,drop_succ_cons->Ya0,take_succ_cons->Ya1,take_zero->Ya3,drop_zero->Ya8,length_set->Ybo,getElem?_eq_none_iff->Yb7,map_replicate->Ycs
open Go.RowKit.Below renaming refl->Yh
open Go.Value renaming int->Ys,ownBlock->Yam
open Go.Region renaming wanted->Yak
namespace Go.Proofs.YtfhiobkkdcdmiaaGreatDoor
set_option maxRecDepth 100000
section
open Go.RowKit
theorem Zrz {w:World}{B b g n:Nat}{vs:List Value}{cs:Array Value}{L C:Nat}(h:w.ownsRow B 3 1 (.slice (some ⟨b,0,none⟩) L C) n vs)(hg:w.heap[g]?=some (.cells cs 185 (0,0))):g≠b:=by
 rintro rfl;rcases h.2 with ⟨he,_⟩ | ⟨g',cap,cur,he,_,hk,_⟩
 ·cases he
 ·cases he
  rw [hg] at hk
  injection hk with hk
  injection hk with _ ht
  exact absurd ht (by decide)
theorem Zgz {w:World}{B b m k n:Nat}{vs:List Value}{f:ByteArray->Option Int}{L C:Nat}(h:w.ownsRow B 3 1 (.slice (some ⟨b,0,none⟩) L C) n vs)(hm:MapS w m k f):m≠b:=by
 rintro rfl;obtain ⟨D,⟨es,clock,hm,_⟩,_⟩:=hm;rcases h.2 with ⟨he,_⟩ | ⟨g',cap,cur,he,_,hg,_⟩
 ·cases he
 ·cases he
  rw [hm] at hg
  cases hg
theorem Work.placed {w w':World}{B g gF gA m n:Nat}{A:Option Addr}{c:Nat}{xs:List S.Item}{base:Int}{F T:List Int}{f:ByteArray->Option Int}(h:Work w B g gF gA m n A c xs base F T f)(k:Nat)(v:Int)
 (hw:w'=w.setCell ⟨gA,k,none⟩ (.int .i64 v)):Work w' B g gF gA m n A c xs base F (T.set k v) f/\Below B w w':=by
 subst hw;have hb:Below B w (w.setCell ⟨gA,k,none⟩ (.int .i64 v)):=(Yh _ _).setCell h.hA _;have hs:=h.ats.stored k (.int .i64 v);have hgA:=Zrz h.ats h.blk;have hmA:some m≠some gA:=by
  intro he;exact Zgz h.ats h.labels (Option.some.inj he)
 refine ⟨⟨?_,h.forms.kept hs.2 (.inr ?_),?_,h.labels.kept hs.2 hmA,h.hg,h.hF,h.hA,h.hm,h.ne1⟩,hb⟩
 ·rw [hs.2.block g (Zhg h.blk) (by simpa using hgA)];exact h.blk
 ·simp [Yam];exact h.ne1
 ·rw [List.map_set];exact hs.1
theorem Work.told {w w':World}{B g gF gA m n n':Nat}{A:Option Addr}{c:Nat}{xs:List S.Item}{base:Int}{F T:List Int}{f f':ByteArray->Option Int}(h:Work w B g gF gA m n A c xs base F T f)
 (hm:MapS w' m n' f') (hg:w.grownBy w' (some m)):Work w' B g gF gA m n' A c xs base F T f'/\Below B w w':=by
 have hgm:g≠m:=by
  rintro rfl;obtain ⟨D,⟨es,clock,hm,_⟩,_⟩:=h.labels;rw [h.blk] at hm
  cases hm
 have hFm:=Zgz h.forms h.labels;have hAm:=Zgz h.ats h.labels;refine ⟨⟨?_,h.forms.kept hg (.inr ?_),h.ats.kept hg (.inr ?_),hm,h.hg,h.hF,h.hA,h.hm,h.ne1⟩,(Yh _ _).grown hg ?_ ?_⟩
 ·rw [hg.block g (Zhg h.blk) (by simpa using hgm)];exact h.blk
 ·simp [Yam];exact fun e=>hFm e.symm
 ·simp [Yam];exact fun e=>hAm e.symm
 ·exact Nat.le_of_lt (Nat.lt_of_le_of_lt h.hg (Zhg h.blk))
 ·intro k hk
  cases hk
  exact h.hm
def Zto (w:World)(B g gF gA m n:Nat)(A:Option Addr)(c:Nat)(xs:List S.Item)(base:Int)(F:List Int)(e:Ending)(w':World):Prop :=
 Below B w w'/\((e=.returned (.bool true)/\S.addr xs F base xs.length<=S.most26/\Work w' B g gF gA m n A c xs base F (Zft xs F base (xs.length+1)) (Zfb xs)) \/
  (e=.returned (.bool false)/\S.most26<S.addr xs F base xs.length))
theorem Zr0 {w w':World}{m b:Nat}(hg:w.grownBy w' (some m))(hlt:b<w.heap.size)(hne:b≠m)(j:Nat):w'.cell? ⟨b,j,none⟩=w.cell? ⟨b,j,none⟩:=by
 simp only [World.cell?,hg.block b hlt (by simpa using hne)]
theorem Z6o {n:Int}(h:-9223372036854775808<=n/\n<=9223372036854775807):(Lit.int .i64 n).wf=true:=by
 simp [Lit.wf,IntKind.min,IntKind.max,IntKind.signed,IntKind.bits];omega
theorem Zfc {ops:Array Oper}{rest:List Oper}{o:Oper}{a:Act}{Q:Exit->Act->World->Prop}{w:World}(hg:o.guard=none)(hd:o.dst=none)(mo x v:Operand)(hop:o.op=Op.mapUpdate 179 mo x v)
 (m n:Nat) (f:ByteArray->Option Int) (hm:a.eval mo=.map (some m)) (h:MapS w m n f) (hn:n<1152921504606846976) (s:ByteArray) (q:Int) (hx:a.eval x=.string s) (hv:a.eval v=.int .i64 q) (hs:s.size<=maxLen) (hq:(Lit.int .i64 q).wf=true)
 (hK:∀ w',MapS w' m (if (f s).isSome then n else n+1) (fun t=>if t=s then some q else f t)->w.grownBy w' (some m)->wpList Tryz.prog ops Q rest a w'):wpList Tryz.prog ops Q (o::rest) a w:=by
 refine Zge hg mo x v hop m n f hm h hn s q hx hv hs hq ?_;intro w' h1 h2;rw [hd];exact hK w' h1 h2
theorem Ztp {xs:List S.Item}{x:S.Item}{k:Nat}(hd:S.stands xs x.label=k):(Zfb xs x.label).isSome=true/\(fun t=>if t=x.label then some (k:Int) else Zfb xs t)=Zfb xs:=by
 have e:Zfb xs x.label=some (k:Int):=by unfold Zfb;rw [hd,if_neg (by omega)]
 refine ⟨by rw [e];rfl,?_⟩
 funext t
 by_cases ht:t=x.label
 ·rw [if_pos ht,ht,e]
 ·rw [if_neg ht]
theorem Ztq (w:World){B g gF gA m n:Nat}{A:Option Addr}{c:Nat}{xs:List S.Item}{base:Int}{F T:List Int}(h:Work w B g gF gA m n A c xs base F T (Zfb xs))(hi:Items w B A xs)(hB:B<=w.heap.size)
 (hok:S.FormOk xs F) (hl:xs.length<=1048576) (hb0:0<=base) (hb26:base<=67108864) (hw:∀ x∈xs,0<=x.word/\x.word<=4294967295)
 (hlab:∀ (k:Nat) (x:S.Item),xs[k]?=some x->x.label.size<=maxLen) (hdup:∀ (k:Nat) (x:S.Item),xs[k]?=some x->x.kind=2->S.stands xs x.label=k) (hn:n<=1048576) :
 Calls Tryz.prog 193 #[.pointer (some ⟨g,0,none⟩)] w (Zto w B g gF gA m n A c xs base F):=by
 obtain ⟨k0,k1,k2,k3,k4⟩:=h.cells;obtain ⟨l1,l2,l3,l4⟩:=h.lts;have Hok:=Ya hok;have Hw:=Ya hw;have Hlab:=Ya hlab;have Hdup:=Ya hdup;clear hok hw hlab hdup;go_enter Tryz.func193,Tryz.ntmps193
 go_wp2_with fail
 go_loopw [3,15] (fun p i wr=>∃ (k:Nat) (T':List Int),k<=xs.length/\i=.int .i64 k/\p=.int .i64 (S.addr xs F base k)/\S.addr xs F base k<=67108864/\Work wr B g gF gA m n A c xs base F T' (Zfb xs)/\(∀ j,j<k->T'.getD j 0=S.addr xs F base j)/\Below B w wr) (fun _ i _=>xs.length-(intOf i).toNat)
 case atStart =>
  exact ⟨0,T,by omega,rfl,rfl,by rw [S.addr];exact hb26,h,fun j hj=>by omega,Yh _ _⟩
 case round =>
  obtain ⟨k,T',hk,rfl,rfl,hpos,hW,hT,hbk⟩:=hrel;clear k0 k1 k2 k3 k4 l1 l2 l3 l4;obtain ⟨k0,k1,k2,k3,k4⟩:=hW.cells;obtain ⟨l1,l2,l3,l4⟩:=hW.lts;have HT:=Ya hT;clear hT;have hzr:=hbk.size;obtain ⟨hbd0,hbd1⟩:=Zdm (base:=base) Hok.out Hw.out k;have hTl:T'.length=xs.length+1:=by have:=hW.ats.1;simpa using this
  have HTl:=Ya hTl;clear hTl;by_cases hlt:k<xs.length
  ·obtain ⟨b,off,x,rfl,hb,hx,hc0,hc1,hc2,hc3,hc4,hc5,hc6,hc7,hw0,hw1⟩:=(hi.below hbk).at_ hlt
   obtain ⟨hsd0,hsd1⟩:=Zik Hok.out Hw.out k;obtain ⟨h3,h4,h5⟩:=Hok.out.2 k x hx;have hsz:S.size x (F.getD k 0)=S.sizeAt xs F k:=by simp [S.sizeAt,hx]
   have hls:=Hlab.out k x hx;have hd:x.kind=2->S.stands xs x.label=k:=Hdup.out k x hx;have Hd:=Ya hd;obtain ⟨hcF,hfF⟩:=hW.form hlt;obtain ⟨hcA,hfA⟩:=hW.at_ (k:=k) (by omega);have hbr:b<wr.heap.size:=by omega
   have hnext:S.addr xs F base (k+1)=S.addr xs F base k+S.sizeAt xs F k:=rfl;have Hnext:=Ya hnext;have H3:=Ya h3;have H4:=Ya h4;clear hx h3 h4 h5 hd hnext;have hend:S.addr xs F base (k+1)<=S.addr xs F base xs.length:=by
    obtain ⟨d,hd⟩:∃ d,xs.length=k+1+d:=⟨xs.length-(k+1),by omega⟩
    have:=Zgy (base:=base) Hok.out Hw.out (k+1) d;rw [<- hd] at this;exact this
   have Hend:=Ya hend;clear hend;obtain ⟨kind,⟨op,d,a,b',imm⟩,lab,wd⟩:=x;simp only at hc0 hc1 hc2 hc3 hc4 hc5 hc6 hc7 hw0 hw1 hls Hd H3 H4;generalize hfk:F.getD k 0=fk at *;have Hfk:=Ya hfk;clear hfk;generalize hak:S.addr xs F base k=ak at *;have Hak:=Ya hak;clear hak;generalize hse:S.sizeAt xs F k=se at *;clear hse;have hs0:(wr.setCell ⟨gA,k,none⟩ (.int .i64 ak)).heap.size=wr.heap.size:=by simp [World.setCell]
   obtain ⟨hWa,hba⟩:=hW.placed k ak rfl;have hbA:Below wr.heap.size (wr.setCell ⟨gA,k,none⟩ (.int .i64 ak)) ((wr.setCell ⟨gA,k,none⟩ (.int .i64 ak)).alloc (.cells #[.int .i64 kind,.int .i64 op,.int .i64 d,.int .i64 a,.int .i64 b',.int .i64 imm,.string lab,.int .u32 wd] 74)):=(Yh _ _).alloc (by rw [hs0];exact Yb _) _;have hW2:=hWa.below (hs0 ▸ hbA);have hb02:Below B wr ((wr.setCell ⟨gA,k,none⟩ (.int .i64 ak)).alloc (.cells #[.int .i64 kind,.int .i64 op,.int .i64 d,.int .i64 a,.int .i64 b',.int .i64 imm,.string lab,.int .u32 wd] 74)):=hba.trans (hbA.mono (by omega));have hX:∀ (j:Nat) (v:Value),(#[Ys .i64 kind,.int .i64 op,.int .i64 d,.int .i64 a,.int .i64 b',.int .i64 imm,.string lab,.int .u32 wd])[j]?=some v ->
    ((wr.setCell ⟨gA,k,none⟩ (.int .i64 ak)).alloc (.cells #[.int .i64 kind,.int .i64 op,.int .i64 d,.int .i64 a,.int .i64 b',.int .i64 imm,.string lab,.int .u32 wd] 74)).cell? ⟨wr.heap.size,j,none⟩=some v:=by
    intro j v hv;rw [<- hs0,<- hv];exact Zav _ _ _ _
   have hX0:=hX 0 (.int .i64 kind) rfl;have hX1:=hX 1 (.int .i64 op) rfl;have hX2:=hX 2 (.int .i64 d) rfl;have hX3:=hX 3 (.int .i64 a) rfl;have hX4:=hX 4 (.int .i64 b') rfl;have hX5:=hX 5 (.int .i64 imm) rfl;have hX6:=hX 6 (.string lab) rfl;have hX7:=hX 7 (.int .u32 wd) rfl;obtain ⟨p0,p1,p2,p3,p4⟩:=hW2.cells;obtain ⟨q1,q2⟩:=hW2.form hlt;rw [Hfk.out] at q1;obtain ⟨r1,r2,r3,r4⟩:=hW2.lts;have r5:wr.heap.size<((wr.setCell ⟨gA,k,none⟩ (.int .i64 ak)).alloc (.cells #[.int .i64 kind,.int .i64 op,.int .i64 d,.int .i64 a,.int .i64 b',.int .i64 imm,.string lab,.int .u32 wd] 74)).heap.size:=by simp [World.setCell]
   clear hbA hba hWa hX hs0;have hfin:∀ w',Work w' B g gF gA m n (some ⟨b,off,none⟩) c xs base F (T'.set k ak) (Zfb xs)->ak+se<=67108864->Below B wr w' ->
    ∃ (k':Nat) (T':List Int),k'<=xs.length/\Ys .i64 ((k:Int)+1)=.int .i64 k'/\Ys .i64 (ak+se)=.int .i64 (S.addr xs F base k')/\S.addr xs F base k'<=67108864 /\
     Work w' B g gF gA m n (some ⟨b,off,none⟩) c xs base F T' (Zfb xs)/\(∀ j,j<k'->T'.getD j 0=S.addr xs F base j)/\Below B w w':=by
    intro w' h1 h2 h3;have e:=Hnext.out;refine ⟨k+1,_,by omega,by simp,by rw [e],by rw [e];exact h2,h1,fun j hj=>?_,hbk.trans h3⟩;by_cases hjk:j=k
    ·subst hjk
     rw [Zbu (by rw [HTl.out];omega),Hak.out]
    ·rw [Zal (fun e=>hjk e.symm)]
     exact HT.out j (by omega)
   have Hfin:=Ya hfin;clear hfin;have hcall:∀ (w2 w3:World),Work w2 B g gF gA m n (some ⟨b,off,none⟩) c xs base F (T'.set k ak) (Zfb xs)->Ext w2->True:=fun _ _ _ _=>trivial
   clear hcall;have hcall:∀ u:World,Calls Tryz.prog 218 #[.agg #[.int .i64 kind,.int .i64 op,.int .i64 d,.int .i64 a,.int .i64 b',.int .i64 imm,.string lab,.int .u32 wd],.int .i64 fk] u fun e w'=>e=.returned (.int .i64 se)/\Below u.heap.size u w':=by
    intro u;rw [<- hsz];exact Zib _ _ _ _ _ _ _ _ _ _ H3.out H4.out hw0 hw1
   clear hsz;by_cases c2:kind=2
   ·subst c2
    have hd:=Hd.out rfl;obtain ⟨hlF,hlE⟩:=Ztp (xs:=xs) (x:=⟨2,⟨op,d,a,b',imm⟩,lab,wd⟩) hd;simp only at hlF hlE;go_wp2_with fail
    generalize (wr.setCell ⟨gA,k,none⟩ (.int .i64 ak)).alloc (.cells #[.int .i64 2,.int .i64 op,.int .i64 d,.int .i64 a,.int .i64 b',.int .i64 imm,.string lab,.int .u32 wd] 74)=w2 at *;refine Zs 7 (by kernel_rfl) (by kernel_rfl) ?_;have hE:=Zw w2;simp only [Ya1,Ya3,Ya0,Ya8]
    repeat (first | go_big_quiet_step (fail))
    refine wpQuiet_nil ?_;intro w1 hx1;have hb1:=Zc0 hx1;clear hE hx1;have hW1:=hW2.below hb1;have hz1:=hb1.size;have hX:∀ (j:Nat),w1.cell? ⟨wr.heap.size,j,none⟩=w2.cell? ⟨wr.heap.size,j,none⟩:=fun j=>hb1.cell (p:=⟨_,j,none⟩) (by show wr.heap.size<w2.heap.size;omega)
    refine Zfc rfl rfl (.tmp 33) (.tmp 35) (.tmp 36) rfl m n _ rfl hW1.labels (by omega) lab k rfl rfl hls (Z6o (by omega)) ?_;intro w3 hm3 hg3;go_wp2_with fail
    rw [if_pos hlF,hlE] at hm3;obtain ⟨hW3,hb3⟩:=hW1.told hm3 hg3;have hb03:Below B wr w3:=(hb02.trans (hb1.mono (by omega))).trans hb3;have hz3:=hg3.size;have hY:∀ (j:Nat),w3.cell? ⟨wr.heap.size,j,none⟩=w2.cell? ⟨wr.heap.size,j,none⟩:=fun j=>(Zr0 hg3 (by omega) (by omega) j).trans (hX j)
    rw [<- hY] at hX0 hX1 hX2 hX3 hX4 hX5 hX6 hX7;clear p0 p1 p2 p3 p4 q1 q2 hX hY;obtain ⟨p0,p1,p2,p3,p4⟩:=hW3.cells;obtain ⟨q1,q2⟩:=hW3.form hlt;rw [Hfk.out] at q1;obtain ⟨t1,t2,t3,t4⟩:=hW3.lts;have t5:wr.heap.size<w3.heap.size:=by omega
    refine Zaa (by kernel_rfl) (by kernel_rfl) ?_;have hE:=Zw w3
    repeat (first
     | go_big_quiet_step ((go_at_call 218;exact Zff (hcall _))))
    refine wpQuiet_nil ?_;intro w4 hx4;have hb4:=Zc0 hx4;clear hE hx4;have hWe:=hW3.below hb4;have hbe:Below B wr w4:=hb03.trans (hb4.mono (by omega));by_cases hbig:ak+se<=67108864
    ·go_wp2_with fail
     go_roundw
     case rel=>exact Hfin.out _ hWe hbig hbe
     case measure=>simp [intOf];omega
    ·go_wp2_with fail
     go_ret
     exact ⟨hbk.trans hbe,.inr ⟨rfl,by have e1:=Hend.out;have e2:=Hnext.out;simp only [S.most26];omega⟩⟩
   ·have c2':=Zco c2
    go_wp2_with fail
    generalize (wr.setCell ⟨gA,k,none⟩ (.int .i64 ak)).alloc (.cells #[.int .i64 kind,.int .i64 op,.int .i64 d,.int .i64 a,.int .i64 b',.int .i64 imm,.string lab,.int .u32 wd] 74)=w2 at *;refine Zaa (by kernel_rfl) (by kernel_rfl) ?_;have hE:=Zw w2
    repeat (first
     | go_big_quiet_step ((go_at_call 218;exact Zff (hcall _))))
    refine wpQuiet_nil ?_;intro w4 hx4;have hb4:=Zc0 hx4;clear hE hx4;have hWe:=hW2.below hb4;have hbe:Below B wr w4:=hb02.trans (hb4.mono (by omega));by_cases hbig:ak+se<=67108864
    ·go_wp2_with fail
     go_roundw
     case rel=>exact Hfin.out _ hWe hbig hbe
     case measure=>simp [intOf];omega
    ·go_wp2_with fail
     go_ret
     exact ⟨hbk.trans hbe,.inr ⟨rfl,by have e1:=Hend.out;have e2:=Hnext.out;simp only [S.most26];omega⟩⟩
  ·have hkl:k=xs.length:=by omega
   subst hkl;have hlast:∀ w',Work w' B g gF gA m n A c xs base F (T'.set xs.length (S.addr xs F base xs.length)) (Zfb xs)->Work w' B g gF gA m n A c xs base F (Zft xs F base (xs.length+1)) (Zfb xs):=by
    intro w' h';have e:T'.set xs.length (S.addr xs F base xs.length)=Zft xs F base (xs.length+1):=by
     refine Zfz (by rw [Ybo,HTl.out,Zhf]) fun j=>?_
     by_cases hj:j<xs.length+1
     ·rw [Zcf _ _ _ _ _ hj]
      by_cases hjk:j=xs.length
      ·subst hjk
       rw [Zbu (by rw [HTl.out];omega)]
      ·rw [Zal (fun e=>hjk e.symm)]
       exact HT.out j (by omega)
     ·rw [Ye,Ye,Yb7.2 (by rw [Ybo,HTl.out];omega),Yb7.2 (by rw [Zhf];omega)]
    rw [e] at h';exact h'
   have Hlast:=Ya hlast;have hpos':S.addr xs F base xs.length<=S.most26:=hpos;clear hlast;generalize hak:S.addr xs F base xs.length=ak at *;have Hak:=Ya hak;clear hak;go_wp2_with fail
   refine Zs 11 (by kernel_rfl) (by kernel_rfl) ?_;have hE:=Zw wr;simp only [Ya1,Ya3,Ya0,Ya8]
   repeat (first | go_big_quiet_step (fail))
   refine wpQuiet_nil ?_;intro w1 hx1;have hb1:=Zc0 hx1;clear hE hx1;have hW1:=hW.below hb1;obtain ⟨s1,s2⟩:=hW1.at_ (k:=xs.length) (by omega);obtain ⟨hW3,hb3⟩:=hW1.placed xs.length ak rfl;go_wp2_with fail
   go_ret
   exact ⟨(hbk.trans (hb1.mono (by omega))).trans hb3,.inl ⟨rfl,by rw [Hak.out];exact hpos',Hlast.out _ hW3⟩⟩
end
section
open Go.RowKit
structure AsSt (w0:World)(n:Nat)(w:World)(f a m:Option Nat):Prop where
 bel:Below w0.heap.size w0 w
 rowF:∀ g,f=some g->w0.heap.size<=g/\w.ownsRow w0.heap.size 3 1 (.slice (some ⟨g,0,none⟩) n n) n (Yu n (Ys .i64 0))
 rowA:∀ g,a=some g->w0.heap.size<=g/\w.ownsRow w0.heap.size 3 1 (.slice (some ⟨g,0,none⟩) (n+1) (n+1)) (n+1) (Yu (n+1) (Ys .i64 0))
 labs:∀ g,m=some g->w0.heap.size<=g/\MapS w g 0 (fun _=>none)
 far:∀ g h,f=some g->a=some h->g≠h
theorem AsSt.start (w0 w:World)(n:Nat)(hb:Below w0.heap.size w0 w):AsSt w0 n w none none none :=
 ⟨hb,fun _ h=>(by cases h),fun _ h=>(by cases h),fun _ h=>(by cases h),fun _ _ h=>(by cases h)⟩
theorem AsSt.more {w0 w w':World}{n:Nat}{f a m:Option Nat}(h:AsSt w0 n w f a m)(hb:Below w.heap.size w w'):AsSt w0 n w' f a m :=
 ⟨h.bel.trans (hb.mono h.bel.size),fun g e=>⟨(h.rowF g e).1,Zd (h.rowF g e).2 hb⟩,fun g e=>⟨(h.rowA g e).1,Zd (h.rowA g e).2 hb⟩,fun g e=>⟨(h.labs g e).1,(h.labs g e).2.below hb⟩,h.far⟩
theorem Zmx (w:World)(B n:Nat)(hB:B<=w.heap.size)(hn:n<=1048577) :
 ∃ w',(Instr.makeSlice 29 (.int .i64 n) (.int .i64 n)).run Tryz.prog w=.ok (.slice (some ⟨w.heap.size,0,none⟩) n n) w' /\
  w'.ownsRow B 3 1 (.slice (some ⟨w.heap.size,0,none⟩) n n) n (Yu n (Ys .i64 0))/\Below w.heap.size w w':=by
 obtain ⟨i,hi,hzz,hsize,hby⟩:=info_parts Zgh;obtain ⟨w',hrun,r1,r2⟩:=run_make_full (P:=Tryz.prog) w B 29 3 i _ 1 Tryz.underlying29 hi hzz hsize .i64 .i64 n (by rw [hby];omega) (by simp only [maxLen];omega) hB;refine ⟨w',hrun,?_,(Yh _ _).grown r2 (Yb _) (by simp)⟩;rw [Nat.mul_one] at r1
 simpa [Value.cells,toList_madeCells_one] using r1
theorem AsSt.makeF {w0 w:World}{n:Nat}{a m:Option Nat}(h:AsSt w0 n w none a m)(hn:n<=1048576) :
 ∃ w',(Instr.makeSlice 29 (.int .i64 n) (.int .i64 n)).run Tryz.prog w=.ok (.slice (some ⟨w.heap.size,0,none⟩) n n) w'/\AsSt w0 n w' (some w.heap.size) a m:=by
 obtain ⟨w',hrun,h1,h2⟩:=Zmx w w0.heap.size n h.bel.size (by omega);have hm:=h.more h2;refine ⟨w',hrun,hm.bel,?_,hm.rowA,hm.labs,?_⟩
 ·rintro g ⟨⟩
  exact ⟨h.bel.size,h1⟩
 ·rintro g k ⟨⟩ hk e
  have:=((h.rowA k hk).2.lt k rfl).2;omega
theorem AsSt.makeA {w0 w:World}{n:Nat}{f m:Option Nat}(h:AsSt w0 n w f none m)(hn:n<=1048576) :
 ∃ w',(Instr.makeSlice 29 (.int .i64 ((n:Int)+1)) (.int .i64 ((n:Int)+1))).run Tryz.prog w=.ok (.slice (some ⟨w.heap.size,0,none⟩) (n+1) (n+1)) w'/\AsSt w0 n w' f (some w.heap.size) m:=by
 obtain ⟨w',hrun,h1,h2⟩:=Zmx w w0.heap.size (n+1) h.bel.size (by omega);have hm:=h.more h2;refine ⟨w',by simpa using hrun,hm.bel,hm.rowF,?_,hm.labs,?_⟩
 ·rintro g ⟨⟩
  exact ⟨h.bel.size,h1⟩
 ·rintro g k hg ⟨⟩ e
  have:=((h.rowF g hg).2.lt g rfl).2;omega
theorem AsSt.makeM {w0 w:World}{n:Nat}{f a:Option Nat}(h:AsSt w0 n w f a none) :
 ∃ w',(Instr.makeMap 179 none).run Tryz.prog w=.ok (.map (some w.heap.size)) w'/\AsSt w0 n w' f a (some w.heap.size):=by
 have hm:=h.more (w':=w.alloc (.map #[] 0)) ((Yh _ _).alloc (Yb _) _);refine ⟨_,rfl,hm.bel,hm.rowF,hm.rowA,?_,hm.far⟩;rintro g ⟨⟩;exact ⟨h.bel.size,MapS.made w⟩
theorem AsSt.work {w0 w:World}{A:Option Addr}{c:Nat}{xs:List S.Item}{base:Int}{gF gA m:Nat}(h:AsSt w0 xs.length w (some gF) (some gA) (some m)) :
 ∃ g,w.heap.size=g/\Work (w.alloc (.cells #[.slice A xs.length c,.int .i64 base,.slice (some ⟨gF,0,none⟩) xs.length xs.length,.slice (some ⟨gA,0,none⟩) (xs.length+1) (xs.length+1),.map (some m)] 185))
  w0.heap.size g gF gA m 0 A c xs base (Yu xs.length 0) (Yu (xs.length+1) 0) (fun _=>none)/\Below w0.heap.size w0 (w.alloc (.cells #[.slice A xs.length c,.int .i64 base,.slice (some ⟨gF,0,none⟩) xs.length xs.length,.slice (some ⟨gA,0,none⟩) (xs.length+1) (xs.length+1),.map (some m)] 185)):=by
 have hb:Below w.heap.size w (w.alloc (.cells #[.slice A xs.length c,.int .i64 base,.slice (some ⟨gF,0,none⟩) xs.length xs.length,.slice (some ⟨gA,0,none⟩) (xs.length+1) (xs.length+1),.map (some m)] 185)):=(Yh _ _).alloc (Yb _) _;have hm:=h.more hb;refine ⟨_,rfl,⟨?_,?_,?_,(hm.labs m rfl).2,h.bel.size,(hm.rowF gF rfl).1,(hm.rowA gA rfl).1,(hm.labs m rfl).1,h.far gF gA rfl rfl⟩,hm.bel⟩
 ·exact heap_alloc_new _ _
 ·rw [Ycs];exact (hm.rowF gF rfl).2
 ·rw [Ycs];exact (hm.rowA gA rfl).2
theorem Zaf {P:Program}{ops:Array Oper}{o:Oper}{a:Act}{w w':World}{v:Value}{K:Act->World->Prop}{Q:Exit->Act->World->Prop}{E:Prop}
 (hg:o.guard=none) (d:Option Tmp) (hd:o.dst=d) (hrun:(execOp a.eval o).run P w=.ok (.value v) w') (hK:K (a.put d v) w'):if Yak o (yielded ops a.tmps)=true then Oper.wp P o a w K Q else E:=by
 have hw:Yak o (yielded ops a.tmps)=true:=by simp [Yak,hg]
 rw [if_pos hw];subst hd;unfold Oper.wp;rw [hrun];exact hK
theorem Zci {P:Program}{md:Region.Mode}{ops:Array Oper}{Q:Exit->Act->World->Prop}{f:Nat}{l:Array Bool}{a:Act}{w:World}(h:∀ a0,a0=a->wpAny P md ops Q f l a0 w):wpAny P md ops Q f l a w:=h a rfl
theorem Zkh {P:Program}{ops:Array Oper}{o:Oper}{a:Act}{w w':World}{v:Value}{K:Act->World->Prop}{Q:Exit->Act->World->Prop}{E:Prop}
 (hg:o.guard=none) (t:TypeId) (x:Operand) (hop:o.op=Op.makeSlice t x x) (n:Int) (hx:a.eval x=.int .i64 n) (hrun:(Instr.makeSlice t (.int .i64 n) (.int .i64 n)).run P w=.ok v w') (d:Option Tmp) (hd:o.dst=d) (hK:K (a.put d v) w') :
 if Yak o (yielded ops a.tmps)=true then Oper.wp P o a w K Q else E:=by
 have hw:Yak o (yielded ops a.tmps)=true:=by simp [Yak,hg]
 rw [if_pos hw];subst hd;unfold Oper.wp;simp [execOp,hop,hx,hrun,Result.andThen];exact hK
theorem Zxo {P:Program}{ops:Array Oper}{o:Oper}{a:Act}{w w':World}{v:Value}{K:Act->World->Prop}{Q:Exit->Act->World->Prop}{E:Prop}
 (hg:o.guard=none) (t:TypeId) (hop:o.op=Op.makeMap t none) (hrun:(Instr.makeMap t none).run P w=.ok v w') (d:Option Tmp) (hd:o.dst=d) (hK:K (a.put d v) w') :
 if Yak o (yielded ops a.tmps)=true then Oper.wp P o a w K Q else E:=by
 have hw:Yak o (yielded ops a.tmps)=true:=by simp [Yak,hg]
 rw [if_pos hw];subst hd;unfold Oper.wp;simp [execOp,hop,hrun,Result.andThen];exact hK
theorem Zc4 {ops:Array Oper}{o:Oper}{a:Act}{w0 w:World}{n:Nat}{fa fm:Option Nat}{K:Act->World->Prop}{Q:Exit->Act->World->Prop}{E:Prop}(h:AsSt w0 n w none fa fm)(hn:n<=1048576)
 (hg:o.guard=none) (x:Operand) (hop:o.op=Op.makeSlice 29 x x) (hx:a.eval x=.int .i64 n) (d:Option Tmp) (hd:o.dst=d)
 (hK:∀ w',AsSt w0 n w' (some w.heap.size) fa fm->K (a.put d (.slice (some ⟨w.heap.size,0,none⟩) n n)) w'):if Yak o (yielded ops a.tmps)=true then Oper.wp Tryz.prog o a w K Q else E:=by
 obtain ⟨w',r,h'⟩:=h.makeF hn;exact Zkh hg _ x hop n hx r d hd (hK w' h')
theorem Zc5 {ops:Array Oper}{o:Oper}{a:Act}{w0 w:World}{n:Nat}{ff fm:Option Nat}{K:Act->World->Prop}{Q:Exit->Act->World->Prop}{E:Prop}(h:AsSt w0 n w ff none fm)(hn:n<=1048576)
 (hg:o.guard=none) (x:Operand) (hop:o.op=Op.makeSlice 29 x x) (hx:a.eval x=.int .i64 ((n:Int)+1)) (d:Option Tmp) (hd:o.dst=d)
 (hK:∀ w',AsSt w0 n w' ff (some w.heap.size) fm->K (a.put d (.slice (some ⟨w.heap.size,0,none⟩) (n+1) (n+1))) w'):if Yak o (yielded ops a.tmps)=true then Oper.wp Tryz.prog o a w K Q else E:=by
 obtain ⟨w',r,h'⟩:=h.makeA hn;exact Zkh hg _ x hop _ hx r d hd (hK w' h')
theorem Zc6 {ops:Array Oper}{o:Oper}{a:Act}{w0 w:World}{n:Nat}{ff fa:Option Nat}{K:Act->World->Prop}{Q:Exit->Act->World->Prop}{E:Prop}(h:AsSt w0 n w ff fa none)
 (hg:o.guard=none) (hop:o.op=Op.makeMap 179 none) (d:Option Tmp) (hd:o.dst=d)
 (hK:∀ w',AsSt w0 n w' ff fa (some w.heap.size)->K (a.put d (.map (some w.heap.size))) w'):if Yak o (yielded ops a.tmps)=true then Oper.wp Tryz.prog o a w K Q else E:=by
 obtain ⟨w',r,h'⟩:=h.makeM;exact Zxo hg _ hop r d hd (hK w' h')
end
section
structure Tab (xs:List S.Item)(k:Nat)(f:ByteArray->Option Int)(tw:Bool):Prop where
 has:∀ s,(f s).isSome=true↔∃ (j:Nat) (x:S.Item),j<k/\xs[j]?=some x/\x.kind=2/\x.label=s
 val:tw=false->∀ s v,f s=some v->v=S.stands xs s
 dup:tw=true↔∃ (j:Nat) (x:S.Item),j<k/\xs[j]?=some x/\x.kind=2/\S.stands xs x.label≠j
theorem Tab.start (xs:List S.Item):Tab xs 0 (fun _=>none) false :=
 ⟨fun s=>by simp,fun _ s v h=>by simp at h,by simp⟩
theorem Tab.other {xs:List S.Item}{k:Nat}{f:ByteArray->Option Int}{tw:Bool}(h:Tab xs k f tw){x:S.Item}(hx:xs[k]?=some x)(hk:x.kind≠2):Tab xs (k+1) f tw:=by
 refine ⟨fun s=>(h.has s).trans ?_,h.val,h.dup.trans ?_⟩
 ·constructor
  ·rintro ⟨j,y,h1,h2⟩;exact ⟨j,y,by omega,h2⟩
  ·rintro ⟨j,y,h1,h2,h3,h4⟩
   have:j≠k:=by rintro rfl;rw [hx] at h2;cases h2;exact hk h3
   exact ⟨j,y,by omega,h2,h3,h4⟩
 ·constructor
  ·rintro ⟨j,y,h1,h2⟩;exact ⟨j,y,by omega,h2⟩
  ·rintro ⟨j,y,h1,h2,h3,h4⟩
   have:j≠k:=by rintro rfl;rw [hx] at h2;cases h2;exact hk h3
   exact ⟨j,y,by omega,h2,h3,h4⟩
theorem Tab.label {xs:List S.Item}{k:Nat}{f:ByteArray->Option Int}{tw:Bool}(h:Tab xs k f tw){x:S.Item}(hx:xs[k]?=some x)(hk:x.kind=2) :
 Tab xs (k+1) (fun t=>if t=x.label then some (k:Int) else f t) (tw || (f x.label).isSome):=by
 have hst:(f x.label).isSome=false↔S.stands xs x.label=k:=by
  rw [<- Bool.not_eq_true,h.has];rcases Zay xs x.label with ⟨_,h2⟩ | ⟨j,y,h1,h2,h3,h4,h5⟩
  ·exact absurd ⟨hk,rfl⟩ (h2 k x hx)
  ·constructor
   ·intro hn
    rcases Nat.lt_trichotomy j k with hj | hj | hj
    ·exact absurd ⟨j,y,hj,h2,h3,h4⟩ hn
    ·rw [h1,hj]
    ·exact absurd ⟨hk,rfl⟩ (h5 k x hj hx)
   ·rintro hs ⟨i,z,h6,h7,h8,h9⟩
    have:j=k:=by rw [h1] at hs;omega
    subst this;exact h5 i z h6 h7 ⟨h8,h9⟩
 refine ⟨fun s=>?_,?_,?_⟩
 ·by_cases e:s=x.label
  ·simp only [e,if_true]
   constructor
   ·intro _;exact ⟨k,x,by omega,hx,hk,rfl⟩
   ·intro _;rfl
  ·simp only [e,if_false]
   rw [h.has]
   constructor
   ·rintro ⟨j,y,h1,h2⟩;exact ⟨j,y,by omega,h2⟩
   ·rintro ⟨j,y,h1,h2,h3,h4⟩
    have:j≠k:=by rintro rfl;rw [hx] at h2;cases h2;exact e h4.symm
    exact ⟨j,y,by omega,h2,h3,h4⟩
 ·intro ht s v hv
  rw [Bool.or_eq_false_iff] at ht;by_cases e:s=x.label
  ·simp only [e,if_true] at hv
   cases hv
   rw [e,hst.1 ht.2]
  ·simp only [e,if_false] at hv
   exact h.val ht.1 s v hv
 ·rw [Bool.or_eq_true,h.dup]
  constructor
  ·rintro (⟨j,y,h1,h2⟩ | hs)
   ·exact ⟨j,y,by omega,h2⟩
   ·refine ⟨k,x,by omega,hx,hk,fun e=>?_⟩
    rw [<- hst,hs] at e
    cases e
  ·rintro ⟨j,y,h1,h2,h3,h4⟩
   by_cases e:j=k
   ·right
    subst e;rw [hx] at h2;cases h2
    cases hb:(f x.label).isSome with
    | true=>rfl
    | false=>exact absurd (hst.1 hb) h4
   ·left;exact ⟨j,y,by omega,h2,h3,h4⟩
theorem Tab.done {xs:List S.Item}{f:ByteArray->Option Int}(h:Tab xs xs.length f false):f=Zfb xs/\¬ S.Dup xs:=by
 constructor
 ·funext s
  unfold Zfb;rcases Zay xs s with ⟨h1,h2⟩ | ⟨j,y,h1,h2,h3,h4,h5⟩
  ·rw [h1,if_pos (by omega)]
   cases hf:f s with
   | none=>rfl
   | some v =>
    obtain ⟨j,x,_,hx,hk,hl⟩:=(h.has s).1 (by rw [hf];rfl);exact absurd ⟨hk,hl⟩ (h2 j x hx)
  ·rw [h1,if_neg (by omega)]
   have hs:=(h.has s).2 ⟨j,y,(Yg.1 h2).1,h2,h3,h4⟩
   cases hf:f s with
   | none=>rw [hf] at hs;cases hs
   | some v=>rw [h.val rfl s v hf,h1]
 ·rintro ⟨i,x,hx,hk,hs⟩
  have:=h.dup.2 ⟨i,x,(Yg.1 hx).1,hx,hk,hs⟩
  cases this
theorem Tab.twice {xs:List S.Item}{f:ByteArray->Option Int}(h:Tab xs xs.length f true):S.Dup xs:=by
 obtain ⟨j,x,_,hx,hk,hs⟩:=h.dup.1 rfl;exact ⟨j,x,hx,hk,hs⟩
theorem Tab.shut {xs:List S.Item}{f:ByteArray->Option Int}(h:Tab xs xs.length f false){k:Nat}{x:S.Item}(hx:xs[k]?=some x)(hk:x.kind=2):S.stands xs x.label=k:=by
 by_cases e:S.stands xs x.label=k
 ·exact e
 ·exact absurd ⟨k,x,hx,hk,e⟩ h.done.2
end
end Go.Proofs.YtfhiobkkdcdmiaaGreatDoor
