/- Parts. -/
import Derived.Test.YtfhiobkkdcdmiaaGreatDoorZLinkB
import Derived.Deep.DeepCutAuto
import Derived.Deep.RegionLaw
import Derived.Deep.Cut
import Derived.Deep.CutRange
import Derived.WalkMore
set_option linter.all false
set_option maxHeartbeats 4000000
open Go.Lib renaming hid->Ya
open Nat renaming le_refl->Yb,le_of_lt->Ya8
open List renaming length_append->Yd,getD_eq_getElem?_getD->Ye,getElem?_eq_some_iff->Yg,getElem?_append_left->Ym,getElem?_append_right->Yo,replicate->Ys,getElem?_map->Y3,length_map->Yac,take_succ_cons->Yav,drop_succ_cons->Yaw,drop_zero->Yaz,take_zero->Ya2,flatMap_cons->Ybb,getElem?_take->Ybi,length_set->Ybm,flatMap_append->Yb4,getElem?_eq_none_iff->Ycb,map_replicate->Ycm
open Go.RowKit.Below renaming refl->Yh,trans->Ybf
open Go.Value renaming int->Yr,ownBlock->Yao
open Go.World renaming ownsRow_nil->Yak,setCell->Ybt,cell?->Yb2
open Go.Region renaming wanted->Yal
namespace Go.Proofs.YtfhiobkkdcdmiaaGreatDoor
open Go.RowKit
set_option maxRecDepth 100000
def Zth (xs:List S.Item)(w:World)(e:Ending)(w':World):Prop :=
 ∃v,e=.returned v/\w'.ownsRow w.heap.size 74 8 v xs.length (xs.flatMap Zc)/\Below w.heap.size w w'
theorem Zo1 (A:Option Addr)(c:Nat)(xs:List S.Item)(w:World)(hi:Items w w.heap.size A xs)(hl:xs.length<=1048576) :
 Calls Tryz.prog 162 #[.slice A xs.length c] w (Zth xs w):=by
 have hn:=λ(w:World) (A:Option Addr) (n c n1 c1:Nat)=>Lib.run_eql_slice_nil (P:=Tryz.prog) w 68 74 A n c n1 c1 Tryz.underlying68
 cases A with
 | none =>
  go_enter Tryz.func162,Tryz.ntmps162
  have hx0:xs=[]:=by
   cases xs with
   | nil=>rfl
   | cons x r =>
    obtain⟨b,off,e,_⟩:=hi (by simp)
    cases e
  subst hx0;go_wp2_with fail
  go_ret
  exact⟨_,rfl,Yak _ _ _ _,Yh _ _⟩
 | some a =>
  have hr:=hi.reads.below ((Yh w.heap.size w).alloc (Yb _) (.cells #[] 74));go_enter Tryz.func162,Tryz.ntmps162
  go_wp2_with (at_builtin;refine Zad rfl (.tmp 5) (.tmp 6) _ rfl w.heap.size 74 Za1 Tryz.underlying68 rfl (by decide) _ 0 [] rfl (World.ownsRow_made w #[] 0 (Yb _) (by simp[maxLen]) (by simp)) w.heap.size (some a) xs.length c (xs.flatMap Zc) rfl (Zef xs) (λ h=>by cases h) hr (Znx xs) (by simp only[maxLen];omega) (by omega) (by simp) ?_;intro v' w1 ho1 hg1 hb1 hat1)
  go_ret
  simp only[Nat.zero_add,List.nil_append] at ho1;exact⟨_,rfl,ho1,((Yh _ _).alloc (Yb _) _).trans hb1⟩
def Zhm (nm:ByteArray)(its:List S.Item)(q:Nat):List S.Item:=(its.take q).map (S.ownItem nm)++its.drop q
theorem Zru (nm:ByteArray)(its:List S.Item):Zhm nm its 0=its:=by simp[Zhm]
theorem Zti (nm:ByteArray)(its:List S.Item):Zhm nm its its.length=its.map (S.ownItem nm):=by simp[Zhm]
theorem Zqk (nm:ByteArray)(its:List S.Item)(q:Nat)(h:q<its.length):(Zhm nm its q)[q]?=some its[q]:=by
 unfold Zhm;rw[Yo (by simp;omega)];simp[Nat.min_eq_left (Ya8 h)]
theorem Zrv (nm:ByteArray)(its:List S.Item)(q:Nat)(h:q<its.length):(Zhm nm its q).set q (S.ownItem nm its[q])=Zhm nm its (q+1):=by
 apply List.ext_getElem?
 intro i;unfold Zhm;by_cases e:i=q
 .subst e
  rw[List.getElem?_set_self (by simp;omega)];rw[Ym (by simp;omega)];simp[Ybi,h]
 .rw[List.getElem?_set_ne (Ne.symm e)]
  by_cases l:i<q
  .rw[Ym (by simp;omega),Ym (by simp;omega)]
   simp[Ybi,l,show i<q+1 by omega]
  .rw[Yo (by simp;omega),Yo (by simp;omega)]
   simp only[Yac,List.length_take,List.getElem?_drop]
   congr 1
   omega
theorem Zxs (L:List S.Item)(q:Nat)(x:S.Item)(s:ByteArray)(h:L[q]?=some x) :
 (L.flatMap Zc).set (q*8+6) (.string s)=(L.set q ⟨x.kind,x.inst,s,x.word⟩).flatMap Zc:=by
 induction L generalizing q with
 | nil=>simp at h
 | cons y r ih =>
  cases q with
  | zero =>
   simp only[List.getElem?_cons_zero,Option.some.injEq] at h;subst h;simp[Zc]
  | succ q =>
   have h1:=ih q (by simpa using h);have e1:(q+1)*8+6=(Zc y).length+(q*8+6):=by simp[Zc];omega
   rw[Ybb,e1,List.set_append_right _ _ (by omega),Nat.add_sub_cancel_left,h1,List.set_cons_succ,Ybb]
theorem Zo2 (nm:ByteArray)(its:List S.Item)(q:Nat)(h:q<its.length) :
 ((Zhm nm its q).flatMap Zc).set (q*8+6) (.string (S.owned nm its[q].label))=(Zhm nm its (q+1)).flatMap Zc:=by
 rw[Zxs _ q _ _ (Zqk nm its q h),<- Zrv nm its q h];rfl
def Zxt (os:List S.Obj)(w:World)(e:Ending)(w':World):Prop :=
 ∃v,e=.returned v/\w'.ownsRow w.heap.size 74 8 v (S.joined os).length ((S.joined os).flatMap Zc)/\Below w.heap.size w w'
theorem Zo3 {os:List S.Obj}{k:Nat}{x:S.Obj}(hx:os[k]?=some x):S.joined (os.take (k+1))=S.joined (os.take k)++S.itemsOf x:=by
 have hk:=(Yg.1 hx).1;have he:os[k]=x:=by
  have:=List.getElem?_eq_getElem hk;rw[hx] at this;exact(Option.some.inj this).symm
 rw[List.take_succ_eq_append_getElem hk,he];simp[S.joined]
theorem Ztj {os:List S.Obj}(k:Nat):(S.joined (os.take k)).length<=(S.joined os).length:=by
 have h:S.joined os=S.joined (os.take k)++S.joined (os.drop k):=by
  unfold S.joined;rw[<- Yb4,List.take_append_drop]
 rw[h,Yd];omega
theorem Zo4 (A:Option Addr)(c:Nat)(os:List S.Obj)(w:World)(hi:Objs w w.heap.size A os)(hl:os.length<=1048576)(ht:(S.joined os).length<=1048576)
 (hsz:∀(k:Nat)(o:S.Obj),os[k]?=some o->∀x∈o.items,o.name.size+x.label.size<=9223372036854775807) :
 Calls Tryz.prog 106 #[.slice A os.length c] w (Zxt os w):=by
 have Hsz:=Ya hsz;clear hsz;go_enter Tryz.func106,Tryz.ntmps106
 go_wp2_with fail
 go_loopw [3,10] (λ v i wr=>∃k:Nat,k<=os.length/\i=.int .i64 k/\wr.ownsRow w.heap.size 74 8 v (S.joined (os.take k)).length ((S.joined (os.take k)).flatMap Zc)/\Below w.heap.size w wr) (λ _ i _=>os.length-(intOf i).toNat)
 case atStart=>exact⟨0,by omega,rfl,by simp[S.joined];exact Yak _ _ _ _,Yh _ _⟩
 case round =>
  obtain⟨k,hk,rfl,ho,hbk⟩:=hrel;by_cases hlt:k<os.length
  .obtain⟨b,off,x,rfl,hb,hx,hc0,⟨Ai,ci,hc1,hI⟩,hn,hlab⟩:=(hi.below hbk).at_ hlt
   have hzk:=hbk.size;have hbr:b<wr.heap.size:=by omega
   have hjk:=Ya (Zo3 hx);have hle:=Ztj (os:=os) (k+1);rw[hjk.out,Yd] at hle;have hil:x.items.length<=1048576:=by
    have:(S.itemsOf x).length=x.items.length:=by simp[S.itemsOf]
    omega
   have Hx:=Ya hx;have Hlab:=Ya hlab;clear hx hlab;obtain⟨nm,its⟩:=x;simp only at hc0 hc1 hn hil hI;obtain⟨x1,x2,x3⟩:=Zc7 wr #[.string nm,.slice Ai its.length ci] 70;go_upto_region 5 with fail
   generalize wr.alloc (.cells #[.string nm,.slice Ai its.length ci] 70)=wX at *;have hX0:wX.cell? ⟨wr.heap.size,0,none⟩=some (.string nm):=by simp[Yb2,x1]
   have hX1:wX.cell? ⟨wr.heap.size,1,none⟩=some (.slice Ai its.length ci):=by simp[Yb2,x1]
   have hzX:wr.heap.size<wX.heap.size:=by omega
   have hoX:=Zd ho x2;have hbX:=hbk.trans (x2.mono (by omega));have hIX:=(hI.below (x2.mono (by omega))).more (B':=wX.heap.size) (by omega);clear x1 x2 x3 ho hc0 hc1 hI;go_wp2_with fail
   refine(Zo1 _ _ _ _ hIX hil).mono ?_;rintro e w1 ⟨v1,rfl,ho1,hb1⟩;have hz1:=hb1.size;have hX0':w1.cell? ⟨wr.heap.size,0,none⟩=some (.string nm):=(hb1.cell (p:=⟨wr.heap.size,0,none⟩) hzX).trans hX0;obtain⟨A1,c1,rfl⟩:=Zb ho1;clear hX0 hX1;go_wp2_with fail
   obtain⟨wo,hwo⟩:∃wo:World,wo=wr:=⟨_,rfl⟩
   subst hwo;go_loopw [19] (λ i wi=>∃q:Nat,q<=its.length/\i=.int .i64 q/\wi.ownsRow wX.heap.size 74 8 (.slice A1 its.length c1) its.length ((Zhm nm its q).flatMap Zc)/\Below wX.heap.size wX wi) (λ i _=>its.length-(intOf i).toNat)
   case atStart=>exact⟨0,by omega,rfl,by rw[Zru];exact ho1,hb1⟩
   case round =>
    obtain⟨q,hq,rfl,hoq,hbq⟩:=hrel;by_cases hql:q<its.length
    .obtain⟨g,rfl,hg1,hg2,hg3,hg4,hg5⟩:=Z6 hoq (by omega)
     have hzi:=hbq.size;have hcl:wr.cell? ⟨g,q*8+6,none⟩=some (.string its[q].label):=by
      rw[hg4 _ (by omega),Ziv _ q _ (Zqk nm its q hql) 6 (by omega)];rfl
     have hcn:wr.cell? ⟨wo.heap.size,0,none⟩=some (.string nm):=by
      have h1:=hbq.cell (p:=⟨wo.heap.size,0,none⟩) hzX;have h2:=hb1.cell (p:=⟨wo.heap.size,0,none⟩) hzX;exact h1.trans (h2.symm.trans hX0')
     have hmem:its[q]∈its:=List.getElem_mem hql;have hls:=Hlab.out _ hmem;have hns:=Hsz.out _ _ Hx.out _ hmem;simp only at hns;have hfz:=hg5 (q*8+6);clear hg4 hg5;have hE:=Zu wr;have g1:wo.heap.size<wr.heap.size:=by omega
     go_upto_region 9 with fail
     refine Zbv 12 1 [0,1,2,3,4,5,6,7,8,9,10,11] (by kernel_rfl) (by kernel_rfl) (λ _ _ _ _ _ h=>h) ?_
     repeat (first
      | (refine Zis rfl ?_;go_big_quiet_step ((go_at_call 163;exact Zdp (Zsc _ _ _ hls hns)))))
     refine wpQuiet_nil ?_;rintro w2 ⟨⟨w3,hb2⟩,rfl⟩;simp only[Yaw,Yaz];have hcl2:w2.cell? ⟨g,q*8+6,none⟩=some (.string its[q].label):=(hb2.cell (p:=⟨g,q*8+6,none⟩) hg2).trans hcl;have hfz2:w2.frozen? ⟨g,q*8+6,none⟩=false:=(hb2.frozen (p:=⟨g,q*8+6,none⟩) hg2).trans hfz;have hoq2:=Zd hoq hb2;have hst:=hoq2.stored (q*8+6) (.string (S.owned nm its[q].label));rw[Zo2 nm its q hql] at hst;have Hst:=Ya hst;have hbq2:=hbq.trans (hb2.mono hzi);clear hE hst;go_wp2_with fail
     go_roundw
     case rel=>exact⟨q+1,by omega,by go_num,Hst.out.1,hbq2.setCell (p:=⟨g,q*8+6,none⟩) hg1 _⟩
     case measure=>simp[intOf];omega
    .have hqe:q=its.length:=by omega
     subst hqe;rw[Zti] at hoq;have hzi:=hbq.size;have hoX2:=Zd hoX hbq;have hbw:=hbX.trans (hbq.mono (by omega));have hww:∀x∈its.map (S.ownItem nm),0<=x.word/\x.word<=4294967295:=by
      intro x hx;obtain⟨y,hy,rfl⟩:=List.mem_map.1 hx;exact hIX.words y hy
     have hrd:=(Items.of_own hoq hww).reads;have hA1:A1=none->its.length=0:=λ h=>Zct hoq h
     have hfl:((its.map (S.ownItem nm)).flatMap Zc).length=its.length*8:=by rw[Zef,Yac]
     have hlj:(S.joined (os.take k)).length+its.length<=1048576:=by
      have:(S.itemsOf ⟨nm,its⟩).length=its.length:=by simp[S.itemsOf]
      omega
     have hone:=Znx (its.map (S.ownItem nm));have Hoq:=Ya hoq;clear hoq hoX hww;go_wp2_with (at_builtin;refine Zad rfl (.tmp 35) (.tmp 36) _ rfl w.heap.size 74 Za1 Tryz.underlying68 rfl (by decide) _ _ _ rfl hoX2 wr.heap.size A1 its.length c1 _ rfl hfl hA1 hrd hone (by simp only[maxLen];omega) (by omega) (by omega) ?_;intro v' w3 ho3 hg3 hb3 hat3)
     have hfin:w3.ownsRow w.heap.size 74 8 v' (S.joined (os.take (k+1))).length ((S.joined (os.take (k+1))).flatMap Zc):=by
      rw[hjk.out,Yd,Yb4];have e:(S.itemsOf ⟨nm,its⟩).length=its.length:=by simp[S.itemsOf]
      rw[e];exact ho3
     exact⟨⟨k+1,by omega,by go_num,hfin,hbw.trans hb3⟩,by simp[intOf];omega⟩
  .have hke:k=os.length:=by omega
   subst hke;rw[List.take_length] at ho;go_wp2_with fail
   go_ret
   exact⟨_,rfl,ho,hbk⟩
def Zfq (xs:List S.Item)(F:List Int)(base:Int)(n:Nat):List Int:=(List.range n).map (S.addr xs F base)
theorem Zcb (xs:List S.Item)(F:List Int)(base:Int)(n k:Nat)(h:k<n):(Zfq xs F base n).getD k 0=S.addr xs F base k:=by simp[Zfq,h]
theorem Zg5 (xs:List S.Item)(F:List Int)(base:Int)(n:Nat):(Zfq xs F base n).length=n:=by simp[Zfq]
def Ze5 (xs:List S.Item)(s:ByteArray):Option Int:=if S.stands xs s<0 then none else some (S.stands xs s)
structure Work (w:World)(B g gF gA m n:Nat)(A:Option Addr)(c:Nat)(xs:List S.Item)(base:Int)(F T:List Int)(f:ByteArray->Option Int):Prop where
 blk:w.heap[g]?=some (.cells #[.slice A xs.length c,.int .i64 base,.slice (some ⟨gF,0,none⟩) xs.length xs.length,.slice (some ⟨gA,0,none⟩) (xs.length+1) (xs.length+1),.map (some m)] 185 (0,0))
 forms:w.ownsRow B 3 1 (.slice (some ⟨gF,0,none⟩) xs.length xs.length) xs.length (F.map (Yr .i64))
 ats:w.ownsRow B 3 1 (.slice (some ⟨gA,0,none⟩) (xs.length+1) (xs.length+1)) (xs.length+1) (T.map (Yr .i64))
 labels:MapS w m n f
 hg:B<=g
 hF:B<=gF
 hA:B<=gA
 hm:B<=m
 ne1:gF≠gA
theorem Zg6 {w:World}{g:Nat}{o:Obj}(h:w.heap[g]?=some o):g<w.heap.size:=(Array.getElem?_eq_some_iff.1 h).1
theorem Zfr {w:World}{g:Nat}{cs:Array Value}{t:TypeId}(h:w.heap[g]?=some (.cells cs t (0,0)))(j:Nat):w.cell? ⟨g,j,none⟩=cs[j]?:=by simp[Yb2,h]
theorem Work.below {w w':World}{B g gF gA m n:Nat}{A:Option Addr}{c:Nat}{xs:List S.Item}{base:Int}{F T:List Int}{f:ByteArray->Option Int}(h:Work w B g gF gA m n A c xs base F T f)
 (hb:Below w.heap.size w w'):Work w' B g gF gA m n A c xs base F T f :=
 ⟨(hb.block g (Zg6 h.blk)).trans h.blk,Zd h.forms hb,Zd h.ats hb,h.labels.below hb,h.hg,h.hF,h.hA,h.hm,h.ne1⟩
theorem Work.cells {w:World}{B g gF gA m n:Nat}{A:Option Addr}{c:Nat}{xs:List S.Item}{base:Int}{F T:List Int}{f:ByteArray->Option Int}(h:Work w B g gF gA m n A c xs base F T f) :
 w.cell? ⟨g,0,none⟩=some (.slice A xs.length c)/\w.cell? ⟨g,1,none⟩=some (.int .i64 base)/\w.cell? ⟨g,2,none⟩=some (.slice (some ⟨gF,0,none⟩) xs.length xs.length) /\
 w.cell? ⟨g,3,none⟩=some (.slice (some ⟨gA,0,none⟩) (xs.length+1) (xs.length+1))/\w.cell? ⟨g,4,none⟩=some (.map (some m)):=by
 refine⟨?_,?_,?_,?_,?_⟩ <;> rw[Zfr h.blk] <;> rfl
theorem Work.form {w:World}{B g gF gA m n:Nat}{A:Option Addr}{c:Nat}{xs:List S.Item}{base:Int}{F T:List Int}{f:ByteArray->Option Int}(h:Work w B g gF gA m n A c xs base F T f){k:Nat}(hk:k<xs.length) :
 w.cell? ⟨gF,k,none⟩=some (.int .i64 (F.getD k 0))/\w.frozen? ⟨gF,k,none⟩=false:=by
 have hl:F.length=xs.length:=by have:=h.forms.1;simpa using this
 obtain⟨g',he,_,_,_,hc,hf⟩:=Z6 h.forms (by omega)
 cases he
 refine⟨?_,hf k⟩;rw[hc k (by omega),Y3];have:k<F.length:=by omega
 simp[this]
theorem Work.at_ {w:World}{B g gF gA m n:Nat}{A:Option Addr}{c:Nat}{xs:List S.Item}{base:Int}{F T:List Int}{f:ByteArray->Option Int}(h:Work w B g gF gA m n A c xs base F T f){k:Nat}(hk:k<=xs.length) :
 w.cell? ⟨gA,k,none⟩=some (.int .i64 (T.getD k 0))/\w.frozen? ⟨gA,k,none⟩=false:=by
 have hl:T.length=xs.length+1:=by have:=h.ats.1;simpa using this
 obtain⟨g',he,_,_,_,hc,hf⟩:=Z6 h.ats (by omega)
 cases he
 refine⟨?_,hf k⟩;rw[hc k (by omega),Y3];have:k<T.length:=by omega
 simp[this]
theorem Work.lts {w:World}{B g gF gA m n:Nat}{A:Option Addr}{c:Nat}{xs:List S.Item}{base:Int}{F T:List Int}{f:ByteArray->Option Int}(h:Work w B g gF gA m n A c xs base F T f) :
 g<w.heap.size/\gF<w.heap.size/\gA<w.heap.size/\m<w.heap.size :=
 ⟨Zg6 h.blk,(h.forms.lt gF rfl).2,(h.ats.lt gA rfl).2,h.labels.lt⟩
theorem Zbh (w:World){B g gF gA m n:Nat}{A:Option Addr}{c:Nat}{xs:List S.Item}{base:Int}{F T:List Int}{f:ByteArray->Option Int}(h:Work w B g gF gA m n A c xs base F T f)
 (s:ByteArray) (hs:s.size<=maxLen) (j:Nat) (hf:f s=some (j:Int)) (hj:j<=xs.length) (hl:xs.length<=1048576) (t:Int) (ht:T.getD j 0=t) :
 Calls Tryz.prog 195 #[.pointer (some ⟨g,0,none⟩),.string s] w λ e w'=>e=.returned (.int .i64 t)/\Below w.heap.size w w':=by
 obtain⟨h0,h1,h2,h3,h4⟩:=h.cells;obtain⟨l1,l2,l3,l4⟩:=h.lts;have hat:=(h.at_ hj).1;rw[ht] at hat;clear ht;have hlook:∀x:Ext w,(Instr.lookup 179 (.map (some m)) (.string s) false).run Tryz.prog x.val=.ok (.int .i64 j) x.val:=λ x=>by
  have:=(h.labels.below x.property).look hs;rw[hf] at this;exact this
 clear h1 h2 hf;go_enter Tryz.func195,Tryz.ntmps195
 go_wp2_with fail
 refine Z9 (by kernel_rfl) (by kernel_rfl) ?_;have hE:=Zu w
 repeat (first|go_big_quiet_step (fail))
 refine wpQuiet_nil ?_;rintro _ ⟨⟨w1,hb1⟩,rfl⟩;go_wp2_with fail
 go_ret
 exact⟨rfl,hb1⟩
theorem Z0y (n:Int):S.chk ⟨26,0,0,0,n⟩=if -32768<=n/\n<=32767 then 0 else 11:=by
 have hf:S.form 26=4:=by decide
 have hl:S.least 26=-32768/\S.most 26=32767:=by decide
 simp only[S.chk,S.good,hf,S.hasD,S.hasA,S.hasB,S.reg,hl.1,hl.2];simp
theorem Ztk (n:Int):S.chk ⟨32,0,0,0,n⟩=if -1048576<=n/\n<=1048575 then 0 else 11:=by
 have hf:S.form 32=5:=by decide
 have hl:S.least 32=-1048576/\S.most 32=1048575:=by decide
 simp only[S.chk,S.good,hf,S.hasD,S.hasA,S.hasB,S.reg,hl.1,hl.2];simp
theorem Work.grown {w w':World}{B g gF gA m n:Nat}{A:Option Addr}{c:Nat}{xs:List S.Item}{base:Int}{F T:List Int}{f:ByteArray->Option Int}(h:Work w B g gF gA m n A c xs base F T f)(k:Nat)(v:Int)
 (hw:w'=w.setCell ⟨gF,k,none⟩ (.int .i64 v)):Work w' B g gF gA m n A c xs base (F.set k v) T f/\Below B w w':=by
 subst hw;have hb:Below B w (w.setCell ⟨gF,k,none⟩ (.int .i64 v)):=(Yh _ _).setCell h.hF _;have hs:=h.forms.stored k (.int .i64 v);have hgF:g≠gF:=by
  rintro rfl;rcases h.forms.2 with⟨he,_⟩|⟨g',cap,cur,he,_,hg,_⟩
  .cases he
  .cases he
   rw[h.blk] at hg
   injection hg with hg
   injection hg with _ ht
   exact absurd ht (by decide)
 have hmF:some m≠some gF:=by
  rintro he
  cases he
  obtain⟨D,⟨es,clock,hm,_⟩,_⟩:=h.labels;rcases h.forms.2 with⟨he,_⟩|⟨g',cap,cur,he,_,hg,_⟩
  .cases he
  .cases he
   rw[hm] at hg
   cases hg
 refine⟨⟨?_,?_,h.ats.kept hs.2 (.inr ?_),h.labels.kept hs.2 hmF,h.hg,h.hF,h.hA,h.hm,h.ne1⟩,hb⟩
 .rw[hs.2.block g (Zg6 h.blk) (by simpa using hgF)];exact h.blk
 .rw[List.map_set];exact hs.1
 .simp[Yao];exact λ e=>h.ne1 e.symm
def Zmm (w:World)(B g gF gA m n:Nat)(A:Option Addr)(c:Nat)(xs:List S.Item)(base:Int)(F F0:List Int)(i:Nat)(x:S.Item)(e:Ending)(w':World):Prop :=
 ∃F',e=.returned (.bool (!(S.fit xs F0 base i x)))/\(F'=if S.fit xs F0 base i x=true then F else F.set i (F.getD i 0+1)) /\
  Work w' B g gF gA m n A c xs base F' (Zfq xs F0 base (xs.length+1)) (Ze5 xs)/\Below B w w'
theorem Ztl (w:World){B g gF gA m n:Nat}{A:Option Addr}{c:Nat}{xs:List S.Item}{base:Int}{F F0:List Int}(h:Work w B g gF gA m n A c xs base F (Zfq xs F0 base (xs.length+1)) (Ze5 xs))(hi:Items w B A xs)(hB:B<=w.heap.size)
 (i:Nat) (x:S.Item) (hx:xs[i]?=some x) (hok:S.FormOk xs F0) (hsame:F.getD i 0=F0.getD i 0) (hst:S.named x=true->0<=S.stands xs x.label) (hls:x.label.size<=maxLen)
 (hl:xs.length<=1048576) (hb0:0<=base) (hb26:base<=67108864) (hw:∀x∈xs,0<=x.word/\x.word<=4294967295) :
 Calls Tryz.prog 194 #[.pointer (some ⟨g,0,none⟩),.int .i64 i] w (Zmm w B g gF gA m n A c xs base F F0 i x):=by
 have hlt:i<xs.length:=(Yg.1 hx).1;obtain⟨k0,k1,k2,k3,k4⟩:=h.cells;obtain⟨l1,l2,l3,l4⟩:=h.lts;obtain⟨hcF,hfF⟩:=h.form hlt;have hcA:=(h.at_ (k:=i) (by omega)).1;obtain⟨b,off,x',rfl,hb,hx',hc0,hc1,hc2,hc3,hc4,hc5,hc6,hc7,hw0,hw1⟩:=hi.at_ hlt;rw[hx] at hx'
 cases hx'
 have hbr:b<w.heap.size:=by omega
 obtain⟨h3,h4,h5⟩:=hok.2 i x hx;rw[Zcb xs F0 base _ i (by omega)] at hcA;have hfit:S.fit xs F0 base i x=(if (x.kind≠3/\x.kind≠4)\/(x.kind=3/\F0.getD i 0=3)\/(x.kind=4/\F0.getD i 0=2) then true
  else if x.kind=3/\F0.getD i 0=1 then
   decide (-32768<=S.addr xs F0 base (S.stands xs x.label).toNat-S.addr xs F0 base (i+1)/\S.addr xs F0 base (S.stands xs x.label).toNat-S.addr xs F0 base (i+1)<=32767)
  else decide (-1048576<=S.addr xs F0 base (S.stands xs x.label).toNat-S.addr xs F0 base (i+1)/\S.addr xs F0 base (S.stands xs x.label).toNat-S.addr xs F0 base (i+1)<=1048575)):=rfl
 have hsucc:S.addr xs F0 base (i+1)=S.addr xs F0 base i+S.size x (F.getD i 0):=by rw[S.addr,hsame];simp[S.sizeAt,hx]
 obtain⟨ha0,ha1⟩:=Zdh (base:=base) hok hw i;have hw':=Ya hw;have hok':=Ya hok;rw[hsucc,<- hsame] at hfit;rw[<- hsame] at h3 h4 h5;clear hok hw hsucc hsame;generalize S.addr xs F0 base i=ti at *;generalize hfk:F.getD i 0=fk at *;have Hfk:=Ya hfk;clear hfk;by_cases k34:x.kind=3\/x.kind=4
 .have hnm:S.named x=true:=by unfold S.named;grind
  have h0:=hst hnm;obtain⟨j,hj,hjl⟩:∃j:Nat,S.stands xs x.label=j/\j<xs.length:=by
   rcases Zax xs x.label with⟨e,_⟩|⟨j,y,e,hj,_⟩
   .omega
   .exact⟨j,e,(Yg.1 hj).1⟩
  have hlab:Ze5 xs x.label=some (j:Int):=by unfold Ze5;rw[if_neg (by omega),hj]
  obtain⟨hj0,hj1⟩:=Zdh (base:=base) hok'.out hw'.out j;rw[hj,Int.toNat_natCast] at hfit;have htj:=Zcb xs F0 base (xs.length+1) j (by omega);have Hfit:=Ya hfit;have Htj:=Ya htj;have Hlab:=Ya hlab;have hcases:(x.kind=3/\fk=1)\/(x.kind=3/\fk=2)\/(x.kind=3/\fk=3)\/(x.kind=4/\fk=1)\/(x.kind=4/\fk=2):=by
   rcases k34 with k|k
   .have:=h3 k;omega
   .have:=h4 k;omega
  clear h3 h4 h5 k34 hfit htj hlab hj hst h0 hnm hx;generalize S.addr xs F0 base j=tj at *;obtain⟨kind,⟨op,d,a,b',imm⟩,lab,wd⟩:=x;simp only at hc0 hc1 hc2 hc3 hc4 hc5 hc6 hc7 hw0 hw1 hcases hls;have hbA:Below w.heap.size w (w.alloc (.cells #[.int .i64 kind,.int .i64 op,.int .i64 d,.int .i64 a,.int .i64 b',.int .i64 imm,.string lab,.int .u32 wd] 74)):=(Yh _ _).alloc (Yb _) _;have hWA:=h.below hbA;have hfin:∀w',Below w.heap.size w w'->S.fit xs F0 base i ⟨kind,⟨op,d,a,b',imm⟩,lab,wd⟩=true ->
   Zmm w B g gF gA m n (some ⟨b,off,none⟩) c xs base F F0 i ⟨kind,⟨op,d,a,b',imm⟩,lab,wd⟩ (.returned (.bool false)) w' :=
   λ w' hb he=>⟨F,by rw[he];rfl,by rw[if_pos he],h.below hb,hb.mono hB⟩
  have Hfin:=Ya hfin;clear hfin;rcases hcases with⟨rfl,rfl⟩|⟨rfl,rfl⟩|⟨rfl,rfl⟩|⟨rfl,rfl⟩|⟨rfl,rfl⟩
  rotate_left 2
  .go_enter Tryz.func194,Tryz.ntmps194
   go_wp2_with fail
   go_ret
   exact Hfin.out _ hbA (by rw[Hfit.out];simp)
  rotate_left 1
  .go_enter Tryz.func194,Tryz.ntmps194
   go_wp2_with fail
   go_ret
   exact Hfin.out _ hbA (by rw[Hfit.out];simp)
  .have hsz:S.size ⟨3,⟨op,d,a,b',imm⟩,lab,wd⟩ 1=1:=by simp[S.size]
   have hchk:((-32768<=tj-ti-1/\tj-ti-1<=32767)/\S.chk ⟨26,0,0,0,tj-ti-1⟩=0/\S.fit xs F0 base i ⟨3,⟨op,d,a,b',imm⟩,lab,wd⟩=true) \/
    (¬(-32768<=tj-ti-1/\tj-ti-1<=32767)/\S.chk ⟨26,0,0,0,tj-ti-1⟩=11/\S.fit xs F0 base i ⟨3,⟨op,d,a,b',imm⟩,lab,wd⟩=false):=by
    have e:tj-(ti+1)=tj-ti-1:=by omega
    rw[Hfit.out,hsz,Z0y,e];by_cases hr:-32768<=tj-ti-1/\tj-ti-1<=32767
    .left;simp[hr]
    .right;simp[hr]
   rcases hchk with⟨hr,hc,hft⟩|⟨hr,hc,hft⟩
   all_goals
    have Hft:=Ya hft;clear hft hr;go_enter Tryz.func194,Tryz.ntmps194
    go_wp2_with fail
    refine Z9 (by kernel_rfl) (by kernel_rfl) ?_;have hE:=Zu (w.alloc (.cells #[.int .i64 3,.int .i64 op,.int .i64 d,.int .i64 a,.int .i64 b',.int .i64 imm,.string lab,.int .u32 wd] 74))
    repeat (first
     | go_big_quiet_step ((first
      | (go_at_call 195;exact Ze8 (Zbh _ (hWA.below (Subtype.property _)) lab hls j Hlab.out (by omega) hl tj Htj.out))
      | (go_at_call 218;exact Ze8 (Zhv _ _ _ _ _ _ _ _ _ _ (by omega) (by omega) hw0 hw1)))))
    refine wpQuiet_nil ?_;intro w1 hx1;have hb1:=Zcy hx1;clear hE hx1;have hb01:Below w.heap.size w w1:=hbA.trans (hb1.mono (by simp));obtain⟨hq1,hq2⟩:=Zcr hb1;have hz1:w.heap.size+1<=w1.heap.size:=by simpa using hb1.size
    have hlt1:w.heap.size<w1.heap.size:=by omega
    have hX0:w1.cell? ⟨w.heap.size,0,none⟩=some (.int .i64 3):=by rw[hq1 _ _ (by simp)];exact Zau _ _ _ _
    have hW1:=h.below hb01;obtain⟨p0,p1,p2,p3,p4⟩:=hW1.cells;obtain⟨q1,q2⟩:=hW1.form hlt;rw[Hfk.out] at q1;obtain⟨r1,r2,r3,r4⟩:=hW1.lts;clear hq1 hq2;go_wp2_with fail
    refine(Zck _ _ _ _ _ _).mono ?_;rintro e w3 ⟨rfl,hb3⟩;have hb03:Below w.heap.size w w3:=by
     refine Ybf ?_ (hb3.mono ?_)
     .exact hb01.alloc (by omega) _
     .simp;omega
    have hW3:=h.below hb03;obtain⟨n0,n1,n2,n3,n4⟩:=hW3.cells;obtain⟨hd1,hd2⟩:=hW3.form hlt;rw[Hfk.out] at hd1;obtain⟨m1,m2,m3,m4⟩:=hW3.lts;clear n1 n3 n4
   .go_wp2_with fail
    go_ret
    exact Hfin.out _ hb03 Hft.out
   .go_wp2_with fail
    go_ret
    obtain⟨hg1,hg2⟩:=hW3.grown i _ rfl;exact⟨_,by rw[Hft.out];rfl,by rw[Hft.out,Hfk.out];rfl,hg1,(hb03.mono hB).trans hg2⟩
  .have hsz:S.size ⟨3,⟨op,d,a,b',imm⟩,lab,wd⟩ 2=2:=by simp[S.size]
   have hchk:((-1048576<=tj-ti-2/\tj-ti-2<=1048575)/\S.chk ⟨32,0,0,0,tj-ti-2⟩=0/\S.fit xs F0 base i ⟨3,⟨op,d,a,b',imm⟩,lab,wd⟩=true) \/
    (¬(-1048576<=tj-ti-2/\tj-ti-2<=1048575)/\S.chk ⟨32,0,0,0,tj-ti-2⟩=11/\S.fit xs F0 base i ⟨3,⟨op,d,a,b',imm⟩,lab,wd⟩=false):=by
    have e:tj-(ti+2)=tj-ti-2:=by omega
    rw[Hfit.out,hsz,Ztk,e];by_cases hr:-1048576<=tj-ti-2/\tj-ti-2<=1048575
    .left;simp[hr]
    .right;simp[hr]
   rcases hchk with⟨hr,hc,hft⟩|⟨hr,hc,hft⟩
   all_goals
    have Hft:=Ya hft;clear hft hr;go_enter Tryz.func194,Tryz.ntmps194
    go_wp2_with fail
    refine Z9 (by kernel_rfl) (by kernel_rfl) ?_;have hE:=Zu (w.alloc (.cells #[.int .i64 3,.int .i64 op,.int .i64 d,.int .i64 a,.int .i64 b',.int .i64 imm,.string lab,.int .u32 wd] 74))
    repeat (first
     | go_big_quiet_step ((first
      | (go_at_call 195;exact Ze8 (Zbh _ (hWA.below (Subtype.property _)) lab hls j Hlab.out (by omega) hl tj Htj.out))
      | (go_at_call 218;exact Ze8 (Zhv _ _ _ _ _ _ _ _ _ _ (by omega) (by omega) hw0 hw1)))))
    refine wpQuiet_nil ?_;intro w1 hx1;have hb1:=Zcy hx1;clear hE hx1;have hb01:Below w.heap.size w w1:=hbA.trans (hb1.mono (by simp));obtain⟨hq1,hq2⟩:=Zcr hb1;have hz1:w.heap.size+1<=w1.heap.size:=by simpa using hb1.size
    have hlt1:w.heap.size<w1.heap.size:=by omega
    have hX0:w1.cell? ⟨w.heap.size,0,none⟩=some (.int .i64 3):=by rw[hq1 _ _ (by simp)];exact Zau _ _ _ _
    have hW1:=h.below hb01;obtain⟨p0,p1,p2,p3,p4⟩:=hW1.cells;obtain⟨q1,q2⟩:=hW1.form hlt;rw[Hfk.out] at q1;obtain⟨r1,r2,r3,r4⟩:=hW1.lts;clear hq1 hq2;go_wp2_with fail
    refine(Zck _ _ _ _ _ _).mono ?_;rintro e w3 ⟨rfl,hb3⟩;have hb03:Below w.heap.size w w3:=by
     refine Ybf ?_ (hb3.mono ?_)
     .exact hb01.alloc (by omega) _
     .simp;omega
    have hW3:=h.below hb03;obtain⟨n0,n1,n2,n3,n4⟩:=hW3.cells;obtain⟨hd1,hd2⟩:=hW3.form hlt;rw[Hfk.out] at hd1;obtain⟨m1,m2,m3,m4⟩:=hW3.lts;clear n1 n3 n4
   .go_wp2_with fail
    go_ret
    exact Hfin.out _ hb03 Hft.out
   .go_wp2_with fail
    go_ret
    obtain⟨hg1,hg2⟩:=hW3.grown i _ rfl;exact⟨_,by rw[Hft.out];rfl,by rw[Hft.out,Hfk.out];rfl,hg1,(hb03.mono hB).trans hg2⟩
  .have hsz:S.size ⟨4,⟨op,d,a,b',imm⟩,lab,wd⟩ 1=1:=by simp[S.size]
   have hchk:((-1048576<=tj-ti-1/\tj-ti-1<=1048575)/\S.chk ⟨32,0,0,0,tj-ti-1⟩=0/\S.fit xs F0 base i ⟨4,⟨op,d,a,b',imm⟩,lab,wd⟩=true) \/
    (¬(-1048576<=tj-ti-1/\tj-ti-1<=1048575)/\S.chk ⟨32,0,0,0,tj-ti-1⟩=11/\S.fit xs F0 base i ⟨4,⟨op,d,a,b',imm⟩,lab,wd⟩=false):=by
    have e:tj-(ti+1)=tj-ti-1:=by omega
    rw[Hfit.out,hsz,Ztk,e];by_cases hr:-1048576<=tj-ti-1/\tj-ti-1<=1048575
    .left;simp[hr]
    .right;simp[hr]
   rcases hchk with⟨hr,hc,hft⟩|⟨hr,hc,hft⟩
   all_goals
    have Hft:=Ya hft;clear hft hr;go_enter Tryz.func194,Tryz.ntmps194
    go_wp2_with fail
    refine Z9 (by kernel_rfl) (by kernel_rfl) ?_;have hE:=Zu (w.alloc (.cells #[.int .i64 4,.int .i64 op,.int .i64 d,.int .i64 a,.int .i64 b',.int .i64 imm,.string lab,.int .u32 wd] 74))
    repeat (first
     | go_big_quiet_step ((first
      | (go_at_call 195;exact Ze8 (Zbh _ (hWA.below (Subtype.property _)) lab hls j Hlab.out (by omega) hl tj Htj.out))
      | (go_at_call 218;exact Ze8 (Zhv _ _ _ _ _ _ _ _ _ _ (by omega) (by omega) hw0 hw1)))))
    refine wpQuiet_nil ?_;intro w1 hx1;have hb1:=Zcy hx1;clear hE hx1;have hb01:Below w.heap.size w w1:=hbA.trans (hb1.mono (by simp));obtain⟨hq1,hq2⟩:=Zcr hb1;have hz1:w.heap.size+1<=w1.heap.size:=by simpa using hb1.size
    have hlt1:w.heap.size<w1.heap.size:=by omega
    have hX0:w1.cell? ⟨w.heap.size,0,none⟩=some (.int .i64 4):=by rw[hq1 _ _ (by simp)];exact Zau _ _ _ _
    have hW1:=h.below hb01;obtain⟨p0,p1,p2,p3,p4⟩:=hW1.cells;obtain⟨q1,q2⟩:=hW1.form hlt;rw[Hfk.out] at q1;obtain⟨r1,r2,r3,r4⟩:=hW1.lts;clear hq1 hq2;go_wp2_with fail
    refine(Zck _ _ _ _ _ _).mono ?_;rintro e w3 ⟨rfl,hb3⟩;have hb03:Below w.heap.size w w3:=by
     refine Ybf ?_ (hb3.mono ?_)
     .exact hb01.alloc (by omega) _
     .simp;omega
    have hW3:=h.below hb03;obtain⟨n0,n1,n2,n3,n4⟩:=hW3.cells;obtain⟨hd1,hd2⟩:=hW3.form hlt;rw[Hfk.out] at hd1;obtain⟨m1,m2,m3,m4⟩:=hW3.lts;clear n1 n3 n4
   .go_wp2_with fail
    go_ret
    exact Hfin.out _ hb03 Hft.out
   .go_wp2_with fail
    go_ret
    obtain⟨hg1,hg2⟩:=hW3.grown i _ rfl;exact⟨_,by rw[Hft.out];rfl,by rw[Hft.out,Hfk.out];rfl,hg1,(hb03.mono hB).trans hg2⟩
 .have n3:(x.kind==3)=false:=Zcm (by omega)
  have n4:(x.kind==4)=false:=Zcm (by omega);have hft:S.fit xs F0 base i x=true:=by rw[hfit,if_pos (.inl (by omega))]
  have Hft:=Ya hft;clear hfit hft hst hx h3 h4 h5;obtain⟨m3,m4⟩:x.kind≠3/\x.kind≠4:=by omega
  clear k34;obtain⟨kind,⟨op,d,a,b',imm⟩,lab,wd⟩:=x;simp only at hc0 hc1 hc2 hc3 hc4 hc5 hc6 hc7 hw0 hw1 n3 n4 m3 m4;have hbA:Below w.heap.size w (w.alloc (.cells #[.int .i64 kind,.int .i64 op,.int .i64 d,.int .i64 a,.int .i64 b',.int .i64 imm,.string lab,.int .u32 wd] 74)):=(Yh _ _).alloc (Yb _) _;have hWA:=h.below hbA;go_enter Tryz.func194,Tryz.ntmps194
  go_wp2_with fail
  go_ret
  exact⟨F,by rw[Hft.out];rfl,by rw[if_pos Hft.out],hWA,hbA.mono hB⟩
theorem Zrw {w:World}{B b g n:Nat}{vs:List Value}{cs:Array Value}{L C:Nat}(h:w.ownsRow B 3 1 (.slice (some ⟨b,0,none⟩) L C) n vs)(hg:w.heap[g]?=some (.cells cs 185 (0,0))):g≠b:=by
 rintro rfl;rcases h.2 with⟨he,_⟩|⟨g',cap,cur,he,_,hk,_⟩
 .cases he
 .cases he
  rw[hg] at hk
  injection hk with hk
  injection hk with _ ht
  exact absurd ht (by decide)
theorem Zgo {w:World}{B b m k n:Nat}{vs:List Value}{f:ByteArray->Option Int}{L C:Nat}(h:w.ownsRow B 3 1 (.slice (some ⟨b,0,none⟩) L C) n vs)(hm:MapS w m k f):m≠b:=by
 rintro rfl;obtain⟨D,⟨es,clock,hm,_⟩,_⟩:=hm;rcases h.2 with⟨he,_⟩|⟨g',cap,cur,he,_,hg,_⟩
 .cases he
 .cases he
  rw[hm] at hg
  cases hg
theorem Work.placed {w w':World}{B g gF gA m n:Nat}{A:Option Addr}{c:Nat}{xs:List S.Item}{base:Int}{F T:List Int}{f:ByteArray->Option Int}(h:Work w B g gF gA m n A c xs base F T f)(k:Nat)(v:Int)
 (hw:w'=w.setCell ⟨gA,k,none⟩ (.int .i64 v)):Work w' B g gF gA m n A c xs base F (T.set k v) f/\Below B w w':=by
 subst hw;have hb:Below B w (w.setCell ⟨gA,k,none⟩ (.int .i64 v)):=(Yh _ _).setCell h.hA _;have hs:=h.ats.stored k (.int .i64 v);have hgA:=Zrw h.ats h.blk;have hmA:some m≠some gA:=by
  intro he;exact Zgo h.ats h.labels (Option.some.inj he)
 refine⟨⟨?_,h.forms.kept hs.2 (.inr ?_),?_,h.labels.kept hs.2 hmA,h.hg,h.hF,h.hA,h.hm,h.ne1⟩,hb⟩
 .rw[hs.2.block g (Zg6 h.blk) (by simpa using hgA)];exact h.blk
 .simp[Yao];exact h.ne1
 .rw[List.map_set];exact hs.1
theorem Work.told {w w':World}{B g gF gA m n n':Nat}{A:Option Addr}{c:Nat}{xs:List S.Item}{base:Int}{F T:List Int}{f f':ByteArray->Option Int}(h:Work w B g gF gA m n A c xs base F T f)
 (hm:MapS w' m n' f') (hg:w.grownBy w' (some m)):Work w' B g gF gA m n' A c xs base F T f'/\Below B w w':=by
 have hgm:g≠m:=by
  rintro rfl;obtain⟨D,⟨es,clock,hm,_⟩,_⟩:=h.labels;rw[h.blk] at hm
  cases hm
 have hFm:=Zgo h.forms h.labels;have hAm:=Zgo h.ats h.labels;refine⟨⟨?_,h.forms.kept hg (.inr ?_),h.ats.kept hg (.inr ?_),hm,h.hg,h.hF,h.hA,h.hm,h.ne1⟩,(Yh _ _).grown hg ?_ ?_⟩
 .rw[hg.block g (Zg6 h.blk) (by simpa using hgm)];exact h.blk
 .simp[Yao];exact λ e=>hFm e.symm
 .simp[Yao];exact λ e=>hAm e.symm
 .exact Ya8 (Nat.lt_of_le_of_lt h.hg (Zg6 h.blk))
 .intro k hk
  cases hk
  exact h.hm
def Ztm (w:World)(B g gF gA m n:Nat)(A:Option Addr)(c:Nat)(xs:List S.Item)(base:Int)(F:List Int)(e:Ending)(w':World):Prop :=
 Below B w w'/\((e=.returned (.bool true)/\S.addr xs F base xs.length<=S.most26/\Work w' B g gF gA m n A c xs base F (Zfq xs F base (xs.length+1)) (Ze5 xs)) \/
  (e=.returned (.bool false)/\S.most26<S.addr xs F base xs.length))
theorem Zrx {w w':World}{m b:Nat}(hg:w.grownBy w' (some m))(hlt:b<w.heap.size)(hne:b≠m)(j:Nat):w'.cell? ⟨b,j,none⟩=w.cell? ⟨b,j,none⟩:=by
 simp only[Yb2,hg.block b hlt (by simpa using hne)]
theorem Z6l {n:Int}(h:-9223372036854775808<=n/\n<=9223372036854775807):(Lit.int .i64 n).wf=true:=by
 simp[Lit.wf,IntKind.min,IntKind.max,IntKind.signed,IntKind.bits];omega
theorem Ze6 {ops:Array Oper}{rest:List Oper}{o:Oper}{a:Act}{Q:Exit->Act->World->Prop}{w:World}(hg:o.guard=none)(hd:o.dst=none)(mo x v:Operand)(hop:o.op=Op.mapUpdate 179 mo x v)
 (m n:Nat) (f:ByteArray->Option Int) (hm:a.eval mo=.map (some m)) (h:MapS w m n f) (hn:n<1152921504606846976) (s:ByteArray) (q:Int) (hx:a.eval x=.string s) (hv:a.eval v=.int .i64 q) (hs:s.size<=maxLen) (hq:(Lit.int .i64 q).wf=true)
 (hK:∀w',MapS w' m (if (f s).isSome then n else n+1) (λ t=>if t=s then some q else f t)->w.grownBy w' (some m)->wpList Tryz.prog ops Q rest a w'):wpList Tryz.prog ops Q (o::rest) a w:=by
 refine Zf3 hg mo x v hop m n f hm h hn s q hx hv hs hq ?_;intro w' h1 h2;rw[hd];exact hK w' h1 h2
theorem Ztn {xs:List S.Item}{x:S.Item}{k:Nat}(hd:S.stands xs x.label=k):(Ze5 xs x.label).isSome=true/\(λ t=>if t=x.label then some (k:Int) else Ze5 xs t)=Ze5 xs:=by
 have e:Ze5 xs x.label=some (k:Int):=by unfold Ze5;rw[hd,if_neg (by omega)]
 refine⟨by rw[e];rfl,?_⟩
 funext t
 by_cases ht:t=x.label
 .rw[if_pos ht,ht,e]
 .rw[if_neg ht]
theorem Zto (w:World){B g gF gA m n:Nat}{A:Option Addr}{c:Nat}{xs:List S.Item}{base:Int}{F T:List Int}(h:Work w B g gF gA m n A c xs base F T (Ze5 xs))(hi:Items w B A xs)(hB:B<=w.heap.size)
 (hok:S.FormOk xs F) (hl:xs.length<=1048576) (hb0:0<=base) (hb26:base<=67108864) (hw:∀x∈xs,0<=x.word/\x.word<=4294967295)
 (hlab:∀(k:Nat)(x:S.Item),xs[k]?=some x->x.label.size<=maxLen) (hdup:∀(k:Nat)(x:S.Item),xs[k]?=some x->x.kind=2->S.stands xs x.label=k) (hn:n<=1048576) :
 Calls Tryz.prog 193 #[.pointer (some ⟨g,0,none⟩)] w (Ztm w B g gF gA m n A c xs base F):=by
 obtain⟨k0,k1,k2,k3,k4⟩:=h.cells;obtain⟨l1,l2,l3,l4⟩:=h.lts;have Hok:=Ya hok;have Hw:=Ya hw;have Hlab:=Ya hlab;have Hdup:=Ya hdup;clear hok hw hlab hdup;go_enter Tryz.func193,Tryz.ntmps193
 go_wp2_with fail
 go_loopw [3,15] (λ p i wr=>∃(k:Nat)(T':List Int),k<=xs.length/\i=.int .i64 k/\p=.int .i64 (S.addr xs F base k)/\S.addr xs F base k<=67108864/\Work wr B g gF gA m n A c xs base F T' (Ze5 xs)/\(∀j,j<k->T'.getD j 0=S.addr xs F base j)/\Below B w wr) (λ _ i _=>xs.length-(intOf i).toNat)
 case atStart =>
  exact⟨0,T,by omega,rfl,rfl,by rw[S.addr];exact hb26,h,λ j hj=>by omega,Yh _ _⟩
 case round =>
  obtain⟨k,T',hk,rfl,rfl,hpos,hW,hT,hbk⟩:=hrel;clear k0 k1 k2 k3 k4 l1 l2 l3 l4;obtain⟨k0,k1,k2,k3,k4⟩:=hW.cells;obtain⟨l1,l2,l3,l4⟩:=hW.lts;have HT:=Ya hT;clear hT;have hzr:=hbk.size;obtain⟨hbd0,hbd1⟩:=Zdh (base:=base) Hok.out Hw.out k;have hTl:T'.length=xs.length+1:=by have:=hW.ats.1;simpa using this
  have HTl:=Ya hTl;clear hTl;by_cases hlt:k<xs.length
  .obtain⟨b,off,x,rfl,hb,hx,hc0,hc1,hc2,hc3,hc4,hc5,hc6,hc7,hw0,hw1⟩:=(hi.below hbk).at_ hlt
   obtain⟨hsd0,hsd1⟩:=Zh3 Hok.out Hw.out k;obtain⟨h3,h4,h5⟩:=Hok.out.2 k x hx;have hsz:S.size x (F.getD k 0)=S.sizeAt xs F k:=by simp[S.sizeAt,hx]
   have hls:=Hlab.out k x hx;have hd:x.kind=2->S.stands xs x.label=k:=Hdup.out k x hx;have Hd:=Ya hd;obtain⟨hcF,hfF⟩:=hW.form hlt;obtain⟨hcA,hfA⟩:=hW.at_ (k:=k) (by omega);have hbr:b<wr.heap.size:=by omega
   have hnext:S.addr xs F base (k+1)=S.addr xs F base k+S.sizeAt xs F k:=rfl;have Hnext:=Ya hnext;have H3:=Ya h3;have H4:=Ya h4;clear hx h3 h4 h5 hd hnext;have hend:S.addr xs F base (k+1)<=S.addr xs F base xs.length:=by
    obtain⟨d,hd⟩:∃d,xs.length=k+1+d:=⟨xs.length-(k+1),by omega⟩
    have:=Zgn (base:=base) Hok.out Hw.out (k+1) d;rw[<- hd] at this;exact this
   have Hend:=Ya hend;clear hend;obtain⟨kind,⟨op,d,a,b',imm⟩,lab,wd⟩:=x;simp only at hc0 hc1 hc2 hc3 hc4 hc5 hc6 hc7 hw0 hw1 hls Hd H3 H4;generalize hfk:F.getD k 0=fk at *;have Hfk:=Ya hfk;clear hfk;generalize hak:S.addr xs F base k=ak at *;have Hak:=Ya hak;clear hak;generalize hse:S.sizeAt xs F k=se at *;clear hse;have hs0:(wr.setCell ⟨gA,k,none⟩ (.int .i64 ak)).heap.size=wr.heap.size:=by simp[Ybt]
   obtain⟨hWa,hba⟩:=hW.placed k ak rfl;have hbA:Below wr.heap.size (wr.setCell ⟨gA,k,none⟩ (.int .i64 ak)) ((wr.setCell ⟨gA,k,none⟩ (.int .i64 ak)).alloc (.cells #[.int .i64 kind,.int .i64 op,.int .i64 d,.int .i64 a,.int .i64 b',.int .i64 imm,.string lab,.int .u32 wd] 74)):=(Yh _ _).alloc (by rw[hs0];exact Yb _) _;have hW2:=hWa.below (hs0 ▸ hbA);have hb02:Below B wr ((wr.setCell ⟨gA,k,none⟩ (.int .i64 ak)).alloc (.cells #[.int .i64 kind,.int .i64 op,.int .i64 d,.int .i64 a,.int .i64 b',.int .i64 imm,.string lab,.int .u32 wd] 74)):=hba.trans (hbA.mono (by omega));have hX:∀(j:Nat)(v:Value),(#[Yr .i64 kind,.int .i64 op,.int .i64 d,.int .i64 a,.int .i64 b',.int .i64 imm,.string lab,.int .u32 wd])[j]?=some v ->
    ((wr.setCell ⟨gA,k,none⟩ (.int .i64 ak)).alloc (.cells #[.int .i64 kind,.int .i64 op,.int .i64 d,.int .i64 a,.int .i64 b',.int .i64 imm,.string lab,.int .u32 wd] 74)).cell? ⟨wr.heap.size,j,none⟩=some v:=by
    intro j v hv;rw[<- hs0,<- hv];exact Zau _ _ _ _
   have hX0:=hX 0 (.int .i64 kind) rfl;have hX1:=hX 1 (.int .i64 op) rfl;have hX2:=hX 2 (.int .i64 d) rfl;have hX3:=hX 3 (.int .i64 a) rfl;have hX4:=hX 4 (.int .i64 b') rfl;have hX5:=hX 5 (.int .i64 imm) rfl;have hX6:=hX 6 (.string lab) rfl;have hX7:=hX 7 (.int .u32 wd) rfl;obtain⟨p0,p1,p2,p3,p4⟩:=hW2.cells;obtain⟨q1,q2⟩:=hW2.form hlt;rw[Hfk.out] at q1;obtain⟨r1,r2,r3,r4⟩:=hW2.lts;have r5:wr.heap.size<((wr.setCell ⟨gA,k,none⟩ (.int .i64 ak)).alloc (.cells #[.int .i64 kind,.int .i64 op,.int .i64 d,.int .i64 a,.int .i64 b',.int .i64 imm,.string lab,.int .u32 wd] 74)).heap.size:=by simp[Ybt]
   clear hbA hba hWa hX hs0;have hfin:∀w',Work w' B g gF gA m n (some ⟨b,off,none⟩) c xs base F (T'.set k ak) (Ze5 xs)->ak+se<=67108864->Below B wr w' ->
    ∃(k':Nat)(T':List Int),k'<=xs.length/\Yr .i64 ((k:Int)+1)=.int .i64 k'/\Yr .i64 (ak+se)=.int .i64 (S.addr xs F base k')/\S.addr xs F base k'<=67108864 /\
     Work w' B g gF gA m n (some ⟨b,off,none⟩) c xs base F T' (Ze5 xs)/\(∀j,j<k'->T'.getD j 0=S.addr xs F base j)/\Below B w w':=by
    intro w' h1 h2 h3;have e:=Hnext.out;refine⟨k+1,_,by omega,by simp,by rw[e],by rw[e];exact h2,h1,λ j hj=>?_,hbk.trans h3⟩;by_cases hjk:j=k
    .subst hjk
     rw[Zbq (by rw[HTl.out];omega),Hak.out]
    .rw[Zal (λ e=>hjk e.symm)]
     exact HT.out j (by omega)
   have Hfin:=Ya hfin;clear hfin;have hcall:∀(w2 w3:World),Work w2 B g gF gA m n (some ⟨b,off,none⟩) c xs base F (T'.set k ak) (Ze5 xs)->Ext w2->True:=λ _ _ _ _=>trivial
   clear hcall;have hcall:∀u:World,Calls Tryz.prog 218 #[.agg #[.int .i64 kind,.int .i64 op,.int .i64 d,.int .i64 a,.int .i64 b',.int .i64 imm,.string lab,.int .u32 wd],.int .i64 fk] u λ e w'=>e=.returned (.int .i64 se)/\Below u.heap.size u w':=by
    intro u;rw[<- hsz];exact Zhv _ _ _ _ _ _ _ _ _ _ H3.out H4.out hw0 hw1
   clear hsz;by_cases c2:kind=2
   .subst c2
    have hd:=Hd.out rfl;obtain⟨hlF,hlE⟩:=Ztn (xs:=xs) (x:=⟨2,⟨op,d,a,b',imm⟩,lab,wd⟩) hd;simp only at hlF hlE;go_wp2_with fail
    generalize (wr.setCell ⟨gA,k,none⟩ (.int .i64 ak)).alloc (.cells #[.int .i64 2,.int .i64 op,.int .i64 d,.int .i64 a,.int .i64 b',.int .i64 imm,.string lab,.int .u32 wd] 74)=w2 at *;refine Zm 7 (by kernel_rfl) (by kernel_rfl) ?_;have hE:=Zu w2;simp only[Yav,Ya2,Yaw,Yaz]
    repeat (first|go_big_quiet_step (fail))
    refine wpQuiet_nil ?_;intro w1 hx1;have hb1:=Zcy hx1;clear hE hx1;have hW1:=hW2.below hb1;have hz1:=hb1.size;have hX:∀(j:Nat),w1.cell? ⟨wr.heap.size,j,none⟩=w2.cell? ⟨wr.heap.size,j,none⟩:=λ j=>hb1.cell (p:=⟨_,j,none⟩) (by show wr.heap.size<w2.heap.size;omega)
    refine Ze6 rfl rfl (.tmp 33) (.tmp 35) (.tmp 36) rfl m n _ rfl hW1.labels (by omega) lab k rfl rfl hls (Z6l (by omega)) ?_;intro w3 hm3 hg3;go_wp2_with fail
    rw[if_pos hlF,hlE] at hm3;obtain⟨hW3,hb3⟩:=hW1.told hm3 hg3;have hb03:Below B wr w3:=(hb02.trans (hb1.mono (by omega))).trans hb3;have hz3:=hg3.size;have hY:∀(j:Nat),w3.cell? ⟨wr.heap.size,j,none⟩=w2.cell? ⟨wr.heap.size,j,none⟩:=λ j=>(Zrx hg3 (by omega) (by omega) j).trans (hX j)
    rw[<- hY] at hX0 hX1 hX2 hX3 hX4 hX5 hX6 hX7;clear p0 p1 p2 p3 p4 q1 q2 hX hY;obtain⟨p0,p1,p2,p3,p4⟩:=hW3.cells;obtain⟨q1,q2⟩:=hW3.form hlt;rw[Hfk.out] at q1;obtain⟨t1,t2,t3,t4⟩:=hW3.lts;have t5:wr.heap.size<w3.heap.size:=by omega
    refine Z9 (by kernel_rfl) (by kernel_rfl) ?_;have hE:=Zu w3
    repeat (first
     | go_big_quiet_step ((go_at_call 218;exact Ze8 (hcall _))))
    refine wpQuiet_nil ?_;intro w4 hx4;have hb4:=Zcy hx4;clear hE hx4;have hWe:=hW3.below hb4;have hbe:Below B wr w4:=hb03.trans (hb4.mono (by omega));by_cases hbig:ak+se<=67108864
    .go_wp2_with fail
     go_roundw
     case rel=>exact Hfin.out _ hWe hbig hbe
     case measure=>simp[intOf];omega
    .go_wp2_with fail
     go_ret
     exact⟨hbk.trans hbe,.inr ⟨rfl,by have e1:=Hend.out;have e2:=Hnext.out;simp only[S.most26];omega⟩⟩
   .have c2':=Zcm c2
    go_wp2_with fail
    generalize (wr.setCell ⟨gA,k,none⟩ (.int .i64 ak)).alloc (.cells #[.int .i64 kind,.int .i64 op,.int .i64 d,.int .i64 a,.int .i64 b',.int .i64 imm,.string lab,.int .u32 wd] 74)=w2 at *;refine Z9 (by kernel_rfl) (by kernel_rfl) ?_;have hE:=Zu w2
    repeat (first
     | go_big_quiet_step ((go_at_call 218;exact Ze8 (hcall _))))
    refine wpQuiet_nil ?_;intro w4 hx4;have hb4:=Zcy hx4;clear hE hx4;have hWe:=hW2.below hb4;have hbe:Below B wr w4:=hb02.trans (hb4.mono (by omega));by_cases hbig:ak+se<=67108864
    .go_wp2_with fail
     go_roundw
     case rel=>exact Hfin.out _ hWe hbig hbe
     case measure=>simp[intOf];omega
    .go_wp2_with fail
     go_ret
     exact⟨hbk.trans hbe,.inr ⟨rfl,by have e1:=Hend.out;have e2:=Hnext.out;simp only[S.most26];omega⟩⟩
  .have hkl:k=xs.length:=by omega
   subst hkl;have hlast:∀w',Work w' B g gF gA m n A c xs base F (T'.set xs.length (S.addr xs F base xs.length)) (Ze5 xs)->Work w' B g gF gA m n A c xs base F (Zfq xs F base (xs.length+1)) (Ze5 xs):=by
    intro w' h';have e:T'.set xs.length (S.addr xs F base xs.length)=Zfq xs F base (xs.length+1):=by
     refine Zfp (by rw[Ybm,HTl.out,Zg5]) λ j=>?_
     by_cases hj:j<xs.length+1
     .rw[Zcb _ _ _ _ _ hj]
      by_cases hjk:j=xs.length
      .subst hjk
       rw[Zbq (by rw[HTl.out];omega)]
      .rw[Zal (λ e=>hjk e.symm)]
       exact HT.out j (by omega)
     .rw[Ye,Ye,Ycb.2 (by rw[Ybm,HTl.out];omega),Ycb.2 (by rw[Zg5];omega)]
    rw[e] at h';exact h'
   have Hlast:=Ya hlast;have hpos':S.addr xs F base xs.length<=S.most26:=hpos;clear hlast;generalize hak:S.addr xs F base xs.length=ak at *;have Hak:=Ya hak;clear hak;go_wp2_with fail
   refine Zm 11 (by kernel_rfl) (by kernel_rfl) ?_;have hE:=Zu wr;simp only[Yav,Ya2,Yaw,Yaz]
   repeat (first|go_big_quiet_step (fail))
   refine wpQuiet_nil ?_;intro w1 hx1;have hb1:=Zcy hx1;clear hE hx1;have hW1:=hW.below hb1;obtain⟨s1,s2⟩:=hW1.at_ (k:=xs.length) (by omega);obtain⟨hW3,hb3⟩:=hW1.placed xs.length ak rfl;go_wp2_with fail
   go_ret
   exact⟨(hbk.trans (hb1.mono (by omega))).trans hb3,.inl ⟨rfl,by rw[Hak.out];exact hpos',Hlast.out _ hW3⟩⟩
structure AsSt (w0:World)(n:Nat)(w:World)(f a m:Option Nat):Prop where
 bel:Below w0.heap.size w0 w
 rowF:∀g,f=some g->w0.heap.size<=g/\w.ownsRow w0.heap.size 3 1 (.slice (some ⟨g,0,none⟩) n n) n (Ys n (Yr .i64 0))
 rowA:∀g,a=some g->w0.heap.size<=g/\w.ownsRow w0.heap.size 3 1 (.slice (some ⟨g,0,none⟩) (n+1) (n+1)) (n+1) (Ys (n+1) (Yr .i64 0))
 labs:∀g,m=some g->w0.heap.size<=g/\MapS w g 0 (λ _=>none)
 far:∀g h,f=some g->a=some h->g≠h
theorem AsSt.start (w0 w:World)(n:Nat)(hb:Below w0.heap.size w0 w):AsSt w0 n w none none none :=
 ⟨hb,λ _ h=>(by cases h),λ _ h=>(by cases h),λ _ h=>(by cases h),λ _ _ h=>(by cases h)⟩
theorem AsSt.more {w0 w w':World}{n:Nat}{f a m:Option Nat}(h:AsSt w0 n w f a m)(hb:Below w.heap.size w w'):AsSt w0 n w' f a m :=
 ⟨h.bel.trans (hb.mono h.bel.size),λ g e=>⟨(h.rowF g e).1,Zd (h.rowF g e).2 hb⟩,λ g e=>⟨(h.rowA g e).1,Zd (h.rowA g e).2 hb⟩,λ g e=>⟨(h.labs g e).1,(h.labs g e).2.below hb⟩,h.far⟩
theorem Zmn (w:World)(B n:Nat)(hB:B<=w.heap.size)(hn:n<=1048577) :
 ∃w',(Instr.makeSlice 29 (.int .i64 n) (.int .i64 n)).run Tryz.prog w=.ok (.slice (some ⟨w.heap.size,0,none⟩) n n) w' /\
  w'.ownsRow B 3 1 (.slice (some ⟨w.heap.size,0,none⟩) n n) n (Ys n (Yr .i64 0))/\Below w.heap.size w w':=by
 obtain⟨i,hi,hzz,hsize,hby⟩:=info_parts Zf7;obtain⟨w',hrun,r1,r2⟩:=run_make_full (P:=Tryz.prog) w B 29 3 i _ 1 Tryz.underlying29 hi hzz hsize .i64 .i64 n (by rw[hby];omega) (by simp only[maxLen];omega) hB;refine⟨w',hrun,?_,(Yh _ _).grown r2 (Yb _) (by simp)⟩;rw[Nat.mul_one] at r1
 simpa[Value.cells,toList_madeCells_one] using r1
theorem AsSt.makeF {w0 w:World}{n:Nat}{a m:Option Nat}(h:AsSt w0 n w none a m)(hn:n<=1048576) :
 ∃w',(Instr.makeSlice 29 (.int .i64 n) (.int .i64 n)).run Tryz.prog w=.ok (.slice (some ⟨w.heap.size,0,none⟩) n n) w'/\AsSt w0 n w' (some w.heap.size) a m:=by
 obtain⟨w',hrun,h1,h2⟩:=Zmn w w0.heap.size n h.bel.size (by omega);have hm:=h.more h2;refine⟨w',hrun,hm.bel,?_,hm.rowA,hm.labs,?_⟩
 .rintro g ⟨⟩
  exact⟨h.bel.size,h1⟩
 .rintro g k ⟨⟩ hk e
  have:=((h.rowA k hk).2.lt k rfl).2;omega
theorem AsSt.makeA {w0 w:World}{n:Nat}{f m:Option Nat}(h:AsSt w0 n w f none m)(hn:n<=1048576) :
 ∃w',(Instr.makeSlice 29 (.int .i64 ((n:Int)+1)) (.int .i64 ((n:Int)+1))).run Tryz.prog w=.ok (.slice (some ⟨w.heap.size,0,none⟩) (n+1) (n+1)) w'/\AsSt w0 n w' f (some w.heap.size) m:=by
 obtain⟨w',hrun,h1,h2⟩:=Zmn w w0.heap.size (n+1) h.bel.size (by omega);have hm:=h.more h2;refine⟨w',by simpa using hrun,hm.bel,hm.rowF,?_,hm.labs,?_⟩
 .rintro g ⟨⟩
  exact⟨h.bel.size,h1⟩
 .rintro g k hg ⟨⟩ e
  have:=((h.rowF g hg).2.lt g rfl).2;omega
theorem AsSt.makeM {w0 w:World}{n:Nat}{f a:Option Nat}(h:AsSt w0 n w f a none) :
 ∃w',(Instr.makeMap 179 none).run Tryz.prog w=.ok (.map (some w.heap.size)) w'/\AsSt w0 n w' f a (some w.heap.size):=by
 have hm:=h.more (w':=w.alloc (.map #[] 0)) ((Yh _ _).alloc (Yb _) _);refine⟨_,rfl,hm.bel,hm.rowF,hm.rowA,?_,hm.far⟩;rintro g ⟨⟩;exact⟨h.bel.size,MapS.made w⟩
theorem AsSt.work {w0 w:World}{A:Option Addr}{c:Nat}{xs:List S.Item}{base:Int}{gF gA m:Nat}(h:AsSt w0 xs.length w (some gF) (some gA) (some m)) :
 ∃g,w.heap.size=g/\Work (w.alloc (.cells #[.slice A xs.length c,.int .i64 base,.slice (some ⟨gF,0,none⟩) xs.length xs.length,.slice (some ⟨gA,0,none⟩) (xs.length+1) (xs.length+1),.map (some m)] 185))
  w0.heap.size g gF gA m 0 A c xs base (Ys xs.length 0) (Ys (xs.length+1) 0) (λ _=>none)/\Below w0.heap.size w0 (w.alloc (.cells #[.slice A xs.length c,.int .i64 base,.slice (some ⟨gF,0,none⟩) xs.length xs.length,.slice (some ⟨gA,0,none⟩) (xs.length+1) (xs.length+1),.map (some m)] 185)):=by
 have hb:Below w.heap.size w (w.alloc (.cells #[.slice A xs.length c,.int .i64 base,.slice (some ⟨gF,0,none⟩) xs.length xs.length,.slice (some ⟨gA,0,none⟩) (xs.length+1) (xs.length+1),.map (some m)] 185)):=(Yh _ _).alloc (Yb _) _;have hm:=h.more hb;refine⟨_,rfl,⟨?_,?_,?_,(hm.labs m rfl).2,h.bel.size,(hm.rowF gF rfl).1,(hm.rowA gA rfl).1,(hm.labs m rfl).1,h.far gF gA rfl rfl⟩,hm.bel⟩
 .exact heap_alloc_new _ _
 .rw[Ycm];exact(hm.rowF gF rfl).2
 .rw[Ycm];exact(hm.rowA gA rfl).2
theorem Zaf {P:Program}{ops:Array Oper}{o:Oper}{a:Act}{w w':World}{v:Value}{K:Act->World->Prop}{Q:Exit->Act->World->Prop}{E:Prop}
 (hg:o.guard=none) (d:Option Tmp) (hd:o.dst=d) (hrun:(execOp a.eval o).run P w=.ok (.value v) w') (hK:K (a.put d v) w'):if Yal o (yielded ops a.tmps)=true then Oper.wp P o a w K Q else E:=by
 have hw:Yal o (yielded ops a.tmps)=true:=by simp[Yal,hg]
 rw[if_pos hw];subst hd;unfold Oper.wp;rw[hrun];exact hK
theorem Zcd {P:Program}{md:Region.Mode}{ops:Array Oper}{Q:Exit->Act->World->Prop}{f:Nat}{l:Array Bool}{a:Act}{w:World}(h:∀a0,a0=a->wpAny P md ops Q f l a0 w):wpAny P md ops Q f l a w:=h a rfl
theorem Zj8 {P:Program}{ops:Array Oper}{o:Oper}{a:Act}{w w':World}{v:Value}{K:Act->World->Prop}{Q:Exit->Act->World->Prop}{E:Prop}
 (hg:o.guard=none) (t:TypeId) (x:Operand) (hop:o.op=Op.makeSlice t x x) (n:Int) (hx:a.eval x=.int .i64 n) (hrun:(Instr.makeSlice t (.int .i64 n) (.int .i64 n)).run P w=.ok v w') (d:Option Tmp) (hd:o.dst=d) (hK:K (a.put d v) w') :
 if Yal o (yielded ops a.tmps)=true then Oper.wp P o a w K Q else E:=by
 have hw:Yal o (yielded ops a.tmps)=true:=by simp[Yal,hg]
 rw[if_pos hw];subst hd;unfold Oper.wp;simp[execOp,hop,hx,hrun,Result.andThen];exact hK
theorem Zxu {P:Program}{ops:Array Oper}{o:Oper}{a:Act}{w w':World}{v:Value}{K:Act->World->Prop}{Q:Exit->Act->World->Prop}{E:Prop}
 (hg:o.guard=none) (t:TypeId) (hop:o.op=Op.makeMap t none) (hrun:(Instr.makeMap t none).run P w=.ok v w') (d:Option Tmp) (hd:o.dst=d) (hK:K (a.put d v) w') :
 if Yal o (yielded ops a.tmps)=true then Oper.wp P o a w K Q else E:=by
 have hw:Yal o (yielded ops a.tmps)=true:=by simp[Yal,hg]
 rw[if_pos hw];subst hd;unfold Oper.wp;simp[execOp,hop,hrun,Result.andThen];exact hK
theorem Zc0 {ops:Array Oper}{o:Oper}{a:Act}{w0 w:World}{n:Nat}{fa fm:Option Nat}{K:Act->World->Prop}{Q:Exit->Act->World->Prop}{E:Prop}(h:AsSt w0 n w none fa fm)(hn:n<=1048576)
 (hg:o.guard=none) (x:Operand) (hop:o.op=Op.makeSlice 29 x x) (hx:a.eval x=.int .i64 n) (d:Option Tmp) (hd:o.dst=d)
 (hK:∀w',AsSt w0 n w' (some w.heap.size) fa fm->K (a.put d (.slice (some ⟨w.heap.size,0,none⟩) n n)) w'):if Yal o (yielded ops a.tmps)=true then Oper.wp Tryz.prog o a w K Q else E:=by
 obtain⟨w',r,h'⟩:=h.makeF hn;exact Zj8 hg _ x hop n hx r d hd (hK w' h')
theorem Zc1 {ops:Array Oper}{o:Oper}{a:Act}{w0 w:World}{n:Nat}{ff fm:Option Nat}{K:Act->World->Prop}{Q:Exit->Act->World->Prop}{E:Prop}(h:AsSt w0 n w ff none fm)(hn:n<=1048576)
 (hg:o.guard=none) (x:Operand) (hop:o.op=Op.makeSlice 29 x x) (hx:a.eval x=.int .i64 ((n:Int)+1)) (d:Option Tmp) (hd:o.dst=d)
 (hK:∀w',AsSt w0 n w' ff (some w.heap.size) fm->K (a.put d (.slice (some ⟨w.heap.size,0,none⟩) (n+1) (n+1))) w'):if Yal o (yielded ops a.tmps)=true then Oper.wp Tryz.prog o a w K Q else E:=by
 obtain⟨w',r,h'⟩:=h.makeA hn;exact Zj8 hg _ x hop _ hx r d hd (hK w' h')
theorem Zc2 {ops:Array Oper}{o:Oper}{a:Act}{w0 w:World}{n:Nat}{ff fa:Option Nat}{K:Act->World->Prop}{Q:Exit->Act->World->Prop}{E:Prop}(h:AsSt w0 n w ff fa none)
 (hg:o.guard=none) (hop:o.op=Op.makeMap 179 none) (d:Option Tmp) (hd:o.dst=d)
 (hK:∀w',AsSt w0 n w' ff fa (some w.heap.size)->K (a.put d (.map (some w.heap.size))) w'):if Yal o (yielded ops a.tmps)=true then Oper.wp Tryz.prog o a w K Q else E:=by
 obtain⟨w',r,h'⟩:=h.makeM;exact Zxu hg _ hop r d hd (hK w' h')
structure Tab (xs:List S.Item)(k:Nat)(f:ByteArray->Option Int)(tw:Bool):Prop where
 has:∀s,(f s).isSome=true↔∃(j:Nat)(x:S.Item),j<k/\xs[j]?=some x/\x.kind=2/\x.label=s
 val:tw=false->∀s v,f s=some v->v=S.stands xs s
 dup:tw=true↔∃(j:Nat)(x:S.Item),j<k/\xs[j]?=some x/\x.kind=2/\S.stands xs x.label≠j
theorem Tab.start (xs:List S.Item):Tab xs 0 (λ _=>none) false :=
 ⟨λ s=>by simp,λ _ s v h=>by simp at h,by simp⟩
theorem Tab.other {xs:List S.Item}{k:Nat}{f:ByteArray->Option Int}{tw:Bool}(h:Tab xs k f tw){x:S.Item}(hx:xs[k]?=some x)(hk:x.kind≠2):Tab xs (k+1) f tw:=by
 refine⟨λ s=>(h.has s).trans ?_,h.val,h.dup.trans ?_⟩
 .constructor
  .rintro⟨j,y,h1,h2⟩;exact⟨j,y,by omega,h2⟩
  .rintro⟨j,y,h1,h2,h3,h4⟩
   have:j≠k:=by rintro rfl;rw[hx] at h2;cases h2;exact hk h3
   exact⟨j,y,by omega,h2,h3,h4⟩
 .constructor
  .rintro⟨j,y,h1,h2⟩;exact⟨j,y,by omega,h2⟩
  .rintro⟨j,y,h1,h2,h3,h4⟩
   have:j≠k:=by rintro rfl;rw[hx] at h2;cases h2;exact hk h3
   exact⟨j,y,by omega,h2,h3,h4⟩
theorem Tab.label {xs:List S.Item}{k:Nat}{f:ByteArray->Option Int}{tw:Bool}(h:Tab xs k f tw){x:S.Item}(hx:xs[k]?=some x)(hk:x.kind=2) :
 Tab xs (k+1) (λ t=>if t=x.label then some (k:Int) else f t) (tw || (f x.label).isSome):=by
 have hst:(f x.label).isSome=false↔S.stands xs x.label=k:=by
  rw[<- Bool.not_eq_true,h.has];rcases Zax xs x.label with⟨_,h2⟩|⟨j,y,h1,h2,h3,h4,h5⟩
  .exact absurd ⟨hk,rfl⟩ (h2 k x hx)
  .constructor
   .intro hn
    rcases Nat.lt_trichotomy j k with hj|hj|hj
    .exact absurd ⟨j,y,hj,h2,h3,h4⟩ hn
    .rw[h1,hj]
    .exact absurd ⟨hk,rfl⟩ (h5 k x hj hx)
   .rintro hs ⟨i,z,h6,h7,h8,h9⟩
    have:j=k:=by rw[h1] at hs;omega
    subst this;exact h5 i z h6 h7 ⟨h8,h9⟩
 refine⟨λ s=>?_,?_,?_⟩
 .by_cases e:s=x.label
  .simp only[e,if_true]
   constructor
   .intro _;exact⟨k,x,by omega,hx,hk,rfl⟩
   .intro _;rfl
  .simp only[e,if_false]
   rw[h.has]
   constructor
   .rintro⟨j,y,h1,h2⟩;exact⟨j,y,by omega,h2⟩
   .rintro⟨j,y,h1,h2,h3,h4⟩
    have:j≠k:=by rintro rfl;rw[hx] at h2;cases h2;exact e h4.symm
    exact⟨j,y,by omega,h2,h3,h4⟩
 .intro ht s v hv
  rw[Bool.or_eq_false_iff] at ht;by_cases e:s=x.label
  .simp only[e,if_true] at hv
   cases hv
   rw[e,hst.1 ht.2]
  .simp only[e,if_false] at hv
   exact h.val ht.1 s v hv
 .rw[Bool.or_eq_true,h.dup]
  constructor
  .rintro(⟨j,y,h1,h2⟩|hs)
   .exact⟨j,y,by omega,h2⟩
   .refine⟨k,x,by omega,hx,hk,λ e=>?_⟩
    rw[<- hst,hs] at e
    cases e
  .rintro⟨j,y,h1,h2,h3,h4⟩
   by_cases e:j=k
   .right
    subst e;rw[hx] at h2;cases h2
    cases hb:(f x.label).isSome with
    | true=>rfl
    | false=>exact absurd (hst.1 hb) h4
   .left;exact⟨j,y,by omega,h2,h3,h4⟩
theorem Tab.done {xs:List S.Item}{f:ByteArray->Option Int}(h:Tab xs xs.length f false):f=Ze5 xs/\¬S.Dup xs:=by
 constructor
 .funext s
  unfold Ze5;rcases Zax xs s with⟨h1,h2⟩|⟨j,y,h1,h2,h3,h4,h5⟩
  .rw[h1,if_pos (by omega)]
   cases hf:f s with
   | none=>rfl
   | some v =>
    obtain⟨j,x,_,hx,hk,hl⟩:=(h.has s).1 (by rw[hf];rfl);exact absurd ⟨hk,hl⟩ (h2 j x hx)
  .rw[h1,if_neg (by omega)]
   have hs:=(h.has s).2 ⟨j,y,(Yg.1 h2).1,h2,h3,h4⟩
   cases hf:f s with
   | none=>rw[hf] at hs;cases hs
   | some v=>rw[h.val rfl s v hf,h1]
 .rintro⟨i,x,hx,hk,hs⟩
  have:=h.dup.2 ⟨i,x,(Yg.1 hx).1,hx,hk,hs⟩
  cases this
theorem Tab.twice {xs:List S.Item}{f:ByteArray->Option Int}(h:Tab xs xs.length f true):S.Dup xs:=by
 obtain⟨j,x,_,hx,hk,hs⟩:=h.dup.1 rfl;exact⟨j,x,hx,hk,hs⟩
theorem Tab.shut {xs:List S.Item}{f:ByteArray->Option Int}(h:Tab xs xs.length f false){k:Nat}{x:S.Item}(hx:xs[k]?=some x)(hk:x.kind=2):S.stands xs x.label=k:=by
 by_cases e:S.stands xs x.label=k
 .exact e
 .exact absurd ⟨k,x,hx,hk,e⟩ h.done.2
