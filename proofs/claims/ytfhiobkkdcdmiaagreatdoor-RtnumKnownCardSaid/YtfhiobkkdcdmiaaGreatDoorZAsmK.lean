/- Parts. -/
import Derived.Test.YtfhiobkkdcdmiaaGreatDoorZLinkB
import Derived.Deep.DeepCutAuto
set_option linter.all false
set_option maxHeartbeats 4000000
open Go.Lib renaming hid->Ya
open Nat renaming le_refl->Yb
open List renaming length_append->Yd,getElem?_eq_some_iff->Yg,getElem?_append_left->Yk,getElem?_append_right->Yn,getElem?_map->Yae,length_map->Yan,flatMap_cons->Yba,getElem?_take->Ybg,flatMap_append->Ybl
open Go.RowKit.Below renaming refl->Yh,trans->Ybm
namespace Go.Proofs.YtfhiobkkdcdmiaaGreatDoor
set_option maxRecDepth 100000
section
open Go.RowKit
def Ztd (xs:List S.Item)(w:World)(e:Ending)(w':World):Prop :=
 ∃ v,e=.returned v/\w'.ownsRow w.heap.size 74 8 v xs.length (xs.flatMap Zc)/\Below w.heap.size w w'
theorem Zo2 (A:Option Addr)(c:Nat)(xs:List S.Item)(w:World)(hi:Items w w.heap.size A xs)(hl:xs.length<=1048576) :
 Calls Tryz.prog 162 #[.slice A xs.length c] w (Ztd xs w):=by
 have hn:=fun (w:World) (A:Option Addr) (n c n1 c1:Nat)=>Lib.run_eql_slice_nil (P:=Tryz.prog) w 68 74 A n c n1 c1 Tryz.underlying68
 cases A with
 | none =>
  go_enter Tryz.func162,Tryz.ntmps162
  have hx0:xs=[]:=by
   cases xs with
   | nil=>rfl
   | cons x r =>
    obtain ⟨b,off,e,_⟩:=hi (by simp)
    cases e
  subst hx0;go_wp2_with fail
  go_ret
  exact ⟨_,rfl,World.ownsRow_nil _ _ _ _,Yh _ _⟩
 | some a =>
  have hr:=hi.reads.below ((Yh w.heap.size w).alloc (Yb _) (.cells #[] 74));go_enter Tryz.func162,Tryz.ntmps162
  go_wp2_with (at_builtin;refine Zar rfl (.tmp 5) (.tmp 6) _ rfl w.heap.size 74 Za2 Tryz.underlying68 rfl (by decide) _ 0 [] rfl (World.ownsRow_made w #[] 0 (Yb _) (by simp [maxLen]) (by simp)) w.heap.size (some a) xs.length c (xs.flatMap Zc) rfl (Zen xs) (fun h=>by cases h) hr (Znz xs) (by simp only [maxLen];omega) (by omega) (by simp) ?_;intro v' w1 ho1 hg1 hb1 hat1)
  go_ret
  simp only [Nat.zero_add,List.nil_append] at ho1;exact ⟨_,rfl,ho1,((Yh _ _).alloc (Yb _) _).trans hb1⟩
end
section
open Go.RowKit
def Zhz (nm:ByteArray)(its:List S.Item)(q:Nat):List S.Item:=(its.take q).map (S.ownItem nm)++its.drop q
theorem Zru (nm:ByteArray)(its:List S.Item):Zhz nm its 0=its:=by simp [Zhz]
theorem Zte (nm:ByteArray)(its:List S.Item):Zhz nm its its.length=its.map (S.ownItem nm):=by simp [Zhz]
theorem Zqn (nm:ByteArray)(its:List S.Item)(q:Nat)(h:q<its.length):(Zhz nm its q)[q]?=some its[q]:=by
 unfold Zhz;rw [Yn (by simp;omega)];simp [Nat.min_eq_left (Nat.le_of_lt h)]
theorem Zrv (nm:ByteArray)(its:List S.Item)(q:Nat)(h:q<its.length):(Zhz nm its q).set q (S.ownItem nm its[q])=Zhz nm its (q+1):=by
 apply List.ext_getElem?
 intro i;unfold Zhz;by_cases e:i=q
 ·subst e
  rw [List.getElem?_set_self (by simp;omega)];rw [Yk (by simp;omega)];simp [Ybg,h]
 ·rw [List.getElem?_set_ne (Ne.symm e)]
  by_cases l:i<q
  ·rw [Yk (by simp;omega),Yk (by simp;omega)]
   simp [Ybg,l,show i<q+1 by omega]
  ·rw [Yn (by simp;omega),Yn (by simp;omega)]
   simp only [Yan,List.length_take,List.getElem?_drop]
   congr 1
   omega
theorem Zxg (L:List S.Item)(q:Nat)(x:S.Item)(s:ByteArray)(h:L[q]?=some x) :
 (L.flatMap Zc).set (q*8+6) (.string s)=(L.set q ⟨x.kind,x.inst,s,x.word⟩).flatMap Zc:=by
 induction L generalizing q with
 | nil=>simp at h
 | cons y r ih =>
  cases q with
  | zero =>
   simp only [List.getElem?_cons_zero,Option.some.injEq] at h;subst h;simp [Zc]
  | succ q =>
   have h1:=ih q (by simpa using h);have e1:(q+1)*8+6=(Zc y).length+(q*8+6):=by simp [Zc];omega
   rw [Yba,e1,List.set_append_right _ _ (by omega),Nat.add_sub_cancel_left,h1,List.set_cons_succ,Yba]
theorem Zo3 (nm:ByteArray)(its:List S.Item)(q:Nat)(h:q<its.length) :
 ((Zhz nm its q).flatMap Zc).set (q*8+6) (.string (S.owned nm its[q].label))=(Zhz nm its (q+1)).flatMap Zc:=by
 rw [Zxg _ q _ _ (Zqn nm its q h),<- Zrv nm its q h];rfl
end
section
open Go.RowKit
def Zxh (os:List S.Obj)(w:World)(e:Ending)(w':World):Prop :=
 ∃ v,e=.returned v/\w'.ownsRow w.heap.size 74 8 v (S.joined os).length ((S.joined os).flatMap Zc)/\Below w.heap.size w w'
theorem Zo4 {os:List S.Obj}{k:Nat}{x:S.Obj}(hx:os[k]?=some x):S.joined (os.take (k+1))=S.joined (os.take k)++S.itemsOf x:=by
 have hk:=(Yg.1 hx).1;have he:os[k]=x:=by
  have:=List.getElem?_eq_getElem hk;rw [hx] at this;exact (Option.some.inj this).symm
 rw [List.take_succ_eq_append_getElem hk,he];simp [S.joined]
theorem Ztf {os:List S.Obj}(k:Nat):(S.joined (os.take k)).length<=(S.joined os).length:=by
 have h:S.joined os=S.joined (os.take k)++S.joined (os.drop k):=by
  unfold S.joined;rw [<- Ybl,List.take_append_drop]
 rw [h,Yd];omega
theorem Zo5 (A:Option Addr)(c:Nat)(os:List S.Obj)(w:World)(hi:Objs w w.heap.size A os)(hl:os.length<=1048576)(ht:(S.joined os).length<=1048576)
 (hsz:∀ (k:Nat) (o:S.Obj),os[k]?=some o->∀ x∈o.items,o.name.size+x.label.size<=9223372036854775807) :
 Calls Tryz.prog 106 #[.slice A os.length c] w (Zxh os w):=by
 have Hsz:=Ya hsz;clear hsz;go_enter Tryz.func106,Tryz.ntmps106
 go_wp2_with fail
 go_loopw [3,10] (fun v i wr=>∃ k:Nat,k<=os.length/\i=.int .i64 k/\wr.ownsRow w.heap.size 74 8 v (S.joined (os.take k)).length ((S.joined (os.take k)).flatMap Zc)/\Below w.heap.size w wr) (fun _ i _=>os.length-(intOf i).toNat)
 case atStart=>exact ⟨0,by omega,rfl,by simp [S.joined];exact World.ownsRow_nil _ _ _ _,Yh _ _⟩
 case round =>
  obtain ⟨k,hk,rfl,ho,hbk⟩:=hrel;by_cases hlt:k<os.length
  ·obtain ⟨b,off,x,rfl,hb,hx,hc0,⟨Ai,ci,hc1,hI⟩,hn,hlab⟩:=(hi.below hbk).at_ hlt
   have hzk:=hbk.size;have hbr:b<wr.heap.size:=by omega
   have hjk:=Ya (Zo4 hx);have hle:=Ztf (os:=os) (k+1);rw [hjk.out,Yd] at hle;have hil:x.items.length<=1048576:=by
    have:(S.itemsOf x).length=x.items.length:=by simp [S.itemsOf]
    omega
   have Hx:=Ya hx;have Hlab:=Ya hlab;clear hx hlab;obtain ⟨nm,its⟩:=x;simp only at hc0 hc1 hn hil hI;obtain ⟨x1,x2,x3⟩:=Zdc wr #[.string nm,.slice Ai its.length ci] 70;go_upto_region 5 with fail
   generalize wr.alloc (.cells #[.string nm,.slice Ai its.length ci] 70)=wX at *;have hX0:wX.cell? ⟨wr.heap.size,0,none⟩=some (.string nm):=by simp [World.cell?,x1]
   have hX1:wX.cell? ⟨wr.heap.size,1,none⟩=some (.slice Ai its.length ci):=by simp [World.cell?,x1]
   have hzX:wr.heap.size<wX.heap.size:=by omega
   have hoX:=Zd ho x2;have hbX:=hbk.trans (x2.mono (by omega));have hIX:=(hI.below (x2.mono (by omega))).more (B':=wX.heap.size) (by omega);clear x1 x2 x3 ho hc0 hc1 hI;go_wp2_with fail
   refine (Zo2 _ _ _ _ hIX hil).mono ?_;rintro e w1 ⟨v1,rfl,ho1,hb1⟩;have hz1:=hb1.size;have hX0':w1.cell? ⟨wr.heap.size,0,none⟩=some (.string nm):=(hb1.cell (p:=⟨wr.heap.size,0,none⟩) hzX).trans hX0;obtain ⟨A1,c1,rfl⟩:=Zb ho1;clear hX0 hX1;go_wp2_with fail
   obtain ⟨wo,hwo⟩:∃ wo:World,wo=wr:=⟨_,rfl⟩
   subst hwo;go_loopw [19] (fun i wi=>∃ q:Nat,q<=its.length/\i=.int .i64 q/\wi.ownsRow wX.heap.size 74 8 (.slice A1 its.length c1) its.length ((Zhz nm its q).flatMap Zc)/\Below wX.heap.size wX wi) (fun i _=>its.length-(intOf i).toNat)
   case atStart=>exact ⟨0,by omega,rfl,by rw [Zru];exact ho1,hb1⟩
   case round =>
    obtain ⟨q,hq,rfl,hoq,hbq⟩:=hrel;by_cases hql:q<its.length
    ·obtain ⟨g,rfl,hg1,hg2,hg3,hg4,hg5⟩:=Z1 hoq (by omega)
     have hzi:=hbq.size;have hcl:wr.cell? ⟨g,q*8+6,none⟩=some (.string its[q].label):=by
      rw [hg4 _ (by omega),Zjc _ q _ (Zqn nm its q hql) 6 (by omega)];rfl
     have hcn:wr.cell? ⟨wo.heap.size,0,none⟩=some (.string nm):=by
      have h1:=hbq.cell (p:=⟨wo.heap.size,0,none⟩) hzX;have h2:=hb1.cell (p:=⟨wo.heap.size,0,none⟩) hzX;exact h1.trans (h2.symm.trans hX0')
     have hmem:its[q]∈its:=List.getElem_mem hql;have hls:=Hlab.out _ hmem;have hns:=Hsz.out _ _ Hx.out _ hmem;simp only at hns;have hfz:=hg5 (q*8+6);clear hg4 hg5;have hE:=Zw wr;have g1:wo.heap.size<wr.heap.size:=by omega
     go_upto_region 9 with fail
     refine Zby 12 1 [0,1,2,3,4,5,6,7,8,9,10,11] (by kernel_rfl) (by kernel_rfl) (fun _ _ _ _ _ h=>h) ?_
     repeat (first
      | (refine Zja rfl ?_;go_big_quiet_step ((go_at_call 163;exact Zdv (Zsf _ _ _ hls hns)))))
     refine wpQuiet_nil ?_;rintro w2 ⟨⟨w3,hb2⟩,rfl⟩;simp only [List.drop_succ_cons,List.drop_zero];have hcl2:w2.cell? ⟨g,q*8+6,none⟩=some (.string its[q].label):=(hb2.cell (p:=⟨g,q*8+6,none⟩) hg2).trans hcl;have hfz2:w2.frozen? ⟨g,q*8+6,none⟩=false:=(hb2.frozen (p:=⟨g,q*8+6,none⟩) hg2).trans hfz;have hoq2:=Zd hoq hb2;have hst:=hoq2.stored (q*8+6) (.string (S.owned nm its[q].label));rw [Zo3 nm its q hql] at hst;have Hst:=Ya hst;have hbq2:=hbq.trans (hb2.mono hzi);clear hE hst;go_wp2_with fail
     go_roundw
     case rel=>exact ⟨q+1,by omega,by go_num,Hst.out.1,hbq2.setCell (p:=⟨g,q*8+6,none⟩) hg1 _⟩
     case measure=>simp [intOf];omega
    ·have hqe:q=its.length:=by omega
     subst hqe;rw [Zte] at hoq;have hzi:=hbq.size;have hoX2:=Zd hoX hbq;have hbw:=hbX.trans (hbq.mono (by omega));have hww:∀ x∈its.map (S.ownItem nm),0<=x.word/\x.word<=4294967295:=by
      intro x hx;obtain ⟨y,hy,rfl⟩:=List.mem_map.1 hx;exact hIX.words y hy
     have hrd:=(Items.of_own hoq hww).reads;have hA1:A1=none->its.length=0:=fun h=>Zcx hoq h
     have hfl:((its.map (S.ownItem nm)).flatMap Zc).length=its.length*8:=by rw [Zen,Yan]
     have hlj:(S.joined (os.take k)).length+its.length<=1048576:=by
      have:(S.itemsOf ⟨nm,its⟩).length=its.length:=by simp [S.itemsOf]
      omega
     have hone:=Znz (its.map (S.ownItem nm));have Hoq:=Ya hoq;clear hoq hoX hww;go_wp2_with (at_builtin;refine Zar rfl (.tmp 35) (.tmp 36) _ rfl w.heap.size 74 Za2 Tryz.underlying68 rfl (by decide) _ _ _ rfl hoX2 wr.heap.size A1 its.length c1 _ rfl hfl hA1 hrd hone (by simp only [maxLen];omega) (by omega) (by omega) ?_;intro v' w3 ho3 hg3 hb3 hat3)
     have hfin:w3.ownsRow w.heap.size 74 8 v' (S.joined (os.take (k+1))).length ((S.joined (os.take (k+1))).flatMap Zc):=by
      rw [hjk.out,Yd,Ybl];have e:(S.itemsOf ⟨nm,its⟩).length=its.length:=by simp [S.itemsOf]
      rw [e];exact ho3
     exact ⟨⟨k+1,by omega,by go_num,hfin,hbw.trans hb3⟩,by simp [intOf];omega⟩
  ·have hke:k=os.length:=by omega
   subst hke;rw [List.take_length] at ho;go_wp2_with fail
   go_ret
   exact ⟨_,rfl,ho,hbk⟩
end
section
open Go.RowKit
def Zft (xs:List S.Item)(F:List Int)(base:Int)(n:Nat):List Int:=(List.range n).map (S.addr xs F base)
theorem Zcf (xs:List S.Item)(F:List Int)(base:Int)(n k:Nat)(h:k<n):(Zft xs F base n).getD k 0=S.addr xs F base k:=by simp [Zft,h]
theorem Zhf (xs:List S.Item)(F:List Int)(base:Int)(n:Nat):(Zft xs F base n).length=n:=by simp [Zft]
end
section
open Go.RowKit
def Zfb (xs:List S.Item)(s:ByteArray):Option Int:=if S.stands xs s<0 then none else some (S.stands xs s)
structure Work (w:World)(B g gF gA m n:Nat)(A:Option Addr)(c:Nat)(xs:List S.Item)(base:Int)(F T:List Int)(f:ByteArray->Option Int):Prop where
 blk:w.heap[g]?=some (.cells #[.slice A xs.length c,.int .i64 base,.slice (some ⟨gF,0,none⟩) xs.length xs.length,.slice (some ⟨gA,0,none⟩) (xs.length+1) (xs.length+1),.map (some m)] 185 (0,0))
 forms:w.ownsRow B 3 1 (.slice (some ⟨gF,0,none⟩) xs.length xs.length) xs.length (F.map (Value.int .i64))
 ats:w.ownsRow B 3 1 (.slice (some ⟨gA,0,none⟩) (xs.length+1) (xs.length+1)) (xs.length+1) (T.map (Value.int .i64))
 labels:MapS w m n f
 hg:B<=g
 hF:B<=gF
 hA:B<=gA
 hm:B<=m
 ne1:gF≠gA
theorem Zhg {w:World}{g:Nat}{o:Obj}(h:w.heap[g]?=some o):g<w.heap.size:=(Array.getElem?_eq_some_iff.1 h).1
theorem Zfu {w:World}{g:Nat}{cs:Array Value}{t:TypeId}(h:w.heap[g]?=some (.cells cs t (0,0)))(j:Nat):w.cell? ⟨g,j,none⟩=cs[j]?:=by simp [World.cell?,h]
theorem Work.below {w w':World}{B g gF gA m n:Nat}{A:Option Addr}{c:Nat}{xs:List S.Item}{base:Int}{F T:List Int}{f:ByteArray->Option Int}(h:Work w B g gF gA m n A c xs base F T f)
 (hb:Below w.heap.size w w'):Work w' B g gF gA m n A c xs base F T f :=
 ⟨(hb.block g (Zhg h.blk)).trans h.blk,Zd h.forms hb,Zd h.ats hb,h.labels.below hb,h.hg,h.hF,h.hA,h.hm,h.ne1⟩
theorem Work.cells {w:World}{B g gF gA m n:Nat}{A:Option Addr}{c:Nat}{xs:List S.Item}{base:Int}{F T:List Int}{f:ByteArray->Option Int}(h:Work w B g gF gA m n A c xs base F T f) :
 w.cell? ⟨g,0,none⟩=some (.slice A xs.length c)/\w.cell? ⟨g,1,none⟩=some (.int .i64 base)/\w.cell? ⟨g,2,none⟩=some (.slice (some ⟨gF,0,none⟩) xs.length xs.length) /\
 w.cell? ⟨g,3,none⟩=some (.slice (some ⟨gA,0,none⟩) (xs.length+1) (xs.length+1))/\w.cell? ⟨g,4,none⟩=some (.map (some m)):=by
 refine ⟨?_,?_,?_,?_,?_⟩ <;> rw [Zfu h.blk] <;> rfl
theorem Work.form {w:World}{B g gF gA m n:Nat}{A:Option Addr}{c:Nat}{xs:List S.Item}{base:Int}{F T:List Int}{f:ByteArray->Option Int}(h:Work w B g gF gA m n A c xs base F T f){k:Nat}(hk:k<xs.length) :
 w.cell? ⟨gF,k,none⟩=some (.int .i64 (F.getD k 0))/\w.frozen? ⟨gF,k,none⟩=false:=by
 have hl:F.length=xs.length:=by have:=h.forms.1;simpa using this
 obtain ⟨g',he,_,_,_,hc,hf⟩:=Z1 h.forms (by omega)
 cases he
 refine ⟨?_,hf k⟩;rw [hc k (by omega),Yae];have:k<F.length:=by omega
 simp [this]
theorem Work.at_ {w:World}{B g gF gA m n:Nat}{A:Option Addr}{c:Nat}{xs:List S.Item}{base:Int}{F T:List Int}{f:ByteArray->Option Int}(h:Work w B g gF gA m n A c xs base F T f){k:Nat}(hk:k<=xs.length) :
 w.cell? ⟨gA,k,none⟩=some (.int .i64 (T.getD k 0))/\w.frozen? ⟨gA,k,none⟩=false:=by
 have hl:T.length=xs.length+1:=by have:=h.ats.1;simpa using this
 obtain ⟨g',he,_,_,_,hc,hf⟩:=Z1 h.ats (by omega)
 cases he
 refine ⟨?_,hf k⟩;rw [hc k (by omega),Yae];have:k<T.length:=by omega
 simp [this]
theorem Work.lts {w:World}{B g gF gA m n:Nat}{A:Option Addr}{c:Nat}{xs:List S.Item}{base:Int}{F T:List Int}{f:ByteArray->Option Int}(h:Work w B g gF gA m n A c xs base F T f) :
 g<w.heap.size/\gF<w.heap.size/\gA<w.heap.size/\m<w.heap.size :=
 ⟨Zhg h.blk,(h.forms.lt gF rfl).2,(h.ats.lt gA rfl).2,h.labels.lt⟩
theorem Zbi (w:World){B g gF gA m n:Nat}{A:Option Addr}{c:Nat}{xs:List S.Item}{base:Int}{F T:List Int}{f:ByteArray->Option Int}(h:Work w B g gF gA m n A c xs base F T f)
 (s:ByteArray) (hs:s.size<=maxLen) (j:Nat) (hf:f s=some (j:Int)) (hj:j<=xs.length) (hl:xs.length<=1048576) (t:Int) (ht:T.getD j 0=t) :
 Calls Tryz.prog 195 #[.pointer (some ⟨g,0,none⟩),.string s] w fun e w'=>e=.returned (.int .i64 t)/\Below w.heap.size w w':=by
 obtain ⟨h0,h1,h2,h3,h4⟩:=h.cells;obtain ⟨l1,l2,l3,l4⟩:=h.lts;have hat:=(h.at_ hj).1;rw [ht] at hat;clear ht;have hlook:∀ x:Ext w,(Instr.lookup 179 (.map (some m)) (.string s) false).run Tryz.prog x.val=.ok (.int .i64 j) x.val:=fun x=>by
  have:=(h.labels.below x.property).look hs;rw [hf] at this;exact this
 clear h1 h2 hf;go_enter Tryz.func195,Tryz.ntmps195
 go_wp2_with fail
 refine Zaa (by kernel_rfl) (by kernel_rfl) ?_;have hE:=Zw w
 repeat (first | go_big_quiet_step (fail))
 refine wpQuiet_nil ?_;rintro _ ⟨⟨w1,hb1⟩,rfl⟩;go_wp2_with fail
 go_ret
 exact ⟨rfl,hb1⟩
end
section
open Go.RowKit
theorem Z0n (n:Int):S.chk ⟨26,0,0,0,n⟩=if -32768<=n/\n<=32767 then 0 else 11:=by
 have hf:S.form 26=4:=by decide
 have hl:S.least 26=-32768/\S.most 26=32767:=by decide
 simp only [S.chk,S.good,hf,S.hasD,S.hasA,S.hasB,S.reg,hl.1,hl.2];simp
theorem Ztg (n:Int):S.chk ⟨32,0,0,0,n⟩=if -1048576<=n/\n<=1048575 then 0 else 11:=by
 have hf:S.form 32=5:=by decide
 have hl:S.least 32=-1048576/\S.most 32=1048575:=by decide
 simp only [S.chk,S.good,hf,S.hasD,S.hasA,S.hasB,S.reg,hl.1,hl.2];simp
theorem Work.grown {w w':World}{B g gF gA m n:Nat}{A:Option Addr}{c:Nat}{xs:List S.Item}{base:Int}{F T:List Int}{f:ByteArray->Option Int}(h:Work w B g gF gA m n A c xs base F T f)(k:Nat)(v:Int)
 (hw:w'=w.setCell ⟨gF,k,none⟩ (.int .i64 v)):Work w' B g gF gA m n A c xs base (F.set k v) T f/\Below B w w':=by
 subst hw;have hb:Below B w (w.setCell ⟨gF,k,none⟩ (.int .i64 v)):=(Yh _ _).setCell h.hF _;have hs:=h.forms.stored k (.int .i64 v);have hgF:g≠gF:=by
  rintro rfl;rcases h.forms.2 with ⟨he,_⟩ | ⟨g',cap,cur,he,_,hg,_⟩
  ·cases he
  ·cases he
   rw [h.blk] at hg
   injection hg with hg
   injection hg with _ ht
   exact absurd ht (by decide)
 have hmF:some m≠some gF:=by
  rintro he
  cases he
  obtain ⟨D,⟨es,clock,hm,_⟩,_⟩:=h.labels;rcases h.forms.2 with ⟨he,_⟩ | ⟨g',cap,cur,he,_,hg,_⟩
  ·cases he
  ·cases he
   rw [hm] at hg
   cases hg
 refine ⟨⟨?_,?_,h.ats.kept hs.2 (.inr ?_),h.labels.kept hs.2 hmF,h.hg,h.hF,h.hA,h.hm,h.ne1⟩,hb⟩
 ·rw [hs.2.block g (Zhg h.blk) (by simpa using hgF)];exact h.blk
 ·rw [List.map_set];exact hs.1
 ·simp [Value.ownBlock];exact fun e=>h.ne1 e.symm
def Zms (w:World)(B g gF gA m n:Nat)(A:Option Addr)(c:Nat)(xs:List S.Item)(base:Int)(F F0:List Int)(i:Nat)(x:S.Item)(e:Ending)(w':World):Prop :=
 ∃ F',e=.returned (.bool (!(S.fit xs F0 base i x)))/\(F'=if S.fit xs F0 base i x=true then F else F.set i (F.getD i 0+1)) /\
  Work w' B g gF gA m n A c xs base F' (Zft xs F0 base (xs.length+1)) (Zfb xs)/\Below B w w'
theorem Zth (w:World){B g gF gA m n:Nat}{A:Option Addr}{c:Nat}{xs:List S.Item}{base:Int}{F F0:List Int}(h:Work w B g gF gA m n A c xs base F (Zft xs F0 base (xs.length+1)) (Zfb xs))(hi:Items w B A xs)(hB:B<=w.heap.size)
 (i:Nat) (x:S.Item) (hx:xs[i]?=some x) (hok:S.FormOk xs F0) (hsame:F.getD i 0=F0.getD i 0) (hst:S.named x=true->0<=S.stands xs x.label) (hls:x.label.size<=maxLen)
 (hl:xs.length<=1048576) (hb0:0<=base) (hb26:base<=67108864) (hw:∀ x∈xs,0<=x.word/\x.word<=4294967295) :
 Calls Tryz.prog 194 #[.pointer (some ⟨g,0,none⟩),.int .i64 i] w (Zms w B g gF gA m n A c xs base F F0 i x):=by
 have hlt:i<xs.length:=(Yg.1 hx).1;obtain ⟨k0,k1,k2,k3,k4⟩:=h.cells;obtain ⟨l1,l2,l3,l4⟩:=h.lts;obtain ⟨hcF,hfF⟩:=h.form hlt;have hcA:=(h.at_ (k:=i) (by omega)).1;obtain ⟨b,off,x',rfl,hb,hx',hc0,hc1,hc2,hc3,hc4,hc5,hc6,hc7,hw0,hw1⟩:=hi.at_ hlt;rw [hx] at hx'
 cases hx'
 have hbr:b<w.heap.size:=by omega
 obtain ⟨h3,h4,h5⟩:=hok.2 i x hx;rw [Zcf xs F0 base _ i (by omega)] at hcA;have hfit:S.fit xs F0 base i x=(if (x.kind≠3/\x.kind≠4)\/(x.kind=3/\F0.getD i 0=3)\/(x.kind=4/\F0.getD i 0=2) then true
  else if x.kind=3/\F0.getD i 0=1 then
   decide (-32768<=S.addr xs F0 base (S.stands xs x.label).toNat-S.addr xs F0 base (i+1)/\S.addr xs F0 base (S.stands xs x.label).toNat-S.addr xs F0 base (i+1)<=32767)
  else decide (-1048576<=S.addr xs F0 base (S.stands xs x.label).toNat-S.addr xs F0 base (i+1)/\S.addr xs F0 base (S.stands xs x.label).toNat-S.addr xs F0 base (i+1)<=1048575)):=rfl
 have hsucc:S.addr xs F0 base (i+1)=S.addr xs F0 base i+S.size x (F.getD i 0):=by rw [S.addr,hsame];simp [S.sizeAt,hx]
 obtain ⟨ha0,ha1⟩:=Zdm (base:=base) hok hw i;have hw':=Ya hw;have hok':=Ya hok;rw [hsucc,<- hsame] at hfit;rw [<- hsame] at h3 h4 h5;clear hok hw hsucc hsame;generalize S.addr xs F0 base i=ti at *;generalize hfk:F.getD i 0=fk at *;have Hfk:=Ya hfk;clear hfk;by_cases k34:x.kind=3\/x.kind=4
 ·have hnm:S.named x=true:=by unfold S.named;grind
  have h0:=hst hnm;obtain ⟨j,hj,hjl⟩:∃ j:Nat,S.stands xs x.label=j/\j<xs.length:=by
   rcases Zay xs x.label with ⟨e,_⟩ | ⟨j,y,e,hj,_⟩
   ·omega
   ·exact ⟨j,e,(Yg.1 hj).1⟩
  have hlab:Zfb xs x.label=some (j:Int):=by unfold Zfb;rw [if_neg (by omega),hj]
  obtain ⟨hj0,hj1⟩:=Zdm (base:=base) hok'.out hw'.out j;rw [hj,Int.toNat_natCast] at hfit;have htj:=Zcf xs F0 base (xs.length+1) j (by omega);have Hfit:=Ya hfit;have Htj:=Ya htj;have Hlab:=Ya hlab;have hcases:(x.kind=3/\fk=1)\/(x.kind=3/\fk=2)\/(x.kind=3/\fk=3)\/(x.kind=4/\fk=1)\/(x.kind=4/\fk=2):=by
   rcases k34 with k | k
   ·have:=h3 k;omega
   ·have:=h4 k;omega
  clear h3 h4 h5 k34 hfit htj hlab hj hst h0 hnm hx;generalize S.addr xs F0 base j=tj at *;obtain ⟨kind,⟨op,d,a,b',imm⟩,lab,wd⟩:=x;simp only at hc0 hc1 hc2 hc3 hc4 hc5 hc6 hc7 hw0 hw1 hcases hls;have hbA:Below w.heap.size w (w.alloc (.cells #[.int .i64 kind,.int .i64 op,.int .i64 d,.int .i64 a,.int .i64 b',.int .i64 imm,.string lab,.int .u32 wd] 74)):=(Yh _ _).alloc (Yb _) _;have hWA:=h.below hbA;have hfin:∀ w',Below w.heap.size w w'->S.fit xs F0 base i ⟨kind,⟨op,d,a,b',imm⟩,lab,wd⟩=true ->
   Zms w B g gF gA m n (some ⟨b,off,none⟩) c xs base F F0 i ⟨kind,⟨op,d,a,b',imm⟩,lab,wd⟩ (.returned (.bool false)) w' :=
   fun w' hb he=>⟨F,by rw [he];rfl,by rw [if_pos he],h.below hb,hb.mono hB⟩
  have Hfin:=Ya hfin;clear hfin;rcases hcases with ⟨rfl,rfl⟩ | ⟨rfl,rfl⟩ | ⟨rfl,rfl⟩ | ⟨rfl,rfl⟩ | ⟨rfl,rfl⟩
  rotate_left 2
  ·go_enter Tryz.func194,Tryz.ntmps194
   go_wp2_with fail
   go_ret
   exact Hfin.out _ hbA (by rw [Hfit.out];simp)
  rotate_left 1
  ·go_enter Tryz.func194,Tryz.ntmps194
   go_wp2_with fail
   go_ret
   exact Hfin.out _ hbA (by rw [Hfit.out];simp)
  ·have hsz:S.size ⟨3,⟨op,d,a,b',imm⟩,lab,wd⟩ 1=1:=by simp [S.size]
   have hchk:((-32768<=tj-ti-1/\tj-ti-1<=32767)/\S.chk ⟨26,0,0,0,tj-ti-1⟩=0/\S.fit xs F0 base i ⟨3,⟨op,d,a,b',imm⟩,lab,wd⟩=true) \/
    (¬ (-32768<=tj-ti-1/\tj-ti-1<=32767)/\S.chk ⟨26,0,0,0,tj-ti-1⟩=11/\S.fit xs F0 base i ⟨3,⟨op,d,a,b',imm⟩,lab,wd⟩=false):=by
    have e:tj-(ti+1)=tj-ti-1:=by omega
    rw [Hfit.out,hsz,Z0n,e];by_cases hr:-32768<=tj-ti-1/\tj-ti-1<=32767
    ·left;simp [hr]
    ·right;simp [hr]
   rcases hchk with ⟨hr,hc,hft⟩ | ⟨hr,hc,hft⟩
   all_goals
    have Hft:=Ya hft;clear hft hr;go_enter Tryz.func194,Tryz.ntmps194
    go_wp2_with fail
    refine Zaa (by kernel_rfl) (by kernel_rfl) ?_;have hE:=Zw (w.alloc (.cells #[.int .i64 3,.int .i64 op,.int .i64 d,.int .i64 a,.int .i64 b',.int .i64 imm,.string lab,.int .u32 wd] 74))
    repeat (first
     | go_big_quiet_step ((first
      | (go_at_call 195;exact Zff (Zbi _ (hWA.below (Subtype.property _)) lab hls j Hlab.out (by omega) hl tj Htj.out))
      | (go_at_call 218;exact Zff (Zib _ _ _ _ _ _ _ _ _ _ (by omega) (by omega) hw0 hw1)))))
    refine wpQuiet_nil ?_;intro w1 hx1;have hb1:=Zc0 hx1;clear hE hx1;have hb01:Below w.heap.size w w1:=hbA.trans (hb1.mono (by simp));obtain ⟨hq1,hq2⟩:=Zcu hb1;have hz1:w.heap.size+1<=w1.heap.size:=by simpa using hb1.size
    have hlt1:w.heap.size<w1.heap.size:=by omega
    have hX0:w1.cell? ⟨w.heap.size,0,none⟩=some (.int .i64 3):=by rw [hq1 _ _ (by simp)];exact Zav _ _ _ _
    have hW1:=h.below hb01;obtain ⟨p0,p1,p2,p3,p4⟩:=hW1.cells;obtain ⟨q1,q2⟩:=hW1.form hlt;rw [Hfk.out] at q1;obtain ⟨r1,r2,r3,r4⟩:=hW1.lts;clear hq1 hq2;go_wp2_with fail
    refine (Zcn _ _ _ _ _ _).mono ?_;rintro e w3 ⟨rfl,hb3⟩;have hb03:Below w.heap.size w w3:=by
     refine Ybm ?_ (hb3.mono ?_)
     ·exact hb01.alloc (by omega) _
     ·simp;omega
    have hW3:=h.below hb03;obtain ⟨n0,n1,n2,n3,n4⟩:=hW3.cells;obtain ⟨hd1,hd2⟩:=hW3.form hlt;rw [Hfk.out] at hd1;obtain ⟨m1,m2,m3,m4⟩:=hW3.lts;clear n1 n3 n4
   ·go_wp2_with fail
    go_ret
    exact Hfin.out _ hb03 Hft.out
   ·go_wp2_with fail
    go_ret
    obtain ⟨hg1,hg2⟩:=hW3.grown i _ rfl;exact ⟨_,by rw [Hft.out];rfl,by rw [Hft.out,Hfk.out];rfl,hg1,(hb03.mono hB).trans hg2⟩
  ·have hsz:S.size ⟨3,⟨op,d,a,b',imm⟩,lab,wd⟩ 2=2:=by simp [S.size]
   have hchk:((-1048576<=tj-ti-2/\tj-ti-2<=1048575)/\S.chk ⟨32,0,0,0,tj-ti-2⟩=0/\S.fit xs F0 base i ⟨3,⟨op,d,a,b',imm⟩,lab,wd⟩=true) \/
    (¬ (-1048576<=tj-ti-2/\tj-ti-2<=1048575)/\S.chk ⟨32,0,0,0,tj-ti-2⟩=11/\S.fit xs F0 base i ⟨3,⟨op,d,a,b',imm⟩,lab,wd⟩=false):=by
    have e:tj-(ti+2)=tj-ti-2:=by omega
    rw [Hfit.out,hsz,Ztg,e];by_cases hr:-1048576<=tj-ti-2/\tj-ti-2<=1048575
    ·left;simp [hr]
    ·right;simp [hr]
   rcases hchk with ⟨hr,hc,hft⟩ | ⟨hr,hc,hft⟩
   all_goals
    have Hft:=Ya hft;clear hft hr;go_enter Tryz.func194,Tryz.ntmps194
    go_wp2_with fail
    refine Zaa (by kernel_rfl) (by kernel_rfl) ?_;have hE:=Zw (w.alloc (.cells #[.int .i64 3,.int .i64 op,.int .i64 d,.int .i64 a,.int .i64 b',.int .i64 imm,.string lab,.int .u32 wd] 74))
    repeat (first
     | go_big_quiet_step ((first
      | (go_at_call 195;exact Zff (Zbi _ (hWA.below (Subtype.property _)) lab hls j Hlab.out (by omega) hl tj Htj.out))
      | (go_at_call 218;exact Zff (Zib _ _ _ _ _ _ _ _ _ _ (by omega) (by omega) hw0 hw1)))))
    refine wpQuiet_nil ?_;intro w1 hx1;have hb1:=Zc0 hx1;clear hE hx1;have hb01:Below w.heap.size w w1:=hbA.trans (hb1.mono (by simp));obtain ⟨hq1,hq2⟩:=Zcu hb1;have hz1:w.heap.size+1<=w1.heap.size:=by simpa using hb1.size
    have hlt1:w.heap.size<w1.heap.size:=by omega
    have hX0:w1.cell? ⟨w.heap.size,0,none⟩=some (.int .i64 3):=by rw [hq1 _ _ (by simp)];exact Zav _ _ _ _
    have hW1:=h.below hb01;obtain ⟨p0,p1,p2,p3,p4⟩:=hW1.cells;obtain ⟨q1,q2⟩:=hW1.form hlt;rw [Hfk.out] at q1;obtain ⟨r1,r2,r3,r4⟩:=hW1.lts;clear hq1 hq2;go_wp2_with fail
    refine (Zcn _ _ _ _ _ _).mono ?_;rintro e w3 ⟨rfl,hb3⟩;have hb03:Below w.heap.size w w3:=by
     refine Ybm ?_ (hb3.mono ?_)
     ·exact hb01.alloc (by omega) _
     ·simp;omega
    have hW3:=h.below hb03;obtain ⟨n0,n1,n2,n3,n4⟩:=hW3.cells;obtain ⟨hd1,hd2⟩:=hW3.form hlt;rw [Hfk.out] at hd1;obtain ⟨m1,m2,m3,m4⟩:=hW3.lts;clear n1 n3 n4
   ·go_wp2_with fail
    go_ret
    exact Hfin.out _ hb03 Hft.out
   ·go_wp2_with fail
    go_ret
    obtain ⟨hg1,hg2⟩:=hW3.grown i _ rfl;exact ⟨_,by rw [Hft.out];rfl,by rw [Hft.out,Hfk.out];rfl,hg1,(hb03.mono hB).trans hg2⟩
  ·have hsz:S.size ⟨4,⟨op,d,a,b',imm⟩,lab,wd⟩ 1=1:=by simp [S.size]
   have hchk:((-1048576<=tj-ti-1/\tj-ti-1<=1048575)/\S.chk ⟨32,0,0,0,tj-ti-1⟩=0/\S.fit xs F0 base i ⟨4,⟨op,d,a,b',imm⟩,lab,wd⟩=true) \/
    (¬ (-1048576<=tj-ti-1/\tj-ti-1<=1048575)/\S.chk ⟨32,0,0,0,tj-ti-1⟩=11/\S.fit xs F0 base i ⟨4,⟨op,d,a,b',imm⟩,lab,wd⟩=false):=by
    have e:tj-(ti+1)=tj-ti-1:=by omega
    rw [Hfit.out,hsz,Ztg,e];by_cases hr:-1048576<=tj-ti-1/\tj-ti-1<=1048575
    ·left;simp [hr]
    ·right;simp [hr]
   rcases hchk with ⟨hr,hc,hft⟩ | ⟨hr,hc,hft⟩
   all_goals
    have Hft:=Ya hft;clear hft hr;go_enter Tryz.func194,Tryz.ntmps194
    go_wp2_with fail
    refine Zaa (by kernel_rfl) (by kernel_rfl) ?_;have hE:=Zw (w.alloc (.cells #[.int .i64 4,.int .i64 op,.int .i64 d,.int .i64 a,.int .i64 b',.int .i64 imm,.string lab,.int .u32 wd] 74))
    repeat (first
     | go_big_quiet_step ((first
      | (go_at_call 195;exact Zff (Zbi _ (hWA.below (Subtype.property _)) lab hls j Hlab.out (by omega) hl tj Htj.out))
      | (go_at_call 218;exact Zff (Zib _ _ _ _ _ _ _ _ _ _ (by omega) (by omega) hw0 hw1)))))
    refine wpQuiet_nil ?_;intro w1 hx1;have hb1:=Zc0 hx1;clear hE hx1;have hb01:Below w.heap.size w w1:=hbA.trans (hb1.mono (by simp));obtain ⟨hq1,hq2⟩:=Zcu hb1;have hz1:w.heap.size+1<=w1.heap.size:=by simpa using hb1.size
    have hlt1:w.heap.size<w1.heap.size:=by omega
    have hX0:w1.cell? ⟨w.heap.size,0,none⟩=some (.int .i64 4):=by rw [hq1 _ _ (by simp)];exact Zav _ _ _ _
    have hW1:=h.below hb01;obtain ⟨p0,p1,p2,p3,p4⟩:=hW1.cells;obtain ⟨q1,q2⟩:=hW1.form hlt;rw [Hfk.out] at q1;obtain ⟨r1,r2,r3,r4⟩:=hW1.lts;clear hq1 hq2;go_wp2_with fail
    refine (Zcn _ _ _ _ _ _).mono ?_;rintro e w3 ⟨rfl,hb3⟩;have hb03:Below w.heap.size w w3:=by
     refine Ybm ?_ (hb3.mono ?_)
     ·exact hb01.alloc (by omega) _
     ·simp;omega
    have hW3:=h.below hb03;obtain ⟨n0,n1,n2,n3,n4⟩:=hW3.cells;obtain ⟨hd1,hd2⟩:=hW3.form hlt;rw [Hfk.out] at hd1;obtain ⟨m1,m2,m3,m4⟩:=hW3.lts;clear n1 n3 n4
   ·go_wp2_with fail
    go_ret
    exact Hfin.out _ hb03 Hft.out
   ·go_wp2_with fail
    go_ret
    obtain ⟨hg1,hg2⟩:=hW3.grown i _ rfl;exact ⟨_,by rw [Hft.out];rfl,by rw [Hft.out,Hfk.out];rfl,hg1,(hb03.mono hB).trans hg2⟩
 ·have n3:(x.kind==3)=false:=Zco (by omega)
  have n4:(x.kind==4)=false:=Zco (by omega);have hft:S.fit xs F0 base i x=true:=by rw [hfit,if_pos (.inl (by omega))]
  have Hft:=Ya hft;clear hfit hft hst hx h3 h4 h5;obtain ⟨m3,m4⟩:x.kind≠3/\x.kind≠4:=by omega
  clear k34;obtain ⟨kind,⟨op,d,a,b',imm⟩,lab,wd⟩:=x;simp only at hc0 hc1 hc2 hc3 hc4 hc5 hc6 hc7 hw0 hw1 n3 n4 m3 m4;have hbA:Below w.heap.size w (w.alloc (.cells #[.int .i64 kind,.int .i64 op,.int .i64 d,.int .i64 a,.int .i64 b',.int .i64 imm,.string lab,.int .u32 wd] 74)):=(Yh _ _).alloc (Yb _) _;have hWA:=h.below hbA;go_enter Tryz.func194,Tryz.ntmps194
  go_wp2_with fail
  go_ret
  exact ⟨F,by rw [Hft.out];rfl,by rw [if_pos Hft.out],hWA,hbA.mono hB⟩
end
end Go.Proofs.YtfhiobkkdcdmiaaGreatDoor
