/- Parts. -/
import Derived.Test.YtldbnjajjfgipaaGreatDoorZExtB
set_option linter.all false
set_option maxHeartbeats 4000000
open Go.Lib renaming hid->Ya
open Nat renaming le_refl->Yd,lt_of_lt_of_le->Yr
open List renaming getElem?_eq_some_iff->Yg,length_cons->Yk,cons_append->Yab,getElem?_map->Yac,take_succ_cons->Yaw,take_zero->Yaz
open Go.RowKit.Below renaming refl->Yj,heap_setCell->Ybd,trans->Yc7
open Go.Value renaming int->Ys
open Array renaming getElem?_eq_some_iff->Yv
namespace Go.Proofs.YtldbnjajjfgipaaGreatDoor
open S Go.Proofs.Tryz Go.RowKit
set_option maxRecDepth 100000
def Zd4 (xs:List S.Item)(s:ByteArray):Option Int:=if stands xs s<0 then none else some (stands xs s)
structure Work (w:World)(B g gF gA m n:Nat)(A:Option Addr)(c:Nat)(xs:List S.Item)(base:Int)(F T:List Int)(f:ByteArray->Option Int):Prop where
 blk:w.heap[g]?=some (.cells #[.slice A xs.length c,.int .i64 base,.slice (some ⟨gF,0,none⟩) xs.length xs.length,.slice (some ⟨gA,0,none⟩) (xs.length+1) (xs.length+1),.map (some m)] 214 (0,0))
 forms:w.ownsRow B 3 1 (.slice (some ⟨gF,0,none⟩) xs.length xs.length) xs.length (F.map (Ys .i64))
 ats:w.ownsRow B 3 1 (.slice (some ⟨gA,0,none⟩) (xs.length+1) (xs.length+1)) (xs.length+1) (T.map (Ys .i64))
 labels:MapS w m n f
 hg:B<=g
 hF:B<=gF
 hA:B<=gA
 hm:B<=m
 ne1:gF≠gA
theorem Zft {w:World}{g:Nat}{o:Obj}(h:w.heap[g]?=some o):g<w.heap.size:=(Yv.1 h).1
theorem Zdp {w:World}{g:Nat}{cs:Array Value}{t:TypeId}(h:w.heap[g]?=some (.cells cs t (0,0)))(j:Nat):w.cell? ⟨g,j,none⟩=cs[j]?:=by simp[World.cell?,h]
theorem Work.below {w w':World}{B g gF gA m n:Nat}{A:Option Addr}{c:Nat}{xs:List S.Item}{base:Int}{F T:List Int}{f:ByteArray->Option Int}(h:Work w B g gF gA m n A c xs base F T f)
 (hb:Below w.heap.size w w'):Work w' B g gF gA m n A c xs base F T f :=
 ⟨(hb.block g (Zft h.blk)).trans h.blk,Zc h.forms hb,Zc h.ats hb,h.labels.below hb,h.hg,h.hF,h.hA,h.hm,h.ne1⟩
theorem Work.cells {w:World}{B g gF gA m n:Nat}{A:Option Addr}{c:Nat}{xs:List S.Item}{base:Int}{F T:List Int}{f:ByteArray->Option Int}(h:Work w B g gF gA m n A c xs base F T f) :
 w.cell? ⟨g,0,none⟩=some (.slice A xs.length c)/\w.cell? ⟨g,1,none⟩=some (.int .i64 base)/\w.cell? ⟨g,2,none⟩=some (.slice (some ⟨gF,0,none⟩) xs.length xs.length) /\
 w.cell? ⟨g,3,none⟩=some (.slice (some ⟨gA,0,none⟩) (xs.length+1) (xs.length+1))/\w.cell? ⟨g,4,none⟩=some (.map (some m)):=by
 refine⟨?_,?_,?_,?_,?_⟩ <;> rw[Zdp h.blk] <;> rfl
theorem Work.form {w:World}{B g gF gA m n:Nat}{A:Option Addr}{c:Nat}{xs:List S.Item}{base:Int}{F T:List Int}{f:ByteArray->Option Int}(h:Work w B g gF gA m n A c xs base F T f){k:Nat}(hk:k<xs.length) :
 w.cell? ⟨gF,k,none⟩=some (.int .i64 (F.getD k 0))/\w.frozen? ⟨gF,k,none⟩=false:=by
 have hl:F.length=xs.length:=by have:=h.forms.1;simpa using this
 obtain⟨g',he,_,_,_,hc,hf⟩:=Zae h.forms (by omega)
 cases he
 refine⟨?_,hf k⟩;rw[hc k (by omega),Yac];have:k<F.length:=by omega
 simp[this]
theorem Work.at_ {w:World}{B g gF gA m n:Nat}{A:Option Addr}{c:Nat}{xs:List S.Item}{base:Int}{F T:List Int}{f:ByteArray->Option Int}(h:Work w B g gF gA m n A c xs base F T f){k:Nat}(hk:k<=xs.length) :
 w.cell? ⟨gA,k,none⟩=some (.int .i64 (T.getD k 0))/\w.frozen? ⟨gA,k,none⟩=false:=by
 have hl:T.length=xs.length+1:=by have:=h.ats.1;simpa using this
 obtain⟨g',he,_,_,_,hc,hf⟩:=Zae h.ats (by omega)
 cases he
 refine⟨?_,hf k⟩;rw[hc k (by omega),Yac];have:k<T.length:=by omega
 simp[this]
theorem Work.lts {w:World}{B g gF gA m n:Nat}{A:Option Addr}{c:Nat}{xs:List S.Item}{base:Int}{F T:List Int}{f:ByteArray->Option Int}(h:Work w B g gF gA m n A c xs base F T f) :
 g<w.heap.size/\gF<w.heap.size/\gA<w.heap.size/\m<w.heap.size :=
 ⟨Zft h.blk,(h.forms.lt gF rfl).2,(h.ats.lt gA rfl).2,h.labels.lt⟩
theorem Zal (w:World){B g gF gA m n:Nat}{A:Option Addr}{c:Nat}{xs:List S.Item}{base:Int}{F T:List Int}{f:ByteArray->Option Int}(h:Work w B g gF gA m n A c xs base F T f)
 (s:ByteArray) (hs:s.size<=maxLen) (j:Nat) (hf:f s=some (j:Int)) (hj:j<=xs.length) (hl:xs.length<=1048576) (t:Int) (ht:T.getD j 0=t) :
 Calls prog 239 #[.pointer (some ⟨g,0,none⟩),.string s] w λ e w'=>e=.returned (.int .i64 t)/\Below w.heap.size w w':=by
 obtain⟨h0,h1,h2,h3,h4⟩:=h.cells;obtain⟨l1,l2,l3,l4⟩:=h.lts;have hat:=(h.at_ hj).1;rw[ht] at hat;clear ht;have hlook:∀x:Ext w,(Instr.lookup 207 (.map (some m)) (.string s) false).run prog x.val=.ok (.int .i64 j) x.val:=λ x=>by
  have:=(h.labels.below x.property).look hs;rw[hf] at this;exact this
 clear h1 h2 hf;go_enter func239,ntmps239
 go_wp2_with fail
 refine Zp (by kernel_rfl) (by kernel_rfl) ?_;have hE:=Zo w
 repeat (first|go_big_quiet_step (fail))
 refine wpQuiet_nil ?_;rintro _ ⟨⟨w1,hb1⟩,rfl⟩;go_wp2_with fail
 go_ret
 exact⟨rfl,hb1⟩
theorem Zyv (n:Int):chk ⟨26,0,0,0,n⟩=if -32768<=n/\n<=32767 then 0 else 11:=by
 have hf:form 26=4:=by decide
 have hl:least 26=-32768/\most 26=32767:=by decide
 simp only[chk,good,hf,hasD,hasA,hasB,reg,hl.1,hl.2];simp
theorem Zsz (n:Int):chk ⟨32,0,0,0,n⟩=if -1048576<=n/\n<=1048575 then 0 else 11:=by
 have hf:form 32=5:=by decide
 have hl:least 32=-1048576/\most 32=1048575:=by decide
 simp only[chk,good,hf,hasD,hasA,hasB,reg,hl.1,hl.2];simp
theorem Work.grown {w w':World}{B g gF gA m n:Nat}{A:Option Addr}{c:Nat}{xs:List S.Item}{base:Int}{F T:List Int}{f:ByteArray->Option Int}(h:Work w B g gF gA m n A c xs base F T f)(k:Nat)(v:Int)
 (hw:w'=w.setCell ⟨gF,k,none⟩ (.int .i64 v)):Work w' B g gF gA m n A c xs base (F.set k v) T f/\Below B w w':=by
 subst hw;have hb:Below B w (w.setCell ⟨gF,k,none⟩ (.int .i64 v)):=(Yj _ _).setCell h.hF _;have hs:=h.forms.stored k (.int .i64 v);have hgF:g≠gF:=by
  rintro rfl;rcases h.forms.2 with⟨he,_⟩|⟨g',cap,cur,he,_,hg,_⟩
  .cases he
  .cases he
   rw[h.blk] at hg
   injection hg with hg
   injection hg with _ ht
   exact absurd ht (by decide)
 have hmF:some m≠some gF:=by
  rintro he
  cases he
  obtain⟨D,⟨es,clock,hm,_⟩,_⟩:=h.labels;rcases h.forms.2 with⟨he,_⟩|⟨g',cap,cur,he,_,hg,_⟩
  .cases he
  .cases he
   rw[hm] at hg
   cases hg
 refine⟨⟨?_,?_,h.ats.kept hs.2 (.inr ?_),h.labels.kept hs.2 hmF,h.hg,h.hF,h.hA,h.hm,h.ne1⟩,hb⟩
 .rw[hs.2.block g (Zft h.blk) (by simpa using hgF)];exact h.blk
 .rw[List.map_set];exact hs.1
 .simp[Value.ownBlock];exact λ e=>h.ne1 e.symm
def Zlw (w:World)(B g gF gA m n:Nat)(A:Option Addr)(c:Nat)(xs:List S.Item)(base:Int)(F F0:List Int)(i:Nat)(x:S.Item)(e:Ending)(w':World):Prop :=
 ∃F',e=.returned (.bool (!(fit xs F0 base i x)))/\(F'=if fit xs F0 base i x=true then F else F.set i (F.getD i 0+1)) /\
  Work w' B g gF gA m n A c xs base F' (Zek xs F0 base (xs.length+1)) (Zd4 xs)/\Below B w w'
theorem Zs0 (w:World){B g gF gA m n:Nat}{A:Option Addr}{c:Nat}{xs:List S.Item}{base:Int}{F F0:List Int}(h:Work w B g gF gA m n A c xs base F (Zek xs F0 base (xs.length+1)) (Zd4 xs))(hi:Items w B A xs)(hB:B<=w.heap.size)
 (i:Nat) (x:S.Item) (hx:xs[i]?=some x) (hok:FormOk xs F0) (hsame:F.getD i 0=F0.getD i 0) (hst:named x=true->0<=stands xs x.label) (hls:x.label.size<=maxLen)
 (hl:xs.length<=1048576) (hb0:0<=base) (hb26:base<=67108864) (hw:∀x∈xs,0<=x.word/\x.word<=4294967295) :
 Calls prog 238 #[.pointer (some ⟨g,0,none⟩),.int .i64 i] w (Zlw w B g gF gA m n A c xs base F F0 i x):=by
 have hlt:i<xs.length:=(Yg.1 hx).1;obtain⟨k0,k1,k2,k3,k4⟩:=h.cells;obtain⟨l1,l2,l3,l4⟩:=h.lts;obtain⟨hcF,hfF⟩:=h.form hlt;have hcA:=(h.at_ (k:=i) (by omega)).1;obtain⟨b,off,x',rfl,hb,hx',hc0,hc1,hc2,hc3,hc4,hc5,hc6,hc7,hw0,hw1⟩:=hi.at_ hlt;rw[hx] at hx'
 cases hx'
 have hbr:b<w.heap.size:=by omega
 obtain⟨h3,h4,h5⟩:=hok.2 i x hx;rw[Zbd xs F0 base _ i (by omega)] at hcA;have hfit:fit xs F0 base i x=(if (x.kind≠3/\x.kind≠4)\/(x.kind=3/\F0.getD i 0=3)\/(x.kind=4/\F0.getD i 0=2) then true
  else if x.kind=3/\F0.getD i 0=1 then
   decide (-32768<=addr xs F0 base (stands xs x.label).toNat-addr xs F0 base (i+1)/\addr xs F0 base (stands xs x.label).toNat-addr xs F0 base (i+1)<=32767)
  else decide (-1048576<=addr xs F0 base (stands xs x.label).toNat-addr xs F0 base (i+1)/\addr xs F0 base (stands xs x.label).toNat-addr xs F0 base (i+1)<=1048575)):=rfl
 have hsucc:addr xs F0 base (i+1)=addr xs F0 base i+S.size x (F.getD i 0):=by rw[addr,hsame];simp[sizeAt,hx]
 obtain⟨ha0,ha1⟩:=Zbv (base:=base) hok hw i;have hw':=Ya hw;have hok':=Ya hok;rw[hsucc,<- hsame] at hfit;rw[<- hsame] at h3 h4 h5;clear hok hw hsucc hsame;generalize addr xs F0 base i=ti at *;generalize hfk:F.getD i 0=fk at *;have Hfk:=Ya hfk;clear hfk;by_cases k34:x.kind=3\/x.kind=4
 .have hnm:named x=true:=by unfold named;grind
  have h0:=hst hnm;obtain⟨j,hj,hjl⟩:∃j:Nat,stands xs x.label=j/\j<xs.length:=by
   rcases Zag xs x.label with⟨e,_⟩|⟨j,y,e,hj,_⟩
   .omega
   .exact⟨j,e,(Yg.1 hj).1⟩
  have hlab:Zd4 xs x.label=some (j:Int):=by unfold Zd4;rw[if_neg (by omega),hj]
  obtain⟨hj0,hj1⟩:=Zbv (base:=base) hok'.out hw'.out j;rw[hj,Int.toNat_natCast] at hfit;have htj:=Zbd xs F0 base (xs.length+1) j (by omega);have Hfit:=Ya hfit;have Htj:=Ya htj;have Hlab:=Ya hlab;have hcases:(x.kind=3/\fk=1)\/(x.kind=3/\fk=2)\/(x.kind=3/\fk=3)\/(x.kind=4/\fk=1)\/(x.kind=4/\fk=2):=by
   rcases k34 with k|k
   .have:=h3 k;omega
   .have:=h4 k;omega
  clear h3 h4 h5 k34 hfit htj hlab hj hst h0 hnm hx;generalize addr xs F0 base j=tj at *;obtain⟨kind,⟨op,d,a,b',imm⟩,lab,wd⟩:=x;simp only at hc0 hc1 hc2 hc3 hc4 hc5 hc6 hc7 hw0 hw1 hcases hls;have hbA:Below w.heap.size w (w.alloc (.cells #[.int .i64 kind,.int .i64 op,.int .i64 d,.int .i64 a,.int .i64 b',.int .i64 imm,.string lab,.int .u32 wd] 135)):=(Yj _ _).alloc (Yd _) _;have hWA:=h.below hbA;have hfin:∀w',Below w.heap.size w w'->fit xs F0 base i ⟨kind,⟨op,d,a,b',imm⟩,lab,wd⟩=true ->
   Zlw w B g gF gA m n (some ⟨b,off,none⟩) c xs base F F0 i ⟨kind,⟨op,d,a,b',imm⟩,lab,wd⟩ (.returned (.bool false)) w' :=
   λ w' hb he=>⟨F,by rw[he];rfl,by rw[if_pos he],h.below hb,hb.mono hB⟩
  have Hfin:=Ya hfin;clear hfin;rcases hcases with⟨rfl,rfl⟩|⟨rfl,rfl⟩|⟨rfl,rfl⟩|⟨rfl,rfl⟩|⟨rfl,rfl⟩
  rotate_left 2
  .go_enter func238,ntmps238
   go_wp2_with fail
   go_ret
   exact Hfin.out _ hbA (by rw[Hfit.out];simp)
  rotate_left 1
  .go_enter func238,ntmps238
   go_wp2_with fail
   go_ret
   exact Hfin.out _ hbA (by rw[Hfit.out];simp)
  .have hsz:S.size ⟨3,⟨op,d,a,b',imm⟩,lab,wd⟩ 1=1:=by simp[S.size]
   have hchk:((-32768<=tj-ti-1/\tj-ti-1<=32767)/\chk ⟨26,0,0,0,tj-ti-1⟩=0/\fit xs F0 base i ⟨3,⟨op,d,a,b',imm⟩,lab,wd⟩=true) \/
    (¬(-32768<=tj-ti-1/\tj-ti-1<=32767)/\chk ⟨26,0,0,0,tj-ti-1⟩=11/\fit xs F0 base i ⟨3,⟨op,d,a,b',imm⟩,lab,wd⟩=false):=by
    have e:tj-(ti+1)=tj-ti-1:=by omega
    rw[Hfit.out,hsz,Zyv,e];by_cases hr:-32768<=tj-ti-1/\tj-ti-1<=32767
    .left;simp[hr]
    .right;simp[hr]
   rcases hchk with⟨hr,hc,hft⟩|⟨hr,hc,hft⟩
   all_goals
    have Hft:=Ya hft;clear hft hr;go_enter func238,ntmps238
    go_wp2_with fail
    refine Zp (by kernel_rfl) (by kernel_rfl) ?_;have hE:=Zo (w.alloc (.cells #[.int .i64 3,.int .i64 op,.int .i64 d,.int .i64 a,.int .i64 b',.int .i64 imm,.string lab,.int .u32 wd] 135))
    repeat (first
     | go_big_quiet_step ((first
      | (go_at_call 239;exact Zdz (Zal _ (hWA.below (Subtype.property _)) lab hls j Hlab.out (by omega) hl tj Htj.out))
      | (go_at_call 269;exact Zdz (Zf2 _ _ _ _ _ _ _ _ _ _ (by omega) (by omega) hw0 hw1)))))
    refine wpQuiet_nil ?_;intro w1 hx1;have hb1:=Zbx hx1;clear hE hx1;have hb01:Below w.heap.size w w1:=hbA.trans (hb1.mono (by simp));obtain⟨hq1,hq2⟩:=Zhf hb1;have hz1:w.heap.size+1<=w1.heap.size:=by simpa using hb1.size
    have hlt1:w.heap.size<w1.heap.size:=by omega
    have hX0:w1.cell? ⟨w.heap.size,0,none⟩=some (.int .i64 3):=by rw[hq1 _ _ (by simp)];exact Zaa _ _ _ _
    have hW1:=h.below hb01;obtain⟨p0,p1,p2,p3,p4⟩:=hW1.cells;obtain⟨q1,q2⟩:=hW1.form hlt;rw[Hfk.out] at q1;obtain⟨r1,r2,r3,r4⟩:=hW1.lts;clear hq1 hq2;go_wp2_with fail
    refine(Zbi _ _ _ _ _ _).mono ?_;rintro e w3 ⟨rfl,hb3⟩;have hb03:Below w.heap.size w w3:=by
     refine Yc7 ?_ (hb3.mono ?_)
     .exact hb01.alloc (by omega) _
     .simp;omega
    have hW3:=h.below hb03;obtain⟨n0,n1,n2,n3,n4⟩:=hW3.cells;obtain⟨hd1,hd2⟩:=hW3.form hlt;rw[Hfk.out] at hd1;obtain⟨m1,m2,m3,m4⟩:=hW3.lts;clear n1 n3 n4
   .go_wp2_with fail
    go_ret
    exact Hfin.out _ hb03 Hft.out
   .go_wp2_with fail
    go_ret
    obtain⟨hg1,hg2⟩:=hW3.grown i _ rfl;exact⟨_,by rw[Hft.out];rfl,by rw[Hft.out,Hfk.out];rfl,hg1,(hb03.mono hB).trans hg2⟩
  .have hsz:S.size ⟨3,⟨op,d,a,b',imm⟩,lab,wd⟩ 2=2:=by simp[S.size]
   have hchk:((-1048576<=tj-ti-2/\tj-ti-2<=1048575)/\chk ⟨32,0,0,0,tj-ti-2⟩=0/\fit xs F0 base i ⟨3,⟨op,d,a,b',imm⟩,lab,wd⟩=true) \/
    (¬(-1048576<=tj-ti-2/\tj-ti-2<=1048575)/\chk ⟨32,0,0,0,tj-ti-2⟩=11/\fit xs F0 base i ⟨3,⟨op,d,a,b',imm⟩,lab,wd⟩=false):=by
    have e:tj-(ti+2)=tj-ti-2:=by omega
    rw[Hfit.out,hsz,Zsz,e];by_cases hr:-1048576<=tj-ti-2/\tj-ti-2<=1048575
    .left;simp[hr]
    .right;simp[hr]
   rcases hchk with⟨hr,hc,hft⟩|⟨hr,hc,hft⟩
   all_goals
    have Hft:=Ya hft;clear hft hr;go_enter func238,ntmps238
    go_wp2_with fail
    refine Zp (by kernel_rfl) (by kernel_rfl) ?_;have hE:=Zo (w.alloc (.cells #[.int .i64 3,.int .i64 op,.int .i64 d,.int .i64 a,.int .i64 b',.int .i64 imm,.string lab,.int .u32 wd] 135))
    repeat (first
     | go_big_quiet_step ((first
      | (go_at_call 239;exact Zdz (Zal _ (hWA.below (Subtype.property _)) lab hls j Hlab.out (by omega) hl tj Htj.out))
      | (go_at_call 269;exact Zdz (Zf2 _ _ _ _ _ _ _ _ _ _ (by omega) (by omega) hw0 hw1)))))
    refine wpQuiet_nil ?_;intro w1 hx1;have hb1:=Zbx hx1;clear hE hx1;have hb01:Below w.heap.size w w1:=hbA.trans (hb1.mono (by simp));obtain⟨hq1,hq2⟩:=Zhf hb1;have hz1:w.heap.size+1<=w1.heap.size:=by simpa using hb1.size
    have hlt1:w.heap.size<w1.heap.size:=by omega
    have hX0:w1.cell? ⟨w.heap.size,0,none⟩=some (.int .i64 3):=by rw[hq1 _ _ (by simp)];exact Zaa _ _ _ _
    have hW1:=h.below hb01;obtain⟨p0,p1,p2,p3,p4⟩:=hW1.cells;obtain⟨q1,q2⟩:=hW1.form hlt;rw[Hfk.out] at q1;obtain⟨r1,r2,r3,r4⟩:=hW1.lts;clear hq1 hq2;go_wp2_with fail
    refine(Zbi _ _ _ _ _ _).mono ?_;rintro e w3 ⟨rfl,hb3⟩;have hb03:Below w.heap.size w w3:=by
     refine Yc7 ?_ (hb3.mono ?_)
     .exact hb01.alloc (by omega) _
     .simp;omega
    have hW3:=h.below hb03;obtain⟨n0,n1,n2,n3,n4⟩:=hW3.cells;obtain⟨hd1,hd2⟩:=hW3.form hlt;rw[Hfk.out] at hd1;obtain⟨m1,m2,m3,m4⟩:=hW3.lts;clear n1 n3 n4
   .go_wp2_with fail
    go_ret
    exact Hfin.out _ hb03 Hft.out
   .go_wp2_with fail
    go_ret
    obtain⟨hg1,hg2⟩:=hW3.grown i _ rfl;exact⟨_,by rw[Hft.out];rfl,by rw[Hft.out,Hfk.out];rfl,hg1,(hb03.mono hB).trans hg2⟩
  .have hsz:S.size ⟨4,⟨op,d,a,b',imm⟩,lab,wd⟩ 1=1:=by simp[S.size]
   have hchk:((-1048576<=tj-ti-1/\tj-ti-1<=1048575)/\chk ⟨32,0,0,0,tj-ti-1⟩=0/\fit xs F0 base i ⟨4,⟨op,d,a,b',imm⟩,lab,wd⟩=true) \/
    (¬(-1048576<=tj-ti-1/\tj-ti-1<=1048575)/\chk ⟨32,0,0,0,tj-ti-1⟩=11/\fit xs F0 base i ⟨4,⟨op,d,a,b',imm⟩,lab,wd⟩=false):=by
    have e:tj-(ti+1)=tj-ti-1:=by omega
    rw[Hfit.out,hsz,Zsz,e];by_cases hr:-1048576<=tj-ti-1/\tj-ti-1<=1048575
    .left;simp[hr]
    .right;simp[hr]
   rcases hchk with⟨hr,hc,hft⟩|⟨hr,hc,hft⟩
   all_goals
    have Hft:=Ya hft;clear hft hr;go_enter func238,ntmps238
    go_wp2_with fail
    refine Zp (by kernel_rfl) (by kernel_rfl) ?_;have hE:=Zo (w.alloc (.cells #[.int .i64 4,.int .i64 op,.int .i64 d,.int .i64 a,.int .i64 b',.int .i64 imm,.string lab,.int .u32 wd] 135))
    repeat (first
     | go_big_quiet_step ((first
      | (go_at_call 239;exact Zdz (Zal _ (hWA.below (Subtype.property _)) lab hls j Hlab.out (by omega) hl tj Htj.out))
      | (go_at_call 269;exact Zdz (Zf2 _ _ _ _ _ _ _ _ _ _ (by omega) (by omega) hw0 hw1)))))
    refine wpQuiet_nil ?_;intro w1 hx1;have hb1:=Zbx hx1;clear hE hx1;have hb01:Below w.heap.size w w1:=hbA.trans (hb1.mono (by simp));obtain⟨hq1,hq2⟩:=Zhf hb1;have hz1:w.heap.size+1<=w1.heap.size:=by simpa using hb1.size
    have hlt1:w.heap.size<w1.heap.size:=by omega
    have hX0:w1.cell? ⟨w.heap.size,0,none⟩=some (.int .i64 4):=by rw[hq1 _ _ (by simp)];exact Zaa _ _ _ _
    have hW1:=h.below hb01;obtain⟨p0,p1,p2,p3,p4⟩:=hW1.cells;obtain⟨q1,q2⟩:=hW1.form hlt;rw[Hfk.out] at q1;obtain⟨r1,r2,r3,r4⟩:=hW1.lts;clear hq1 hq2;go_wp2_with fail
    refine(Zbi _ _ _ _ _ _).mono ?_;rintro e w3 ⟨rfl,hb3⟩;have hb03:Below w.heap.size w w3:=by
     refine Yc7 ?_ (hb3.mono ?_)
     .exact hb01.alloc (by omega) _
     .simp;omega
    have hW3:=h.below hb03;obtain⟨n0,n1,n2,n3,n4⟩:=hW3.cells;obtain⟨hd1,hd2⟩:=hW3.form hlt;rw[Hfk.out] at hd1;obtain⟨m1,m2,m3,m4⟩:=hW3.lts;clear n1 n3 n4
   .go_wp2_with fail
    go_ret
    exact Hfin.out _ hb03 Hft.out
   .go_wp2_with fail
    go_ret
    obtain⟨hg1,hg2⟩:=hW3.grown i _ rfl;exact⟨_,by rw[Hft.out];rfl,by rw[Hft.out,Hfk.out];rfl,hg1,(hb03.mono hB).trans hg2⟩
 .have n3:(x.kind==3)=false:=Zbm (by omega)
  have n4:(x.kind==4)=false:=Zbm (by omega);have hft:fit xs F0 base i x=true:=by rw[hfit,if_pos (.inl (by omega))]
  have Hft:=Ya hft;clear hfit hft hst hx h3 h4 h5;obtain⟨m3,m4⟩:x.kind≠3/\x.kind≠4:=by omega
  clear k34;obtain⟨kind,⟨op,d,a,b',imm⟩,lab,wd⟩:=x;simp only at hc0 hc1 hc2 hc3 hc4 hc5 hc6 hc7 hw0 hw1 n3 n4 m3 m4;have hbA:Below w.heap.size w (w.alloc (.cells #[.int .i64 kind,.int .i64 op,.int .i64 d,.int .i64 a,.int .i64 b',.int .i64 imm,.string lab,.int .u32 wd] 135)):=(Yj _ _).alloc (Yd _) _;have hWA:=h.below hbA;go_enter func238,ntmps238
  go_wp2_with fail
  go_ret
  exact⟨F,by rw[Hft.out];rfl,by rw[if_pos Hft.out],hWA,hbA.mono hB⟩
theorem Zb7:(prog.info? 31).map (λ i=>(i.zero,i.size,i.bytes))=some (some (.int .u32 0),1,4):=by kernel_rfl
def Told (w:World)(L:List Int)(e:Ending)(w':World):Prop :=
 ∃v,e=.returned v/\w'.ownsRow w.heap.size 31 1 v L.length (L.map (Ys .u32))/\Below w.heap.size w w'
theorem Zdq {w w1:World}{L:List Int}{cs:Array Value}{n:Nat}(hn:n=L.length)(hb:Below w.heap.size w w1)(hcs:cs=(L.map (Ys .u32)).toArray)(h:L.length<=1000) :
 Told w L (.returned (.slice (some ⟨w1.heap.size,0,none⟩) n n)) (w1.alloc (.cells cs 31)):=by
 subst hcs hn;refine⟨_,rfl,?_,hb.alloc hb.size _⟩;have h1:=World.ownsRow_lit (base:=w.heap.size) (size:=1) (e:=31) w1 (L.map (Ys .u32)).toArray L.length hb.size (by simp only[maxLen];omega) (by simp)
 simpa using h1
theorem Zpu:(prog.info? 166).map (λ i=>(i.zero,i.size,i.bytes))=some (some (.agg #[.string ByteArray.empty,.int .i64 0]),2,24):=by kernel_rfl
def Z5 (p:ByteArray×Int):List Value:=[.string p.1,.int .i64 p.2]
def Zs1 (w:World)(xs:List S.Item)(base:Int)(e:Ending)(w':World):Prop :=
 ∃vo vp r F,e=.returned (.tuple #[vo,vp,.int .i64 r])/\FormsRes xs base r F /\
  w'.ownsRow w.heap.size 31 1 vo (if r=0 then outTo xs F base xs.length else []).length ((if r=0 then outTo xs F base xs.length else []).map (Ys .u32)) /\
  w'.ownsRow w.heap.size 166 2 vp (if r=0 then placesTo xs F base xs.length else []).length ((if r=0 then placesTo xs F base xs.length else []).flatMap Z5) /\
  Below w.heap.size w w'
section
structure Only (F:Nat->Prop)(w w':World):Prop where
 os:w'.os=w.os
 tape:w'.tape=w.tape
 output:w'.output=w.output
 size:w.heap.size<=w'.heap.size
 block:∀k,k<w.heap.size->¬F k->w'.heap[k]?=w.heap[k]?
theorem Only.refl (F:Nat->Prop)(w:World):Only F w w:=⟨rfl,rfl,rfl,Yd _,λ _ _ _=>rfl⟩
theorem Only.trans {F G:Nat->Prop}{a b c:World}(h:Only F a b)(k:Only G b c)(hG:∀i,i<a.heap.size->G i->F i):Only F a c :=
 ⟨k.os.trans h.os,k.tape.trans h.tape,k.output.trans h.output,Nat.le_trans h.size k.size,λ i hi hn=>(k.block i (Yr hi h.size) (λ hg=>hn (hG i hi hg))).trans (h.block i hi hn)⟩
theorem Only.of_below {F:Nat->Prop}{w w':World}(h:Below w.heap.size w w'):Only F w w':=⟨h.os,h.tape,h.output,h.size,λ k hk _=>h.block k hk⟩
theorem Only.setCell {F:Nat->Prop}(w:World){p:Addr}(hp:F p.block)(u:Value):Only F w (w.setCell p u) :=
 ⟨rfl,rfl,rfl,by simp[World.setCell],λ k _ hn=>Ybd _ _ _ _ (λ e=>hn (e ▸ hp))⟩
theorem Only.of_grown {F:Nat->Prop}{w w':World}{row:Option Nat}(hg:w.grownBy w' row)(hr:∀k,row=some k->F k):Only F w w' :=
 ⟨hg.os,hg.tape,hg.output,hg.size,λ k hk hn=>hg.block k hk (λ e=>hn (hr k e.symm))⟩
theorem Only.below {F:Nat->Prop}{w w':World}{B:Nat}(h:Only F w w')(hB:B<=w.heap.size)(hF:∀k,F k->B<=k):Below B w w' :=
 ⟨h.os,h.tape,h.output,h.size,λ k hk=>h.block k (by omega) (λ hf=>by have:=hF k hf;omega)⟩
theorem Only.weaken {F G:Nat->Prop}{w w':World}(h:Only F w w')(hFG:∀k,k<w.heap.size->F k->G k):Only G w w' :=
 ⟨h.os,h.tape,h.output,h.size,λ k hk hn=>h.block k hk (λ hf=>hn (hFG k hk hf))⟩
theorem Zac {w w':World}{base:Nat}{e:TypeId}{size:Nat}{v:Value}{n:Nat}{xs:List Value}(h:w.ownsRow base e size v n xs)(hb:∀k,v.ownBlock=some k->w'.heap[k]?=w.heap[k]?):w'.ownsRow base e size v n xs:=by
 refine⟨h.1,?_⟩;rcases h.2 with h2|⟨g,cap,cur,rfl,h3,h4,h5⟩
 .exact .inl h2
 .exact .inr ⟨g,cap,cur,rfl,h3,by rw[hb g rfl];exact h4,h5⟩
def Zd5 (m:Mach)(vm:Value)(A:Option Addr)(l c rd:Nat)(vo:Value):List Value :=
 m.reg.map (Ys .u32)++[vm,.int .u32 m.place,.slice A l c,.int .i64 rd,vo,.int .i64 m.state,.int .u32 m.code,.int .i64 m.trap,.int .i64 m.steps]
structure MAt (w:World)(B p:Nat)(vm vo:Value)(A:Option Addr)(c:Nat)(inp:List Int)(rd:Nat)(m:Mach):Prop where
 ok:m.Ok
 low:B<=p
 blk:∃cs,w.heap[p]?=some (.cells cs 86 (0,0))/\cs.toList=Zd5 m vm A inp.length c rd vo
 mem:w.ownsRow B 31 1 vm m.mem.length (m.mem.map (Ys .u32))
 out:w.ownsRow B 5 1 vo m.out.length (m.out.map (Ys .u8))
 rin:Reads w w.heap.size A (inp.map (Ys .u8))
 left:m.input=inp.drop rd
 rdle:rd<=inp.length
 inl:inp.length<=4611686018427387904
 low0:m.mem.length<=4611686018427387904
 la:∀b o s,A=some ⟨b,o,s⟩->b<w.heap.size
 d1:∀b o s,A=some ⟨b,o,s⟩->b≠p/\vm.ownBlock≠some b/\vo.ownBlock≠some b
 d2:vm.ownBlock≠some p/\vo.ownBlock≠some p
def Zai (p:Nat)(vm vo:Value)(k:Nat):Prop:=k=p\/vm.ownBlock=some k\/vo.ownBlock=some k
theorem Reads.same {w w':World}{A:Option Addr}{xs:List Value}(h:Reads w w.heap.size A xs)(hz:w.heap.size<=w'.heap.size)(hb:∀b o s,A=some ⟨b,o,s⟩->w'.heap[b]?=w.heap[b]?):Reads w' w'.heap.size A xs:=λ hp=>by
 obtain⟨b,off,e,hbB,hc⟩:=h hp;exact⟨b,off,e,by omega,λ i x hx=>(World.cell?_of_block (w:=w) (a:=⟨b,off+i,none⟩) (hb b off none e)).trans (hc i x hx)⟩
section
variable {w w':World}{B p:Nat}{vm vo:Value}{A:Option Addr}{c:Nat}{inp:List Int}{rd:Nat}{m:Mach}
theorem MAt.cell (h:MAt w B p vm vo A c inp rd m)(k:Nat):w.cell? ⟨p,k,none⟩=(Zd5 m vm A inp.length c rd vo)[k]?:=by
 obtain⟨cs,h1,h2⟩:=h.blk;rw[cell_of_row w p k cs _ (0,0) h1,<- h2];simp
theorem MAt.fz (h:MAt w B p vm vo A c inp rd m)(k:Nat):w.frozen? ⟨p,k,none⟩=false:=by
 obtain⟨cs,h1,h2⟩:=h.blk;exact frozen_of_row w p k cs _ h1
theorem MAt.lt (h:MAt w B p vm vo A c inp rd m):p<w.heap.size:=by
 obtain⟨cs,h1,h2⟩:=h.blk;exact(Yv.1 h1).1
theorem Zpv (h:m.Ok)(l:Nat){k:Nat}(hk:k<32):(Zd5 m vm A l c rd vo)[k]?=some (.int .u32 (m.reg.getD k 0)):=by
 unfold Zd5;rw[List.getElem?_append_left (by simp[h.regs];exact hk),Yac];have:k<m.reg.length:=by rw[h.regs];exact hk
 simp[this]
theorem Zs2 (h:m.Ok)(l:Nat)(k:Nat):(Zd5 m vm A l c rd vo)[32+k]?=([vm,.int .u32 m.place,.slice A l c,.int .i64 rd,vo,.int .i64 m.state,.int .u32 m.code,.int .i64 m.trap,.int .i64 m.steps]:List Value)[k]?:=by
 unfold Zd5;rw[List.getElem?_append_right (by simp[h.regs])];simp[h.regs]
theorem MAt.reg (h:MAt w B p vm vo A c inp rd m){k:Nat}(hk:k<32):w.cell? ⟨p,k,none⟩=some (.int .u32 (m.reg.getD k 0)):=(h.cell k).trans (Zpv h.ok _ hk)
theorem MAt.hi (h:MAt w B p vm vo A c inp rd m)(k:Nat):w.cell? ⟨p,32+k,none⟩=([vm,.int .u32 m.place,.slice A inp.length c,.int .i64 rd,vo,.int .i64 m.state,.int .u32 m.code,.int .i64 m.trap,.int .i64 m.steps]:List Value)[k]?:=(h.cell _).trans (Zs2 h.ok _ k)
theorem MAt.cells (h:MAt w B p vm vo A c inp rd m):w.cell? ⟨p,32,none⟩=some vm/\w.cell? ⟨p,33,none⟩=some (.int .u32 m.place)/\w.cell? ⟨p,34,none⟩=some (.slice A inp.length c)/\w.cell? ⟨p,35,none⟩=some (.int .i64 rd) /\
 w.cell? ⟨p,36,none⟩=some vo/\w.cell? ⟨p,37,none⟩=some (.int .i64 m.state)/\w.cell? ⟨p,38,none⟩=some (.int .u32 m.code)/\w.cell? ⟨p,39,none⟩=some (.int .i64 m.trap)/\w.cell? ⟨p,40,none⟩=some (.int .i64 m.steps) :=
 ⟨h.hi 0,h.hi 1,h.hi 2,h.hi 3,h.hi 4,h.hi 5,h.hi 6,h.hi 7,h.hi 8⟩
theorem MAt.memv (h:MAt w B p vm vo A c inp rd m):∃g cap,vm=.slice (some ⟨g,0,none⟩) m.mem.length cap/\g<w.heap.size/\(∀i,i<m.mem.length->w.cell? ⟨g,i,none⟩=some (.int .u32 (m.mem.getD i 0)))/\∀i,w.frozen? ⟨g,i,none⟩=false:=by
 have hm:=h.ok.mem;rcases h.mem.2 with⟨_,h2⟩|⟨g,cap,cur,rfl,h3,h4,h5,h6,h7,h8⟩
 .omega
 .refine⟨g,cap,rfl,(Yv.1 h4).1,λ i hi=>?_,λ i=>h.mem.frozenAt i⟩
  rw[h.mem.cellAt i (by omega),Yac];simp[hi]
theorem MAt.keep (h:MAt w B p vm vo A c inp rd m)(hz:w.heap.size<=w'.heap.size)(hb:∀k,(Zai p vm vo k\/∃o s,A=some ⟨k,o,s⟩)->w'.heap[k]?=w.heap[k]?):MAt w' B p vm vo A c inp rd m:=by
 refine⟨h.ok,h.low,?_,?_,?_,?_,h.left,h.rdle,h.inl,h.low0,λ b o s e=>Yr (h.la b o s e) hz,h.d1,h.d2⟩
 .obtain⟨cs,h1,h2⟩:=h.blk
  exact⟨cs,by rw[hb p (.inl (.inl rfl))];exact h1,h2⟩
 .exact Zac h.mem λ k hk=>hb k (.inl (.inr (.inl hk)))
 .exact Zac h.out λ k hk=>hb k (.inl (.inr (.inr hk)))
 .exact h.rin.same hz λ b o s e=>hb b (.inr ⟨o,s,e⟩)
theorem MAt.foot_lt (h:MAt w B p vm vo A c inp rd m){k:Nat}(hk:Zai p vm vo k):B<=k/\k<w.heap.size:=by
 rcases hk with rfl|hk|hk
 .exact⟨h.low,h.lt⟩
 .exact h.mem.lt k hk
 .exact h.out.lt k hk
theorem MAt.below (h:MAt w B p vm vo A c inp rd m)(hb:Below w.heap.size w w'):MAt w' B p vm vo A c inp rd m:=by
 refine h.keep hb.size λ k hk=>hb.block k ?_
 rcases hk with hk|⟨o,s,e⟩
 .exact(h.foot_lt hk).2
 .exact h.la k o s e
theorem Zni (h:MAt w B p vm vo A c inp rd m):vm.ownBlock=none\/vm.ownBlock≠vo.ownBlock:=Znf h.mem h.out (by decide)
theorem MAt.mem_ne (h:MAt w B p vm vo A c inp rd m){k:Nat}(hk:vm.ownBlock=some k):k≠p/\vo.ownBlock≠some k:=by
 refine⟨λ e=>h.d2.1 (e ▸ hk),λ e=>?_⟩;rcases Zni h with h1|h1
 .rw[h1] at hk;cases hk
 .exact h1 (hk.trans e.symm)
theorem MAt.stored (h:MAt w B p vm vo A c inp rd m)(k:Nat)(u:Value){m':Mach}{rd':Nat}(hok:m'.Ok)(hmem:m'.mem=m.mem)(hout:m'.out=m.out)(hl:m'.input=inp.drop rd')(hr:rd'<=inp.length)
 (hc:Zd5 m' vm A inp.length c rd' vo=(Zd5 m vm A inp.length c rd vo).set k u):MAt (w.setCell ⟨p,k,none⟩ u) B p vm vo A c inp rd' m':=by
 have hsame:∀j,j≠p->(w.setCell ⟨p,k,none⟩ u).heap[j]?=w.heap[j]?:=λ j hj=>Ybd _ _ _ _ hj
 refine⟨hok,h.low,?_,?_,?_,?_,hl,hr,h.inl,by rw[hmem];exact h.low0,λ b o s e=>by have:=h.la b o s e;simpa[World.setCell] using this,h.d1,h.d2⟩
 .obtain⟨cs,h1,h2⟩:=h.blk
  refine⟨cs.setIfInBounds k u,heap_setCell_same w p k cs _ u h1,?_⟩;rw[Array.toList_setIfInBounds,h2,hc]
 .rw[hmem]
  exact Zac h.mem λ j hj=>hsame j λ e=>h.d2.1 (e ▸ hj)
 .rw[hout]
  exact Zac h.out λ j hj=>hsame j λ e=>h.d2.2 (e ▸ hj)
 .exact h.rin.same (by simp[World.setCell]) λ b o s e=>hsame b (h.d1 b o s e).1
end
end
abbrev Zl:=Nat->Option Nat
mutual
def RepV (H:Zl)(w:World):AV->Value->Prop
 | .int k n,v=>v=.int k n
 | .bool b,v=>v=.bool b
 | .str s,v=>v=.string s
 | .fn f,v=>v=.func (.func f) #[] #[]
 | .row n cs,v=>∃A c,v=.slice A n c/\(n=0->cs=[])/\(A=none->n=0)/\(cs=[]\/∃b o h,A=some ⟨b,o,none⟩/\H b=some h/\o+cs.length<=h/\RepC H w cs b o)
 | .agg cs,v=>∃vs:List Value,v=.agg vs.toArray/\RepL H w cs vs
 | .tup xs,v=>∃vs:List Value,v=.tuple vs.toArray/\RepT H w xs vs
 | .box _ _,_=>False
 | .ptr cs off,v=>∃b o h,v=.pointer (some ⟨b,o+off,none⟩)/\H b=some h/\o+cs.length<=h/\RepC H w cs b o
 | .any,_=>True
def RepL (H:Zl)(w:World):List AV->List Value->Prop
 | [],vs=>vs=[]
 | x::r,vs=>∃v rs,vs=v::rs/\x.cell=true/\RepV H w x v/\RepL H w r rs
def RepT (H:Zl)(w:World):List AV->List Value->Prop
 | [],vs=>vs=[]
 | x::r,vs=>∃v rs,vs=v::rs/\RepV H w x v/\RepT H w r rs
def RepC (H:Zl)(w:World):List AV->Nat->Nat->Prop
 | [],_,_=>True
 | x::r,b,o=>x.cell=true/\(∃v,w.cell? ⟨b,o,none⟩=some v/\RepV H w x v)/\RepC H w r b (o+1)
end
def Stay (H:Zl)(w:World)(H':Zl)(w':World):Prop:=∀b h,H b=some h->∃h',H' b=some h'/\h<=h'/\∀o,o<h->w'.cell? ⟨b,o,none⟩=w.cell? ⟨b,o,none⟩
theorem Stay.refl (H:Zl)(w:World):Stay H w H w:=λ b h e=>⟨h,e,Yd _,λ _ _=>rfl⟩
mutual
theorem RepV.stay {H H':Zl}{w w':World}(hs:Stay H w H' w'):∀(x:AV)(v:Value),RepV H w x v->RepV H' w' x v
 | .int _ _,v,h | .bool _,v,h | .str _,v,h | .fn _,v,h=>by
  rw[RepV] at h⊢;exact h
 | .row n cs,v,h=>by
  rw[RepV] at h⊢;obtain⟨A,c,e,h0,h1,h2⟩:=h;refine⟨A,c,e,h0,h1,?_⟩;rcases h2 with h2|⟨b,o,k,hA,hb,hl,hc⟩
  .exact .inl h2
  .obtain⟨k',hb',hk,hcell⟩:=hs b k hb
   exact .inr ⟨b,o,k',hA,hb',by omega,RepC.stay hs cs b o k hl hcell hc⟩
 | .agg cs,v,h=>by
  rw[RepV] at h⊢;obtain⟨vs,e,h⟩:=h;exact⟨vs,e,RepL.stay hs cs vs h⟩
 | .tup xs,v,h=>by
  rw[RepV] at h⊢;obtain⟨vs,e,h⟩:=h;exact⟨vs,e,RepT.stay hs xs vs h⟩
 | .box _ _,v,h=>by
  rw[RepV] at h;exact h.elim
 | .ptr cs off,v,h=>by
  rw[RepV] at h⊢;obtain⟨b,o,k,e,hb,hl,hc⟩:=h;obtain⟨k',hb',hk,hcell⟩:=hs b k hb;exact⟨b,o,k',e,hb',by omega,RepC.stay hs cs b o k hl hcell hc⟩
 | .any,v,h=>by
  rw[RepV]
  trivial
theorem RepL.stay {H H':Zl}{w w':World}(hs:Stay H w H' w'):∀(xs:List AV)(vs:List Value),RepL H w xs vs->RepL H' w' xs vs
 | [],vs,h=>by
  rw[RepL] at h⊢;exact h
 | x::r,vs,h=>by
  rw[RepL] at h⊢;obtain⟨v,rs,e,hc,h1,h2⟩:=h;exact⟨v,rs,e,hc,RepV.stay hs x v h1,RepL.stay hs r rs h2⟩
theorem RepT.stay {H H':Zl}{w w':World}(hs:Stay H w H' w'):∀(xs:List AV)(vs:List Value),RepT H w xs vs->RepT H' w' xs vs
 | [],vs,h=>by
  rw[RepT] at h⊢;exact h
 | x::r,vs,h=>by
  rw[RepT] at h⊢;obtain⟨v,rs,e,h1,h2⟩:=h;exact⟨v,rs,e,RepV.stay hs x v h1,RepT.stay hs r rs h2⟩
theorem RepC.stay {H H':Zl}{w w':World}(hs:Stay H w H' w'):∀(xs:List AV)(b o k:Nat),o+xs.length<=k->(∀o,o<k->w'.cell? ⟨b,o,none⟩=w.cell? ⟨b,o,none⟩)->RepC H w xs b o->RepC H' w' xs b o
 | [],b,o,k,_,_,h=>by
  rw[RepC]
  trivial
 | x::r,b,o,k,hk,hcell,h=>by
  rw[RepC] at h⊢;obtain⟨hc,⟨v,hv,h1⟩,h2⟩:=h;rw[Yk] at hk;exact⟨hc,⟨v,by rw[hcell o (by omega)];exact hv,RepV.stay hs x v h1⟩,RepC.stay hs r b (o+1) k (by omega) hcell h2⟩
end
theorem RepL.length {H:Zl}{w:World}:∀{xs:List AV} {vs:List Value},RepL H w xs vs->vs.length=xs.length
 | [],vs,h=>by rw[RepL] at h;subst h;rfl
 | x::r,vs,h=>by
  rw[RepL] at h;obtain⟨v,rs,rfl,_,_,h2⟩:=h;rw[Yk,Yk,RepL.length h2]
theorem RepL.append {H:Zl}{w:World}:∀{xs ys:List AV} {vs us:List Value},RepL H w xs vs->RepL H w ys us->RepL H w (xs++ys) (vs++us)
 | [],ys,vs,us,h,k=>by rw[RepL] at h;subst h;exact k
 | x::r,ys,vs,us,h,k=>by
  rw[RepL] at h;obtain⟨v,rs,rfl,hc,h1,h2⟩:=h;rw[Yab,Yab,RepL];exact⟨v,rs++us,rfl,hc,h1,RepL.append h2 k⟩
theorem RepL.take {H:Zl}{w:World}:∀{xs:List AV} {vs:List Value} (n:Nat),RepL H w xs vs->RepL H w (xs.take n) (vs.take n)
 | xs,vs,0,h=>by rw[Yaz,Yaz,RepL]
 | [],vs,n+1,h=>by rw[RepL] at h;subst h;rw[List.take_nil,RepL,List.take_nil]
 | x::r,vs,n+1,h=>by
  rw[RepL] at h;obtain⟨v,rs,rfl,hc,h1,h2⟩:=h;rw[Yaw,Yaw,RepL];exact⟨v,_,rfl,hc,h1,RepL.take n h2⟩
theorem RepL.drop {H:Zl}{w:World}:∀{xs:List AV} {vs:List Value} (n:Nat),RepL H w xs vs->RepL H w (xs.drop n) (vs.drop n)
 | xs,vs,0,h=>h
 | [],vs,n+1,h=>by rw[RepL] at h;subst h;rw[List.drop_nil,RepL,List.drop_nil]
 | x::r,vs,n+1,h=>by
  rw[RepL] at h;obtain⟨v,rs,rfl,hc,h1,h2⟩:=h;exact RepL.drop n h2
theorem RepL.at_ {H:Zl}{w:World}:∀{xs:List AV} {vs:List Value} {i:Nat} {x:AV},RepL H w xs vs->xs[i]?=some x->∃v,vs[i]?=some v/\x.cell=true/\RepV H w x v
 | [],vs,i,x,h,hi=>by simp at hi
 | y::r,vs,0,x,h,hi=>by
  rw[RepL] at h;obtain⟨v,rs,rfl,hc,h1,h2⟩:=h;simp at hi;subst hi;exact⟨v,rfl,hc,h1⟩
 | y::r,vs,i+1,x,h,hi=>by
  rw[RepL] at h;obtain⟨v,rs,rfl,hc,h1,h2⟩:=h;obtain⟨u,hu,h3⟩:=RepL.at_ h2 (by simpa using hi);exact⟨u,by simpa using hu,h3⟩
theorem RepT.at_ {H:Zl}{w:World}:∀{xs:List AV} {vs:List Value} {i:Nat} {x:AV},RepT H w xs vs->xs[i]?=some x->∃v,vs[i]?=some v/\RepV H w x v
 | [],vs,i,x,h,hi=>by simp at hi
 | y::r,vs,0,x,h,hi=>by
  rw[RepT] at h;obtain⟨v,rs,rfl,h1,h2⟩:=h;simp at hi;subst hi;exact⟨v,rfl,h1⟩
 | y::r,vs,i+1,x,h,hi=>by
  rw[RepT] at h;obtain⟨v,rs,rfl,h1,h2⟩:=h;obtain⟨u,hu,h3⟩:=RepT.at_ h2 (by simpa using hi);exact⟨u,by simpa using hu,h3⟩
theorem RepT.length {H:Zl}{w:World}:∀{xs:List AV} {vs:List Value},RepT H w xs vs->vs.length=xs.length
 | [],vs,h=>by rw[RepT] at h;subst h;rfl
 | x::r,vs,h=>by
  rw[RepT] at h;obtain⟨v,rs,rfl,_,h2⟩:=h;rw[Yk,Yk,RepT.length h2]
theorem Zs3 {H:Zl}{w:World}{x:AV}{v:Value}(hc:x.cell=true)(h:RepV H w x v):v.oneCell'=true/\v.cells=#[v]:=by
 cases x <;> simp[AV.cell] at hc
 case int=>rw[RepV] at h;subst h;exact⟨rfl,rfl⟩
 case bool=>rw[RepV] at h;subst h;exact⟨rfl,rfl⟩
 case str=>rw[RepV] at h;subst h;exact⟨rfl,rfl⟩
 case fn=>rw[RepV] at h;subst h;exact⟨rfl,rfl⟩
 case row =>
  rw[RepV] at h;obtain⟨A,c,rfl,_⟩:=h;exact⟨rfl,rfl⟩
theorem RepL.one {H:Zl}{w:World}:∀{xs:List AV} {vs:List Value},RepL H w xs vs->∀v∈vs,v.oneCell'=true
 | [],vs,h,v,hv=>by rw[RepL] at h;subst h;cases hv
 | x::r,vs,h,v,hv=>by
  rw[RepL] at h;obtain⟨u,rs,rfl,hc,h1,h2⟩:=h;rcases List.mem_cons.1 hv with rfl|hv
  .exact(Zs3 hc h1).1
  .exact RepL.one h2 v hv
theorem Zhn {H:Zl}{w:World}{x:AV}{v:Value}{cs:List AV}(h:RepV H w x v)(hc:x.cells=some cs):∃vs,v.cells=vs.toArray/\RepL H w cs vs:=by
 have one:x.cell=true->some [x]=some cs->∃vs,v.cells=vs.toArray/\RepL H w cs vs:=λ h1 h2=>by
  cases h2
  refine⟨[v],by rw[(Zs3 h1 h).2],?_⟩;rw[RepL];exact⟨v,[],rfl,h1,h,by rw[RepL]⟩
 cases x <;> simp only[AV.cells] at hc
 case int=>exact one rfl hc
 case bool=>exact one rfl hc
 case str=>exact one rfl hc
 case fn=>exact one rfl hc
 case row=>exact one rfl hc
 case agg cs' =>
  cases hc
  rw[RepV] at h;obtain⟨vs,rfl,h⟩:=h;exact⟨vs,rfl,h⟩
 all_goals cases hc
theorem Zb8 {H:Zl}{w:World}:∀{xs:List AV} {b o:Nat},RepC H w xs b o->∃vs,RepL H w xs vs/\w.rangeAt b o vs
 | [],b,o,_=>⟨[],by rw[RepL],λ j v h=>by simp at h⟩
 | x::r,b,o,h=>by
  rw[RepC] at h;obtain⟨hc,⟨v,hv,h1⟩,h2⟩:=h;obtain⟨vs,h3,h4⟩:=Zb8 h2;refine⟨v::vs,by rw[RepL];exact⟨v,vs,rfl,hc,h1,h3⟩,λ j u hj=>?_⟩
  cases j with
  | zero=>simp at hj;subst hj;exact hv
  | succ j=>rw[show o+(j+1)=o+1+j by omega];exact h4 j u (by simpa using hj)
theorem Zho {H:Zl}{w:World}:∀{xs:List AV} {vs:List Value} {b o:Nat},RepL H w xs vs->w.rangeAt b o vs->RepC H w xs b o
 | [],vs,b,o,_,_=>by rw[RepC];trivial
 | x::r,vs,b,o,h,hr=>by
  rw[RepL] at h;obtain⟨v,rs,rfl,hc,h1,h2⟩:=h;rw[RepC];refine⟨hc,⟨v,hr 0 v rfl,h1⟩,Zho h2 λ j u hj=>?_⟩;rw[show o+1+j=o+(j+1) by omega];exact hr (j+1) u (by simpa using hj)
