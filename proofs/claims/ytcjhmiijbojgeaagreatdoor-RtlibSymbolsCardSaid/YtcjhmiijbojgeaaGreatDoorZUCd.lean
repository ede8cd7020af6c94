/- Parts. -/
import Derived.Test.YtcjhmiijbojgeaaGreatDoorRows
import Derived.Test.YtcjhmiijbojgeaaGreatDoorZExtB
import Derived.ProofKit
import Derived.Carry
import Derived.Deep.RegionLaw
import Derived.Deep.Cut
import Derived.Deep.CutRange
import Derived.WalkMore
set_option linter.all false
set_option maxHeartbeats 4000000
open Go.Lib renaming hid->Ya
open Nat renaming le_refl->Yc
open List renaming getElem?_eq_some_iff->Yg,getD_eq_getElem?_getD->Yh,length_cons->Yk,replicate->Y6,take_zero->Yaj,take_succ_cons->Yaq,drop_zero->Ya0,drop_succ_cons->Ya1,map_cons->Ybr,length_set->Ycd,getElem?_eq_none_iff->Ycq,map_replicate->Ydj
open Go.RowKit.Below renaming refl->Yj,trans->Ydc
open Go.Value renaming int->Yu,ownBlock->Yah
open Go.Region renaming wanted->Yak
namespace Go.Proofs.YtcjhmiijbojgeaaGreatDoor
open S Go.Proofs.Tryz Go.RowKit
set_option maxRecDepth 100000
section
open Go.ChangeShapes Go.WideShapes Go.ChangeAt Go.RowKit
section
variable {H:Type}{enc:TypeId×Value->H}{P:Program}
theorem Zlv {f:Func}{s:ChangeSpec}{apart fresh e k:Bool}{W l:World}{args:Array Value}{v:Value}{o q:List (DataW H)}{a pa pv:List MemPlace}
 (u:DataW.Whole enc P f.params.toList s.vars apart W args.toList o q a)
 (h:∀(b:Nat)(sp:Nat->Bool)(hd:Bool),DataW.TrodAll enc P l b sp hd f.resultTypes.toList (v.resultList f.resultTypes.size) (s.fn H (o++q)).results [])
 (c:∀sp:Nat->Bool,(∀p∈a,sp p.block=true)->DataW.TrodAll enc P l 0 sp true f.params.toList args.toList (s.fn H (o++q)).args pa)
 (d:∀sp:Nat->Bool,(∀p∈a,sp p.block=true)->DataW.TrodVars enc P l sp s.vars (s.fn H (o++q)).vars pv)
 (g:a=pa++pv) (x:Below W.heap.size W l)
 (w:∀(j:Nat)(t:TypeId)(r:Value),f.resultTypes[j]?=some t->(v.resultList f.resultTypes.size)[j]?=some r->Value.okWide P l .any 0 t r) :
 s.post enc P f apart fresh e k W args v l:=by
 have n:∀p∈a,p.block<W.heap.size:=λ p hp=>u.lt p hp
 have i:∀p∈a,(λ b=>decide (b<W.heap.size)) p.block=true:=λ p hp=>by simpa using n p hp
 refine⟨o,q,a,[],pa,pv,u,h _ _ _,c _ i,d _ i,World.keptBut_mono (λ p hp=>⟨hp,?_⟩) (x.frame (·∈a)),λ _=>?_⟩
 .rw[g,List.mem_append] at hp
  exact Or.inr hp
 .obtain⟨_,_,_,_,_,hz,hn⟩:=u
  refine⟨w,_,_,([]++pa)++pv,⟨[]++pa,pv,trodAll_append (c _ (λ _ _=>rfl)) (h _ _ _),d _ (λ _ _=>rfl),rfl,?_,?_⟩,?_⟩
  .intro b off hp
   have m:MemPlace.cell b off∈a:=by rw[g];simpa using hp
   rw[x.frozen (n _ m)];exact hz b off m
  .intro ha
   have:=hn ha;rw[g] at this
   simpa using this
  .intro p hp _
   rw[g]
   simpa using hp
end
end
theorem Z2t (n:Int):chk ⟨26,0,0,0,n⟩=if -32768<=n/\n<=32767 then 0 else 11:=by
 have hf:form 26=4:=by decide
 have a:least 26=-32768/\most 26=32767:=by decide
 simp only[chk,good,hf,hasD,hasA,hasB,reg,a.1,a.2];simp
theorem Zwa (n:Int):chk ⟨32,0,0,0,n⟩=if -1048576<=n/\n<=1048575 then 0 else 11:=by
 have hf:form 32=5:=by decide
 have a:least 32=-1048576/\most 32=1048575:=by decide
 simp only[chk,good,hf,hasD,hasA,hasB,reg,a.1,a.2];simp
theorem Work.grown {w w':World}{B g b p m n:Nat}{A:Option Addr}{c:Nat}{xs:List S.Item}{base:Int}{F T:List Int}{f:ByteArray->Option Int}(h:Work w B g b p m n A c xs base F T f)(k:Nat)(v:Int)
 (q:w'=w.setCell ⟨b,k,none⟩ (.int .i64 v)):Work w' B g b p m n A c xs base (F.set k v) T f/\Below B w w':=by
 subst q;have r:Below B w (w.setCell ⟨b,k,none⟩ (.int .i64 v)):=(Yj _ _).setCell h.hF _;have d:=h.forms.stored k (.int .i64 v);have j:g≠b:=by
  rintro rfl;rcases h.forms.2 with⟨a,_⟩|⟨s,cap,o,a,_,hg,_⟩
  .cases a
  .cases a
   rw[h.blk] at hg
   injection hg with hg
   injection hg with _ ht
   exact absurd ht (by decide)
 have i:some m≠some b:=by
  rintro a
  cases a
  obtain⟨D,⟨es,l,hm,_⟩,_⟩:=h.labels;rcases h.forms.2 with⟨a,_⟩|⟨s,cap,o,a,_,hg,_⟩
  .cases a
  .cases a
   rw[hm] at hg
   cases hg
 refine⟨⟨?_,?_,h.ats.kept d.2 (.inr ?_),h.labels.kept d.2 i,h.hg,h.hF,h.hA,h.hm,h.ne1⟩,r⟩
 .rw[d.2.block g (Zgs h.blk) (by simpa using j)];exact h.blk
 .rw[List.map_set];exact d.1
 .simp[Yah];exact λ e=>h.ne1 e.symm
def Znm (w:World)(B g gF gA m n:Nat)(A:Option Addr)(c:Nat)(xs:List S.Item)(base:Int)(F F0:List Int)(i:Nat)(x:S.Item)(e:Ending)(w':World):Prop :=
 ∃F',e=.returned (.bool (!(fit xs F0 base i x)))/\(F'=if fit xs F0 base i x=true then F else F.set i (F.getD i 0+1)) /\
  Work w' B g gF gA m n A c xs base F' (Zfe xs F0 base (xs.length+1)) (Zen xs)/\Below B w w'
theorem Zwb (w:World){B g gF gA m n:Nat}{A:Option Addr}{c:Nat}{xs:List S.Item}{base:Int}{F l:List Int}(h:Work w B g gF gA m n A c xs base F (Zfe xs l base (xs.length+1)) (Zen xs))(hi:Items w B A xs)(hB:B<=w.heap.size)
 (i:Nat) (x:S.Item) (hx:xs[i]?=some x) (a0:FormOk xs l) (z:F.getD i 0=l.getD i 0) (a7:named x=true->0<=stands xs x.label) (a1:x.label.size<=maxLen)
 (hl:xs.length<=1048576) (d0:0<=base) (c4:base<=67108864) (hw:∀x∈xs,0<=x.word/\x.word<=4294967295) :
 Calls prog 198 #[.pointer (some ⟨g,0,none⟩),.int .i64 i] w (Znm w B g gF gA m n A c xs base F l i x):=by
 have L:i<xs.length:=(Yg.1 hx).1;obtain⟨k0,k1,k2,k3,k4⟩:=h.cells;obtain⟨l1,l2,l3,l4⟩:=h.lts;obtain⟨c8,c7⟩:=h.form L;have c3:=(h.at_ (k:=i) (by omega)).1;obtain⟨b,off,x',rfl,hb,b6,a9,a8,b7,b0,b2,b3,b1,b4,Q,U⟩:=hi.at_ L;rw[hx] at b6
 cases b6
 have d1:b<w.heap.size:=by omega
 obtain⟨h3,h4,h5⟩:=a0.2 i x hx;rw[Zbu xs l base _ i (by omega)] at c3;have u:fit xs l base i x=(if (x.kind≠3/\x.kind≠4)\/(x.kind=3/\l.getD i 0=3)\/(x.kind=4/\l.getD i 0=2) then true
  else if x.kind=3/\l.getD i 0=1 then
   decide (-32768<=addr xs l base (stands xs x.label).toNat-addr xs l base (i+1)/\addr xs l base (stands xs x.label).toNat-addr xs l base (i+1)<=32767)
  else decide (-1048576<=addr xs l base (stands xs x.label).toNat-addr xs l base (i+1)/\addr xs l base (stands xs x.label).toNat-addr xs l base (i+1)<=1048575)):=rfl
 have R:addr xs l base (i+1)=addr xs l base i+size x (F.getD i 0):=by rw[addr,z];simp[sizeAt,hx]
 obtain⟨c5,c6⟩:=Zcm (base:=base) a0 hw i;have c2:=Ya hw;have b8:=Ya a0;rw[R,<- z] at u;rw[<- z] at h3 h4 h5;clear a0 hw R z;generalize addr xs l base i=ti at *;generalize hfk:F.getD i 0=fk at *;have C:=Ya hfk;clear hfk;by_cases a6:x.kind=3\/x.kind=4
 .have hnm:named x=true:=by unfold named;grind
  have h0:=a7 hnm;obtain⟨j,hj,d3⟩:∃j:Nat,stands xs x.label=j/\j<xs.length:=by
   rcases Zaj xs x.label with⟨e,_⟩|⟨j,y,e,hj,_⟩
   .omega
   .exact⟨j,e,(Yg.1 hj).1⟩
  have a3:Zen xs x.label=some (j:Int):=by unfold Zen;rw[if_neg (by omega),hj]
  obtain⟨c9,d2⟩:=Zcm (base:=base) b8.out c2.out j;rw[hj,Int.toNat_natCast] at u;have c1:=Zbu xs l base (xs.length+1) j (by omega);have G:=Ya u;have a5:=Ya c1;have V:=Ya a3;have N:(x.kind=3/\fk=1)\/(x.kind=3/\fk=2)\/(x.kind=3/\fk=3)\/(x.kind=4/\fk=1)\/(x.kind=4/\fk=2):=by
   rcases a6 with k|k
   .have:=h3 k;omega
   .have:=h4 k;omega
  clear h3 h4 h5 a6 u c1 a3 hj a7 h0 hnm hx;generalize addr xs l base j=tj at *;obtain⟨kind,⟨op,d,a,E,imm⟩,lab,wd⟩:=x;simp only at a9 a8 b7 b0 b2 b3 b1 b4 Q U N a1;have v:Below w.heap.size w (w.alloc (.cells #[.int .i64 kind,.int .i64 op,.int .i64 d,.int .i64 a,.int .i64 E,.int .i64 imm,.string lab,.int .u32 wd] 79)):=(Yj _ _).alloc (Yc _) _;have O:=h.below v;have a2:∀w',Below w.heap.size w w'->fit xs l base i ⟨kind,⟨op,d,a,E,imm⟩,lab,wd⟩=true ->
   Znm w B g gF gA m n (some ⟨b,off,none⟩) c xs base F l i ⟨kind,⟨op,d,a,E,imm⟩,lab,wd⟩ (.returned (.bool false)) w' :=
   λ w' hb he=>⟨F,by rw[he];rfl,by rw[if_pos he],h.below hb,hb.mono hB⟩
  have I:=Ya a2;clear a2;rcases N with⟨rfl,rfl⟩|⟨rfl,rfl⟩|⟨rfl,rfl⟩|⟨rfl,rfl⟩|⟨rfl,rfl⟩
  rotate_left 2
  .go_enter func198,ntmps198
   go_wp2_with fail
   go_ret
   exact I.out _ v (by rw[G.out];simp)
  rotate_left 1
  .go_enter func198,ntmps198
   go_wp2_with fail
   go_ret
   exact I.out _ v (by rw[G.out];simp)
  .have hsz:size ⟨3,⟨op,d,a,E,imm⟩,lab,wd⟩ 1=1:=by simp[size]
   have D:((-32768<=tj-ti-1/\tj-ti-1<=32767)/\chk ⟨26,0,0,0,tj-ti-1⟩=0/\fit xs l base i ⟨3,⟨op,d,a,E,imm⟩,lab,wd⟩=true) \/
    (¬(-32768<=tj-ti-1/\tj-ti-1<=32767)/\chk ⟨26,0,0,0,tj-ti-1⟩=11/\fit xs l base i ⟨3,⟨op,d,a,E,imm⟩,lab,wd⟩=false):=by
    have e:tj-(ti+1)=tj-ti-1:=by omega
    rw[G.out,hsz,Z2t,e];by_cases J:-32768<=tj-ti-1/\tj-ti-1<=32767
    .left;simp[J]
    .right;simp[J]
   rcases D with⟨J,hc,o⟩|⟨J,hc,o⟩
   all_goals
    have q:=Ya o;clear o J;go_enter func198,ntmps198
    go_wp2_with fail
    refine Zq (by kernel_rfl) (by kernel_rfl) ?_;have hE:=Zk (w.alloc (.cells #[.int .i64 3,.int .i64 op,.int .i64 d,.int .i64 a,.int .i64 E,.int .i64 imm,.string lab,.int .u32 wd] 79))
    repeat (first
     | go_big_quiet_step ((first
      | (go_at_call 199;exact Zdm (Zar _ (O.below (Subtype.property _)) lab a1 j V.out (by omega) hl tj a5.out))
      | (go_at_call 215;exact Zdm (Zhb _ _ _ _ _ _ _ _ _ _ (by omega) (by omega) Q U)))))
    refine wpQuiet_nil ?_;intro w1 K;have t:=Zcp K;clear hE K;have r:Below w.heap.size w w1:=v.trans (t.mono (by simp));obtain⟨M,T⟩:=Zh9 t;have b5:w.heap.size+1<=w1.heap.size:=by simpa using t.size
    have a4:w.heap.size<w1.heap.size:=by omega
    have c0:w1.cell? ⟨w.heap.size,0,none⟩=some (.int .i64 3):=by rw[M _ _ (by simp)];exact Zac _ _ _ _
    have s:=h.below r;obtain⟨p0,p1,p2,p3,p4⟩:=s.cells;obtain⟨q1,q2⟩:=s.form L;rw[C.out] at q1;obtain⟨r1,r2,r3,r4⟩:=s.lts;clear M T;go_wp2_with fail
    refine(Zbz _ _ _ _ _ _).mono ?_;rintro e w3 ⟨rfl,X⟩;have f:Below w.heap.size w w3:=by
     refine Ydc ?_ (X.mono ?_)
     .exact r.alloc (by omega) _
     .simp;omega
    have p:=h.below f;obtain⟨n0,n1,n2,n3,n4⟩:=p.cells;obtain⟨Z,b9⟩:=p.form L;rw[C.out] at Z;obtain⟨m1,m2,m3,m4⟩:=p.lts;clear n1 n3 n4
   .go_wp2_with fail
    go_ret
    exact I.out _ f q.out
   .go_wp2_with fail
    go_ret
    obtain⟨Y,W⟩:=p.grown i _ rfl;exact⟨_,by rw[q.out];rfl,by rw[q.out,C.out];rfl,Y,(f.mono hB).trans W⟩
  .have hsz:size ⟨3,⟨op,d,a,E,imm⟩,lab,wd⟩ 2=2:=by simp[size]
   have D:((-1048576<=tj-ti-2/\tj-ti-2<=1048575)/\chk ⟨32,0,0,0,tj-ti-2⟩=0/\fit xs l base i ⟨3,⟨op,d,a,E,imm⟩,lab,wd⟩=true) \/
    (¬(-1048576<=tj-ti-2/\tj-ti-2<=1048575)/\chk ⟨32,0,0,0,tj-ti-2⟩=11/\fit xs l base i ⟨3,⟨op,d,a,E,imm⟩,lab,wd⟩=false):=by
    have e:tj-(ti+2)=tj-ti-2:=by omega
    rw[G.out,hsz,Zwa,e];by_cases J:-1048576<=tj-ti-2/\tj-ti-2<=1048575
    .left;simp[J]
    .right;simp[J]
   rcases D with⟨J,hc,o⟩|⟨J,hc,o⟩
   all_goals
    have q:=Ya o;clear o J;go_enter func198,ntmps198
    go_wp2_with fail
    refine Zq (by kernel_rfl) (by kernel_rfl) ?_;have hE:=Zk (w.alloc (.cells #[.int .i64 3,.int .i64 op,.int .i64 d,.int .i64 a,.int .i64 E,.int .i64 imm,.string lab,.int .u32 wd] 79))
    repeat (first
     | go_big_quiet_step ((first
      | (go_at_call 199;exact Zdm (Zar _ (O.below (Subtype.property _)) lab a1 j V.out (by omega) hl tj a5.out))
      | (go_at_call 215;exact Zdm (Zhb _ _ _ _ _ _ _ _ _ _ (by omega) (by omega) Q U)))))
    refine wpQuiet_nil ?_;intro w1 K;have t:=Zcp K;clear hE K;have r:Below w.heap.size w w1:=v.trans (t.mono (by simp));obtain⟨M,T⟩:=Zh9 t;have b5:w.heap.size+1<=w1.heap.size:=by simpa using t.size
    have a4:w.heap.size<w1.heap.size:=by omega
    have c0:w1.cell? ⟨w.heap.size,0,none⟩=some (.int .i64 3):=by rw[M _ _ (by simp)];exact Zac _ _ _ _
    have s:=h.below r;obtain⟨p0,p1,p2,p3,p4⟩:=s.cells;obtain⟨q1,q2⟩:=s.form L;rw[C.out] at q1;obtain⟨r1,r2,r3,r4⟩:=s.lts;clear M T;go_wp2_with fail
    refine(Zbz _ _ _ _ _ _).mono ?_;rintro e w3 ⟨rfl,X⟩;have f:Below w.heap.size w w3:=by
     refine Ydc ?_ (X.mono ?_)
     .exact r.alloc (by omega) _
     .simp;omega
    have p:=h.below f;obtain⟨n0,n1,n2,n3,n4⟩:=p.cells;obtain⟨Z,b9⟩:=p.form L;rw[C.out] at Z;obtain⟨m1,m2,m3,m4⟩:=p.lts;clear n1 n3 n4
   .go_wp2_with fail
    go_ret
    exact I.out _ f q.out
   .go_wp2_with fail
    go_ret
    obtain⟨Y,W⟩:=p.grown i _ rfl;exact⟨_,by rw[q.out];rfl,by rw[q.out,C.out];rfl,Y,(f.mono hB).trans W⟩
  .have hsz:size ⟨4,⟨op,d,a,E,imm⟩,lab,wd⟩ 1=1:=by simp[size]
   have D:((-1048576<=tj-ti-1/\tj-ti-1<=1048575)/\chk ⟨32,0,0,0,tj-ti-1⟩=0/\fit xs l base i ⟨4,⟨op,d,a,E,imm⟩,lab,wd⟩=true) \/
    (¬(-1048576<=tj-ti-1/\tj-ti-1<=1048575)/\chk ⟨32,0,0,0,tj-ti-1⟩=11/\fit xs l base i ⟨4,⟨op,d,a,E,imm⟩,lab,wd⟩=false):=by
    have e:tj-(ti+1)=tj-ti-1:=by omega
    rw[G.out,hsz,Zwa,e];by_cases J:-1048576<=tj-ti-1/\tj-ti-1<=1048575
    .left;simp[J]
    .right;simp[J]
   rcases D with⟨J,hc,o⟩|⟨J,hc,o⟩
   all_goals
    have q:=Ya o;clear o J;go_enter func198,ntmps198
    go_wp2_with fail
    refine Zq (by kernel_rfl) (by kernel_rfl) ?_;have hE:=Zk (w.alloc (.cells #[.int .i64 4,.int .i64 op,.int .i64 d,.int .i64 a,.int .i64 E,.int .i64 imm,.string lab,.int .u32 wd] 79))
    repeat (first
     | go_big_quiet_step ((first
      | (go_at_call 199;exact Zdm (Zar _ (O.below (Subtype.property _)) lab a1 j V.out (by omega) hl tj a5.out))
      | (go_at_call 215;exact Zdm (Zhb _ _ _ _ _ _ _ _ _ _ (by omega) (by omega) Q U)))))
    refine wpQuiet_nil ?_;intro w1 K;have t:=Zcp K;clear hE K;have r:Below w.heap.size w w1:=v.trans (t.mono (by simp));obtain⟨M,T⟩:=Zh9 t;have b5:w.heap.size+1<=w1.heap.size:=by simpa using t.size
    have a4:w.heap.size<w1.heap.size:=by omega
    have c0:w1.cell? ⟨w.heap.size,0,none⟩=some (.int .i64 4):=by rw[M _ _ (by simp)];exact Zac _ _ _ _
    have s:=h.below r;obtain⟨p0,p1,p2,p3,p4⟩:=s.cells;obtain⟨q1,q2⟩:=s.form L;rw[C.out] at q1;obtain⟨r1,r2,r3,r4⟩:=s.lts;clear M T;go_wp2_with fail
    refine(Zbz _ _ _ _ _ _).mono ?_;rintro e w3 ⟨rfl,X⟩;have f:Below w.heap.size w w3:=by
     refine Ydc ?_ (X.mono ?_)
     .exact r.alloc (by omega) _
     .simp;omega
    have p:=h.below f;obtain⟨n0,n1,n2,n3,n4⟩:=p.cells;obtain⟨Z,b9⟩:=p.form L;rw[C.out] at Z;obtain⟨m1,m2,m3,m4⟩:=p.lts;clear n1 n3 n4
   .go_wp2_with fail
    go_ret
    exact I.out _ f q.out
   .go_wp2_with fail
    go_ret
    obtain⟨Y,W⟩:=p.grown i _ rfl;exact⟨_,by rw[q.out];rfl,by rw[q.out,C.out];rfl,Y,(f.mono hB).trans W⟩
 .have n3:(x.kind==3)=false:=Zb7 (by omega)
  have n4:(x.kind==4)=false:=Zb7 (by omega);have o:fit xs l base i x=true:=by rw[u,if_pos (.inl (by omega))]
  have q:=Ya o;clear u o a7 hx h3 h4 h5;obtain⟨m3,m4⟩:x.kind≠3/\x.kind≠4:=by omega
  clear a6;obtain⟨kind,⟨op,d,a,E,imm⟩,lab,wd⟩:=x;simp only at a9 a8 b7 b0 b2 b3 b1 b4 Q U n3 n4 m3 m4;have v:Below w.heap.size w (w.alloc (.cells #[.int .i64 kind,.int .i64 op,.int .i64 d,.int .i64 a,.int .i64 E,.int .i64 imm,.string lab,.int .u32 wd] 79)):=(Yj _ _).alloc (Yc _) _;have O:=h.below v;go_enter func198,ntmps198
  go_wp2_with fail
  go_ret
  exact⟨F,by rw[q.out];rfl,by rw[if_pos q.out],O,v.mono hB⟩
theorem Zsf {w:World}{B b g n:Nat}{vs:List Value}{cs:Array Value}{L C:Nat}(h:w.ownsRow B 3 1 (.slice (some ⟨b,0,none⟩) L C) n vs)(hg:w.heap[g]?=some (.cells cs 206 (0,0))):g≠b:=by
 rintro rfl;rcases h.2 with⟨c,_⟩|⟨g',cap,d,c,_,a,_⟩
 .cases c
 .cases c
  rw[hg] at a
  injection a with a
  injection a with _ ht
  exact absurd ht (by decide)
theorem Zgk {w:World}{B b m k n:Nat}{vs:List Value}{f:ByteArray->Option Int}{L C:Nat}(h:w.ownsRow B 3 1 (.slice (some ⟨b,0,none⟩) L C) n vs)(hm:MapS w m k f):m≠b:=by
 rintro rfl;obtain⟨D,⟨es,a,hm,_⟩,_⟩:=hm;rcases h.2 with⟨c,_⟩|⟨g',cap,d,c,_,hg,_⟩
 .cases c
 .cases c
  rw[hm] at hg
  cases hg
theorem Work.placed {w w':World}{B g i a m n:Nat}{A:Option Addr}{c:Nat}{xs:List S.Item}{base:Int}{F T:List Int}{f:ByteArray->Option Int}(h:Work w B g i a m n A c xs base F T f)(k:Nat)(v:Int)
 (j:w'=w.setCell ⟨a,k,none⟩ (.int .i64 v)):Work w' B g i a m n A c xs base F (T.set k v) f/\Below B w w':=by
 subst j;have l:Below B w (w.setCell ⟨a,k,none⟩ (.int .i64 v)):=(Yj _ _).setCell h.hA _;have b:=h.ats.stored k (.int .i64 v);have d:=Zsf h.ats h.blk;have e:some m≠some a:=by
  intro o;exact Zgk h.ats h.labels (Option.some.inj o)
 refine⟨⟨?_,h.forms.kept b.2 (.inr ?_),?_,h.labels.kept b.2 e,h.hg,h.hF,h.hA,h.hm,h.ne1⟩,l⟩
 .rw[b.2.block g (Zgs h.blk) (by simpa using d)];exact h.blk
 .simp[Yah];exact h.ne1
 .rw[List.map_set];exact b.1
theorem Work.told {w w':World}{B g j l m n n':Nat}{A:Option Addr}{c:Nat}{xs:List S.Item}{base:Int}{F T:List Int}{f o:ByteArray->Option Int}(h:Work w B g j l m n A c xs base F T f)
 (hm:MapS w' m n' o) (hg:w.grownBy w' (some m)):Work w' B g j l m n' A c xs base F T o/\Below B w w':=by
 have a:g≠m:=by
  rintro rfl;obtain⟨D,⟨es,b,hm,_⟩,_⟩:=h.labels;rw[h.blk] at hm
  cases hm
 have d:=Zgk h.forms h.labels;have i:=Zgk h.ats h.labels;refine⟨⟨?_,h.forms.kept hg (.inr ?_),h.ats.kept hg (.inr ?_),hm,h.hg,h.hF,h.hA,h.hm,h.ne1⟩,(Yj _ _).grown hg ?_ ?_⟩
 .rw[hg.block g (Zgs h.blk) (by simpa using a)];exact h.blk
 .simp[Yah];exact λ e=>d e.symm
 .simp[Yah];exact λ e=>i e.symm
 .exact Nat.le_of_lt (Nat.lt_of_le_of_lt h.hg (Zgs h.blk))
 .intro k hk
  cases hk
  exact h.hm
def Zwc (w:World)(B g gF gA m n:Nat)(A:Option Addr)(c:Nat)(xs:List S.Item)(base:Int)(F:List Int)(e:Ending)(w':World):Prop :=
 Below B w w'/\((e=.returned (.bool true)/\addr xs F base xs.length<=most26/\Work w' B g gF gA m n A c xs base F (Zfe xs F base (xs.length+1)) (Zen xs)) \/
  (e=.returned (.bool false)/\most26<addr xs F base xs.length))
theorem Zsg {w w':World}{m b:Nat}(hg:w.grownBy w' (some m))(a:b<w.heap.size)(c:b≠m)(j:Nat):w'.cell? ⟨b,j,none⟩=w.cell? ⟨b,j,none⟩:=by
 simp only[World.cell?,hg.block b a (by simpa using c)]
theorem Z8t {n:Int}(h:-9223372036854775808<=n/\n<=9223372036854775807):(Lit.int .i64 n).wf=true:=by
 simp[Lit.wf,IntKind.min,IntKind.max,IntKind.signed,IntKind.bits];omega
theorem Zev {ops:Array Oper}{rest:List Oper}{o:Oper}{a:Act}{Q:Exit->Act->World->Prop}{w:World}(hg:o.guard=none)(hd:o.dst=none)(b x v:Operand)(c:o.op=Op.mapUpdate 199 b x v)
 (m n:Nat) (f:ByteArray->Option Int) (hm:a.eval b=.map (some m)) (h:MapS w m n f) (j:n<1152921504606846976) (s:ByteArray) (q:Int) (g:a.eval x=.string s) (k:a.eval v=.int .i64 q) (l:s.size<=maxLen) (p:(Lit.int .i64 q).wf=true)
 (d:∀w',MapS w' m (if (f s).isSome then n else n+1) (λ t=>if t=s then some q else f t)->w.grownBy w' (some m)->wpList prog ops Q rest a w'):wpList prog ops Q (o::rest) a w:=by
 refine Zfp hg b x v c m n f hm h j s q g k l p ?_;intro w' i e;rw[hd];exact d w' i e
theorem Zwd {xs:List S.Item}{x:S.Item}{k:Nat}(hd:stands xs x.label=k):(Zen xs x.label).isSome=true/\(λ t=>if t=x.label then some (k:Int) else Zen xs t)=Zen xs:=by
 have e:Zen xs x.label=some (k:Int):=by unfold Zen;rw[hd,if_neg (by omega)]
 refine⟨by rw[e];rfl,?_⟩
 funext t
 by_cases a:t=x.label
 .rw[if_pos a,a,e]
 .rw[if_neg a]
theorem Zwe (w:World){B g gF l m n:Nat}{A:Option Addr}{c:Nat}{xs:List S.Item}{base:Int}{F T:List Int}(h:Work w B g gF l m n A c xs base F T (Zen xs))(hi:Items w B A xs)(hB:B<=w.heap.size)
 (b5:FormOk xs F) (hl:xs.length<=1048576) (e4:0<=base) (b2:base<=67108864) (hw:∀x∈xs,0<=x.word/\x.word<=4294967295)
 (Y:∀(k:Nat)(x:S.Item),xs[k]?=some x->x.label.size<=maxLen) (Z:∀(k:Nat)(x:S.Item),xs[k]?=some x->x.kind=2->stands xs x.label=k) (hn:n<=1048576) :
 Calls prog 197 #[.pointer (some ⟨g,0,none⟩)] w (Zwc w B g gF l m n A c xs base F):=by
 obtain⟨k0,k1,k2,k3,k4⟩:=h.cells;obtain⟨l1,l2,l3,l4⟩:=h.lts;have O:=Ya b5;have Hw:=Ya hw;have b9:=Ya Y;have b0:=Ya Z;clear b5 hw Y Z;go_enter func197,ntmps197
 go_wp2_with fail
 go_loopw [3,15] (λ p i wr=>∃(k:Nat)(K:List Int),k<=xs.length/\i=.int .i64 k/\p=.int .i64 (addr xs F base k)/\addr xs F base k<=67108864/\Work wr B g gF l m n A c xs base F K (Zen xs)/\(∀j,j<k->K.getD j 0=addr xs F base j)/\Below B w wr) (λ _ i _=>xs.length-(intOf i).toNat)
 case atStart =>
  exact⟨0,T,by omega,rfl,rfl,by rw[addr];exact b2,h,λ j hj=>by omega,Yj _ _⟩
 case round =>
  obtain⟨k,K,hk,rfl,rfl,b6,hW,hT,r⟩:=hrel;clear k0 k1 k2 k3 k4 l1 l2 l3 l4;obtain⟨k0,k1,k2,k3,k4⟩:=hW.cells;obtain⟨l1,l2,l3,l4⟩:=hW.lts;have HT:=Ya hT;clear hT;have d7:=r.size;obtain⟨d3,d5⟩:=Zcm (base:=base) O.out Hw.out k;have c1:K.length=xs.length+1:=by have:=hW.ats.1;simpa using this
  have U:=Ya c1;clear c1;by_cases V:k<xs.length
  .obtain⟨b,off,x,rfl,hb,hx,hc0,hc1,hc2,hc3,hc4,hc5,hc6,hc7,hw0,hw1⟩:=(hi.below r).at_ V
   obtain⟨d6,d4⟩:=Zhq O.out Hw.out k;obtain⟨h3,h4,h5⟩:=O.out.2 k x hx;have hsz:size x (F.getD k 0)=sizeAt xs F k:=by simp[sizeAt,hx]
   have b7:=b9.out k x hx;have hd:x.kind=2->stands xs x.label=k:=b0.out k x hx;have Hd:=Ya hd;obtain⟨d9,d8⟩:=hW.form V;obtain⟨e0,e5⟩:=hW.at_ (k:=k) (by omega);have e6:b<wr.heap.size:=by omega
   have y:addr xs F base (k+1)=addr xs F base k+sizeAt xs F k:=rfl;have o:=Ya y;have H3:=Ya h3;have H4:=Ya h4;clear hx h3 h4 h5 hd y;have W:addr xs F base (k+1)<=addr xs F base xs.length:=by
    obtain⟨d,hd⟩:∃d,xs.length=k+1+d:=⟨xs.length-(k+1),by omega⟩
    have:=Zhr (base:=base) O.out Hw.out (k+1) d;rw[<- hd] at this;exact this
   have a2:=Ya W;clear W;obtain⟨kind,⟨op,d,a,N,imm⟩,lab,wd⟩:=x;simp only at hc0 hc1 hc2 hc3 hc4 hc5 hc6 hc7 hw0 hw1 b7 Hd H3 H4;generalize hfk:F.getD k 0=fk at *;have c3:=Ya hfk;clear hfk;generalize hak:addr xs F base k=ak at *;have a5:=Ya hak;clear hak;generalize hse:sizeAt xs F k=se at *;clear hse;have Q:(wr.setCell ⟨l,k,none⟩ (.int .i64 ak)).heap.size=wr.heap.size:=by simp[World.setCell]
   obtain⟨c0,b8⟩:=hW.placed k ak rfl;have a4:Below wr.heap.size (wr.setCell ⟨l,k,none⟩ (.int .i64 ak)) ((wr.setCell ⟨l,k,none⟩ (.int .i64 ak)).alloc (.cells #[.int .i64 kind,.int .i64 op,.int .i64 d,.int .i64 a,.int .i64 N,.int .i64 imm,.string lab,.int .u32 wd] 79)):=(Yj _ _).alloc (by rw[Q];exact Yc _) _;have C:=c0.below (Q ▸ a4);have a1:Below B wr ((wr.setCell ⟨l,k,none⟩ (.int .i64 ak)).alloc (.cells #[.int .i64 kind,.int .i64 op,.int .i64 d,.int .i64 a,.int .i64 N,.int .i64 imm,.string lab,.int .u32 wd] 79)):=b8.trans (a4.mono (by omega));have t:∀(j:Nat)(v:Value),(#[Yu .i64 kind,.int .i64 op,.int .i64 d,.int .i64 a,.int .i64 N,.int .i64 imm,.string lab,.int .u32 wd])[j]?=some v ->
    ((wr.setCell ⟨l,k,none⟩ (.int .i64 ak)).alloc (.cells #[.int .i64 kind,.int .i64 op,.int .i64 d,.int .i64 a,.int .i64 N,.int .i64 imm,.string lab,.int .u32 wd] 79)).cell? ⟨wr.heap.size,j,none⟩=some v:=by
    intro j v hv;rw[<- Q,<- hv];exact Zac _ _ _ _
   have d2:=t 0 (.int .i64 kind) rfl;have c7:=t 1 (.int .i64 op) rfl;have c6:=t 2 (.int .i64 d) rfl;have c5:=t 3 (.int .i64 a) rfl;have d0:=t 4 (.int .i64 N) rfl;have c8:=t 5 (.int .i64 imm) rfl;have c9:=t 6 (.string lab) rfl;have d1:=t 7 (.int .u32 wd) rfl;obtain⟨p0,p1,p2,p3,p4⟩:=C.cells;obtain⟨q1,q2⟩:=C.form V;rw[c3.out] at q1;obtain⟨r1,r2,r3,r4⟩:=C.lts;have r5:wr.heap.size<((wr.setCell ⟨l,k,none⟩ (.int .i64 ak)).alloc (.cells #[.int .i64 kind,.int .i64 op,.int .i64 d,.int .i64 a,.int .i64 N,.int .i64 imm,.string lab,.int .u32 wd] 79)).heap.size:=by simp[World.setCell]
   clear a4 b8 c0 t Q;have X:∀w',Work w' B g gF l m n (some ⟨b,off,none⟩) c xs base F (K.set k ak) (Zen xs)->ak+se<=67108864->Below B wr w' ->
    ∃(k':Nat)(K:List Int),k'<=xs.length/\Yu .i64 ((k:Int)+1)=.int .i64 k'/\Yu .i64 (ak+se)=.int .i64 (addr xs F base k')/\addr xs F base k'<=67108864 /\
     Work w' B g gF l m n (some ⟨b,off,none⟩) c xs base F K (Zen xs)/\(∀j,j<k'->K.getD j 0=addr xs F base j)/\Below B w w':=by
    intro w' h1 h2 h3;have e:=o.out;refine⟨k+1,_,by omega,by simp,by rw[e],by rw[e];exact h2,h1,λ j hj=>?_,r.trans h3⟩;by_cases D:j=k
    .subst D
     rw[Za0 (by rw[U.out];omega),a5.out]
    .rw[Z9 (λ e=>D e.symm)]
     exact HT.out j (by omega)
   have a0:=Ya X;clear X;have f:∀(R w3:World),Work R B g gF l m n (some ⟨b,off,none⟩) c xs base F (K.set k ak) (Zen xs)->Ext R->True:=λ _ _ _ _=>trivial
   clear f;have f:∀u:World,Calls prog 215 #[.agg #[.int .i64 kind,.int .i64 op,.int .i64 d,.int .i64 a,.int .i64 N,.int .i64 imm,.string lab,.int .u32 wd],.int .i64 fk] u λ e w'=>e=.returned (.int .i64 se)/\Below u.heap.size u w':=by
    intro u;rw[<- hsz];exact Zhb _ _ _ _ _ _ _ _ _ _ H3.out H4.out hw0 hw1
   clear hsz;by_cases c2:kind=2
   .subst c2
    have hd:=Hd.out rfl;obtain⟨b1,b3⟩:=Zwd (xs:=xs) (x:=⟨2,⟨op,d,a,N,imm⟩,lab,wd⟩) hd;simp only at b1 b3;go_wp2_with fail
    generalize (wr.setCell ⟨l,k,none⟩ (.int .i64 ak)).alloc (.cells #[.int .i64 2,.int .i64 op,.int .i64 d,.int .i64 a,.int .i64 N,.int .i64 imm,.string lab,.int .u32 wd] 79)=R at *;refine Zj 7 (by kernel_rfl) (by kernel_rfl) ?_;have hE:=Zk R;simp only[Yaq,Yaj,Ya1,Ya0]
    repeat (first|go_big_quiet_step (fail))
    refine wpQuiet_nil ?_;intro w1 L;have q:=Zcp L;clear hE L;have M:=C.below q;have e3:=q.size;have t:∀(j:Nat),w1.cell? ⟨wr.heap.size,j,none⟩=R.cell? ⟨wr.heap.size,j,none⟩:=λ j=>q.cell (p:=⟨_,j,none⟩) (by show wr.heap.size<R.heap.size;omega)
    refine Zev rfl rfl (.tmp 33) (.tmp 35) (.tmp 36) rfl m n _ rfl M.labels (by omega) lab k rfl rfl b7 (Z8t (by omega)) ?_;intro w3 c4 a3;go_wp2_with fail
    rw[if_pos b1,b3] at c4;obtain⟨s,a9⟩:=M.told c4 a3;have b4:Below B wr w3:=(a1.trans (q.mono (by omega))).trans a9;have e7:=a3.size;have hY:∀(j:Nat),w3.cell? ⟨wr.heap.size,j,none⟩=R.cell? ⟨wr.heap.size,j,none⟩:=λ j=>(Zsg a3 (by omega) (by omega) j).trans (t j)
    rw[<- hY] at d2 c7 c6 c5 d0 c8 c9 d1;clear p0 p1 p2 p3 p4 q1 q2 t hY;obtain⟨p0,p1,p2,p3,p4⟩:=s.cells;obtain⟨q1,q2⟩:=s.form V;rw[c3.out] at q1;obtain⟨t1,t2,t3,t4⟩:=s.lts;have t5:wr.heap.size<w3.heap.size:=by omega
    refine Zq (by kernel_rfl) (by kernel_rfl) ?_;have hE:=Zk w3
    repeat (first
     | go_big_quiet_step ((go_at_call 215;exact Zdm (f _))))
    refine wpQuiet_nil ?_;intro w4 E;have G:=Zcp E;clear hE E;have a8:=s.below G;have J:Below B wr w4:=b4.trans (G.mono (by omega));by_cases I:ak+se<=67108864
    .go_wp2_with fail
     go_roundw
     case rel=>exact a0.out _ a8 I J
     case measure=>simp[intOf];omega
    .go_wp2_with fail
     go_ret
     exact⟨r.trans J,.inr ⟨rfl,by have e1:=a2.out;have e2:=o.out;simp only[most26];omega⟩⟩
   .have c2':=Zb7 c2
    go_wp2_with fail
    generalize (wr.setCell ⟨l,k,none⟩ (.int .i64 ak)).alloc (.cells #[.int .i64 kind,.int .i64 op,.int .i64 d,.int .i64 a,.int .i64 N,.int .i64 imm,.string lab,.int .u32 wd] 79)=R at *;refine Zq (by kernel_rfl) (by kernel_rfl) ?_;have hE:=Zk R
    repeat (first
     | go_big_quiet_step ((go_at_call 215;exact Zdm (f _))))
    refine wpQuiet_nil ?_;intro w4 E;have G:=Zcp E;clear hE E;have a8:=C.below G;have J:Below B wr w4:=a1.trans (G.mono (by omega));by_cases I:ak+se<=67108864
    .go_wp2_with fail
     go_roundw
     case rel=>exact a0.out _ a8 I J
     case measure=>simp[intOf];omega
    .go_wp2_with fail
     go_ret
     exact⟨r.trans J,.inr ⟨rfl,by have e1:=a2.out;have e2:=o.out;simp only[most26];omega⟩⟩
  .have hkl:k=xs.length:=by omega
   subst hkl;have z:∀w',Work w' B g gF l m n A c xs base F (K.set xs.length (addr xs F base xs.length)) (Zen xs)->Work w' B g gF l m n A c xs base F (Zfe xs F base (xs.length+1)) (Zen xs):=by
    intro w' h';have e:K.set xs.length (addr xs F base xs.length)=Zfe xs F base (xs.length+1):=by
     refine Zda (by rw[Ycd,U.out,Zgr]) λ j=>?_
     by_cases hj:j<xs.length+1
     .rw[Zbu _ _ _ _ _ hj]
      by_cases D:j=xs.length
      .subst D
       rw[Za0 (by rw[U.out];omega)]
      .rw[Z9 (λ e=>D e.symm)]
       exact HT.out j (by omega)
     .rw[Yh,Yh,Ycq.2 (by rw[Ycd,U.out];omega),Ycq.2 (by rw[Zgr];omega)]
    rw[e] at h';exact h'
   have a7:=Ya z;have a6:addr xs F base xs.length<=most26:=b6;clear z;generalize hak:addr xs F base xs.length=ak at *;have a5:=Ya hak;clear hak;go_wp2_with fail
   refine Zj 11 (by kernel_rfl) (by kernel_rfl) ?_;have hE:=Zk wr;simp only[Yaq,Yaj,Ya1,Ya0]
   repeat (first|go_big_quiet_step (fail))
   refine wpQuiet_nil ?_;intro w1 L;have q:=Zcp L;clear hE L;have M:=hW.below q;obtain⟨s1,s2⟩:=M.at_ (k:=xs.length) (by omega);obtain⟨s,a9⟩:=M.placed xs.length ak rfl;go_wp2_with fail
   go_ret
   exact⟨(r.trans (q.mono (by omega))).trans a9,.inl ⟨rfl,by rw[a5.out];exact a6,a7.out _ s⟩⟩
structure AsSt (w0:World)(n:Nat)(w:World)(f a m:Option Nat):Prop where
 bel:Below w0.heap.size w0 w
 rowF:∀g,f=some g->w0.heap.size<=g/\w.ownsRow w0.heap.size 3 1 (.slice (some ⟨g,0,none⟩) n n) n (Y6 n (Yu .i64 0))
 rowA:∀g,a=some g->w0.heap.size<=g/\w.ownsRow w0.heap.size 3 1 (.slice (some ⟨g,0,none⟩) (n+1) (n+1)) (n+1) (Y6 (n+1) (Yu .i64 0))
 labs:∀g,m=some g->w0.heap.size<=g/\MapS w g 0 (λ _=>none)
 far:∀g h,f=some g->a=some h->g≠h
theorem AsSt.start (w0 w:World)(n:Nat)(a:Below w0.heap.size w0 w):AsSt w0 n w none none none :=
 ⟨a,λ _ h=>(by cases h),λ _ h=>(by cases h),λ _ h=>(by cases h),λ _ _ h=>(by cases h)⟩
theorem AsSt.more {w0 w w':World}{n:Nat}{f a m:Option Nat}(h:AsSt w0 n w f a m)(b:Below w.heap.size w w'):AsSt w0 n w' f a m :=
 ⟨h.bel.trans (b.mono h.bel.size),λ g e=>⟨(h.rowF g e).1,Zc (h.rowF g e).2 b⟩,λ g e=>⟨(h.rowA g e).1,Zc (h.rowA g e).2 b⟩,λ g e=>⟨(h.labs g e).1,(h.labs g e).2.below b⟩,h.far⟩
theorem Znn (w:World)(B n:Nat)(f:B<=w.heap.size)(hn:n<=1048577) :
 ∃w',(Instr.makeSlice 69 (.int .i64 n) (.int .i64 n)).run prog w=.ok (.slice (some ⟨w.heap.size,0,none⟩) n n) w' /\
  w'.ownsRow B 3 1 (.slice (some ⟨w.heap.size,0,none⟩) n n) n (Y6 n (Yu .i64 0))/\Below w.heap.size w w':=by
 obtain⟨i,hi,d,a,c⟩:=info_parts Zlo;obtain⟨w',b,e,g⟩:=run_make_full (P:=prog) w B 69 3 i _ 1 underlying69 hi d a .i64 .i64 n (by rw[c];omega) (by simp only[maxLen];omega) f;refine⟨w',b,?_,(Yj _ _).grown g (Yc _) (by simp)⟩;rw[Nat.mul_one] at e
 simpa[Value.cells,toList_madeCells_one] using e
theorem AsSt.makeF {w0 w:World}{n:Nat}{a m:Option Nat}(h:AsSt w0 n w none a m)(hn:n<=1048576) :
 ∃w',(Instr.makeSlice 69 (.int .i64 n) (.int .i64 n)).run prog w=.ok (.slice (some ⟨w.heap.size,0,none⟩) n n) w'/\AsSt w0 n w' (some w.heap.size) a m:=by
 obtain⟨w',b,d,c⟩:=Znn w w0.heap.size n h.bel.size (by omega);have hm:=h.more c;refine⟨w',b,hm.bel,?_,hm.rowA,hm.labs,?_⟩
 .rintro g ⟨⟩
  exact⟨h.bel.size,d⟩
 .rintro g k ⟨⟩ hk e
  have:=((h.rowA k hk).2.lt k rfl).2;omega
theorem AsSt.makeA {w0 w:World}{n:Nat}{f m:Option Nat}(h:AsSt w0 n w f none m)(hn:n<=1048576) :
 ∃w',(Instr.makeSlice 69 (.int .i64 ((n:Int)+1)) (.int .i64 ((n:Int)+1))).run prog w=.ok (.slice (some ⟨w.heap.size,0,none⟩) (n+1) (n+1)) w'/\AsSt w0 n w' f (some w.heap.size) m:=by
 obtain⟨w',a,c,b⟩:=Znn w w0.heap.size (n+1) h.bel.size (by omega);have hm:=h.more b;refine⟨w',by simpa using a,hm.bel,hm.rowF,?_,hm.labs,?_⟩
 .rintro g ⟨⟩
  exact⟨h.bel.size,c⟩
 .rintro g k hg ⟨⟩ e
  have:=((h.rowF g hg).2.lt g rfl).2;omega
theorem AsSt.makeM {w0 w:World}{n:Nat}{f a:Option Nat}(h:AsSt w0 n w f a none) :
 ∃w',(Instr.makeMap 199 none).run prog w=.ok (.map (some w.heap.size)) w'/\AsSt w0 n w' f a (some w.heap.size):=by
 have hm:=h.more (w':=w.alloc (.map #[] 0)) ((Yj _ _).alloc (Yc _) _);refine⟨_,rfl,hm.bel,hm.rowF,hm.rowA,?_,hm.far⟩;rintro g ⟨⟩;exact⟨h.bel.size,MapS.made w⟩
theorem AsSt.work {w0 w:World}{A:Option Addr}{c:Nat}{xs:List S.Item}{base:Int}{b a m:Nat}(h:AsSt w0 xs.length w (some b) (some a) (some m)) :
 ∃g,w.heap.size=g/\Work (w.alloc (.cells #[.slice A xs.length c,.int .i64 base,.slice (some ⟨b,0,none⟩) xs.length xs.length,.slice (some ⟨a,0,none⟩) (xs.length+1) (xs.length+1),.map (some m)] 206))
  w0.heap.size g b a m 0 A c xs base (Y6 xs.length 0) (Y6 (xs.length+1) 0) (λ _=>none)/\Below w0.heap.size w0 (w.alloc (.cells #[.slice A xs.length c,.int .i64 base,.slice (some ⟨b,0,none⟩) xs.length xs.length,.slice (some ⟨a,0,none⟩) (xs.length+1) (xs.length+1),.map (some m)] 206)):=by
 have d:Below w.heap.size w (w.alloc (.cells #[.slice A xs.length c,.int .i64 base,.slice (some ⟨b,0,none⟩) xs.length xs.length,.slice (some ⟨a,0,none⟩) (xs.length+1) (xs.length+1),.map (some m)] 206)):=(Yj _ _).alloc (Yc _) _;have hm:=h.more d;refine⟨_,rfl,⟨?_,?_,?_,(hm.labs m rfl).2,h.bel.size,(hm.rowF b rfl).1,(hm.rowA a rfl).1,(hm.labs m rfl).1,h.far b a rfl rfl⟩,hm.bel⟩
 .exact heap_alloc_new _ _
 .rw[Ydj];exact(hm.rowF b rfl).2
 .rw[Ydj];exact(hm.rowA a rfl).2
theorem Z6 {P:Program}{ops:Array Oper}{o:Oper}{a:Act}{w w':World}{v:Value}{K:Act->World->Prop}{Q:Exit->Act->World->Prop}{E:Prop}
 (hg:o.guard=none) (d:Option Tmp) (hd:o.dst=d) (b:(execOp a.eval o).run P w=.ok (.value v) w') (e:K (a.put d v) w'):if Yak o (yielded ops a.tmps)=true then Oper.wp P o a w K Q else E:=by
 have c:Yak o (yielded ops a.tmps)=true:=by simp[Yak,hg]
 rw[if_pos c];subst hd;unfold Oper.wp;rw[b];exact e
theorem Zcd {P:Program}{md:Region.Mode}{ops:Array Oper}{Q:Exit->Act->World->Prop}{f:Nat}{l:Array Bool}{a:Act}{w:World}(h:∀a0,a0=a->wpAny P md ops Q f l a0 w):wpAny P md ops Q f l a w:=h a rfl
theorem Zkt {P:Program}{ops:Array Oper}{o:Oper}{a:Act}{w w':World}{v:Value}{K:Act->World->Prop}{Q:Exit->Act->World->Prop}{E:Prop}
 (hg:o.guard=none) (t:TypeId) (x:Operand) (c:o.op=Op.makeSlice t x x) (n:Int) (f:a.eval x=.int .i64 n) (b:(Instr.makeSlice t (.int .i64 n) (.int .i64 n)).run P w=.ok v w') (d:Option Tmp) (hd:o.dst=d) (e:K (a.put d v) w') :
 if Yak o (yielded ops a.tmps)=true then Oper.wp P o a w K Q else E:=by
 have g:Yak o (yielded ops a.tmps)=true:=by simp[Yak,hg]
 rw[if_pos g];subst hd;unfold Oper.wp;simp[execOp,c,f,b,Result.andThen];exact e
theorem Zy6 {P:Program}{ops:Array Oper}{o:Oper}{a:Act}{w w':World}{v:Value}{K:Act->World->Prop}{Q:Exit->Act->World->Prop}{E:Prop}
 (hg:o.guard=none) (t:TypeId) (c:o.op=Op.makeMap t none) (b:(Instr.makeMap t none).run P w=.ok v w') (d:Option Tmp) (hd:o.dst=d) (f:K (a.put d v) w') :
 if Yak o (yielded ops a.tmps)=true then Oper.wp P o a w K Q else E:=by
 have e:Yak o (yielded ops a.tmps)=true:=by simp[Yak,hg]
 rw[if_pos e];subst hd;unfold Oper.wp;simp[execOp,c,b,Result.andThen];exact f
theorem Zc5 {ops:Array Oper}{o:Oper}{a:Act}{w0 w:World}{n:Nat}{c fm:Option Nat}{K:Act->World->Prop}{Q:Exit->Act->World->Prop}{E:Prop}(h:AsSt w0 n w none c fm)(g:n<=1048576)
 (hg:o.guard=none) (x:Operand) (b:o.op=Op.makeSlice 69 x x) (f:a.eval x=.int .i64 n) (d:Option Tmp) (hd:o.dst=d)
 (e:∀w',AsSt w0 n w' (some w.heap.size) c fm->K (a.put d (.slice (some ⟨w.heap.size,0,none⟩) n n)) w'):if Yak o (yielded ops a.tmps)=true then Oper.wp prog o a w K Q else E:=by
 obtain⟨w',r,i⟩:=h.makeF g;exact Zkt hg _ x b n f r d hd (e w' i)
theorem Zc6 {ops:Array Oper}{o:Oper}{a:Act}{w0 w:World}{n:Nat}{c fm:Option Nat}{K:Act->World->Prop}{Q:Exit->Act->World->Prop}{E:Prop}(h:AsSt w0 n w c none fm)(g:n<=1048576)
 (hg:o.guard=none) (x:Operand) (b:o.op=Op.makeSlice 69 x x) (f:a.eval x=.int .i64 ((n:Int)+1)) (d:Option Tmp) (hd:o.dst=d)
 (e:∀w',AsSt w0 n w' c (some w.heap.size) fm->K (a.put d (.slice (some ⟨w.heap.size,0,none⟩) (n+1) (n+1))) w'):if Yak o (yielded ops a.tmps)=true then Oper.wp prog o a w K Q else E:=by
 obtain⟨w',r,i⟩:=h.makeA g;exact Zkt hg _ x b _ f r d hd (e w' i)
theorem Zc7 {ops:Array Oper}{o:Oper}{a:Act}{w0 w:World}{n:Nat}{e c:Option Nat}{K:Act->World->Prop}{Q:Exit->Act->World->Prop}{E:Prop}(h:AsSt w0 n w e c none)
 (hg:o.guard=none) (b:o.op=Op.makeMap 199 none) (d:Option Tmp) (hd:o.dst=d)
 (f:∀w',AsSt w0 n w' e c (some w.heap.size)->K (a.put d (.map (some w.heap.size))) w'):if Yak o (yielded ops a.tmps)=true then Oper.wp prog o a w K Q else E:=by
 obtain⟨w',r,g⟩:=h.makeM;exact Zy6 hg _ b r d hd (f w' g)
namespace S
def isU (c:Int):Bool:=decide (0<=c) && decide (c<=1114111) && (decide (c<55296) || decide (c>57343))
def bytesU (c:Int):List Int :=
 if c<128 then [c]
 else if c<2048 then [192+c/64,128+c%64]
 else if c<65536 then [224+c/4096,128+c/64%64,128+c%64]
 else [240+c/262144,128+c/4096%64,128+c/64%64,128+c%64]
def fstU (n:Nat)(f:Int):Int:=if n=2 then f%32 else if n=3 then f%16 else if n=4 then f%8 else f
def foldU (n:Int)(l:List Int):Int:=l.foldl (λ n x=>64*n+x%64) n
def toldU (l:List Int):Int:=foldU (fstU l.length (l.getD 0 0)) l.tail
def tryU (l:List Int)(n:Nat):Bool:=decide (n<=l.length) && isU (toldU (l.take n)) && decide (bytesU (toldU (l.take n))=l.take n)
def getU (l:List Int):Option (Int×Nat) :=
 if tryU l 1=true then some (toldU (l.take 1),1) else if tryU l 2=true then some (toldU (l.take 2),2)
 else if tryU l 3=true then some (toldU (l.take 3),3) else if tryU l 4=true then some (toldU (l.take 4),4) else none
def allU:Nat->List Int->Option (List Int)
 | _,[]=>some []
 | 0,_::_=>none
 | f+1,x::l=>match getU (x::l) with
  | some y=>match allU f ((x::l).drop y.2) with
   | some r=>some (y.1::r)
   | none=>none
  | none=>none
def codesU (l:List Int):Option (List Int):=allU l.length l
def wordU (c:Int):Int:=16*c+2
def charsU (l:List Int):List Int:=match codesU l with
 | some r=>r.map wordU
 | none=>[]
end S
theorem Zfx {l:List Int}{c:Int}{n:Nat}(h:S.getU l=some (c,n)):1<=n/\n<=4/\n<=l.length/\S.isU c=true/\S.bytesU c=l.take n:=by
 have a:∀n:Nat,S.tryU l n=true->n<=l.length/\S.isU (S.toldU (l.take n))=true/\S.bytesU (S.toldU (l.take n))=l.take n:=λ n h=>by
  unfold S.tryU at h;simp only[Bool.and_eq_true,decide_eq_true_eq] at h;exact⟨h.1.1,h.1.2,h.2⟩
 unfold S.getU at h
 repeat' split at h
 .cases h;exact⟨by decide,by decide,a _ (by assumption)⟩
 .cases h;exact⟨by decide,by decide,a _ (by assumption)⟩
 .cases h;exact⟨by decide,by decide,a _ (by assumption)⟩
 .cases h;exact⟨by decide,by decide,a _ (by assumption)⟩
 .cases h
theorem Zbk:∀(f:Nat)(l r:List Int),S.allU f l=some r->l=r.flatMap S.bytesU/\(∀c∈r,S.isU c=true)/\r.length<=l.length
 | _,[],r,h=>by
  unfold S.allU at h
  cases h
  exact⟨rfl,λ c b=>(by cases b),by simp⟩
 | 0,x::l,r,h=>by
  unfold S.allU at h
  cases h
 | f+1,x::l,r,h=>by
  unfold S.allU at h
  split at h
  .rename_i y hy
   obtain⟨c,n⟩:=y
   split at h
   .rename_i q hq
    cases h
    obtain⟨g1,g2,g3,i,e⟩:=Zfx hy;obtain⟨g,k2,a⟩:=Zbk f _ _ hq;refine⟨?_,λ d hd=>?_,?_⟩
    .rw[List.flatMap_cons,<- g]
     show _=S.bytesU c++_
     rw[e,List.take_append_drop]
    .rcases List.mem_cons.1 hd with rfl|hd
     .exact i
     .exact k2 d hd
    .rw[List.length_drop] at a
     rw[Yk];simp only at a;omega
   .cases h
  .cases h
theorem Zsh {a b r:List Int}(d:S.codesU a=some r)(c:S.codesU b=some r):a=b :=
 (Zbk _ _ _ d).1.trans (Zbk _ _ _ c).1.symm
theorem Zno:∀{a b:List Int},a.map S.wordU=b.map S.wordU->a=b
 | [],[],_=>rfl
 | [],_::_,h=>by cases h
 | _::_,[],h=>by cases h
 | x::a,y::b,h=>by
  rw[Ybr,Ybr,List.cons.injEq] at h;have h1:16*x+2=16*y+2:=h.1;rw[Zno h.2,show x=y by omega]
theorem Zqn {c:Int}(h:S.isU c=true):0<=c/\c<=1114111:=by
 unfold S.isU at h;simp only[Bool.and_eq_true,decide_eq_true_eq] at h;exact h.1
theorem Znp:∀(f g:Nat)(l:List Int),l.length<=f->l.length<=g->S.allU f l=S.allU g l
 | 0,g,[],_,_=>by cases g <;> rfl
 | f+1,g,[],_,_=>by cases g <;> rfl
 | 0,_,x::l,h,_=>by simp at h
 | f+1,0,x::l,_,h=>by simp at h
 | f+1,g+1,x::l,h1,h2=>by
  rw[S.allU,S.allU]
  split
  .rename_i y hy
   obtain⟨c,n⟩:=y;have hg:=Zfx hy;rw[Yk] at h1 h2;rw[Znp f g ((x::l).drop n) (by rw[List.length_drop,Yk];omega) (by rw[List.length_drop,Yk];omega)]
  .rfl
theorem Zi6 {x:Int}{l:List Int}:S.codesU (x::l)=match S.getU (x::l) with
 | some y=>match S.codesU ((x::l).drop y.2) with
  | some r=>some (y.1::r)
  | none=>none
 | none=>none:=by
 unfold S.codesU;rw[Yk,S.allU]
 split
 .rename_i y hy
  obtain⟨c,n⟩:=y;have hg:=Zfx hy;simp only;rw[Znp l.length ((x::l).drop n).length ((x::l).drop n) (by rw[List.length_drop,Yk];omega) (Yc _)]
 .rfl
theorem Znq (l:List Int):∀x∈S.charsU l,0<=x/\x<=17825778/\x%16=2:=λ x a=>by
 unfold S.charsU at a
 split at a
 .rename_i r hr
  obtain⟨c,b,rfl⟩:=List.mem_map.1 a;have:=Zqn ((Zbk _ _ _ hr).2.1 c b);unfold S.wordU;omega
 .cases a
theorem Zku (l:List Int):(S.charsU l).length<=l.length:=by
 unfold S.charsU
 split
 .rename_i r hr
  rw[List.length_map];exact(Zbk _ _ _ hr).2.2
 .simp
