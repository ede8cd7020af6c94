/- Parts. -/
import Derived.Test.YtcjhmiijbojgeaaGreatDoorZAsmN
import Derived.Test.YtcjhmiijbojgeaaGreatDoorZAsmP
import Derived.Test.YtcjhmiijbojgeaaGreatDoorZBXpr
import Derived.Test.YtcjhmiijbojgeaaGreatDoorZMachX
import Derived.JoinedOf
import Derived.JoinedCond
import Derived.KernelRfl
import Derived.Laws.CopyRow
set_option linter.all false
set_option maxHeartbeats 40000000
open Go.Lib renaming hid->Ya
open Nat renaming le_refl->Yc,le_of_lt->Ya5,add_assoc->Ybg
open List renaming length_append->Yd,getElem?_eq_getElem->Ye,mem_cons->Yr,mem_cons_self->Yw,mem_cons_of_mem->Y0,mem_of_getElem?->Y1,cons_append->Y9,map_append->Yba,mem_append_left->Ybh,nodup_cons->Ybs,mem_map->Yb3,getElem_of_mem->Yb9
open Go.RowKit.Below renaming refl->Yj
open Bool renaming and_eq_true->Yq
open Go.Value renaming oneCell'->Yt,int->Yu,ownBlock->Yah
open Go.Result renaming andThen_ok->Y5
open Go.Sem renaming run_bind->Yai,run_pure->Yat
open Go.World renaming ownsRow_nil->Yam
namespace Go.Proofs.YtcjhmiijbojgeaaGreatDoor
open S Go.Proofs.Tryz Go.RowKit
set_option maxRecDepth 100000
section
set_option maxRecDepth 100000
theorem Ze5:joinedFacts Tryz.pinned.checked.prog 3 Tryz.f3 (OpenSpec.ofChange Rows.rtlibSymbolsSpec).bare Rows.rtlibSymbolsRow=true:=by
 unfold joinedFacts;simp only[Yq]
 (repeat' apply And.intro)
 all_goals (as_aux_lemma=>kernel_rfl)
end
theorem Znb {w w':World}{k:Nat}{cs:Array Value}{t:TypeId}{z:Nat×Nat}(h:w.heap[k]?=some (.cells cs t z)){b:Nat}{j:TypeId}{d n':Nat}{n:Value}{i:List Value}(p:w.ownsRow b j d n n' i)(g:t≠j)
 (hg:w.grownBy w' n.ownBlock):w'.heap[k]?=some (.cells cs t z):=by
 rw[hg.block k (Zgs h) ?_,h];intro m;rcases p.2 with⟨rfl,_⟩|⟨q,cap,r,rfl,_,f,_⟩
 .simp[Yah] at m
 .have:k=q:=by simpa[Yah] using m
  subst this;rw[h] at f
  injection f with f
  injection f with _ ht
  exact g ht
theorem Work.other {w w':World}{B g E G m n:Nat}{A:Option Addr}{c:Nat}{xs:List S.Item}{base:Int}{F T:List Int}{f:ByteArray->Option Int}(h:Work w B g E G m n A c xs base F T f)
 {b:Nat} {v:TypeId} {i n':Nat} {u:Value} {C:List Value} (t:w.ownsRow b v i u n' C) (j:3≠v) (r:206≠v) (hg:w.grownBy w' u.ownBlock) :
 Work w' B g E G m n A c xs base F T f:=by
 have k:some g≠u.ownBlock:=by
  intro q;rcases t.2 with⟨rfl,_⟩|⟨y,cap,z,rfl,_,d,_⟩
  .simp[Yah] at q
  .have:g=y:=by simpa[Yah] using q
   subst this;rw[h.blk] at d
   injection d with d
   injection d with _ ht
   exact r ht
 have p:some m≠u.ownBlock:=by
  intro q;obtain⟨D,⟨es,x,hm,_⟩,_⟩:=h.labels;rcases t.2 with⟨rfl,_⟩|⟨y,cap,z,rfl,_,d,_⟩
  .simp[Yah] at q
  .have:m=y:=by simpa[Yah] using q
   subst this;rw[hm] at d
   cases d
 exact⟨(hg.block g (Zgs h.blk) k).trans h.blk,Za3 h.forms t j hg,Za3 h.ats t j hg,h.labels.kept hg p,h.hg,h.hF,h.hA,h.hm,h.ne1⟩
theorem Ziu (w:World){A:Option Addr}{c:Nat}{xs:List S.Item}{base:Int}(h:base<0\/67108864<base) :
 Calls prog 171 #[.slice A xs.length c,.int .i64 base] w (Zez w A c xs base):=by
 have b:FormsRes xs base 2 []:=.inl ⟨by simp,.inl ⟨h,rfl⟩,rfl⟩;have d:=Ya b;clear b;by_cases h0:base<0
 .clear h
  go_enter func171,ntmps171
  go_wp2_with fail
  go_step3
  go_wp2_with fail
  rw[Exit.noGoto_ret]
  go_ret2
  exact⟨Yj _ _,.inl ⟨_,by simp,rfl,d.out⟩⟩
 .have h1:67108864<base:=by omega
  have h2:decide (base<0)=false:=by simpa using h0
  clear h;go_enter func171,ntmps171
  go_wp2_with fail
  go_step3
  go_wp2_with fail
  rw[Exit.noGoto_ret]
  go_ret2
  exact⟨Yj _ _,.inl ⟨_,by simp,rfl,d.out⟩⟩
theorem Zo8 (w:World){A:Option Addr}{c:Nat}{xs:List S.Item}{base:Int}(hi:Items w w.heap.size A xs)(d:xs.length<=1048576)
 (b:∀(k:Nat)(x:S.Item),xs[k]?=some x->x.label.size<=maxLen) :
 Calls prog 171 #[.slice A xs.length c,.int .i64 base] w (Zez w A c xs base):=by
 by_cases h:base<0\/67108864<base
 .exact Ziu w h
 .exact Zjk w hi (by omega) (by omega) d b hi.words
theorem Znc (A:Option Addr)(c:Nat)(xs:List S.Item)(base:Int)(w:World)(hi:Items w w.heap.size A xs)(hl:xs.length<=1048576)(M:∀(k:Nat)(x:S.Item),xs[k]?=some x->x.label.size<=maxLen) :
 Calls prog 92 #[.slice A xs.length c,.int .i64 base] w (Ztv w xs base):=by
 have hw:=Ya hi.words;have W:=Ya M;clear M;go_enter func92,ntmps92
 go_wp2_with fail
 refine(Zo8 w hi hl W.out).mono ?_;rintro e w1 ⟨a8,⟨r,hr,rfl,q⟩|⟨g,gF,gA,m,n,F,hn,rfl,q,d5⟩⟩
 .have hd:=Zb7 hr
  have Hr:=Ya hr;clear hr;go_wp2_with fail
  go_ret3
  refine⟨_,_,r,[],rfl,q,?_,?_,a8⟩
  .rw[if_neg Hr.out];exact Yam _ _ _ _
  .rw[if_neg Hr.out];exact Yam _ _ _ _
 .have hz1:=a8.size
  have e1:CheckRes xs base 0/\S.Inv xs base F/\Stable xs base F/\addr xs F base xs.length<=67108864:=by
   rcases q with⟨h,_⟩|⟨_,h,_⟩|⟨h1,_,h3,h4,h5⟩
   .exact absurd rfl h
   .omega
   .exact⟨h1,h3,h4,h5⟩
  have b6:=Ya q;obtain⟨y,U,b9,b2⟩:=e1;have d1:=Ya y;have hk:=Ya (Zdg (Zia y));obtain⟨e2,f1⟩:=Z07 y;have z:=Ya U.1;clear q y U b9;go_wp2_with fail
  go_loopw [4,5,21] (λ vo vp i wr=>∃k:Nat,k<=xs.length/\i=.int .i64 k/\wr.ownsRow w.heap.size 31 1 vo (outTo xs F base k).length ((outTo xs F base k).map (Yu .u32)) /\
   wr.ownsRow w.heap.size 132 2 vp (placesTo xs F base k).length ((placesTo xs F base k).flatMap Z7) /\
   Work wr w.heap.size g gF gA m n A c xs base F (Zfe xs F base (xs.length+1)) (Zen xs)/\Below w.heap.size w wr) (λ _ _ i _=>xs.length-(intOf i).toNat)
  case atStart=>exact⟨0,by omega,rfl,Yam _ _ _ _,Yam _ _ _ _,d5,a8⟩
  case round =>
   obtain⟨k,e3,rfl,a4,a2,c3,K⟩:=hrel;clear d5;have d4:=K.size;by_cases d3:k<xs.length
   .obtain⟨b,off,x,rfl,hb,hx,hc0,hc1,hc2,hc3,hc4,hc5,hc6,hc7,hw0,hw1⟩:=(hi.below K).at_ d3
    have g0:b<wr.heap.size:=Nat.lt_of_lt_of_le hb d4;have b7:=hk.out x (Y1 hx);have f0:=Zco (base:=base) z.out hw.out (i:=k) (n:=xs.length) e3;have f2:=Zco (base:=base) z.out hw.out (i:=k+1) (n:=xs.length) d3;have g1:=(Zcm (base:=base) z.out hw.out k).1;have c4:=Ya (Zau (base:=base) z.out hk.out hw.out k);have O:placeAt xs F base k=if x.kind=2 then [(x.label,addr xs F base k)] else []:=by simp[placeAt,hx]
    have g2:((outTo xs F base k).length:Int)<=67108864:=by rw[c4.out];omega
    have f6:(wordsAt xs F base k).length<=67108864:=by
     have h9:=Zag (base:=base) z.out hk.out hw.out k;have g3:addr xs F base (k+1)=addr xs F base k+sizeAt xs F k:=rfl;omega
    have X:=Ya O;have f7:=Zb5 xs F base k;have c6:=Ya (Zl9 (x:=x) d1.out hx);have Hx:=Ya hx;have c1:=W.out k x hx;clear O hx;obtain⟨kind,⟨op,d,a,Z,imm⟩,lab,wd⟩:=x;simp only at hc0 hc1 hc2 hc3 hc4 hc5 hc6 hc7 hw0 hw1 b7 c1;generalize hak:addr xs F base k=ak at *;have d9:=Ya hak;clear hak;have J:Below wr.heap.size wr (wr.alloc (.cells #[.int .i64 kind,.int .i64 op,.int .i64 d,.int .i64 a,.int .i64 Z,.int .i64 imm,.string lab,.int .u32 wd] 79)):=(Yj _ _).alloc (Yc _) _;have a6:=c3.below J;have c5:=Zc a4 J;have b1:=Zc a2 J;have G:=K.trans (J.mono d4);have c8:(wr.alloc (.cells #[.int .i64 kind,.int .i64 op,.int .i64 d,.int .i64 a,.int .i64 Z,.int .i64 imm,.string lab,.int .u32 wd] 79)).heap[wr.heap.size]?=some (.cells #[.int .i64 kind,.int .i64 op,.int .i64 d,.int .i64 a,.int .i64 Z,.int .i64 imm,.string lab,.int .u32 wd] 79 (0,0)):=heap_alloc_new _ _;have b4:=Ya c8;clear c8;have hX:∀(j:Nat)(v:Value),(#[Yu .i64 kind,.int .i64 op,.int .i64 d,.int .i64 a,.int .i64 Z,.int .i64 imm,.string lab,.int .u32 wd])[j]?=some v->(wr.alloc (.cells #[.int .i64 kind,.int .i64 op,.int .i64 d,.int .i64 a,.int .i64 Z,.int .i64 imm,.string lab,.int .u32 wd] 79)).cell? ⟨wr.heap.size,j,none⟩=some v:=by
     intro j v hv;rw[<- hv];exact Zac _ _ _ _
    have e7:=hX 0 (.int .i64 kind) rfl;have e5:=hX 6 (.string lab) rfl;have b8:wr.heap.size<(wr.alloc (.cells #[.int .i64 kind,.int .i64 op,.int .i64 d,.int .i64 a,.int .i64 Z,.int .i64 imm,.string lab,.int .u32 wd] 79)).heap.size:=by simp
    clear hX c3 a4 a2 J;go_wp2_with fail
    generalize wr.alloc (.cells #[.int .i64 kind,.int .i64 op,.int .i64 d,.int .i64 a,.int .i64 Z,.int .i64 imm,.string lab,.int .u32 wd] 79)=wX at *;have Y:=G.size;refine(Zs8 wX a6 (hi.below G) Y k _ Hx.out z.out c6.out c1 hl e2 b2 b7 hw.out).mono ?_;rintro e w2 ⟨vw,rfl,a0,u⟩;obtain⟨Aw,cw,rfl⟩:=Za a0;have f9:=u.size;have T:=G.trans (u.mono Y);have t:=Zc c5 u;have c0:=Zc b1 u;have b3:=a6.below u;have a9:=Reads.of_own a0;have d0:Aw=none->(wordsAt xs F base k).length=0:=Zch a0;have hY:∀j:Nat,w2.cell? ⟨wr.heap.size,j,none⟩=wX.cell? ⟨wr.heap.size,j,none⟩:=λ j=>u.cell (p:=⟨_,j,none⟩) b8
    rw[<- hY] at e7 e5;have e9:wr.heap.size<w2.heap.size:=by omega
    have c9:=Ya ((u.block _ b8).trans b4.out);clear hY a6 c5 b1 c6 b4;by_cases c2:kind=2
    .have d2:=Zvf c2
     have C2:=Ya c2;clear c2;go_wp2_with (at_builtin;refine Zbf rfl (.tmp 26) (.tmp 29) _ rfl w.heap.size 31 Zcu underlying28 rfl _ _ _ rfl t _ Aw _ cw ((wordsAt xs F base k).map (Yu .u32)) rfl (by simp) d0 a9 (by simp[Yt]) (by simp only[maxLen];omega) (by omega) (by omega) ?_;intro e0 w3 a3 f a7 b5;have a1:=Za3 c0 t (by decide) f;have C:=b3.other t (by decide) (by decide) f;have E:=T.trans a7;have e6:=f.size;have D:=Znb c9.out t (by decide) f;have b0:w3.cell? ⟨wr.heap.size,0,none⟩=some (.int .i64 kind):=Zd9 D 0;have f3:w3.cell? ⟨wr.heap.size,6,none⟩=some (.string lab):=Zd9 D 6;clear D;obtain⟨p0,p1,p2,p3,p4⟩:=C.cells;obtain⟨q1,q2⟩:=C.at_ (k:=k) (by omega);rw[Zbu xs F base _ k (by omega),d9.out] at q1;obtain⟨r1,r2,r3,r4⟩:=C.lts;have f5:wr.heap.size<w3.heap.size:=by omega)
     have hE:=Zk w3;refine Za2 11 1 [0,1,2,3,4,5,6,7,8,9,10] (by kernel_rfl) (by kernel_rfl) (λ _ _ _ _ _ h=>h) ?_
     repeat (first
      | (refine Zh4 rfl ?_;go_big_quiet_step (fail)))
     refine wpQuiet_nil ?_;rintro _ ⟨⟨w4,L⟩,rfl⟩;simp only[List.drop_succ_cons,List.drop_zero];clear hE p0 p1 p2 p3 p4 q1 q2;have e8:=Zc a3 L;have a5:=Zc a1 L;have d8:=C.below L;have V:=E.trans (L.mono (by omega));have e4:=V.size;go_wp2_with (at_builtin;refine Zl rfl (.tmp 34) (.tmp 45) _ rfl w.heap.size 132 Zrc underlying33 rfl (by decide) #[.string lab,.int .i64 ak] _ _ _ rfl a5 rfl rfl rfl (by simp[Yt]) (by simp only[maxLen];omega) (by omega) e4 ?_;intro f8 w5 d7 c7 d6 f4)
     go_roundw
     case rel =>
      refine⟨k+1,by omega,by go_num,?_,?_,d8.other a5 (by decide) (by decide) c7,V.trans d6⟩
      .rw[outTo,Yd,Yba]
       exact Za3 e8 a5 (by decide) c7
      .have e:placeAt xs F base k=[(lab,ak)]:=by rw[X.out];simp[C2.out]
       rw[placesTo,e,Yd,List.flatMap_append]
       simpa[Z7] using d7
     case measure=>simp[intOf];omega
    .have d2:=Zb7 c2
     have C2:=Ya c2;clear c2;go_wp2_with (at_builtin;refine Zbf rfl (.tmp 26) (.tmp 29) _ rfl w.heap.size 31 Zcu underlying28 rfl _ _ _ rfl t _ Aw _ cw ((wordsAt xs F base k).map (Yu .u32)) rfl (by simp) d0 a9 (by simp[Yt]) (by simp only[maxLen];omega) (by omega) (by omega) ?_;intro e0 w3 a3 f a7 b5;have a1:=Za3 c0 t (by decide) f;have C:=b3.other t (by decide) (by decide) f;have E:=T.trans a7;have e6:=f.size;have D:=Znb c9.out t (by decide) f;have b0:w3.cell? ⟨wr.heap.size,0,none⟩=some (.int .i64 kind):=Zd9 D 0;clear D)
     go_roundw
     case rel =>
      refine⟨k+1,by omega,by go_num,?_,?_,C,E⟩
      .rw[outTo,Yd,Yba]
       exact a3
      .have e:placeAt xs F base k=[]:=by rw[X.out];simp[C2.out]
       rw[placesTo,e,List.append_nil];exact a1
     case measure=>simp[intOf];omega
   .have hkn:k=xs.length:=by omega
    subst hkn;go_wp2_with fail
    go_ret3
    exact⟨_,_,0,F,rfl,b6.out,a4,a2,K⟩
theorem Ziv {xs:List S.Item}{base:Int}{F:List Int}(h:FormsRes xs base 0 F)(g:∀x∈xs,0<=x.word/\x.word<=4294967295):(outTo xs F base xs.length).length<=67108864:=by
 rcases h with⟨h,_⟩|⟨_,h,_⟩|⟨b,_,d,h4,f⟩
 .exact absurd rfl h
 .omega
 .have h6:=Zau (base:=base) d.1 (Zdg (Zia b)) g xs.length
  have h7:0<=base:=by
   rcases b with⟨_,h⟩|⟨h,_⟩|⟨h,_⟩|⟨h,_⟩|⟨h,_⟩
   .omega
   all_goals exact h
  have h8:addr xs F base xs.length<=67108864:=f;omega
theorem Znd {w:World}{B:Nat}{A:Option Addr}{os:List S.Obj}(hi:Objs w B A os):∀x∈joined os,0<=x.word/\x.word<=4294967295:=by
 intro x d;obtain⟨o,i,d⟩:=List.mem_flatMap.1 d;obtain⟨y,j,rfl⟩:=Yb3.1 d;obtain⟨k,g,rfl⟩:=Yb9 i;obtain⟨b,off,o',_,_,f,_,⟨A',c',_,h⟩,_,_⟩:=hi.at_ g;rw[Ye g] at f
 cases f
 exact h.words y j
theorem Zlr {os:List S.Obj}(hsz:∀(k:Nat)(o:S.Obj),os[k]?=some o->∀x∈o.items,o.name.size+x.label.size<=9223372036854775807):∀x∈joined os,x.label.size<=maxLen:=by
 intro x b;obtain⟨o,f,b⟩:=List.mem_flatMap.1 b;obtain⟨y,g,rfl⟩:=Yb3.1 b;obtain⟨k,d,rfl⟩:=Yb9 f;have h1:=hsz k _ (Ye d) y g;have h2:=Zri os[k].name y.label
 show(owned os[k].name y.label).size<=maxLen
 unfold maxLen;omega
def Ziw (os:List S.Obj)(base r:Int)(L:List Int)(P:List (ByteArray×Int)):Prop :=
 (r≠0/\NamesRes os r/\L=[]/\P=[]) \/
 (NamesRes os 0/\∃F,FormsRes (joined os) base r F/\L=(if r=0 then outTo (joined os) F base (joined os).length else [])/\P=(if r=0 then placesTo (joined os) F base (joined os).length else []))
def Z47 (os:List S.Obj)(base:Int)(w:World)(e:Ending)(w':World):Prop :=
 ∃vo vp r L P,e=.returned (.tuple #[.agg #[vo,vp],.int .i64 r])/\Ziw os base r L P /\
  w'.ownsRow w.heap.size 31 1 vo L.length (L.map (Yu .u32))/\w'.ownsRow w.heap.size 132 2 vp P.length (P.flatMap Z7)/\Below w.heap.size w w'
theorem Zvo (A:Option Addr)(c:Nat)(os:List S.Obj)(base:Int)(w:World)(hi:Objs w w.heap.size A os)(hl:os.length<=1048576)(ht:(joined os).length<=1048576)
 (hsz:∀(k:Nat)(o:S.Obj),os[k]?=some o->∀x∈o.items,o.name.size+x.label.size<=9223372036854775807) :
 Calls prog 53 #[.slice A os.length c,.int .i64 base] w (Z47 os base w):=by
 have T:=Ya hsz;clear hsz;go_enter func53,ntmps53
 go_wp2_with fail
 refine(Zna _ _ _ _ ((hi.below ((Yj _ _).alloc (Yc _) _)).more (by simp)) hl).mono ?_;rintro e w1 ⟨r0,rfl,U,m⟩;have E:=Ya U;clear U;obtain⟨z,a6⟩:=Zh9 m;have X:=m.size;simp at X;have O:w.heap.size<w1.heap.size:=by omega
 have u:=Below.trans ((Yj w.heap.size w).alloc (Yc _) _) (m.mono (by simp));have f:=Ya u;clear u m;by_cases n:r0=0
 .subst n
  go_wp2_with fail
  refine(Zog _ _ _ _ ((hi.below f.out).more (by omega)) hl ht T.out).mono ?_;rintro e W ⟨v2,rfl,G,g⟩;obtain⟨A2,c2,rfl⟩:=Za G;have C:∀x∈joined os,0<=x.word/\x.word<=4294967295:=Znd hi;have V:∀(k:Nat)(x:S.Item),(joined os)[k]?=some x->x.label.size<=maxLen:=λ k x hx=>Zlr T.out x (Y1 hx)
  have a4:=g.size;have d:=f.out.trans (g.mono (by omega));have a3:=Ya d;go_wp2_with fail
  refine(Znc _ _ _ _ _ (Items.of_own G C) ht V).mono ?_;rintro e w3 ⟨vo,vp,r,F,rfl,j,Y,hp,i⟩;have a7:=i.size;have t:=d.trans (i.mono (by omega));have y:=Ya t;obtain⟨Ao,co,rfl⟩:=Za Y;obtain⟨Ap,cp,rfl⟩:=Za hp;have q:=Ya j;have b:w.heap.size<W.heap.size:=by omega
  have Ho:=Ya Y;have Hp:=Ya hp;have L:∀o,w3.cell? ⟨w.heap.size,o,none⟩=w1.cell? ⟨w.heap.size,o,none⟩:=λ o =>
   (i.cell (p:=⟨w.heap.size,o,none⟩) (show w.heap.size<W.heap.size by omega)).trans (g.cell (p:=⟨w.heap.size,o,none⟩) O)
  have a5:∀o,w3.frozen? ⟨w.heap.size,o,none⟩=w1.frozen? ⟨w.heap.size,o,none⟩:=λ o =>
   (i.frozen (p:=⟨w.heap.size,o,none⟩) (show w.heap.size<W.heap.size by omega)).trans (g.frozen (p:=⟨w.heap.size,o,none⟩) O)
  have M:r=0->(outTo (joined os) F base (joined os).length).length<=67108864:=λ h=>by
   subst h;exact Ziv j C
  have a0:=Ya M;clear G C V g d j Y hp i t M;by_cases n:r=0
  .subst n
   have a2:=a0.out rfl;have J:=Ho.out;have D:=Hp.out;simp only[if_true] at J D;have Z:=Ya J;have a1:=Ya D;clear J D;simp only[if_true];go_wp2_with fail
   refine bodyPost_ret (v:=.tuple #[.agg #[.slice Ao (outTo (joined os) F base (joined os).length).length co,.slice Ap (placesTo (joined os) F base (joined os).length).length cp],.int .i64 0]) (by simp[results,results53,go_sem,z,L,O]) rfl ⟨_,_,0,_,_,rfl,.inr ⟨E.out,F,q.out,rfl,rfl⟩,?_,?_,?_⟩
   .exact Zo (ownsRow_setCell_below (ownsRow_setCell_below Z.out (a:=⟨w.heap.size,0,none⟩) b _) (a:=⟨w.heap.size,1,none⟩) b _) (Ya5 b)
   .exact Zo (ownsRow_setCell_below (ownsRow_setCell_below a1.out (a:=⟨w.heap.size,0,none⟩) b _) (a:=⟨w.heap.size,1,none⟩) b _) (Ya5 b)
   .exact(y.out.setCell (p:=⟨w.heap.size,0,none⟩) (Yc _) _).setCell (p:=⟨w.heap.size,1,none⟩) (Yc _) _
  .have hd:=Zb7 n
   have K:=Ya n;clear n;rw[if_neg K.out,if_neg K.out];go_wp2_with fail
   refine bodyPost_ret (v:=.tuple #[.agg #[.slice none 0 0,.slice none 0 0],.int .i64 r]) (by simp[results,results53,go_sem,z,L,O]) rfl ⟨_,_,r,[],[],rfl,.inr ⟨E.out,F,q.out,by rw[if_neg K.out],by rw[if_neg K.out]⟩,Yam _ _ _ _,Yam _ _ _ _,?_⟩;exact(y.out.setCell (p:=⟨w.heap.size,0,none⟩) (Yc _) _).setCell (p:=⟨w.heap.size,1,none⟩) (Yc _) _
 .have hd:=Zb7 n
  have K:=Ya n;clear n;go_wp2_with fail
  refine bodyPost_ret (v:=.tuple #[.agg #[.slice none 0 0,.slice none 0 0],.int .i64 r0]) (by simp[results,results53,go_sem,z,O]) rfl ⟨_,_,r0,[],[],rfl,.inl ⟨K.out,E.out,rfl,rfl⟩,Yam _ _ _ _,Yam _ _ _ _,?_⟩;exact(f.out.setCell (p:=⟨w.heap.size,0,none⟩) (Yc _) _).setCell (p:=⟨w.heap.size,1,none⟩) (Yc _) _
namespace S
def Z0s:ByteArray:=⟨#[115,116,97,114,116]⟩
def Z48:ByteArray:=⟨#[97,102,116,101,114]⟩
def bW (w:Int):Item:=⟨6,⟨0,0,0,0,0⟩,bNo,w⟩
def viewOf (m:Mach):Vw:=⟨m.rd,m.mv,m.input,m.out⟩
end S
section
namespace S
def eC (n:Int):BE:=.mk 1 n bNo []
def eL (n:Int):BE:=.mk 2 n bNo []
def eR (n:Int):BE:=.mk 3 n bNo []
def eB (op:Int)(a b:BE):BE:=.mk 4 op bNo [a,b]
def eM (a:BE)(n:Int):BE:=.mk 5 n bNo [a]
def eF (name:ByteArray)(l:List BE):BE:=.mk 6 0 name l
def eQ (a b:BE):BE:=.mk 7 0 bNo [a,b]
def eI:BE:=.mk 8 0 bNo []
def eA (name:ByteArray):BE:=.mk 9 0 name []
def eK:BE:=.mk 10 0 bNo []
def sAs (n:Int)(e:BE):BS:=.mk 1 n bNo [e] [] [] []
def sPut (a:BE)(n:Int)(e:BE):BS:=.mk 2 n bNo [a,e] [] [] []
def sIf (e:BE)(b l:List BS):BS:=.mk 3 0 bNo [e] [] b l
def sWh (e:BE)(b:List BS):BS:=.mk 4 0 bNo [e] [] b []
def sRet (regs:List Int)(l:List BE):BS:=.mk 5 0 bNo l regs [] []
def sDo (e:BE):BS:=.mk 6 0 bNo [e] [] [] []
def Z86 (e:BE):BS:=.mk 7 0 bNo [e] [] [] []
def sHlt (e:BE):BS:=.mk 8 0 bNo [e] [] [] []
def sSet (n:Int)(e:BE):BS:=.mk 9 n bNo [e] [] [] []
def Z87 (name:ByteArray):BS:=.mk 10 0 name [] [] [] []
def sGo (e:BE):BS:=.mk 11 0 bNo [e] [] [] []
def sBk (e:BE):BS:=sRet [4] [e]
end S
section
variable {I:S.Img}{dep lk:Int}{env:List Int}{at_:Nat}{st:S.Vw}{c:Nat}{Q:Int->S.Vw->Nat->Prop}{H:Int->S.Vw->Nat->Prop}
theorem Zfs (op n:Int)(nm:ByteArray)(l:List S.BE):wpE I dep lk env (.mk op n nm l) at_ st c Q H=wpEs I dep lk env l at_ st c (λ vs b c1=>S.wpOp I dep lk op n nm at_ env vs b c1 Q H) H:=by rw[wpE]
theorem Z49 (n:Int):wpE I dep lk env (S.eC n) at_ st c Q H=Q (n%4294967296) st (c+2):=by
 rw[S.eC,Zfs,wpEs,S.wpOp,if_pos rfl]
theorem Z7i (n:Int):wpE I dep lk env (S.eL n) at_ st c Q H=Q (env.getD n.toNat 0) st (c+1):=by
 rw[S.eL,Zfs,wpEs,S.wpOp,if_neg (by decide),if_pos rfl]
theorem Z7j (n:Int):wpE I dep lk env (S.eR n) at_ st c Q H=Q (st.reg n) st (c+1):=by
 rw[S.eR,Zfs,wpEs,S.wpOp,if_neg (by decide),if_neg (by decide),if_pos rfl]
theorem Z7k (op:Int)(a b:S.BE):wpE I dep lk env (S.eB op a b) at_ st c Q H =
 wpE I dep lk env a at_ st c (λ v d c1=>wpE I dep lk env b (at_+1) d c1 (λ u f c2=>(u=0->op≠5/\op≠6)/\Q (S.alu op v u) f (c2+1)) H) H:=by
 rw[S.eB,Zfs,wpEs];refine congrArg (λ q=>wpE I dep lk env a at_ st c q H) (funext λ v=>funext λ d=>funext λ c1=>?_);rw[wpEs];refine congrArg (λ q=>wpE I dep lk env b (at_+1) d c1 q H) (funext λ u=>funext λ f=>funext λ c2=>?_);rw[wpEs,S.wpOp,if_neg (by decide),if_neg (by decide),if_neg (by decide),if_pos rfl];rfl
theorem Z7l (a:S.BE)(n:Int):wpE I dep lk env (S.eM a n) at_ st c Q H =
 wpE I dep lk env a at_ st c (λ v b c1=>S.u32m (v+n)<I.size/\¬I.stk (S.u32m (v+n))/\Q (b.mem (S.u32m (v+n))) b (c1+1)) H:=by
 rw[S.eM,Zfs,wpEs];refine congrArg (λ q=>wpE I dep lk env a at_ st c q H) (funext λ v=>funext λ b=>funext λ c1=>?_);rw[wpEs,S.wpOp,if_neg (by decide),if_neg (by decide),if_neg (by decide),if_neg (by decide),if_pos rfl];rfl
def S.bn (I:S.Img)(dep:Int)(name:ByteArray)(at_:Nat)(vs:List Int)(st:S.Vw)(c:Nat)(Q H:Int->S.Vw->Nat->Prop):Prop :=
 ∃d R,Real I name false (st.args vs) d R/\d<=dep/\∀ret o k,R ret o k->(match o with
  | .ret st2=>Q (st2.reg 4) st2 (c+2*at_+vs.length+4+k)
  | .halt code st2=>H code st2 (c+2*at_+vs.length+4+k)
  | .left _ _=>False)
theorem Zrz (nm:ByteArray)(l:List S.BE):wpE I dep lk env (S.eF nm l) at_ st c Q H=wpEs I dep lk env l at_ st c (λ vs b c1=>bn I dep nm at_ vs b c1 Q H) H:=by
 rw[S.eF,Zfs];refine congrArg (λ q=>wpEs I dep lk env l at_ st c q H) (funext λ v=>funext λ b=>funext λ c1=>?_);rw[S.wpOp,if_neg (by decide),if_neg (by decide),if_neg (by decide),if_neg (by decide),if_neg (by decide),if_pos rfl];rfl
theorem Z5a (nm:ByteArray)(a:S.BE):wpE I dep lk env (S.eF nm [a]) at_ st c Q H=wpE I dep lk env a at_ st c (λ v b c1=>bn I dep nm at_ [v] b c1 Q H) H:=by
 rw[Zrz,wpEs];refine congrArg (λ q=>wpE I dep lk env a at_ st c q H) (funext λ v=>funext λ b=>funext λ c1=>?_);rw[wpEs]
theorem Z7m (a b:S.BE):wpE I dep lk env (S.eQ a b) at_ st c Q H =
 wpE I dep lk env a at_ st c (λ v d c1=>wpE I dep lk env b (at_+1) d c1 (λ u f c2=>Q (if v=u then 1 else 0) f (c2+3)) H) H:=by
 rw[S.eQ,Zfs,wpEs];refine congrArg (λ q=>wpE I dep lk env a at_ st c q H) (funext λ v=>funext λ d=>funext λ c1=>?_);rw[wpEs];refine congrArg (λ q=>wpE I dep lk env b (at_+1) d c1 q H) (funext λ u=>funext λ f=>funext λ c2=>?_);rw[wpEs,S.wpOp,if_neg (by decide),if_neg (by decide),if_neg (by decide),if_neg (by decide),if_neg (by decide),if_neg (by decide),if_pos rfl];rfl
theorem Z7n:wpE I dep lk env S.eK at_ st c Q H=Q lk st (c+1):=by
 rw[S.eK,Zfs,wpEs,S.wpOp,if_neg (by decide),if_neg (by decide),if_neg (by decide),if_neg (by decide),if_neg (by decide),if_neg (by decide),if_neg (by decide),if_neg (by decide),if_neg (by decide),if_pos rfl]
end
section
variable {I:S.Img}{dep lk:Int}{behind:Bool}{env:List Int}{st:S.Vw}{c:Nat}{Q:List Int->S.Vw->Nat->Prop}{R:BO->Nat->Prop}
theorem Zgx {a:S.BE}{at_:Nat}{T:List Int->S.Vw->Nat->Prop}{H:Int->S.Vw->Nat->Prop}:wpEs I dep lk env [a] at_ st c T H=wpE I dep lk env a at_ st c (λ v b c1=>T [v] b c1) H:=by
 rw[wpEs];refine congrArg (λ q=>wpE I dep lk env a at_ st c q H) (funext λ v=>funext λ b=>funext λ c1=>?_);rw[wpEs]
theorem Z5b {a b:S.BE}{at_:Nat}{T:List Int->S.Vw->Nat->Prop}{H:Int->S.Vw->Nat->Prop}:wpEs I dep lk env [a,b] at_ st c T H =
 wpE I dep lk env a at_ st c (λ v d c1=>wpE I dep lk env b (at_+1) d c1 (λ u f c2=>T [v,u] f c2) H) H:=by
 rw[wpEs];refine congrArg (λ q=>wpE I dep lk env a at_ st c q H) (funext λ v=>funext λ d=>funext λ c1=>?_);rw[Zgx]
theorem Z0t:wpSs I dep lk behind [] env st c Q R=Q env st c:=by rw[wpSs]
theorem Zba (s:S.BS)(r:List S.BS):wpSs I dep lk behind (s::r) env st c Q R=wpS I dep lk behind s env st c (λ Z1c b c1=>wpSs I dep lk behind r Z1c b c1 Q R) R:=by rw[wpSs]
theorem Z0u (n:Int)(e:S.BE):wpS I dep lk behind (S.sAs n e) env st c Q R=wpE I dep lk env e 0 st c (λ v b c1=>Q (env.set n.toNat v) b (c1+1)) (λ code st c=>R (.halt code st) c):=by
 rw[S.sAs,wpS,if_neg (by decide),Zgx];refine congrArg (λ q=>wpE I dep lk env e 0 st c q _) (funext λ v=>funext λ b=>funext λ c1=>?_);rw[if_pos rfl];rfl
theorem Zls (a:S.BE)(n:Int)(e:S.BE):wpS I dep lk behind (S.sPut a n e) env st c Q R =
 wpE I dep lk env a 0 st c (λ p b c1=>wpE I dep lk env e 1 b c1 (λ v d c2=>S.u32m (p+n)<I.size/\¬I.stk (S.u32m (p+n))/\¬I.code (S.u32m (p+n))/\Q env (d.sto (S.u32m (p+n)) v) (c2+1)) (λ code st c=>R (.halt code st) c)) (λ code st c=>R (.halt code st) c):=by
 rw[S.sPut,wpS,if_neg (by decide),Z5b];refine congrArg (λ q=>wpE I dep lk env a 0 st c q _) (funext λ p=>funext λ b=>funext λ c1=>?_);refine congrArg (λ q=>wpE I dep lk env e 1 b c1 q _) (funext λ v=>funext λ d=>funext λ c2=>?_);rw[if_neg (by decide),if_pos rfl];rfl
theorem Z0v (e:S.BE)(b l:List S.BS):wpS I dep lk behind (S.sIf e b l) env st c Q R =
 wpE I dep lk env e 0 st c (λ v d c1=>if v=0 then wpSs I dep lk behind l env d (c1+4) Q R else wpSs I dep lk behind b env d (c1+4) (λ Zhs f c2=>Q Zhs f (c2+3)) R) (λ code st c=>R (.halt code st) c):=by
 rw[S.sIf,wpS,if_neg (by decide),Zgx];refine congrArg (λ q=>wpE I dep lk env e 0 st c q _) (funext λ v=>funext λ d=>funext λ c1=>?_);rw[if_neg (by decide),if_neg (by decide),if_pos rfl];rfl
theorem Z0w (e:S.BE)(b:List S.BS):wpS I dep lk behind (S.sWh e b) env st c Q R =
 ∃J:List Int->S.Vw->Nat->Nat->Prop,(∃k,J env st c k)/\∀env st c k,J env st c k ->
  wpE I dep lk env e 0 st c (λ v d c1=>if v=0 then Q env d (c1+4) else wpSs I dep lk behind b env d (c1+4) (λ Zhs f c2=>∃k2,k2<k/\J Zhs f (c2+3) k2) R) (λ code st c=>R (.halt code st) c):=by
 rw[S.sWh,wpS,if_pos rfl];simp only[Zgx];rfl
theorem Z2b (regs:List Int)(l:List S.BE):wpS I dep lk behind (S.sRet regs l) env st c Q R=wpEs I dep lk env l 0 st c (λ vs b c1=>R (.ret (b.regs regs vs)) (c1+regs.length+(if behind=true then 5 else 3))) (λ code st c=>R (.halt code st) c):=by
 rw[S.sRet,wpS,if_neg (by decide)];refine congrArg (λ q=>wpEs I dep lk env l 0 st c q _) (funext λ v=>funext λ b=>funext λ c1=>?_);rw[if_neg (by decide),if_neg (by decide),if_neg (by decide),if_pos rfl]
theorem Zvp (e:S.BE):wpS I dep lk behind (S.sBk e) env st c Q R=wpE I dep lk env e 0 st c (λ v b c1=>R (.ret (b.set 4 v)) (c1+1+(if behind=true then 5 else 3))) (λ code st c=>R (.halt code st) c):=by
 rw[S.sBk,Z2b,Zgx];rfl
theorem Z0x (e:S.BE):wpS I dep lk behind (S.sDo e) env st c Q R=wpE I dep lk env e 0 st c (λ v b c1=>Q env b c1) (λ code st c=>R (.halt code st) c):=by
 rw[S.sDo,wpS,if_neg (by decide),Zgx];refine congrArg (λ q=>wpE I dep lk env e 0 st c q _) (funext λ v=>funext λ b=>funext λ c1=>?_);rw[if_neg (by decide),if_neg (by decide),if_neg (by decide),if_neg (by decide),if_pos rfl]
theorem Z2c (e:S.BE):wpS I dep lk behind (S.sHlt e) env st c Q R=wpE I dep lk env e 0 st c (λ v b c1=>R (.halt v b) (c1+1)) (λ code st c=>R (.halt code st) c):=by
 rw[S.sHlt,wpS,if_neg (by decide),Zgx];refine congrArg (λ q=>wpE I dep lk env e 0 st c q _) (funext λ v=>funext λ b=>funext λ c1=>?_);rw[if_neg (by decide),if_neg (by decide),if_neg (by decide),if_neg (by decide),if_neg (by decide),if_neg (by decide),if_pos rfl];rfl
theorem Zvq (n:Int)(e:S.BE):wpS I dep lk behind (S.sSet n e) env st c Q R=wpE I dep lk env e 0 st c (λ v b c1=>Q env (b.set n v) (c1+1)) (λ code st c=>R (.halt code st) c):=by
 rw[S.sSet,wpS,if_neg (by decide),Zgx];refine congrArg (λ q=>wpE I dep lk env e 0 st c q _) (funext λ v=>funext λ b=>funext λ c1=>?_);rw[if_neg (by decide),if_neg (by decide),if_neg (by decide),if_neg (by decide),if_neg (by decide),if_neg (by decide),if_neg (by decide),if_pos rfl];rfl
end
end
namespace S
def eAdd (a b:BE):BE:=eB 1 a b
def eSub (a b:BE):BE:=eB 2 a b
def eAnd (a b:BE):BE:=eB 7 a b
def eLt (a b:BE):BE:=eB 14 a b
def eShr (a:BE)(n:Int):BE:=eB 11 a (eC n)
def eShl (a:BE)(n:Int):BE:=eB 10 a (eC n)
def eNot (a:BE):BE:=eQ a (eC 0)
def eW (n:Int):BE:=eM (eC n) 0
def eRef (a:BE):BE:=eB 8 (eShl a 2) (eC 1)
def eAdr (a:BE):BE:=eShr a 2
def sKeep (n:Int)(e:BE):BS:=sPut (eC n) 0 e
def sWhen (e:BE)(b:List BS):BS:=sIf e b []
def sVal (e:BE):BS:=sBk e
def isRef (a:BE):BE:=eQ (eAnd a (eC 3)) (eC 1)
def kMove:ByteArray:=⟨#[109,111,118,101]⟩
def kScan:ByteArray:=⟨#[115,99,97,110]⟩
def kFrame:ByteArray:=⟨#[102,114,97,109,101]⟩
def kCollect:ByteArray:=⟨#[99,111,108,108,101,99,116]⟩
def kReserve:ByteArray:=⟨#[114,101,115,101,114,118,101]⟩
def kCons:ByteArray:=⟨#[99,111,110,115]⟩
def Z0y:ByteArray:=⟨#[98,101,103,105,110]⟩
def kStatic:ByteArray:=⟨#[115,116,97,116,105,99]⟩
def kCode:ByteArray:=⟨#[99,111,100,101]⟩
def kStub:ByteArray:=⟨#[115,116,117,98]⟩
def kMapped:ByteArray:=⟨#[109,97,112,112,101,100]⟩
def kMore:ByteArray:=⟨#[109,111,114,101]⟩
def kEnd:ByteArray:=⟨#[101,110,100]⟩
def kHead:ByteArray:=⟨#[104,101,97,100]⟩
def kTail:ByteArray:=⟨#[116,97,105,108]⟩
def kMain:ByteArray:=⟨#[109,97,105,110]⟩
def kF0:ByteArray:=⟨#[102,48]⟩
def kRt (n:Int):ByteArray:=⟨([114,116]++itoa n).toArray⟩
def rMove:BR:=⟨kMove,1,4,false,
 [sWhen (eNot (isRef (eL 0))) [sVal (eL 0)],
  sAs 1 (eAdr (eL 0)),
  sWhen (eNot (eLt (eSub (eL 1) (eW 2)) (eW 4))) [sVal (eL 0)],
  sAs 2 (eM (eL 1) 0),
  sWhen (isRef (eL 2)) [sVal (eL 2)],
  sAs 2 (eShr (eL 2) 5),
  sAs 3 (eC 0),
  sWh (eNot (eLt (eL 2) (eL 3))) [sPut (eAdd (eR 29) (eL 3)) 0 (eM (eAdd (eL 1) (eL 3)) 0),sAs 3 (eAdd (eL 3) (eC 1))],
  sPut (eL 1) 0 (eRef (eR 29)),
  sSet 29 (eAdd (eR 29) (eL 3)),
  sVal (eM (eL 1) 0)]⟩
def bScan:List BS:=[sPut (eL 0) 0 (eF kMove [eM (eL 0) 0]),sAs 0 (eAdd (eL 0) (eC 1))]
def rScan:BR:=⟨kScan,2,2,false,[sWh (eLt (eL 0) (eL 1)) bScan]⟩
def rFrame:BR:=⟨kFrame,1,5,false,
 [sAs 1 (eAdd (eL 0) (eM (eL 0) 0)),
  sAs 2 (eC 32),
  sWh (eLt (eL 0) (eL 1))
   [sAs 0 (eAdd (eL 0) (eC 1)),
    sAs 3 (eM (eL 0) 0),
    sWhen (eQ (eL 2) (eC 1056)) [sAs 2 (eA kMore)],
    sAs 4 (eAdd (eL 2) (eC 32)),
    sWh (eLt (eL 2) (eL 4))
     [sWhen (eAnd (eL 3) (eC 1)) [sDo (eF kScan [eL 2,eAdd (eL 2) (eC 1)])],
      sAs 3 (eShr (eL 3) 1),
      sAs 2 (eAdd (eL 2) (eC 1))]]]⟩
def rCollect:BR:=⟨kCollect,0,1,false,
 [sSet 29 (eW 3),
  sDo (eF kScan [eC 5,eC 6]),
  sDo (eF kScan [eC 16,eAdd (eC 16) (eW 8)]),
  sWhen (eW 6) [sDo (eF kFrame [eW 6])],
  sDo (eF kScan [eC 1312,eA kCode]),
  sAs 0 (eW 3),
  sWh (eLt (eL 0) (eR 29)) bScan,
  sAs 0 (eW 2),
  sKeep 2 (eW 3),
  sKeep 3 (eL 0),
  sSet 26 (eR 29),
  sSet 27 (eAdd (eW 2) (eW 4))]⟩
def eShort:BE:=eLt (eSub (eR 27) (eR 26)) (eL 0)
def rReserve:BR:=⟨kReserve,1,1,false,[sAs 0 (eAdd (eL 0) (eW 7)),sWhen eShort [sDo (eF kCollect []),sWhen eShort [sHlt (eC 255)]]]⟩
def rCons:BR:=⟨kCons,2,2,false,
 [sPut (eR 26) 0 (eC 67),sPut (eR 26) 1 (eL 0),sPut (eR 26) 2 (eL 1),sSet 26 (eAdd (eR 26) (eC 3)),sVal (eRef (eSub (eR 26) (eC 3)))]⟩
def Z5c (n:BE):List BS:=[sKeep 16 (eR 1),sKeep 23 (eR 10),sKeep 17 (eR 4),sKeep 18 (eR 5),sKeep 19 (eR 6),sKeep 20 (eR 7),sKeep 21 (eR 8),sKeep 22 (eR 9),sKeep 6 (eC 0),
 sIf (eLt (eC 6) n) [sKeep 8 (eC 8)] [sKeep 8 (eAdd n (eC 1))]]
def Zqh:List BS:=[sKeep 8 (eC 0),sRet [1,4,5,6,7,8,9,10] [eW 16,eW 17,eW 18,eW 19,eW 20,eW 21,eW 22,eW 23]]
def Z5d:BR:=⟨kRt 100,0,2,false,[sAs 0 (eR 2),sAs 1 (eR 3)]++Z5c (eL 0)++[sDo (eF kReserve [eL 1])]++Zqh⟩
def Z2d (n from_ at_:BE)(atN locl:Int):List BS :=
 [sAs locl (eW 23),sKeep 23 (eRef (eR 26)),
  sWh n [sPut (eR 26) 0 (eC 67),sPut (eR 26) 1 (eM (eAdr from_) 1),sAs locl (eM (eAdr from_) 2),sSet 26 (eAdd (eR 26) (eC 3)),sPut (eSub (eR 26) (eC 3)) 2 (eRef (eR 26)),sAs atN (eSub at_ (eC 1))],
  sPut (eSub (eR 26) (eC 3)) 2 (eC 38)]
def Z7o:BR:=⟨kRt 101,0,5,false,
 [sAs 0 (eR 2),sAs 1 (eR 3),sAs 2 (eL 1)]++Z5c (eL 0) ++
 [sWhen (eLt (eC 6) (eL 2)) [sAs 2 (eC 6)],
  sAs 2 (eSub (eL 0) (eL 2)),
  sDo (eF kReserve [eAdd (eL 2) (eShl (eL 2) 1)]),
  sAs 2 (eC 0),
  sIf (eLt (eC 6) (eL 0)) (sAs 2 (eSub (eL 0) (eC 6))::Z2d (eL 2) (eL 3) (eL 2) 2 3) [sKeep 23 (eC 38)],
  sWhen (eLt (eL 1) (eC 6))
   [sAs 3 (eW 23),sAs 4 (eL 0),sWhen (eLt (eC 6) (eL 4)) [sAs 4 (eC 6)],
    sWh (eLt (eL 1) (eL 4)) [sAs 4 (eSub (eL 4) (eC 1)),sAs 3 (eF kCons [eM (eAdd (eL 4) (eC 17)) 0,eL 3])],
    sPut (eAdd (eL 1) (eC 17)) 0 (eL 3)]]++Zqh⟩
def Z0z (v:BE):BE:=eAnd (eM (eAdr v) 0) (eC 31)
def Z5e (v:BE)(yes no:List BS):BS:=sIf (isRef v) [sIf (eQ (Z0z v) (eC 3)) yes no] no
def Z5f:BR:=⟨kRt 102,0,6,false,
 [sAs 0 (eR 4),sAs 1 (eR 2),sAs 2 (eR 10),sAs 3 (eC 0),sAs 4 (eL 2),
  sWhen (eNot (isRef (eL 0))) [sHlt (eC 6)],
  sWhen (eNot (eQ (Z0z (eL 0)) (eC 11))) [sHlt (eC 6)],
  sAs 5 (eC 1),
  sWh (eL 5) [Z5e (eL 4) [sAs 3 (eAdd (eL 3) (eC 1)),sWhen (eLt (eC 1048576) (eL 3)) [sHlt (eC 3)],sAs 4 (eM (eAdr (eL 4)) 2)] [sAs 5 (eC 0)]],
  sWhen (eNot (eQ (eL 4) (eC 38))) [sHlt (eC 2)],
  sKeep 17 (eR 5),sKeep 18 (eR 6),sKeep 19 (eR 7),sKeep 20 (eR 8),sKeep 21 (eR 9),
  sAs 4 (eL 2),sAs 5 (eL 1),
  sWh (eLt (eL 5) (eC 6)) [Z5e (eL 4) [sPut (eAdd (eL 5) (eC 17)) 0 (eM (eAdr (eL 4)) 1),sAs 4 (eM (eAdr (eL 4)) 2)] [],sAs 5 (eAdd (eL 5) (eC 1))],
  sSet 1 (eL 0),sSet 2 (eAdd (eL 1) (eL 3)),sSet 10 (eL 4),
  sSet 4 (eW 17),sSet 5 (eW 18),sSet 6 (eW 19),sSet 7 (eW 20),sSet 8 (eW 21),sSet 9 (eW 22),
  sGo (eShr (eM (eAdr (eR 1)) 1) 2)]⟩
def Z5g:BR:=⟨Z0y,0,1,false,
 [sKeep 4 (eShr (eW 1) 1),sKeep 2 (eA kEnd),sKeep 3 (eAdd (eW 2) (eW 4)),sKeep 6 (eC 0),sKeep 8 (eC 0),sAs 0 (eC 1312),
  sWh (eLt (eL 0) (eA kStatic)) [sPut (eL 0) 0 (eC 70),sAs 0 (eAdd (eL 0) (eC 1))],
  sSet 26 (eW 2),sSet 27 (eW 3),sSet 1 (eC 0),sSet 2 (eC 0),Z87 kF0]⟩
def Zyw (n code:Int):BR:=⟨kRt n,0,0,false,[sHlt (eC code)]⟩
def Z5h:Obj:=⟨Z0s,[bL Z0s,bI 15 28 0 0 1056,bA 25 Z0y,bI 33 0 25 0 0]⟩
def oMain:Obj:=⟨kMain,[bL kF0,bI 15 4 0 0 9,bI 36 0 4 0 0]⟩
def ofR (r:BR):Obj:=⟨r.name,bItems r⟩
def rs26:List BR:=[Z5g,rMove,rScan,rFrame,rCollect,rReserve,rCons,Z5d,Z7o,Z5f,Zyw 103 5,Zyw 104 2,Zyw 105 6,Zyw 106 0]
def objs26:List Obj:=Z5h::rs26.map ofR
end S
section
namespace S
mutual
def pureE:BE->Bool
 | .mk op _ _ kids=>decide (op=1\/op=2\/op=3\/op=4\/op=5\/op=7\/op=9\/op=10) && pureEs kids
def pureEs:List BE->Bool
 | []=>true
 | e::r=>pureE e && pureEs r
end
def opV (I:Img)(lk:Int)(op n:Int)(name:ByteArray)(env vs:List Int)(st:Vw):Int :=
 if op=1 then n%4294967296 else if op=2 then env.getD n.toNat 0 else if op=3 then st.reg n else if op=4 then alu n (vs.getD 0 0) (vs.getD 1 0)
 else if op=5 then st.mem (u32m (vs.getD 0 0+n)) else if op=7 then(if vs.getD 0 0=vs.getD 1 0 then 1 else 0) else if op=9 then I.lab name else lk
def opOk (I:Img)(op n:Int)(vs:List Int):Prop :=
 if op=4 then(vs.getD 1 0=0->n≠5/\n≠6) else if op=5 then u32m (vs.getD 0 0+n)<I.size/\¬I.stk (u32m (vs.getD 0 0+n)) else True
def opC (op:Int):Nat:=if op=1\/op=9 then 2 else if op=7 then 3 else 1
mutual
def evE (I:Img)(lk:Int)(env:List Int)(st:Vw):BE->Int
 | .mk op n name kids=>opV I lk op n name env (evEs I lk env st kids) st
def evEs (I:Img)(lk:Int)(env:List Int)(st:Vw):List BE->List Int
 | []=>[]
 | e::r=>evE I lk env st e::evEs I lk env st r
end
mutual
def okE (I:Img)(lk:Int)(env:List Int)(st:Vw):BE->Prop
 | .mk op n name kids=>okEs I lk env st kids/\opOk I op n (evEs I lk env st kids)
def okEs (I:Img)(lk:Int)(env:List Int)(st:Vw):List BE->Prop
 | []=>True
 | e::r=>okE I lk env st e/\okEs I lk env st r
end
mutual
def coE:BE->Nat
 | .mk op _ _ kids=>coEs kids+opC op
def coEs:List BE->Nat
 | []=>0
 | e::r=>coE e+coEs r
end
end S
section
variable {I:S.Img}{dep lk:Int}
mutual
theorem Zbg:∀{e:S.BE} {env:List Int} {at_:Nat} {st:S.Vw} {c:Nat} {Q H:Int->S.Vw->Nat->Prop},S.pureE e=true->S.okE I lk env st e->Q (S.evE I lk env st e) st (c+S.coE e)->wpE I dep lk env e at_ st c Q H
 | .mk op n name kids,env,at_,st,c,Q,H,hp,hok,hQ=>by
  simp only[S.pureE,Yq,decide_eq_true_eq] at hp;obtain⟨d,f⟩:=hp;rw[S.okE] at hok;rw[S.evE,S.coE] at hQ;rw[Zfs];refine Zix f hok.1 ?_;have b:=hok.2;unfold S.opOk at b;unfold S.opV S.opC at hQ;unfold S.wpOp;rw[<- Ybg] at hQ;rcases d with rfl|rfl|rfl|rfl|rfl|rfl|rfl|rfl
  .exact hQ
  .exact hQ
  .exact hQ
  .exact⟨b,hQ⟩
  .exact⟨b.1,b.2,hQ⟩
  .exact hQ
  .exact hQ
  .exact hQ
theorem Zix:∀{l:List S.BE} {env:List Int} {at_:Nat} {st:S.Vw} {c:Nat} {Q:List Int->S.Vw->Nat->Prop} {H:Int->S.Vw->Nat->Prop},S.pureEs l=true->S.okEs I lk env st l->Q (S.evEs I lk env st l) st (c+S.coEs l)->wpEs I dep lk env l at_ st c Q H
 | [],env,at_,st,c,Q,H,_,_,hQ=>by
  rw[wpEs];exact hQ
 | e::r,env,at_,st,c,Q,H,hp,hok,hQ=>by
  simp only[S.pureEs,Yq] at hp;rw[S.okEs] at hok;rw[S.evEs,S.coEs] at hQ;rw[wpEs];refine Zbg hp.1 hok.1 (Zix hp.2 hok.2 ?_);rw[Ybg];exact hQ
end
section
variable {env:List Int}{st:S.Vw}
theorem Z8q (n:Int):S.evE I lk env st (S.eC n)=n%4294967296:=rfl
theorem Z7p (n:Int):S.evE I lk env st (S.eR n)=st.reg n:=rfl
theorem Z88 (a:S.BE)(n:Int):S.evE I lk env st (S.eM a n)=st.mem (S.u32m (S.evE I lk env st a+n)):=rfl
theorem Zdr (n:Int):S.okE I lk env st (S.eC n):=⟨trivial,trivial⟩
theorem Zcs (n:Int):S.okE I lk env st (S.eL n):=⟨trivial,trivial⟩
theorem Zxh (n:Int):S.okE I lk env st (S.eR n):=⟨trivial,trivial⟩
theorem Z89 (s:ByteArray):S.okE I lk env st (S.eA s):=⟨trivial,trivial⟩
theorem Zet {op:Int}{a b:S.BE}(f:op≠5/\op≠6)(g:S.okE I lk env st a)(d:S.okE I lk env st b):S.okE I lk env st (S.eB op a b):=⟨⟨g,d,trivial⟩,λ _=>f⟩
theorem Z2e {a b:S.BE}(d:S.okE I lk env st a)(f:S.okE I lk env st b):S.okE I lk env st (S.eQ a b):=⟨⟨d,f,trivial⟩,trivial⟩
theorem Z3t {a:S.BE}{n:Int}(b:S.okE I lk env st a)(h:S.u32m (S.evE I lk env st a+n)<I.size/\¬I.stk (S.u32m (S.evE I lk env st a+n))):S.okE I lk env st (S.eM a n):=⟨⟨b,trivial⟩,h⟩
end
section
variable {behind:Bool}{env:List Int}{st:S.Vw}{c:Nat}{Q:List Int->S.Vw->Nat->Prop}{R:BO->Nat->Prop}
theorem Ze6 {n:Int}{e:S.BE}{r:List S.BS}(hp:S.pureE e=true)(b:S.okE I lk env st e)(h:wpSs I dep lk behind r (env.set n.toNat (S.evE I lk env st e)) st (c+S.coE e+1) Q R):wpSs I dep lk behind (S.sAs n e::r) env st c Q R:=by
 rw[Zba,Z0u];exact Zbg hp b h
theorem Zne {n:Int}{e:S.BE}{r:List S.BS}(hp:S.pureE e=true)(b:S.okE I lk env st e)(h:wpSs I dep lk behind r env (st.set n (S.evE I lk env st e)) (c+S.coE e+1) Q R):wpSs I dep lk behind (S.sSet n e::r) env st c Q R:=by
 rw[Zba,Zvq];exact Zbg hp b h
theorem Ziy {a e:S.BE}{n:Int}{r:List S.BS}(d:S.pureE a=true)(b:S.okE I lk env st a)(hp:S.pureE e=true)(f:S.okE I lk env st e){p:Int}(i:S.u32m (S.evE I lk env st a+n)=p)
 (g:p<I.size/\¬I.stk p/\¬I.code p) (h:wpSs I dep lk behind r env (st.sto p (S.evE I lk env st e)) (c+S.coE a+S.coE e+1) Q R):wpSs I dep lk behind (S.sPut a n e::r) env st c Q R:=by
 subst i;rw[Zba,Zls];exact Zbg d b (Zbg hp f ⟨g.1,g.2.1,g.2.2,h⟩)
theorem Zo9 {e:S.BE}{b l r:List S.BS}(hp:S.pureE e=true)(d:S.okE I lk env st e)(h0:S.evE I lk env st e=0->wpSs I dep lk behind l env st (c+S.coE e+4) (λ env st c=>wpSs I dep lk behind r env st c Q R) R)
 (f:S.evE I lk env st e≠0->wpSs I dep lk behind b env st (c+S.coE e+4) (λ env st c=>wpSs I dep lk behind r env st (c+3) Q R) R):wpSs I dep lk behind (S.sIf e b l::r) env st c Q R:=by
 rw[Zba,Z0v];refine Zbg hp d ?_
 split
 .rename_i h;exact h0 h
 .rename_i h;exact f h
theorem Zvr {e:S.BE}{b r:List S.BS}(hp:S.pureE e=true)(J:List Int->S.Vw->Nat->Nat->Prop){k0:Nat}(h0:J env st c k0)
 (f:∀env st c k,J env st c k->S.okE I lk env st e/\(S.evE I lk env st e=0->wpSs I dep lk behind r env st (c+S.coE e+4) Q R) /\
  (S.evE I lk env st e≠0->wpSs I dep lk behind b env st (c+S.coE e+4) (λ Zhs d c2=>∃k2,k2<k/\J Zhs d (c2+3) k2) R)):wpSs I dep lk behind (S.sWh e b::r) env st c Q R:=by
 rw[Zba,Z0w];refine⟨J,⟨k0,h0⟩,λ env st c k h=>?_⟩;obtain⟨j,g,i⟩:=f env st c k h;refine Zbg hp j ?_
 split
 .rename_i h;exact g h
 .rename_i h;exact i h
theorem Znf {e:S.BE}{r:List S.BS}(hp:S.pureE e=true)(b:S.okE I lk env st e)(h:R (.ret (st.set 4 (S.evE I lk env st e))) (c+S.coE e+1+(if behind=true then 5 else 3))):wpSs I dep lk behind (S.sVal e::r) env st c Q R:=by
 rw[Zba,S.sVal,Zvp];exact Zbg hp b h
theorem Zb8 (h:Q env st c):wpSs I dep lk behind [] env st c Q R:=by
 rw[Z0t];exact h
theorem Z5i {name:ByteArray}{l:List S.BE}{r:List S.BS}(hp:S.pureEs l=true)(f:S.okEs I lk env st l){d:Int}{T:Int->BO->Nat->Prop}(b:Real I name false (st.args (S.evEs I lk env st l)) d T)(hd:d<=dep)
 (h:∀ret o k,T ret o k->(match o with
  | .ret st2=>wpSs I dep lk behind r env st2 (c+S.coEs l+2*0+(S.evEs I lk env st l).length+4+k) Q R
  | .halt code st2=>R (.halt code st2) (c+S.coEs l+2*0+(S.evEs I lk env st l).length+4+k)
  | .left _ _=>False)):wpSs I dep lk behind (S.sDo (S.eF name l)::r) env st c Q R:=by
 rw[Zba,Z0x,Zrz];refine Zix hp f ⟨d,T,b,hd,λ ret o k g=>?_⟩;have:=h ret o k g
 cases o <;> exact this
end
end
theorem Zlt {x:Int}(i:Nat)(m:Int)(hm:m=2^i-1)(hi:i<=32)(h0:0<=x)(b:x<4294967296):S.alu 7 x m=x%(m+1):=by
 show bits .and .u32 x m=_
 exact Zaf i x (m+1) m (by omega) (by omega) hi h0 b
theorem Z3u {x:Int}(h0:0<=x)(b:x<4294967296):S.alu 7 x (3%4294967296)=x%4:=Zlt 2 3 (by decide) (by decide) h0 b
theorem Z7q {x:Int}(h0:0<=x)(b:x<4294967296):S.alu 7 x (31%4294967296)=x%32:=Zlt 5 31 (by decide) (by decide) h0 b
theorem Z9a {x:Int}(h0:0<=x)(b:x<4294967296):S.alu 7 x (1%4294967296)=x%2:=Zlt 1 1 (by decide) (by decide) h0 b
theorem Z6t (x:Int):S.alu 11 x (2%4294967296)=x/4:=rfl
theorem Z7r (x:Int):S.alu 11 x (5%4294967296)=x/32:=rfl
theorem Z9b (x:Int):S.alu 11 x (1%4294967296)=x/2:=rfl
theorem Z5j (x:Int):S.alu 10 x (2%4294967296)=S.u32m (x*4):=rfl
theorem Zgf (x y:Int):S.alu 1 x y=S.u32m (x+y):=rfl
theorem Z3v (x y:Int):S.alu 2 x y=S.u32m (x-y):=rfl
theorem Zjs (x y:Int):S.alu 14 x y=if x<y then 1 else 0:=by
 show truth (x<y)=_
 unfold truth
 split <;> simp_all
theorem or1 {x:Int}(h0:0<=x)(b:x<4294967296)(h:x%4=0):S.alu 8 x (1%4294967296)=x+1:=by
 show bits .or .u32 x 1=_
 exact Zw 2 x 1 4 (by decide) h0 h b (by decide) (by decide) (by decide)
end
section
namespace S
structure Ob where
 at_:Int
 ws:List Int
def tot:List Ob->Int
 | []=>0
 | o::r=>o.ws.length+tot r
def nw (t:Int):List Ob->Int->Option Int
 | [],_=>none
 | o::r,a=>if o.at_=a then some t else nw (t+o.ws.length) r a
def mv (t:Int)(ρ:List Ob)(w:Int):Int:=if w%4=1 then(match nw t ρ (w/4) with|some ν=>4*ν+1|none=>w) else w
def Dat (I:Img)(a:Int):Prop:=0<=a/\a<I.size/\¬I.stk a/\¬I.code a
structure Cf where
 O:List Ob
 fr:Int
 to_:Int
 hf:Int
structure ObOk (o:Ob):Prop where
 word:∀w∈o.ws,0<=w/\w<4294967296
 head:∃h r,o.ws=h::r/\h%4=3/\h/32=r.length
structure Cf.Ok (I:Img)(cf:Cf):Prop where
 frd:∀a,cf.fr<=a->a<cf.fr+cf.hf->Dat I a
 tod:∀a,cf.to_<=a->a<cf.to_+cf.hf->Dat I a
 apart:cf.fr+cf.hf<=cf.to_\/cf.to_+cf.hf<=cf.fr
 fr0:1312<=cf.fr
 to0:1312<=cf.to_
 hf0:0<=cf.hf
 frz:cf.fr+cf.hf<=335544320
 toz:cf.to_+cf.hf<=335544320
 low:∀a,0<=a->a<1056->Dat I a
 obs:∀o∈cf.O,ObOk o/\cf.fr<=o.at_/\o.at_+o.ws.length<=cf.fr+cf.hf
 dis:∀o∈cf.O,∀o'∈cf.O,o≠o'->o.at_+o.ws.length<=o'.at_\/o'.at_+o'.ws.length<=o.at_
 nd:cf.O.Nodup
 sum:tot cf.O<=cf.hf
structure Ch (cf:Cf)(ρ:List Ob)(st:Vw):Prop where
 sub:∀o∈ρ,o∈cf.O
 nd:ρ.Nodup
 r29:st.reg 29=cf.to_+tot ρ
 m2:st.mem 2=cf.fr
 m4:st.mem 4=cf.hf
 unc:∀o∈cf.O,o ∉ ρ->∀(k:Nat)(w:Int),o.ws[k]?=some w->st.mem (o.at_+(k:Int))=w
 cop:∀o∈ρ,∀ν,nw cf.to_ ρ o.at_=some ν->st.mem o.at_=4*ν+1
def WOk (cf:Cf)(T:Ob->Prop)(w:Int):Prop:=0<=w/\w<4294967296/\(w%4=1->(∃o∈cf.O,T o/\w=4*o.at_+1)\/w/4<cf.fr\/cf.fr+cf.hf<=w/4)
def Cl (cf:Cf)(ρ:List Ob)(w:Int):Prop:=∀o∈cf.O,w=4*o.at_+1->o∈ρ
structure Tr (cf:Cf)(T:Ob->Prop)(ρ:List Ob)(st:Vw)(ρ':List Ob)(st':Vw):Prop where
 ext:∃δ,ρ'=ρ++δ/\∀o∈δ,T o
 ch:Ch cf ρ' st'
 reg:∀j,j≠4->j≠5->j≠29->st'.reg j=st.reg j
 mem:∀a,¬(cf.fr<=a/\a<cf.fr+cf.hf)->¬(cf.to_+tot ρ<=a/\a<cf.to_+tot ρ')->st'.mem a=st.mem a
 new:∀o∈ρ',o ∉ ρ->∀ν,nw cf.to_ ρ' o.at_=some ν->∀(k:Nat)(w:Int),o.ws[k]?=some w->st'.mem (ν+(k:Int))=w
 inp:st'.inp=st.inp
 out:st'.out=st.out
end S
theorem Zay (a b:List S.Ob):S.tot (a++b)=S.tot a+S.tot b:=by
 induction a with
 | nil=>simp[S.tot]
 | cons o r ih=>rw[Y9,S.tot,S.tot,ih];omega
theorem Zp:∀l:List S.Ob,0<=S.tot l
 | []=>by simp[S.tot]
 | o::r=>by have:=Zp r;rw[S.tot];omega
theorem Zb9:∀(ρ O:List S.Ob),ρ.Nodup->(∀o∈ρ,o∈O)->S.tot ρ<=S.tot O
 | [],O,_,_=>by rw[S.tot];exact Zp O
 | o::r,O,hn,hs=>by
  obtain⟨A,B,rfl⟩:=List.append_of_mem (hs o Yw);obtain⟨f,d⟩:=Ybs.1 hn;have:=Zb9 r (A++B) d λ x b=>by
   have hm:=hs x (Y0 _ b);rw[List.mem_append,Yr] at hm;rcases hm with hm|rfl|hm
   .exact Ybh _ hm
   .exact absurd b f
   .exact List.mem_append_right _ hm
  rw[S.tot,Zay,S.tot];rw[Zay] at this;omega
theorem Zyx {ρ O:List S.Ob}{o:S.Ob}(h:ρ.Nodup)(f:∀o∈ρ,o∈O)(g:o∈O)(b:o ∉ ρ):S.tot ρ+o.ws.length<=S.tot O:=by
 have:=Zb9 (o::ρ) O (Ybs.2 ⟨b,h⟩) λ x d=>by
  rcases Yr.1 d with rfl|d
  .exact g
  .exact f x d
 rw[S.tot] at this;omega
theorem Zd5 {t:Int}{a:Int}:∀{ρ:List S.Ob} {ν:Int} (δ:List S.Ob),S.nw t ρ a=some ν->S.nw t (ρ++δ) a=some ν
 | [],ν,δ,h=>by simp[S.nw] at h
 | o::r,ν,δ,h=>by
  rw[Y9,S.nw];rw[S.nw] at h
  split
  .rename_i c;rw[if_pos c] at h;exact h
  .rename_i c;rw[if_neg c] at h;exact Zd5 δ h
theorem Zvs {t a:Int}:∀{ρ:List S.Ob},S.nw t ρ a=none->∀o∈ρ,o.at_≠a
 | [],_,o,b=>by cases b
 | x::r,h,o,b=>by
  rw[S.nw] at h
  split at h
  .cases h
  .rename_i c
   rcases Yr.1 b with rfl|b
   .exact c
   .exact Zvs h o b
theorem Zvt {t a:Int}:∀{ρ:List S.Ob} {o:S.Ob},(∀x∈ρ,x.at_≠a)->o.at_=a->S.nw t (ρ++[o]) a=some (t+S.tot ρ)
 | [],o,_,ho=>by rw[List.nil_append,S.nw,if_pos ho,S.tot,Int.add_zero]
 | x::r,o,h,ho=>by
  rw[Y9,S.nw,if_neg (h x Yw),Zvt (λ y b=>h y (Y0 _ b)) ho,S.tot]
  congr 1
  omega
theorem Zft {a:Int}:∀{ρ:List S.Ob} {t ν:Int},S.nw t ρ a=some ν->∃o∈ρ,o.at_=a/\t<=ν/\ν+o.ws.length<=t+S.tot ρ
 | [],t,ν,h=>by simp[S.nw] at h
 | x::r,t,ν,h=>by
  rw[S.nw] at h;have hr:=Zp r
  split at h
  .rename_i c
   cases h
   exact⟨x,Yw,c,Int.le_refl _,by rw[S.tot];omega⟩
  .obtain⟨o,ho,h1,h2,h3⟩:=Zft h
   exact⟨o,Y0 _ ho,h1,by omega,by rw[S.tot];omega⟩
theorem Zgg {t:Int}{ρ:List S.Ob}{o:S.Ob}(h:o∈ρ):∃ν,S.nw t ρ o.at_=some ν:=by
 cases hq:S.nw t ρ o.at_ with
 | some ν=>exact⟨ν,rfl⟩
 | none=>exact absurd rfl (Zvs hq o h)
section
variable {I:S.Img}{cf:S.Cf}(hc:S.Cf.Ok I cf)
include hc
theorem Zgy {o:S.Ob}(b:o∈cf.O):1<=o.ws.length:=by
 obtain⟨h,r,e,_⟩:=(hc.obs o b).1.head;rw[e];simp
theorem Zvu {o d:S.Ob}(g:o∈cf.O)(b:d∈cf.O)(h:o.at_=d.at_):o=d:=by
 refine Y_c λ f=>?_
 have h1:=Zgy hc g;have h2:=Zgy hc b;rcases hc.dis o g d b f with i|i <;> omega
theorem Zng {t:Int}{ρ:List S.Ob}(f:∀o∈ρ,o∈cf.O){o:S.Ob}(i:o∈cf.O){ν:Int}(h:S.nw t ρ o.at_=some ν):o∈ρ/\t<=ν/\ν+o.ws.length<=t+S.tot ρ:=by
 obtain⟨x,b,e,g,d⟩:=Zft h;have:=Zvu hc (f x b) i e;subst this;exact⟨b,g,d⟩
theorem S.Tr.sub {T:S.Ob->Prop}{ρ ρ':List S.Ob}{st b:S.Vw}(h:S.Tr cf T ρ st ρ' b){o:S.Ob}(d:o∈ρ):o∈ρ':=by
 obtain⟨δ,e,_⟩:=h.ext;rw[e];exact Ybh _ d
end
end
section
def GamX (B N:Nat)(w0:World)(H0:Zn)(s:St)(a:Act)(w:World):Prop:=∃H φ,Gam B N w0 H0 s a w H φ
def Zl6 (P:Program)(B N:Nat)(w0:World)(H0:Zn)(o:Oper)(s:St)(e:Eff)(a:Act)(w:World):Prop :=
 ∀K Q,(∀a' w',GamX B N w0 H0 (e.apply s) a' w'->K a' w')->o.wp P a w K Q
section
variable {P:Program}{B N:Nat}{w0:World}{H0:Zn}{s:St}{a:Act}{w:World}{H:Zn}{φ:Nat->Nat}{o:Oper}{e:Eff}{l:List Nat}
theorem Zei {K:Act->World->Prop}{Q:Exit->Act->World->Prop}{v:Value}{w':World}(b:(execOp a.eval o).run P w=.ok (.value v) w')(h:K (a.put o.dst v) w'):o.wp P a w K Q:=by
 unfold Oper.wp;rw[b];exact h
theorem Zr0 {K:Act->World->Prop}{Q:Exit->Act->World->Prop}{w':World}(b:(execOp a.eval o).run P w=.ok .skip w')(h:K (a.put o.dst undef) w'):o.wp P a w K Q:=by
 unfold Oper.wp;rw[b];exact h
theorem Zca {v:AV}{y:Tail}{drop:Option Nat}{dst:Option Tmp}(h:(leave N dst v y drop).run s=some (e,l)):(dst=none/\e=⟨none,none,none⟩)\/∃d,dst=some d/\d<N/\e=⟨some (d,v,y),drop,none⟩:=by
 unfold leave at h
 split at h
 .rename_i d
  split at h
  .rename_i hd
   simp only[Rd.run,Option.some.injEq,Prod.mk.injEq] at h;exact .inr ⟨d,rfl,hd,h.1.symm⟩
  .simp[Rd.run] at h
 .simp only[Rd.run,Option.some.injEq,Prod.mk.injEq] at h
  exact .inl ⟨rfl,h.1.symm⟩
theorem Z0 (f:Gam B N w0 H0 s a w H φ){v:AV}{u:Value}(j:(leave N o.dst v none none).run s=some (e,l))(i:Zvm H w φ s v u)(g:(execOp a.eval o).run P w=.ok (.value u) w):Zl6 P B N w0 H0 o s e a w:=by
 intro K Q h;refine Zei g (h _ _ ?_);rcases Zca j with⟨b,rfl⟩|⟨d,b,hd,rfl⟩
 .rw[b]
  exact⟨H,φ,f⟩
 .rw[b]
  exact⟨H,φ,f.value hd i⟩
theorem Ziz (b:Gam B N w0 H0 s a w H φ){x:Operand}(C:o.op=.assign x\/o.op=.move x)(k:(effAssign N o.dst x).run s=some (e,l)):Zl6 P B N w0 H0 o s e a w:=by
 have h:(execOp a.eval o).run P w=.ok (.value (a.eval x)) w:=by
  rcases C with C|C <;> (unfold execOp;simp only[C,Yat])
 cases x with
 | tmp t =>
  unfold effAssign at k;obtain⟨v,_,_,j,i⟩:=Zh _ _ k;simp only[Rd.run] at i;have J:s.sl t=some v:=by
   simp only[evalA,Rd.run] at j
   split at j
   .rename_i u l' hu
    simp only[Option.some.injEq,Prod.mk.injEq] at j;obtain⟨rfl,_⟩:=j;exact Z5 hu
   .cases j
  split at i
  .rename_i e' l' h3
   simp only[Option.some.injEq,Prod.mk.injEq] at i;obtain⟨rfl,_⟩:=i
   split at h3
   .rename_i z htl
    intro K Q D;refine Zei h (D _ _ ?_);rcases Zca h3 with⟨n,rfl⟩|⟨d,n,hd,rfl⟩
    .rw[n]
     exact⟨H,φ,b⟩
    .rw[n]
     refine⟨H,φ,b.next (.inr ⟨d,v,_,rfl,rfl,hd,?_,λ z q=>⟨?_,λ F g E y r hg p=>?_⟩⟩) (Yj _ _) (Stay.refl _ _) (λ _ _=>rfl) b.bnd (λ _ _=>rfl) b.ent b.inj (λ _ _ _ _ _ _=>⟨rfl,rfl⟩)⟩
     .exact b.slot t v J
     .cases q
      obtain⟨x',A,G⟩:=b.tail t _ htl;rw[J] at A
      cases A
      exact G
     .have hne':F≠t:=λ e=>y (by rw[e])
      exact b.tinj F t hne' r (by rw[htl];rfl) g hg p
   .exact Z0 b h3 (b.slot t v J) h
  .cases i
 | const c =>
  unfold effAssign at k;obtain⟨v,_,_,j,i⟩:=Zh _ _ k;have hc:=Z5 j;intro K Q D;refine Zei h (D _ _ ?_);rcases Zca i with⟨n,rfl⟩|⟨d,n,hd,rfl⟩
  .rw[n]
   exact⟨H,φ,b⟩
  .rw[n]
   have m:∀z,(match v with | .row _ _=>some ((0,0):TypeId×Nat) | _=>none)=some z->c=.slice none 0 0/\v=.row 0 []:=λ z q=>by
    unfold constA at hc
    split at hc <;> cases hc <;> first | (simp at q;done) | exact⟨rfl,rfl⟩
   refine⟨H,φ,b.next (.inr ⟨d,v,_,rfl,rfl,hd,.inr (Zc3 hc H w).1,λ z q=>⟨?_,λ F g E y r hg p=>?_⟩⟩) (Yj _ _) (Stay.refl _ _) (λ _ _=>rfl) b.bnd (λ _ _=>rfl) b.ent b.inj (λ _ _ _ _ _ _=>⟨rfl,rfl⟩)⟩
   .obtain⟨rfl,rfl⟩:=m z q
    exact⟨0,[],rfl,.inl ⟨rfl,rfl⟩⟩
   .obtain⟨rfl,rfl⟩:=m z q
    simp[Act.eval,Yah] at p
 | func f =>
  unfold effAssign at k;obtain⟨v,_,_,j,i⟩:=Zh _ _ k;exact Z0 b i (Zm b j) h
 | global g =>
  unfold effAssign at k;obtain⟨v,_,_,j,i⟩:=Zh _ _ k;exact Z0 b i (Zm b j) h
theorem Zkj (d:Gam B N w0 H0 s a w H φ){i:Nat}(hi:(s.hp i).isSome=true):φ i<w.heap.size:=by
 obtain⟨⟨t,cs⟩,h⟩:=Option.isSome_iff_exists.1 hi;obtain⟨_,_,vs,b,_⟩:=d.ent i t cs h;exact(Array.getElem?_eq_some_iff.1 b).1
theorem Zc4 {f:Zn}{w':World}(j:Gam B N w0 H0 s a w H φ)(g:Below w.heap.size w w')(i:∀b,b<w.heap.size->f b=H b):Stay H w f w':=λ b h e=>by
 have d:=(j.bnd b h e).lt;refine⟨h,(i b d).trans e,Yc _,λ o _=>?_⟩;exact g.cell (p:=⟨b,o,none⟩) d
theorem Zkk (k:Gam B N w0 H0 s a w H φ){id:Nat}{t:TypeId}{cs:List AV}{vs:List Value}(m:(fresh N o.dst id t cs).run s=some (e,l))(T:RepL H w cs vs)
 (W:(execOp a.eval o).run P w=.ok (.value (.pointer (some ⟨w.heap.size,0,none⟩))) (w.alloc (.cells vs.toArray t (0,0)))):Zl6 P B N w0 H0 o s e a w:=by
 unfold fresh at m
 split at m
 .rename_i d hdst
  split at m
  .rename_i hd
   simp only[Rd.run] at m
   split at m
   .rename_i e' l' h1
    split at h1
    .rename_i hnone
     simp only[Rd.run,Option.some.injEq,Prod.mk.injEq] at h1 m;obtain⟨rfl,_⟩:=h1;obtain⟨rfl,_⟩:=m;intro K Q M;refine Zei W (M _ _ ?_);have A:Below w.heap.size w (w.alloc (.cells vs.toArray t (0,0))):=(Yj _ _).alloc (Yc _) _;have q:Stay H w H (w.alloc (.cells vs.toArray t (0,0))):=Zc4 k A λ _ _=>rfl
     have hsz:(w.alloc (.cells vs.toArray t (0,0))).heap.size=w.heap.size+1:=by show(w.heap.push _).size=_;simp
     have v:=heap_alloc_new w (.cells vs.toArray t (0,0));rw[hdst];refine⟨H,λ i=>if i=id then w.heap.size else φ i,k.next (.inr ⟨d,_,_,rfl,rfl,hd,.inl ⟨id,0,rfl,?_,?_⟩,λ z E=>by cases E⟩) (A.mono k.base) q (λ _ _=>rfl) (λ b n h=>?_) (λ i hi=>?_) (λ i D u hi=>?_) (λ i j hi G f=>?_) (λ D g _ _ C hg=>⟨?_,rfl⟩)⟩
     .unfold Eff.apply;simp
     .simp
     .exact(k.bnd b n h).below A
     .have p:i≠id:=λ e=>by rw[e,hnone] at hi;cases hi
      simp only[if_neg p]
     .unfold Eff.apply at hi
      simp only at hi;by_cases c:i=id
      .rw[if_pos c] at hi
       cases hi
       simp only[if_pos c];refine⟨k.base,?_,vs,v,RepL.stay q cs vs T⟩
       cases hH:H w.heap.size with
       | none=>rfl
       | some n=>have:=(k.bnd _ n hH).lt;omega
      .rw[if_neg c] at hi
       simp only[if_neg c];obtain⟨O,U,y,L,J⟩:=k.ent i D u hi;exact⟨O,U,y,(A.block _ (Zkj k (by rw[hi];rfl))).trans L,RepL.stay q u y J⟩
     .have hlive:∀i,i≠id->(((⟨some (d,.box id 0,none),none,some (id,(t,cs))⟩:Eff).apply s).hp i).isSome=true->(s.hp i).isSome=true:=λ i p hi=>by
       unfold Eff.apply at hi;simp only[if_neg p] at hi;exact hi
      have f:(if i=id then w.heap.size else φ i)=(if j=id then w.heap.size else φ j):=f;by_cases r:i=id
      .by_cases cj:j=id
       .rw[r,cj]
       .rw[if_pos r,if_neg cj] at f
        have:=Zkj k (hlive j cj G);omega
      .by_cases cj:j=id
       .rw[if_neg r,if_pos cj] at f
        have:=Zkj k (hlive i r hi);omega
       .rw[if_neg r,if_neg cj] at f
        exact k.inj i j (hlive i r hi) (hlive j cj G) f
     .obtain⟨z,E⟩:=Option.isSome_iff_exists.1 C
      obtain⟨x,_,F⟩:=k.tail D z E;obtain⟨⟨n,V⟩,_⟩:=F.own hg;exact A.block g (k.bnd g n V).lt
    .simp[Rd.run] at h1
   .cases m
  .simp[Rd.run] at m
 .simp[Rd.run] at m
theorem Zhg {t:TypeId}{cs:List AV}(h:zeroA P t=some cs):∃i z,P.info? t=some i/\i.zero=some z/\constsA z.cells.toList=some cs:=by
 unfold zeroA at h
 split at h
 .rename_i i hi
  split at h
  .rename_i z hz
   exact⟨i,z,hi,hz,h⟩
  .cases h
 .cases h
theorem Zr1 (f:Gam B N w0 H0 s a w H φ){id:Nat}{t:TypeId}(d:o.op=.alloc t)(b:(match zeroA P t with|some cs=>fresh N o.dst id t cs|none=>.fail).run s=some (e,l)):Zl6 P B N w0 H0 o s e a w:=by
 split at b
 .rename_i cs hcs
  obtain⟨i,z,hi,g,hc⟩:=Zhg hcs;refine Zkk f b (Zdk hc H w) ?_;unfold execOp;simp only[d,Instr.alloc,zeroValue,typeInfo,Yai,run_program,Y5,hi,g,Yat,newVar,newRow,run_newObj];rfl
 .simp[Rd.run] at b
theorem Zyy (b:Gam B N w0 H0 s a w H φ){id:Nat}{t:TypeId}{x:Operand}(m:o.op=.box t x)(k:((evalA x).bind λ v=>(Rd.ofOpt v.cells).bind λ cs=>fresh N o.dst id t cs).run s=some (e,l)):Zl6 P B N w0 H0 o s e a w:=by
 obtain⟨v,_,_,j,g⟩:=Zh _ _ k;obtain⟨cs,_,_,d,h⟩:=Zh _ _ g;have hc:=Z5 d;obtain⟨vs,i,f⟩:=Zik (Zit (Zm b j) hc) hc;refine Zkk b h f ?_;unfold execOp;simp only[m,Instr.box,newVar,newRow,Yai,run_newObj,Y5,Yat,i];rfl
theorem Zkl {b:Array (Nat×Operand)}:(b.map λ(i,x)=>(i,a.eval x)).toList=b.toList.map λ p=>(p.1,a.eval p.2):=by simp
theorem Znh:∀{d:List Field} {b:List (Nat×Nat)},placesA P d=some b->d.mapM (λ f=>(P.info? f.type).map λ i=>(f.offset,i.size))=some b
 | [],b,h=>by simp[placesA] at h;subst h;rfl
 | f::r,b,h=>by
  unfold placesA at h
  split at h
  .rename_i i l h1 h2
   cases h
   rw[List.mapM_cons,h1];simp[Znh h2]
  .cases h
theorem Zr2 (q:Gam B N w0 H0 s a w H φ){t:TypeId}{p:Array (Nat×Operand)}(y:o.op=.build t p)(F:((partsA p.toList).bind λ vs=>effBuild P N o.dst t vs).run s=some (e,l)):Zl6 P B N w0 H0 o s e a w:=by
 obtain⟨vs,_,_,D,d⟩:=Zh _ _ F;have hp:=Zge q D;rw[<- Zkl] at hp;have j:∀(place:Nat->Option (Nat×Nat)) (z:Value) (b:List AV) (l:List Nat),constsA z.cells.toList=some b->((Rd.ofOpt (fillA place b vs)).bind λ cs=>leave N o.dst (.agg cs) none none).run s=some (e,l) ->
  (∀cells,Instr.fill place z.cells ((p.map λ(i,x)=>(i,a.eval x)).toList)=some cells->P.built t ((p.map λ(i,x)=>(i,a.eval x)).toList)=some cells)->Zl6 P B N w0 H0 o s e a w:=λ place z b l g h C=>by
  obtain⟨cs,_,_,A,v⟩:=Zh _ _ h;obtain⟨r,E,m⟩:=Zlq hp (Zdk g H w) (Z5 A);refine Z0 q v (u:=.agg r) (.inr ?_) ?_
  .rw[RepV]
   exact⟨r.toList,by simp,m⟩
  .unfold execOp
   simp only[y,Yai,run_build w t _ r (C r E),Y5,Yat]
 unfold effBuild at d
 split at d
 .rename_i b fields g hu
  obtain⟨i,z,hi,f,hc⟩:=Zhg g
  split at d
  .rename_i places hpl
   refine j _ z b _ hc d λ cells hf=>?_
   unfold Program.built;simp only[hi,hu,f,Znh hpl];exact hf
  .simp[Rd.run] at d
 .rename_i b n e' g hu
  obtain⟨i,z,hi,f,hc⟩:=Zhg g
  split at d
  .rename_i k hk
   refine j _ z b _ hc d λ cells hf=>?_
   unfold sizeA at hk
   cases hie:P.info? e' with
   | none=>rw[hie] at hk;cases hk
   | some ie =>
    rw[hie] at hk;simp at hk;subst hk;unfold Program.built;simp only[hi,hu,f,hie];exact hf
  .simp[Rd.run] at d
 .simp[Rd.run] at d
end
end
