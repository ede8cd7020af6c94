/- Parts. -/
import Derived.Test.YtldbnjajjfgipaaGreatDoorZAsmN
import Derived.Test.YtldbnjajjfgipaaGreatDoorZAsmP
import Derived.ProofKit
import Derived.OpenShut
import Derived.LaidMore
import Derived.LaidHandle
import Derived.MakeChecks
import Derived.Lib.LaidTab
import Derived.Stop.LaidErr
import Derived.Deep.DeepHandedRow
import Derived.Deep.DeepWitnessRowRef
set_option linter.all false
set_option maxHeartbeats 8000000
open Go.Lib renaming hid->Ya
open List renaming length_append->Yc,map_append->Ya3
open Go.Value renaming int->Ys,oneCell'->Yt,ownBlock->Yaj
open Go.World renaming ownsRow_nil->Yak
namespace Go.Proofs.YtldbnjajjfgipaaGreatDoor
open S Go.Proofs.Tryz Go.RowKit
set_option maxRecDepth 100000
section
set_option maxRecDepth 100000
open Go.ChangeShapes Go.WideShapes Go.ChangeAt Go.RowKit
theorem Z35 : prog.globalNamed "internal/strconv.uint64pow10" = some 0 := by kernel_rfl
theorem Z36:(prog.globals[0]?).map (·.type)=some 291:=by kernel_rfl
theorem Z37:prog.cellsOf 291=20:=by kernel_rfl
theorem Z38:prog.cellsOf 167=1:=by kernel_rfl
def Zzz:List (String×DataW Unit):=Rows.rtnumMeansRow.laid
noncomputable def laidWorld (os:Os):World:=World.doorLaid prog 100 os
theorem Zut (os:Os)(args:Array Value):laidMetH prog Zzz ((laidWorld os).forCall (λ _ _=>0) ⟨#[],args,[]⟩).memory :=
 laidMetH_of_parts3 (fuel:=8) (laidMet_of_run' 8 (by kernel_rfl) (by kernel_rfl)) (by kernel_rfl) (by kernel_rfl)
theorem Z2q {W:World}(h:laidMetH prog Zzz W)(e:W.ShapedOpen prog):LVE W:=by
 rw[MakeChecks.laidMetH_plain _ _ _ (by kernel_rfl)] at h;have d:=laidMet.tail (laidMet.tail h);have a:3<=W.heap.size:=by
  obtain⟨cs,c,_⟩:=e.1 2 (Array.replicate 64 (.int .u8 0)) 300 (of_decide_eq_true (by kernel_rfl)) (by kernel_rfl);rcases Nat.lt_or_ge 2 W.heap.size with b|b
  .omega
  .simp[Array.getElem?_eq_none b] at c
 exact⟨Lib.tabIs_of_head Z35 Z36 underlying291 underlying167 Z38 Z37 d,a⟩
end
theorem Zkw {w w':World}{k:Nat}{cs:Array Value}{t:TypeId}{z:Nat×Nat}(h:w.heap[k]?=some (.cells cs t z)){a:Nat}{g:TypeId}{b n':Nat}{f:Value}{d:List Value}(l:w.ownsRow a g b f n' d)(e:t≠g)
 (hg:w.grownBy w' f.ownBlock):w'.heap[k]?=some (.cells cs t z):=by
 rw[hg.block k (Zft h) ?_,h];intro i;rcases l.2 with⟨rfl,_⟩|⟨m,cap,j,rfl,_,c,_⟩
 .simp[Yaj] at i
 .have:k=m:=by simpa[Yaj] using i
  subst this;rw[h] at c
  injection c with c
  injection c with _ ht
  exact e ht
theorem Work.other {w w':World}{B g v x m n:Nat}{A:Option Addr}{c:Nat}{xs:List S.Item}{base:Int}{F T:List Int}{f:ByteArray->Option Int}(h:Work w B g v x m n A c xs base F T f)
 {a:Nat} {s:TypeId} {d n':Nat} {o:Value} {r:List Value} (p:w.ownsRow a s d o n' r) (k:3≠s) (j:214≠s) (hg:w.grownBy w' o.ownBlock) :
 Work w' B g v x m n A c xs base F T f:=by
 have i:some g≠o.ownBlock:=by
  intro l;rcases p.2 with⟨rfl,_⟩|⟨u,cap,q,rfl,_,b,_⟩
  .simp[Yaj] at l
  .have:g=u:=by simpa[Yaj] using l
   subst this;rw[h.blk] at b
   injection b with b
   injection b with _ ht
   exact j ht
 have e:some m≠o.ownBlock:=by
  intro l;obtain⟨D,⟨es,t,hm,_⟩,_⟩:=h.labels;rcases p.2 with⟨rfl,_⟩|⟨u,cap,q,rfl,_,b,_⟩
  .simp[Yaj] at l
  .have:m=u:=by simpa[Yaj] using l
   subst this;rw[hm] at b
   cases b
 exact⟨(hg.block g (Zft h.blk) i).trans h.blk,Zau h.forms p k hg,Zau h.ats p k hg,h.labels.kept hg e,h.hg,h.hF,h.hA,h.hm,h.ne1⟩
theorem Zgl (w:World){A:Option Addr}{c:Nat}{xs:List S.Item}{base:Int}(h:base<0\/67108864<base) :
 Calls prog 189 #[.slice A xs.length c,.int .i64 base] w (Zea w A c xs base):=by
 have b:FormsRes xs base 2 []:=.inl ⟨by simp,.inl ⟨h,rfl⟩,rfl⟩;have a:=Ya b;clear b;by_cases h0:base<0
 .clear h
  go_enter func189,ntmps189
  go_wp2_with fail
  go_step3
  go_wp2_with fail
  rw[Exit.noGoto_ret]
  go_ret2
  exact⟨Below.refl _ _,.inl ⟨_,by simp,rfl,a.out⟩⟩
 .have h1:67108864<base:=by omega
  have h2:decide (base<0)=false:=by simpa using h0
  clear h;go_enter func189,ntmps189
  go_wp2_with fail
  go_step3
  go_wp2_with fail
  rw[Exit.noGoto_ret]
  go_ret2
  exact⟨Below.refl _ _,.inl ⟨_,by simp,rfl,a.out⟩⟩
theorem Zmm (w:World){A:Option Addr}{c:Nat}{xs:List S.Item}{base:Int}(hi:Items w w.heap.size A xs)(b:xs.length<=1048576)
 (a:∀(k:Nat)(x:S.Item),xs[k]?=some x->x.label.size<=maxLen) :
 Calls prog 189 #[.slice A xs.length c,.int .i64 base] w (Zea w A c xs base):=by
 by_cases h:base<0\/67108864<base
 .exact Zgl w h
 .exact Zid w hi (by omega) (by omega) b a hi.words
theorem Zkx (A:Option Addr)(c:Nat)(xs:List S.Item)(base:Int)(w:World)(hi:Items w w.heap.size A xs)(hl:xs.length<=1048576)(G:∀(k:Nat)(x:S.Item),xs[k]?=some x->x.label.size<=maxLen) :
 Calls prog 122 #[.slice A xs.length c,.int .i64 base] w (Zs1 w xs base):=by
 have Z:=Ya hi.words;have M:=Ya G;clear G;go_enter func122,ntmps122
 go_wp2_with fail
 refine(Zmm w hi hl M.out).mono ?_;rintro e w1 ⟨V,⟨r,hr,rfl,l⟩|⟨g,gF,gA,m,n,F,hn,rfl,l,b6⟩⟩
 .have hd:=Zbm hr
  have Hr:=Ya hr;clear hr;go_wp2_with fail
  go_ret3
  refine⟨_,_,r,[],rfl,l,?_,?_,V⟩
  .rw[if_neg Hr.out];exact Yak _ _ _ _
  .rw[if_neg Hr.out];exact Yak _ _ _ _
 .have hz1:=V.size
  have d8:CheckRes xs base 0/\S.Inv xs base F/\Stable xs base F/\addr xs F base xs.length<=67108864:=by
   rcases l with⟨h,_⟩|⟨_,h,_⟩|⟨h1,_,h3,h4,h5⟩
   .exact absurd rfl h
   .omega
   .exact⟨h1,h3,h4,h5⟩
  have a1:=Ya l;obtain⟨s,J,c0,b4⟩:=d8;have a4:=Ya s;have hk:=Ya (Zcs (Zhh s));obtain⟨d4,e4⟩:=Zxw s;have t:=Ya J.1;clear l s J c0;go_wp2_with fail
  go_loopw [4,5,21] (λ vo vp i wr=>∃k:Nat,k<=xs.length/\i=.int .i64 k/\wr.ownsRow w.heap.size 31 1 vo (outTo xs F base k).length ((outTo xs F base k).map (Ys .u32)) /\
   wr.ownsRow w.heap.size 166 2 vp (placesTo xs F base k).length ((placesTo xs F base k).flatMap Z5) /\
   Work wr w.heap.size g gF gA m n A c xs base F (Zek xs F base (xs.length+1)) (Zd4 xs)/\Below w.heap.size w wr) (λ _ _ i _=>xs.length-(intOf i).toNat)
  case atStart=>exact⟨0,by omega,rfl,Yak _ _ _ _,Yak _ _ _ _,b6,V⟩
  case round =>
   obtain⟨k,d1,rfl,U,Q,a6,E⟩:=hrel;clear b6;have a2:=E.size;by_cases a8:k<xs.length
   .obtain⟨b,off,x,rfl,hb,hx,hc0,hc1,hc2,hc3,hc4,hc5,hc6,hc7,hw0,hw1⟩:=(hi.below E).at_ a8
    have f4:b<wr.heap.size:=Nat.lt_of_lt_of_le hb a2;have a9:=hk.out x (List.mem_of_getElem? hx);have e6:=Zby (base:=base) t.out Z.out (i:=k) (n:=xs.length) d1;have e1:=Zby (base:=base) t.out Z.out (i:=k+1) (n:=xs.length) a8;have e7:=(Zbv (base:=base) t.out Z.out k).1;have a3:=Ya (Zao (base:=base) t.out hk.out Z.out k);have K:placeAt xs F base k=if x.kind=2 then [(x.label,addr xs F base k)] else []:=by simp[placeAt,hx]
    have f2:((outTo xs F base k).length:Int)<=67108864:=by rw[a3.out];omega
    have e9:(wordsAt xs F base k).length<=67108864:=by
     have h9:=Zaf (base:=base) t.out hk.out Z.out k;have f0:addr xs F base (k+1)=addr xs F base k+sizeAt xs F k:=rfl;omega
    have N:=Ya K;have f1:=Zbn xs F base k;have c1:=Ya (Zkt (x:=x) a4.out hx);have Hx:=Ya hx;have b3:=M.out k x hx;clear K hx;obtain⟨kind,⟨op,d,a,W,imm⟩,lab,wd⟩:=x;simp only at hc0 hc1 hc2 hc3 hc4 hc5 hc6 hc7 hw0 hw1 a9 b3;generalize hak:addr xs F base k=ak at *;have d3:=Ya hak;clear hak;have z:Below wr.heap.size wr (wr.alloc (.cells #[.int .i64 kind,.int .i64 op,.int .i64 d,.int .i64 a,.int .i64 W,.int .i64 imm,.string lab,.int .u32 wd] 135)):=(Below.refl _ _).alloc (Nat.le_refl _) _;have X:=a6.below z;have b2:=Zc U z;have c4:=Zc Q z;have B:=E.trans (z.mono a2);have b7:(wr.alloc (.cells #[.int .i64 kind,.int .i64 op,.int .i64 d,.int .i64 a,.int .i64 W,.int .i64 imm,.string lab,.int .u32 wd] 135)).heap[wr.heap.size]?=some (.cells #[.int .i64 kind,.int .i64 op,.int .i64 d,.int .i64 a,.int .i64 W,.int .i64 imm,.string lab,.int .u32 wd] 135 (0,0)):=heap_alloc_new _ _;have a0:=Ya b7;clear b7;have hX:∀(j:Nat)(v:Value),(#[Ys .i64 kind,.int .i64 op,.int .i64 d,.int .i64 a,.int .i64 W,.int .i64 imm,.string lab,.int .u32 wd])[j]?=some v->(wr.alloc (.cells #[.int .i64 kind,.int .i64 op,.int .i64 d,.int .i64 a,.int .i64 W,.int .i64 imm,.string lab,.int .u32 wd] 135)).cell? ⟨wr.heap.size,j,none⟩=some v:=by
     intro j v hv;rw[<- hv];exact Zaa _ _ _ _
    have c6:=hX 0 (.int .i64 kind) rfl;have d0:=hX 6 (.string lab) rfl;have b0:wr.heap.size<(wr.alloc (.cells #[.int .i64 kind,.int .i64 op,.int .i64 d,.int .i64 a,.int .i64 W,.int .i64 imm,.string lab,.int .u32 wd] 135)).heap.size:=by simp
    clear hX a6 U Q z;go_wp2_with fail
    generalize wr.alloc (.cells #[.int .i64 kind,.int .i64 op,.int .i64 d,.int .i64 a,.int .i64 W,.int .i64 imm,.string lab,.int .u32 wd] 135)=wX at *;have I:=B.size;refine(Zqy wX X (hi.below B) I k _ Hx.out t.out c1.out b3 hl d4 b4 a9 Z.out).mono ?_;rintro e w2 ⟨vw,rfl,T,q⟩;obtain⟨Aw,cw,rfl⟩:=Za T;have e8:=q.size;have H:=B.trans (q.mono I);have o:=Zc b2 q;have c3:=Zc c4 q;have b9:=X.below q;have b8:=Reads.of_own T;have b1:Aw=none->(wordsAt xs F base k).length=0:=Zbs T;have hY:∀j:Nat,w2.cell? ⟨wr.heap.size,j,none⟩=wX.cell? ⟨wr.heap.size,j,none⟩:=λ j=>q.cell (p:=⟨_,j,none⟩) b0
    rw[<- hY] at c6 d0;have e5:wr.heap.size<w2.heap.size:=by omega
    have b5:=Ya ((q.block _ b0).trans a0.out);clear hY X b2 c4 c1 a0;by_cases c2:kind=2
    .have d2:=Zsv c2
     have C2:=Ya c2;clear c2;go_wp2_with (at_builtin;refine Za2 rfl (.tmp 26) (.tmp 29) _ rfl w.heap.size 31 Zb7 underlying28 rfl _ _ _ rfl o _ Aw _ cw ((wordsAt xs F base k).map (Ys .u32)) rfl (by simp) b1 b8 (by simp[Yt]) (by simp only[maxLen];omega) (by omega) (by omega) ?_;intro d9 w3 Y f R a5;have P:=Zau c3 o (by decide) f;have u:=b9.other o (by decide) (by decide) f;have C:=H.trans R;have d5:=f.size;have y:=Zkw b5.out o (by decide) f;have c5:w3.cell? ⟨wr.heap.size,0,none⟩=some (.int .i64 kind):=Zdp y 0;have e0:w3.cell? ⟨wr.heap.size,6,none⟩=some (.string lab):=Zdp y 6;clear y;obtain⟨p0,p1,p2,p3,p4⟩:=u.cells;obtain⟨q1,q2⟩:=u.at_ (k:=k) (by omega);rw[Zbd xs F base _ k (by omega),d3.out] at q1;obtain⟨r1,r2,r3,r4⟩:=u.lts;have e2:wr.heap.size<w3.heap.size:=by omega)
     have hE:=Zo w3;refine Zar 11 1 [0,1,2,3,4,5,6,7,8,9,10] (by kernel_rfl) (by kernel_rfl) (λ _ _ _ _ _ h=>h) ?_
     repeat (first
      | (refine Zgh rfl ?_;go_big_quiet_step (fail)))
     refine wpQuiet_nil ?_;rintro _ ⟨⟨w4,D⟩,rfl⟩;simp only[List.drop_succ_cons,List.drop_zero];clear hE p0 p1 p2 p3 p4 q1 q2;have c9:=Zc Y D;have O:=Zc P D;have c7:=u.below D;have L:=C.trans (D.mono (by omega));have c8:=L.size;go_wp2_with (at_builtin;refine Zk rfl (.tmp 34) (.tmp 45) _ rfl w.heap.size 166 Zpu underlying33 rfl (by decide) #[.string lab,.int .i64 ak] _ _ _ rfl O rfl rfl rfl (by simp[Yt]) (by simp only[maxLen];omega) (by omega) c8 ?_;intro f3 w5 d7 a7 d6 e3)
     go_roundw
     case rel =>
      refine⟨k+1,by omega,by go_num,?_,?_,c7.other O (by decide) (by decide) a7,L.trans d6⟩
      .rw[outTo,Yc,Ya3]
       exact Zau c9 O (by decide) a7
      .have e:placeAt xs F base k=[(lab,ak)]:=by rw[N.out];simp[C2.out]
       rw[placesTo,e,Yc,List.flatMap_append]
       simpa[Z5] using d7
     case measure=>simp[intOf];omega
    .have d2:=Zbm c2
     have C2:=Ya c2;clear c2;go_wp2_with (at_builtin;refine Za2 rfl (.tmp 26) (.tmp 29) _ rfl w.heap.size 31 Zb7 underlying28 rfl _ _ _ rfl o _ Aw _ cw ((wordsAt xs F base k).map (Ys .u32)) rfl (by simp) b1 b8 (by simp[Yt]) (by simp only[maxLen];omega) (by omega) (by omega) ?_;intro d9 w3 Y f R a5;have P:=Zau c3 o (by decide) f;have u:=b9.other o (by decide) (by decide) f;have C:=H.trans R;have d5:=f.size;have y:=Zkw b5.out o (by decide) f;have c5:w3.cell? ⟨wr.heap.size,0,none⟩=some (.int .i64 kind):=Zdp y 0;clear y)
     go_roundw
     case rel =>
      refine⟨k+1,by omega,by go_num,?_,?_,u,C⟩
      .rw[outTo,Yc,Ya3]
       exact Y
      .have e:placeAt xs F base k=[]:=by rw[N.out];simp[C2.out]
       rw[placesTo,e,List.append_nil];exact P
     case measure=>simp[intOf];omega
   .have hkn:k=xs.length:=by omega
    subst hkn;go_wp2_with fail
    go_ret3
    exact⟨_,_,0,F,rfl,a1.out,U,Q,E⟩
