/- Parts. -/
import Derived.Test.YtldbnjajjfgipaaGreatDoorZLinkB
import Derived.Deep.DeepCutAuto
import Derived.Deep.RegionLaw
import Derived.Deep.Cut
import Derived.Deep.CutRange
import Derived.WalkMore
set_option linter.all false
set_option maxHeartbeats 4000000
open Go.Lib renaming hid->Ya
open Nat renaming le_refl->Yb,le_of_lt->Ya3
open List renaming length_append->Yd,getD_eq_getElem?_getD->Ye,getElem?_eq_some_iff->Yg,getElem?_append_left->Yn,getElem?_append_right->Yo,replicate->Yt,getElem?_map->Y9,length_map->Yaa,drop_succ_cons->Yag,take_succ_cons->Yai,drop_zero->Yak,take_zero->Yax,flatMap_cons->Ybf,getElem?_take->Ybl,length_set->Ybq,flatMap_append->Yb4,getElem?_eq_none_iff->Ycd,map_replicate->Ycz
open Go.RowKit.Below renaming refl->Yh,trans->Yba
open Go.Value renaming int->Ys,ownBlock->Yap
open Go.World renaming ownsRow_nil->Yaf,setCell->Ybv,cell?->Yb2
open Go.Region renaming wanted->Yan
namespace Go.Proofs.YtldbnjajjfgipaaGreatDoor
open S Go.Proofs.Tryz Go.RowKit
set_option maxRecDepth 100000
def Zt5 (xs:List S.Item)(w:World)(e:Ending)(w':World):Prop :=
 ∃v,e=.returned v/\w'.ownsRow w.heap.size 135 8 v xs.length (xs.flatMap Zd)/\Below w.heap.size w w'
theorem Zpk (A:Option Addr)(c:Nat)(xs:List S.Item)(w:World)(hi:Items w w.heap.size A xs)(hl:xs.length<=1048576) :
 Calls prog 191 #[.slice A xs.length c] w (Zt5 xs w):=by
 have hn:=λ(w:World) (A:Option Addr) (n c n1 c1:Nat)=>Lib.run_eql_slice_nil (P:=prog) w 103 135 A n c n1 c1 underlying103
 cases A with
 | none =>
  go_enter func191,ntmps191
  have f:xs=[]:=by
   cases xs with
   | nil=>rfl
   | cons x r =>
    obtain⟨b,off,e,_⟩:=hi (by simp)
    cases e
  subst f;go_wp2_with fail
  go_ret
  exact⟨_,rfl,Yaf _ _ _ _,Yh _ _⟩
 | some a =>
  have k:=hi.reads.below ((Yh w.heap.size w).alloc (Yb _) (.cells #[] 135));go_enter func191,ntmps191
  go_wp2_with (at_builtin;refine Zac rfl (.tmp 5) (.tmp 6) _ rfl w.heap.size 135 Zaz underlying103 rfl (by decide) _ 0 [] rfl (World.ownsRow_made w #[] 0 (Yb _) (by simp[maxLen]) (by simp)) w.heap.size (some a) xs.length c (xs.flatMap Zd) rfl (Zek xs) (λ h=>by cases h) k (Zof xs) (by simp only[maxLen];omega) (by omega) (by simp) ?_;intro v' w1 d j g i)
  go_ret
  simp only[Nat.zero_add,List.nil_append] at d;exact⟨_,rfl,d,((Yh _ _).alloc (Yb _) _).trans g⟩
def Zhz (nm:ByteArray)(its:List S.Item)(q:Nat):List S.Item:=(its.take q).map (ownItem nm)++its.drop q
theorem Zsi (nm:ByteArray)(a:List S.Item):Zhz nm a 0=a:=by simp[Zhz]
theorem Zt6 (nm:ByteArray)(a:List S.Item):Zhz nm a a.length=a.map (ownItem nm):=by simp[Zhz]
theorem Zq3 (nm:ByteArray)(a:List S.Item)(q:Nat)(h:q<a.length):(Zhz nm a q)[q]?=some a[q]:=by
 unfold Zhz;rw[Yo (by simp;omega)];simp[Nat.min_eq_left (Ya3 h)]
theorem Zsj (nm:ByteArray)(a:List S.Item)(q:Nat)(h:q<a.length):(Zhz nm a q).set q (ownItem nm a[q])=Zhz nm a (q+1):=by
 apply List.ext_getElem?
 intro i;unfold Zhz;by_cases e:i=q
 .subst e
  rw[List.getElem?_set_self (by simp;omega)];rw[Yn (by simp;omega)];simp[Ybl,h]
 .rw[List.getElem?_set_ne (Ne.symm e)]
  by_cases l:i<q
  .rw[Yn (by simp;omega),Yn (by simp;omega)]
   simp[Ybl,l,show i<q+1 by omega]
  .rw[Yo (by simp;omega),Yo (by simp;omega)]
   simp only[Yaa,List.length_take,List.getElem?_drop]
   congr 1
   omega
theorem Zyt (L:List S.Item)(q:Nat)(x:S.Item)(s:ByteArray)(h:L[q]?=some x) :
 (L.flatMap Zd).set (q*8+6) (.string s)=(L.set q ⟨x.kind,x.inst,s,x.word⟩).flatMap Zd:=by
 induction L generalizing q with
 | nil=>simp at h
 | cons y r ih =>
  cases q with
  | zero =>
   simp only[List.getElem?_cons_zero,Option.some.injEq] at h;subst h;simp[Zd]
  | succ q =>
   have h1:=ih q (by simpa using h);have a:(q+1)*8+6=(Zd y).length+(q*8+6):=by simp[Zd];omega
   rw[Ybf,a,List.set_append_right _ _ (by omega),Nat.add_sub_cancel_left,h1,List.set_cons_succ,Ybf]
theorem Zpl (nm:ByteArray)(a:List S.Item)(q:Nat)(h:q<a.length) :
 ((Zhz nm a q).flatMap Zd).set (q*8+6) (.string (owned nm a[q].label))=(Zhz nm a (q+1)).flatMap Zd:=by
 rw[Zyt _ q _ _ (Zq3 nm a q h),<- Zsj nm a q h];rfl
def Zyu (os:List S.Obj)(w:World)(e:Ending)(w':World):Prop :=
 ∃v,e=.returned v/\w'.ownsRow w.heap.size 135 8 v (joined os).length ((joined os).flatMap Zd)/\Below w.heap.size w w'
theorem Zpm {os:List S.Obj}{k:Nat}{x:S.Obj}(a:os[k]?=some x):joined (os.take (k+1))=joined (os.take k)++itemsOf x:=by
 have b:=(Yg.1 a).1;have c:os[k]=x:=by
  have:=List.getElem?_eq_getElem b;rw[a] at this;exact(Option.some.inj this).symm
 rw[List.take_succ_eq_append_getElem b,c];simp[joined]
theorem Zt7 {os:List S.Obj}(k:Nat):(joined (os.take k)).length<=(joined os).length:=by
 have h:joined os=joined (os.take k)++joined (os.drop k):=by
  unfold joined;rw[<- Yb4,List.take_append_drop]
 rw[h,Yd];omega
theorem Zpn (A:Option Addr)(c:Nat)(os:List S.Obj)(w:World)(hi:Objs w w.heap.size A os)(hl:os.length<=1048576)(ht:(joined os).length<=1048576)
 (P:∀(k:Nat)(o:S.Obj),os[k]?=some o->∀x∈o.items,o.name.size+x.label.size<=9223372036854775807) :
 Calls prog 123 #[.slice A os.length c] w (Zyu os w):=by
 have a2:=Ya P;clear P;go_enter func123,ntmps123
 go_wp2_with fail
 go_loopw [3,10] (λ v i wr=>∃k:Nat,k<=os.length/\i=.int .i64 k/\wr.ownsRow w.heap.size 135 8 v (joined (os.take k)).length ((joined (os.take k)).flatMap Zd)/\Below w.heap.size w wr) (λ _ i _=>os.length-(intOf i).toNat)
 case atStart=>exact⟨0,by omega,rfl,by simp[joined];exact Yaf _ _ _ _,Yh _ _⟩
 case round =>
  obtain⟨k,hk,rfl,T,j⟩:=hrel;by_cases a6:k<os.length
  .obtain⟨b,off,x,rfl,hb,G,hc0,⟨Ai,ci,hc1,hI⟩,hn,hlab⟩:=(hi.below j).at_ a6
   have b6:=j.size;have c0:b<wr.heap.size:=by omega
   have C:=Ya (Zpm G);have b0:=Zt7 (os:=os) (k+1);rw[C.out,Yd] at b0;have R:x.items.length<=1048576:=by
    have:(itemsOf x).length=x.items.length:=by simp[itemsOf]
    omega
   have Hx:=Ya G;have E:=Ya hlab;clear G hlab;obtain⟨nm,a⟩:=x;simp only at hc0 hc1 hn R hI;obtain⟨Y,U,x3⟩:=Zc7 wr #[.string nm,.slice Ai a.length ci] 105;go_upto_region 5 with fail
   generalize wr.alloc (.cells #[.string nm,.slice Ai a.length ci] 105)=wX at *;have N:wX.cell? ⟨wr.heap.size,0,none⟩=some (.string nm):=by simp[Yb2,Y]
   have a3:wX.cell? ⟨wr.heap.size,1,none⟩=some (.slice Ai a.length ci):=by simp[Yb2,Y]
   have s:wr.heap.size<wX.heap.size:=by omega
   have D:=Ze T U;have b2:=j.trans (U.mono (by omega));have B:=(hI.below (U.mono (by omega))).more (B':=wX.heap.size) (by omega);clear Y U x3 T hc0 hc1 hI;go_wp2_with fail
   refine(Zpk _ _ _ _ B R).mono ?_;rintro e w1 ⟨v1,rfl,Q,l⟩;have b8:=l.size;have K:w1.cell? ⟨wr.heap.size,0,none⟩=some (.string nm):=(l.cell (p:=⟨wr.heap.size,0,none⟩) s).trans N;obtain⟨A1,c1,rfl⟩:=Zc Q;clear N a3;go_wp2_with fail
   obtain⟨u,a4⟩:∃u:World,u=wr:=⟨_,rfl⟩
   subst a4;go_loopw [19] (λ i wi=>∃q:Nat,q<=a.length/\i=.int .i64 q/\wi.ownsRow wX.heap.size 135 8 (.slice A1 a.length c1) a.length ((Zhz nm a q).flatMap Zd)/\Below wX.heap.size wX wi) (λ i _=>a.length-(intOf i).toNat)
   case atStart=>exact⟨0,by omega,rfl,by rw[Zsi];exact Q,l⟩
   case round =>
    obtain⟨q,hq,rfl,d,f⟩:=hrel;by_cases t:q<a.length
    .obtain⟨g,rfl,hg1,hg2,a0,hg4,hg5⟩:=Z9 d (by omega)
     have J:=f.size;have X:wr.cell? ⟨g,q*8+6,none⟩=some (.string a[q].label):=by
      rw[hg4 _ (by omega),Zjd _ q _ (Zq3 nm a q t) 6 (by omega)];rfl
     have b7:wr.cell? ⟨u.heap.size,0,none⟩=some (.string nm):=by
      have h1:=f.cell (p:=⟨u.heap.size,0,none⟩) s;have h2:=l.cell (p:=⟨u.heap.size,0,none⟩) s;exact h1.trans (h2.symm.trans K)
     have n:a[q]∈a:=List.getElem_mem t;have a5:=E.out _ n;have F:=a2.out _ _ Hx.out _ n;simp only at F;have V:=hg5 (q*8+6);clear hg4 hg5;have hE:=Zn wr;have g1:u.heap.size<wr.heap.size:=by omega
     go_upto_region 9 with fail
     refine Za5 12 1 [0,1,2,3,4,5,6,7,8,9,10,11] (by kernel_rfl) (by kernel_rfl) (λ _ _ _ _ _ h=>h) ?_
     repeat (first
      | (refine Zf7 rfl ?_;go_big_quiet_step ((go_at_call 192;exact Zcm (Zs2 _ _ _ a5 F)))))
     refine wpQuiet_nil ?_;rintro w2 ⟨⟨w3,m⟩,rfl⟩;simp only[Yag,Yak];have b5:w2.cell? ⟨g,q*8+6,none⟩=some (.string a[q].label):=(m.cell (p:=⟨g,q*8+6,none⟩) hg2).trans X;have b3:w2.frozen? ⟨g,q*8+6,none⟩=false:=(m.frozen (p:=⟨g,q*8+6,none⟩) hg2).trans V;have z:=Ze d m;have r:=z.stored (q*8+6) (.string (owned nm a[q].label));rw[Zpl nm a q t] at r;have a8:=Ya r;have M:=f.trans (m.mono J);clear hE r;go_wp2_with fail
     go_roundw
     case rel=>exact⟨q+1,by omega,by go_num,a8.out.1,M.setCell (p:=⟨g,q*8+6,none⟩) hg1 _⟩
     case measure=>simp[intOf];omega
    .have hqe:q=a.length:=by omega
     subst hqe;rw[Zt6] at d;have J:=f.size;have H:=Ze D f;have b1:=b2.trans (f.mono (by omega));have O:∀x∈a.map (ownItem nm),0<=x.word/\x.word<=4294967295:=by
      intro x G;obtain⟨y,hy,rfl⟩:=List.mem_map.1 G;exact B.words y hy
     have W:=(Items.of_own d O).reads;have a9:A1=none->a.length=0:=λ h=>Zcv d h
     have a1:((a.map (ownItem nm)).flatMap Zd).length=a.length*8:=by rw[Zek,Yaa]
     have b9:(joined (os.take k)).length+a.length<=1048576:=by
      have:(itemsOf ⟨nm,a⟩).length=a.length:=by simp[itemsOf]
      omega
     have I:=Zof (a.map (ownItem nm));have c2:=Ya d;clear d D O;go_wp2_with (at_builtin;refine Zac rfl (.tmp 35) (.tmp 36) _ rfl w.heap.size 135 Zaz underlying103 rfl (by decide) _ _ _ rfl H wr.heap.size A1 a.length c1 _ rfl a1 a9 W I (by simp only[maxLen];omega) (by omega) (by omega) ?_;intro v' w3 a7 a0 Z b4)
     have L:w3.ownsRow w.heap.size 135 8 v' (joined (os.take (k+1))).length ((joined (os.take (k+1))).flatMap Zd):=by
      rw[C.out,Yd,Yb4];have e:(itemsOf ⟨nm,a⟩).length=a.length:=by simp[itemsOf]
      rw[e];exact a7
     exact⟨⟨k+1,by omega,by go_num,L,b1.trans Z⟩,by simp[intOf];omega⟩
  .have hke:k=os.length:=by omega
   subst hke;rw[List.take_length] at T;go_wp2_with fail
   go_ret
   exact⟨_,rfl,T,j⟩
def Zfw (xs:List S.Item)(F:List Int)(base:Int)(n:Nat):List Int:=(List.range n).map (addr xs F base)
theorem Zcd (xs:List S.Item)(F:List Int)(base:Int)(n k:Nat)(h:k<n):(Zfw xs F base n).getD k 0=addr xs F base k:=by simp[Zfw,h]
theorem Zhh (xs:List S.Item)(F:List Int)(base:Int)(n:Nat):(Zfw xs F base n).length=n:=by simp[Zfw]
def Zfc (xs:List S.Item)(s:ByteArray):Option Int:=if stands xs s<0 then none else some (stands xs s)
structure Work (w:World)(B g gF gA m n:Nat)(A:Option Addr)(c:Nat)(xs:List S.Item)(base:Int)(F T:List Int)(f:ByteArray->Option Int):Prop where
 blk:w.heap[g]?=some (.cells #[.slice A xs.length c,.int .i64 base,.slice (some ⟨gF,0,none⟩) xs.length xs.length,.slice (some ⟨gA,0,none⟩) (xs.length+1) (xs.length+1),.map (some m)] 214 (0,0))
 forms:w.ownsRow B 3 1 (.slice (some ⟨gF,0,none⟩) xs.length xs.length) xs.length (F.map (Ys .i64))
 ats:w.ownsRow B 3 1 (.slice (some ⟨gA,0,none⟩) (xs.length+1) (xs.length+1)) (xs.length+1) (T.map (Ys .i64))
 labels:MapS w m n f
 hg:B<=g
 hF:B<=gF
 hA:B<=gA
 hm:B<=m
 ne1:gF≠gA
theorem Zhi {w:World}{g:Nat}{o:Obj}(h:w.heap[g]?=some o):g<w.heap.size:=(Array.getElem?_eq_some_iff.1 h).1
theorem Zfx {w:World}{g:Nat}{cs:Array Value}{t:TypeId}(h:w.heap[g]?=some (.cells cs t (0,0)))(j:Nat):w.cell? ⟨g,j,none⟩=cs[j]?:=by simp[Yb2,h]
theorem Work.below {w w':World}{B g d b m n:Nat}{A:Option Addr}{c:Nat}{xs:List S.Item}{base:Int}{F T:List Int}{f:ByteArray->Option Int}(h:Work w B g d b m n A c xs base F T f)
 (a:Below w.heap.size w w'):Work w' B g d b m n A c xs base F T f :=
 ⟨(a.block g (Zhi h.blk)).trans h.blk,Ze h.forms a,Ze h.ats a,h.labels.below a,h.hg,h.hF,h.hA,h.hm,h.ne1⟩
theorem Work.cells {w:World}{B g b a m n:Nat}{A:Option Addr}{c:Nat}{xs:List S.Item}{base:Int}{F T:List Int}{f:ByteArray->Option Int}(h:Work w B g b a m n A c xs base F T f) :
 w.cell? ⟨g,0,none⟩=some (.slice A xs.length c)/\w.cell? ⟨g,1,none⟩=some (.int .i64 base)/\w.cell? ⟨g,2,none⟩=some (.slice (some ⟨b,0,none⟩) xs.length xs.length) /\
 w.cell? ⟨g,3,none⟩=some (.slice (some ⟨a,0,none⟩) (xs.length+1) (xs.length+1))/\w.cell? ⟨g,4,none⟩=some (.map (some m)):=by
 refine⟨?_,?_,?_,?_,?_⟩ <;> rw[Zfx h.blk] <;> rfl
theorem Work.form {w:World}{B g a b m n:Nat}{A:Option Addr}{c:Nat}{xs:List S.Item}{base:Int}{F T:List Int}{f:ByteArray->Option Int}(h:Work w B g a b m n A c xs base F T f){k:Nat}(hk:k<xs.length) :
 w.cell? ⟨a,k,none⟩=some (.int .i64 (F.getD k 0))/\w.frozen? ⟨a,k,none⟩=false:=by
 have hl:F.length=xs.length:=by have:=h.forms.1;simpa using this
 obtain⟨g',d,_,_,_,e,hf⟩:=Z9 h.forms (by omega)
 cases d
 refine⟨?_,hf k⟩;rw[e k (by omega),Y9];have:k<F.length:=by omega
 simp[this]
theorem Work.at_ {w:World}{B g b a m n:Nat}{A:Option Addr}{c:Nat}{xs:List S.Item}{base:Int}{F T:List Int}{f:ByteArray->Option Int}(h:Work w B g b a m n A c xs base F T f){k:Nat}(hk:k<=xs.length) :
 w.cell? ⟨a,k,none⟩=some (.int .i64 (T.getD k 0))/\w.frozen? ⟨a,k,none⟩=false:=by
 have hl:T.length=xs.length+1:=by have:=h.ats.1;simpa using this
 obtain⟨g',d,_,_,_,e,hf⟩:=Z9 h.ats (by omega)
 cases d
 refine⟨?_,hf k⟩;rw[e k (by omega),Y9];have:k<T.length:=by omega
 simp[this]
theorem Work.lts {w:World}{B g b a m n:Nat}{A:Option Addr}{c:Nat}{xs:List S.Item}{base:Int}{F T:List Int}{f:ByteArray->Option Int}(h:Work w B g b a m n A c xs base F T f) :
 g<w.heap.size/\b<w.heap.size/\a<w.heap.size/\m<w.heap.size :=
 ⟨Zhi h.blk,(h.forms.lt b rfl).2,(h.ats.lt a rfl).2,h.labels.lt⟩
theorem Zbg (w:World){B g k o m n:Nat}{A:Option Addr}{c:Nat}{xs:List S.Item}{base:Int}{F T:List Int}{f:ByteArray->Option Int}(h:Work w B g k o m n A c xs base F T f)
 (s:ByteArray) (l:s.size<=maxLen) (j:Nat) (hf:f s=some (j:Int)) (p:j<=xs.length) (hl:xs.length<=1048576) (t:Int) (i:T.getD j 0=t) :
 Calls prog 239 #[.pointer (some ⟨g,0,none⟩),.string s] w λ e w'=>e=.returned (.int .i64 t)/\Below w.heap.size w w':=by
 obtain⟨h0,h1,h2,h3,h4⟩:=h.cells;obtain⟨l1,l2,l3,l4⟩:=h.lts;have a:=(h.at_ p).1;rw[i] at a;clear i;have b:∀x:Ext w,(Instr.lookup 207 (.map (some m)) (.string s) false).run prog x.val=.ok (.int .i64 j) x.val:=λ x=>by
  have:=(h.labels.below x.property).look l;rw[hf] at this;exact this
 clear h1 h2 hf;go_enter func239,ntmps239
 go_wp2_with fail
 refine Z1 (by kernel_rfl) (by kernel_rfl) ?_;have hE:=Zn w
 repeat (first|go_big_quiet_step (fail))
 refine wpQuiet_nil ?_;rintro _ ⟨⟨w1,d⟩,rfl⟩;go_wp2_with fail
 go_ret
 exact⟨rfl,d⟩
theorem Z19 (n:Int):chk ⟨26,0,0,0,n⟩=if -32768<=n/\n<=32767 then 0 else 11:=by
 have hf:form 26=4:=by decide
 have a:least 26=-32768/\most 26=32767:=by decide
 simp only[chk,good,hf,hasD,hasA,hasB,reg,a.1,a.2];simp
theorem Zt8 (n:Int):chk ⟨32,0,0,0,n⟩=if -1048576<=n/\n<=1048575 then 0 else 11:=by
 have hf:form 32=5:=by decide
 have a:least 32=-1048576/\most 32=1048575:=by decide
 simp only[chk,good,hf,hasD,hasA,hasB,reg,a.1,a.2];simp
theorem Work.grown {w w':World}{B g b p m n:Nat}{A:Option Addr}{c:Nat}{xs:List S.Item}{base:Int}{F T:List Int}{f:ByteArray->Option Int}(h:Work w B g b p m n A c xs base F T f)(k:Nat)(v:Int)
 (s:w'=w.setCell ⟨b,k,none⟩ (.int .i64 v)):Work w' B g b p m n A c xs base (F.set k v) T f/\Below B w w':=by
 subst s;have q:Below B w (w.setCell ⟨b,k,none⟩ (.int .i64 v)):=(Yh _ _).setCell h.hF _;have d:=h.forms.stored k (.int .i64 v);have l:g≠b:=by
  rintro rfl;rcases h.forms.2 with⟨a,_⟩|⟨r,cap,j,a,_,hg,_⟩
  .cases a
  .cases a
   rw[h.blk] at hg
   injection hg with hg
   injection hg with _ ht
   exact absurd ht (by decide)
 have i:some m≠some b:=by
  rintro a
  cases a
  obtain⟨D,⟨es,o,hm,_⟩,_⟩:=h.labels;rcases h.forms.2 with⟨a,_⟩|⟨r,cap,j,a,_,hg,_⟩
  .cases a
  .cases a
   rw[hm] at hg
   cases hg
 refine⟨⟨?_,?_,h.ats.kept d.2 (.inr ?_),h.labels.kept d.2 i,h.hg,h.hF,h.hA,h.hm,h.ne1⟩,q⟩
 .rw[d.2.block g (Zhi h.blk) (by simpa using l)];exact h.blk
 .rw[List.map_set];exact d.1
 .simp[Yap];exact λ e=>h.ne1 e.symm
def Zng (w:World)(B g gF gA m n:Nat)(A:Option Addr)(c:Nat)(xs:List S.Item)(base:Int)(F F0:List Int)(i:Nat)(x:S.Item)(e:Ending)(w':World):Prop :=
 ∃F',e=.returned (.bool (!(fit xs F0 base i x)))/\(F'=if fit xs F0 base i x=true then F else F.set i (F.getD i 0+1)) /\
  Work w' B g gF gA m n A c xs base F' (Zfw xs F0 base (xs.length+1)) (Zfc xs)/\Below B w w'
theorem Zt9 (w:World){B g gF gA m n:Nat}{A:Option Addr}{c:Nat}{xs:List S.Item}{base:Int}{F l:List Int}(h:Work w B g gF gA m n A c xs base F (Zfw xs l base (xs.length+1)) (Zfc xs))(hi:Items w B A xs)(hB:B<=w.heap.size)
 (i:Nat) (x:S.Item) (hx:xs[i]?=some x) (Z:FormOk xs l) (v:F.getD i 0=l.getD i 0) (a4:named x=true->0<=stands xs x.label) (a0:x.label.size<=maxLen)
 (hl:xs.length<=1048576) (c5:0<=base) (c3:base<=67108864) (hw:∀x∈xs,0<=x.word/\x.word<=4294967295) :
 Calls prog 238 #[.pointer (some ⟨g,0,none⟩),.int .i64 i] w (Zng w B g gF gA m n A c xs base F l i x):=by
 have J:i<xs.length:=(Yg.1 hx).1;obtain⟨k0,k1,k2,k3,k4⟩:=h.cells;obtain⟨l1,l2,l3,l4⟩:=h.lts;obtain⟨d1,d0⟩:=h.form J;have c1:=(h.at_ (k:=i) (by omega)).1;obtain⟨b,off,x',rfl,hb,a7,b7,b5,b3,b8,c0,b0,b6,b4,Y,R⟩:=hi.at_ J;rw[hx] at a7
 cases a7
 have c9:b<w.heap.size:=by omega
 obtain⟨h3,h4,h5⟩:=Z.2 i x hx;rw[Zcd xs l base _ i (by omega)] at c1;have u:fit xs l base i x=(if (x.kind≠3/\x.kind≠4)\/(x.kind=3/\l.getD i 0=3)\/(x.kind=4/\l.getD i 0=2) then true
  else if x.kind=3/\l.getD i 0=1 then
   decide (-32768<=addr xs l base (stands xs x.label).toNat-addr xs l base (i+1)/\addr xs l base (stands xs x.label).toNat-addr xs l base (i+1)<=32767)
  else decide (-1048576<=addr xs l base (stands xs x.label).toNat-addr xs l base (i+1)/\addr xs l base (stands xs x.label).toNat-addr xs l base (i+1)<=1048575)):=rfl
 have U:addr xs l base (i+1)=addr xs l base i+size x (F.getD i 0):=by rw[addr,v];simp[sizeAt,hx]
 obtain⟨c4,c7⟩:=Zdi (base:=base) Z hw i;have c2:=Ya hw;have b2:=Ya Z;rw[U,<- v] at u;rw[<- v] at h3 h4 h5;clear Z hw U v;generalize addr xs l base i=ti at *;generalize hfk:F.getD i 0=fk at *;have C:=Ya hfk;clear hfk;by_cases a5:x.kind=3\/x.kind=4
 .have hnm:named x=true:=by unfold named;grind
  have h0:=a4 hnm;obtain⟨j,hj,c6⟩:∃j:Nat,stands xs x.label=j/\j<xs.length:=by
   rcases Zav xs x.label with⟨e,_⟩|⟨j,y,e,hj,_⟩
   .omega
   .exact⟨j,e,(Yg.1 hj).1⟩
  have a3:Zfc xs x.label=some (j:Int):=by unfold Zfc;rw[if_neg (by omega),hj]
  obtain⟨d2,c8⟩:=Zdi (base:=base) b2.out c2.out j;rw[hj,Int.toNat_natCast] at u;have a8:=Zcd xs l base (xs.length+1) j (by omega);have I:=Ya u;have a6:=Ya a8;have P:=Ya a3;have N:(x.kind=3/\fk=1)\/(x.kind=3/\fk=2)\/(x.kind=3/\fk=3)\/(x.kind=4/\fk=1)\/(x.kind=4/\fk=2):=by
   rcases a5 with k|k
   .have:=h3 k;omega
   .have:=h4 k;omega
  clear h3 h4 h5 a5 u a8 a3 hj a4 h0 hnm hx;generalize addr xs l base j=tj at *;obtain⟨kind,⟨op,d,a,H,imm⟩,lab,K⟩:=x;simp only at b7 b5 b3 b8 c0 b0 b6 b4 Y R N a0;have z:Below w.heap.size w (w.alloc (.cells #[.int .i64 kind,.int .i64 op,.int .i64 d,.int .i64 a,.int .i64 H,.int .i64 imm,.string lab,.int .u32 K] 135)):=(Yh _ _).alloc (Yb _) _;have V:=h.below z;have a1:∀w',Below w.heap.size w w'->fit xs l base i ⟨kind,⟨op,d,a,H,imm⟩,lab,K⟩=true ->
   Zng w B g gF gA m n (some ⟨b,off,none⟩) c xs base F l i ⟨kind,⟨op,d,a,H,imm⟩,lab,K⟩ (.returned (.bool false)) w' :=
   λ w' hb he=>⟨F,by rw[he];rfl,by rw[if_pos he],h.below hb,hb.mono hB⟩
  have M:=Ya a1;clear a1;rcases N with⟨rfl,rfl⟩|⟨rfl,rfl⟩|⟨rfl,rfl⟩|⟨rfl,rfl⟩|⟨rfl,rfl⟩
  rotate_left 2
  .go_enter func238,ntmps238
   go_wp2_with fail
   go_ret
   exact M.out _ z (by rw[I.out];simp)
  rotate_left 1
  .go_enter func238,ntmps238
   go_wp2_with fail
   go_ret
   exact M.out _ z (by rw[I.out];simp)
  .have hsz:size ⟨3,⟨op,d,a,H,imm⟩,lab,K⟩ 1=1:=by simp[size]
   have E:((-32768<=tj-ti-1/\tj-ti-1<=32767)/\chk ⟨26,0,0,0,tj-ti-1⟩=0/\fit xs l base i ⟨3,⟨op,d,a,H,imm⟩,lab,K⟩=true) \/
    (¬(-32768<=tj-ti-1/\tj-ti-1<=32767)/\chk ⟨26,0,0,0,tj-ti-1⟩=11/\fit xs l base i ⟨3,⟨op,d,a,H,imm⟩,lab,K⟩=false):=by
    have e:tj-(ti+1)=tj-ti-1:=by omega
    rw[I.out,hsz,Z19,e];by_cases G:-32768<=tj-ti-1/\tj-ti-1<=32767
    .left;simp[G]
    .right;simp[G]
   rcases E with⟨G,hc,p⟩|⟨G,hc,p⟩
   all_goals
    have q:=Ya p;clear p G;go_enter func238,ntmps238
    go_wp2_with fail
    refine Z1 (by kernel_rfl) (by kernel_rfl) ?_;have hE:=Zn (w.alloc (.cells #[.int .i64 3,.int .i64 op,.int .i64 d,.int .i64 a,.int .i64 H,.int .i64 imm,.string lab,.int .u32 K] 135))
    repeat (first
     | go_big_quiet_step ((first
      | (go_at_call 239;exact Zc6 (Zbg _ (V.below (Subtype.property _)) lab a0 j P.out (by omega) hl tj a6.out))
      | (go_at_call 269;exact Zc6 (Zh8 _ _ _ _ _ _ _ _ _ _ (by omega) (by omega) Y R)))))
    refine wpQuiet_nil ?_;intro w1 L;have s:=Zcn L;clear hE L;have r:Below w.heap.size w w1:=z.trans (s.mono (by simp));obtain⟨D,T⟩:=Zih s;have a9:w.heap.size+1<=w1.heap.size:=by simpa using s.size
    have a2:w.heap.size<w1.heap.size:=by omega
    have b1:w1.cell? ⟨w.heap.size,0,none⟩=some (.int .i64 3):=by rw[D _ _ (by simp)];exact Zas _ _ _ _
    have t:=h.below r;obtain⟨p0,p1,p2,p3,p4⟩:=t.cells;obtain⟨q1,q2⟩:=t.form J;rw[C.out] at q1;obtain⟨r1,r2,r3,r4⟩:=t.lts;clear D T;go_wp2_with fail
    refine(Zco _ _ _ _ _ _).mono ?_;rintro e w3 ⟨rfl,Q⟩;have f:Below w.heap.size w w3:=by
     refine Yba ?_ (Q.mono ?_)
     .exact r.alloc (by omega) _
     .simp;omega
    have o:=h.below f;obtain⟨n0,n1,n2,n3,n4⟩:=o.cells;obtain⟨W,b9⟩:=o.form J;rw[C.out] at W;obtain⟨m1,m2,m3,m4⟩:=o.lts;clear n1 n3 n4
   .go_wp2_with fail
    go_ret
    exact M.out _ f q.out
   .go_wp2_with fail
    go_ret
    obtain⟨X,O⟩:=o.grown i _ rfl;exact⟨_,by rw[q.out];rfl,by rw[q.out,C.out];rfl,X,(f.mono hB).trans O⟩
  .have hsz:size ⟨3,⟨op,d,a,H,imm⟩,lab,K⟩ 2=2:=by simp[size]
   have E:((-1048576<=tj-ti-2/\tj-ti-2<=1048575)/\chk ⟨32,0,0,0,tj-ti-2⟩=0/\fit xs l base i ⟨3,⟨op,d,a,H,imm⟩,lab,K⟩=true) \/
    (¬(-1048576<=tj-ti-2/\tj-ti-2<=1048575)/\chk ⟨32,0,0,0,tj-ti-2⟩=11/\fit xs l base i ⟨3,⟨op,d,a,H,imm⟩,lab,K⟩=false):=by
    have e:tj-(ti+2)=tj-ti-2:=by omega
    rw[I.out,hsz,Zt8,e];by_cases G:-1048576<=tj-ti-2/\tj-ti-2<=1048575
    .left;simp[G]
    .right;simp[G]
   rcases E with⟨G,hc,p⟩|⟨G,hc,p⟩
   all_goals
    have q:=Ya p;clear p G;go_enter func238,ntmps238
    go_wp2_with fail
    refine Z1 (by kernel_rfl) (by kernel_rfl) ?_;have hE:=Zn (w.alloc (.cells #[.int .i64 3,.int .i64 op,.int .i64 d,.int .i64 a,.int .i64 H,.int .i64 imm,.string lab,.int .u32 K] 135))
    repeat (first
     | go_big_quiet_step ((first
      | (go_at_call 239;exact Zc6 (Zbg _ (V.below (Subtype.property _)) lab a0 j P.out (by omega) hl tj a6.out))
      | (go_at_call 269;exact Zc6 (Zh8 _ _ _ _ _ _ _ _ _ _ (by omega) (by omega) Y R)))))
    refine wpQuiet_nil ?_;intro w1 L;have s:=Zcn L;clear hE L;have r:Below w.heap.size w w1:=z.trans (s.mono (by simp));obtain⟨D,T⟩:=Zih s;have a9:w.heap.size+1<=w1.heap.size:=by simpa using s.size
    have a2:w.heap.size<w1.heap.size:=by omega
    have b1:w1.cell? ⟨w.heap.size,0,none⟩=some (.int .i64 3):=by rw[D _ _ (by simp)];exact Zas _ _ _ _
    have t:=h.below r;obtain⟨p0,p1,p2,p3,p4⟩:=t.cells;obtain⟨q1,q2⟩:=t.form J;rw[C.out] at q1;obtain⟨r1,r2,r3,r4⟩:=t.lts;clear D T;go_wp2_with fail
    refine(Zco _ _ _ _ _ _).mono ?_;rintro e w3 ⟨rfl,Q⟩;have f:Below w.heap.size w w3:=by
     refine Yba ?_ (Q.mono ?_)
     .exact r.alloc (by omega) _
     .simp;omega
    have o:=h.below f;obtain⟨n0,n1,n2,n3,n4⟩:=o.cells;obtain⟨W,b9⟩:=o.form J;rw[C.out] at W;obtain⟨m1,m2,m3,m4⟩:=o.lts;clear n1 n3 n4
   .go_wp2_with fail
    go_ret
    exact M.out _ f q.out
   .go_wp2_with fail
    go_ret
    obtain⟨X,O⟩:=o.grown i _ rfl;exact⟨_,by rw[q.out];rfl,by rw[q.out,C.out];rfl,X,(f.mono hB).trans O⟩
  .have hsz:size ⟨4,⟨op,d,a,H,imm⟩,lab,K⟩ 1=1:=by simp[size]
   have E:((-1048576<=tj-ti-1/\tj-ti-1<=1048575)/\chk ⟨32,0,0,0,tj-ti-1⟩=0/\fit xs l base i ⟨4,⟨op,d,a,H,imm⟩,lab,K⟩=true) \/
    (¬(-1048576<=tj-ti-1/\tj-ti-1<=1048575)/\chk ⟨32,0,0,0,tj-ti-1⟩=11/\fit xs l base i ⟨4,⟨op,d,a,H,imm⟩,lab,K⟩=false):=by
    have e:tj-(ti+1)=tj-ti-1:=by omega
    rw[I.out,hsz,Zt8,e];by_cases G:-1048576<=tj-ti-1/\tj-ti-1<=1048575
    .left;simp[G]
    .right;simp[G]
   rcases E with⟨G,hc,p⟩|⟨G,hc,p⟩
   all_goals
    have q:=Ya p;clear p G;go_enter func238,ntmps238
    go_wp2_with fail
    refine Z1 (by kernel_rfl) (by kernel_rfl) ?_;have hE:=Zn (w.alloc (.cells #[.int .i64 4,.int .i64 op,.int .i64 d,.int .i64 a,.int .i64 H,.int .i64 imm,.string lab,.int .u32 K] 135))
    repeat (first
     | go_big_quiet_step ((first
      | (go_at_call 239;exact Zc6 (Zbg _ (V.below (Subtype.property _)) lab a0 j P.out (by omega) hl tj a6.out))
      | (go_at_call 269;exact Zc6 (Zh8 _ _ _ _ _ _ _ _ _ _ (by omega) (by omega) Y R)))))
    refine wpQuiet_nil ?_;intro w1 L;have s:=Zcn L;clear hE L;have r:Below w.heap.size w w1:=z.trans (s.mono (by simp));obtain⟨D,T⟩:=Zih s;have a9:w.heap.size+1<=w1.heap.size:=by simpa using s.size
    have a2:w.heap.size<w1.heap.size:=by omega
    have b1:w1.cell? ⟨w.heap.size,0,none⟩=some (.int .i64 4):=by rw[D _ _ (by simp)];exact Zas _ _ _ _
    have t:=h.below r;obtain⟨p0,p1,p2,p3,p4⟩:=t.cells;obtain⟨q1,q2⟩:=t.form J;rw[C.out] at q1;obtain⟨r1,r2,r3,r4⟩:=t.lts;clear D T;go_wp2_with fail
    refine(Zco _ _ _ _ _ _).mono ?_;rintro e w3 ⟨rfl,Q⟩;have f:Below w.heap.size w w3:=by
     refine Yba ?_ (Q.mono ?_)
     .exact r.alloc (by omega) _
     .simp;omega
    have o:=h.below f;obtain⟨n0,n1,n2,n3,n4⟩:=o.cells;obtain⟨W,b9⟩:=o.form J;rw[C.out] at W;obtain⟨m1,m2,m3,m4⟩:=o.lts;clear n1 n3 n4
   .go_wp2_with fail
    go_ret
    exact M.out _ f q.out
   .go_wp2_with fail
    go_ret
    obtain⟨X,O⟩:=o.grown i _ rfl;exact⟨_,by rw[q.out];rfl,by rw[q.out,C.out];rfl,X,(f.mono hB).trans O⟩
 .have n3:(x.kind==3)=false:=Zcp (by omega)
  have n4:(x.kind==4)=false:=Zcp (by omega);have p:fit xs l base i x=true:=by rw[u,if_pos (.inl (by omega))]
  have q:=Ya p;clear u p a4 hx h3 h4 h5;obtain⟨m3,m4⟩:x.kind≠3/\x.kind≠4:=by omega
  clear a5;obtain⟨kind,⟨op,d,a,H,imm⟩,lab,K⟩:=x;simp only at b7 b5 b3 b8 c0 b0 b6 b4 Y R n3 n4 m3 m4;have z:Below w.heap.size w (w.alloc (.cells #[.int .i64 kind,.int .i64 op,.int .i64 d,.int .i64 a,.int .i64 H,.int .i64 imm,.string lab,.int .u32 K] 135)):=(Yh _ _).alloc (Yb _) _;have V:=h.below z;go_enter func238,ntmps238
  go_wp2_with fail
  go_ret
  exact⟨F,by rw[q.out];rfl,by rw[if_pos q.out],V,z.mono hB⟩
theorem Zsk {w:World}{B b g n:Nat}{vs:List Value}{cs:Array Value}{L C:Nat}(h:w.ownsRow B 3 1 (.slice (some ⟨b,0,none⟩) L C) n vs)(hg:w.heap[g]?=some (.cells cs 214 (0,0))):g≠b:=by
 rintro rfl;rcases h.2 with⟨c,_⟩|⟨g',cap,d,c,_,a,_⟩
 .cases c
 .cases c
  rw[hg] at a
  injection a with a
  injection a with _ ht
  exact absurd ht (by decide)
theorem Zgx {w:World}{B b m k n:Nat}{vs:List Value}{f:ByteArray->Option Int}{L C:Nat}(h:w.ownsRow B 3 1 (.slice (some ⟨b,0,none⟩) L C) n vs)(hm:MapS w m k f):m≠b:=by
 rintro rfl;obtain⟨D,⟨es,c,hm,_⟩,_⟩:=hm;rcases h.2 with⟨a,_⟩|⟨g',cap,d,a,_,hg,_⟩
 .cases a
 .cases a
  rw[hm] at hg
  cases hg
theorem Work.placed {w w':World}{B g i a m n:Nat}{A:Option Addr}{c:Nat}{xs:List S.Item}{base:Int}{F T:List Int}{f:ByteArray->Option Int}(h:Work w B g i a m n A c xs base F T f)(k:Nat)(v:Int)
 (o:w'=w.setCell ⟨a,k,none⟩ (.int .i64 v)):Work w' B g i a m n A c xs base F (T.set k v) f/\Below B w w':=by
 subst o;have j:Below B w (w.setCell ⟨a,k,none⟩ (.int .i64 v)):=(Yh _ _).setCell h.hA _;have b:=h.ats.stored k (.int .i64 v);have e:=Zsk h.ats h.blk;have d:some m≠some a:=by
  intro l;exact Zgx h.ats h.labels (Option.some.inj l)
 refine⟨⟨?_,h.forms.kept b.2 (.inr ?_),?_,h.labels.kept b.2 d,h.hg,h.hF,h.hA,h.hm,h.ne1⟩,j⟩
 .rw[b.2.block g (Zhi h.blk) (by simpa using e)];exact h.blk
 .simp[Yap];exact h.ne1
 .rw[List.map_set];exact b.1
theorem Work.told {w w':World}{B g j l m n n':Nat}{A:Option Addr}{c:Nat}{xs:List S.Item}{base:Int}{F T:List Int}{f o:ByteArray->Option Int}(h:Work w B g j l m n A c xs base F T f)
 (hm:MapS w' m n' o) (hg:w.grownBy w' (some m)):Work w' B g j l m n' A c xs base F T o/\Below B w w':=by
 have d:g≠m:=by
  rintro rfl;obtain⟨D,⟨es,i,hm,_⟩,_⟩:=h.labels;rw[h.blk] at hm
  cases hm
 have b:=Zgx h.forms h.labels;have a:=Zgx h.ats h.labels;refine⟨⟨?_,h.forms.kept hg (.inr ?_),h.ats.kept hg (.inr ?_),hm,h.hg,h.hF,h.hA,h.hm,h.ne1⟩,(Yh _ _).grown hg ?_ ?_⟩
 .rw[hg.block g (Zhi h.blk) (by simpa using d)];exact h.blk
 .simp[Yap];exact λ e=>b e.symm
 .simp[Yap];exact λ e=>a e.symm
 .exact Ya3 (Nat.lt_of_le_of_lt h.hg (Zhi h.blk))
 .intro k hk
  cases hk
  exact h.hm
def Zua (w:World)(B g gF gA m n:Nat)(A:Option Addr)(c:Nat)(xs:List S.Item)(base:Int)(F:List Int)(e:Ending)(w':World):Prop :=
 Below B w w'/\((e=.returned (.bool true)/\addr xs F base xs.length<=most26/\Work w' B g gF gA m n A c xs base F (Zfw xs F base (xs.length+1)) (Zfc xs)) \/
  (e=.returned (.bool false)/\most26<addr xs F base xs.length))
theorem Zsl {w w':World}{m b:Nat}(hg:w.grownBy w' (some m))(c:b<w.heap.size)(a:b≠m)(j:Nat):w'.cell? ⟨b,j,none⟩=w.cell? ⟨b,j,none⟩:=by
 simp only[Yb2,hg.block b c (by simpa using a)]
theorem Z70 {n:Int}(h:-9223372036854775808<=n/\n<=9223372036854775807):(Lit.int .i64 n).wf=true:=by
 simp[Lit.wf,IntKind.min,IntKind.max,IntKind.signed,IntKind.bits];omega
theorem Zfd {ops:Array Oper}{rest:List Oper}{o:Oper}{a:Act}{Q:Exit->Act->World->Prop}{w:World}(hg:o.guard=none)(g:o.dst=none)(b x v:Operand)(c:o.op=Op.mapUpdate 207 b x v)
 (m n:Nat) (f:ByteArray->Option Int) (hm:a.eval b=.map (some m)) (h:MapS w m n f) (d:n<1152921504606846976) (s:ByteArray) (q:Int) (l:a.eval x=.string s) (j:a.eval v=.int .i64 q) (i:s.size<=maxLen) (e:(Lit.int .i64 q).wf=true)
 (k:∀w',MapS w' m (if (f s).isSome then n else n+1) (λ t=>if t=s then some q else f t)->w.grownBy w' (some m)->wpList prog ops Q rest a w'):wpList prog ops Q (o::rest) a w:=by
 refine Zf8 hg b x v c m n f hm h d s q l j i e ?_;intro w' h1 h2;rw[g];exact k w' h1 h2
theorem Zub {xs:List S.Item}{x:S.Item}{k:Nat}(b:stands xs x.label=k):(Zfc xs x.label).isSome=true/\(λ t=>if t=x.label then some (k:Int) else Zfc xs t)=Zfc xs:=by
 have e:Zfc xs x.label=some (k:Int):=by unfold Zfc;rw[b,if_neg (by omega)]
 refine⟨by rw[e];rfl,?_⟩
 funext t
 by_cases a:t=x.label
 .rw[if_pos a,a,e]
 .rw[if_neg a]
theorem Zuc (w:World){B g Z l m n:Nat}{A:Option Addr}{c:Nat}{xs:List S.Item}{base:Int}{F T:List Int}(h:Work w B g Z l m n A c xs base F T (Zfc xs))(hi:Items w B A xs)(hB:B<=w.heap.size)
 (b2:FormOk xs F) (hl:xs.length<=1048576) (d9:0<=base) (b0:base<=67108864) (hw:∀x∈xs,0<=x.word/\x.word<=4294967295)
 (a2:∀(k:Nat)(x:S.Item),xs[k]?=some x->x.label.size<=maxLen) (a0:∀(k:Nat)(x:S.Item),xs[k]?=some x->x.kind=2->stands xs x.label=k) (hn:n<=1048576) :
 Calls prog 237 #[.pointer (some ⟨g,0,none⟩)] w (Zua w B g Z l m n A c xs base F):=by
 obtain⟨k0,k1,k2,k3,k4⟩:=h.cells;obtain⟨l1,l2,l3,l4⟩:=h.lts;have Q:=Ya b2;have Hw:=Ya hw;have b1:=Ya a2;have b7:=Ya a0;clear b2 hw a2 a0;go_enter func237,ntmps237
 go_wp2_with fail
 go_loopw [3,15] (λ p i wr=>∃(k:Nat)(D:List Int),k<=xs.length/\i=.int .i64 k/\p=.int .i64 (addr xs F base k)/\addr xs F base k<=67108864/\Work wr B g Z l m n A c xs base F D (Zfc xs)/\(∀j,j<k->D.getD j 0=addr xs F base j)/\Below B w wr) (λ _ i _=>xs.length-(intOf i).toNat)
 case atStart =>
  exact⟨0,T,by omega,rfl,rfl,by rw[addr];exact b0,h,λ j hj=>by omega,Yh _ _⟩
 case round =>
  obtain⟨k,D,hk,rfl,rfl,c0,hW,hT,r⟩:=hrel;clear k0 k1 k2 k3 k4 l1 l2 l3 l4;obtain⟨k0,k1,k2,k3,k4⟩:=hW.cells;obtain⟨l1,l2,l3,l4⟩:=hW.lts;have HT:=Ya hT;clear hT;have e8:=r.size;obtain⟨d5,d7⟩:=Zdi (base:=base) Q.out Hw.out k;have b6:D.length=xs.length+1:=by have:=hW.ats.1;simpa using this
  have O:=Ya b6;clear b6;by_cases U:k<xs.length
  .obtain⟨b,off,x,rfl,hb,hx,hc0,hc1,hc2,hc3,hc4,hc5,hc6,hc7,hw0,hw1⟩:=(hi.below r).at_ U
   obtain⟨d4,d6⟩:=Zij Q.out Hw.out k;obtain⟨h3,h4,h5⟩:=Q.out.2 k x hx;have b3:size x (F.getD k 0)=sizeAt xs F k:=by simp[sizeAt,hx]
   have b4:=b1.out k x hx;have hd:x.kind=2->stands xs x.label=k:=b7.out k x hx;have Hd:=Ya hd;obtain⟨e6,e5⟩:=hW.form U;obtain⟨d8,e7⟩:=hW.at_ (k:=k) (by omega);have e3:b<wr.heap.size:=by omega
   have z:addr xs F base (k+1)=addr xs F base k+sizeAt xs F k:=rfl;have q:=Ya z;have H3:=Ya h3;have H4:=Ya h4;clear hx h3 h4 h5 hd z;have V:addr xs F base (k+1)<=addr xs F base xs.length:=by
    obtain⟨d,hd⟩:∃d,xs.length=k+1+d:=⟨xs.length-(k+1),by omega⟩
    have:=Zgw (base:=base) Q.out Hw.out (k+1) d;rw[<- hd] at this;exact this
   have X:=Ya V;clear V;obtain⟨kind,⟨op,d,a,M,imm⟩,lab,N⟩:=x;simp only at hc0 hc1 hc2 hc3 hc4 hc5 hc6 hc7 hw0 hw1 b4 Hd H3 H4;generalize hfk:F.getD k 0=fk at *;have c4:=Ya hfk;clear hfk;generalize hak:addr xs F base k=ak at *;have a9:=Ya hak;clear hak;generalize hse:sizeAt xs F k=se at *;clear hse;have P:(wr.setCell ⟨l,k,none⟩ (.int .i64 ak)).heap.size=wr.heap.size:=by simp[Ybv]
   obtain⟨c3,c5⟩:=hW.placed k ak rfl;have a7:Below wr.heap.size (wr.setCell ⟨l,k,none⟩ (.int .i64 ak)) ((wr.setCell ⟨l,k,none⟩ (.int .i64 ak)).alloc (.cells #[.int .i64 kind,.int .i64 op,.int .i64 d,.int .i64 a,.int .i64 M,.int .i64 imm,.string lab,.int .u32 N] 135)):=(Yh _ _).alloc (by rw[P];exact Yb _) _;have H:=c3.below (P ▸ a7);have W:Below B wr ((wr.setCell ⟨l,k,none⟩ (.int .i64 ak)).alloc (.cells #[.int .i64 kind,.int .i64 op,.int .i64 d,.int .i64 a,.int .i64 M,.int .i64 imm,.string lab,.int .u32 N] 135)):=c5.trans (a7.mono (by omega));have t:∀(j:Nat)(v:Value),(#[Ys .i64 kind,.int .i64 op,.int .i64 d,.int .i64 a,.int .i64 M,.int .i64 imm,.string lab,.int .u32 N])[j]?=some v ->
    ((wr.setCell ⟨l,k,none⟩ (.int .i64 ak)).alloc (.cells #[.int .i64 kind,.int .i64 op,.int .i64 d,.int .i64 a,.int .i64 M,.int .i64 imm,.string lab,.int .u32 N] 135)).cell? ⟨wr.heap.size,j,none⟩=some v:=by
    intro j v hv;rw[<- P,<- hv];exact Zas _ _ _ _
   have c9:=t 0 (.int .i64 kind) rfl;have d1:=t 1 (.int .i64 op) rfl;have d2:=t 2 (.int .i64 d) rfl;have d3:=t 3 (.int .i64 a) rfl;have c7:=t 4 (.int .i64 M) rfl;have d0:=t 5 (.int .i64 imm) rfl;have c6:=t 6 (.string lab) rfl;have c8:=t 7 (.int .u32 N) rfl;obtain⟨p0,p1,p2,p3,p4⟩:=H.cells;obtain⟨q1,q2⟩:=H.form U;rw[c4.out] at q1;obtain⟨r1,r2,r3,r4⟩:=H.lts;have r5:wr.heap.size<((wr.setCell ⟨l,k,none⟩ (.int .i64 ak)).alloc (.cells #[.int .i64 kind,.int .i64 op,.int .i64 d,.int .i64 a,.int .i64 M,.int .i64 imm,.string lab,.int .u32 N] 135)).heap.size:=by simp[Ybv]
   clear a7 c5 c3 t P;have Y:∀w',Work w' B g Z l m n (some ⟨b,off,none⟩) c xs base F (D.set k ak) (Zfc xs)->ak+se<=67108864->Below B wr w' ->
    ∃(k':Nat)(D:List Int),k'<=xs.length/\Ys .i64 ((k:Int)+1)=.int .i64 k'/\Ys .i64 (ak+se)=.int .i64 (addr xs F base k')/\addr xs F base k'<=67108864 /\
     Work w' B g Z l m n (some ⟨b,off,none⟩) c xs base F D (Zfc xs)/\(∀j,j<k'->D.getD j 0=addr xs F base j)/\Below B w w':=by
    intro w' h1 h2 h3;have e:=q.out;refine⟨k+1,_,by omega,by simp,by rw[e],by rw[e];exact h2,h1,λ j hj=>?_,r.trans h3⟩;by_cases y:j=k
    .subst y
     rw[Zbq (by rw[O.out];omega),a9.out]
    .rw[Zai (λ e=>y e.symm)]
     exact HT.out j (by omega)
   have a1:=Ya Y;clear Y;have f:∀(R w3:World),Work R B g Z l m n (some ⟨b,off,none⟩) c xs base F (D.set k ak) (Zfc xs)->Ext R->True:=λ _ _ _ _=>trivial
   clear f;have f:∀u:World,Calls prog 269 #[.agg #[.int .i64 kind,.int .i64 op,.int .i64 d,.int .i64 a,.int .i64 M,.int .i64 imm,.string lab,.int .u32 N],.int .i64 fk] u λ e w'=>e=.returned (.int .i64 se)/\Below u.heap.size u w':=by
    intro u;rw[<- b3];exact Zh8 _ _ _ _ _ _ _ _ _ _ H3.out H4.out hw0 hw1
   clear b3;by_cases c2:kind=2
   .subst c2
    have hd:=Hd.out rfl;obtain⟨c1,b9⟩:=Zub (xs:=xs) (x:=⟨2,⟨op,d,a,M,imm⟩,lab,N⟩) hd;simp only at c1 b9;go_wp2_with fail
    generalize (wr.setCell ⟨l,k,none⟩ (.int .i64 ak)).alloc (.cells #[.int .i64 2,.int .i64 op,.int .i64 d,.int .i64 a,.int .i64 M,.int .i64 imm,.string lab,.int .u32 N] 135)=R at *;refine Zi 7 (by kernel_rfl) (by kernel_rfl) ?_;have hE:=Zn R;simp only[Yai,Yax,Yag,Yak]
    repeat (first|go_big_quiet_step (fail))
    refine wpQuiet_nil ?_;intro w1 K;have o:=Zcn K;clear hE K;have L:=H.below o;have e0:=o.size;have t:∀(j:Nat),w1.cell? ⟨wr.heap.size,j,none⟩=R.cell? ⟨wr.heap.size,j,none⟩:=λ j=>o.cell (p:=⟨_,j,none⟩) (by show wr.heap.size<R.heap.size;omega)
    refine Zfd rfl rfl (.tmp 33) (.tmp 35) (.tmp 36) rfl m n _ rfl L.labels (by omega) lab k rfl rfl b4 (Z70 (by omega)) ?_;intro w3 b8 a5;go_wp2_with fail
    rw[if_pos c1,b9] at b8;obtain⟨s,a4⟩:=L.told b8 a5;have b5:Below B wr w3:=(W.trans (o.mono (by omega))).trans a4;have e4:=a5.size;have hY:∀(j:Nat),w3.cell? ⟨wr.heap.size,j,none⟩=R.cell? ⟨wr.heap.size,j,none⟩:=λ j=>(Zsl a5 (by omega) (by omega) j).trans (t j)
    rw[<- hY] at c9 d1 d2 d3 c7 d0 c6 c8;clear p0 p1 p2 p3 p4 q1 q2 t hY;obtain⟨p0,p1,p2,p3,p4⟩:=s.cells;obtain⟨q1,q2⟩:=s.form U;rw[c4.out] at q1;obtain⟨t1,t2,t3,t4⟩:=s.lts;have t5:wr.heap.size<w3.heap.size:=by omega
    refine Z1 (by kernel_rfl) (by kernel_rfl) ?_;have hE:=Zn w3
    repeat (first
     | go_big_quiet_step ((go_at_call 269;exact Zc6 (f _))))
    refine wpQuiet_nil ?_;intro w4 E;have J:=Zcn E;clear hE E;have a8:=s.below J;have G:Below B wr w4:=b5.trans (J.mono (by omega));by_cases C:ak+se<=67108864
    .go_wp2_with fail
     go_roundw
     case rel=>exact a1.out _ a8 C G
     case measure=>simp[intOf];omega
    .go_wp2_with fail
     go_ret
     exact⟨r.trans G,.inr ⟨rfl,by have e1:=X.out;have e2:=q.out;simp only[most26];omega⟩⟩
   .have c2':=Zcp c2
    go_wp2_with fail
    generalize (wr.setCell ⟨l,k,none⟩ (.int .i64 ak)).alloc (.cells #[.int .i64 kind,.int .i64 op,.int .i64 d,.int .i64 a,.int .i64 M,.int .i64 imm,.string lab,.int .u32 N] 135)=R at *;refine Z1 (by kernel_rfl) (by kernel_rfl) ?_;have hE:=Zn R
    repeat (first
     | go_big_quiet_step ((go_at_call 269;exact Zc6 (f _))))
    refine wpQuiet_nil ?_;intro w4 E;have J:=Zcn E;clear hE E;have a8:=H.below J;have G:Below B wr w4:=W.trans (J.mono (by omega));by_cases C:ak+se<=67108864
    .go_wp2_with fail
     go_roundw
     case rel=>exact a1.out _ a8 C G
     case measure=>simp[intOf];omega
    .go_wp2_with fail
     go_ret
     exact⟨r.trans G,.inr ⟨rfl,by have e1:=X.out;have e2:=q.out;simp only[most26];omega⟩⟩
  .have hkl:k=xs.length:=by omega
   subst hkl;have I:∀w',Work w' B g Z l m n A c xs base F (D.set xs.length (addr xs F base xs.length)) (Zfc xs)->Work w' B g Z l m n A c xs base F (Zfw xs F base (xs.length+1)) (Zfc xs):=by
    intro w' h';have e:D.set xs.length (addr xs F base xs.length)=Zfw xs F base (xs.length+1):=by
     refine Zfv (by rw[Ybq,O.out,Zhh]) λ j=>?_
     by_cases hj:j<xs.length+1
     .rw[Zcd _ _ _ _ _ hj]
      by_cases y:j=xs.length
      .subst y
       rw[Zbq (by rw[O.out];omega)]
      .rw[Zai (λ e=>y e.symm)]
       exact HT.out j (by omega)
     .rw[Ye,Ye,Ycd.2 (by rw[Ybq,O.out];omega),Ycd.2 (by rw[Zhh];omega)]
    rw[e] at h';exact h'
   have a3:=Ya I;have a6:addr xs F base xs.length<=most26:=c0;clear I;generalize hak:addr xs F base xs.length=ak at *;have a9:=Ya hak;clear hak;go_wp2_with fail
   refine Zi 11 (by kernel_rfl) (by kernel_rfl) ?_;have hE:=Zn wr;simp only[Yai,Yax,Yag,Yak]
   repeat (first|go_big_quiet_step (fail))
   refine wpQuiet_nil ?_;intro w1 K;have o:=Zcn K;clear hE K;have L:=hW.below o;obtain⟨s1,s2⟩:=L.at_ (k:=xs.length) (by omega);obtain⟨s,a4⟩:=L.placed xs.length ak rfl;go_wp2_with fail
   go_ret
   exact⟨(r.trans (o.mono (by omega))).trans a4,.inl ⟨rfl,by rw[a9.out];exact a6,a3.out _ s⟩⟩
structure AsSt (w0:World)(n:Nat)(w:World)(f a m:Option Nat):Prop where
 bel:Below w0.heap.size w0 w
 rowF:∀g,f=some g->w0.heap.size<=g/\w.ownsRow w0.heap.size 3 1 (.slice (some ⟨g,0,none⟩) n n) n (Yt n (Ys .i64 0))
 rowA:∀g,a=some g->w0.heap.size<=g/\w.ownsRow w0.heap.size 3 1 (.slice (some ⟨g,0,none⟩) (n+1) (n+1)) (n+1) (Yt (n+1) (Ys .i64 0))
 labs:∀g,m=some g->w0.heap.size<=g/\MapS w g 0 (λ _=>none)
 far:∀g h,f=some g->a=some h->g≠h
theorem AsSt.start (w0 w:World)(n:Nat)(a:Below w0.heap.size w0 w):AsSt w0 n w none none none :=
 ⟨a,λ _ h=>(by cases h),λ _ h=>(by cases h),λ _ h=>(by cases h),λ _ _ h=>(by cases h)⟩
theorem AsSt.more {w0 w w':World}{n:Nat}{f a m:Option Nat}(h:AsSt w0 n w f a m)(b:Below w.heap.size w w'):AsSt w0 n w' f a m :=
 ⟨h.bel.trans (b.mono h.bel.size),λ g e=>⟨(h.rowF g e).1,Ze (h.rowF g e).2 b⟩,λ g e=>⟨(h.rowA g e).1,Ze (h.rowA g e).2 b⟩,λ g e=>⟨(h.labs g e).1,(h.labs g e).2.below b⟩,h.far⟩
theorem Znh (w:World)(B n:Nat)(e:B<=w.heap.size)(hn:n<=1048577) :
 ∃w',(Instr.makeSlice 54 (.int .i64 n) (.int .i64 n)).run prog w=.ok (.slice (some ⟨w.heap.size,0,none⟩) n n) w' /\
  w'.ownsRow B 3 1 (.slice (some ⟨w.heap.size,0,none⟩) n n) n (Yt n (Ys .i64 0))/\Below w.heap.size w w':=by
 obtain⟨i,hi,d,a,c⟩:=info_parts Zbb;obtain⟨w',b,r1,r2⟩:=run_make_full (P:=prog) w B 54 3 i _ 1 underlying54 hi d a .i64 .i64 n (by rw[c];omega) (by simp only[maxLen];omega) e;refine⟨w',b,?_,(Yh _ _).grown r2 (Yb _) (by simp)⟩;rw[Nat.mul_one] at r1
 simpa[Value.cells,toList_madeCells_one] using r1
theorem AsSt.makeF {w0 w:World}{n:Nat}{a m:Option Nat}(h:AsSt w0 n w none a m)(hn:n<=1048576) :
 ∃w',(Instr.makeSlice 54 (.int .i64 n) (.int .i64 n)).run prog w=.ok (.slice (some ⟨w.heap.size,0,none⟩) n n) w'/\AsSt w0 n w' (some w.heap.size) a m:=by
 obtain⟨w',b,h1,h2⟩:=Znh w w0.heap.size n h.bel.size (by omega);have hm:=h.more h2;refine⟨w',b,hm.bel,?_,hm.rowA,hm.labs,?_⟩
 .rintro g ⟨⟩
  exact⟨h.bel.size,h1⟩
 .rintro g k ⟨⟩ hk e
  have:=((h.rowA k hk).2.lt k rfl).2;omega
theorem AsSt.makeA {w0 w:World}{n:Nat}{f m:Option Nat}(h:AsSt w0 n w f none m)(hn:n<=1048576) :
 ∃w',(Instr.makeSlice 54 (.int .i64 ((n:Int)+1)) (.int .i64 ((n:Int)+1))).run prog w=.ok (.slice (some ⟨w.heap.size,0,none⟩) (n+1) (n+1)) w'/\AsSt w0 n w' f (some w.heap.size) m:=by
 obtain⟨w',a,h1,h2⟩:=Znh w w0.heap.size (n+1) h.bel.size (by omega);have hm:=h.more h2;refine⟨w',by simpa using a,hm.bel,hm.rowF,?_,hm.labs,?_⟩
 .rintro g ⟨⟩
  exact⟨h.bel.size,h1⟩
 .rintro g k hg ⟨⟩ e
  have:=((h.rowF g hg).2.lt g rfl).2;omega
theorem AsSt.makeM {w0 w:World}{n:Nat}{f a:Option Nat}(h:AsSt w0 n w f a none) :
 ∃w',(Instr.makeMap 207 none).run prog w=.ok (.map (some w.heap.size)) w'/\AsSt w0 n w' f a (some w.heap.size):=by
 have hm:=h.more (w':=w.alloc (.map #[] 0)) ((Yh _ _).alloc (Yb _) _);refine⟨_,rfl,hm.bel,hm.rowF,hm.rowA,?_,hm.far⟩;rintro g ⟨⟩;exact⟨h.bel.size,MapS.made w⟩
theorem AsSt.work {w0 w:World}{A:Option Addr}{c:Nat}{xs:List S.Item}{base:Int}{b a m:Nat}(h:AsSt w0 xs.length w (some b) (some a) (some m)) :
 ∃g,w.heap.size=g/\Work (w.alloc (.cells #[.slice A xs.length c,.int .i64 base,.slice (some ⟨b,0,none⟩) xs.length xs.length,.slice (some ⟨a,0,none⟩) (xs.length+1) (xs.length+1),.map (some m)] 214))
  w0.heap.size g b a m 0 A c xs base (Yt xs.length 0) (Yt (xs.length+1) 0) (λ _=>none)/\Below w0.heap.size w0 (w.alloc (.cells #[.slice A xs.length c,.int .i64 base,.slice (some ⟨b,0,none⟩) xs.length xs.length,.slice (some ⟨a,0,none⟩) (xs.length+1) (xs.length+1),.map (some m)] 214)):=by
 have d:Below w.heap.size w (w.alloc (.cells #[.slice A xs.length c,.int .i64 base,.slice (some ⟨b,0,none⟩) xs.length xs.length,.slice (some ⟨a,0,none⟩) (xs.length+1) (xs.length+1),.map (some m)] 214)):=(Yh _ _).alloc (Yb _) _;have hm:=h.more d;refine⟨_,rfl,⟨?_,?_,?_,(hm.labs m rfl).2,h.bel.size,(hm.rowF b rfl).1,(hm.rowA a rfl).1,(hm.labs m rfl).1,h.far b a rfl rfl⟩,hm.bel⟩
 .exact heap_alloc_new _ _
 .rw[Ycz];exact(hm.rowF b rfl).2
 .rw[Ycz];exact(hm.rowA a rfl).2
theorem Zae {P:Program}{ops:Array Oper}{o:Oper}{a:Act}{w w':World}{v:Value}{K:Act->World->Prop}{Q:Exit->Act->World->Prop}{E:Prop}
 (hg:o.guard=none) (d:Option Tmp) (c:o.dst=d) (b:(execOp a.eval o).run P w=.ok (.value v) w') (e:K (a.put d v) w'):if Yan o (yielded ops a.tmps)=true then Oper.wp P o a w K Q else E:=by
 have f:Yan o (yielded ops a.tmps)=true:=by simp[Yan,hg]
 rw[if_pos f];subst c;unfold Oper.wp;rw[b];exact e
theorem Zcf {P:Program}{md:Region.Mode}{ops:Array Oper}{Q:Exit->Act->World->Prop}{f:Nat}{l:Array Bool}{a:Act}{w:World}(h:∀a0,a0=a->wpAny P md ops Q f l a0 w):wpAny P md ops Q f l a w:=h a rfl
theorem Zkn {P:Program}{ops:Array Oper}{o:Oper}{a:Act}{w w':World}{v:Value}{K:Act->World->Prop}{Q:Exit->Act->World->Prop}{E:Prop}
 (hg:o.guard=none) (t:TypeId) (x:Operand) (c:o.op=Op.makeSlice t x x) (n:Int) (h:a.eval x=.int .i64 n) (b:(Instr.makeSlice t (.int .i64 n) (.int .i64 n)).run P w=.ok v w') (d:Option Tmp) (e:o.dst=d) (g:K (a.put d v) w') :
 if Yan o (yielded ops a.tmps)=true then Oper.wp P o a w K Q else E:=by
 have f:Yan o (yielded ops a.tmps)=true:=by simp[Yan,hg]
 rw[if_pos f];subst e;unfold Oper.wp;simp[execOp,c,h,b,Result.andThen];exact g
theorem Zyv {P:Program}{ops:Array Oper}{o:Oper}{a:Act}{w w':World}{v:Value}{K:Act->World->Prop}{Q:Exit->Act->World->Prop}{E:Prop}
 (hg:o.guard=none) (t:TypeId) (c:o.op=Op.makeMap t none) (b:(Instr.makeMap t none).run P w=.ok v w') (d:Option Tmp) (e:o.dst=d) (f:K (a.put d v) w') :
 if Yan o (yielded ops a.tmps)=true then Oper.wp P o a w K Q else E:=by
 have g:Yan o (yielded ops a.tmps)=true:=by simp[Yan,hg]
 rw[if_pos g];subst e;unfold Oper.wp;simp[execOp,c,b,Result.andThen];exact f
theorem Zc0 {ops:Array Oper}{o:Oper}{a:Act}{w0 w:World}{n:Nat}{c fm:Option Nat}{K:Act->World->Prop}{Q:Exit->Act->World->Prop}{E:Prop}(h:AsSt w0 n w none c fm)(e:n<=1048576)
 (hg:o.guard=none) (x:Operand) (b:o.op=Op.makeSlice 54 x x) (j:a.eval x=.int .i64 n) (d:Option Tmp) (f:o.dst=d)
 (i:∀w',AsSt w0 n w' (some w.heap.size) c fm->K (a.put d (.slice (some ⟨w.heap.size,0,none⟩) n n)) w'):if Yan o (yielded ops a.tmps)=true then Oper.wp prog o a w K Q else E:=by
 obtain⟨w',r,g⟩:=h.makeF e;exact Zkn hg _ x b n j r d f (i w' g)
theorem Zc1 {ops:Array Oper}{o:Oper}{a:Act}{w0 w:World}{n:Nat}{c fm:Option Nat}{K:Act->World->Prop}{Q:Exit->Act->World->Prop}{E:Prop}(h:AsSt w0 n w c none fm)(e:n<=1048576)
 (hg:o.guard=none) (x:Operand) (b:o.op=Op.makeSlice 54 x x) (j:a.eval x=.int .i64 ((n:Int)+1)) (d:Option Tmp) (f:o.dst=d)
 (i:∀w',AsSt w0 n w' c (some w.heap.size) fm->K (a.put d (.slice (some ⟨w.heap.size,0,none⟩) (n+1) (n+1))) w'):if Yan o (yielded ops a.tmps)=true then Oper.wp prog o a w K Q else E:=by
 obtain⟨w',r,g⟩:=h.makeA e;exact Zkn hg _ x b _ j r d f (i w' g)
theorem Zc2 {ops:Array Oper}{o:Oper}{a:Act}{w0 w:World}{n:Nat}{e c:Option Nat}{K:Act->World->Prop}{Q:Exit->Act->World->Prop}{E:Prop}(h:AsSt w0 n w e c none)
 (hg:o.guard=none) (b:o.op=Op.makeMap 207 none) (d:Option Tmp) (f:o.dst=d)
 (i:∀w',AsSt w0 n w' e c (some w.heap.size)->K (a.put d (.map (some w.heap.size))) w'):if Yan o (yielded ops a.tmps)=true then Oper.wp prog o a w K Q else E:=by
 obtain⟨w',r,g⟩:=h.makeM;exact Zyv hg _ b r d f (i w' g)
structure Tab (xs:List S.Item)(k:Nat)(f:ByteArray->Option Int)(tw:Bool):Prop where
 has:∀s,(f s).isSome=true↔∃(j:Nat)(x:S.Item),j<k/\xs[j]?=some x/\x.kind=2/\x.label=s
 val:tw=false->∀s v,f s=some v->v=stands xs s
 dup:tw=true↔∃(j:Nat)(x:S.Item),j<k/\xs[j]?=some x/\x.kind=2/\stands xs x.label≠j
theorem Tab.start (xs:List S.Item):Tab xs 0 (λ _=>none) false :=
 ⟨λ s=>by simp,λ _ s v h=>by simp at h,by simp⟩
theorem Tab.other {xs:List S.Item}{k:Nat}{f:ByteArray->Option Int}{a:Bool}(h:Tab xs k f a){x:S.Item}(b:xs[k]?=some x)(c:x.kind≠2):Tab xs (k+1) f a:=by
 refine⟨λ s=>(h.has s).trans ?_,h.val,h.dup.trans ?_⟩
 .constructor
  .rintro⟨j,y,h1,h2⟩;exact⟨j,y,by omega,h2⟩
  .rintro⟨j,y,h1,h2,h3,h4⟩
   have:j≠k:=by rintro rfl;rw[b] at h2;cases h2;exact c h3
   exact⟨j,y,by omega,h2,h3,h4⟩
 .constructor
  .rintro⟨j,y,h1,h2⟩;exact⟨j,y,by omega,h2⟩
  .rintro⟨j,y,h1,h2,h3,h4⟩
   have:j≠k:=by rintro rfl;rw[b] at h2;cases h2;exact c h3
   exact⟨j,y,by omega,h2,h3,h4⟩
theorem Tab.label {xs:List S.Item}{k:Nat}{f:ByteArray->Option Int}{l:Bool}(h:Tab xs k f l){x:S.Item}(c:xs[k]?=some x)(g:x.kind=2) :
 Tab xs (k+1) (λ t=>if t=x.label then some (k:Int) else f t) (l || (f x.label).isSome):=by
 have a:(f x.label).isSome=false↔stands xs x.label=k:=by
  rw[<- Bool.not_eq_true,h.has];rcases Zav xs x.label with⟨_,h2⟩|⟨j,y,h1,h2,h3,b,m⟩
  .exact absurd ⟨g,rfl⟩ (h2 k x c)
  .constructor
   .intro hn
    rcases Nat.lt_trichotomy j k with d|d|d
    .exact absurd ⟨j,y,d,h2,h3,b⟩ hn
    .rw[h1,d]
    .exact absurd ⟨g,rfl⟩ (m k x d c)
   .rintro hs ⟨i,z,h6,h7,h8,h9⟩
    have:j=k:=by rw[h1] at hs;omega
    subst this;exact m i z h6 h7 ⟨h8,h9⟩
 refine⟨λ s=>?_,?_,?_⟩
 .by_cases e:s=x.label
  .simp only[e,if_true]
   constructor
   .intro _;exact⟨k,x,by omega,c,g,rfl⟩
   .intro _;rfl
  .simp only[e,if_false]
   rw[h.has]
   constructor
   .rintro⟨j,y,h1,h2⟩;exact⟨j,y,by omega,h2⟩
   .rintro⟨j,y,h1,h2,h3,b⟩
    have:j≠k:=by rintro rfl;rw[c] at h2;cases h2;exact e b.symm
    exact⟨j,y,by omega,h2,h3,b⟩
 .intro ht s v hv
  rw[Bool.or_eq_false_iff] at ht;by_cases e:s=x.label
  .simp only[e,if_true] at hv
   cases hv
   rw[e,a.1 ht.2]
  .simp only[e,if_false] at hv
   exact h.val ht.1 s v hv
 .rw[Bool.or_eq_true,h.dup]
  constructor
  .rintro(⟨j,y,h1,h2⟩|hs)
   .exact⟨j,y,by omega,h2⟩
   .refine⟨k,x,by omega,c,g,λ e=>?_⟩
    rw[<- a,hs] at e
    cases e
  .rintro⟨j,y,h1,h2,h3,b⟩
   by_cases e:j=k
   .right
    subst e;rw[c] at h2;cases h2
    cases hb:(f x.label).isSome with
    | true=>rfl
    | false=>exact absurd (a.1 hb) b
   .left;exact⟨j,y,by omega,h2,h3,b⟩
theorem Tab.done {xs:List S.Item}{f:ByteArray->Option Int}(h:Tab xs xs.length f false):f=Zfc xs/\¬Dup xs:=by
 constructor
 .funext s
  unfold Zfc;rcases Zav xs s with⟨h1,h2⟩|⟨j,y,h1,h2,h3,d,h5⟩
  .rw[h1,if_pos (by omega)]
   cases hf:f s with
   | none=>rfl
   | some v =>
    obtain⟨j,x,_,b,c,e⟩:=(h.has s).1 (by rw[hf];rfl);exact absurd ⟨c,e⟩ (h2 j x b)
  .rw[h1,if_neg (by omega)]
   have a:=(h.has s).2 ⟨j,y,(Yg.1 h2).1,h2,h3,d⟩
   cases hf:f s with
   | none=>rw[hf] at a;cases a
   | some v=>rw[h.val rfl s v hf,h1]
 .rintro⟨i,x,b,c,a⟩
  have:=h.dup.2 ⟨i,x,(Yg.1 b).1,b,c,a⟩
  cases this
theorem Tab.twice {xs:List S.Item}{f:ByteArray->Option Int}(h:Tab xs xs.length f true):Dup xs:=by
 obtain⟨j,x,_,b,c,a⟩:=h.dup.1 rfl;exact⟨j,x,b,c,a⟩
theorem Tab.shut {xs:List S.Item}{f:ByteArray->Option Int}(h:Tab xs xs.length f false){k:Nat}{x:S.Item}(a:xs[k]?=some x)(b:x.kind=2):stands xs x.label=k:=by
 by_cases e:stands xs x.label=k
 .exact e
 .exact absurd ⟨k,x,a,b,e⟩ h.done.2
