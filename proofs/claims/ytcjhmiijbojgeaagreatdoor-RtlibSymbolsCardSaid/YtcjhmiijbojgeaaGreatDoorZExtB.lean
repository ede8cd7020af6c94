/- Parts. -/
import Derived.Test.YtcjhmiijbojgeaaGreatDoorShelf
import Derived.Test.YtcjhmiijbojgeaaGreatDoorZQd
import Derived.Lib.AppendIntMem
import Derived.Lib.SmallJoins
import Derived.Laws.BytesArg
import Derived.Deep.RegionWith
import Derived.Deep.DeepCutAuto
import Derived.Deep.CutBlock
set_option linter.all false
set_option maxHeartbeats 4000000
open Go.Lib renaming hid->Ya,cell_of_heap->Yb
open Nat renaming le_refl->Yc,lt_of_lt_of_le->Ys,le_trans->Yz,zero_add->Y2
open List renaming getElem?_eq_getElem->Ye,length_cons->Yk,getElem?_append_left->Yn,getElem?_append_right->Yo,mem_of_getElem?->Y1,cons_append->Y9,length_take->Yaa,nil_append->Yae,getElem?_map->Yaf,mem_append->Yag,take_length->Yap,flatMap_cons->Yaz,getElem?_take->Ybi
open Go.RowKit.Below renaming refl->Yj
open Go.Value renaming int->Yu
namespace Go.Proofs.YtcjhmiijbojgeaaGreatDoor
open S Go.Proofs.Tryz Go.RowKit
set_option maxRecDepth 100000
structure LVE (w:World):Prop where
 tab : Lib.TabIs prog w "internal/strconv.uint64pow10" .u64 Lib.pow10Tab
 size:3<=w.heap.size
theorem Ztq : prog.globalNamed "internal/strconv.uint64pow10" = some 0 := by kernel_rfl
theorem LVE.keep {w w':World}(h:LVE w){B:Nat}(b:Below B w w')(hB:3<=B):LVE w':=by
 refine⟨?_,Yz h.size b.size⟩;have a:=h.tab;unfold Lib.TabIs World.var? at a⊢;rw[Ztq] at a⊢;simp only[Option.bind_some] at a⊢;rw[b.block 0 (by omega)];exact a
theorem LVE.on {w w':World}(h:LVE w)(a:Below w.heap.size w w'):LVE w':=h.keep a h.size
def I64 (n:Int):Prop:=-9223372036854775808<=n/\n<=9223372036854775807
theorem Ztr (n:Int)(h:I64 n)(w:World)(b:LVE w) :
 Calls prog 108 #[.int .i64 n] w λ e w'=>e=.returned (.string ⟨(S.itoa n).toArray⟩)/\Below w.heap.size w w':=by
 obtain⟨h0,a⟩:=h;refine(Tryz.strconv_Itoa n h0 a w b.tab).mono ?_;rintro e w' ⟨rfl,k,os,rfl⟩;refine⟨by rw[Z1z (by omega)],?_⟩;exact Lib.below_grow _ _ (Yc _) _ _
theorem Zdx:∀(f u:Nat),(digF f u).length<=f+1
 | 0,u=>by simp[digF]
 | f+1,u=>by
  simp only[digF]
  split
  .simp
  .have:=Zdx f (u/10)
   rw[List.length_append];simp;omega
theorem Zpx (n:Int):(S.itoa n).length<=22:=by
 unfold S.itoa;have h1:=Zdx 20 n.natAbs;have h2:=Zdx 20 n.toNat
 split
 .simp;omega
 .omega
theorem Z1k (a b:List UInt8):(⟨a.toArray⟩:ByteArray)++⟨b.toArray⟩=⟨(a++b).toArray⟩:=by
 apply ByteArray.ext
 apply Array.toList_inj.1
 rw[Go.Joins.data_append]
theorem Z1l {a b:ByteArray}(h:a=b):Ending.returned (.string a)=.returned (.string b):=by rw[h]
section
theorem Z6r {d:Int}(hd:0<=d/\d<=31):good ⟨34,d,0,0,0⟩=true:=by
 have hf:form 34=6:=by decide
 have a:least 34=0/\most 34=0:=by decide
 simp[good,hf,a.1,a.2,reg,hasD,hasA,hasB];omega
theorem Zts {op a:Int}(c:op=35\/op=36)(ha:0<=a/\a<=31):good ⟨op,0,a,0,0⟩=true:=by
 rcases c with rfl|rfl
 .have hf:form 35=7:=by decide
  have b:least 35=0/\most 35=0:=by decide
  simp[good,hf,b.1,b.2,reg,hasD,hasA,hasB];omega
 .have hf:form 36=7:=by decide
  have b:least 36=0/\most 36=0:=by decide
  simp[good,hf,b.1,b.2,reg,hasD,hasA,hasB];omega
theorem Zjy:allChk []:=λ _ h=>by cases h
theorem Zbo {a b:List S.Item}(h:allChk a)(k:allChk b):allChk (a++b):=λ x c=>(Yag.1 c).elim (h x) (k x)
theorem Z1 {x:S.Item}{b:List S.Item}(h:chkItem x=0)(k:allChk b):allChk (x::b):=λ y a=>(List.mem_cons.1 a).elim (λ e=>e ▸ h) (k y)
theorem Zjz {x:S.Item}(h:chkItem x=0):allChk [x]:=Z1 h Zjy
theorem Z33 {op d a b n:Int}(h:good ⟨op,d,a,b,n⟩=true):chkItem (bI op d a b n)=0:=Zyp h
theorem Zj0 (s:ByteArray):chkItem (bL s)=0:=by simp[chkItem,bL]
section
end
end
def Ztt (xs:List S.Item)(w:World)(e:Ending)(w':World):Prop :=
 ∃v,e=.returned v/\w'.ownsRow w.heap.size 79 8 v xs.length (xs.flatMap Zb)/\Below w.heap.size w w'
theorem Zok (A:Option Addr)(c:Nat)(xs:List S.Item)(w:World)(hi:Items w w.heap.size A xs)(hl:xs.length<=1048576) :
 Calls prog 173 #[.slice A xs.length c] w (Ztt xs w):=by
 have hn:=λ(w:World) (A:Option Addr) (n c j c1:Nat)=>Lib.run_eql_slice_nil (P:=prog) w 80 79 A n c j c1 underlying80
 cases A with
 | none =>
  go_enter func173,ntmps173
  have g:xs=[]:=by
   cases xs with
   | nil=>rfl
   | cons x r =>
    obtain⟨b,off,e,_⟩:=hi (by simp)
    cases e
  subst g;go_wp2_with fail
  go_ret
  exact⟨_,rfl,World.ownsRow_nil _ _ _ _,Yj _ _⟩
 | some a =>
  have l:=hi.reads.below ((Yj w.heap.size w).alloc (Yc _) (.cells #[] 79));go_enter func173,ntmps173
  go_wp2_with (at_builtin;refine Zs rfl (.tmp 5) (.tmp 6) _ rfl w.heap.size 79 Zv underlying80 rfl (by decide) _ 0 [] rfl (World.ownsRow_made w #[] 0 (Yc _) (by simp[maxLen]) (by simp)) w.heap.size (some a) xs.length c (xs.flatMap Zb) rfl (Zd3 xs) (λ h=>by cases h) l (Zd4 xs) (by simp only[maxLen];omega) (by omega) (by simp) ?_;intro v' w1 d k f i)
  go_ret
  simp only[Y2,Yae] at d;exact⟨_,rfl,d,((Yj _ _).alloc (Yc _) _).trans f⟩
def Zg4 (nm:ByteArray)(its:List S.Item)(q:Nat):List S.Item:=(its.take q).map (ownItem nm)++its.drop q
theorem Zra (nm:ByteArray)(a:List S.Item):Zg4 nm a 0=a:=by simp[Zg4]
theorem Ztu (nm:ByteArray)(a:List S.Item):Zg4 nm a a.length=a.map (ownItem nm):=by simp[Zg4]
theorem Zpy (nm:ByteArray)(a:List S.Item)(q:Nat)(h:q<a.length):(Zg4 nm a q)[q]?=some a[q]:=by
 unfold Zg4;rw[Yo (by simp;omega)];simp[Nat.min_eq_left (Nat.le_of_lt h)]
theorem Zrb (nm:ByteArray)(a:List S.Item)(q:Nat)(h:q<a.length):(Zg4 nm a q).set q (ownItem nm a[q])=Zg4 nm a (q+1):=by
 apply List.ext_getElem?
 intro i;unfold Zg4;by_cases e:i=q
 .subst e
  rw[List.getElem?_set_self (by simp;omega)];rw[Yn (by simp;omega)];simp[Ybi,h]
 .rw[List.getElem?_set_ne (Ne.symm e)]
  by_cases l:i<q
  .rw[Yn (by simp;omega),Yn (by simp;omega)]
   simp[Ybi,l,show i<q+1 by omega]
  .rw[Yo (by simp;omega),Yo (by simp;omega)]
   simp only[List.length_map,Yaa,List.getElem?_drop]
   congr 1
   omega
theorem Zxv (L:List S.Item)(q:Nat)(x:S.Item)(s:ByteArray)(h:L[q]?=some x) :
 (L.flatMap Zb).set (q*8+6) (.string s)=(L.set q ⟨x.kind,x.inst,s,x.word⟩).flatMap Zb:=by
 induction L generalizing q with
 | nil=>simp at h
 | cons y r ih =>
  cases q with
  | zero =>
   simp only[List.getElem?_cons_zero,Option.some.injEq] at h;subst h;simp[Zb]
  | succ q =>
   have b:=ih q (by simpa using h);have a:(q+1)*8+6=(Zb y).length+(q*8+6):=by simp[Zb];omega
   rw[Yaz,a,List.set_append_right _ _ (by omega),Nat.add_sub_cancel_left,b,List.set_cons_succ,Yaz]
theorem Zol (nm:ByteArray)(a:List S.Item)(q:Nat)(h:q<a.length) :
 ((Zg4 nm a q).flatMap Zb).set (q*8+6) (.string (owned nm a[q].label))=(Zg4 nm a (q+1)).flatMap Zb:=by
 rw[Zxv _ q _ _ (Zpy nm a q h),<- Zrb nm a q h];rfl
def Zfe (xs:List S.Item)(F:List Int)(base:Int)(n:Nat):List Int:=(List.range n).map (addr xs F base)
theorem Zbu (xs:List S.Item)(F:List Int)(base:Int)(n k:Nat)(h:k<n):(Zfe xs F base n).getD k 0=addr xs F base k:=by simp[Zfe,h]
theorem Zgr (xs:List S.Item)(F:List Int)(base:Int)(n:Nat):(Zfe xs F base n).length=n:=by simp[Zfe]
def Zen (xs:List S.Item)(s:ByteArray):Option Int:=if stands xs s<0 then none else some (stands xs s)
structure Work (w:World)(B g gF gA m n:Nat)(A:Option Addr)(c:Nat)(xs:List S.Item)(base:Int)(F T:List Int)(f:ByteArray->Option Int):Prop where
 blk:w.heap[g]?=some (.cells #[.slice A xs.length c,.int .i64 base,.slice (some ⟨gF,0,none⟩) xs.length xs.length,.slice (some ⟨gA,0,none⟩) (xs.length+1) (xs.length+1),.map (some m)] 206 (0,0))
 forms:w.ownsRow B 3 1 (.slice (some ⟨gF,0,none⟩) xs.length xs.length) xs.length (F.map (Yu .i64))
 ats:w.ownsRow B 3 1 (.slice (some ⟨gA,0,none⟩) (xs.length+1) (xs.length+1)) (xs.length+1) (T.map (Yu .i64))
 labels:MapS w m n f
 hg:B<=g
 hF:B<=gF
 hA:B<=gA
 hm:B<=m
 ne1:gF≠gA
theorem Zgs {w:World}{g:Nat}{o:Obj}(h:w.heap[g]?=some o):g<w.heap.size:=(Array.getElem?_eq_some_iff.1 h).1
theorem Zd9 {w:World}{g:Nat}{cs:Array Value}{t:TypeId}(h:w.heap[g]?=some (.cells cs t (0,0)))(j:Nat):w.cell? ⟨g,j,none⟩=cs[j]?:=by simp[World.cell?,h]
theorem Work.below {w w':World}{B g b d m n:Nat}{A:Option Addr}{c:Nat}{xs:List S.Item}{base:Int}{F T:List Int}{f:ByteArray->Option Int}(h:Work w B g b d m n A c xs base F T f)
 (a:Below w.heap.size w w'):Work w' B g b d m n A c xs base F T f :=
 ⟨(a.block g (Zgs h.blk)).trans h.blk,Zc h.forms a,Zc h.ats a,h.labels.below a,h.hg,h.hF,h.hA,h.hm,h.ne1⟩
theorem Work.cells {w:World}{B g a b m n:Nat}{A:Option Addr}{c:Nat}{xs:List S.Item}{base:Int}{F T:List Int}{f:ByteArray->Option Int}(h:Work w B g a b m n A c xs base F T f) :
 w.cell? ⟨g,0,none⟩=some (.slice A xs.length c)/\w.cell? ⟨g,1,none⟩=some (.int .i64 base)/\w.cell? ⟨g,2,none⟩=some (.slice (some ⟨a,0,none⟩) xs.length xs.length) /\
 w.cell? ⟨g,3,none⟩=some (.slice (some ⟨b,0,none⟩) (xs.length+1) (xs.length+1))/\w.cell? ⟨g,4,none⟩=some (.map (some m)):=by
 refine⟨?_,?_,?_,?_,?_⟩ <;> rw[Zd9 h.blk] <;> rfl
theorem Work.form {w:World}{B g a e m n:Nat}{A:Option Addr}{c:Nat}{xs:List S.Item}{base:Int}{F T:List Int}{f:ByteArray->Option Int}(h:Work w B g a e m n A c xs base F T f){k:Nat}(hk:k<xs.length) :
 w.cell? ⟨a,k,none⟩=some (.int .i64 (F.getD k 0))/\w.frozen? ⟨a,k,none⟩=false:=by
 have hl:F.length=xs.length:=by have:=h.forms.1;simpa using this
 obtain⟨g',d,_,_,_,b,hf⟩:=Zan h.forms (by omega)
 cases d
 refine⟨?_,hf k⟩;rw[b k (by omega),Yaf];have:k<F.length:=by omega
 simp[this]
theorem Work.at_ {w:World}{B g e a m n:Nat}{A:Option Addr}{c:Nat}{xs:List S.Item}{base:Int}{F T:List Int}{f:ByteArray->Option Int}(h:Work w B g e a m n A c xs base F T f){k:Nat}(hk:k<=xs.length) :
 w.cell? ⟨a,k,none⟩=some (.int .i64 (T.getD k 0))/\w.frozen? ⟨a,k,none⟩=false:=by
 have hl:T.length=xs.length+1:=by have:=h.ats.1;simpa using this
 obtain⟨g',d,_,_,_,b,hf⟩:=Zan h.ats (by omega)
 cases d
 refine⟨?_,hf k⟩;rw[b k (by omega),Yaf];have:k<T.length:=by omega
 simp[this]
theorem Work.lts {w:World}{B g a b m n:Nat}{A:Option Addr}{c:Nat}{xs:List S.Item}{base:Int}{F T:List Int}{f:ByteArray->Option Int}(h:Work w B g a b m n A c xs base F T f) :
 g<w.heap.size/\a<w.heap.size/\b<w.heap.size/\m<w.heap.size :=
 ⟨Zgs h.blk,(h.forms.lt a rfl).2,(h.ats.lt b rfl).2,h.labels.lt⟩
theorem Zar (w:World){B g l o m n:Nat}{A:Option Addr}{c:Nat}{xs:List S.Item}{base:Int}{F T:List Int}{f:ByteArray->Option Int}(h:Work w B g l o m n A c xs base F T f)
 (s:ByteArray) (r:s.size<=maxLen) (j:Nat) (hf:f s=some (j:Int)) (q:j<=xs.length) (hl:xs.length<=1048576) (t:Int) (i:T.getD j 0=t) :
 Calls prog 199 #[.pointer (some ⟨g,0,none⟩),.string s] w λ e w'=>e=.returned (.int .i64 t)/\Below w.heap.size w w':=by
 obtain⟨h0,p,k,h3,h4⟩:=h.cells;obtain⟨l1,l2,l3,l4⟩:=h.lts;have d:=(h.at_ q).1;rw[i] at d;clear i;have b:∀x:Ext w,(Instr.lookup 199 (.map (some m)) (.string s) false).run prog x.val=.ok (.int .i64 j) x.val:=λ x=>by
  have:=(h.labels.below x.property).look r;rw[hf] at this;exact this
 clear p k hf;go_enter func199,ntmps199
 go_wp2_with fail
 refine Zq (by kernel_rfl) (by kernel_rfl) ?_;have hE:=Zk w
 repeat (first|go_big_quiet_step (fail))
 refine wpQuiet_nil ?_;rintro _ ⟨⟨w1,a⟩,rfl⟩;go_wp2_with fail
 go_ret
 exact⟨rfl,a⟩
theorem Zcu:(prog.info? 31).map (λ i=>(i.zero,i.size,i.bytes))=some (some (.int .u32 0),1,4):=by kernel_rfl
def Told (w:World)(L:List Int)(e:Ending)(w':World):Prop :=
 ∃v,e=.returned v/\w'.ownsRow w.heap.size 31 1 v L.length (L.map (Yu .u32))/\Below w.heap.size w w'
theorem Zea {w w1:World}{L:List Int}{cs:Array Value}{n:Nat}(c:n=L.length)(b:Below w.heap.size w w1)(a:cs=(L.map (Yu .u32)).toArray)(h:L.length<=1000) :
 Told w L (.returned (.slice (some ⟨w1.heap.size,0,none⟩) n n)) (w1.alloc (.cells cs 31)):=by
 subst a c;refine⟨_,rfl,?_,b.alloc b.size _⟩;have d:=World.ownsRow_lit (base:=w.heap.size) (size:=1) (e:=31) w1 (L.map (Yu .u32)).toArray L.length b.size (by simp only[maxLen];omega) (by simp)
 simpa using d
theorem Zrc:(prog.info? 132).map (λ i=>(i.zero,i.size,i.bytes))=some (some (.agg #[.string ByteArray.empty,.int .i64 0]),2,24):=by kernel_rfl
def Z7 (p:ByteArray×Int):List Value:=[.string p.1,.int .i64 p.2]
def Ztv (w:World)(xs:List S.Item)(base:Int)(e:Ending)(w':World):Prop :=
 ∃vo vp r F,e=.returned (.tuple #[vo,vp,.int .i64 r])/\FormsRes xs base r F /\
  w'.ownsRow w.heap.size 31 1 vo (if r=0 then outTo xs F base xs.length else []).length ((if r=0 then outTo xs F base xs.length else []).map (Yu .u32)) /\
  w'.ownsRow w.heap.size 132 2 vp (if r=0 then placesTo xs F base xs.length else []).length ((if r=0 then placesTo xs F base xs.length else []).flatMap Z7) /\
  Below w.heap.size w w'
theorem Zhz (e:BE):∀(l:List BE)(i:Nat),needEs (l++[e]) i=max (needEs l i) (i+l.length+max 1 (needE e))
 | [],i=>by simp only[Yae,needEs,List.length_nil];omega
 | x::r,i=>by
  rw[Y9,needEs,needEs,Zhz e r (i+1)];simp only[Yk];omega
mutual
theorem Zxw:∀(e:BE),needE e<=szE e
 | .mk op n name kids=>by
  rw[needE,szE];have:=Zff kids 0;omega
theorem Zff:∀(l:List BE)(i:Nat),needEs l i<=i+Zem l
 | [],i=>by rw[needEs];omega
 | e::r,i=>by
  rw[needEs,Zem];have h1:=Zxw e;have h2:=Zff r (i+1);have h3:=Zdj e;omega
end
theorem Zdf {α:Type}(l:List α){k:Nat}{x:α}(h:l[k]?=some x):l.take (k+1)=l.take k++[x]:=by
 rw[List.take_add_one,h];rfl
theorem Zom (l m:List BE):Zem (l++m)=Zem l+Zem m:=by
 induction l with
 | nil=>rw[Yae,Zem,Y2]
 | cons x r ih=>rw[Y9,Zem,Zem,ih,Nat.add_assoc]
theorem Ztw (l:List BE)(k:Nat):Zem (l.take k)<=Zem l:=by
 have:Zem l=Zem (l.take k)+Zem (l.drop k):=by rw[<- Zom,List.take_append_drop]
 omega
theorem Zeb:∀l:List BE,l.length<=Zem l
 | []=>by simp
 | e::r=>by
  rw[Zem,Yk];have:=Zeb r;have:=Zdj e;omega
theorem Z35:∀(n:Nat)(A:Option Addr)(c:Nat)(l:List BE)(w:World),Zem l<=n->n<=1000000000->EList w w.heap.size A l ->
 Calls prog 224 #[.slice A l.length c] w λ e w'=>e=.returned (.int .i64 (needEs l 0:Nat))/\Below w.heap.size w w':=by
 intro n
 induction n with
 | zero =>
  intro A c l w M z hA;have hl:l=[]:=by
   cases l with
   | nil=>rfl
   | cons e r=>rw[Zem] at M;have:=Zdj e;omega
  subst hl;go_enter func224,ntmps224
  go_wp2_with fail
  go_loopw [3,8] (λ B i wr=>B=.int .i64 0/\i=.int .i64 0/\w=wr) (λ _ _ _=>0)
  case atStart=>exact⟨rfl,rfl,rfl⟩
  case round =>
   obtain⟨rfl,rfl,rfl⟩:=hrel;go_wp2_with fail
   go_ret
   exact⟨rfl,Yj _ _⟩
 | succ n ih =>
  intro A c l w M z hA;have j:=Zeb l;obtain⟨N,E⟩:=Yx l.length;rw[<- E] at j⊢;have L:=Ya E;have W:=Ya hA;clear E hA;go_enter func224,ntmps224
  go_wp2_with fail
  go_loopw [3,8] (λ B i wr=>∃(k m:Nat),k<=N/\i=.int .i64 k/\B=.int .i64 m/\Hid (m=needEs (l.take k) 0)/\m<=1000000000/\Below w.heap.size w wr) (λ _ i _=>N-(intOf i).toNat)
  case atStart=>exact⟨0,0,by omega,rfl,rfl,Ya (by rw[List.take_zero,needEs]),by omega,Yj _ _⟩
  case round =>
   obtain⟨k,m,hk,rfl,rfl,T,hm,d⟩:=hrel;by_cases K:k<N
   .obtain⟨e,he⟩:∃e,l[k]?=some e:=⟨_,Ye (by rw[<- L.out];exact K)⟩
    obtain⟨b,off,H,t,rfl,x,Z,q1,X,q3,Y,q5,O⟩:=(W.out.below d).at_ he;have hsz:=Zlp (Y1 he);have a1:=Zdj e;have p:(l.take k).length=k:=by have:=L.out;rw[Yaa];omega
    have g:needEs (l.take (k+1)) 0=max m (k+max 1 (needE e)):=by
     rw[Zdf l he,Zhz,p,<- T.out,Y2]
    have h:needE e=needEs e.kids 0:=by obtain⟨op,n',nm,kids⟩:=e;rw[needE];rfl
    have hq:=Zff e.kids 0;have a0:b<wr.heap.size:=Ys x d.size;have f:Below wr.heap.size wr (wr.alloc (.cells #[.int .i64 e.op,.int .i64 e.n,.string e.name,.slice H e.kids.length t] 149)):=(Yj _ _).alloc (Yc _) _;have a:=ih H t e.kids (wr.alloc (.cells #[.int .i64 e.op,.int .i64 e.n,.string e.name,.slice H e.kids.length t] 149)) (by omega) (by omega) (((O.more d.size).below f).more f.size);obtain⟨r,U⟩:=Yx (needEs e.kids 0);rw[<- U] at a h hq;rw[h] at g;have F:max m (k+max 1 r)<=1000000000:=by
     rw[<- g];have h1:=Zff (l.take (k+1)) 0;have h2:=Ztw l (k+1);omega
    obtain⟨op,Q,nm,R,y⟩:∃op Q nm R,op=e.op/\Q=e.n/\nm=e.name/\R=e.kids.length:=⟨_,_,_,_,rfl,rfl,rfl,rfl⟩
    obtain⟨s,G,u,J⟩:=y;rw[<- s,<- G,<- u,<- J] at a f;rw[<- s] at Z;rw[<- G] at q1;rw[<- u] at X;rw[<- J] at q3;have q:=Ya a;have D:=Ya g;have o:=Ya f;clear a g f s G u J U h he Y q5 O p;go_wp2_with fail
    refine q.out.mono ?_;rintro e2 w2 ⟨rfl,v⟩;have I:=d.trans ((o.out.trans (v.mono o.out.size)).mono d.size);have V:(max (1:Int) (r:Int))=((max 1 r:Nat):Int):=by omega
    go_wp2_with fail
    go_roundw
    case rel =>
     refine⟨k+1,max m (k+max 1 r),by omega,by go_num,?_,Ya D.out.symm,F,I⟩
     congr 1
     (repeat' split) <;> omega
    case measure=>simp[intOf];omega
   .have hkN:k=N:=by omega
    subst hkN;go_wp2_with fail
    go_ret
    have:needEs l 0=m:=by rw[T.out,L.out,Yap]
    exact⟨Zu (by rw[this]),d⟩
def Zxx (B g:Nat)(lb:Array Value)(p:BE->Bool)(l:List BE)(w:World):Prop :=
 ∀(W:World)(e:BE)(v:Value),Below B w W->e∈l->Z8p W W.heap.size e v->Calls prog g (#[v]++lb) W λ x w'=>x=.returned (.bool (p e))/\Below W.heap.size W w'
theorem Zon (B g:Nat)(H:Array Value)(p:BE->Bool)(eg:∀args w,(callFunc g args).run prog w=.ok (.enter g args) w)(w:World)(J:B<=w.heap.size)(A:Option Addr)(l:List BE)(c:Nat)(hp:Zxx B g H p l w)(hA:EList w B A l)(hl:l.length<=1000000000) :
 Calls prog 238 #[.slice A l.length c,.func (.func g) #[] H] w λ e w'=>(∃r:Int,e=.returned (.int .i64 r)/\decide (0<=r)=l.any p)/\Below w.heap.size w w':=by
 obtain⟨N,D⟩:∃N:Nat,N=l.length:=⟨_,rfl⟩
 rw[<- D] at hl⊢;have R:=Ya D;have Y:=Ya hA;clear D hA;go_enter func238,ntmps238
 go_wp2_with fail
 go_loopw [5,8] (λ _ s wr=>∃k:Nat,k<=N/\s=.int .i64 k/\Below w.heap.size w wr/\Hid (∀x∈l.take k,p x=false)) (λ _ s _=>N-(intOf s).toNat)
 case atStart=>exact⟨0,by omega,rfl,Yj _ _,Ya (by simp)⟩
 case round =>
  obtain⟨k,hk,rfl,d,h⟩:=hrel;by_cases z:k<N
  .obtain⟨e,he⟩:∃e,l[k]?=some e:=⟨_,Ye (by rw[<- R.out];exact z)⟩
   have f:=d.mono J;obtain⟨b,off,L,K,rfl,X,q0,V,q2,q3,O,F,M⟩:=(Y.out.below f).at_ he;have U:b<wr.heap.size:=by have:=d.size;omega
   have a:=hp wr e (.agg #[.int .i64 e.op,.int .i64 e.n,.string e.name,.slice L e.kids.length K]) f (Y1 he) ⟨L,K,rfl,O,F,M.more (Yz J d.size)⟩;obtain⟨q,E⟩:=Yx (p e);rw[<- E] at a;have I:=Ya E;have Q:=Ya he;obtain⟨op,T,nm,G,v⟩:∃op T nm G,op=e.op/\T=e.n/\nm=e.name/\G=e.kids.length:=⟨_,_,_,_,rfl,rfl,rfl,rfl⟩
   obtain⟨o,t,m,u⟩:=v;rw[<- o,<- t,<- m,<- u] at a;rw[<- o] at q0;rw[<- t] at V;rw[<- m] at q2;rw[<- u] at q3;have Hp:=Ya hp;clear hp E he o t m u O F M f
   cases q with
   | true =>
    go_wp2_with (go_at_fn g;refine a.mono ?_;rintro Z W ⟨rfl,j⟩)
    go_ret
    refine⟨⟨(k:Int),rfl,?_⟩,d.trans (j.mono d.size)⟩;rw[decide_eq_true (by omega)]
    symm
    rw[List.any_eq_true];exact⟨e,Y1 Q.out,I.out.symm⟩
   | false =>
    go_wp2_with (go_at_fn g;refine a.mono ?_;rintro Z W ⟨rfl,j⟩)
    go_roundw
    case rel =>
     refine⟨k+1,by omega,by go_num,d.trans (j.mono d.size),Ya (λ y i=>?_)⟩;rw[Zdf l Q.out] at i;rcases Yag.1 i with i|i
     .exact h.out y i
     .have:y=e:=by simpa using i
      rw[this];exact I.out.symm
    case measure=>simp[intOf];omega
  .have hkN:k=N:=by omega
   subst hkN;clear hp;go_wp2_with fail
   go_ret
   refine⟨⟨-1,rfl,?_⟩,d⟩;rw[decide_eq_false (by omega)]
   symm
   rw[List.any_eq_false];intro y i;have:=h.out y (by rw[R.out,Yap];exact i);simp[this]
theorem Zeo (B g:Nat)(a:Array Value)(p:BE->Bool)(d:∀args w,(callFunc g args).run prog w=.ok (.enter g args) w)(w:World)(f:B<=w.heap.size)(A:Option Addr)(l:List BE)(c:Nat)(hp:Zxx B g a p l w)(hA:EList w B A l)(i:l.length<=1000000000) :
 Calls prog 221 #[.slice A l.length c,.func (.func g) #[] a] w λ e w'=>e=.returned (.bool (l.any p))/\Below w.heap.size w w':=by
 have h:=Ya (Zon B g a p d w f A l c hp hA i);generalize l.any p=r at *;clear hp hA d;go_enter func221,ntmps221
 go_wp2_with (go_at_call 238;refine h.out.mono ?_;rintro e w2 ⟨⟨n,rfl,hn⟩,b⟩)
 all_goals
  go_ret
  exact⟨by simp_all,b⟩
theorem Zec (w:World)(a b:Obj):((w.alloc a).alloc b).heap[w.heap.size]?=some a/\((w.alloc a).alloc b).heap[w.heap.size+1]?=some b/\Below w.heap.size w ((w.alloc a).alloc b)/\((w.alloc a).alloc b).heap.size=w.heap.size+2:=by
 refine⟨?_,?_,((Yj _ _).alloc (Yc _) _).alloc (by simp) _,by simp⟩
 .rw[((Yj _ _).alloc (Yc (w.alloc a).heap.size) b).block _ (by simp)]
  exact heap_alloc_new w a
 .have:=heap_alloc_new (w.alloc a) b
  have e:(w.alloc a).heap.size=w.heap.size+1:=by simp
  rw[e] at this;exact this
structure RE (w wc:World)(r e:Obj):Prop where
 r:wc.heap[w.heap.size]?=some r
 e:wc.heap[w.heap.size+1]?=some e
 b:Below w.heap.size w wc
 z:w.heap.size+2<=wc.heap.size
theorem RE.next {w wc c:World}{r e:Obj}(h:RE w wc r e)(a:Below wc.heap.size wc c):RE w c r e :=
 ⟨(a.block _ (by have:=h.z;omega)).trans h.r,(a.block _ (by have:=h.z;omega)).trans h.e,h.b.trans (a.mono h.b.size),Yz h.z a.size⟩
theorem Zdy (L:Int):∀l:List BE,formedEs L l=!(l.any λ k=>!S.formedE L k)
 | []=>rfl
 | e::r=>by
  rw[formedEs,Zdy L r,List.any_cons]
  cases formedE L e <;> simp
theorem Ztx (o:ByteArray)(P L:Int)(q:Bool)(s:Option Addr)(nb p:Nat)(op n:Int)(nm:ByteArray)(N:Nat)(A:Option Addr)(c:Nat)(w:World)(hN:N<=1000000000)(t:nm.size<=maxLen)(R:Bool)(y:headE L op n nm N=false->R=false)
 (D:headE L op n nm N=true->∀W,RE w W (.cells #[.string o,.int .i64 P,.int .i64 L,.bool q,.slice s nb p] 169) (.cells #[.int .i64 op,.int .i64 n,.string nm,.slice A N c] 149)->Calls prog 221 #[.slice A N c,.func (.func 239) #[] #[.pointer (some ⟨w.heap.size,0,none⟩)]] W λ x w'=>x=.returned (.bool (!R))/\Below W.heap.size W w') :
 Calls prog 223 #[.agg #[.string o,.int .i64 P,.int .i64 L,.bool q,.slice s nb p],.agg #[.int .i64 op,.int .i64 n,.string nm,.slice A N c]] w λ x w'=>x=.returned (.bool R)/\Below w.heap.size w w':=by
 obtain⟨t1,t2,t3,t4⟩:=Zec w (.cells #[.string o,.int .i64 P,.int .i64 L,.bool q,.slice s nb p] 169) (.cells #[.int .i64 op,.int .i64 n,.string nm,.slice A N c] 149);have m:=Ya y;have v:=Ya D;have z:=Ya (λ W=>Zo7 nm W t);clear y D t;go_enter func223,ntmps223
 go_upto_region 1 with fail
 generalize (w.alloc (.cells #[.string o,.int .i64 P,.int .i64 L,.bool q,.slice s nb p] 169)).alloc (.cells #[.int .i64 op,.int .i64 n,.string nm,.slice A N c] 149)=w2 at *;have O:w2.cell? ⟨w.heap.size+1,0,none⟩=some (.int .i64 op):=by rw[Yb t2];rfl
 have T:w2.cell? ⟨w.heap.size+1,1,none⟩=some (.int .i64 n):=by rw[Yb t2];rfl
 go_quiet (fail)
 have d:=Ya (show RE w (w2.drewN nq) (.cells #[.string o,.int .i64 P,.int .i64 L,.bool q,.slice s nb p] 169) (.cells #[.int .i64 op,.int .i64 n,.string nm,.slice A N c] 149) from⟨t1,t2,below_drewN t3 nq,by show _<=w2.heap.size;omega⟩);clear O T t1 t2 t3 t4;generalize w2.drewN nq=w3 at *;have O:w3.cell? ⟨w.heap.size+1,0,none⟩=some (.int .i64 op):=by rw[Yb d.out.e];rfl
 have T:w3.cell? ⟨w.heap.size+1,1,none⟩=some (.int .i64 n):=by rw[Yb d.out.e];rfl
 have Y:w3.cell? ⟨w.heap.size,2,none⟩=some (.int .i64 L):=by rw[Yb d.out.r];rfl
 have Z:w3.cell? ⟨w.heap.size+1,3,none⟩=some (.slice A N c):=by rw[Yb d.out.e];rfl
 go_upto_block 0 with fail
 clear O;by_cases k:1<=op/\op<=10
 .go_cut [5,6,7] (λ v5 v6 v7 wc=>v5=.int .i64 (kidsE op N:Nat)/\v6=.bool (namedE op)/\v7=.bool (numE L op n)/\Hid (RE w wc (.cells #[.string o,.int .i64 P,.int .i64 L,.bool q,.slice s nb p] 169) (.cells #[.int .i64 op,.int .i64 n,.string nm,.slice A N c] 149)))
  case first =>
   rcases(show op=1\/op=2\/op=3\/op=4\/op=5\/op=6\/op=7\/op=8\/op=9\/op=10 by omega) with rfl|rfl|rfl|rfl|rfl|rfl|rfl|rfl|rfl|rfl
   .by_cases h1:-2147483648<=n
    .by_cases h2:n<=4294967295
     .have He:=Ya (show true=numE L 1 n from(decide_eq_true ⟨h1,h2⟩).symm)
      go_wp2_with fail
      go_meet
      exact⟨rfl,rfl,by rw[<- He.out],d⟩
     .have He:=Ya (show false=numE L 1 n from(decide_eq_false (by omega)).symm)
      go_wp2_with fail
      go_meet
      exact⟨rfl,rfl,by rw[<- He.out],d⟩
    .have He:=Ya (show false=numE L 1 n from(decide_eq_false (by omega)).symm)
     go_wp2_with fail
     go_meet
     exact⟨rfl,rfl,by rw[<- He.out],d⟩
   .by_cases h1:0<=n
    .by_cases h2:n<L
     .have He:=Ya (show true=numE L 2 n from(decide_eq_true ⟨h1,h2⟩).symm)
      go_wp2_with fail
      go_meet
      exact⟨rfl,rfl,by rw[<- He.out],d⟩
     .have He:=Ya (show false=numE L 2 n from(decide_eq_false (by omega)).symm)
      go_wp2_with fail
      go_meet
      exact⟨rfl,rfl,by rw[<- He.out],d⟩
    .have He:=Ya (show false=numE L 2 n from(decide_eq_false (by omega)).symm)
     go_wp2_with fail
     go_meet
     exact⟨rfl,rfl,by rw[<- He.out],d⟩
   .go_wp2_with fail
    refine(Zfr n w3).mono ?_;rintro U E ⟨rfl,rfl⟩;go_wp2_with fail
    go_meet
    exact⟨rfl,rfl,rfl,d⟩
   .by_cases h1:1<=n
    .by_cases h2:n<=14
     .have He:=Ya (show true=numE L 4 n from(decide_eq_true ⟨h1,h2⟩).symm)
      go_wp2_with fail
      go_quiet (fail)
      go_wp2_with fail
      go_meet
      exact⟨rfl,rfl,by rw[<- He.out],Ya (d.out.next (below_drewN (Yj _ _) _))⟩
     .have He:=Ya (show false=numE L 4 n from(decide_eq_false (by omega)).symm)
      go_wp2_with fail
      go_quiet (fail)
      go_wp2_with fail
      go_meet
      exact⟨rfl,rfl,by rw[<- He.out];congr 1;rw[decide_eq_false_iff_not];omega,Ya (d.out.next (below_drewN (Yj _ _) _))⟩
    .have He:=Ya (show false=numE L 4 n from(decide_eq_false (by omega)).symm)
     have hd:decide (1<=n)=false:=decide_eq_false h1;clear h1;go_wp2_with fail
     go_quiet (fail)
     go_wp2_with fail
     go_meet
     exact⟨rfl,rfl,by rw[<- He.out],Ya (d.out.next (below_drewN (Yj _ _) _))⟩
   .go_wp2_with fail
    refine(Zqf n w3).mono ?_;rintro U E ⟨rfl,rfl⟩;go_wp2_with fail
    go_meet
    exact⟨rfl,rfl,rfl,d⟩
   .go_wp2_with fail
    go_meet
    exact⟨by congr 1;show min (N:Int) 4=((min N 4:Nat):Int);omega,rfl,rfl,d⟩
   .go_wp2_with fail
    go_meet
    exact⟨rfl,rfl,rfl,d⟩
   .go_wp2_with fail
    go_meet
    exact⟨rfl,rfl,rfl,d⟩
   .go_wp2_with fail
    go_meet
    exact⟨rfl,rfl,rfl,d⟩
   .go_wp2_with fail
    go_meet
    exact⟨rfl,rfl,rfl,d⟩
  case rest =>
   obtain⟨rfl,rfl,rfl,a⟩:=hcut;have F:headE L op n nm N=(numE L op n && decide (N=kidsE op N) && (namedE op==decide (nm.size≠0)) && (!S.namedE op || labB nm)):=by
    unfold headE;rw[decide_eq_true k,Bool.true_and]
   have u:=Zir nm;rw[<- u] at F;clear u;generalize kidsE op N=K at *;generalize namedE op=M at *;generalize numE L op n=Q at *;have i:=m.out;have j:=v.out;rw[F] at i j;have H0:=Ya i;have V:=Ya j;clear F m v i j d T Y Z k;have Y:wc.cell? ⟨w.heap.size+1,2,none⟩=some (.string nm):=by rw[Yb a.out.e];rfl
   have Z:wc.cell? ⟨w.heap.size+1,3,none⟩=some (.slice A N c):=by rw[Yb a.out.e];rfl
   cases Q with
   | false =>
    have g:=Ya (H0.out (by simp));go_wp2_with fail
    go_ret
    exact⟨Zf g.out.symm,a.out.b⟩
   | true =>
    by_cases J:N=K
    .subst J
     by_cases f:nm.toList=[]
     .have hie:nm.toList.isEmpty=true:=by simp[f]
      cases M with
      | true =>
       have g:=Ya (H0.out (by simp[f]));go_wp2_with fail
       go_ret
       exact⟨Zf g.out.symm,a.out.b⟩
      | false =>
       have I:=Ya (V.out (by simp[f]) wc a.out);go_wp2_with fail
       refine I.out.mono ?_;rintro e5 w5 ⟨rfl,l⟩;go_wp2_with fail
       go_ret
       exact⟨Zf (by simp),a.out.b.trans (l.mono a.out.b.size)⟩
     .have hie:nm.toList.isEmpty=false:=by simp[f]
      cases M with
      | false =>
       have g:=Ya (H0.out (by simp[f]));go_wp2_with fail
       go_ret
       exact⟨Zf g.out.symm,a.out.b⟩
      | true =>
       have X:=Ya (z.out wc);have G:=Ya (λ h:labB nm=false=>H0.out (by simp[f,h]));have H:=Ya (λ h:labB nm=true=>V.out (by simp[f,h]) wc a.out);generalize labB nm=B at *
       cases B with
       | false =>
        have g:=Ya (G.out rfl);go_wp2_with fail
        refine X.out.mono ?_;rintro U E ⟨rfl,rfl⟩;go_wp2_with fail
        go_ret
        exact⟨Zf g.out.symm,a.out.b⟩
       | true =>
        have I:=Ya (H.out rfl);go_wp2_with fail
        refine X.out.mono ?_;rintro U E ⟨rfl,rfl⟩;go_wp2_with fail
        refine I.out.mono ?_;rintro e5 w5 ⟨rfl,l⟩;go_wp2_with fail
        go_ret
        exact⟨Zf (by simp),a.out.b.trans (l.mono a.out.b.size)⟩
    .have g:=Ya (H0.out (by simp[J]))
     have a1:((N:Int) != (K:Int))=true:=by simp;omega
     clear J;go_wp2_with fail
     go_ret
     exact⟨Zf g.out.symm,a.out.b⟩
 .have g:=Ya (m.out (by unfold headE;rw[decide_eq_false k];simp))
  have n1:(op==1)=false:=by simp;omega
  have n2:(op==2)=false:=by simp;omega
  have n3:(op==3)=false:=by simp;omega
  have n4:(op==4)=false:=by simp;omega
  have n5:(op==5)=false:=by simp;omega
  have n6:(op==6)=false:=by simp;omega
  have n7:(op==7)=false:=by simp;omega
  have n8:(op==8)=false:=by simp;omega
  have n9:(op==9)=false:=by simp;omega
  have a0:(op==10)=false:=by simp;omega
  clear k;go_wp2_with fail
  go_ret
  exact⟨Zf g.out.symm,d.out.b⟩
theorem Zjl:∀args w,(callFunc 239 args).run prog w=.ok (.enter 239 args) w:=enters_of func239 (by kernel_rfl) rfl
theorem Zk4:∀args w,(callFunc 222 args).run prog w=.ok (.enter 222 args) w:=enters_of func222 (by kernel_rfl) rfl
def Zoo (L:Int)(e:BE)(w:World)(x:Ending)(w':World):Prop:=x=.returned (.bool (formedE L e))/\Below w.heap.size w w'
def Fmd (rn:ByteArray)(P L:Int)(bh:Bool)(Ab:Option Addr)(nb cb n:Nat):Prop:=∀(e:BE)(v:Value)(w:World),szE e<=n->Z8p w w.heap.size e v ->
 Calls prog 223 #[.agg #[.string rn,.int .i64 P,.int .i64 L,.bool bh,.slice Ab nb cb],v] w (Zoo L e w)
theorem Zty {p:ByteArray}{P L:Int}{q:Bool}{o:Option Addr}{nb t n:Nat}(hF:Fmd p P L q o nb t n)(g:Nat)(w:World)(B:w.heap[g]?=some (.cells #[.string p,.int .i64 P,.int .i64 L,.bool q,.slice o nb t] 169))(hg:g<w.heap.size)(l:List BE)(E:∀e∈l,szE e<=n) :
 Zxx w.heap.size 239 #[.pointer (some ⟨g,0,none⟩)] (λ e=>!S.formedE L e) l w:=by
 intro W e v r D H;have F:=Ya hF;have k:=(r.block g hg).trans B;have s:g<W.heap.size:=Ys hg r.size;have i:=E e D;obtain⟨A,c,rfl,z,u,y⟩:=H;have f:Below W.heap.size W (W.alloc (.cells #[.int .i64 e.op,.int .i64 e.n,.string e.name,.slice A e.kids.length c] 149)):=(Yj _ _).alloc (Yc _) _;have d:=heap_alloc_new W (.cells #[.int .i64 e.op,.int .i64 e.n,.string e.name,.slice A e.kids.length c] 149);have G:W.heap.size<(W.alloc (.cells #[.int .i64 e.op,.int .i64 e.n,.string e.name,.slice A e.kids.length c] 149)).heap.size:=by simp
 have a:=hF e (.agg #[.int .i64 e.op,.int .i64 e.n,.string e.name,.slice A e.kids.length c]) (W.alloc (.cells #[.int .i64 e.op,.int .i64 e.n,.string e.name,.slice A e.kids.length c] 149)) i ⟨A,c,rfl,z,u,(y.below f).more f.size⟩;have b:=(f.block g s).trans k;unfold Zoo at a
 show Calls prog 239 #[.agg #[.int .i64 e.op,.int .i64 e.n,.string e.name,.slice A e.kids.length c],.pointer (some ⟨g,0,none⟩)] W λ x w'=>x=.returned (.bool (!S.formedE L e))/\Below W.heap.size W w'
 generalize formedE L e=R at *;generalize e.op=op at *;generalize e.n=en at *;generalize e.name=nm at *;generalize e.kids.length=kl at *;have h:=Ya a;have j:=Ya f;clear a hF F i E D z u y r B k;go_enter func239,ntmps239
 go_upto_region 1 with fail
 generalize W.alloc (.cells #[.int .i64 op,.int .i64 en,.string nm,.slice A kl c] 149)=w2 at *;have c0:w2.cell? ⟨g,0,none⟩=some (.string p):=by rw[Yb b];rfl
 have c1:w2.cell? ⟨g,1,none⟩=some (.int .i64 P):=by rw[Yb b];rfl
 have c2:w2.cell? ⟨g,2,none⟩=some (.int .i64 L):=by rw[Yb b];rfl
 have c3:w2.cell? ⟨g,3,none⟩=some (.bool q):=by rw[Yb b];rfl
 have c4:w2.cell? ⟨g,4,none⟩=some (.slice o nb t):=by rw[Yb b];rfl
 have e0:w2.cell? ⟨W.heap.size,0,none⟩=some (.int .i64 op):=by rw[Yb d];rfl
 have e1:w2.cell? ⟨W.heap.size,1,none⟩=some (.int .i64 en):=by rw[Yb d];rfl
 have e2:w2.cell? ⟨W.heap.size,2,none⟩=some (.string nm):=by rw[Yb d];rfl
 have e3:w2.cell? ⟨W.heap.size,3,none⟩=some (.slice A kl c):=by rw[Yb d];rfl
 clear d b;go_wp2_with fail
 refine h.out.mono ?_;rintro x w3 ⟨rfl,m⟩;go_wp2_with fail
 go_ret
 exact⟨rfl,j.out.trans (m.mono j.out.size)⟩
theorem Zxy (l:ByteArray)(P L:Int)(m:Bool)(j:Option Addr)(nb p:Nat):∀n,n<=1000000000->Fmd l P L m j nb p n:=by
 intro n
 induction n with
 | zero =>
  intro _ e v w y _;have:=Zdj e;omega
 | succ n ih =>
  intro hn e v w y u;obtain⟨A,c,rfl,s,h2,q⟩:=u;have hsz:=Zdj e;have i:=Zeb e.kids;have a:formedE L e=(headE L e.op e.n e.name e.kids.length && formedEs L e.kids):=by obtain⟨op,n',nm,kids⟩:=e;rw[formedE];rfl
  refine Ztx l P L m j nb p e.op e.n e.name e.kids.length A c w (by omega) s (formedE L e) (λ h=>by rw[a,h];rfl) (λ h W d=>?_);have o:=d.b;have t:=o.size;have g:=(q.below o).more t;have hp:=Zty (ih (by omega)) w.heap.size W d.r (by have:=d.z;omega) e.kids (λ k g=>by have:=Zlp g;omega);refine(Zeo W.heap.size _ _ (λ k=>!S.formedE L k) Zjl W (Yc _) A e.kids c hp g (by omega)).mono ?_;rintro x w' ⟨rfl,f⟩;refine⟨?_,f⟩;rw[a,h,Zdy];simp
section
section
variable {P:Program}{ops:Array Oper}{md:Region.Mode}{C:World->Prop}
def Z6s (md:Region.Mode)(ops:Array Oper)(n:Nat):Nat->Nat->Array Bool->Bool
 | 0,_,listed=>(Region.ready md ops listed).all λ j=>decide (n<=j)
 | f+1,k,listed=>(Region.ready md ops listed).contains k && Region.free md ops listed k && Z6s md ops n f (k+1) (listed.setIfInBounds k true)
def Ztz:Nat->Nat->Array Bool->Array Bool
 | 0,_,listed=>listed
 | f+1,k,listed=>Ztz f (k+1) (listed.setIfInBounds k true)
end
end
