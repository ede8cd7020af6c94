/- Parts. -/
import Derived.Test.YtldbnjajjfgipaaGreatDoorZBMem
import Derived.BigQuiet
import Derived.Deep.QuietTactic
import Derived.Deep.DeepCutAuto
import Derived.Deep.CutBlock
set_option linter.all false
set_option maxHeartbeats 4000000
open Go.Lib renaming hid->Ya,cell_of_heap->Yc
open Nat renaming le_refl->Yb,le_trans->Ym,lt_of_lt_of_le->Y3,zero_add->Yac
open List renaming getElem?_eq_getElem->Yf,length_cons->Yj,mem_of_getElem?->Y0,cons_append->Y8,nil_append->Yal,take_length->Yam
open Go.RowKit.Below renaming refl->Yh
namespace Go.Proofs.YtldbnjajjfgipaaGreatDoor
open S Go.Proofs.Tryz Go.RowKit
set_option maxRecDepth 100000
theorem Ziw (s:ByteArray):(s.toList != ([]:List UInt8))=decide (s.size≠0):=by
 rw[ByteArray.toList_eq]
 cases h:s.data.toList with
 | nil =>
  have:s.size=0:=by show s.data.size=0;rw[<- Array.length_toList,h];rfl
  simp[this]
 | cons x r =>
  have:s.size≠0:=by show s.data.size≠0;rw[<- Array.length_toList,h];simp
  simp[this]
theorem Zp0 (s:ByteArray)(w:World)(a:s.size<=maxLen):Calls prog 256 #[.string s] w λ e w'=>e=.returned (.bool (labB s))/\w=w':=by
 have b:=Ya (Ziw s);have c:=Ya (Zak s w a);by_cases h:s.toList=[]
 .have Hr:=Ya (show labB s=false from by
   have h1:decide (s.size≠0)=false:=by rw[<- Ziw s];simp[h]
   show(decide (s.size≠0) && !S.ownB s)=false
   rw[h1];rfl)
  clear a;go_enter func256,ntmps256
  go_wp2_with fail
  go_ret
  exact⟨Zk Hr.out.symm,rfl⟩
 .have Hr:=Ya (show labB s=!S.ownB s from by
   have h1:decide (s.size≠0)=true:=by rw[<- Ziw s];simp[h]
   show(decide (s.size≠0) && !S.ownB s)=_
   rw[h1];rfl)
  clear a;go_enter func256,ntmps256
  go_wp2_with fail
  refine c.out.mono ?_;rintro e w2 ⟨rfl,rfl⟩;go_wp2_with fail
  go_ret
  exact⟨Zk (by rw[Hr.out];simp[h]),rfl⟩
theorem Zq8 (n:Int)(w:World):Calls prog 289 #[.int .i64 n] w λ e w'=>e=.returned (.bool (offB n))/\w=w':=by
 by_cases h:-32768<=n
 .by_cases h2:n<32768
  .have Hr:=Ya (show true=offB n from(decide_eq_true ⟨h,h2⟩).symm)
   go_enter func289,ntmps289
   go_wp2_with fail
   go_ret
   exact⟨Zk Hr.out,rfl⟩
  .have Hr:=Ya (show false=offB n from(decide_eq_false (by omega)).symm)
   go_enter func289,ntmps289
   go_wp2_with fail
   go_ret
   exact⟨Zk Hr.out,rfl⟩
 .have Hr:=Ya (show false=offB n from(decide_eq_false (by omega)).symm)
  go_enter func289,ntmps289
  go_wp2_with fail
  go_ret
  exact⟨Zk Hr.out,rfl⟩
theorem Zf1 (n:Int)(w:World):Calls prog 290 #[.int .i64 n] w λ e w'=>e=.returned (.bool (visB n))/\w=w':=by
 rcases(show(1<=n/\n<=10)\/n<1\/(10<n/\n<26)\/n=26\/n=27\/n=28\/n=29\/n=30\/30<n by omega) with⟨h,h'⟩|h|⟨h,h'⟩|rfl|rfl|rfl|rfl|rfl|h
 .have Hr:=Ya (show true=visB n from(decide_eq_true (.inl ⟨h,h'⟩)).symm)
  go_enter func290,ntmps290
  go_wp2_with fail
  go_ret
  exact⟨Zk Hr.out,rfl⟩
 .have Hr:=Ya (show false=visB n from(decide_eq_false (by omega)).symm)
  have n1:(n==26)=false:=by simp;omega
  have n2:(n==27)=false:=by simp;omega
  have a:(n==29)=false:=by simp;omega
  have b:(n==30)=false:=by simp;omega
  go_enter func290,ntmps290
  go_wp2_with fail
  go_ret
  first
   | exact⟨Zk Hr.out,rfl⟩
   | exact⟨Zk ((decide_eq_false (by omega)).trans Hr.out),rfl⟩
 .have Hr:=Ya (show false=visB n from(decide_eq_false (by omega)).symm)
  have n1:(n==26)=false:=by simp;omega
  have n2:(n==27)=false:=by simp;omega
  have a:(n==29)=false:=by simp;omega
  have b:(n==30)=false:=by simp;omega
  go_enter func290,ntmps290
  go_wp2_with fail
  go_ret
  first
   | exact⟨Zk Hr.out,rfl⟩
   | exact⟨Zk ((decide_eq_false (by omega)).trans Hr.out),rfl⟩
 .go_enter func290,ntmps290
  go_wp2_with fail
  go_ret
  exact⟨Zk rfl,rfl⟩
 .go_enter func290,ntmps290
  go_wp2_with fail
  go_ret
  exact⟨Zk rfl,rfl⟩
 .go_enter func290,ntmps290
  go_wp2_with fail
  go_ret
  exact⟨Zk rfl,rfl⟩
 .go_enter func290,ntmps290
  go_wp2_with fail
  go_ret
  exact⟨Zk rfl,rfl⟩
 .go_enter func290,ntmps290
  go_wp2_with fail
  go_ret
  exact⟨Zk rfl,rfl⟩
 .have Hr:=Ya (show false=visB n from(decide_eq_false (by omega)).symm)
  have n1:(n==26)=false:=by simp;omega
  have n2:(n==27)=false:=by simp;omega
  have a:(n==29)=false:=by simp;omega
  have b:(n==30)=false:=by simp;omega
  go_enter func290,ntmps290
  go_wp2_with fail
  go_ret
  first
   | exact⟨Zk Hr.out,rfl⟩
   | exact⟨Zk ((decide_eq_false (by omega)).trans Hr.out),rfl⟩
def Zy2 (l:List Int)(k:Nat):Prop:=∀j,j<k->visB (l.getD j 0)=true/\(0<j->l.getD (j-1) 0<l.getD j 0)
theorem Zkv:∀(l:List Int),risingB l=true↔Zy2 l l.length
 | []=>by
  constructor
  .intro _ j c;simp at c
  .intro _;rfl
 | [a]=>by
  rw[risingB]
  constructor
  .intro h j c
   have:j=0:=by simpa using c
   subst this;exact⟨h,by omega⟩
  .intro h;exact(h 0 (by simp)).1
 | a::b::r=>by
  rw[risingB];simp only[Bool.and_eq_true,decide_eq_true_eq];rw[Zkv (b::r)]
  constructor
  .rintro⟨⟨h1,h2⟩,h3⟩ j c
   rcases j with _|j
   .exact⟨h1,by omega⟩
   .obtain⟨d,e⟩:=h3 j (by simpa using c)
    refine⟨d,λ _=>?_⟩;rcases j with _|j
    .exact h2
    .exact e (by omega)
  .intro h
   refine⟨⟨(h 0 (by simp)).1,(h 1 (by simp)).2 (by omega)⟩,λ j c=>?_⟩;obtain⟨d,e⟩:=h (j+1) (by simpa using c);refine⟨d,λ hp=>?_⟩;have:=e (by omega);rcases j with _|j
   .omega
   .exact this
theorem Zy3 (A:Option Addr)(c:Nat)(l:List Int)(w:World)(hA:Ints w w.heap.size A l)(F:l.length<=maxLen):Calls prog 291 #[.slice A l.length c] w λ e w'=>e=.returned (.bool (risingB l))/\w=w':=by
 unfold maxLen at F;obtain⟨N,q⟩:=Yx l.length;rw[<- q] at F⊢;have E:=Ya q;have d:=Ya (Zkv l);clear q;go_enter func291,ntmps291
 go_wp2_with fail
 go_loopw [3,4,7] (λ _ _ s wr=>∃k:Nat,k<=N/\s=.int .i64 k/\w=wr/\Hid (Zy2 l k)) (λ _ _ s _=>N-(intOf s).toNat)
 case atStart=>exact⟨0,by omega,rfl,rfl,Ya λ j D=>by omega⟩
 case round =>
  obtain⟨k,hk,rfl,rfl,C⟩:=hrel;by_cases B:k<N
  .have hkl:k<l.length:=by rw[<- E.out];exact B
   obtain⟨b,off,rfl,G,n⟩:=hA.two (by omega);obtain⟨x,o⟩:∃x,l[k]?=some x:=⟨_,Yf hkl⟩
   have u:=n k x o;have a:l.getD k 0=x:=by simp[o]
   cases hv:visB x with
   | false =>
    have z:=Ya (show risingB l=false from by
     rw[<- Bool.not_eq_true,d.out];intro h;have:=(h k hkl).1;rw[a,hv] at this
     cases this)
    have i:=Ya (Zf1 x w);rw[hv] at i;clear hv a o n;go_wp2_with fail
    refine i.out.mono ?_;rintro e t ⟨rfl,rfl⟩;go_wp2_with fail
    go_ret
    exact⟨Zk z.out.symm,rfl⟩
   | true =>
    have i:=Ya (Zf1 x w);rw[hv] at i;by_cases g:k=0
    .subst g
     rw[Nat.add_zero] at u;have m:=Ya (show Zy2 l 1 from λ j D=>by
      have:j=0:=by omega
      subst this;exact⟨by rw[a];exact hv,by omega⟩)
     clear hv a o n;go_wp2_with fail
     refine i.out.mono ?_;rintro e t ⟨rfl,rfl⟩;go_wp2_with fail
     go_roundw
     case rel=>exact⟨1,by omega,by first|rfl|go_num,by first|rfl|trivial,m⟩
     case measure=>simp[intOf];omega
    .obtain⟨y,hy⟩:∃y,l[k-1]?=some y:=⟨_,Yf (by omega)⟩
     have H:=n (k-1) y hy;have f:l.getD (k-1) 0=y:=by simp[hy]
     have v:0<k:=by omega
     have et:((k:Int)-1).toNat=k-1:=by omega
     have eo:off+((k:Int)-1).toNat=off+(k-1):=by omega
     by_cases p:y<x
     .have m:=Ya (show Zy2 l (k+1) from λ j D=>by
       by_cases r:j=k
       .subst r
        exact⟨by rw[a];exact hv,λ _=>by rw[a,f];exact p⟩
       .exact C.out j (by omega))
      clear hv a f o hy n g;go_wp2_with fail
      refine i.out.mono ?_;rintro e t ⟨rfl,rfl⟩;go_wp2_with fail
      go_roundw
      case rel=>exact⟨k+1,by omega,by go_num,by first|rfl|trivial,m⟩
      case measure=>simp[intOf];omega
     .have z:=Ya (show risingB l=false from by
       rw[<- Bool.not_eq_true,d.out];intro h;have:=(h k hkl).2 v;rw[a,f] at this;exact p this)
      clear hv a f o hy n g;go_wp2_with fail
      refine i.out.mono ?_;rintro e t ⟨rfl,rfl⟩;go_wp2_with fail
      go_ret
      exact⟨Zk z.out.symm,rfl⟩
  .have hkN:k=N:=by omega
   subst hkN;go_wp2_with fail
   go_ret
   refine⟨?_,rfl⟩;have:risingB l=true:=by rw[d.out,<- E.out];exact C.out
   exact Zk this.symm
theorem Zix (e:BE):∀(l:List BE)(i:Nat),needEs (l++[e]) i=max (needEs l i) (i+l.length+max 1 (needE e))
 | [],i=>by simp only[Yal,needEs,List.length_nil];omega
 | x::r,i=>by
  rw[Y8,needEs,needEs,Zix e r (i+1)];simp only[Yj];omega
mutual
theorem Zy4:∀(e:BE),needE e<=szE e
 | .mk op n name kids=>by
  rw[needE,szE];have:=Zf2 kids 0;omega
theorem Zf2:∀(l:List BE)(i:Nat),needEs l i<=i+Ze9 l
 | [],i=>by rw[needEs];omega
 | e::r,i=>by
  rw[needEs,Ze9];have h1:=Zy4 e;have h2:=Zf2 r (i+1);have h3:=Zdn e;omega
end
theorem Zdo {α:Type}(l:List α){k:Nat}{x:α}(h:l[k]?=some x):l.take (k+1)=l.take k++[x]:=by
 rw[List.take_add_one,h];rfl
theorem Zp1 (l m:List BE):Ze9 (l++m)=Ze9 l+Ze9 m:=by
 induction l with
 | nil=>rw[Yal,Ze9,Yac]
 | cons x r ih=>rw[Y8,Ze9,Ze9,ih,Nat.add_assoc]
theorem Zus (l:List BE)(k:Nat):Ze9 (l.take k)<=Ze9 l:=by
 have:Ze9 l=Ze9 (l.take k)+Ze9 (l.drop k):=by rw[<- Zp1,List.take_append_drop]
 omega
theorem Zew:∀l:List BE,l.length<=Ze9 l
 | []=>by simp
 | e::r=>by
  rw[Ze9,Yj];have:=Zew r;have:=Zdn e;omega
theorem Z4x:∀(n:Nat)(A:Option Addr)(c:Nat)(l:List BE)(w:World),Ze9 l<=n->n<=1000000000->EList w w.heap.size A l ->
 Calls prog 278 #[.slice A l.length c] w λ e w'=>e=.returned (.int .i64 (needEs l 0:Nat))/\Below w.heap.size w w':=by
 intro n
 induction n with
 | zero =>
  intro A c l w M G hA;have hl:l=[]:=by
   cases l with
   | nil=>rfl
   | cons e r=>rw[Ze9] at M;have:=Zdn e;omega
  subst hl;go_enter func278,ntmps278
  go_wp2_with fail
  go_loopw [3,8] (λ s p wr=>s=.int .i64 0/\p=.int .i64 0/\w=wr) (λ _ _ _=>0)
  case atStart=>exact⟨rfl,rfl,rfl⟩
  case round =>
   obtain⟨rfl,rfl,rfl⟩:=hrel;go_wp2_with fail
   go_ret
   exact⟨rfl,Yh _ _⟩
 | succ n ih =>
  intro A c l w M G hA;have j:=Zew l;obtain⟨N,C⟩:=Yx l.length;rw[<- C] at j⊢;have z:=Ya C;have HA:=Ya hA;clear C hA;go_enter func278,ntmps278
  go_wp2_with fail
  go_loopw [3,8] (λ s p wr=>∃(k m:Nat),k<=N/\p=.int .i64 k/\s=.int .i64 m/\Hid (m=needEs (l.take k) 0)/\m<=1000000000/\Below w.heap.size w wr) (λ _ p _=>N-(intOf p).toNat)
  case atStart=>exact⟨0,0,by omega,rfl,rfl,Ya (by rw[List.take_zero,needEs]),by omega,Yh _ _⟩
  case round =>
   obtain⟨k,m,hk,rfl,rfl,L,hm,d⟩:=hrel;by_cases F:k<N
   .obtain⟨e,he⟩:∃e,l[k]?=some e:=⟨_,Yf (by rw[<- z.out];exact F)⟩
    obtain⟨b,off,v,u,rfl,D,q0,q1,q2,Y,W,U,R⟩:=(HA.out.below d).at_ he;have Z:=Zlt (Y0 he);have V:=Zdn e;have o:(l.take k).length=k:=by have:=z.out;rw[List.length_take];omega
    have g:needEs (l.take (k+1)) 0=max m (k+max 1 (needE e)):=by
     rw[Zdo l he,Zix,o,<- L.out,Yac]
    have h:needE e=needEs e.kids 0:=by obtain⟨op,n',nm,kids⟩:=e;rw[needE];rfl
    have T:=Zf2 e.kids 0;have X:b<wr.heap.size:=Y3 D d.size;have f:Below wr.heap.size wr (wr.alloc (.cells #[.int .i64 e.op,.int .i64 e.n,.string e.name,.slice v e.kids.length u] 152)):=(Yh _ _).alloc (Yb _) _;have a:=ih v u e.kids (wr.alloc (.cells #[.int .i64 e.op,.int .i64 e.n,.string e.name,.slice v e.kids.length u] 152)) (by omega) (by omega) (((R.more d.size).below f).more f.size);obtain⟨r,O⟩:=Yx (needEs e.kids 0);rw[<- O] at a h T;rw[h] at g;have J:max m (k+max 1 r)<=1000000000:=by
     rw[<- g];have h1:=Zf2 (l.take (k+1)) 0;have h2:=Zus l (k+1);omega
    obtain⟨op,P,nm,Q,K⟩:∃op P nm Q,op=e.op/\P=e.n/\nm=e.name/\Q=e.kids.length:=⟨_,_,_,_,rfl,rfl,rfl,rfl⟩
    obtain⟨t,E,I,y⟩:=K;rw[<- t,<- E,<- I,<- y] at a f;rw[<- t] at q0;rw[<- E] at q1;rw[<- I] at q2;rw[<- y] at Y;have i:=Ya a;have B:=Ya g;have q:=Ya f;clear a g f t E I y O h he W U R o;go_wp2_with fail
    refine i.out.mono ?_;rintro e2 w2 ⟨rfl,H⟩;have x:=d.trans ((q.out.trans (H.mono q.out.size)).mono d.size);have a0:(max (1:Int) (r:Int))=((max 1 r:Nat):Int):=by omega
    go_wp2_with fail
    go_roundw
    case rel =>
     refine⟨k+1,max m (k+max 1 r),by omega,by go_num,?_,Ya B.out.symm,J,x⟩
     congr 1
     (repeat' split) <;> omega
    case measure=>simp[intOf];omega
   .have hkN:k=N:=by omega
    subst hkN;go_wp2_with fail
    go_ret
    have:needEs l 0=m:=by rw[L.out,z.out,Yam]
    exact⟨Z0 (by rw[this]),d⟩
def Zy5 (B g:Nat)(lb:Array Value)(p:BE->Bool)(l:List BE)(w:World):Prop :=
 ∀(W:World)(e:BE)(v:Value),Below B w W->e∈l->Z71 W W.heap.size e v->Calls prog g (#[v]++lb) W λ x w'=>x=.returned (.bool (p e))/\Below W.heap.size W w'
theorem Zp2 (B g:Nat)(I:Array Value)(p:BE->Bool)(eg:∀args w,(callFunc g args).run prog w=.ok (.enter g args) w)(w:World)(E:B<=w.heap.size)(A:Option Addr)(l:List BE)(c:Nat)(hp:Zy5 B g I p l w)(hA:EList w B A l)(hl:l.length<=1000000000) :
 Calls prog 292 #[.slice A l.length c,.func (.func g) #[] I] w λ e w'=>(∃r:Int,e=.returned (.int .i64 r)/\decide (0<=r)=l.any p)/\Below w.heap.size w w':=by
 obtain⟨N,m⟩:∃N:Nat,N=l.length:=⟨_,rfl⟩
 rw[<- m] at hl⊢;have L:=Ya m;have V:=Ya hA;clear m hA;go_enter func292,ntmps292
 go_wp2_with fail
 go_loopw [5,8] (λ _ z wr=>∃k:Nat,k<=N/\z=.int .i64 k/\Below w.heap.size w wr/\Hid (∀x∈l.take k,p x=false)) (λ _ z _=>N-(intOf z).toNat)
 case atStart=>exact⟨0,by omega,rfl,Yh _ _,Ya (by simp)⟩
 case round =>
  obtain⟨k,hk,rfl,d,h⟩:=hrel;by_cases D:k<N
  .obtain⟨e,he⟩:∃e,l[k]?=some e:=⟨_,Yf (by rw[<- L.out];exact D)⟩
   have f:=d.mono E;obtain⟨b,off,O,J,rfl,W,Y,T,Z,q3,P,H,M⟩:=(V.out.below f).at_ he;have X:b<wr.heap.size:=by have:=d.size;omega
   have a:=hp wr e (.agg #[.int .i64 e.op,.int .i64 e.n,.string e.name,.slice O e.kids.length J]) f (Y0 he) ⟨O,J,rfl,P,H,M.more (Ym E d.size)⟩;obtain⟨q,t⟩:=Yx (p e);rw[<- t] at a;have K:=Ya t;have G:=Ya he;obtain⟨op,Q,nm,F,C⟩:∃op Q nm F,op=e.op/\Q=e.n/\nm=e.name/\F=e.kids.length:=⟨_,_,_,_,rfl,rfl,rfl,rfl⟩
   obtain⟨o,v,u,s⟩:=C;rw[<- o,<- v,<- u,<- s] at a;rw[<- o] at Y;rw[<- v] at T;rw[<- u] at Z;rw[<- s] at q3;have Hp:=Ya hp;clear hp t he o v u s P H M f
   cases q with
   | true =>
    go_wp2_with (go_at_fn g;refine a.mono ?_;rintro R U ⟨rfl,j⟩)
    go_ret
    refine⟨⟨(k:Int),rfl,?_⟩,d.trans (j.mono d.size)⟩;rw[decide_eq_true (by omega)]
    symm
    rw[List.any_eq_true];exact⟨e,Y0 G.out,K.out.symm⟩
   | false =>
    go_wp2_with (go_at_fn g;refine a.mono ?_;rintro R U ⟨rfl,j⟩)
    go_roundw
    case rel =>
     refine⟨k+1,by omega,by go_num,d.trans (j.mono d.size),Ya (λ y i=>?_)⟩;rw[Zdo l G.out] at i;rcases List.mem_append.1 i with i|i
     .exact h.out y i
     .have:y=e:=by simpa using i
      rw[this];exact K.out.symm
    case measure=>simp[intOf];omega
  .have hkN:k=N:=by omega
   subst hkN;clear hp;go_wp2_with fail
   go_ret
   refine⟨⟨-1,rfl,?_⟩,d⟩;rw[decide_eq_false (by omega)]
   symm
   rw[List.any_eq_false];intro y i;have:=h.out y (by rw[L.out,Yam];exact i);simp[this]
theorem Zfe (B g:Nat)(b:Array Value)(p:BE->Bool)(d:∀args w,(callFunc g args).run prog w=.ok (.enter g args) w)(w:World)(f:B<=w.heap.size)(A:Option Addr)(l:List BE)(c:Nat)(hp:Zy5 B g b p l w)(hA:EList w B A l)(i:l.length<=1000000000) :
 Calls prog 275 #[.slice A l.length c,.func (.func g) #[] b] w λ e w'=>e=.returned (.bool (l.any p))/\Below w.heap.size w w':=by
 have h:=Ya (Zp2 B g b p d w f A l c hp hA i);generalize l.any p=r at *;clear hp hA d;go_enter func275,ntmps275
 go_wp2_with (go_at_call 292;refine h.out.mono ?_;rintro e w2 ⟨⟨n,rfl,hn⟩,a⟩)
 all_goals
  go_ret
  exact⟨by simp_all,a⟩
theorem Zex (w:World)(a b:Obj):((w.alloc a).alloc b).heap[w.heap.size]?=some a/\((w.alloc a).alloc b).heap[w.heap.size+1]?=some b/\Below w.heap.size w ((w.alloc a).alloc b)/\((w.alloc a).alloc b).heap.size=w.heap.size+2:=by
 refine⟨?_,?_,((Yh _ _).alloc (Yb _) _).alloc (by simp) _,by simp⟩
 .rw[((Yh _ _).alloc (Yb (w.alloc a).heap.size) b).block _ (by simp)]
  exact heap_alloc_new w a
 .have:=heap_alloc_new (w.alloc a) b
  have e:(w.alloc a).heap.size=w.heap.size+1:=by simp
  rw[e] at this;exact this
structure RE (w wc:World)(r e:Obj):Prop where
 r:wc.heap[w.heap.size]?=some r
 e:wc.heap[w.heap.size+1]?=some e
 b:Below w.heap.size w wc
 z:w.heap.size+2<=wc.heap.size
theorem RE.next {w wc c:World}{r e:Obj}(h:RE w wc r e)(a:Below wc.heap.size wc c):RE w c r e :=
 ⟨(a.block _ (by have:=h.z;omega)).trans h.r,(a.block _ (by have:=h.z;omega)).trans h.e,h.b.trans (a.mono h.b.size),Ym h.z a.size⟩
theorem Zeg (L:Int):∀l:List BE,formedEs L l=!(l.any λ k=>!S.formedE L k)
 | []=>rfl
 | e::r=>by
  rw[formedEs,Zeg L r,List.any_cons]
  cases formedE L e <;> simp
theorem Zut (o:ByteArray)(P L:Int)(q:Bool)(s:Option Addr)(nb p:Nat)(op n:Int)(nm:ByteArray)(N:Nat)(A:Option Addr)(c:Nat)(w:World)(hN:N<=1000000000)(u:nm.size<=maxLen)(R:Bool)(t:headE L op n nm N=false->R=false)
 (C:headE L op n nm N=true->∀W,RE w W (.cells #[.string o,.int .i64 P,.int .i64 L,.bool q,.slice s nb p] 203) (.cells #[.int .i64 op,.int .i64 n,.string nm,.slice A N c] 152)->Calls prog 275 #[.slice A N c,.func (.func 293) #[] #[.pointer (some ⟨w.heap.size,0,none⟩)]] W λ x w'=>x=.returned (.bool (!R))/\Below W.heap.size W w') :
 Calls prog 277 #[.agg #[.string o,.int .i64 P,.int .i64 L,.bool q,.slice s nb p],.agg #[.int .i64 op,.int .i64 n,.string nm,.slice A N c]] w λ x w'=>x=.returned (.bool R)/\Below w.heap.size w w':=by
 obtain⟨t1,t2,t3,t4⟩:=Zex w (.cells #[.string o,.int .i64 P,.int .i64 L,.bool q,.slice s nb p] 203) (.cells #[.int .i64 op,.int .i64 n,.string nm,.slice A N c] 152);have l:=Ya t;have z:=Ya C;have v:=Ya (λ W=>Zp0 nm W u);clear t C u;go_enter func277,ntmps277
 go_upto_region 1 with fail
 generalize (w.alloc (.cells #[.string o,.int .i64 P,.int .i64 L,.bool q,.slice s nb p] 203)).alloc (.cells #[.int .i64 op,.int .i64 n,.string nm,.slice A N c] 152)=w2 at *;have J:w2.cell? ⟨w.heap.size+1,0,none⟩=some (.int .i64 op):=by rw[Yc t2];rfl
 have T:w2.cell? ⟨w.heap.size+1,1,none⟩=some (.int .i64 n):=by rw[Yc t2];rfl
 go_quiet (fail)
 have d:=Ya (show RE w (w2.drewN nq) (.cells #[.string o,.int .i64 P,.int .i64 L,.bool q,.slice s nb p] 203) (.cells #[.int .i64 op,.int .i64 n,.string nm,.slice A N c] 152) from⟨t1,t2,below_drewN t3 nq,by show _<=w2.heap.size;omega⟩);clear J T t1 t2 t3 t4;generalize w2.drewN nq=w3 at *;have J:w3.cell? ⟨w.heap.size+1,0,none⟩=some (.int .i64 op):=by rw[Yc d.out.e];rfl
 have T:w3.cell? ⟨w.heap.size+1,1,none⟩=some (.int .i64 n):=by rw[Yc d.out.e];rfl
 have X:w3.cell? ⟨w.heap.size,2,none⟩=some (.int .i64 L):=by rw[Yc d.out.r];rfl
 have V:w3.cell? ⟨w.heap.size+1,3,none⟩=some (.slice A N c):=by rw[Yc d.out.e];rfl
 go_upto_block 0 with fail
 clear J;by_cases k:1<=op/\op<=10
 .go_cut [5,6,7] (λ v5 v6 Y wc=>v5=.int .i64 (kidsE op N:Nat)/\v6=.bool (namedE op)/\Y=.bool (numE L op n)/\Hid (RE w wc (.cells #[.string o,.int .i64 P,.int .i64 L,.bool q,.slice s nb p] 203) (.cells #[.int .i64 op,.int .i64 n,.string nm,.slice A N c] 152)))
  case first =>
   rcases(show op=1\/op=2\/op=3\/op=4\/op=5\/op=6\/op=7\/op=8\/op=9\/op=10 by omega) with rfl|rfl|rfl|rfl|rfl|rfl|rfl|rfl|rfl|rfl
   .by_cases h1:-2147483648<=n
    .by_cases h2:n<=4294967295
     .have He:=Ya (show true=numE L 1 n from(decide_eq_true ⟨h1,h2⟩).symm)
      go_wp2_with fail
      go_meet
      exact⟨rfl,rfl,by rw[<- He.out],d⟩
     .have He:=Ya (show false=numE L 1 n from(decide_eq_false (by omega)).symm)
      go_wp2_with fail
      go_meet
      exact⟨rfl,rfl,by rw[<- He.out],d⟩
    .have He:=Ya (show false=numE L 1 n from(decide_eq_false (by omega)).symm)
     go_wp2_with fail
     go_meet
     exact⟨rfl,rfl,by rw[<- He.out],d⟩
   .by_cases h1:0<=n
    .by_cases h2:n<L
     .have He:=Ya (show true=numE L 2 n from(decide_eq_true ⟨h1,h2⟩).symm)
      go_wp2_with fail
      go_meet
      exact⟨rfl,rfl,by rw[<- He.out],d⟩
     .have He:=Ya (show false=numE L 2 n from(decide_eq_false (by omega)).symm)
      go_wp2_with fail
      go_meet
      exact⟨rfl,rfl,by rw[<- He.out],d⟩
    .have He:=Ya (show false=numE L 2 n from(decide_eq_false (by omega)).symm)
     go_wp2_with fail
     go_meet
     exact⟨rfl,rfl,by rw[<- He.out],d⟩
   .go_wp2_with fail
    refine(Zf1 n w3).mono ?_;rintro D I ⟨rfl,rfl⟩;go_wp2_with fail
    go_meet
    exact⟨rfl,rfl,rfl,d⟩
   .by_cases h1:1<=n
    .by_cases h2:n<=14
     .have He:=Ya (show true=numE L 4 n from(decide_eq_true ⟨h1,h2⟩).symm)
      go_wp2_with fail
      go_quiet (fail)
      go_wp2_with fail
      go_meet
      exact⟨rfl,rfl,by rw[<- He.out],Ya (d.out.next (below_drewN (Yh _ _) _))⟩
     .have He:=Ya (show false=numE L 4 n from(decide_eq_false (by omega)).symm)
      go_wp2_with fail
      go_quiet (fail)
      go_wp2_with fail
      go_meet
      exact⟨rfl,rfl,by rw[<- He.out];congr 1;rw[decide_eq_false_iff_not];omega,Ya (d.out.next (below_drewN (Yh _ _) _))⟩
    .have He:=Ya (show false=numE L 4 n from(decide_eq_false (by omega)).symm)
     have hd:decide (1<=n)=false:=decide_eq_false h1;clear h1;go_wp2_with fail
     go_quiet (fail)
     go_wp2_with fail
     go_meet
     exact⟨rfl,rfl,by rw[<- He.out],Ya (d.out.next (below_drewN (Yh _ _) _))⟩
   .go_wp2_with fail
    refine(Zq8 n w3).mono ?_;rintro D I ⟨rfl,rfl⟩;go_wp2_with fail
    go_meet
    exact⟨rfl,rfl,rfl,d⟩
   .go_wp2_with fail
    go_meet
    exact⟨by congr 1;show min (N:Int) 4=((min N 4:Nat):Int);omega,rfl,rfl,d⟩
   .go_wp2_with fail
    go_meet
    exact⟨rfl,rfl,rfl,d⟩
   .go_wp2_with fail
    go_meet
    exact⟨rfl,rfl,rfl,d⟩
   .go_wp2_with fail
    go_meet
    exact⟨rfl,rfl,rfl,d⟩
   .go_wp2_with fail
    go_meet
    exact⟨rfl,rfl,rfl,d⟩
  case rest =>
   obtain⟨rfl,rfl,rfl,a⟩:=hcut;have F:headE L op n nm N=(numE L op n && decide (N=kidsE op N) && (namedE op==decide (nm.size≠0)) && (!S.namedE op || labB nm)):=by
    unfold headE;rw[decide_eq_true k,Bool.true_and]
   have y:=Ziw nm;rw[<- y] at F;clear y;generalize kidsE op N=K at *;generalize namedE op=M at *;generalize numE L op n=Q at *;have i:=l.out;have j:=z.out;rw[F] at i j;have H0:=Ya i;have H1:=Ya j;clear F l z i j d T X V k;have X:wc.cell? ⟨w.heap.size+1,2,none⟩=some (.string nm):=by rw[Yc a.out.e];rfl
   have V:wc.cell? ⟨w.heap.size+1,3,none⟩=some (.slice A N c):=by rw[Yc a.out.e];rfl
   cases Q with
   | false =>
    have g:=Ya (H0.out (by simp));go_wp2_with fail
    go_ret
    exact⟨Zk g.out.symm,a.out.b⟩
   | true =>
    by_cases H:N=K
    .subst H
     by_cases f:nm.toList=[]
     .have hie:nm.toList.isEmpty=true:=by simp[f]
      cases M with
      | true =>
       have g:=Ya (H0.out (by simp[f]));go_wp2_with fail
       go_ret
       exact⟨Zk g.out.symm,a.out.b⟩
      | false =>
       have E:=Ya (H1.out (by simp[f]) wc a.out);go_wp2_with fail
       refine E.out.mono ?_;rintro Z w5 ⟨rfl,m⟩;go_wp2_with fail
       go_ret
       exact⟨Zk (by simp),a.out.b.trans (m.mono a.out.b.size)⟩
     .have hie:nm.toList.isEmpty=false:=by simp[f]
      cases M with
      | false =>
       have g:=Ya (H0.out (by simp[f]));go_wp2_with fail
       go_ret
       exact⟨Zk g.out.symm,a.out.b⟩
      | true =>
       have U:=Ya (v.out wc);have G:=Ya (λ h:labB nm=false=>H0.out (by simp[f,h]));have O:=Ya (λ h:labB nm=true=>H1.out (by simp[f,h]) wc a.out);generalize labB nm=B at *
       cases B with
       | false =>
        have g:=Ya (G.out rfl);go_wp2_with fail
        refine U.out.mono ?_;rintro D I ⟨rfl,rfl⟩;go_wp2_with fail
        go_ret
        exact⟨Zk g.out.symm,a.out.b⟩
       | true =>
        have E:=Ya (O.out rfl);go_wp2_with fail
        refine U.out.mono ?_;rintro D I ⟨rfl,rfl⟩;go_wp2_with fail
        refine E.out.mono ?_;rintro Z w5 ⟨rfl,m⟩;go_wp2_with fail
        go_ret
        exact⟨Zk (by simp),a.out.b.trans (m.mono a.out.b.size)⟩
    .have g:=Ya (H0.out (by simp[H]))
     have a0:((N:Int) != (K:Int))=true:=by simp;omega
     clear H;go_wp2_with fail
     go_ret
     exact⟨Zk g.out.symm,a.out.b⟩
 .have g:=Ya (l.out (by unfold headE;rw[decide_eq_false k];simp))
  have n1:(op==1)=false:=by simp;omega
  have n2:(op==2)=false:=by simp;omega
  have n3:(op==3)=false:=by simp;omega
  have n4:(op==4)=false:=by simp;omega
  have n5:(op==5)=false:=by simp;omega
  have n6:(op==6)=false:=by simp;omega
  have n7:(op==7)=false:=by simp;omega
  have n8:(op==8)=false:=by simp;omega
  have n9:(op==9)=false:=by simp;omega
  have a1:(op==10)=false:=by simp;omega
  clear k;go_wp2_with fail
  go_ret
  exact⟨Zk g.out.symm,d.out.b⟩
theorem Zkb:∀args w,(callFunc 293 args).run prog w=.ok (.enter 293 args) w:=enters_of func293 (by kernel_rfl) rfl
theorem Zlw:∀args w,(callFunc 276 args).run prog w=.ok (.enter 276 args) w:=enters_of func276 (by kernel_rfl) rfl
def Zp3 (L:Int)(e:BE)(w:World)(x:Ending)(w':World):Prop:=x=.returned (.bool (formedE L e))/\Below w.heap.size w w'
def Fmd (rn:ByteArray)(P L:Int)(bh:Bool)(Ab:Option Addr)(nb cb n:Nat):Prop:=∀(e:BE)(v:Value)(w:World),szE e<=n->Z71 w w.heap.size e v ->
 Calls prog 277 #[.agg #[.string rn,.int .i64 P,.int .i64 L,.bool bh,.slice Ab nb cb],v] w (Zp3 L e w)
theorem Zuu {s:ByteArray}{P L:Int}{p:Bool}{t:Option Addr}{nb r n:Nat}(hF:Fmd s P L p t nb r n)(g:Nat)(w:World)(y:w.heap[g]?=some (.cells #[.string s,.int .i64 P,.int .i64 L,.bool p,.slice t nb r] 203))(hg:g<w.heap.size)(l:List BE)(z:∀e∈l,szE e<=n) :
 Zy5 w.heap.size 293 #[.pointer (some ⟨g,0,none⟩)] (λ e=>!S.formedE L e) l w:=by
 intro W e v m u D;have C:=Ya hF;have k:=(m.block g hg).trans y;have q:g<W.heap.size:=Y3 hg m.size;have j:=z e u;obtain⟨A,c,rfl,h1,h2,h3⟩:=D;have f:Below W.heap.size W (W.alloc (.cells #[.int .i64 e.op,.int .i64 e.n,.string e.name,.slice A e.kids.length c] 152)):=(Yh _ _).alloc (Yb _) _;have d:=heap_alloc_new W (.cells #[.int .i64 e.op,.int .i64 e.n,.string e.name,.slice A e.kids.length c] 152);have B:W.heap.size<(W.alloc (.cells #[.int .i64 e.op,.int .i64 e.n,.string e.name,.slice A e.kids.length c] 152)).heap.size:=by simp
 have a:=hF e (.agg #[.int .i64 e.op,.int .i64 e.n,.string e.name,.slice A e.kids.length c]) (W.alloc (.cells #[.int .i64 e.op,.int .i64 e.n,.string e.name,.slice A e.kids.length c] 152)) j ⟨A,c,rfl,h1,h2,(h3.below f).more f.size⟩;have b:=(f.block g q).trans k;unfold Zp3 at a
 show Calls prog 293 #[.agg #[.int .i64 e.op,.int .i64 e.n,.string e.name,.slice A e.kids.length c],.pointer (some ⟨g,0,none⟩)] W λ x w'=>x=.returned (.bool (!S.formedE L e))/\Below W.heap.size W w'
 generalize formedE L e=R at *;generalize e.op=op at *;generalize e.n=en at *;generalize e.name=nm at *;generalize e.kids.length=kl at *;have h:=Ya a;have i:=Ya f;clear a hF C j z u h1 h2 h3 m y k;go_enter func293,ntmps293
 go_upto_region 1 with fail
 generalize W.alloc (.cells #[.int .i64 op,.int .i64 en,.string nm,.slice A kl c] 152)=w2 at *;have c0:w2.cell? ⟨g,0,none⟩=some (.string s):=by rw[Yc b];rfl
 have c1:w2.cell? ⟨g,1,none⟩=some (.int .i64 P):=by rw[Yc b];rfl
 have c2:w2.cell? ⟨g,2,none⟩=some (.int .i64 L):=by rw[Yc b];rfl
 have c3:w2.cell? ⟨g,3,none⟩=some (.bool p):=by rw[Yc b];rfl
 have c4:w2.cell? ⟨g,4,none⟩=some (.slice t nb r):=by rw[Yc b];rfl
 have e0:w2.cell? ⟨W.heap.size,0,none⟩=some (.int .i64 op):=by rw[Yc d];rfl
 have e1:w2.cell? ⟨W.heap.size,1,none⟩=some (.int .i64 en):=by rw[Yc d];rfl
 have e2:w2.cell? ⟨W.heap.size,2,none⟩=some (.string nm):=by rw[Yc d];rfl
 have e3:w2.cell? ⟨W.heap.size,3,none⟩=some (.slice A kl c):=by rw[Yc d];rfl
 clear d b;go_wp2_with fail
 refine h.out.mono ?_;rintro x w3 ⟨rfl,o⟩;go_wp2_with fail
 go_ret
 exact⟨rfl,i.out.trans (o.mono i.out.size)⟩
theorem Zy6 (o:ByteArray)(P L:Int)(j:Bool)(p:Option Addr)(nb m:Nat):∀n,n<=1000000000->Fmd o P L j p nb m n:=by
 intro n
 induction n with
 | zero =>
  intro _ e v w t _;have:=Zdn e;omega
 | succ n ih =>
  intro hn e v w t u;obtain⟨A,c,rfl,h1,h2,h3⟩:=u;have s:=Zdn e;have l:=Zew e.kids;have a:formedE L e=(headE L e.op e.n e.name e.kids.length && formedEs L e.kids):=by obtain⟨op,n',nm,kids⟩:=e;rw[formedE];rfl
  refine Zut o P L j p nb m e.op e.n e.name e.kids.length A c w (by omega) h1 (formedE L e) (λ h=>by rw[a,h];rfl) (λ h W f=>?_);have i:=f.b;have q:=i.size;have d:=(h3.below i).more q;have hp:=Zuu (ih (by omega)) w.heap.size W f.r (by have:=f.z;omega) e.kids (λ k d=>by have:=Zlt d;omega);refine(Zfe W.heap.size _ _ (λ k=>!S.formedE L k) Zkb W (Yb _) A e.kids c hp d (by omega)).mono ?_;rintro x w' ⟨rfl,g⟩;refine⟨?_,g⟩;rw[a,h,Zeg];simp
theorem Zy7 (J:ByteArray)(P L:Int)(O:Bool)(T:Option Addr)(nb N:Nat)(op n:Int)(nm:ByteArray)(N1 m f:Nat)(regs:List Int)(E s G F:Option Addr)(c1 c2 c3 c4:Nat)(w:World)(H:nm.size<=maxLen)(y:Ints w w.heap.size s regs)(R:regs.length<=maxLen) :
 Calls prog 274 #[.agg #[.string J,.int .i64 P,.int .i64 L,.bool O,.slice T nb N],.agg #[.int .i64 op,.int .i64 n,.string nm,.slice E N1 c1,.slice s regs.length c2,.slice G m c3,.slice F f c4]] w
  λ x w'=>x=.returned (.bool (shapedS L op n nm N1 regs m f))/\Below w.heap.size w w':=by
 have q:=Ya (λ(W:World) (hb:Below w.heap.size w W)=>Zy3 s c2 regs W ((y.below hb).more hb.size) R);have X:shapedS L op n nm N1 regs m f=(decide (1<=op/\op<=11) && (decide (op=5) || decide (regs.length=0)) && risingB regs && (decide (1<=bodiesS op) || decide (m=0)) && (decide (2<=bodiesS op) || decide (f=0)) &&
  numS L op n && decide (N1=exprsS op regs.length) && (namedS op==(nm.toList != ([]:List UInt8))) && (!S.namedS op || labB nm)):=by
  rw[Ziw];rfl
 have Y:=Ya X;have u:=Ya (λ W=>Zp0 nm W H);clear X H y R;generalize risingB regs=ρ at *;obtain⟨N2,C⟩:=Yx regs.length;rw[<- C] at q Y⊢;have a0:=Ya C;clear C;obtain⟨res,z⟩:=Yx (shapedS L op n nm N1 regs m f);rw[<- z] at Y⊢;clear z;obtain⟨t1,t2,t3,t4⟩:=Zex w (.cells #[.string J,.int .i64 P,.int .i64 L,.bool O,.slice T nb N] 203) (.cells #[.int .i64 op,.int .i64 n,.string nm,.slice E N1 c1,.slice s N2 c2,.slice G m c3,.slice F f c4] 149);go_enter func274,ntmps274
 go_upto_region 1 with fail
 generalize (w.alloc (.cells #[.string J,.int .i64 P,.int .i64 L,.bool O,.slice T nb N] 203)).alloc (.cells #[.int .i64 op,.int .i64 n,.string nm,.slice E N1 c1,.slice s N2 c2,.slice G m c3,.slice F f c4] 149)=w2 at *;have Z:w2.cell? ⟨w.heap.size+1,0,none⟩=some (.int .i64 op):=by rw[Yc t2];rfl
 have q1:w2.cell? ⟨w.heap.size+1,1,none⟩=some (.int .i64 n):=by rw[Yc t2];rfl
 go_quiet (fail)
 have g:=Ya (show RE w (w2.drewN nq) (.cells #[.string J,.int .i64 P,.int .i64 L,.bool O,.slice T nb N] 203) (.cells #[.int .i64 op,.int .i64 n,.string nm,.slice E N1 c1,.slice s N2 c2,.slice G m c3,.slice F f c4] 149) from⟨t1,t2,below_drewN t3 nq,by show _<=w2.heap.size;omega⟩);clear Z q1 t1 t2 t3 t4;generalize w2.drewN nq=w3 at *;have Z:w3.cell? ⟨w.heap.size+1,0,none⟩=some (.int .i64 op):=by rw[Yc g.out.e];rfl
 have q1:w3.cell? ⟨w.heap.size+1,1,none⟩=some (.int .i64 n):=by rw[Yc g.out.e];rfl
 have q2:w3.cell? ⟨w.heap.size,2,none⟩=some (.int .i64 L):=by rw[Yc g.out.r];rfl
 have q3:w3.cell? ⟨w.heap.size+1,4,none⟩=some (.slice s N2 c2):=by rw[Yc g.out.e];rfl
 go_upto_block 0 with fail
 clear Z;by_cases t:1<=op/\op<=11
 .go_cut [5,6,7,8] (λ v5 v6 v7 v8 wc=>v5=.int .i64 (exprsS op N2:Nat)/\v6=.bool (namedS op)/\v7=.bool (numS L op n)/\v8=.int .i64 (bodiesS op)/\Hid (RE w wc (.cells #[.string J,.int .i64 P,.int .i64 L,.bool O,.slice T nb N] 203) (.cells #[.int .i64 op,.int .i64 n,.string nm,.slice E N1 c1,.slice s N2 c2,.slice G m c3,.slice F f c4] 149)))
  case first =>
   rcases(show op=1\/op=2\/op=3\/op=4\/op=5\/op=6\/op=7\/op=8\/op=9\/op=10\/op=11 by omega) with rfl|rfl|rfl|rfl|rfl|rfl|rfl|rfl|rfl|rfl|rfl
   .by_cases h1:0<=n
    .by_cases h2:n<L
     .have He:=Ya (show true=numS L 1 n from(decide_eq_true ⟨h1,h2⟩).symm)
      go_wp2_with fail
      go_meet
      exact⟨rfl,rfl,by rw[<- He.out],rfl,g⟩
     .have He:=Ya (show false=numS L 1 n from(decide_eq_false (by omega)).symm)
      go_wp2_with fail
      go_meet
      exact⟨rfl,rfl,by rw[<- He.out],rfl,g⟩
    .have He:=Ya (show false=numS L 1 n from(decide_eq_false (by omega)).symm)
     go_wp2_with fail
     go_meet
     exact⟨rfl,rfl,by rw[<- He.out],rfl,g⟩
   .go_wp2_with fail
    refine(Zq8 n w3).mono ?_;rintro i j ⟨rfl,rfl⟩;go_wp2_with fail
    go_meet
    exact⟨rfl,rfl,rfl,rfl,g⟩
   .go_wp2_with fail
    go_meet
    exact⟨rfl,rfl,rfl,rfl,g⟩
   .go_wp2_with fail
    go_meet
    exact⟨rfl,rfl,rfl,rfl,g⟩
   .go_wp2_with fail
    go_meet
    exact⟨rfl,rfl,rfl,rfl,g⟩
   .go_wp2_with fail
    go_meet
    exact⟨rfl,rfl,rfl,rfl,g⟩
   .go_wp2_with fail
    go_meet
    exact⟨rfl,rfl,rfl,rfl,g⟩
   .go_wp2_with fail
    go_meet
    exact⟨rfl,rfl,rfl,rfl,g⟩
   .go_wp2_with fail
    refine(Zf1 n w3).mono ?_;rintro i j ⟨rfl,rfl⟩;go_wp2_with fail
    go_meet
    exact⟨rfl,rfl,rfl,rfl,g⟩
   .go_wp2_with fail
    go_meet
    exact⟨rfl,rfl,rfl,rfl,g⟩
   .go_wp2_with fail
    go_meet
    exact⟨rfl,rfl,rfl,rfl,g⟩
  case rest =>
   obtain⟨rfl,rfl,rfl,rfl,c⟩:=hcut;have A:=Y.out;rw[decide_eq_true t,Bool.true_and] at A;have U:=Ya A;clear A t Y g q1 q2 q3;have Z:wc.cell? ⟨w.heap.size+1,0,none⟩=some (.int .i64 op):=by rw[Yc c.out.e];rfl
   have q2:wc.cell? ⟨w.heap.size+1,2,none⟩=some (.string nm):=by rw[Yc c.out.e];rfl
   have q3:wc.cell? ⟨w.heap.size+1,3,none⟩=some (.slice E N1 c1):=by rw[Yc c.out.e];rfl
   have q4:wc.cell? ⟨w.heap.size+1,4,none⟩=some (.slice s N2 c2):=by rw[Yc c.out.e];rfl
   have q5:wc.cell? ⟨w.heap.size+1,5,none⟩=some (.slice G m c3):=by rw[Yc c.out.e];rfl
   have q6:wc.cell? ⟨w.heap.size+1,6,none⟩=some (.slice F f c4):=by rw[Yc c.out.e];rfl
   generalize exprsS op N2=K at *;generalize namedS op=M at *;generalize numS L op n=Q at *;generalize bodiesS op=D at *;have o:=Ya (q.out wc c.out.b);have Hl:=Ya (u.out wc);generalize labB nm=B at *;clear q u a0;obtain⟨V,a⟩:∃V:Bool,V=((decide (op=5) || decide (N2=0)) && ρ && (decide (1<=D) || decide (m=0)) && (decide (2<=D) || decide (f=0))):=⟨_,rfl⟩
   have h:=Ya (show res=(V && Q && decide (N1=K) && (M==(nm.toList != ([]:List UInt8))) && (!M || B)) from by rw[a];exact U.out);clear U;go_upto_region 22 with fail
   go_cut [86] (λ v w5=>v=.bool (!V)/\wc=w5)
   case first =>
    clear Hl h q2 q3;by_cases I:op=5
    .subst I
     cases ρ with
     | false =>
      have d:=Ya (show V=false from by rw[a];simp);clear a;go_wp2_with fail
      refine o.out.mono ?_;rintro i j ⟨rfl,rfl⟩;go_wp2_with fail
      go_meet
      exact⟨by rw[d.out];rfl,rfl⟩
     | true =>
      by_cases d1:D<1
      .by_cases z3:m=0
       .subst z3
        by_cases l:f=0
        .subst l
         have d:=Ya (show V=true from by rw[a];simp);clear a;go_wp2_with fail
         refine o.out.mono ?_;rintro i j ⟨rfl,rfl⟩;go_wp2_with fail
         go_meet
         exact⟨by rw[d.out];rfl,rfl⟩
        .have p4:0<f:=by omega
         have d:=Ya (show V=false from by rw[a,decide_eq_false l,decide_eq_false (show ¬2<=D by omega)];simp);clear a l;go_wp2_with fail
         refine o.out.mono ?_;rintro i j ⟨rfl,rfl⟩;go_wp2_with fail
         go_meet
         exact⟨by rw[d.out];rfl,rfl⟩
       .have p3:0<m:=by omega
        have d:=Ya (show V=false from by rw[a,decide_eq_false z3,decide_eq_false (show ¬1<=D by omega)];simp);clear a z3;go_wp2_with fail
        refine o.out.mono ?_;rintro i j ⟨rfl,rfl⟩;go_wp2_with fail
        go_meet
        exact⟨by rw[d.out];rfl,rfl⟩
      .by_cases d2:D<2
       .by_cases l:f=0
        .subst l
         have d:=Ya (show V=true from by rw[a,decide_eq_true (show 1<=D by omega)];simp);clear a;go_wp2_with fail
         refine o.out.mono ?_;rintro i j ⟨rfl,rfl⟩;go_wp2_with fail
         go_meet
         exact⟨by rw[d.out];rfl,rfl⟩
        .have p4:0<f:=by omega
         have d:=Ya (show V=false from by rw[a,decide_eq_false l,decide_eq_false (show ¬2<=D by omega)];simp);clear a l;go_wp2_with fail
         refine o.out.mono ?_;rintro i j ⟨rfl,rfl⟩;go_wp2_with fail
         go_meet
         exact⟨by rw[d.out];rfl,rfl⟩
       .have d:=Ya (show V=true from by rw[a,decide_eq_true (show 1<=D by omega),decide_eq_true (show 2<=D by omega)];simp)
        clear a;go_wp2_with fail
        refine o.out.mono ?_;rintro i j ⟨rfl,rfl⟩;go_wp2_with fail
        go_meet
        exact⟨by rw[d.out];rfl,rfl⟩
    .have n5:(op != 5)=true:=by simp[I]
     by_cases z2:N2=0
     .subst z2
      clear I
      cases ρ with
      | false =>
       have d:=Ya (show V=false from by rw[a];simp);clear a;go_wp2_with fail
       refine o.out.mono ?_;rintro i j ⟨rfl,rfl⟩;go_wp2_with fail
       go_meet
       exact⟨by rw[d.out];rfl,rfl⟩
      | true =>
       by_cases d1:D<1
       .by_cases z3:m=0
        .subst z3
         by_cases l:f=0
         .subst l
          have d:=Ya (show V=true from by rw[a];simp);clear a;go_wp2_with fail
          refine o.out.mono ?_;rintro i j ⟨rfl,rfl⟩;go_wp2_with fail
          go_meet
          exact⟨by rw[d.out];rfl,rfl⟩
         .have p4:0<f:=by omega
          have d:=Ya (show V=false from by rw[a,decide_eq_false l,decide_eq_false (show ¬2<=D by omega)];simp);clear a l;go_wp2_with fail
          refine o.out.mono ?_;rintro i j ⟨rfl,rfl⟩;go_wp2_with fail
          go_meet
          exact⟨by rw[d.out];rfl,rfl⟩
        .have p3:0<m:=by omega
         have d:=Ya (show V=false from by rw[a,decide_eq_false z3,decide_eq_false (show ¬1<=D by omega)];simp);clear a z3;go_wp2_with fail
         refine o.out.mono ?_;rintro i j ⟨rfl,rfl⟩;go_wp2_with fail
         go_meet
         exact⟨by rw[d.out];rfl,rfl⟩
       .by_cases d2:D<2
        .by_cases l:f=0
         .subst l
          have d:=Ya (show V=true from by rw[a,decide_eq_true (show 1<=D by omega)];simp);clear a;go_wp2_with fail
          refine o.out.mono ?_;rintro i j ⟨rfl,rfl⟩;go_wp2_with fail
          go_meet
          exact⟨by rw[d.out];rfl,rfl⟩
         .have p4:0<f:=by omega
          have d:=Ya (show V=false from by rw[a,decide_eq_false l,decide_eq_false (show ¬2<=D by omega)];simp);clear a l;go_wp2_with fail
          refine o.out.mono ?_;rintro i j ⟨rfl,rfl⟩;go_wp2_with fail
          go_meet
          exact⟨by rw[d.out];rfl,rfl⟩
        .have d:=Ya (show V=true from by rw[a,decide_eq_true (show 1<=D by omega),decide_eq_true (show 2<=D by omega)];simp)
         clear a;go_wp2_with fail
         refine o.out.mono ?_;rintro i j ⟨rfl,rfl⟩;go_wp2_with fail
         go_meet
         exact⟨by rw[d.out];rfl,rfl⟩
     .have p2:0<N2:=by omega
      have d:=Ya (show V=false from by rw[a,decide_eq_false I,decide_eq_false z2];simp);clear a z2 I;go_wp2_with fail
      go_meet
      exact⟨by rw[d.out];rfl,rfl⟩
   case rest =>
    obtain⟨rfl,rfl⟩:=hcut;clear a
    cases V with
    | false =>
     have k:=Ya (h.out.trans (show _=false by simp));go_wp2_with fail
     go_ret
     exact⟨Zk k.out.symm,c.out.b⟩
    | true =>
     cases Q with
     | false =>
      have k:=Ya (h.out.trans (show _=false by simp));go_wp2_with fail
      go_ret
      exact⟨Zk k.out.symm,c.out.b⟩
     | true =>
      by_cases hk:N1=K
      .subst hk
       by_cases p:nm.toList=[]
       .have hie:nm.toList.isEmpty=true:=by simp[p]
        cases M with
        | true =>
         have k:=Ya (h.out.trans (show _=false by simp[p]));go_wp2_with fail
         go_ret
         exact⟨Zk k.out.symm,c.out.b⟩
        | false =>
         have k:=Ya (h.out.trans (show _=true by simp[p]));go_wp2_with fail
         go_ret
         exact⟨Zk k.out.symm,c.out.b⟩
       .have hie:nm.toList.isEmpty=false:=by simp[p]
        cases M with
        | false =>
         have k:=Ya (h.out.trans (show _=false by simp[p]));go_wp2_with fail
         go_ret
         exact⟨Zk k.out.symm,c.out.b⟩
        | true =>
         have k:=Ya (h.out.trans (show _=B by simp[p]));go_wp2_with fail
         refine Hl.out.mono ?_;rintro i j ⟨rfl,rfl⟩;go_wp2_with fail
         go_ret
         exact⟨Zk k.out.symm,c.out.b⟩
      .have k:=Ya (h.out.trans (show _=false by simp[hk]))
       have a1:((N1:Int)==(K:Int))=false:=by simp;omega
       clear hk;go_wp2_with fail
       go_ret
       exact⟨Zk k.out.symm,c.out.b⟩
 .have k:=Ya (show res=false from by rw[Y.out,decide_eq_false t];simp)
  have n1:(op==1)=false:=by simp;omega
  have n2:(op==2)=false:=by simp;omega
  have n3:(op==3)=false:=by simp;omega
  have n4:(op==4)=false:=by simp;omega
  have n5:(op==5)=false:=by simp;omega
  have n6:(op==6)=false:=by simp;omega
  have n7:(op==7)=false:=by simp;omega
  have n8:(op==8)=false:=by simp;omega
  have n9:(op==9)=false:=by simp;omega
  have a2:(op==10)=false:=by simp;omega
  have a3:(op==11)=false:=by simp;omega
  clear t;go_wp2_with fail
  go_ret
  exact⟨Zk k.out.symm,g.out.b⟩
