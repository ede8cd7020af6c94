/- Parts. -/
import Derived.Test.YtldbnjajjfgipaaGreatDoorZExtB
import Derived.Deep.CutBlock
set_option linter.all false
set_option maxHeartbeats 4000000
open Go.Lib renaming hid->Ya,cell_of_heap->Yb
open Nat renaming le_refl->Yd,lt_of_lt_of_le->Yr,zero_add->Yw,le_trans->Yaa
open List renaming getElem?_eq_getElem->Ye,length_cons->Yk,mem_of_getElem?->Y2,cons_append->Yab,nil_append->Yag,take_length->Yal
open Go.RowKit.Below renaming refl->Yj
namespace Go.Proofs.YtldbnjajjfgipaaGreatDoor
open S Go.Proofs.Tryz Go.RowKit
set_option maxRecDepth 100000
theorem Zgr (e:BE):∀(l:List BE)(i:Nat),needEs (l++[e]) i=max (needEs l i) (i+l.length+max 1 (needE e))
 | [],i=>by simp only[Yag,needEs,List.length_nil];omega
 | x::r,i=>by
  rw[Yab,needEs,needEs,Zgr e r (i+1)];simp only[Yk];omega
mutual
theorem Zu3:∀(e:BE),needE e<=szE e
 | .mk op n name kids=>by
  rw[needE,szE];have:=Zei kids 0;omega
theorem Zei:∀(l:List BE)(i:Nat),needEs l i<=i+Zdy l
 | [],i=>by rw[needEs];omega
 | e::r,i=>by
  rw[needEs,Zdy];have h1:=Zu3 e;have h2:=Zei r (i+1);have h3:=Zco e;omega
end
theorem Zcl {α:Type}(l:List α){k:Nat}{x:α}(h:l[k]?=some x):l.take (k+1)=l.take k++[x]:=by
 rw[List.take_add_one,h];rfl
theorem Zmo (l m:List BE):Zdy (l++m)=Zdy l+Zdy m:=by
 induction l with
 | nil=>rw[Yag,Zdy,Yw]
 | cons x r ih=>rw[Yab,Zdy,Zdy,ih,Nat.add_assoc]
theorem Zq7 (l:List BE)(k:Nat):Zdy (l.take k)<=Zdy l:=by
 have:Zdy l=Zdy (l.take k)+Zdy (l.drop k):=by rw[<- Zmo,List.take_append_drop]
 omega
theorem Zdg:∀l:List BE,l.length<=Zdy l
 | []=>by simp
 | e::r=>by
  rw[Zdy,Yk];have:=Zdg r;have:=Zco e;omega
theorem Z0a:∀(n:Nat)(A:Option Addr)(c:Nat)(l:List BE)(w:World),Zdy l<=n->n<=1000000000->EList w w.heap.size A l ->
 Calls prog 278 #[.slice A l.length c] w λ e w'=>e=.returned (.int .i64 (needEs l 0:Nat))/\Below w.heap.size w w':=by
 intro n
 induction n with
 | zero =>
  intro A c l w O t hA;have Y:l=[]:=by
   cases l with
   | nil=>rfl
   | cons e r=>rw[Zdy] at O;have:=Zco e;omega
  subst Y;go_enter func278,ntmps278
  go_wp2_with fail
  go_loopw [3,8] (λ J p wr=>J=.int .i64 0/\p=.int .i64 0/\w=wr) (λ _ _ _=>0)
  case atStart=>exact⟨rfl,rfl,rfl⟩
  case round =>
   obtain⟨rfl,rfl,rfl⟩:=hrel;go_wp2_with fail
   go_ret
   exact⟨rfl,Yj _ _⟩
 | succ n ih =>
  intro A c l w O t hA;have j:=Zdg l;obtain⟨N,I⟩:=Yx l.length;rw[<- I] at j⊢;have F:=Ya I;have T:=Ya hA;clear I hA;go_enter func278,ntmps278
  go_wp2_with fail
  go_loopw [3,8] (λ J p wr=>∃(k m:Nat),k<=N/\p=.int .i64 k/\J=.int .i64 m/\Hid (m=needEs (l.take k) 0)/\m<=1000000000/\Below w.heap.size w wr) (λ _ p _=>N-(intOf p).toNat)
  case atStart=>exact⟨0,0,by omega,rfl,rfl,Ya (by rw[List.take_zero,needEs]),by omega,Yj _ _⟩
  case round =>
   obtain⟨k,m,hk,rfl,rfl,P,hm,d⟩:=hrel;by_cases B:k<N
   .obtain⟨e,he⟩:∃e,l[k]?=some e:=⟨_,Ye (by rw[<- F.out];exact B)⟩
    obtain⟨b,off,D,s,rfl,C,q0,q1,q2,V,X,W,Q⟩:=(T.out.below d).at_ he;have Z:=Zju (Y2 he);have a0:=Zco e;have o:(l.take k).length=k:=by have:=F.out;rw[List.length_take];omega
    have g:needEs (l.take (k+1)) 0=max m (k+max 1 (needE e)):=by
     rw[Zcl l he,Zgr,o,<- P.out,Yw]
    have h:needE e=needEs e.kids 0:=by obtain⟨op,n',nm,kids⟩:=e;rw[needE];rfl
    have hq:=Zei e.kids 0;have a1:b<wr.heap.size:=Yr C d.size;have f:Below wr.heap.size wr (wr.alloc (.cells #[.int .i64 e.op,.int .i64 e.n,.string e.name,.slice D e.kids.length s] 152)):=(Yj _ _).alloc (Yd _) _;have a:=ih D s e.kids (wr.alloc (.cells #[.int .i64 e.op,.int .i64 e.n,.string e.name,.slice D e.kids.length s] 152)) (by omega) (by omega) (((Q.more d.size).below f).more f.size);obtain⟨r,R⟩:=Yx (needEs e.kids 0);rw[<- R] at a h hq;rw[h] at g;have K:max m (k+max 1 r)<=1000000000:=by
     rw[<- g];have h1:=Zei (l.take (k+1)) 0;have h2:=Zq7 l (k+1);omega
    obtain⟨op,M,nm,L,v⟩:∃op M nm L,op=e.op/\M=e.n/\nm=e.name/\L=e.kids.length:=⟨_,_,_,_,rfl,rfl,rfl,rfl⟩
    obtain⟨E,H,x,u⟩:=v;rw[<- E,<- H,<- x,<- u] at a f;rw[<- E] at q0;rw[<- H] at q1;rw[<- x] at q2;rw[<- u] at V;have i:=Ya a;have G:=Ya g;have q:=Ya f;clear a g f E H x u R h he X W Q o;go_wp2_with fail
    refine i.out.mono ?_;rintro e2 w2 ⟨rfl,y⟩;have z:=d.trans ((q.out.trans (y.mono q.out.size)).mono d.size);have U:(max (1:Int) (r:Int))=((max 1 r:Nat):Int):=by omega
    go_wp2_with fail
    go_roundw
    case rel =>
     refine⟨k+1,max m (k+max 1 r),by omega,by go_num,?_,Ya G.out.symm,K,z⟩
     congr 1
     (repeat' split) <;> omega
    case measure=>simp[intOf];omega
   .have hkN:k=N:=by omega
    subst hkN;go_wp2_with fail
    go_ret
    have:needEs l 0=m:=by rw[P.out,F.out,Yal]
    exact⟨Zs (by rw[this]),d⟩
def Zu4 (B g:Nat)(lb:Array Value)(p:BE->Bool)(l:List BE)(w:World):Prop :=
 ∀(W:World)(e:BE)(v:Value),Below B w W->e∈l->Z30 W W.heap.size e v->Calls prog g (#[v]++lb) W λ x w'=>x=.returned (.bool (p e))/\Below W.heap.size W w'
theorem Zmp (B g:Nat)(I:Array Value)(p:BE->Bool)(eg:∀args w,(callFunc g args).run prog w=.ok (.enter g args) w)(w:World)(F:B<=w.heap.size)(A:Option Addr)(l:List BE)(c:Nat)(hp:Zu4 B g I p l w)(hA:EList w B A l)(W:l.length<=1000000000) :
 Calls prog 292 #[.slice A l.length c,.func (.func g) #[] I] w λ e w'=>(∃r:Int,e=.returned (.int .i64 r)/\decide (0<=r)=l.any p)/\Below w.heap.size w w':=by
 obtain⟨N,o⟩:∃N:Nat,N=l.length:=⟨_,rfl⟩
 rw[<- o] at W⊢;have O:=Ya o;have T:=Ya hA;clear o hA;go_enter func292,ntmps292
 go_wp2_with fail
 go_loopw [5,8] (λ _ C wr=>∃k:Nat,k<=N/\C=.int .i64 k/\Below w.heap.size w wr/\Hid (∀x∈l.take k,p x=false)) (λ _ C _=>N-(intOf C).toNat)
 case atStart=>exact⟨0,by omega,rfl,Yj _ _,Ya (by simp)⟩
 case round =>
  obtain⟨k,hk,rfl,d,h⟩:=hrel;by_cases t:k<N
  .obtain⟨e,he⟩:∃e,l[k]?=some e:=⟨_,Ye (by rw[<- O.out];exact t)⟩
   have f:=d.mono F;obtain⟨b,off,K,H,rfl,U,R,Z,q2,Y,Q,G,E⟩:=(T.out.below f).at_ he;have a0:b<wr.heap.size:=by have:=d.size;omega
   have a:=hp wr e (.agg #[.int .i64 e.op,.int .i64 e.n,.string e.name,.slice K e.kids.length H]) f (Y2 he) ⟨K,H,rfl,Q,G,E.more (Yaa F d.size)⟩;obtain⟨q,s⟩:=Yx (p e);rw[<- s] at a;have M:=Ya s;have L:=Ya he;obtain⟨op,P,nm,J,D⟩:∃op P nm J,op=e.op/\P=e.n/\nm=e.name/\J=e.kids.length:=⟨_,_,_,_,rfl,rfl,rfl,rfl⟩
   obtain⟨u,m,v,z⟩:=D;rw[<- u,<- m,<- v,<- z] at a;rw[<- u] at R;rw[<- m] at Z;rw[<- v] at q2;rw[<- z] at Y;have Hp:=Ya hp;clear hp s he u m v z Q G E f
   cases q with
   | true =>
    go_wp2_with (go_at_fn g;refine a.mono ?_;rintro V X ⟨rfl,j⟩)
    go_ret
    refine⟨⟨(k:Int),rfl,?_⟩,d.trans (j.mono d.size)⟩;rw[decide_eq_true (by omega)]
    symm
    rw[List.any_eq_true];exact⟨e,Y2 L.out,M.out.symm⟩
   | false =>
    go_wp2_with (go_at_fn g;refine a.mono ?_;rintro V X ⟨rfl,j⟩)
    go_roundw
    case rel =>
     refine⟨k+1,by omega,by go_num,d.trans (j.mono d.size),Ya (λ y i=>?_)⟩;rw[Zcl l L.out] at i;rcases List.mem_append.1 i with i|i
     .exact h.out y i
     .have:y=e:=by simpa using i
      rw[this];exact M.out.symm
    case measure=>simp[intOf];omega
  .have hkN:k=N:=by omega
   subst hkN;clear hp;go_wp2_with fail
   go_ret
   refine⟨⟨-1,rfl,?_⟩,d⟩;rw[decide_eq_false (by omega)]
   symm
   rw[List.any_eq_false];intro y i;have:=h.out y (by rw[O.out,Yal];exact i);simp[this]
theorem Zd1 (B g:Nat)(b:Array Value)(p:BE->Bool)(d:∀args w,(callFunc g args).run prog w=.ok (.enter g args) w)(w:World)(f:B<=w.heap.size)(A:Option Addr)(l:List BE)(c:Nat)(hp:Zu4 B g b p l w)(hA:EList w B A l)(h:l.length<=1000000000) :
 Calls prog 275 #[.slice A l.length c,.func (.func g) #[] b] w λ e w'=>e=.returned (.bool (l.any p))/\Below w.heap.size w w':=by
 have i:=Ya (Zmp B g b p d w f A l c hp hA h);generalize l.any p=r at *;clear hp hA d;go_enter func275,ntmps275
 go_wp2_with (go_at_call 292;refine i.out.mono ?_;rintro e w2 ⟨⟨n,rfl,hn⟩,a⟩)
 all_goals
  go_ret
  exact⟨by simp_all,a⟩
theorem Zdh (w:World)(a b:Obj):((w.alloc a).alloc b).heap[w.heap.size]?=some a/\((w.alloc a).alloc b).heap[w.heap.size+1]?=some b/\Below w.heap.size w ((w.alloc a).alloc b)/\((w.alloc a).alloc b).heap.size=w.heap.size+2:=by
 refine⟨?_,?_,((Yj _ _).alloc (Yd _) _).alloc (by simp) _,by simp⟩
 .rw[((Yj _ _).alloc (Yd (w.alloc a).heap.size) b).block _ (by simp)]
  exact heap_alloc_new w a
 .have:=heap_alloc_new (w.alloc a) b
  have e:(w.alloc a).heap.size=w.heap.size+1:=by simp
  rw[e] at this;exact this
structure RE (w wc:World)(r e:Obj):Prop where
 r:wc.heap[w.heap.size]?=some r
 e:wc.heap[w.heap.size+1]?=some e
 b:Below w.heap.size w wc
 z:w.heap.size+2<=wc.heap.size
theorem RE.next {w wc c:World}{r e:Obj}(h:RE w wc r e)(a:Below wc.heap.size wc c):RE w c r e :=
 ⟨(a.block _ (by have:=h.z;omega)).trans h.r,(a.block _ (by have:=h.z;omega)).trans h.e,h.b.trans (a.mono h.b.size),Yaa h.z a.size⟩
theorem Zc1 (L:Int):∀l:List BE,formedEs L l=!(l.any λ k=>!S.formedE L k)
 | []=>rfl
 | e::r=>by
  rw[formedEs,Zc1 L r,List.any_cons]
  cases formedE L e <;> simp
theorem Zq8 (q:ByteArray)(P L:Int)(p:Bool)(s:Option Addr)(nb o:Nat)(op n:Int)(nm:ByteArray)(N:Nat)(A:Option Addr)(c:Nat)(w:World)(hN:N<=1000000000)(t:nm.size<=maxLen)(R:Bool)(C:headE L op n nm N=false->R=false)
 (u:headE L op n nm N=true->∀W,RE w W (.cells #[.string q,.int .i64 P,.int .i64 L,.bool p,.slice s nb o] 203) (.cells #[.int .i64 op,.int .i64 n,.string nm,.slice A N c] 152)->Calls prog 275 #[.slice A N c,.func (.func 293) #[] #[.pointer (some ⟨w.heap.size,0,none⟩)]] W λ x w'=>x=.returned (.bool (!R))/\Below W.heap.size W w') :
 Calls prog 277 #[.agg #[.string q,.int .i64 P,.int .i64 L,.bool p,.slice s nb o],.agg #[.int .i64 op,.int .i64 n,.string nm,.slice A N c]] w λ x w'=>x=.returned (.bool R)/\Below w.heap.size w w':=by
 obtain⟨t1,t2,t3,t4⟩:=Zdh w (.cells #[.string q,.int .i64 P,.int .i64 L,.bool p,.slice s nb o] 203) (.cells #[.int .i64 op,.int .i64 n,.string nm,.slice A N c] 152);have l:=Ya C;have z:=Ya u;have y:=Ya (λ W=>Zmx nm W t);clear C u t;go_enter func277,ntmps277
 go_upto_region 1 with fail
 generalize (w.alloc (.cells #[.string q,.int .i64 P,.int .i64 L,.bool p,.slice s nb o] 203)).alloc (.cells #[.int .i64 op,.int .i64 n,.string nm,.slice A N c] 152)=w2 at *;have I:w2.cell? ⟨w.heap.size+1,0,none⟩=some (.int .i64 op):=by rw[Yb t2];rfl
 have O:w2.cell? ⟨w.heap.size+1,1,none⟩=some (.int .i64 n):=by rw[Yb t2];rfl
 go_quiet (fail)
 have d:=Ya (show RE w (w2.drewN nq) (.cells #[.string q,.int .i64 P,.int .i64 L,.bool p,.slice s nb o] 203) (.cells #[.int .i64 op,.int .i64 n,.string nm,.slice A N c] 152) from⟨t1,t2,below_drewN t3 nq,by show _<=w2.heap.size;omega⟩);clear I O t1 t2 t3 t4;generalize w2.drewN nq=w3 at *;have I:w3.cell? ⟨w.heap.size+1,0,none⟩=some (.int .i64 op):=by rw[Yb d.out.e];rfl
 have O:w3.cell? ⟨w.heap.size+1,1,none⟩=some (.int .i64 n):=by rw[Yb d.out.e];rfl
 have Y:w3.cell? ⟨w.heap.size,2,none⟩=some (.int .i64 L):=by rw[Yb d.out.r];rfl
 have V:w3.cell? ⟨w.heap.size+1,3,none⟩=some (.slice A N c):=by rw[Yb d.out.e];rfl
 go_upto_block 0 with fail
 clear I;by_cases k:1<=op/\op<=10
 .go_cut [5,6,7] (λ v5 v6 v7 wc=>v5=.int .i64 (kidsE op N:Nat)/\v6=.bool (namedE op)/\v7=.bool (numE L op n)/\Hid (RE w wc (.cells #[.string q,.int .i64 P,.int .i64 L,.bool p,.slice s nb o] 203) (.cells #[.int .i64 op,.int .i64 n,.string nm,.slice A N c] 152)))
  case first =>
   rcases(show op=1\/op=2\/op=3\/op=4\/op=5\/op=6\/op=7\/op=8\/op=9\/op=10 by omega) with rfl|rfl|rfl|rfl|rfl|rfl|rfl|rfl|rfl|rfl
   .by_cases h1:-2147483648<=n
    .by_cases h2:n<=4294967295
     .have He:=Ya (show true=numE L 1 n from(decide_eq_true ⟨h1,h2⟩).symm)
      go_wp2_with fail
      go_meet
      exact⟨rfl,rfl,by rw[<- He.out],d⟩
     .have He:=Ya (show false=numE L 1 n from(decide_eq_false (by omega)).symm)
      go_wp2_with fail
      go_meet
      exact⟨rfl,rfl,by rw[<- He.out],d⟩
    .have He:=Ya (show false=numE L 1 n from(decide_eq_false (by omega)).symm)
     go_wp2_with fail
     go_meet
     exact⟨rfl,rfl,by rw[<- He.out],d⟩
   .by_cases h1:0<=n
    .by_cases h2:n<L
     .have He:=Ya (show true=numE L 2 n from(decide_eq_true ⟨h1,h2⟩).symm)
      go_wp2_with fail
      go_meet
      exact⟨rfl,rfl,by rw[<- He.out],d⟩
     .have He:=Ya (show false=numE L 2 n from(decide_eq_false (by omega)).symm)
      go_wp2_with fail
      go_meet
      exact⟨rfl,rfl,by rw[<- He.out],d⟩
    .have He:=Ya (show false=numE L 2 n from(decide_eq_false (by omega)).symm)
     go_wp2_with fail
     go_meet
     exact⟨rfl,rfl,by rw[<- He.out],d⟩
   .go_wp2_with fail
    refine(Zel n w3).mono ?_;rintro J T ⟨rfl,rfl⟩;go_wp2_with fail
    go_meet
    exact⟨rfl,rfl,rfl,d⟩
   .by_cases h1:1<=n
    .by_cases h2:n<=14
     .have He:=Ya (show true=numE L 4 n from(decide_eq_true ⟨h1,h2⟩).symm)
      go_wp2_with fail
      go_quiet (fail)
      go_wp2_with fail
      go_meet
      exact⟨rfl,rfl,by rw[<- He.out],Ya (d.out.next (below_drewN (Yj _ _) _))⟩
     .have He:=Ya (show false=numE L 4 n from(decide_eq_false (by omega)).symm)
      go_wp2_with fail
      go_quiet (fail)
      go_wp2_with fail
      go_meet
      exact⟨rfl,rfl,by rw[<- He.out];congr 1;rw[decide_eq_false_iff_not];omega,Ya (d.out.next (below_drewN (Yj _ _) _))⟩
    .have He:=Ya (show false=numE L 4 n from(decide_eq_false (by omega)).symm)
     have hd:decide (1<=n)=false:=decide_eq_false h1;clear h1;go_wp2_with fail
     go_quiet (fail)
     go_wp2_with fail
     go_meet
     exact⟨rfl,rfl,by rw[<- He.out],Ya (d.out.next (below_drewN (Yj _ _) _))⟩
   .go_wp2_with fail
    refine(Zn4 n w3).mono ?_;rintro J T ⟨rfl,rfl⟩;go_wp2_with fail
    go_meet
    exact⟨rfl,rfl,rfl,d⟩
   .go_wp2_with fail
    go_meet
    exact⟨by congr 1;show min (N:Int) 4=((min N 4:Nat):Int);omega,rfl,rfl,d⟩
   .go_wp2_with fail
    go_meet
    exact⟨rfl,rfl,rfl,d⟩
   .go_wp2_with fail
    go_meet
    exact⟨rfl,rfl,rfl,d⟩
   .go_wp2_with fail
    go_meet
    exact⟨rfl,rfl,rfl,d⟩
   .go_wp2_with fail
    go_meet
    exact⟨rfl,rfl,rfl,d⟩
  case rest =>
   obtain⟨rfl,rfl,rfl,a⟩:=hcut;have G:headE L op n nm N=(numE L op n && decide (N=kidsE op N) && (namedE op==decide (nm.size≠0)) && (!S.namedE op || labB nm)):=by
    unfold headE;rw[decide_eq_true k,Bool.true_and]
   have v:=Zgy nm;rw[<- v] at G;clear v;generalize kidsE op N=K at *;generalize namedE op=M at *;generalize numE L op n=Q at *;have g:=l.out;have i:=z.out;rw[G] at g i;have H0:=Ya g;have X:=Ya i;clear G l z g i d O Y V k;have Y:wc.cell? ⟨w.heap.size+1,2,none⟩=some (.string nm):=by rw[Yb a.out.e];rfl
   have V:wc.cell? ⟨w.heap.size+1,3,none⟩=some (.slice A N c):=by rw[Yb a.out.e];rfl
   cases Q with
   | false =>
    have j:=Ya (H0.out (by simp));go_wp2_with fail
    go_ret
    exact⟨Zf j.out.symm,a.out.b⟩
   | true =>
    by_cases D:N=K
    .subst D
     by_cases f:nm.toList=[]
     .have hie:nm.toList.isEmpty=true:=by simp[f]
      cases M with
      | true =>
       have j:=Ya (H0.out (by simp[f]));go_wp2_with fail
       go_ret
       exact⟨Zf j.out.symm,a.out.b⟩
      | false =>
       have F:=Ya (X.out (by simp[f]) wc a.out);go_wp2_with fail
       refine F.out.mono ?_;rintro e5 w5 ⟨rfl,m⟩;go_wp2_with fail
       go_ret
       exact⟨Zf (by simp),a.out.b.trans (m.mono a.out.b.size)⟩
     .have hie:nm.toList.isEmpty=false:=by simp[f]
      cases M with
      | false =>
       have j:=Ya (H0.out (by simp[f]));go_wp2_with fail
       go_ret
       exact⟨Zf j.out.symm,a.out.b⟩
      | true =>
       have U:=Ya (y.out wc);have E:=Ya (λ h:labB nm=false=>H0.out (by simp[f,h]));have H:=Ya (λ h:labB nm=true=>X.out (by simp[f,h]) wc a.out);generalize labB nm=B at *
       cases B with
       | false =>
        have j:=Ya (E.out rfl);go_wp2_with fail
        refine U.out.mono ?_;rintro J T ⟨rfl,rfl⟩;go_wp2_with fail
        go_ret
        exact⟨Zf j.out.symm,a.out.b⟩
       | true =>
        have F:=Ya (H.out rfl);go_wp2_with fail
        refine U.out.mono ?_;rintro J T ⟨rfl,rfl⟩;go_wp2_with fail
        refine F.out.mono ?_;rintro e5 w5 ⟨rfl,m⟩;go_wp2_with fail
        go_ret
        exact⟨Zf (by simp),a.out.b.trans (m.mono a.out.b.size)⟩
    .have j:=Ya (H0.out (by simp[D]))
     have a0:((N:Int) != (K:Int))=true:=by simp;omega
     clear D;go_wp2_with fail
     go_ret
     exact⟨Zf j.out.symm,a.out.b⟩
 .have j:=Ya (l.out (by unfold headE;rw[decide_eq_false k];simp))
  have n1:(op==1)=false:=by simp;omega
  have n2:(op==2)=false:=by simp;omega
  have n3:(op==3)=false:=by simp;omega
  have n4:(op==4)=false:=by simp;omega
  have n5:(op==5)=false:=by simp;omega
  have n6:(op==6)=false:=by simp;omega
  have n7:(op==7)=false:=by simp;omega
  have n8:(op==8)=false:=by simp;omega
  have n9:(op==9)=false:=by simp;omega
  have Z:(op==10)=false:=by simp;omega
  clear k;go_wp2_with fail
  go_ret
  exact⟨Zf j.out.symm,d.out.b⟩
theorem Zie:∀args w,(callFunc 293 args).run prog w=.ok (.enter 293 args) w:=enters_of func293 (by kernel_rfl) rfl
theorem Zjr:∀args w,(callFunc 276 args).run prog w=.ok (.enter 276 args) w:=enters_of func276 (by kernel_rfl) rfl
def Zmq (L:Int)(e:BE)(w:World)(x:Ending)(w':World):Prop:=x=.returned (.bool (formedE L e))/\Below w.heap.size w w'
def Fmd (rn:ByteArray)(P L:Int)(bh:Bool)(Ab:Option Addr)(nb cb n:Nat):Prop:=∀(e:BE)(v:Value)(w:World),szE e<=n->Z30 w w.heap.size e v ->
 Calls prog 277 #[.agg #[.string rn,.int .i64 P,.int .i64 L,.bool bh,.slice Ab nb cb],v] w (Zmq L e w)
theorem Zq9 {s:ByteArray}{P L:Int}{p:Bool}{t:Option Addr}{nb q n:Nat}(hF:Fmd s P L p t nb q n)(g:Nat)(w:World)(B:w.heap[g]?=some (.cells #[.string s,.int .i64 P,.int .i64 L,.bool p,.slice t nb q] 203))(hg:g<w.heap.size)(l:List BE)(u:∀e∈l,szE e<=n) :
 Zu4 w.heap.size 293 #[.pointer (some ⟨g,0,none⟩)] (λ e=>!S.formedE L e) l w:=by
 intro W e v o D E;have F:=Ya hF;have j:=(o.block g hg).trans B;have m:g<W.heap.size:=Yr hg o.size;have i:=u e D;obtain⟨A,c,rfl,y,z,C⟩:=E;have f:Below W.heap.size W (W.alloc (.cells #[.int .i64 e.op,.int .i64 e.n,.string e.name,.slice A e.kids.length c] 152)):=(Yj _ _).alloc (Yd _) _;have d:=heap_alloc_new W (.cells #[.int .i64 e.op,.int .i64 e.n,.string e.name,.slice A e.kids.length c] 152);have G:W.heap.size<(W.alloc (.cells #[.int .i64 e.op,.int .i64 e.n,.string e.name,.slice A e.kids.length c] 152)).heap.size:=by simp
 have a:=hF e (.agg #[.int .i64 e.op,.int .i64 e.n,.string e.name,.slice A e.kids.length c]) (W.alloc (.cells #[.int .i64 e.op,.int .i64 e.n,.string e.name,.slice A e.kids.length c] 152)) i ⟨A,c,rfl,y,z,(C.below f).more f.size⟩;have b:=(f.block g m).trans j;unfold Zmq at a
 show Calls prog 293 #[.agg #[.int .i64 e.op,.int .i64 e.n,.string e.name,.slice A e.kids.length c],.pointer (some ⟨g,0,none⟩)] W λ x w'=>x=.returned (.bool (!S.formedE L e))/\Below W.heap.size W w'
 generalize formedE L e=R at *;generalize e.op=op at *;generalize e.n=en at *;generalize e.name=nm at *;generalize e.kids.length=kl at *;have h:=Ya a;have k:=Ya f;clear a hF F i u D y z C o B j;go_enter func293,ntmps293
 go_upto_region 1 with fail
 generalize W.alloc (.cells #[.int .i64 op,.int .i64 en,.string nm,.slice A kl c] 152)=w2 at *;have c0:w2.cell? ⟨g,0,none⟩=some (.string s):=by rw[Yb b];rfl
 have c1:w2.cell? ⟨g,1,none⟩=some (.int .i64 P):=by rw[Yb b];rfl
 have c2:w2.cell? ⟨g,2,none⟩=some (.int .i64 L):=by rw[Yb b];rfl
 have c3:w2.cell? ⟨g,3,none⟩=some (.bool p):=by rw[Yb b];rfl
 have c4:w2.cell? ⟨g,4,none⟩=some (.slice t nb q):=by rw[Yb b];rfl
 have e0:w2.cell? ⟨W.heap.size,0,none⟩=some (.int .i64 op):=by rw[Yb d];rfl
 have e1:w2.cell? ⟨W.heap.size,1,none⟩=some (.int .i64 en):=by rw[Yb d];rfl
 have e2:w2.cell? ⟨W.heap.size,2,none⟩=some (.string nm):=by rw[Yb d];rfl
 have e3:w2.cell? ⟨W.heap.size,3,none⟩=some (.slice A kl c):=by rw[Yb d];rfl
 clear d b;go_wp2_with fail
 refine h.out.mono ?_;rintro x w3 ⟨rfl,r⟩;go_wp2_with fail
 go_ret
 exact⟨rfl,k.out.trans (r.mono k.out.size)⟩
theorem Zu5 (o:ByteArray)(P L:Int)(j:Bool)(p:Option Addr)(nb l:Nat):∀n,n<=1000000000->Fmd o P L j p nb l n:=by
 intro n
 induction n with
 | zero =>
  intro _ e v w B _;have:=Zco e;omega
 | succ n ih =>
  intro hn e v w B s;obtain⟨A,c,rfl,u,h2,y⟩:=s;have t:=Zco e;have m:=Zdg e.kids;have a:formedE L e=(headE L e.op e.n e.name e.kids.length && formedEs L e.kids):=by obtain⟨op,n',nm,kids⟩:=e;rw[formedE];rfl
  refine Zq8 o P L j p nb l e.op e.n e.name e.kids.length A c w (by omega) u (formedE L e) (λ h=>by rw[a,h];rfl) (λ h W f=>?_);have i:=f.b;have q:=i.size;have d:=(y.below i).more q;have hp:=Zq9 (ih (by omega)) w.heap.size W f.r (by have:=f.z;omega) e.kids (λ k d=>by have:=Zju d;omega);refine(Zd1 W.heap.size _ _ (λ k=>!S.formedE L k) Zie W (Yd _) A e.kids c hp d (by omega)).mono ?_;rintro x w' ⟨rfl,g⟩;refine⟨?_,g⟩;rw[a,h,Zc1];simp
