/- Parts. -/
import Derived.Test.YtfhiobkkdcdmiaaGreatDoorZBMem
import Derived.BigQuiet
import Derived.Deep.QuietTactic
import Derived.Deep.DeepCutAuto
import Derived.Deep.CutBlock
set_option linter.all false
set_option maxHeartbeats 4000000
open Go.Lib renaming hid->Ya,cell_of_heap->Yc
open Nat renaming le_refl->Yb,lt_of_lt_of_le->Yy,le_trans->Y8,zero_add->Y9
open List renaming getElem?_eq_getElem->Yf,length_cons->Yi,mem_of_getElem?->Y1,cons_append->Yaa,take_length->Yaf,nil_append->Yaj,take_zero->Ya2
open Go.RowKit.Below renaming refl->Yh
open Bool renaming not_eq_true->Ycj
namespace Go.Proofs.YtfhiobkkdcdmiaaGreatDoor
open Go.RowKit
set_option maxRecDepth 100000
theorem Zif (s:ByteArray):(s.toList != ([]:List UInt8))=decide (s.size≠0):=by
 rw[ByteArray.toList_eq]
 cases h:s.data.toList with
 | nil =>
  have:s.size=0:=by show s.data.size=0;rw[<- Array.length_toList,h];rfl
  simp[this]
 | cons x r =>
  have:s.size≠0:=by show s.data.size≠0;rw[<- Array.length_toList,h];simp
  simp[this]
theorem Zpe (s:ByteArray)(w:World)(hs:s.size<=maxLen):Calls Tryz.prog 209 #[.string s] w λ e w'=>e=.returned (.bool (S.labB s))/\w=w':=by
 have Hne:=Ya (Zif s);have Hc:=Ya (Zan s w hs);by_cases h:s.toList=[]
 .have Hr:=Ya (show S.labB s=false from by
   have h1:decide (s.size≠0)=false:=by rw[<- Zif s];simp[h]
   show(decide (s.size≠0) && !S.ownB s)=false
   rw[h1];rfl)
  clear hs;go_enter Tryz.func209,Tryz.ntmps209
  go_wp2_with fail
  go_ret
  exact⟨Zi Hr.out.symm,rfl⟩
 .have Hr:=Ya (show S.labB s=!S.ownB s from by
   have h1:decide (s.size≠0)=true:=by rw[<- Zif s];simp[h]
   show(decide (s.size≠0) && !S.ownB s)=_
   rw[h1];rfl)
  clear hs;go_enter Tryz.func209,Tryz.ntmps209
  go_wp2_with fail
  refine Hc.out.mono ?_;rintro e w2 ⟨rfl,rfl⟩;go_wp2_with fail
  go_ret
  exact⟨Zi (by rw[Hr.out];simp[h]),rfl⟩
theorem Zqr (n:Int)(w:World):Calls Tryz.prog 237 #[.int .i64 n] w λ e w'=>e=.returned (.bool (S.offB n))/\w=w':=by
 by_cases h:-32768<=n
 .by_cases h2:n<32768
  .have Hr:=Ya (show true=S.offB n from(decide_eq_true ⟨h,h2⟩).symm)
   go_enter Tryz.func237,Tryz.ntmps237
   go_wp2_with fail
   go_ret
   exact⟨Zi Hr.out,rfl⟩
  .have Hr:=Ya (show false=S.offB n from(decide_eq_false (by omega)).symm)
   go_enter Tryz.func237,Tryz.ntmps237
   go_wp2_with fail
   go_ret
   exact⟨Zi Hr.out,rfl⟩
 .have Hr:=Ya (show false=S.offB n from(decide_eq_false (by omega)).symm)
  go_enter Tryz.func237,Tryz.ntmps237
  go_wp2_with fail
  go_ret
  exact⟨Zi Hr.out,rfl⟩
theorem Zfv (n:Int)(w:World):Calls Tryz.prog 238 #[.int .i64 n] w λ e w'=>e=.returned (.bool (S.visB n))/\w=w':=by
 rcases(show(1<=n/\n<=10)\/n<1\/(10<n/\n<26)\/n=26\/n=27\/n=28\/n=29\/n=30\/30<n by omega) with⟨h,h'⟩|h|⟨h,h'⟩|rfl|rfl|rfl|rfl|rfl|h
 .have Hr:=Ya (show true=S.visB n from(decide_eq_true (.inl ⟨h,h'⟩)).symm)
  go_enter Tryz.func238,Tryz.ntmps238
  go_wp2_with fail
  go_ret
  exact⟨Zi Hr.out,rfl⟩
 .have Hr:=Ya (show false=S.visB n from(decide_eq_false (by omega)).symm)
  have n1:(n==26)=false:=by simp;omega
  have n2:(n==27)=false:=by simp;omega
  have n3:(n==29)=false:=by simp;omega
  have n4:(n==30)=false:=by simp;omega
  go_enter Tryz.func238,Tryz.ntmps238
  go_wp2_with fail
  go_ret
  first
   | exact⟨Zi Hr.out,rfl⟩
   | exact⟨Zi ((decide_eq_false (by omega)).trans Hr.out),rfl⟩
 .have Hr:=Ya (show false=S.visB n from(decide_eq_false (by omega)).symm)
  have n1:(n==26)=false:=by simp;omega
  have n2:(n==27)=false:=by simp;omega
  have n3:(n==29)=false:=by simp;omega
  have n4:(n==30)=false:=by simp;omega
  go_enter Tryz.func238,Tryz.ntmps238
  go_wp2_with fail
  go_ret
  first
   | exact⟨Zi Hr.out,rfl⟩
   | exact⟨Zi ((decide_eq_false (by omega)).trans Hr.out),rfl⟩
 .go_enter Tryz.func238,Tryz.ntmps238
  go_wp2_with fail
  go_ret
  exact⟨Zi rfl,rfl⟩
 .go_enter Tryz.func238,Tryz.ntmps238
  go_wp2_with fail
  go_ret
  exact⟨Zi rfl,rfl⟩
 .go_enter Tryz.func238,Tryz.ntmps238
  go_wp2_with fail
  go_ret
  exact⟨Zi rfl,rfl⟩
 .go_enter Tryz.func238,Tryz.ntmps238
  go_wp2_with fail
  go_ret
  exact⟨Zi rfl,rfl⟩
 .go_enter Tryz.func238,Tryz.ntmps238
  go_wp2_with fail
  go_ret
  exact⟨Zi rfl,rfl⟩
 .have Hr:=Ya (show false=S.visB n from(decide_eq_false (by omega)).symm)
  have n1:(n==26)=false:=by simp;omega
  have n2:(n==27)=false:=by simp;omega
  have n3:(n==29)=false:=by simp;omega
  have n4:(n==30)=false:=by simp;omega
  go_enter Tryz.func238,Tryz.ntmps238
  go_wp2_with fail
  go_ret
  first
   | exact⟨Zi Hr.out,rfl⟩
   | exact⟨Zi ((decide_eq_false (by omega)).trans Hr.out),rfl⟩
def Zx1 (l:List Int)(k:Nat):Prop:=∀j,j<k->S.visB (l.getD j 0)=true/\(0<j->l.getD (j-1) 0<l.getD j 0)
theorem Zkg:∀(l:List Int),S.risingB l=true↔Zx1 l l.length
 | []=>by
  constructor
  .intro _ j hj;simp at hj
  .intro _;rfl
 | [a]=>by
  rw[S.risingB]
  constructor
  .intro h j hj
   have:j=0:=by simpa using hj
   subst this;exact⟨h,by omega⟩
  .intro h;exact(h 0 (by simp)).1
 | a::b::r=>by
  rw[S.risingB];simp only[Bool.and_eq_true,decide_eq_true_eq];rw[Zkg (b::r)]
  constructor
  .rintro⟨⟨h1,h2⟩,h3⟩ j hj
   rcases j with _|j
   .exact⟨h1,by omega⟩
   .obtain⟨q1,q2⟩:=h3 j (by simpa using hj)
    refine⟨q1,λ _=>?_⟩;rcases j with _|j
    .exact h2
    .exact q2 (by omega)
  .intro h
   refine⟨⟨(h 0 (by simp)).1,(h 1 (by simp)).2 (by omega)⟩,λ j hj=>?_⟩;obtain⟨q1,q2⟩:=h (j+1) (by simpa using hj);refine⟨q1,λ hp=>?_⟩;have:=q2 (by omega);rcases j with _|j
   .omega
   .exact this
theorem Zx2 (A:Option Addr)(c:Nat)(l:List Int)(w:World)(hA:Ints w w.heap.size A l)(hl:l.length<=maxLen):Calls Tryz.prog 239 #[.slice A l.length c] w λ e w'=>e=.returned (.bool (S.risingB l))/\w=w':=by
 unfold maxLen at hl;obtain⟨N,hN⟩:=Yx l.length;rw[<- hN] at hl⊢;have HN:=Ya hN;have Hall:=Ya (Zkg l);clear hN;go_enter Tryz.func239,Tryz.ntmps239
 go_wp2_with fail
 go_loopw [3,4,7] (λ _ _ v7 wr=>∃k:Nat,k<=N/\v7=.int .i64 k/\w=wr/\Hid (Zx1 l k)) (λ _ _ v7 _=>N-(intOf v7).toNat)
 case atStart=>exact⟨0,by omega,rfl,rfl,Ya λ j hj=>by omega⟩
 case round =>
  obtain⟨k,hk,rfl,rfl,HR⟩:=hrel;by_cases hlt:k<N
  .have hkl:k<l.length:=by rw[<- HN.out];exact hlt
   obtain⟨b,off,rfl,hbB,hc⟩:=hA.two (by omega);obtain⟨x,hx⟩:∃x,l[k]?=some x:=⟨_,Yf hkl⟩
   have hx0:=hc k x hx;have hgx:l.getD k 0=x:=by simp[hx]
   cases hv:S.visB x with
   | false =>
    have Hf:=Ya (show S.risingB l=false from by
     rw[<- Ycj,Hall.out];intro h;have:=(h k hkl).1;rw[hgx,hv] at this
     cases this)
    have Hv:=Ya (Zfv x w);rw[hv] at Hv;clear hv hgx hx hc;go_wp2_with fail
    refine Hv.out.mono ?_;rintro e w2 ⟨rfl,rfl⟩;go_wp2_with fail
    go_ret
    exact⟨Zi Hf.out.symm,rfl⟩
   | true =>
    have Hv:=Ya (Zfv x w);rw[hv] at Hv;by_cases hk0:k=0
    .subst hk0
     rw[Nat.add_zero] at hx0;have HR':=Ya (show Zx1 l 1 from λ j hj=>by
      have:j=0:=by omega
      subst this;exact⟨by rw[hgx];exact hv,by omega⟩)
     clear hv hgx hx hc;go_wp2_with fail
     refine Hv.out.mono ?_;rintro e w2 ⟨rfl,rfl⟩;go_wp2_with fail
     go_roundw
     case rel=>exact⟨1,by omega,by first|rfl|go_num,by first|rfl|trivial,HR'⟩
     case measure=>simp[intOf];omega
    .obtain⟨y,hy⟩:∃y,l[k-1]?=some y:=⟨_,Yf (by omega)⟩
     have hy0:=hc (k-1) y hy;have hgy:l.getD (k-1) 0=y:=by simp[hy]
     have hk1:0<k:=by omega
     have et:((k:Int)-1).toNat=k-1:=by omega
     have eo:off+((k:Int)-1).toNat=off+(k-1):=by omega
     by_cases hyx:y<x
     .have HR':=Ya (show Zx1 l (k+1) from λ j hj=>by
       by_cases hjk:j=k
       .subst hjk
        exact⟨by rw[hgx];exact hv,λ _=>by rw[hgx,hgy];exact hyx⟩
       .exact HR.out j (by omega))
      clear hv hgx hgy hx hy hc hk0;go_wp2_with fail
      refine Hv.out.mono ?_;rintro e w2 ⟨rfl,rfl⟩;go_wp2_with fail
      go_roundw
      case rel=>exact⟨k+1,by omega,by go_num,by first|rfl|trivial,HR'⟩
      case measure=>simp[intOf];omega
     .have Hf:=Ya (show S.risingB l=false from by
       rw[<- Ycj,Hall.out];intro h;have:=(h k hkl).2 hk1;rw[hgx,hgy] at this;exact hyx this)
      clear hv hgx hgy hx hy hc hk0;go_wp2_with fail
      refine Hv.out.mono ?_;rintro e w2 ⟨rfl,rfl⟩;go_wp2_with fail
      go_ret
      exact⟨Zi Hf.out.symm,rfl⟩
  .have hkN:k=N:=by omega
   subst hkN;go_wp2_with fail
   go_ret
   refine⟨?_,rfl⟩;have:S.risingB l=true:=by rw[Hall.out,<- HN.out];exact HR.out
   exact Zi this.symm
theorem Zig (e:S.BE):∀(l:List S.BE)(i:Nat),S.needEs (l++[e]) i=max (S.needEs l i) (i+l.length+max 1 (S.needE e))
 | [],i=>by simp only[Yaj,S.needEs,List.length_nil];omega
 | x::r,i=>by
  rw[Yaa,S.needEs,S.needEs,Zig e r (i+1)];simp only[Yi];omega
mutual
theorem Zx3:∀(e:S.BE),S.needE e<=szE e
 | .mk op n name kids=>by
  rw[S.needE,szE];have:=Zfw kids 0;omega
theorem Zfw:∀(l:List S.BE)(i:Nat),S.needEs l i<=i+Ze2 l
 | [],i=>by rw[S.needEs];omega
 | e::r,i=>by
  rw[S.needEs,Ze2];have h1:=Zx3 e;have h2:=Zfw r (i+1);have h3:=Zdj e;omega
end
theorem Zdl {α:Type}(l:List α){k:Nat}{x:α}(h:l[k]?=some x):l.take (k+1)=l.take k++[x]:=by
 rw[List.take_add_one,h];rfl
theorem Zpf (l m:List S.BE):Ze2 (l++m)=Ze2 l+Ze2 m:=by
 induction l with
 | nil=>rw[Yaj,Ze2,Y9]
 | cons x r ih=>rw[Yaa,Ze2,Ze2,ih,Nat.add_assoc]
theorem Zt3 (l:List S.BE)(k:Nat):Ze2 (l.take k)<=Ze2 l:=by
 have:Ze2 l=Ze2 (l.take k)+Ze2 (l.drop k):=by rw[<- Zpf,List.take_append_drop]
 omega
theorem Zeq:∀l:List S.BE,l.length<=Ze2 l
 | []=>by simp
 | e::r=>by
  rw[Ze2,Yi];have:=Zeq r;have:=Zdj e;omega
theorem Z3q:∀(n:Nat)(A:Option Addr)(c:Nat)(l:List S.BE)(w:World),Ze2 l<=n->n<=1000000000->EList w w.heap.size A l ->
 Calls Tryz.prog 229 #[.slice A l.length c] w λ e w'=>e=.returned (.int .i64 (S.needEs l 0:Nat))/\Below w.heap.size w w':=by
 intro n
 induction n with
 | zero =>
  intro A c l w hn hn2 hA;have hl:l=[]:=by
   cases l with
   | nil=>rfl
   | cons e r=>rw[Ze2] at hn;have:=Zdj e;omega
  subst hl;go_enter Tryz.func229,Tryz.ntmps229
  go_wp2_with fail
  go_loopw [3,8] (λ v3 v8 wr=>v3=.int .i64 0/\v8=.int .i64 0/\w=wr) (λ _ _ _=>0)
  case atStart=>exact⟨rfl,rfl,rfl⟩
  case round =>
   obtain⟨rfl,rfl,rfl⟩:=hrel;go_wp2_with fail
   go_ret
   exact⟨rfl,Yh _ _⟩
 | succ n ih =>
  intro A c l w hn hn2 hA;have hlen:=Zeq l;obtain⟨N,hN⟩:=Yx l.length;rw[<- hN] at hlen⊢;have HN:=Ya hN;have HA:=Ya hA;clear hN hA;go_enter Tryz.func229,Tryz.ntmps229
  go_wp2_with fail
  go_loopw [3,8] (λ v3 v8 wr=>∃(k m:Nat),k<=N/\v8=.int .i64 k/\v3=.int .i64 m/\Hid (m=S.needEs (l.take k) 0)/\m<=1000000000/\Below w.heap.size w wr) (λ _ v8 _=>N-(intOf v8).toNat)
  case atStart=>exact⟨0,0,by omega,rfl,rfl,Ya (by rw[Ya2,S.needEs]),by omega,Yh _ _⟩
  case round =>
   obtain⟨k,m,hk,rfl,rfl,HM,hm,hbk⟩:=hrel;by_cases hlt:k<N
   .obtain⟨e,he⟩:∃e,l[k]?=some e:=⟨_,Yf (by rw[<- HN.out];exact hlt)⟩
    obtain⟨b,off,A',c',rfl,hbB,q0,q1,q2,q3,q4,q5,q6⟩:=(HA.out.below hbk).at_ he;have hsz:=Zk7 (Y1 he);have hsp:=Zdj e;have hkl:(l.take k).length=k:=by have:=HN.out;rw[List.length_take];omega
    have hnx:S.needEs (l.take (k+1)) 0=max m (k+max 1 (S.needE e)):=by
     rw[Zdl l he,Zig,hkl,<- HM.out,Y9]
    have hnE:S.needE e=S.needEs e.kids 0:=by obtain⟨op,n',nm,kids⟩:=e;rw[S.needE];rfl
    have hq:=Zfw e.kids 0;have hbr:b<wr.heap.size:=Yy hbB hbk.size;have hbX:Below wr.heap.size wr (wr.alloc (.cells #[.int .i64 e.op,.int .i64 e.n,.string e.name,.slice A' e.kids.length c'] 111)):=(Yh _ _).alloc (Yb _) _;have hrec:=ih A' c' e.kids (wr.alloc (.cells #[.int .i64 e.op,.int .i64 e.n,.string e.name,.slice A' e.kids.length c'] 111)) (by omega) (by omega) (((q6.more hbk.size).below hbX).more hbX.size);obtain⟨r,hr⟩:=Yx (S.needEs e.kids 0);rw[<- hr] at hrec hnE hq;rw[hnE] at hnx;have hbd:max m (k+max 1 r)<=1000000000:=by
     rw[<- hnx];have h1:=Zfw (l.take (k+1)) 0;have h2:=Zt3 l (k+1);omega
    obtain⟨op,en,nm,kl,hop⟩:∃op en nm kl,op=e.op/\en=e.n/\nm=e.name/\kl=e.kids.length:=⟨_,_,_,_,rfl,rfl,rfl,rfl⟩
    obtain⟨o1,o2,o3,o4⟩:=hop;rw[<- o1,<- o2,<- o3,<- o4] at hrec hbX;rw[<- o1] at q0;rw[<- o2] at q1;rw[<- o3] at q2;rw[<- o4] at q3;have Hrec:=Ya hrec;have Hnx:=Ya hnx;have HbX:=Ya hbX;clear hrec hnx hbX o1 o2 o3 o4 hr hnE he q4 q5 q6 hkl;go_wp2_with fail
    refine Hrec.out.mono ?_;rintro e2 w2 ⟨rfl,hb2⟩;have hb3:=hbk.trans ((HbX.out.trans (hb2.mono HbX.out.size)).mono hbk.size);have hmx:(max (1:Int) (r:Int))=((max 1 r:Nat):Int):=by omega
    go_wp2_with fail
    go_roundw
    case rel =>
     refine⟨k+1,max m (k+max 1 r),by omega,by go_num,?_,Ya Hnx.out.symm,hbd,hb3⟩
     congr 1
     (repeat' split) <;> omega
    case measure=>simp[intOf];omega
   .have hkN:k=N:=by omega
    subst hkN;go_wp2_with fail
    go_ret
    have:S.needEs l 0=m:=by rw[HM.out,HN.out,Yaf]
    exact⟨Z2 (by rw[this]),hbk⟩
def Zx4 (B g:Nat)(lb:Array Value)(p:S.BE->Bool)(l:List S.BE)(w:World):Prop :=
 ∀(W:World)(e:S.BE)(v:Value),Below B w W->e∈l->Z6m W W.heap.size e v->Calls Tryz.prog g (#[v]++lb) W λ x w'=>x=.returned (.bool (p e))/\Below W.heap.size W w'
theorem Zpg (B g:Nat)(lb:Array Value)(p:S.BE->Bool)(eg:∀args w,(callFunc g args).run Tryz.prog w=.ok (.enter g args) w)(w:World)(hB:B<=w.heap.size)(A:Option Addr)(l:List S.BE)(c:Nat)(hp:Zx4 B g lb p l w)(hA:EList w B A l)(hl:l.length<=1000000000) :
 Calls Tryz.prog 240 #[.slice A l.length c,.func (.func g) #[] lb] w λ e w'=>(∃r:Int,e=.returned (.int .i64 r)/\decide (0<=r)=l.any p)/\Below w.heap.size w w':=by
 obtain⟨N,hN⟩:∃N:Nat,N=l.length:=⟨_,rfl⟩
 rw[<- hN] at hl⊢;have HN:=Ya hN;have HA:=Ya hA;clear hN hA;go_enter Tryz.func240,Tryz.ntmps240
 go_wp2_with fail
 go_loopw [5,8] (λ _ v8 wr=>∃k:Nat,k<=N/\v8=.int .i64 k/\Below w.heap.size w wr/\Hid (∀x∈l.take k,p x=false)) (λ _ v8 _=>N-(intOf v8).toNat)
 case atStart=>exact⟨0,by omega,rfl,Yh _ _,Ya (by simp)⟩
 case round =>
  obtain⟨k,hk,rfl,hbk,hpre⟩:=hrel;by_cases hlt:k<N
  .obtain⟨e,he⟩:∃e,l[k]?=some e:=⟨_,Yf (by rw[<- HN.out];exact hlt)⟩
   have hbB2:=hbk.mono hB;obtain⟨b,off,A',c',rfl,hbB,q0,q1,q2,q3,q4,q5,q6⟩:=(HA.out.below hbB2).at_ he;have hbr:b<wr.heap.size:=by have:=hbk.size;omega
   have hcall:=hp wr e (.agg #[.int .i64 e.op,.int .i64 e.n,.string e.name,.slice A' e.kids.length c']) hbB2 (Y1 he) ⟨A',c',rfl,q4,q5,q6.more (Y8 hB hbk.size)⟩;obtain⟨q,hq⟩:=Yx (p e);rw[<- hq] at hcall;have Hq:=Ya hq;have Hx:=Ya he;obtain⟨op,en,nm,kl,hop⟩:∃op en nm kl,op=e.op/\en=e.n/\nm=e.name/\kl=e.kids.length:=⟨_,_,_,_,rfl,rfl,rfl,rfl⟩
   obtain⟨o1,o2,o3,o4⟩:=hop;rw[<- o1,<- o2,<- o3,<- o4] at hcall;rw[<- o1] at q0;rw[<- o2] at q1;rw[<- o3] at q2;rw[<- o4] at q3;have Hp:=Ya hp;clear hp hq he o1 o2 o3 o4 q4 q5 q6 hbB2
   cases q with
   | true =>
    go_wp2_with (go_at_fn g;refine hcall.mono ?_;rintro e2 w2 ⟨rfl,hb2⟩)
    go_ret
    refine⟨⟨(k:Int),rfl,?_⟩,hbk.trans (hb2.mono hbk.size)⟩;rw[decide_eq_true (by omega)]
    symm
    rw[List.any_eq_true];exact⟨e,Y1 Hx.out,Hq.out.symm⟩
   | false =>
    go_wp2_with (go_at_fn g;refine hcall.mono ?_;rintro e2 w2 ⟨rfl,hb2⟩)
    go_roundw
    case rel =>
     refine⟨k+1,by omega,by go_num,hbk.trans (hb2.mono hbk.size),Ya (λ y hy=>?_)⟩;rw[Zdl l Hx.out] at hy;rcases List.mem_append.1 hy with hy|hy
     .exact hpre.out y hy
     .have:y=e:=by simpa using hy
      rw[this];exact Hq.out.symm
    case measure=>simp[intOf];omega
  .have hkN:k=N:=by omega
   subst hkN;clear hp;go_wp2_with fail
   go_ret
   refine⟨⟨-1,rfl,?_⟩,hbk⟩;rw[decide_eq_false (by omega)]
   symm
   rw[List.any_eq_false];intro y hy;have:=hpre.out y (by rw[HN.out,Yaf];exact hy);simp[this]
theorem Ze7 (B g:Nat)(lb:Array Value)(p:S.BE->Bool)(eg:∀args w,(callFunc g args).run Tryz.prog w=.ok (.enter g args) w)(w:World)(hB:B<=w.heap.size)(A:Option Addr)(l:List S.BE)(c:Nat)(hp:Zx4 B g lb p l w)(hA:EList w B A l)(hl:l.length<=1000000000) :
 Calls Tryz.prog 226 #[.slice A l.length c,.func (.func g) #[] lb] w λ e w'=>e=.returned (.bool (l.any p))/\Below w.heap.size w w':=by
 have HI:=Ya (Zpg B g lb p eg w hB A l c hp hA hl);generalize l.any p=r at *;clear hp hA eg;go_enter Tryz.func226,Tryz.ntmps226
 go_wp2_with (go_at_call 240;refine HI.out.mono ?_;rintro e w2 ⟨⟨n,rfl,hn⟩,hb2⟩)
 all_goals
  go_ret
  exact⟨by simp_all,hb2⟩
theorem Zer (w:World)(a b:Obj):((w.alloc a).alloc b).heap[w.heap.size]?=some a/\((w.alloc a).alloc b).heap[w.heap.size+1]?=some b/\Below w.heap.size w ((w.alloc a).alloc b)/\((w.alloc a).alloc b).heap.size=w.heap.size+2:=by
 refine⟨?_,?_,((Yh _ _).alloc (Yb _) _).alloc (by simp) _,by simp⟩
 .rw[((Yh _ _).alloc (Yb (w.alloc a).heap.size) b).block _ (by simp)]
  exact heap_alloc_new w a
 .have:=heap_alloc_new (w.alloc a) b
  have e:(w.alloc a).heap.size=w.heap.size+1:=by simp
  rw[e] at this;exact this
structure RE (w wc:World)(r e:Obj):Prop where
 r:wc.heap[w.heap.size]?=some r
 e:wc.heap[w.heap.size+1]?=some e
 b:Below w.heap.size w wc
 z:w.heap.size+2<=wc.heap.size
theorem RE.next {w wc w2:World}{r e:Obj}(h:RE w wc r e)(hb:Below wc.heap.size wc w2):RE w w2 r e :=
 ⟨(hb.block _ (by have:=h.z;omega)).trans h.r,(hb.block _ (by have:=h.z;omega)).trans h.e,h.b.trans (hb.mono h.b.size),Y8 h.z hb.size⟩
theorem Zea (L:Int):∀l:List S.BE,S.formedEs L l=!(l.any λ k=>!S.formedE L k)
 | []=>rfl
 | e::r=>by
  rw[S.formedEs,Zea L r,List.any_cons]
  cases S.formedE L e <;> simp
theorem Zt4 (rn:ByteArray)(P L:Int)(bh:Bool)(Ab:Option Addr)(nb cb:Nat)(op n:Int)(nm:ByteArray)(N:Nat)(A:Option Addr)(c:Nat)(w:World)(hN:N<=1000000000)(hnm:nm.size<=maxLen)(R:Bool)(hR0:S.headE L op n nm N=false->R=false)
 (hR1:S.headE L op n nm N=true->∀W,RE w W (.cells #[.string rn,.int .i64 P,.int .i64 L,.bool bh,.slice Ab nb cb] 178) (.cells #[.int .i64 op,.int .i64 n,.string nm,.slice A N c] 111)->Calls Tryz.prog 226 #[.slice A N c,.func (.func 241) #[] #[.pointer (some ⟨w.heap.size,0,none⟩)]] W λ x w'=>x=.returned (.bool (!R))/\Below W.heap.size W w') :
 Calls Tryz.prog 228 #[.agg #[.string rn,.int .i64 P,.int .i64 L,.bool bh,.slice Ab nb cb],.agg #[.int .i64 op,.int .i64 n,.string nm,.slice A N c]] w λ x w'=>x=.returned (.bool R)/\Below w.heap.size w w':=by
 obtain⟨t1,t2,t3,t4⟩:=Zer w (.cells #[.string rn,.int .i64 P,.int .i64 L,.bool bh,.slice Ab nb cb] 178) (.cells #[.int .i64 op,.int .i64 n,.string nm,.slice A N c] 111);have HR0:=Ya hR0;have HR1:=Ya hR1;have Hlab:=Ya (λ W=>Zpe nm W hnm);clear hR0 hR1 hnm;go_enter Tryz.func228,Tryz.ntmps228
 go_upto_region 1 with fail
 generalize (w.alloc (.cells #[.string rn,.int .i64 P,.int .i64 L,.bool bh,.slice Ab nb cb] 178)).alloc (.cells #[.int .i64 op,.int .i64 n,.string nm,.slice A N c] 111)=w2 at *;have q0:w2.cell? ⟨w.heap.size+1,0,none⟩=some (.int .i64 op):=by rw[Yc t2];rfl
 have q1:w2.cell? ⟨w.heap.size+1,1,none⟩=some (.int .i64 n):=by rw[Yc t2];rfl
 go_quiet (fail)
 have HW:=Ya (show RE w (w2.drewN nq) (.cells #[.string rn,.int .i64 P,.int .i64 L,.bool bh,.slice Ab nb cb] 178) (.cells #[.int .i64 op,.int .i64 n,.string nm,.slice A N c] 111) from⟨t1,t2,below_drewN t3 nq,by show _<=w2.heap.size;omega⟩);clear q0 q1 t1 t2 t3 t4;generalize w2.drewN nq=w3 at *;have q0:w3.cell? ⟨w.heap.size+1,0,none⟩=some (.int .i64 op):=by rw[Yc HW.out.e];rfl
 have q1:w3.cell? ⟨w.heap.size+1,1,none⟩=some (.int .i64 n):=by rw[Yc HW.out.e];rfl
 have q2:w3.cell? ⟨w.heap.size,2,none⟩=some (.int .i64 L):=by rw[Yc HW.out.r];rfl
 have q3:w3.cell? ⟨w.heap.size+1,3,none⟩=some (.slice A N c):=by rw[Yc HW.out.e];rfl
 go_upto_block 0 with fail
 clear q0;by_cases hop:1<=op/\op<=10
 .go_cut [5,6,7] (λ v5 v6 v7 wc=>v5=.int .i64 (S.kidsE op N:Nat)/\v6=.bool (S.namedE op)/\v7=.bool (S.numE L op n)/\Hid (RE w wc (.cells #[.string rn,.int .i64 P,.int .i64 L,.bool bh,.slice Ab nb cb] 178) (.cells #[.int .i64 op,.int .i64 n,.string nm,.slice A N c] 111)))
  case first =>
   rcases(show op=1\/op=2\/op=3\/op=4\/op=5\/op=6\/op=7\/op=8\/op=9\/op=10 by omega) with rfl|rfl|rfl|rfl|rfl|rfl|rfl|rfl|rfl|rfl
   .by_cases h1:-2147483648<=n
    .by_cases h2:n<=4294967295
     .have He:=Ya (show true=S.numE L 1 n from(decide_eq_true ⟨h1,h2⟩).symm)
      go_wp2_with fail
      go_meet
      exact⟨rfl,rfl,by rw[<- He.out],HW⟩
     .have He:=Ya (show false=S.numE L 1 n from(decide_eq_false (by omega)).symm)
      go_wp2_with fail
      go_meet
      exact⟨rfl,rfl,by rw[<- He.out],HW⟩
    .have He:=Ya (show false=S.numE L 1 n from(decide_eq_false (by omega)).symm)
     go_wp2_with fail
     go_meet
     exact⟨rfl,rfl,by rw[<- He.out],HW⟩
   .by_cases h1:0<=n
    .by_cases h2:n<L
     .have He:=Ya (show true=S.numE L 2 n from(decide_eq_true ⟨h1,h2⟩).symm)
      go_wp2_with fail
      go_meet
      exact⟨rfl,rfl,by rw[<- He.out],HW⟩
     .have He:=Ya (show false=S.numE L 2 n from(decide_eq_false (by omega)).symm)
      go_wp2_with fail
      go_meet
      exact⟨rfl,rfl,by rw[<- He.out],HW⟩
    .have He:=Ya (show false=S.numE L 2 n from(decide_eq_false (by omega)).symm)
     go_wp2_with fail
     go_meet
     exact⟨rfl,rfl,by rw[<- He.out],HW⟩
   .go_wp2_with fail
    refine(Zfv n w3).mono ?_;rintro e4 w4 ⟨rfl,rfl⟩;go_wp2_with fail
    go_meet
    exact⟨rfl,rfl,rfl,HW⟩
   .by_cases h1:1<=n
    .by_cases h2:n<=14
     .have He:=Ya (show true=S.numE L 4 n from(decide_eq_true ⟨h1,h2⟩).symm)
      go_wp2_with fail
      go_quiet (fail)
      go_wp2_with fail
      go_meet
      exact⟨rfl,rfl,by rw[<- He.out],Ya (HW.out.next (below_drewN (Yh _ _) _))⟩
     .have He:=Ya (show false=S.numE L 4 n from(decide_eq_false (by omega)).symm)
      go_wp2_with fail
      go_quiet (fail)
      go_wp2_with fail
      go_meet
      exact⟨rfl,rfl,by rw[<- He.out];congr 1;rw[decide_eq_false_iff_not];omega,Ya (HW.out.next (below_drewN (Yh _ _) _))⟩
    .have He:=Ya (show false=S.numE L 4 n from(decide_eq_false (by omega)).symm)
     have hd:decide (1<=n)=false:=decide_eq_false h1;clear h1;go_wp2_with fail
     go_quiet (fail)
     go_wp2_with fail
     go_meet
     exact⟨rfl,rfl,by rw[<- He.out],Ya (HW.out.next (below_drewN (Yh _ _) _))⟩
   .go_wp2_with fail
    refine(Zqr n w3).mono ?_;rintro e4 w4 ⟨rfl,rfl⟩;go_wp2_with fail
    go_meet
    exact⟨rfl,rfl,rfl,HW⟩
   .go_wp2_with fail
    go_meet
    exact⟨by congr 1;show min (N:Int) 4=((min N 4:Nat):Int);omega,rfl,rfl,HW⟩
   .go_wp2_with fail
    go_meet
    exact⟨rfl,rfl,rfl,HW⟩
   .go_wp2_with fail
    go_meet
    exact⟨rfl,rfl,rfl,HW⟩
   .go_wp2_with fail
    go_meet
    exact⟨rfl,rfl,rfl,HW⟩
   .go_wp2_with fail
    go_meet
    exact⟨rfl,rfl,rfl,HW⟩
  case rest =>
   obtain⟨rfl,rfl,rfl,HWc⟩:=hcut;have hh:S.headE L op n nm N=(S.numE L op n && decide (N=S.kidsE op N) && (S.namedE op==decide (nm.size≠0)) && (!S.namedE op || S.labB nm)):=by
    unfold S.headE;rw[decide_eq_true hop,Bool.true_and]
   have hs0:=Zif nm;rw[<- hs0] at hh;clear hs0;generalize S.kidsE op N=K at *;generalize S.namedE op=M at *;generalize S.numE L op n=Q at *;have HR0':=HR0.out;have HR1':=HR1.out;rw[hh] at HR0' HR1';have H0:=Ya HR0';have H1:=Ya HR1';clear hh HR0 HR1 HR0' HR1' HW q1 q2 q3 hop;have q2:wc.cell? ⟨w.heap.size+1,2,none⟩=some (.string nm):=by rw[Yc HWc.out.e];rfl
   have q3:wc.cell? ⟨w.heap.size+1,3,none⟩=some (.slice A N c):=by rw[Yc HWc.out.e];rfl
   cases Q with
   | false =>
    have Hf:=Ya (H0.out (by simp));go_wp2_with fail
    go_ret
    exact⟨Zi Hf.out.symm,HWc.out.b⟩
   | true =>
    by_cases hk:N=K
    .subst hk
     by_cases hn0:nm.toList=[]
     .have hie:nm.toList.isEmpty=true:=by simp[hn0]
      cases M with
      | true =>
       have Hf:=Ya (H0.out (by simp[hn0]));go_wp2_with fail
       go_ret
       exact⟨Zi Hf.out.symm,HWc.out.b⟩
      | false =>
       have Hc:=Ya (H1.out (by simp[hn0]) wc HWc.out);go_wp2_with fail
       refine Hc.out.mono ?_;rintro e5 w5 ⟨rfl,hb5⟩;go_wp2_with fail
       go_ret
       exact⟨Zi (by simp),HWc.out.b.trans (hb5.mono HWc.out.b.size)⟩
     .have hie:nm.toList.isEmpty=false:=by simp[hn0]
      cases M with
      | false =>
       have Hf:=Ya (H0.out (by simp[hn0]));go_wp2_with fail
       go_ret
       exact⟨Zi Hf.out.symm,HWc.out.b⟩
      | true =>
       have Hl:=Ya (Hlab.out wc);have H0':=Ya (λ h:S.labB nm=false=>H0.out (by simp[hn0,h]));have H1':=Ya (λ h:S.labB nm=true=>H1.out (by simp[hn0,h]) wc HWc.out);generalize S.labB nm=B at *
       cases B with
       | false =>
        have Hf:=Ya (H0'.out rfl);go_wp2_with fail
        refine Hl.out.mono ?_;rintro e4 w4 ⟨rfl,rfl⟩;go_wp2_with fail
        go_ret
        exact⟨Zi Hf.out.symm,HWc.out.b⟩
       | true =>
        have Hc:=Ya (H1'.out rfl);go_wp2_with fail
        refine Hl.out.mono ?_;rintro e4 w4 ⟨rfl,rfl⟩;go_wp2_with fail
        refine Hc.out.mono ?_;rintro e5 w5 ⟨rfl,hb5⟩;go_wp2_with fail
        go_ret
        exact⟨Zi (by simp),HWc.out.b.trans (hb5.mono HWc.out.b.size)⟩
    .have Hf:=Ya (H0.out (by simp[hk]))
     have hne:((N:Int) != (K:Int))=true:=by simp;omega
     clear hk;go_wp2_with fail
     go_ret
     exact⟨Zi Hf.out.symm,HWc.out.b⟩
 .have Hf:=Ya (HR0.out (by unfold S.headE;rw[decide_eq_false hop];simp))
  have n1:(op==1)=false:=by simp;omega
  have n2:(op==2)=false:=by simp;omega
  have n3:(op==3)=false:=by simp;omega
  have n4:(op==4)=false:=by simp;omega
  have n5:(op==5)=false:=by simp;omega
  have n6:(op==6)=false:=by simp;omega
  have n7:(op==7)=false:=by simp;omega
  have n8:(op==8)=false:=by simp;omega
  have n9:(op==9)=false:=by simp;omega
  have n10:(op==10)=false:=by simp;omega
  clear hop;go_wp2_with fail
  go_ret
  exact⟨Zi Hf.out.symm,HW.out.b⟩
theorem Zjv:∀args w,(callFunc 241 args).run Tryz.prog w=.ok (.enter 241 args) w:=enters_of Tryz.func241 (by kernel_rfl) rfl
theorem Zle:∀args w,(callFunc 227 args).run Tryz.prog w=.ok (.enter 227 args) w:=enters_of Tryz.func227 (by kernel_rfl) rfl
def Zph (L:Int)(e:S.BE)(w:World)(x:Ending)(w':World):Prop:=x=.returned (.bool (S.formedE L e))/\Below w.heap.size w w'
def Fmd (rn:ByteArray)(P L:Int)(bh:Bool)(Ab:Option Addr)(nb cb n:Nat):Prop:=∀(e:S.BE)(v:Value)(w:World),szE e<=n->Z6m w w.heap.size e v ->
 Calls Tryz.prog 228 #[.agg #[.string rn,.int .i64 P,.int .i64 L,.bool bh,.slice Ab nb cb],v] w (Zph L e w)
theorem Zt5 {rn:ByteArray}{P L:Int}{bh:Bool}{Ab:Option Addr}{nb cb n:Nat}(hF:Fmd rn P L bh Ab nb cb n)(g:Nat)(w:World)(hr:w.heap[g]?=some (.cells #[.string rn,.int .i64 P,.int .i64 L,.bool bh,.slice Ab nb cb] 178))(hg:g<w.heap.size)(l:List S.BE)(hl:∀e∈l,szE e<=n) :
 Zx4 w.heap.size 241 #[.pointer (some ⟨g,0,none⟩)] (λ e=>!S.formedE L e) l w:=by
 intro W e v hb he hv;have HF:=Ya hF;have hre:=(hb.block g hg).trans hr;have hgW:g<W.heap.size:=Yy hg hb.size;have hle:=hl e he;obtain⟨A,c,rfl,h1,h2,h3⟩:=hv;have hbX:Below W.heap.size W (W.alloc (.cells #[.int .i64 e.op,.int .i64 e.n,.string e.name,.slice A e.kids.length c] 111)):=(Yh _ _).alloc (Yb _) _;have hrX:=heap_alloc_new W (.cells #[.int .i64 e.op,.int .i64 e.n,.string e.name,.slice A e.kids.length c] 111);have hzX:W.heap.size<(W.alloc (.cells #[.int .i64 e.op,.int .i64 e.n,.string e.name,.slice A e.kids.length c] 111)).heap.size:=by simp
 have hcall:=hF e (.agg #[.int .i64 e.op,.int .i64 e.n,.string e.name,.slice A e.kids.length c]) (W.alloc (.cells #[.int .i64 e.op,.int .i64 e.n,.string e.name,.slice A e.kids.length c] 111)) hle ⟨A,c,rfl,h1,h2,(h3.below hbX).more hbX.size⟩;have hrY:=(hbX.block g hgW).trans hre;unfold Zph at hcall
 show Calls Tryz.prog 241 #[.agg #[.int .i64 e.op,.int .i64 e.n,.string e.name,.slice A e.kids.length c],.pointer (some ⟨g,0,none⟩)] W λ x w'=>x=.returned (.bool (!S.formedE L e))/\Below W.heap.size W w'
 generalize S.formedE L e=R at *;generalize e.op=op at *;generalize e.n=en at *;generalize e.name=nm at *;generalize e.kids.length=kl at *;have Hcall:=Ya hcall;have HbX:=Ya hbX;clear hcall hF HF hle hl he h1 h2 h3 hb hr hre;go_enter Tryz.func241,Tryz.ntmps241
 go_upto_region 1 with fail
 generalize W.alloc (.cells #[.int .i64 op,.int .i64 en,.string nm,.slice A kl c] 111)=w2 at *;have c0:w2.cell? ⟨g,0,none⟩=some (.string rn):=by rw[Yc hrY];rfl
 have c1:w2.cell? ⟨g,1,none⟩=some (.int .i64 P):=by rw[Yc hrY];rfl
 have c2:w2.cell? ⟨g,2,none⟩=some (.int .i64 L):=by rw[Yc hrY];rfl
 have c3:w2.cell? ⟨g,3,none⟩=some (.bool bh):=by rw[Yc hrY];rfl
 have c4:w2.cell? ⟨g,4,none⟩=some (.slice Ab nb cb):=by rw[Yc hrY];rfl
 have e0:w2.cell? ⟨W.heap.size,0,none⟩=some (.int .i64 op):=by rw[Yc hrX];rfl
 have e1:w2.cell? ⟨W.heap.size,1,none⟩=some (.int .i64 en):=by rw[Yc hrX];rfl
 have e2:w2.cell? ⟨W.heap.size,2,none⟩=some (.string nm):=by rw[Yc hrX];rfl
 have e3:w2.cell? ⟨W.heap.size,3,none⟩=some (.slice A kl c):=by rw[Yc hrX];rfl
 clear hrX hrY;go_wp2_with fail
 refine Hcall.out.mono ?_;rintro x w3 ⟨rfl,hb3⟩;go_wp2_with fail
 go_ret
 exact⟨rfl,HbX.out.trans (hb3.mono HbX.out.size)⟩
theorem Zx5 (rn:ByteArray)(P L:Int)(bh:Bool)(Ab:Option Addr)(nb cb:Nat):∀n,n<=1000000000->Fmd rn P L bh Ab nb cb n:=by
 intro n
 induction n with
 | zero =>
  intro _ e v w hs _;have:=Zdj e;omega
 | succ n ih =>
  intro hn e v w hs hv;obtain⟨A,c,rfl,h1,h2,h3⟩:=hv;have hsz:=Zdj e;have hlen:=Zeq e.kids;have hfe:S.formedE L e=(S.headE L e.op e.n e.name e.kids.length && S.formedEs L e.kids):=by obtain⟨op,n',nm,kids⟩:=e;rw[S.formedE];rfl
  refine Zt4 rn P L bh Ab nb cb e.op e.n e.name e.kids.length A c w (by omega) h1 (S.formedE L e) (λ h=>by rw[hfe,h];rfl) (λ h W hW=>?_);have hb:=hW.b;have hB:=hb.size;have hk:=(h3.below hb).more hB;have hp:=Zt5 (ih (by omega)) w.heap.size W hW.r (by have:=hW.z;omega) e.kids (λ k hk=>by have:=Zk7 hk;omega);refine(Ze7 W.heap.size _ _ (λ k=>!S.formedE L k) Zjv W (Yb _) A e.kids c hp hk (by omega)).mono ?_;rintro x w' ⟨rfl,hb'⟩;refine⟨?_,hb'⟩;rw[hfe,h,Zea];simp
theorem Zx6 (rn:ByteArray)(P L:Int)(bh:Bool)(Ab:Option Addr)(nb cb:Nat)(op n:Int)(nm:ByteArray)(N1 N3 N4:Nat)(regs:List Int)(A1 A2 A3 A4:Option Addr)(c1 c2 c3 c4:Nat)(w:World)(hnm:nm.size<=maxLen)(hreg:Ints w w.heap.size A2 regs)(hrl:regs.length<=maxLen) :
 Calls Tryz.prog 225 #[.agg #[.string rn,.int .i64 P,.int .i64 L,.bool bh,.slice Ab nb cb],.agg #[.int .i64 op,.int .i64 n,.string nm,.slice A1 N1 c1,.slice A2 regs.length c2,.slice A3 N3 c3,.slice A4 N4 c4]] w
  λ x w'=>x=.returned (.bool (S.shapedS L op n nm N1 regs N3 N4))/\Below w.heap.size w w':=by
 have Hris:=Ya (λ(W:World) (hb:Below w.heap.size w W)=>Zx2 A2 c2 regs W ((hreg.below hb).more hb.size) hrl);have hh0:S.shapedS L op n nm N1 regs N3 N4=(decide (1<=op/\op<=11) && (decide (op=5) || decide (regs.length=0)) && S.risingB regs && (decide (1<=S.bodiesS op) || decide (N3=0)) && (decide (2<=S.bodiesS op) || decide (N4=0)) &&
  S.numS L op n && decide (N1=S.exprsS op regs.length) && (S.namedS op==(nm.toList != ([]:List UInt8))) && (!S.namedS op || S.labB nm)):=by
  rw[Zif];rfl
 have Hh:=Ya hh0;have Hlab:=Ya (λ W=>Zpe nm W hnm);clear hh0 hnm hreg hrl;generalize S.risingB regs=ρ at *;obtain⟨N2,hN2⟩:=Yx regs.length;rw[<- hN2] at Hris Hh⊢;have HN2:=Ya hN2;clear hN2;obtain⟨res,hres⟩:=Yx (S.shapedS L op n nm N1 regs N3 N4);rw[<- hres] at Hh⊢;clear hres;obtain⟨t1,t2,t3,t4⟩:=Zer w (.cells #[.string rn,.int .i64 P,.int .i64 L,.bool bh,.slice Ab nb cb] 178) (.cells #[.int .i64 op,.int .i64 n,.string nm,.slice A1 N1 c1,.slice A2 N2 c2,.slice A3 N3 c3,.slice A4 N4 c4] 115);go_enter Tryz.func225,Tryz.ntmps225
 go_upto_region 1 with fail
 generalize (w.alloc (.cells #[.string rn,.int .i64 P,.int .i64 L,.bool bh,.slice Ab nb cb] 178)).alloc (.cells #[.int .i64 op,.int .i64 n,.string nm,.slice A1 N1 c1,.slice A2 N2 c2,.slice A3 N3 c3,.slice A4 N4 c4] 115)=w2 at *;have q0:w2.cell? ⟨w.heap.size+1,0,none⟩=some (.int .i64 op):=by rw[Yc t2];rfl
 have q1:w2.cell? ⟨w.heap.size+1,1,none⟩=some (.int .i64 n):=by rw[Yc t2];rfl
 go_quiet (fail)
 have HW:=Ya (show RE w (w2.drewN nq) (.cells #[.string rn,.int .i64 P,.int .i64 L,.bool bh,.slice Ab nb cb] 178) (.cells #[.int .i64 op,.int .i64 n,.string nm,.slice A1 N1 c1,.slice A2 N2 c2,.slice A3 N3 c3,.slice A4 N4 c4] 115) from⟨t1,t2,below_drewN t3 nq,by show _<=w2.heap.size;omega⟩);clear q0 q1 t1 t2 t3 t4;generalize w2.drewN nq=w3 at *;have q0:w3.cell? ⟨w.heap.size+1,0,none⟩=some (.int .i64 op):=by rw[Yc HW.out.e];rfl
 have q1:w3.cell? ⟨w.heap.size+1,1,none⟩=some (.int .i64 n):=by rw[Yc HW.out.e];rfl
 have q2:w3.cell? ⟨w.heap.size,2,none⟩=some (.int .i64 L):=by rw[Yc HW.out.r];rfl
 have q3:w3.cell? ⟨w.heap.size+1,4,none⟩=some (.slice A2 N2 c2):=by rw[Yc HW.out.e];rfl
 go_upto_block 0 with fail
 clear q0;by_cases hop:1<=op/\op<=11
 .go_cut [5,6,7,8] (λ v5 v6 v7 v8 wc=>v5=.int .i64 (S.exprsS op N2:Nat)/\v6=.bool (S.namedS op)/\v7=.bool (S.numS L op n)/\v8=.int .i64 (S.bodiesS op)/\Hid (RE w wc (.cells #[.string rn,.int .i64 P,.int .i64 L,.bool bh,.slice Ab nb cb] 178) (.cells #[.int .i64 op,.int .i64 n,.string nm,.slice A1 N1 c1,.slice A2 N2 c2,.slice A3 N3 c3,.slice A4 N4 c4] 115)))
  case first =>
   rcases(show op=1\/op=2\/op=3\/op=4\/op=5\/op=6\/op=7\/op=8\/op=9\/op=10\/op=11 by omega) with rfl|rfl|rfl|rfl|rfl|rfl|rfl|rfl|rfl|rfl|rfl
   .by_cases h1:0<=n
    .by_cases h2:n<L
     .have He:=Ya (show true=S.numS L 1 n from(decide_eq_true ⟨h1,h2⟩).symm)
      go_wp2_with fail
      go_meet
      exact⟨rfl,rfl,by rw[<- He.out],rfl,HW⟩
     .have He:=Ya (show false=S.numS L 1 n from(decide_eq_false (by omega)).symm)
      go_wp2_with fail
      go_meet
      exact⟨rfl,rfl,by rw[<- He.out],rfl,HW⟩
    .have He:=Ya (show false=S.numS L 1 n from(decide_eq_false (by omega)).symm)
     go_wp2_with fail
     go_meet
     exact⟨rfl,rfl,by rw[<- He.out],rfl,HW⟩
   .go_wp2_with fail
    refine(Zqr n w3).mono ?_;rintro e4 w4 ⟨rfl,rfl⟩;go_wp2_with fail
    go_meet
    exact⟨rfl,rfl,rfl,rfl,HW⟩
   .go_wp2_with fail
    go_meet
    exact⟨rfl,rfl,rfl,rfl,HW⟩
   .go_wp2_with fail
    go_meet
    exact⟨rfl,rfl,rfl,rfl,HW⟩
   .go_wp2_with fail
    go_meet
    exact⟨rfl,rfl,rfl,rfl,HW⟩
   .go_wp2_with fail
    go_meet
    exact⟨rfl,rfl,rfl,rfl,HW⟩
   .go_wp2_with fail
    go_meet
    exact⟨rfl,rfl,rfl,rfl,HW⟩
   .go_wp2_with fail
    go_meet
    exact⟨rfl,rfl,rfl,rfl,HW⟩
   .go_wp2_with fail
    refine(Zfv n w3).mono ?_;rintro e4 w4 ⟨rfl,rfl⟩;go_wp2_with fail
    go_meet
    exact⟨rfl,rfl,rfl,rfl,HW⟩
   .go_wp2_with fail
    go_meet
    exact⟨rfl,rfl,rfl,rfl,HW⟩
   .go_wp2_with fail
    go_meet
    exact⟨rfl,rfl,rfl,rfl,HW⟩
  case rest =>
   obtain⟨rfl,rfl,rfl,rfl,HWc⟩:=hcut;have Hh2:=Hh.out;rw[decide_eq_true hop,Bool.true_and] at Hh2;have Hh3:=Ya Hh2;clear Hh2 hop Hh HW q1 q2 q3;have q0:wc.cell? ⟨w.heap.size+1,0,none⟩=some (.int .i64 op):=by rw[Yc HWc.out.e];rfl
   have q2:wc.cell? ⟨w.heap.size+1,2,none⟩=some (.string nm):=by rw[Yc HWc.out.e];rfl
   have q3:wc.cell? ⟨w.heap.size+1,3,none⟩=some (.slice A1 N1 c1):=by rw[Yc HWc.out.e];rfl
   have q4:wc.cell? ⟨w.heap.size+1,4,none⟩=some (.slice A2 N2 c2):=by rw[Yc HWc.out.e];rfl
   have q5:wc.cell? ⟨w.heap.size+1,5,none⟩=some (.slice A3 N3 c3):=by rw[Yc HWc.out.e];rfl
   have q6:wc.cell? ⟨w.heap.size+1,6,none⟩=some (.slice A4 N4 c4):=by rw[Yc HWc.out.e];rfl
   generalize S.exprsS op N2=K at *;generalize S.namedS op=M at *;generalize S.numS L op n=Q at *;generalize S.bodiesS op=D at *;have Hr:=Ya (Hris.out wc HWc.out.b);have Hl:=Ya (Hlab.out wc);generalize S.labB nm=B at *;clear Hris Hlab HN2;obtain⟨V,hV⟩:∃V:Bool,V=((decide (op=5) || decide (N2=0)) && ρ && (decide (1<=D) || decide (N3=0)) && (decide (2<=D) || decide (N4=0))):=⟨_,rfl⟩
   have Hh4:=Ya (show res=(V && Q && decide (N1=K) && (M==(nm.toList != ([]:List UInt8))) && (!M || B)) from by rw[hV];exact Hh3.out);clear Hh3;go_upto_region 22 with fail
   go_cut [86] (λ v w5=>v=.bool (!V)/\wc=w5)
   case first =>
    clear Hl Hh4 q2 q3;by_cases h5:op=5
    .subst h5
     cases ρ with
     | false =>
      have HV:=Ya (show V=false from by rw[hV];simp);clear hV;go_wp2_with fail
      refine Hr.out.mono ?_;rintro e4 w4 ⟨rfl,rfl⟩;go_wp2_with fail
      go_meet
      exact⟨by rw[HV.out];rfl,rfl⟩
     | true =>
      by_cases d1:D<1
      .by_cases z3:N3=0
       .subst z3
        by_cases z4:N4=0
        .subst z4
         have HV:=Ya (show V=true from by rw[hV];simp);clear hV;go_wp2_with fail
         refine Hr.out.mono ?_;rintro e4 w4 ⟨rfl,rfl⟩;go_wp2_with fail
         go_meet
         exact⟨by rw[HV.out];rfl,rfl⟩
        .have p4:0<N4:=by omega
         have HV:=Ya (show V=false from by rw[hV,decide_eq_false z4,decide_eq_false (show ¬2<=D by omega)];simp);clear hV z4;go_wp2_with fail
         refine Hr.out.mono ?_;rintro e4 w4 ⟨rfl,rfl⟩;go_wp2_with fail
         go_meet
         exact⟨by rw[HV.out];rfl,rfl⟩
       .have p3:0<N3:=by omega
        have HV:=Ya (show V=false from by rw[hV,decide_eq_false z3,decide_eq_false (show ¬1<=D by omega)];simp);clear hV z3;go_wp2_with fail
        refine Hr.out.mono ?_;rintro e4 w4 ⟨rfl,rfl⟩;go_wp2_with fail
        go_meet
        exact⟨by rw[HV.out];rfl,rfl⟩
      .by_cases d2:D<2
       .by_cases z4:N4=0
        .subst z4
         have HV:=Ya (show V=true from by rw[hV,decide_eq_true (show 1<=D by omega)];simp);clear hV;go_wp2_with fail
         refine Hr.out.mono ?_;rintro e4 w4 ⟨rfl,rfl⟩;go_wp2_with fail
         go_meet
         exact⟨by rw[HV.out];rfl,rfl⟩
        .have p4:0<N4:=by omega
         have HV:=Ya (show V=false from by rw[hV,decide_eq_false z4,decide_eq_false (show ¬2<=D by omega)];simp);clear hV z4;go_wp2_with fail
         refine Hr.out.mono ?_;rintro e4 w4 ⟨rfl,rfl⟩;go_wp2_with fail
         go_meet
         exact⟨by rw[HV.out];rfl,rfl⟩
       .have HV:=Ya (show V=true from by rw[hV,decide_eq_true (show 1<=D by omega),decide_eq_true (show 2<=D by omega)];simp)
        clear hV;go_wp2_with fail
        refine Hr.out.mono ?_;rintro e4 w4 ⟨rfl,rfl⟩;go_wp2_with fail
        go_meet
        exact⟨by rw[HV.out];rfl,rfl⟩
    .have n5:(op != 5)=true:=by simp[h5]
     by_cases z2:N2=0
     .subst z2
      clear h5
      cases ρ with
      | false =>
       have HV:=Ya (show V=false from by rw[hV];simp);clear hV;go_wp2_with fail
       refine Hr.out.mono ?_;rintro e4 w4 ⟨rfl,rfl⟩;go_wp2_with fail
       go_meet
       exact⟨by rw[HV.out];rfl,rfl⟩
      | true =>
       by_cases d1:D<1
       .by_cases z3:N3=0
        .subst z3
         by_cases z4:N4=0
         .subst z4
          have HV:=Ya (show V=true from by rw[hV];simp);clear hV;go_wp2_with fail
          refine Hr.out.mono ?_;rintro e4 w4 ⟨rfl,rfl⟩;go_wp2_with fail
          go_meet
          exact⟨by rw[HV.out];rfl,rfl⟩
         .have p4:0<N4:=by omega
          have HV:=Ya (show V=false from by rw[hV,decide_eq_false z4,decide_eq_false (show ¬2<=D by omega)];simp);clear hV z4;go_wp2_with fail
          refine Hr.out.mono ?_;rintro e4 w4 ⟨rfl,rfl⟩;go_wp2_with fail
          go_meet
          exact⟨by rw[HV.out];rfl,rfl⟩
        .have p3:0<N3:=by omega
         have HV:=Ya (show V=false from by rw[hV,decide_eq_false z3,decide_eq_false (show ¬1<=D by omega)];simp);clear hV z3;go_wp2_with fail
         refine Hr.out.mono ?_;rintro e4 w4 ⟨rfl,rfl⟩;go_wp2_with fail
         go_meet
         exact⟨by rw[HV.out];rfl,rfl⟩
       .by_cases d2:D<2
        .by_cases z4:N4=0
         .subst z4
          have HV:=Ya (show V=true from by rw[hV,decide_eq_true (show 1<=D by omega)];simp);clear hV;go_wp2_with fail
          refine Hr.out.mono ?_;rintro e4 w4 ⟨rfl,rfl⟩;go_wp2_with fail
          go_meet
          exact⟨by rw[HV.out];rfl,rfl⟩
         .have p4:0<N4:=by omega
          have HV:=Ya (show V=false from by rw[hV,decide_eq_false z4,decide_eq_false (show ¬2<=D by omega)];simp);clear hV z4;go_wp2_with fail
          refine Hr.out.mono ?_;rintro e4 w4 ⟨rfl,rfl⟩;go_wp2_with fail
          go_meet
          exact⟨by rw[HV.out];rfl,rfl⟩
        .have HV:=Ya (show V=true from by rw[hV,decide_eq_true (show 1<=D by omega),decide_eq_true (show 2<=D by omega)];simp)
         clear hV;go_wp2_with fail
         refine Hr.out.mono ?_;rintro e4 w4 ⟨rfl,rfl⟩;go_wp2_with fail
         go_meet
         exact⟨by rw[HV.out];rfl,rfl⟩
     .have p2:0<N2:=by omega
      have HV:=Ya (show V=false from by rw[hV,decide_eq_false h5,decide_eq_false z2];simp);clear hV z2 h5;go_wp2_with fail
      go_meet
      exact⟨by rw[HV.out];rfl,rfl⟩
   case rest =>
    obtain⟨rfl,rfl⟩:=hcut;clear hV
    cases V with
    | false =>
     have Hf:=Ya (Hh4.out.trans (show _=false by simp));go_wp2_with fail
     go_ret
     exact⟨Zi Hf.out.symm,HWc.out.b⟩
    | true =>
     cases Q with
     | false =>
      have Hf:=Ya (Hh4.out.trans (show _=false by simp));go_wp2_with fail
      go_ret
      exact⟨Zi Hf.out.symm,HWc.out.b⟩
     | true =>
      by_cases hk:N1=K
      .subst hk
       by_cases hn0:nm.toList=[]
       .have hie:nm.toList.isEmpty=true:=by simp[hn0]
        cases M with
        | true =>
         have Hf:=Ya (Hh4.out.trans (show _=false by simp[hn0]));go_wp2_with fail
         go_ret
         exact⟨Zi Hf.out.symm,HWc.out.b⟩
        | false =>
         have Hf:=Ya (Hh4.out.trans (show _=true by simp[hn0]));go_wp2_with fail
         go_ret
         exact⟨Zi Hf.out.symm,HWc.out.b⟩
       .have hie:nm.toList.isEmpty=false:=by simp[hn0]
        cases M with
        | false =>
         have Hf:=Ya (Hh4.out.trans (show _=false by simp[hn0]));go_wp2_with fail
         go_ret
         exact⟨Zi Hf.out.symm,HWc.out.b⟩
        | true =>
         have Hf:=Ya (Hh4.out.trans (show _=B by simp[hn0]));go_wp2_with fail
         refine Hl.out.mono ?_;rintro e4 w4 ⟨rfl,rfl⟩;go_wp2_with fail
         go_ret
         exact⟨Zi Hf.out.symm,HWc.out.b⟩
      .have Hf:=Ya (Hh4.out.trans (show _=false by simp[hk]))
       have hne:((N1:Int)==(K:Int))=false:=by simp;omega
       clear hk;go_wp2_with fail
       go_ret
       exact⟨Zi Hf.out.symm,HWc.out.b⟩
 .have Hf:=Ya (show res=false from by rw[Hh.out,decide_eq_false hop];simp)
  have n1:(op==1)=false:=by simp;omega
  have n2:(op==2)=false:=by simp;omega
  have n3:(op==3)=false:=by simp;omega
  have n4:(op==4)=false:=by simp;omega
  have n5:(op==5)=false:=by simp;omega
  have n6:(op==6)=false:=by simp;omega
  have n7:(op==7)=false:=by simp;omega
  have n8:(op==8)=false:=by simp;omega
  have n9:(op==9)=false:=by simp;omega
  have n10:(op==10)=false:=by simp;omega
  have n11:(op==11)=false:=by simp;omega
  clear hop;go_wp2_with fail
  go_ret
  exact⟨Zi Hf.out.symm,HW.out.b⟩
theorem Zih {L:Int}{d:Nat}:∀{l:List S.BS} {k:Nat} {s:S.BS},S.chkSs L (l.take k) d=0->l[k]?=some s->S.chkS L s d≠0->S.chkSs L l d=S.chkS L s d
 | [],k,s,_,h,_=>by simp at h
 | x::r,0,s,_,h,h2=>by
  simp only[List.getElem?_cons_zero,Option.some.injEq] at h;subst h;rw[S.chkSs,if_pos h2]
 | x::r,k+1,s,h0,h,h2=>by
  rw[List.take_succ_cons,S.chkSs] at h0;have hx:S.chkS L x d=0:=by
   by_cases c:S.chkS L x d≠0
   .rw[if_pos c] at h0;exact absurd h0 c
   .simpa using c
  rw[if_neg (by simp[hx])] at h0;rw[S.chkSs,if_neg (by simp[hx])];exact Zih h0 (by simpa using h) h2
theorem Zkh {L:Int}{d:Nat}{s:S.BS}:∀{l:List S.BS},S.chkSs L l d=0->S.chkS L s d=0->S.chkSs L (l++[s]) d=0
 | [],_,h=>by rw[Yaj,S.chkSs,if_neg (by simp[h]),S.chkSs]
 | x::r,h0,h=>by
  rw[S.chkSs] at h0;have hx:S.chkS L x d=0:=by
   by_cases c:S.chkS L x d≠0
   .rw[if_pos c] at h0;exact absurd h0 c
   .simpa using c
  rw[if_neg (by simp[hx])] at h0;rw[Yaa,S.chkSs,if_neg (by simp[hx])];exact Zkh h0 h
theorem Zt6 (L:Int)(s:S.BS)(d:Nat):S.chkS L s d=if (!(S.shapedS L s.op s.n s.name s.exprs.length s.regs s.body.length s.els.length && S.formedEs L s.exprs))=true then 4
 else if 200<=d\/14<S.needEs s.exprs 0 then 5 else if S.chkSs L s.body (d+1)≠0 then S.chkSs L s.body (d+1) else S.chkSs L s.els (d+1):=by
 obtain⟨op,n,name,exprs,regs,body,els⟩:=s;rw[S.chkS];rfl
theorem Zdm:∀l:List S.BS,l.length<=Zhq l
 | []=>by simp
 | e::r=>by
  rw[Zhq,Yi];have:=Zdm r;have:=Zib e;omega
def Zgr (L:Int)(l:List S.BS)(d:Nat)(w:World)(x:Ending)(w':World):Prop:=x=.returned (.int .i64 (S.chkSs L l d))/\Below w.heap.size w w'
def Sts (rn:ByteArray)(P L:Int)(bh:Bool)(Ab:Option Addr)(nb cb n:Nat):Prop:=∀(l:List S.BS)(A:Option Addr)(c d:Nat)(w:World),Zhq l<=n->d<=200->SList w w.heap.size A l ->
 Calls Tryz.prog 210 #[.agg #[.string rn,.int .i64 P,.int .i64 L,.bool bh,.slice Ab nb cb],.slice A l.length c,.int .i64 (d:Int)] w (Zgr L l d w)
theorem Zx7 {rn:ByteArray}{P L:Int}{bh:Bool}{Ab:Option Addr}{nb cb n:Nat}(hF:Fmd rn P L bh Ab nb cb n)(g:Nat)(w:World)(hr:w.heap[g]?=some (.cells #[.string rn,.int .i64 P,.int .i64 L,.bool bh,.slice Ab nb cb] 178))(hg:g<w.heap.size)(l:List S.BE)(hl:∀e∈l,szE e<=n) :
 Zx4 w.heap.size 227 #[.pointer (some ⟨g,0,none⟩)] (λ e=>!S.formedE L e) l w:=by
 intro W e v hb he hv;have HF:=Ya hF;have hre:=(hb.block g hg).trans hr;have hgW:g<W.heap.size:=Yy hg hb.size;have hle:=hl e he;obtain⟨A,c,rfl,h1,h2,h3⟩:=hv;have hbX:Below W.heap.size W (W.alloc (.cells #[.int .i64 e.op,.int .i64 e.n,.string e.name,.slice A e.kids.length c] 111)):=(Yh _ _).alloc (Yb _) _;have hrX:=heap_alloc_new W (.cells #[.int .i64 e.op,.int .i64 e.n,.string e.name,.slice A e.kids.length c] 111);have hzX:W.heap.size<(W.alloc (.cells #[.int .i64 e.op,.int .i64 e.n,.string e.name,.slice A e.kids.length c] 111)).heap.size:=by simp
 have hcall:=hF e (.agg #[.int .i64 e.op,.int .i64 e.n,.string e.name,.slice A e.kids.length c]) (W.alloc (.cells #[.int .i64 e.op,.int .i64 e.n,.string e.name,.slice A e.kids.length c] 111)) hle ⟨A,c,rfl,h1,h2,(h3.below hbX).more hbX.size⟩;have hrY:=(hbX.block g hgW).trans hre;unfold Zph at hcall
 show Calls Tryz.prog 227 #[.agg #[.int .i64 e.op,.int .i64 e.n,.string e.name,.slice A e.kids.length c],.pointer (some ⟨g,0,none⟩)] W λ x w'=>x=.returned (.bool (!S.formedE L e))/\Below W.heap.size W w'
 generalize S.formedE L e=R at *;generalize e.op=op at *;generalize e.n=en at *;generalize e.name=nm at *;generalize e.kids.length=kl at *;have Hcall:=Ya hcall;have HbX:=Ya hbX;clear hcall hF HF hle hl he h1 h2 h3 hb hr hre;go_enter Tryz.func227,Tryz.ntmps227
 go_upto_region 1 with fail
 generalize W.alloc (.cells #[.int .i64 op,.int .i64 en,.string nm,.slice A kl c] 111)=w2 at *;have c0:w2.cell? ⟨g,0,none⟩=some (.string rn):=by rw[Yc hrY];rfl
 have c1:w2.cell? ⟨g,1,none⟩=some (.int .i64 P):=by rw[Yc hrY];rfl
 have c2:w2.cell? ⟨g,2,none⟩=some (.int .i64 L):=by rw[Yc hrY];rfl
 have c3:w2.cell? ⟨g,3,none⟩=some (.bool bh):=by rw[Yc hrY];rfl
 have c4:w2.cell? ⟨g,4,none⟩=some (.slice Ab nb cb):=by rw[Yc hrY];rfl
 have e0:w2.cell? ⟨W.heap.size,0,none⟩=some (.int .i64 op):=by rw[Yc hrX];rfl
 have e1:w2.cell? ⟨W.heap.size,1,none⟩=some (.int .i64 en):=by rw[Yc hrX];rfl
 have e2:w2.cell? ⟨W.heap.size,2,none⟩=some (.string nm):=by rw[Yc hrX];rfl
 have e3:w2.cell? ⟨W.heap.size,3,none⟩=some (.slice A kl c):=by rw[Yc hrX];rfl
 clear hrX hrY;go_wp2_with fail
 refine Hcall.out.mono ?_;rintro x w3 ⟨rfl,hb3⟩;go_wp2_with fail
 go_ret
 exact⟨rfl,HbX.out.trans (hb3.mono HbX.out.size)⟩
structure Z63 (rn:ByteArray)(P L:Int)(bh:Bool)(Ab:Option Addr)(nb cb n:Nat)(s:S.BS)(d:Nat)(A1 A2 A3 A4:Option Addr)(c1 c2 c3 c4 g:Nat)(wr:World):Prop where
 shaped:∀W,Below wr.heap.size wr W->Calls Tryz.prog 225 #[.agg #[.string rn,.int .i64 P,.int .i64 L,.bool bh,.slice Ab nb cb],.agg #[.int .i64 s.op,.int .i64 s.n,.string s.name,.slice A1 s.exprs.length c1,.slice A2 s.regs.length c2,.slice A3 s.body.length c3,.slice A4 s.els.length c4]] W
  λ x w'=>x=.returned (.bool (S.shapedS L s.op s.n s.name s.exprs.length s.regs s.body.length s.els.length))/\Below W.heap.size W w'
 formed:∀W,Below wr.heap.size wr W->Calls Tryz.prog 226 #[.slice A1 s.exprs.length c1,.func (.func 227) #[] #[.pointer (some ⟨g,0,none⟩)]] W λ x w'=>x=.returned (.bool (!S.formedEs L s.exprs))/\Below W.heap.size W w'
 need:∀W,Below wr.heap.size wr W->Calls Tryz.prog 229 #[.slice A1 s.exprs.length c1] W λ x w'=>x=.returned (.int .i64 (S.needEs s.exprs 0:Nat))/\Below W.heap.size W w'
 body:d<200->∀W,Below wr.heap.size wr W->Calls Tryz.prog 210 #[.agg #[.string rn,.int .i64 P,.int .i64 L,.bool bh,.slice Ab nb cb],.slice A3 s.body.length c3,.int .i64 ((d:Int)+1)] W (Zgr L s.body (d+1) W)
 els:d<200->∀W,Below wr.heap.size wr W->Calls Tryz.prog 210 #[.agg #[.string rn,.int .i64 P,.int .i64 L,.bool bh,.slice Ab nb cb],.slice A4 s.els.length c4,.int .i64 ((d:Int)+1)] W (Zgr L s.els (d+1) W)
theorem Z64 {rn:ByteArray}{P L:Int}{bh:Bool}{Ab:Option Addr}{nb cb n:Nat}(ih:Sts rn P L bh Ab nb cb n)(hn:n<1000000000){s:S.BS}{d:Nat}{A1 A2 A3 A4:Option Addr}{c1 c2 c3 c4 g:Nat}{wr:World}(hs:szS s<=n+1)
 (hr:wr.heap[g]?=some (.cells #[.string rn,.int .i64 P,.int .i64 L,.bool bh,.slice Ab nb cb] 178)) (hg:g<wr.heap.size) (hp:SPart wr wr.heap.size s A1 A2 A3 A4):Z63 rn P L bh Ab nb cb n s d A1 A2 A3 A4 c1 c2 c3 c4 g wr:=by
 have hz:=Zib s;have hle:=Zeq s.exprs;refine⟨λ W hb=>?_,λ W hb=>?_,λ W hb=>?_,λ hd W hb=>?_,λ hd W hb=>?_⟩
 .have hpW:=(hp.below hb).more hb.size
  exact Zx6 rn P L bh Ab nb cb s.op s.n s.name s.exprs.length s.body.length s.els.length s.regs A1 A2 A3 A4 c1 c2 c3 c4 W hp.name hpW.regs hp.l2
 .have hpW:=(hp.below hb).more hb.size
  have hpr:=Zx7 (Zx5 rn P L bh Ab nb cb n (by omega)) g W ((hb.block g hg).trans hr) (Yy hg hb.size) s.exprs (λ e he=>by have:=Zk7 he;omega);refine(Ze7 W.heap.size _ _ (λ k=>!S.formedE L k) Zle W (Yb _) A1 s.exprs c1 hpr hpW.exprs (by omega)).mono ?_;rintro x w' ⟨rfl,hb'⟩;exact⟨by rw[Zea];simp,hb'⟩
 .have hpW:=(hp.below hb).more hb.size
  exact Z3q (Ze2 s.exprs) A1 c1 s.exprs W (Yb _) (by omega) hpW.exprs
 .have hpW:=(hp.below hb).more hb.size
  have:=ih s.body A3 c3 (d+1) W (by omega) (by omega) hpW.body;exact this
 .have hpW:=(hp.below hb).more hb.size
  have:=ih s.els A4 c4 (d+1) W (by omega) (by omega) hpW.els;exact this
theorem Z09 (rn:ByteArray)(P L:Int)(bh:Bool)(Ab:Option Addr)(nb cb:Nat):∀n,n<=1000000000->Sts rn P L bh Ab nb cb n:=by
 intro n
 induction n with
 | zero =>
  intro _ l A c d w hs hd hA;have hl:l=[]:=by
   cases l with
   | nil=>rfl
   | cons e r=>rw[Zhq] at hs;have:=Zib e;omega
  subst hl;have hbX:Below w.heap.size w (w.alloc (.cells #[.string rn,.int .i64 P,.int .i64 L,.bool bh,.slice Ab nb cb] 178)):=(Yh _ _).alloc (Yb _) _;have HbX:=Ya hbX;clear hbX;go_enter Tryz.func210,Tryz.ntmps210
  go_upto_region 1 with fail
  generalize w.alloc (.cells #[.string rn,.int .i64 P,.int .i64 L,.bool bh,.slice Ab nb cb] 178)=w2 at *;go_wp2_with fail
  go_loopw [14] (λ v14 wr=>v14=.int .i64 0/\w2=wr) (λ _ _=>0)
  case atStart=>exact⟨rfl,rfl⟩
  case round =>
   obtain⟨rfl,rfl⟩:=hrel;go_wp2_with fail
   go_ret
   exact⟨rfl,HbX.out⟩
 | succ n ih =>
  intro hn l A c d w hs hd hA;have hlen:=Zdm l;obtain⟨N,hN⟩:=Yx l.length;rw[<- hN] at hlen⊢;have HN:=Ya hN;have HA:=Ya hA;have Hih:=Ya (ih (by omega));have hN9:N<=1000000000:=by omega
  have Hs:=Ya hs;have hbX:Below w.heap.size w (w.alloc (.cells #[.string rn,.int .i64 P,.int .i64 L,.bool bh,.slice Ab nb cb] 178)):=(Yh _ _).alloc (Yb _) _;have hrX:=heap_alloc_new w (.cells #[.string rn,.int .i64 P,.int .i64 L,.bool bh,.slice Ab nb cb] 178);have hzX:w.heap.size<(w.alloc (.cells #[.string rn,.int .i64 P,.int .i64 L,.bool bh,.slice Ab nb cb] 178)).heap.size:=by simp
  unfold Zgr;clear hN hA ih hs;go_enter Tryz.func210,Tryz.ntmps210
  go_upto_region 1 with fail
  generalize w.alloc (.cells #[.string rn,.int .i64 P,.int .i64 L,.bool bh,.slice Ab nb cb] 178)=w2 at *;have HbX:=Ya hbX;have HrX:=Ya hrX;clear hbX hrX;go_wp2_with fail
  go_loopw [14] (λ v14 wr=>∃k:Nat,k<=N/\v14=.int .i64 k/\Hid (S.chkSs L (l.take k) d=0)/\Hid (Below w2.heap.size w2 wr)) (λ v14 _=>N-(intOf v14).toNat)
  case atStart=>exact⟨0,by omega,rfl,Ya (by rw[Ya2,S.chkSs]),Ya (Yh _ _)⟩
  case round =>
   obtain⟨k,hk,rfl,HC,HB⟩:=hrel;obtain⟨wo,hwo⟩:=Yx wr;subst hwo;by_cases hlt:k<N
   .obtain⟨s,hs⟩:∃s,l[k]?=some s:=⟨_,Yf (by rw[<- HN.out];exact hlt)⟩
    have hbr0:=HbX.out.trans (HB.out.mono HbX.out.size);obtain⟨b,off,A1,c1,A2,c2,A3,c3,A4,c4,rfl,hbB,q0,q1,q2,q3,q4,q5,q6,hpt⟩:=(HA.out.below hbr0).at_ hs;have hzr:=HB.out.size;have hbr:b<wo.heap.size:=by have:=HbX.out.size;omega
    have hgr:w.heap.size<wo.heap.size:=by omega
    have hsz:=Zo8 (Y1 hs);have hO:=Z64 (d:=d) (c1:=c1) (c2:=c2) (c3:=c3) (c4:=c4) (g:=w.heap.size) Hih.out (by omega) (by have:=Hs.out;omega) ((HB.out.block _ hzX).trans HrX.out) hgr (hpt.more (by have:=hbr0.size;omega));have Hsnoc:=Ya (λ h:S.chkS L s d=0=>(show S.chkSs L (l.take (k+1)) d=0 from by rw[Zdl l hs];exact Zkh HC.out h));have Hfirst:=Ya (λ h:S.chkS L s d≠0=>Zih HC.out hs h);have heq:=Zt6 L s d;obtain⟨o1,o2,o3,o4,o5⟩:=hO;unfold Zgr at o4 o5;generalize S.shapedS L s.op s.n s.name s.exprs.length s.regs s.body.length s.els.length=σ at *;generalize S.formedEs L s.exprs=φ at *;generalize S.needEs s.exprs 0=ν at *;generalize S.chkSs L s.body (d+1)=β at *;generalize S.chkSs L s.els (d+1)=ε at *;generalize s.op=op at *;generalize s.n=n' at *;generalize s.name=nm at *;generalize s.exprs.length=N1 at *;generalize s.regs.length=N2 at *;generalize s.body.length=N3 at *;generalize s.els.length=N4 at *;generalize S.chkS L s d=χ at *;have Heq:=Ya heq;have H1:=Ya o1;have H2:=Ya o2;have H3:=Ya o3;have H4:=Ya o4;have H5:=Ya o5;clear heq o1 o2 o3 o4 o5 hs hpt hsz hbr0 HC;have hbY:Below wo.heap.size wo (wo.alloc (.cells #[.int .i64 op,.int .i64 n',.string nm,.slice A1 N1 c1,.slice A2 N2 c2,.slice A3 N3 c3,.slice A4 N4 c4] 115)):=(Yh _ _).alloc (Yb _) _;have hrY:=heap_alloc_new wo (.cells #[.int .i64 op,.int .i64 n',.string nm,.slice A1 N1 c1,.slice A2 N2 c2,.slice A3 N3 c3,.slice A4 N4 c4] 115);have hzY:wo.heap.size<(wo.alloc (.cells #[.int .i64 op,.int .i64 n',.string nm,.slice A1 N1 c1,.slice A2 N2 c2,.slice A3 N3 c3,.slice A4 N4 c4] 115)).heap.size:=by simp
    go_upto_region 4 with fail
    generalize wo.alloc (.cells #[.int .i64 op,.int .i64 n',.string nm,.slice A1 N1 c1,.slice A2 N2 c2,.slice A3 N3 c3,.slice A4 N4 c4] 115)=wx at *;have Hc:=Ya (λ(W:World) (hb:Below wx.heap.size wx W)=>(show(W.cell? ⟨w.heap.size,0,none⟩=some (.string rn)/\W.cell? ⟨w.heap.size,1,none⟩=some (.int .i64 P)/\W.cell? ⟨w.heap.size,2,none⟩=some (.int .i64 L)/\W.cell? ⟨w.heap.size,3,none⟩=some (.bool bh)/\W.cell? ⟨w.heap.size,4,none⟩=some (.slice Ab nb cb)) /\
     W.cell? ⟨wo.heap.size,0,none⟩=some (.int .i64 op)/\W.cell? ⟨wo.heap.size,1,none⟩=some (.int .i64 n')/\W.cell? ⟨wo.heap.size,2,none⟩=some (.string nm)/\W.cell? ⟨wo.heap.size,3,none⟩=some (.slice A1 N1 c1)/\W.cell? ⟨wo.heap.size,4,none⟩=some (.slice A2 N2 c2)/\W.cell? ⟨wo.heap.size,5,none⟩=some (.slice A3 N3 c3)/\W.cell? ⟨wo.heap.size,6,none⟩=some (.slice A4 N4 c4) from by
     have e1:W.heap[w.heap.size]?=some (.cells #[.string rn,.int .i64 P,.int .i64 L,.bool bh,.slice Ab nb cb] 178):=(hb.block _ (by omega)).trans ((hbY.block _ hgr).trans ((HB.out.block _ hzX).trans HrX.out));have e2:W.heap[wo.heap.size]?=some (.cells #[.int .i64 op,.int .i64 n',.string nm,.slice A1 N1 c1,.slice A2 N2 c2,.slice A3 N3 c3,.slice A4 N4 c4] 115):=(hb.block _ hzY).trans hrY;refine⟨⟨?_,?_,?_,?_,?_⟩,?_,?_,?_,?_,?_,?_,?_⟩
     all_goals first | (rw[Yc e1];rfl) | (rw[Yc e2];rfl)))
    have HbY:=Ya hbY;have hgx:w.heap.size<wx.heap.size:=by omega
    clear hbY hrY q0 q1 q2 q3 q4 q5 q6;obtain⟨⟨r0,r1,r2,r3,r4⟩,s0,s1,s2,s3,s4,s5,s6⟩:=Hc.out wx (Yh _ _);go_wp2_with fail
    refine(H1.out wx HbY.out).mono ?_;rintro e4 w4 ⟨rfl,hb4⟩;have hz4:=hb4.size;have Hb4:=Ya hb4;clear r0 r1 r2 r3 r4 s0 s1 s2 s3 s4 s5 s6 hb4;obtain⟨⟨r0,r1,r2,r3,r4⟩,s0,s1,s2,s3,s4,s5,s6⟩:=Hc.out w4 Hb4.out
    cases σ with
    | false =>
     have Hf:=Ya (show S.chkSs L l d=4 from by
      have hχ:χ=4:=by rw[Heq.out];simp
      rw[Hfirst.out (by rw[hχ];decide),hχ])
     go_wp2_with fail
     go_ret
     exact⟨Z2 Hf.out.symm,HbX.out.trans ((HB.out.trans (HbY.out.mono hzr)).trans (Hb4.out.mono (Y8 hzr HbY.out.size)) |>.mono HbX.out.size)⟩
    | true =>
     have Hb4':=Ya (HbY.out.trans (Hb4.out.mono HbY.out.size));go_wp2_with fail
     refine(H2.out w4 Hb4'.out).mono ?_;rintro e5 w5 ⟨rfl,hb5⟩;have Hb5:=Ya (Hb4.out.trans (hb5.mono Hb4.out.size));have hz5:=hb5.size;clear r0 r1 r2 r3 r4 s0 s1 s2 s3 s4 s5 s6 hb5;obtain⟨⟨r0,r1,r2,r3,r4⟩,s0,s1,s2,s3,s4,s5,s6⟩:=Hc.out w5 Hb5.out;have Hbl:=Ya (λ(W:World) (hb:Below wx.heap.size wx W)=>(show Below w.heap.size w W from HbX.out.trans ((HB.out.trans (HbY.out.mono hzr)).trans (hb.mono (Y8 hzr HbY.out.size)) |>.mono HbX.out.size)))
     cases φ with
     | false =>
      have Hf:=Ya (show S.chkSs L l d=4 from by
       have hχ:χ=4:=by rw[Heq.out];simp
       rw[Hfirst.out (by rw[hχ];decide),hχ])
      go_wp2_with fail
      go_ret
      exact⟨Z2 Hf.out.symm,Hbl.out _ Hb5.out⟩
     | true =>
      have Hχ:=Ya (show χ=if 200<=d\/14<ν then 5 else if β≠0 then β else ε from by rw[Heq.out];simp);by_cases hd2:200<=d
      .have Hf:=Ya (show S.chkSs L l d=5 from by
        have hχ:χ=5:=by rw[Hχ.out,if_pos (.inl hd2)]
        rw[Hfirst.out (by rw[hχ];decide),hχ])
       go_wp2_with fail
       go_ret
       exact⟨Z2 Hf.out.symm,Hbl.out _ Hb5.out⟩
      .have Hb5':=Ya (HbY.out.trans (Hb5.out.mono HbY.out.size))
       have hd3:d<200:=by omega
       go_wp2_with fail
       refine(H3.out w5 Hb5'.out).mono ?_;rintro e6 w6 ⟨rfl,hb6⟩;have Hb6:=Ya (Hb5.out.trans (hb6.mono Hb5.out.size));have hz6:=hb6.size;clear r0 r1 r2 r3 r4 s0 s1 s2 s3 s4 s5 s6 hb6;obtain⟨⟨r0,r1,r2,r3,r4⟩,s0,s1,s2,s3,s4,s5,s6⟩:=Hc.out w6 Hb6.out;by_cases hν:14<ν
       .have Hf:=Ya (show S.chkSs L l d=5 from by
         have hχ:χ=5:=by rw[Hχ.out,if_pos (.inr hν)]
         rw[Hfirst.out (by rw[hχ];decide),hχ])
        have hν2:(14:Int)<(ν:Int):=by omega
        go_wp2_with fail
        go_ret
        exact⟨Z2 Hf.out.symm,Hbl.out _ Hb6.out⟩
       .have Hχ2:=Ya (show χ=if β≠0 then β else ε from by rw[Hχ.out,if_neg (by omega)])
        have hν2:¬(14:Int)<(ν:Int):=by omega
        have hd200:(d:Int)<200:=by omega
        clear Hχ Heq;have hbZ:Below w6.heap.size w6 (w6.alloc (.cells #[.slice A3 N3 c3,.slice A4 N4 c4] 113)):=(Yh _ _).alloc (Yb _) _;have hrZ:=heap_alloc_new w6 (.cells #[.slice A3 N3 c3,.slice A4 N4 c4] 113);have hzZ:w6.heap.size<(w6.alloc (.cells #[.slice A3 N3 c3,.slice A4 N4 c4] 113)).heap.size:=by simp
        go_wp2_with fail
        generalize w6.alloc (.cells #[.slice A3 N3 c3,.slice A4 N4 c4] 113)=w7 at *;have Hb7:=Ya (Hb6.out.trans (hbZ.mono Hb6.out.size));have Hcz:=Ya (λ(W:World) (hb:Below w7.heap.size w7 W)=>(show W.cell? ⟨w6.heap.size,0,none⟩=some (.slice A3 N3 c3)/\W.cell? ⟨w6.heap.size,1,none⟩=some (.slice A4 N4 c4) from by
         have e1:W.heap[w6.heap.size]?=some (.cells #[.slice A3 N3 c3,.slice A4 N4 c4] 113):=(hb.block _ hzZ).trans hrZ
         constructor
         all_goals (rw[Yc e1];rfl)))
        have hz7:=Hb7.out.size;have Hlc:=Ya (λ(W:World) (hb:Below w7.heap.size w7 W)=>(show Below wo.heap.size wo W from HbY.out.trans ((Hb7.out.trans (hb.mono Hb7.out.size)).mono HbY.out.size)));clear hbZ hrZ r0 r1 r2 r3 r4 s0 s1 s2 s3 s4 s5 s6;go_loopw [42,10,11] (λ v42 _ _ wl=>∃j:Nat,j<=2/\v42=.int .i64 j/\Hid (1<=j->β=0)/\Hid (2<=j->ε=0)/\Hid (Below w7.heap.size w7 wl)) (λ v42 _ _ _=>2-(intOf v42).toNat)
        case atStart=>exact⟨0,by omega,rfl,Ya (λ h=>by omega),Ya (λ h=>by omega),Ya (Yh _ _)⟩
        case round =>
         obtain⟨j,hj,rfl,HJ1,HJ2,HBl⟩:=hrel;obtain⟨⟨r0,r1,r2,r3,r4⟩,s0,s1,s2,s3,s4,s5,s6⟩:=Hc.out wr (Hb7.out.trans (HBl.out.mono Hb7.out.size));obtain⟨z0,z1⟩:=Hcz.out wr HBl.out;have hzl:=HBl.out.size;have hg6:w6.heap.size<wr.heap.size:=by omega
         rcases(show j=0\/j=1\/j=2 by omega) with rfl|rfl|rfl
         .go_wp2_with fail
          refine(H4.out hd3 _ (Hlc.out wr HBl.out)).mono ?_;rintro e8 w8 ⟨rfl,hb8⟩;have Hb8:=Ya (HBl.out.trans (hb8.mono HBl.out.size));by_cases hβ:β=0
          .have hb0:(β != 0)=false:=by simp[hβ]
           have Hβ:=Ya hβ;clear hβ;go_wp2_with fail
           go_roundw
           case rel=>exact⟨1,by omega,by first|rfl|go_num,Ya (λ _=>Hβ.out),Ya (λ h=>by omega),Hb8⟩
           case measure=>simp[intOf]
          .have hb0:(β != 0)=true:=by simp[hβ]
           have Hf:=Ya (show S.chkSs L l d=β from by
            have hχ:χ=β:=by rw[Hχ2.out,if_pos hβ]
            rw[Hfirst.out (by rw[hχ];exact hβ),hχ])
           clear hβ;go_wp2_with fail
           go_ret
           exact⟨Z2 Hf.out.symm,Hbl.out _ (Hb7.out.trans (Hb8.out.mono Hb7.out.size))⟩
         .go_wp2_with fail
          refine(H5.out hd3 _ (Hlc.out wr HBl.out)).mono ?_;rintro e8 w8 ⟨rfl,hb8⟩;have Hb8:=Ya (HBl.out.trans (hb8.mono HBl.out.size));have hβ:=HJ1.out (by omega);have Hχ3:=Ya (show χ=ε from by rw[Hχ2.out,if_neg (by simp[hβ])]);have Hβ:=Ya hβ;clear hβ;by_cases hε:ε=0
          .have hb0:(ε != 0)=false:=by simp[hε]
           have Hε:=Ya hε;clear hε;go_wp2_with fail
           go_roundw
           case rel=>exact⟨2,by omega,by first|rfl|go_num,Ya (λ _=>Hβ.out),Ya (λ _=>Hε.out),Hb8⟩
           case measure=>simp[intOf]
          .have hb0:(ε != 0)=true:=by simp[hε]
           have Hf:=Ya (show S.chkSs L l d=ε from by
            rw[Hfirst.out (by rw[Hχ3.out];exact hε),Hχ3.out])
           clear hε;go_wp2_with fail
           go_ret
           exact⟨Z2 Hf.out.symm,Hbl.out _ (Hb7.out.trans (Hb8.out.mono Hb7.out.size))⟩
         .have Hz:=Ya (Hsnoc.out (show χ=0 from by rw[Hχ2.out,if_neg (by simp[HJ1.out (by omega)]),HJ2.out (by omega)]))
          go_wp2_with fail
          go_roundw
          case rel=>exact⟨k+1,by omega,by go_num,Hz,Ya (HB.out.trans ((HbY.out.trans ((Hb7.out.trans (HBl.out.mono Hb7.out.size)).mono HbY.out.size)).mono HB.out.size))⟩
          case measure=>simp[intOf];omega
   .have hkN:k=N:=by omega
    subst hkN;have Hf:=Ya (show S.chkSs L l d=0 from by have:=HC.out;rw[HN.out,Yaf] at this;exact this);go_wp2_with fail
    go_ret
    exact⟨Z2 Hf.out.symm,HbX.out.trans (HB.out.mono HbX.out.size)⟩
theorem Zii {r:S.BR}(h:S.chkB r=0):S.labB r.name=true/\0<=r.params/\r.params<=4/\r.params<=r.locals/\r.locals<=200/\S.chkSs r.locals r.body 0=0:=by
 unfold S.chkB at h
 split at h
 .omega
 .rename_i hc
  simp only[Ycj,Bool.or_eq_false_iff,Bool.not_eq_false',decide_eq_false_iff_not] at hc;obtain⟨⟨⟨⟨h1,h2⟩,h3⟩,h4⟩,h5⟩:=hc;exact⟨h1,by omega,by omega,by omega,by omega,h⟩
def Zxi (r:S.BR)(A:Option Addr)(c:Nat):Value:=.agg #[.string r.name,.int .i64 r.params,.int .i64 r.locals,.bool r.behind,.slice A r.body.length c]
structure RAt2 (w:World)(B:Nat)(r:S.BR)(A:Option Addr):Prop where
 name:r.name.size<=maxLen
 body:SList w B A r.body
 size:Zhq r.body<=1000000000
theorem RAt2.below {w w':World}{B:Nat}{r:S.BR}{A:Option Addr}(h:RAt2 w B r A)(hb:Below B w w'):RAt2 w' B r A:=⟨h.name,h.body.below hb,h.size⟩
theorem RAt2.more {w:World}{B B':Nat}{r:S.BR}{A:Option Addr}(h:RAt2 w B r A)(hB:B<=B'):RAt2 w B' r A:=⟨h.name,h.body.more hB,h.size⟩
theorem Zpi (r:S.BR)(A:Option Addr)(c:Nat)(w:World)(h:RAt2 w w.heap.size r A):Calls Tryz.prog 184 #[Zxi r A c] w λ x w'=>x=.returned (.int .i64 (S.chkB r))/\Below w.heap.size w w':=by
 obtain⟨nm,P,L,bh,body⟩:=r;obtain⟨h1,h2,h3⟩:=h;unfold Zxi;simp only at h1 h2 h3⊢;have hz0:=Zdm body;have Hst:=Ya (λ(W:World) (hb:Below w.heap.size w W)=>Z09 nm P L bh A body.length c (Zhq body) h3 body A c 0 W (Yb _) (by omega) ((h2.below hb).more hb.size));have hck:S.chkB ⟨nm,P,L,bh,body⟩=if !S.labB nm || decide (P<0) || decide (4<P) || decide (L<P) || decide (200<L) then 2 else S.chkSs L body 0:=rfl
 have Hlab:=Ya (λ W=>Zpe nm W h1);obtain⟨res,hres⟩:=Yx (S.chkB ⟨nm,P,L,bh,body⟩);rw[<- hres] at hck⊢;have Hck:=Ya hck;unfold Zgr at Hst;generalize S.labB nm=B at *;generalize S.chkSs L body 0=κ at *;generalize body.length=N at *;clear h1 h2 h3 hz0 hres hck;have hbX:Below w.heap.size w (w.alloc (.cells #[.string nm,.int .i64 P,.int .i64 L,.bool bh,.slice A N c] 178)):=(Yh _ _).alloc (Yb _) _;have hrX:=heap_alloc_new w (.cells #[.string nm,.int .i64 P,.int .i64 L,.bool bh,.slice A N c] 178);have hzX:w.heap.size<(w.alloc (.cells #[.string nm,.int .i64 P,.int .i64 L,.bool bh,.slice A N c] 178)).heap.size:=by simp
 go_enter Tryz.func184,Tryz.ntmps184
 go_upto_region 1 with fail
 generalize w.alloc (.cells #[.string nm,.int .i64 P,.int .i64 L,.bool bh,.slice A N c] 178)=w2 at *;have HbX:=Ya hbX;have c0:w2.cell? ⟨w.heap.size,0,none⟩=some (.string nm):=by rw[Yc hrX];rfl
 have c1:w2.cell? ⟨w.heap.size,1,none⟩=some (.int .i64 P):=by rw[Yc hrX];rfl
 have c2:w2.cell? ⟨w.heap.size,2,none⟩=some (.int .i64 L):=by rw[Yc hrX];rfl
 have c3:w2.cell? ⟨w.heap.size,3,none⟩=some (.bool bh):=by rw[Yc hrX];rfl
 have c4:w2.cell? ⟨w.heap.size,4,none⟩=some (.slice A N c):=by rw[Yc hrX];rfl
 clear hbX hrX
 cases B with
 | false =>
  have Hf:=Ya (show res=2 from by rw[Hck.out];simp);go_wp2_with fail
  refine(Hlab.out w2).mono ?_;rintro e4 w4 ⟨rfl,rfl⟩;go_wp2_with fail
  go_ret
  exact⟨Z2 Hf.out.symm,HbX.out⟩
 | true =>
  by_cases p0:P<0
  .have Hf:=Ya (show res=2 from by rw[Hck.out,decide_eq_true p0];simp)
   go_wp2_with fail
   refine(Hlab.out w2).mono ?_;rintro e4 w4 ⟨rfl,rfl⟩;go_wp2_with fail
   go_ret
   exact⟨Z2 Hf.out.symm,HbX.out⟩
  by_cases p4:4<P
  .have Hf:=Ya (show res=2 from by rw[Hck.out,decide_eq_true p4];simp)
   go_wp2_with fail
   refine(Hlab.out w2).mono ?_;rintro e4 w4 ⟨rfl,rfl⟩;go_wp2_with fail
   go_ret
   exact⟨Z2 Hf.out.symm,HbX.out⟩
  by_cases pL:L<P
  .have Hf:=Ya (show res=2 from by rw[Hck.out,decide_eq_true pL];simp)
   go_wp2_with fail
   refine(Hlab.out w2).mono ?_;rintro e4 w4 ⟨rfl,rfl⟩;go_wp2_with fail
   go_ret
   exact⟨Z2 Hf.out.symm,HbX.out⟩
  by_cases pM:200<L
  .have Hf:=Ya (show res=2 from by rw[Hck.out,decide_eq_true pM];simp)
   go_wp2_with fail
   refine(Hlab.out w2).mono ?_;rintro e4 w4 ⟨rfl,rfl⟩;go_wp2_with fail
   go_ret
   exact⟨Z2 Hf.out.symm,HbX.out⟩
  have Hf:=Ya (show res=κ from by rw[Hck.out,decide_eq_false p0,decide_eq_false p4,decide_eq_false pL,decide_eq_false pM];simp);go_wp2_with fail
  refine(Hlab.out w2).mono ?_;rintro e4 w4 ⟨rfl,rfl⟩;go_wp2_with fail
  refine(Hst.out w2 HbX.out).mono ?_;rintro e5 w5 ⟨rfl,hb5⟩;go_wp2_with fail
  go_ret
  exact⟨Z2 Hf.out.symm,HbX.out.trans (hb5.mono HbX.out.size)⟩
theorem Z1a (r:S.BR)(A:Option Addr)(c:Nat)(w:World)(h:RAt2 w w.heap.size r A):Calls Tryz.prog 185 #[Zxi r A c] w λ x w'=>x=.returned (.int .i64 (S.frameB r))/\Below w.heap.size w w':=by
 have Hc:=Ya (λ(W:World) (hb:Below w.heap.size w W)=>Zpi r A c W ((h.below hb).more hb.size));have hL:S.chkB r=0->-1000000<=r.locals/\r.locals<=200:=λ h0=>by obtain⟨_,h1,_,h2,h3,_⟩:=Zii h0;omega
 obtain⟨nm,P,L,bh,body⟩:=r;have hfr:S.frameB ⟨nm,P,L,bh,body⟩=if S.chkB ⟨nm,P,L,bh,body⟩≠0 then 0 else L+15:=rfl
 unfold Zxi at Hc⊢;simp only at Hc hL⊢;generalize S.frameB ⟨nm,P,L,bh,body⟩=res at *;generalize S.chkB ⟨nm,P,L,bh,body⟩=κ at *;generalize body.length=N at *;have Hfr:=Ya hfr;clear hfr h;have hbX:Below w.heap.size w (w.alloc (.cells #[.string nm,.int .i64 P,.int .i64 L,.bool bh,.slice A N c] 178)):=(Yh _ _).alloc (Yb _) _;have hrX:=heap_alloc_new w (.cells #[.string nm,.int .i64 P,.int .i64 L,.bool bh,.slice A N c] 178);have hzX:w.heap.size<(w.alloc (.cells #[.string nm,.int .i64 P,.int .i64 L,.bool bh,.slice A N c] 178)).heap.size:=by simp
 go_enter Tryz.func185,Tryz.ntmps185
 go_upto_region 1 with fail
 generalize w.alloc (.cells #[.string nm,.int .i64 P,.int .i64 L,.bool bh,.slice A N c] 178)=w2 at *;have HbX:=Ya hbX;have c0:w2.cell? ⟨w.heap.size,0,none⟩=some (.string nm):=by rw[Yc hrX];rfl
 have c1:w2.cell? ⟨w.heap.size,1,none⟩=some (.int .i64 P):=by rw[Yc hrX];rfl
 have c2:w2.cell? ⟨w.heap.size,2,none⟩=some (.int .i64 L):=by rw[Yc hrX];rfl
 have c3:w2.cell? ⟨w.heap.size,3,none⟩=some (.bool bh):=by rw[Yc hrX];rfl
 have c4:w2.cell? ⟨w.heap.size,4,none⟩=some (.slice A N c):=by rw[Yc hrX];rfl
 go_wp2_with fail
 refine(Hc.out w2 HbX.out).mono ?_;rintro e4 w4 ⟨rfl,hb4⟩;have c2':w4.cell? ⟨w.heap.size,2,none⟩=some (.int .i64 L):=(hb4.cell (p:=⟨w.heap.size,2,none⟩) hzX).trans c2;have Z4:=Ya (HbX.out.trans (hb4.mono HbX.out.size));have hz4:=hb4.size;clear c0 c1 c2 c3 c4 hbX hrX hb4;by_cases h0:κ=0
 .obtain⟨l0,l1⟩:=hL h0
  have hne:(κ != 0)=false:=by simp[h0]
  have Hf:=Ya (show res=L+1+14 from by rw[Hfr.out,if_neg (by simp[h0])];omega);clear h0 hL;go_wp2_with fail
  go_ret
  exact⟨Z2 Hf.out.symm,Z4.out⟩
 .have hne:(κ != 0)=true:=by simp[h0]
  have Hf:=Ya (show res=0 from by rw[Hfr.out,if_pos h0]);clear h0 hL;go_wp2_with fail
  go_ret
  exact⟨Z2 Hf.out.symm,Z4.out⟩
