/- Parts. -/
import Derived.Test.YtfhiobkkdcdmiaaGreatDoorZBMem
import Derived.BigQuiet
import Derived.Deep.QuietTactic
import Derived.Deep.DeepCutAuto
import Derived.Deep.CutBlock
set_option linter.all false
set_option maxHeartbeats 4000000
open Go.Lib renaming hid->Ya,cell_of_heap->Yc
open Nat renaming le_refl->Yb,le_trans->Y1,lt_of_lt_of_le->Y6,zero_add->Yaa
open List renaming getElem?_eq_getElem->Yf,length_cons->Yi,mem_of_getElem?->Yw,cons_append->Y5,take_length->Yad,nil_append->Yaj
open Go.RowKit.Below renaming refl->Yh
namespace Go.Proofs.YtfhiobkkdcdmiaaGreatDoor
set_option maxRecDepth 100000
section
open Go.RowKit
theorem Ziu (s:ByteArray):(s.toList != ([]:List UInt8))=decide (s.size≠0):=by
 rw [ByteArray.toList_eq]
 cases h:s.data.toList with
 | nil =>
  have:s.size=0:=by show s.data.size=0;rw [<- Array.length_toList,h];rfl
  simp [this]
 | cons x r =>
  have:s.size≠0:=by show s.data.size≠0;rw [<- Array.length_toList,h];simp
  simp [this]
theorem Zpf (s:ByteArray)(w:World)(hs:s.size<=maxLen):Calls Tryz.prog 209 #[.string s] w fun e w'=>e=.returned (.bool (S.labB s))/\w=w':=by
 have Hne:=Ya (Ziu s);have Hc:=Ya (Zaq s w hs);by_cases h:s.toList=[]
 ·have Hr:=Ya (show S.labB s=false from by
   have h1:decide (s.size≠0)=false:=by rw [<- Ziu s];simp [h]
   show (decide (s.size≠0) && !S.ownB s)=false
   rw [h1];rfl)
  clear hs;go_enter Tryz.func209,Tryz.ntmps209
  go_wp2_with fail
  go_ret
  exact ⟨Zk Hr.out.symm,rfl⟩
 ·have Hr:=Ya (show S.labB s=!S.ownB s from by
   have h1:decide (s.size≠0)=true:=by rw [<- Ziu s];simp [h]
   show (decide (s.size≠0) && !S.ownB s)=_
   rw [h1];rfl)
  clear hs;go_enter Tryz.func209,Tryz.ntmps209
  go_wp2_with fail
  refine Hc.out.mono ?_;rintro e w2 ⟨rfl,rfl⟩;go_wp2_with fail
  go_ret
  exact ⟨Zk (by rw [Hr.out];simp [h]),rfl⟩
theorem Zqt (n:Int)(w:World):Calls Tryz.prog 237 #[.int .i64 n] w fun e w'=>e=.returned (.bool (S.offB n))/\w=w':=by
 by_cases h:-32768<=n
 ·by_cases h2:n<32768
  ·have Hr:=Ya (show true=S.offB n from (decide_eq_true ⟨h,h2⟩).symm)
   go_enter Tryz.func237,Tryz.ntmps237
   go_wp2_with fail
   go_ret
   exact ⟨Zk Hr.out,rfl⟩
  ·have Hr:=Ya (show false=S.offB n from (decide_eq_false (by omega)).symm)
   go_enter Tryz.func237,Tryz.ntmps237
   go_wp2_with fail
   go_ret
   exact ⟨Zk Hr.out,rfl⟩
 ·have Hr:=Ya (show false=S.offB n from (decide_eq_false (by omega)).symm)
  go_enter Tryz.func237,Tryz.ntmps237
  go_wp2_with fail
  go_ret
  exact ⟨Zk Hr.out,rfl⟩
theorem Zf2 (n:Int)(w:World):Calls Tryz.prog 238 #[.int .i64 n] w fun e w'=>e=.returned (.bool (S.visB n))/\w=w':=by
 rcases (show (1<=n/\n<=10)\/n<1\/(10<n/\n<26)\/n=26\/n=27\/n=28\/n=29\/n=30\/30<n by omega) with ⟨h,h'⟩ | h | ⟨h,h'⟩ | rfl | rfl | rfl | rfl | rfl | h
 ·have Hr:=Ya (show true=S.visB n from (decide_eq_true (.inl ⟨h,h'⟩)).symm)
  go_enter Tryz.func238,Tryz.ntmps238
  go_wp2_with fail
  go_ret
  exact ⟨Zk Hr.out,rfl⟩
 ·have Hr:=Ya (show false=S.visB n from (decide_eq_false (by omega)).symm)
  have n1:(n==26)=false:=by simp;omega
  have n2:(n==27)=false:=by simp;omega
  have n3:(n==29)=false:=by simp;omega
  have n4:(n==30)=false:=by simp;omega
  go_enter Tryz.func238,Tryz.ntmps238
  go_wp2_with fail
  go_ret
  first
   | exact ⟨Zk Hr.out,rfl⟩
   | exact ⟨Zk ((decide_eq_false (by omega)).trans Hr.out),rfl⟩
 ·have Hr:=Ya (show false=S.visB n from (decide_eq_false (by omega)).symm)
  have n1:(n==26)=false:=by simp;omega
  have n2:(n==27)=false:=by simp;omega
  have n3:(n==29)=false:=by simp;omega
  have n4:(n==30)=false:=by simp;omega
  go_enter Tryz.func238,Tryz.ntmps238
  go_wp2_with fail
  go_ret
  first
   | exact ⟨Zk Hr.out,rfl⟩
   | exact ⟨Zk ((decide_eq_false (by omega)).trans Hr.out),rfl⟩
 ·go_enter Tryz.func238,Tryz.ntmps238
  go_wp2_with fail
  go_ret
  exact ⟨Zk rfl,rfl⟩
 ·go_enter Tryz.func238,Tryz.ntmps238
  go_wp2_with fail
  go_ret
  exact ⟨Zk rfl,rfl⟩
 ·go_enter Tryz.func238,Tryz.ntmps238
  go_wp2_with fail
  go_ret
  exact ⟨Zk rfl,rfl⟩
 ·go_enter Tryz.func238,Tryz.ntmps238
  go_wp2_with fail
  go_ret
  exact ⟨Zk rfl,rfl⟩
 ·go_enter Tryz.func238,Tryz.ntmps238
  go_wp2_with fail
  go_ret
  exact ⟨Zk rfl,rfl⟩
 ·have Hr:=Ya (show false=S.visB n from (decide_eq_false (by omega)).symm)
  have n1:(n==26)=false:=by simp;omega
  have n2:(n==27)=false:=by simp;omega
  have n3:(n==29)=false:=by simp;omega
  have n4:(n==30)=false:=by simp;omega
  go_enter Tryz.func238,Tryz.ntmps238
  go_wp2_with fail
  go_ret
  first
   | exact ⟨Zk Hr.out,rfl⟩
   | exact ⟨Zk ((decide_eq_false (by omega)).trans Hr.out),rfl⟩
def Zxs (l:List Int)(k:Nat):Prop:=∀ j,j<k->S.visB (l.getD j 0)=true/\(0<j->l.getD (j-1) 0<l.getD j 0)
theorem Zko:∀ (l:List Int),S.risingB l=true↔Zxs l l.length
 | []=>by
  constructor
  ·intro _ j hj;simp at hj
  ·intro _;rfl
 | [a]=>by
  rw [S.risingB]
  constructor
  ·intro h j hj
   have:j=0:=by simpa using hj
   subst this;exact ⟨h,by omega⟩
  ·intro h;exact (h 0 (by simp)).1
 | a::b::r=>by
  rw [S.risingB];simp only [Bool.and_eq_true,decide_eq_true_eq];rw [Zko (b::r)]
  constructor
  ·rintro ⟨⟨h1,h2⟩,h3⟩ j hj
   rcases j with _ | j
   ·exact ⟨h1,by omega⟩
   ·obtain ⟨q1,q2⟩:=h3 j (by simpa using hj)
    refine ⟨q1,fun _=>?_⟩;rcases j with _ | j
    ·exact h2
    ·exact q2 (by omega)
  ·intro h
   refine ⟨⟨(h 0 (by simp)).1,(h 1 (by simp)).2 (by omega)⟩,fun j hj=>?_⟩;obtain ⟨q1,q2⟩:=h (j+1) (by simpa using hj);refine ⟨q1,fun hp=>?_⟩;have:=q2 (by omega);rcases j with _ | j
   ·omega
   ·exact this
theorem Zxt (A:Option Addr)(c:Nat)(l:List Int)(w:World)(hA:Ints w w.heap.size A l)(hl:l.length<=maxLen):Calls Tryz.prog 239 #[.slice A l.length c] w fun e w'=>e=.returned (.bool (S.risingB l))/\w=w':=by
 unfold maxLen at hl;obtain ⟨N,hN⟩:=Yx l.length;rw [<- hN] at hl ⊢;have HN:=Ya hN;have Hall:=Ya (Zko l);clear hN;go_enter Tryz.func239,Tryz.ntmps239
 go_wp2_with fail
 go_loopw [3,4,7] (fun _ _ v7 wr=>∃ k:Nat,k<=N/\v7=.int .i64 k/\w=wr/\Hid (Zxs l k)) (fun _ _ v7 _=>N-(intOf v7).toNat)
 case atStart=>exact ⟨0,by omega,rfl,rfl,Ya fun j hj=>by omega⟩
 case round =>
  obtain ⟨k,hk,rfl,rfl,HR⟩:=hrel;by_cases hlt:k<N
  ·have hkl:k<l.length:=by rw [<- HN.out];exact hlt
   obtain ⟨b,off,rfl,hbB,hc⟩:=hA.two (by omega);obtain ⟨x,hx⟩:∃ x,l[k]?=some x:=⟨_,Yf hkl⟩
   have hx0:=hc k x hx;have hgx:l.getD k 0=x:=by simp [hx]
   cases hv:S.visB x with
   | false =>
    have Hf:=Ya (show S.risingB l=false from by
     rw [<- Bool.not_eq_true,Hall.out];intro h;have:=(h k hkl).1;rw [hgx,hv] at this
     cases this)
    have Hv:=Ya (Zf2 x w);rw [hv] at Hv;clear hv hgx hx hc;go_wp2_with fail
    refine Hv.out.mono ?_;rintro e w2 ⟨rfl,rfl⟩;go_wp2_with fail
    go_ret
    exact ⟨Zk Hf.out.symm,rfl⟩
   | true =>
    have Hv:=Ya (Zf2 x w);rw [hv] at Hv;by_cases hk0:k=0
    ·subst hk0
     rw [Nat.add_zero] at hx0;have HR':=Ya (show Zxs l 1 from fun j hj=>by
      have:j=0:=by omega
      subst this;exact ⟨by rw [hgx];exact hv,by omega⟩)
     clear hv hgx hx hc;go_wp2_with fail
     refine Hv.out.mono ?_;rintro e w2 ⟨rfl,rfl⟩;go_wp2_with fail
     go_roundw
     case rel=>exact ⟨1,by omega,by first | rfl | go_num,by first | rfl | trivial,HR'⟩
     case measure=>simp [intOf];omega
    ·obtain ⟨y,hy⟩:∃ y,l[k-1]?=some y:=⟨_,Yf (by omega)⟩
     have hy0:=hc (k-1) y hy;have hgy:l.getD (k-1) 0=y:=by simp [hy]
     have hk1:0<k:=by omega
     have et:((k:Int)-1).toNat=k-1:=by omega
     have eo:off+((k:Int)-1).toNat=off+(k-1):=by omega
     by_cases hyx:y<x
     ·have HR':=Ya (show Zxs l (k+1) from fun j hj=>by
       by_cases hjk:j=k
       ·subst hjk
        exact ⟨by rw [hgx];exact hv,fun _=>by rw [hgx,hgy];exact hyx⟩
       ·exact HR.out j (by omega))
      clear hv hgx hgy hx hy hc hk0;go_wp2_with fail
      refine Hv.out.mono ?_;rintro e w2 ⟨rfl,rfl⟩;go_wp2_with fail
      go_roundw
      case rel=>exact ⟨k+1,by omega,by go_num,by first | rfl | trivial,HR'⟩
      case measure=>simp [intOf];omega
     ·have Hf:=Ya (show S.risingB l=false from by
       rw [<- Bool.not_eq_true,Hall.out];intro h;have:=(h k hkl).2 hk1;rw [hgx,hgy] at this;exact hyx this)
      clear hv hgx hgy hx hy hc hk0;go_wp2_with fail
      refine Hv.out.mono ?_;rintro e w2 ⟨rfl,rfl⟩;go_wp2_with fail
      go_ret
      exact ⟨Zk Hf.out.symm,rfl⟩
  ·have hkN:k=N:=by omega
   subst hkN;go_wp2_with fail
   go_ret
   refine ⟨?_,rfl⟩;have:S.risingB l=true:=by rw [Hall.out,<- HN.out];exact HR.out
   exact Zk this.symm
end
section
open Go.RowKit
theorem Ziv (e:S.BE):∀ (l:List S.BE) (i:Nat),S.needEs (l++[e]) i=max (S.needEs l i) (i+l.length+max 1 (S.needE e))
 | [],i=>by simp only [Yaj,S.needEs,List.length_nil];omega
 | x::r,i=>by
  rw [Y5,S.needEs,S.needEs,Ziv e r (i+1)];simp only [Yi];omega
mutual
theorem Zxu:∀ (e:S.BE),S.needE e<=szE e
 | .mk op n name kids=>by
  rw [S.needE,szE];have:=Zf3 kids 0;omega
theorem Zf3:∀ (l:List S.BE) (i:Nat),S.needEs l i<=i+Ze8 l
 | [],i=>by rw [S.needEs];omega
 | e::r,i=>by
  rw [S.needEs,Ze8];have h1:=Zxu e;have h2:=Zf3 r (i+1);have h3:=Zdp e;omega
end
theorem Zdq {α:Type}(l:List α){k:Nat}{x:α}(h:l[k]?=some x):l.take (k+1)=l.take k++[x]:=by
 rw [List.take_add_one,h];rfl
theorem Zpg (l m:List S.BE):Ze8 (l++m)=Ze8 l+Ze8 m:=by
 induction l with
 | nil=>rw [Yaj,Ze8,Yaa]
 | cons x r ih=>rw [Y5,Ze8,Ze8,ih,Nat.add_assoc]
theorem Zt2 (l:List S.BE)(k:Nat):Ze8 (l.take k)<=Ze8 l:=by
 have:Ze8 l=Ze8 (l.take k)+Ze8 (l.drop k):=by rw [<- Zpg,List.take_append_drop]
 omega
theorem Zew:∀ l:List S.BE,l.length<=Ze8 l
 | []=>by simp
 | e::r=>by
  rw [Ze8,Yi];have:=Zew r;have:=Zdp e;omega
theorem Z3f:∀ (n:Nat) (A:Option Addr) (c:Nat) (l:List S.BE) (w:World),Ze8 l<=n->n<=1000000000->EList w w.heap.size A l ->
 Calls Tryz.prog 229 #[.slice A l.length c] w fun e w'=>e=.returned (.int .i64 (S.needEs l 0:Nat))/\Below w.heap.size w w':=by
 intro n
 induction n with
 | zero =>
  intro A c l w hn hn2 hA;have hl:l=[]:=by
   cases l with
   | nil=>rfl
   | cons e r=>rw [Ze8] at hn;have:=Zdp e;omega
  subst hl;go_enter Tryz.func229,Tryz.ntmps229
  go_wp2_with fail
  go_loopw [3,8] (fun v3 v8 wr=>v3=.int .i64 0/\v8=.int .i64 0/\w=wr) (fun _ _ _=>0)
  case atStart=>exact ⟨rfl,rfl,rfl⟩
  case round =>
   obtain ⟨rfl,rfl,rfl⟩:=hrel;go_wp2_with fail
   go_ret
   exact ⟨rfl,Yh _ _⟩
 | succ n ih =>
  intro A c l w hn hn2 hA;have hlen:=Zew l;obtain ⟨N,hN⟩:=Yx l.length;rw [<- hN] at hlen ⊢;have HN:=Ya hN;have HA:=Ya hA;clear hN hA;go_enter Tryz.func229,Tryz.ntmps229
  go_wp2_with fail
  go_loopw [3,8] (fun v3 v8 wr=>∃ (k m:Nat),k<=N/\v8=.int .i64 k/\v3=.int .i64 m/\Hid (m=S.needEs (l.take k) 0)/\m<=1000000000/\Below w.heap.size w wr) (fun _ v8 _=>N-(intOf v8).toNat)
  case atStart=>exact ⟨0,0,by omega,rfl,rfl,Ya (by rw [List.take_zero,S.needEs]),by omega,Yh _ _⟩
  case round =>
   obtain ⟨k,m,hk,rfl,rfl,HM,hm,hbk⟩:=hrel;by_cases hlt:k<N
   ·obtain ⟨e,he⟩:∃ e,l[k]?=some e:=⟨_,Yf (by rw [<- HN.out];exact hlt)⟩
    obtain ⟨b,off,A',c',rfl,hbB,q0,q1,q2,q3,q4,q5,q6⟩:=(HA.out.below hbk).at_ he;have hsz:=Zlj (Yw he);have hsp:=Zdp e;have hkl:(l.take k).length=k:=by have:=HN.out;rw [List.length_take];omega
    have hnx:S.needEs (l.take (k+1)) 0=max m (k+max 1 (S.needE e)):=by
     rw [Zdq l he,Ziv,hkl,<- HM.out,Yaa]
    have hnE:S.needE e=S.needEs e.kids 0:=by obtain ⟨op,n',nm,kids⟩:=e;rw [S.needE];rfl
    have hq:=Zf3 e.kids 0;have hbr:b<wr.heap.size:=Y6 hbB hbk.size;have hbX:Below wr.heap.size wr (wr.alloc (.cells #[.int .i64 e.op,.int .i64 e.n,.string e.name,.slice A' e.kids.length c'] 111)):=(Yh _ _).alloc (Yb _) _;have hrec:=ih A' c' e.kids (wr.alloc (.cells #[.int .i64 e.op,.int .i64 e.n,.string e.name,.slice A' e.kids.length c'] 111)) (by omega) (by omega) (((q6.more hbk.size).below hbX).more hbX.size);obtain ⟨r,hr⟩:=Yx (S.needEs e.kids 0);rw [<- hr] at hrec hnE hq;rw [hnE] at hnx;have hbd:max m (k+max 1 r)<=1000000000:=by
     rw [<- hnx];have h1:=Zf3 (l.take (k+1)) 0;have h2:=Zt2 l (k+1);omega
    obtain ⟨op,en,nm,kl,hop⟩:∃ op en nm kl,op=e.op/\en=e.n/\nm=e.name/\kl=e.kids.length:=⟨_,_,_,_,rfl,rfl,rfl,rfl⟩
    obtain ⟨o1,o2,o3,o4⟩:=hop;rw [<- o1,<- o2,<- o3,<- o4] at hrec hbX;rw [<- o1] at q0;rw [<- o2] at q1;rw [<- o3] at q2;rw [<- o4] at q3;have Hrec:=Ya hrec;have Hnx:=Ya hnx;have HbX:=Ya hbX;clear hrec hnx hbX o1 o2 o3 o4 hr hnE he q4 q5 q6 hkl;go_wp2_with fail
    refine Hrec.out.mono ?_;rintro e2 w2 ⟨rfl,hb2⟩;have hb3:=hbk.trans ((HbX.out.trans (hb2.mono HbX.out.size)).mono hbk.size);have hmx:(max (1:Int) (r:Int))=((max 1 r:Nat):Int):=by omega
    go_wp2_with fail
    go_roundw
    case rel =>
     refine ⟨k+1,max m (k+max 1 r),by omega,by go_num,?_,Ya Hnx.out.symm,hbd,hb3⟩
     congr 1
     (repeat' split) <;> omega
    case measure=>simp [intOf];omega
   ·have hkN:k=N:=by omega
    subst hkN;go_wp2_with fail
    go_ret
    have:S.needEs l 0=m:=by rw [HM.out,HN.out,Yad]
    exact ⟨Z3 (by rw [this]),hbk⟩
def Zxv (B g:Nat)(lb:Array Value)(p:S.BE->Bool)(l:List S.BE)(w:World):Prop :=
 ∀ (W:World) (e:S.BE) (v:Value),Below B w W->e∈l->Z6p W W.heap.size e v->Calls Tryz.prog g (#[v]++lb) W fun x w'=>x=.returned (.bool (p e))/\Below W.heap.size W w'
theorem Zph (B g:Nat)(lb:Array Value)(p:S.BE->Bool)(eg:∀ args w,(callFunc g args).run Tryz.prog w=.ok (.enter g args) w)(w:World)(hB:B<=w.heap.size)(A:Option Addr)(l:List S.BE)(c:Nat)(hp:Zxv B g lb p l w)(hA:EList w B A l)(hl:l.length<=1000000000) :
 Calls Tryz.prog 240 #[.slice A l.length c,.func (.func g) #[] lb] w fun e w'=>(∃ r:Int,e=.returned (.int .i64 r)/\decide (0<=r)=l.any p)/\Below w.heap.size w w':=by
 obtain ⟨N,hN⟩:∃ N:Nat,N=l.length:=⟨_,rfl⟩
 rw [<- hN] at hl ⊢;have HN:=Ya hN;have HA:=Ya hA;clear hN hA;go_enter Tryz.func240,Tryz.ntmps240
 go_wp2_with fail
 go_loopw [5,8] (fun _ v8 wr=>∃ k:Nat,k<=N/\v8=.int .i64 k/\Below w.heap.size w wr/\Hid (∀ x∈l.take k,p x=false)) (fun _ v8 _=>N-(intOf v8).toNat)
 case atStart=>exact ⟨0,by omega,rfl,Yh _ _,Ya (by simp)⟩
 case round =>
  obtain ⟨k,hk,rfl,hbk,hpre⟩:=hrel;by_cases hlt:k<N
  ·obtain ⟨e,he⟩:∃ e,l[k]?=some e:=⟨_,Yf (by rw [<- HN.out];exact hlt)⟩
   have hbB2:=hbk.mono hB;obtain ⟨b,off,A',c',rfl,hbB,q0,q1,q2,q3,q4,q5,q6⟩:=(HA.out.below hbB2).at_ he;have hbr:b<wr.heap.size:=by have:=hbk.size;omega
   have hcall:=hp wr e (.agg #[.int .i64 e.op,.int .i64 e.n,.string e.name,.slice A' e.kids.length c']) hbB2 (Yw he) ⟨A',c',rfl,q4,q5,q6.more (Y1 hB hbk.size)⟩;obtain ⟨q,hq⟩:=Yx (p e);rw [<- hq] at hcall;have Hq:=Ya hq;have Hx:=Ya he;obtain ⟨op,en,nm,kl,hop⟩:∃ op en nm kl,op=e.op/\en=e.n/\nm=e.name/\kl=e.kids.length:=⟨_,_,_,_,rfl,rfl,rfl,rfl⟩
   obtain ⟨o1,o2,o3,o4⟩:=hop;rw [<- o1,<- o2,<- o3,<- o4] at hcall;rw [<- o1] at q0;rw [<- o2] at q1;rw [<- o3] at q2;rw [<- o4] at q3;have Hp:=Ya hp;clear hp hq he o1 o2 o3 o4 q4 q5 q6 hbB2
   cases q with
   | true =>
    go_wp2_with (go_at_fn g;refine hcall.mono ?_;rintro e2 w2 ⟨rfl,hb2⟩)
    go_ret
    refine ⟨⟨(k:Int),rfl,?_⟩,hbk.trans (hb2.mono hbk.size)⟩;rw [decide_eq_true (by omega)]
    symm
    rw [List.any_eq_true];exact ⟨e,Yw Hx.out,Hq.out.symm⟩
   | false =>
    go_wp2_with (go_at_fn g;refine hcall.mono ?_;rintro e2 w2 ⟨rfl,hb2⟩)
    go_roundw
    case rel =>
     refine ⟨k+1,by omega,by go_num,hbk.trans (hb2.mono hbk.size),Ya (fun y hy=>?_)⟩;rw [Zdq l Hx.out] at hy;rcases List.mem_append.1 hy with hy | hy
     ·exact hpre.out y hy
     ·have:y=e:=by simpa using hy
      rw [this];exact Hq.out.symm
    case measure=>simp [intOf];omega
  ·have hkN:k=N:=by omega
   subst hkN;clear hp;go_wp2_with fail
   go_ret
   refine ⟨⟨-1,rfl,?_⟩,hbk⟩;rw [decide_eq_false (by omega)]
   symm
   rw [List.any_eq_false];intro y hy;have:=hpre.out y (by rw [HN.out,Yad];exact hy);simp [this]
theorem Zfd (B g:Nat)(lb:Array Value)(p:S.BE->Bool)(eg:∀ args w,(callFunc g args).run Tryz.prog w=.ok (.enter g args) w)(w:World)(hB:B<=w.heap.size)(A:Option Addr)(l:List S.BE)(c:Nat)(hp:Zxv B g lb p l w)(hA:EList w B A l)(hl:l.length<=1000000000) :
 Calls Tryz.prog 226 #[.slice A l.length c,.func (.func g) #[] lb] w fun e w'=>e=.returned (.bool (l.any p))/\Below w.heap.size w w':=by
 have HI:=Ya (Zph B g lb p eg w hB A l c hp hA hl);generalize l.any p=r at *;clear hp hA eg;go_enter Tryz.func226,Tryz.ntmps226
 go_wp2_with (go_at_call 240;refine HI.out.mono ?_;rintro e w2 ⟨⟨n,rfl,hn⟩,hb2⟩)
 all_goals
  go_ret
  exact ⟨by simp_all,hb2⟩
end
section
open Go.RowKit
theorem Zex (w:World)(a b:Obj):((w.alloc a).alloc b).heap[w.heap.size]?=some a/\((w.alloc a).alloc b).heap[w.heap.size+1]?=some b/\Below w.heap.size w ((w.alloc a).alloc b)/\((w.alloc a).alloc b).heap.size=w.heap.size+2:=by
 refine ⟨?_,?_,((Yh _ _).alloc (Yb _) _).alloc (by simp) _,by simp⟩
 ·rw [((Yh _ _).alloc (Yb (w.alloc a).heap.size) b).block _ (by simp)]
  exact heap_alloc_new w a
 ·have:=heap_alloc_new (w.alloc a) b
  have e:(w.alloc a).heap.size=w.heap.size+1:=by simp
  rw [e] at this;exact this
structure RE (w wc:World)(r e:Obj):Prop where
 r:wc.heap[w.heap.size]?=some r
 e:wc.heap[w.heap.size+1]?=some e
 b:Below w.heap.size w wc
 z:w.heap.size+2<=wc.heap.size
theorem RE.next {w wc w2:World}{r e:Obj}(h:RE w wc r e)(hb:Below wc.heap.size wc w2):RE w w2 r e :=
 ⟨(hb.block _ (by have:=h.z;omega)).trans h.r,(hb.block _ (by have:=h.z;omega)).trans h.e,h.b.trans (hb.mono h.b.size),Y1 h.z hb.size⟩
theorem Zeh (L:Int):∀ l:List S.BE,S.formedEs L l=!(l.any fun k=>!S.formedE L k)
 | []=>rfl
 | e::r=>by
  rw [S.formedEs,Zeh L r,List.any_cons]
  cases S.formedE L e <;> simp
theorem Zt3 (rn:ByteArray)(P L:Int)(bh:Bool)(Ab:Option Addr)(nb cb:Nat)(op n:Int)(nm:ByteArray)(N:Nat)(A:Option Addr)(c:Nat)(w:World)(hN:N<=1000000000)(hnm:nm.size<=maxLen)(R:Bool)(hR0:S.headE L op n nm N=false->R=false)
 (hR1:S.headE L op n nm N=true->∀ W,RE w W (.cells #[.string rn,.int .i64 P,.int .i64 L,.bool bh,.slice Ab nb cb] 178) (.cells #[.int .i64 op,.int .i64 n,.string nm,.slice A N c] 111)->Calls Tryz.prog 226 #[.slice A N c,.func (.func 241) #[] #[.pointer (some ⟨w.heap.size,0,none⟩)]] W fun x w'=>x=.returned (.bool (!R))/\Below W.heap.size W w') :
 Calls Tryz.prog 228 #[.agg #[.string rn,.int .i64 P,.int .i64 L,.bool bh,.slice Ab nb cb],.agg #[.int .i64 op,.int .i64 n,.string nm,.slice A N c]] w fun x w'=>x=.returned (.bool R)/\Below w.heap.size w w':=by
 obtain ⟨t1,t2,t3,t4⟩:=Zex w (.cells #[.string rn,.int .i64 P,.int .i64 L,.bool bh,.slice Ab nb cb] 178) (.cells #[.int .i64 op,.int .i64 n,.string nm,.slice A N c] 111);have HR0:=Ya hR0;have HR1:=Ya hR1;have Hlab:=Ya (fun W=>Zpf nm W hnm);clear hR0 hR1 hnm;go_enter Tryz.func228,Tryz.ntmps228
 go_upto_region 1 with fail
 generalize (w.alloc (.cells #[.string rn,.int .i64 P,.int .i64 L,.bool bh,.slice Ab nb cb] 178)).alloc (.cells #[.int .i64 op,.int .i64 n,.string nm,.slice A N c] 111)=w2 at *;have q0:w2.cell? ⟨w.heap.size+1,0,none⟩=some (.int .i64 op):=by rw [Yc t2];rfl
 have q1:w2.cell? ⟨w.heap.size+1,1,none⟩=some (.int .i64 n):=by rw [Yc t2];rfl
 go_quiet (fail)
 have HW:=Ya (show RE w (w2.drewN nq) (.cells #[.string rn,.int .i64 P,.int .i64 L,.bool bh,.slice Ab nb cb] 178) (.cells #[.int .i64 op,.int .i64 n,.string nm,.slice A N c] 111) from ⟨t1,t2,below_drewN t3 nq,by show _<=w2.heap.size;omega⟩);clear q0 q1 t1 t2 t3 t4;generalize w2.drewN nq=w3 at *;have q0:w3.cell? ⟨w.heap.size+1,0,none⟩=some (.int .i64 op):=by rw [Yc HW.out.e];rfl
 have q1:w3.cell? ⟨w.heap.size+1,1,none⟩=some (.int .i64 n):=by rw [Yc HW.out.e];rfl
 have q2:w3.cell? ⟨w.heap.size,2,none⟩=some (.int .i64 L):=by rw [Yc HW.out.r];rfl
 have q3:w3.cell? ⟨w.heap.size+1,3,none⟩=some (.slice A N c):=by rw [Yc HW.out.e];rfl
 go_upto_block 0 with fail
 clear q0;by_cases hop:1<=op/\op<=10
 ·go_cut [5,6,7] (fun v5 v6 v7 wc=>v5=.int .i64 (S.kidsE op N:Nat)/\v6=.bool (S.namedE op)/\v7=.bool (S.numE L op n)/\Hid (RE w wc (.cells #[.string rn,.int .i64 P,.int .i64 L,.bool bh,.slice Ab nb cb] 178) (.cells #[.int .i64 op,.int .i64 n,.string nm,.slice A N c] 111)))
  case first =>
   rcases (show op=1\/op=2\/op=3\/op=4\/op=5\/op=6\/op=7\/op=8\/op=9\/op=10 by omega) with rfl | rfl | rfl | rfl | rfl | rfl | rfl | rfl | rfl | rfl
   ·by_cases h1:-2147483648<=n
    ·by_cases h2:n<=4294967295
     ·have He:=Ya (show true=S.numE L 1 n from (decide_eq_true ⟨h1,h2⟩).symm)
      go_wp2_with fail
      go_meet
      exact ⟨rfl,rfl,by rw [<- He.out],HW⟩
     ·have He:=Ya (show false=S.numE L 1 n from (decide_eq_false (by omega)).symm)
      go_wp2_with fail
      go_meet
      exact ⟨rfl,rfl,by rw [<- He.out],HW⟩
    ·have He:=Ya (show false=S.numE L 1 n from (decide_eq_false (by omega)).symm)
     go_wp2_with fail
     go_meet
     exact ⟨rfl,rfl,by rw [<- He.out],HW⟩
   ·by_cases h1:0<=n
    ·by_cases h2:n<L
     ·have He:=Ya (show true=S.numE L 2 n from (decide_eq_true ⟨h1,h2⟩).symm)
      go_wp2_with fail
      go_meet
      exact ⟨rfl,rfl,by rw [<- He.out],HW⟩
     ·have He:=Ya (show false=S.numE L 2 n from (decide_eq_false (by omega)).symm)
      go_wp2_with fail
      go_meet
      exact ⟨rfl,rfl,by rw [<- He.out],HW⟩
    ·have He:=Ya (show false=S.numE L 2 n from (decide_eq_false (by omega)).symm)
     go_wp2_with fail
     go_meet
     exact ⟨rfl,rfl,by rw [<- He.out],HW⟩
   ·go_wp2_with fail
    refine (Zf2 n w3).mono ?_;rintro e4 w4 ⟨rfl,rfl⟩;go_wp2_with fail
    go_meet
    exact ⟨rfl,rfl,rfl,HW⟩
   ·by_cases h1:1<=n
    ·by_cases h2:n<=14
     ·have He:=Ya (show true=S.numE L 4 n from (decide_eq_true ⟨h1,h2⟩).symm)
      go_wp2_with fail
      go_quiet (fail)
      go_wp2_with fail
      go_meet
      exact ⟨rfl,rfl,by rw [<- He.out],Ya (HW.out.next (below_drewN (Yh _ _) _))⟩
     ·have He:=Ya (show false=S.numE L 4 n from (decide_eq_false (by omega)).symm)
      go_wp2_with fail
      go_quiet (fail)
      go_wp2_with fail
      go_meet
      exact ⟨rfl,rfl,by rw [<- He.out];congr 1;rw [decide_eq_false_iff_not];omega,Ya (HW.out.next (below_drewN (Yh _ _) _))⟩
    ·have He:=Ya (show false=S.numE L 4 n from (decide_eq_false (by omega)).symm)
     have hd:decide (1<=n)=false:=decide_eq_false h1;clear h1;go_wp2_with fail
     go_quiet (fail)
     go_wp2_with fail
     go_meet
     exact ⟨rfl,rfl,by rw [<- He.out],Ya (HW.out.next (below_drewN (Yh _ _) _))⟩
   ·go_wp2_with fail
    refine (Zqt n w3).mono ?_;rintro e4 w4 ⟨rfl,rfl⟩;go_wp2_with fail
    go_meet
    exact ⟨rfl,rfl,rfl,HW⟩
   ·go_wp2_with fail
    go_meet
    exact ⟨by congr 1;show min (N:Int) 4=((min N 4:Nat):Int);omega,rfl,rfl,HW⟩
   ·go_wp2_with fail
    go_meet
    exact ⟨rfl,rfl,rfl,HW⟩
   ·go_wp2_with fail
    go_meet
    exact ⟨rfl,rfl,rfl,HW⟩
   ·go_wp2_with fail
    go_meet
    exact ⟨rfl,rfl,rfl,HW⟩
   ·go_wp2_with fail
    go_meet
    exact ⟨rfl,rfl,rfl,HW⟩
  case rest =>
   obtain ⟨rfl,rfl,rfl,HWc⟩:=hcut;have hh:S.headE L op n nm N=(S.numE L op n && decide (N=S.kidsE op N) && (S.namedE op==decide (nm.size≠0)) && (!S.namedE op || S.labB nm)):=by
    unfold S.headE;rw [decide_eq_true hop,Bool.true_and]
   have hs0:=Ziu nm;rw [<- hs0] at hh;clear hs0;generalize S.kidsE op N=K at *;generalize S.namedE op=M at *;generalize S.numE L op n=Q at *;have HR0':=HR0.out;have HR1':=HR1.out;rw [hh] at HR0' HR1';have H0:=Ya HR0';have H1:=Ya HR1';clear hh HR0 HR1 HR0' HR1' HW q1 q2 q3 hop;have q2:wc.cell? ⟨w.heap.size+1,2,none⟩=some (.string nm):=by rw [Yc HWc.out.e];rfl
   have q3:wc.cell? ⟨w.heap.size+1,3,none⟩=some (.slice A N c):=by rw [Yc HWc.out.e];rfl
   cases Q with
   | false =>
    have Hf:=Ya (H0.out (by simp));go_wp2_with fail
    go_ret
    exact ⟨Zk Hf.out.symm,HWc.out.b⟩
   | true =>
    by_cases hk:N=K
    ·subst hk
     by_cases hn0:nm.toList=[]
     ·have hie:nm.toList.isEmpty=true:=by simp [hn0]
      cases M with
      | true =>
       have Hf:=Ya (H0.out (by simp [hn0]));go_wp2_with fail
       go_ret
       exact ⟨Zk Hf.out.symm,HWc.out.b⟩
      | false =>
       have Hc:=Ya (H1.out (by simp [hn0]) wc HWc.out);go_wp2_with fail
       refine Hc.out.mono ?_;rintro e5 w5 ⟨rfl,hb5⟩;go_wp2_with fail
       go_ret
       exact ⟨Zk (by simp),HWc.out.b.trans (hb5.mono HWc.out.b.size)⟩
     ·have hie:nm.toList.isEmpty=false:=by simp [hn0]
      cases M with
      | false =>
       have Hf:=Ya (H0.out (by simp [hn0]));go_wp2_with fail
       go_ret
       exact ⟨Zk Hf.out.symm,HWc.out.b⟩
      | true =>
       have Hl:=Ya (Hlab.out wc);have H0':=Ya (fun h:S.labB nm=false=>H0.out (by simp [hn0,h]));have H1':=Ya (fun h:S.labB nm=true=>H1.out (by simp [hn0,h]) wc HWc.out);generalize S.labB nm=B at *
       cases B with
       | false =>
        have Hf:=Ya (H0'.out rfl);go_wp2_with fail
        refine Hl.out.mono ?_;rintro e4 w4 ⟨rfl,rfl⟩;go_wp2_with fail
        go_ret
        exact ⟨Zk Hf.out.symm,HWc.out.b⟩
       | true =>
        have Hc:=Ya (H1'.out rfl);go_wp2_with fail
        refine Hl.out.mono ?_;rintro e4 w4 ⟨rfl,rfl⟩;go_wp2_with fail
        refine Hc.out.mono ?_;rintro e5 w5 ⟨rfl,hb5⟩;go_wp2_with fail
        go_ret
        exact ⟨Zk (by simp),HWc.out.b.trans (hb5.mono HWc.out.b.size)⟩
    ·have Hf:=Ya (H0.out (by simp [hk]))
     have hne:((N:Int) != (K:Int))=true:=by simp;omega
     clear hk;go_wp2_with fail
     go_ret
     exact ⟨Zk Hf.out.symm,HWc.out.b⟩
 ·have Hf:=Ya (HR0.out (by unfold S.headE;rw [decide_eq_false hop];simp))
  have n1:(op==1)=false:=by simp;omega
  have n2:(op==2)=false:=by simp;omega
  have n3:(op==3)=false:=by simp;omega
  have n4:(op==4)=false:=by simp;omega
  have n5:(op==5)=false:=by simp;omega
  have n6:(op==6)=false:=by simp;omega
  have n7:(op==7)=false:=by simp;omega
  have n8:(op==8)=false:=by simp;omega
  have n9:(op==9)=false:=by simp;omega
  have n10:(op==10)=false:=by simp;omega
  clear hop;go_wp2_with fail
  go_ret
  exact ⟨Zk Hf.out.symm,HW.out.b⟩
theorem Zj6:∀ args w,(callFunc 241 args).run Tryz.prog w=.ok (.enter 241 args) w:=enters_of Tryz.func241 (by kernel_rfl) rfl
theorem Zlm:∀ args w,(callFunc 227 args).run Tryz.prog w=.ok (.enter 227 args) w:=enters_of Tryz.func227 (by kernel_rfl) rfl
def Zpi (L:Int)(e:S.BE)(w:World)(x:Ending)(w':World):Prop:=x=.returned (.bool (S.formedE L e))/\Below w.heap.size w w'
def Fmd (rn:ByteArray)(P L:Int)(bh:Bool)(Ab:Option Addr)(nb cb n:Nat):Prop:=∀ (e:S.BE) (v:Value) (w:World),szE e<=n->Z6p w w.heap.size e v ->
 Calls Tryz.prog 228 #[.agg #[.string rn,.int .i64 P,.int .i64 L,.bool bh,.slice Ab nb cb],v] w (Zpi L e w)
theorem Zt4 {rn:ByteArray}{P L:Int}{bh:Bool}{Ab:Option Addr}{nb cb n:Nat}(hF:Fmd rn P L bh Ab nb cb n)(g:Nat)(w:World)(hr:w.heap[g]?=some (.cells #[.string rn,.int .i64 P,.int .i64 L,.bool bh,.slice Ab nb cb] 178))(hg:g<w.heap.size)(l:List S.BE)(hl:∀ e∈l,szE e<=n) :
 Zxv w.heap.size 241 #[.pointer (some ⟨g,0,none⟩)] (fun e=>!S.formedE L e) l w:=by
 intro W e v hb he hv;have HF:=Ya hF;have hre:=(hb.block g hg).trans hr;have hgW:g<W.heap.size:=Y6 hg hb.size;have hle:=hl e he;obtain ⟨A,c,rfl,h1,h2,h3⟩:=hv;have hbX:Below W.heap.size W (W.alloc (.cells #[.int .i64 e.op,.int .i64 e.n,.string e.name,.slice A e.kids.length c] 111)):=(Yh _ _).alloc (Yb _) _;have hrX:=heap_alloc_new W (.cells #[.int .i64 e.op,.int .i64 e.n,.string e.name,.slice A e.kids.length c] 111);have hzX:W.heap.size<(W.alloc (.cells #[.int .i64 e.op,.int .i64 e.n,.string e.name,.slice A e.kids.length c] 111)).heap.size:=by simp
 have hcall:=hF e (.agg #[.int .i64 e.op,.int .i64 e.n,.string e.name,.slice A e.kids.length c]) (W.alloc (.cells #[.int .i64 e.op,.int .i64 e.n,.string e.name,.slice A e.kids.length c] 111)) hle ⟨A,c,rfl,h1,h2,(h3.below hbX).more hbX.size⟩;have hrY:=(hbX.block g hgW).trans hre;unfold Zpi at hcall
 show Calls Tryz.prog 241 #[.agg #[.int .i64 e.op,.int .i64 e.n,.string e.name,.slice A e.kids.length c],.pointer (some ⟨g,0,none⟩)] W fun x w'=>x=.returned (.bool (!S.formedE L e))/\Below W.heap.size W w'
 generalize S.formedE L e=R at *;generalize e.op=op at *;generalize e.n=en at *;generalize e.name=nm at *;generalize e.kids.length=kl at *;have Hcall:=Ya hcall;have HbX:=Ya hbX;clear hcall hF HF hle hl he h1 h2 h3 hb hr hre;go_enter Tryz.func241,Tryz.ntmps241
 go_upto_region 1 with fail
 generalize W.alloc (.cells #[.int .i64 op,.int .i64 en,.string nm,.slice A kl c] 111)=w2 at *;have c0:w2.cell? ⟨g,0,none⟩=some (.string rn):=by rw [Yc hrY];rfl
 have c1:w2.cell? ⟨g,1,none⟩=some (.int .i64 P):=by rw [Yc hrY];rfl
 have c2:w2.cell? ⟨g,2,none⟩=some (.int .i64 L):=by rw [Yc hrY];rfl
 have c3:w2.cell? ⟨g,3,none⟩=some (.bool bh):=by rw [Yc hrY];rfl
 have c4:w2.cell? ⟨g,4,none⟩=some (.slice Ab nb cb):=by rw [Yc hrY];rfl
 have e0:w2.cell? ⟨W.heap.size,0,none⟩=some (.int .i64 op):=by rw [Yc hrX];rfl
 have e1:w2.cell? ⟨W.heap.size,1,none⟩=some (.int .i64 en):=by rw [Yc hrX];rfl
 have e2:w2.cell? ⟨W.heap.size,2,none⟩=some (.string nm):=by rw [Yc hrX];rfl
 have e3:w2.cell? ⟨W.heap.size,3,none⟩=some (.slice A kl c):=by rw [Yc hrX];rfl
 clear hrX hrY;go_wp2_with fail
 refine Hcall.out.mono ?_;rintro x w3 ⟨rfl,hb3⟩;go_wp2_with fail
 go_ret
 exact ⟨rfl,HbX.out.trans (hb3.mono HbX.out.size)⟩
theorem Zxw (rn:ByteArray)(P L:Int)(bh:Bool)(Ab:Option Addr)(nb cb:Nat):∀ n,n<=1000000000->Fmd rn P L bh Ab nb cb n:=by
 intro n
 induction n with
 | zero =>
  intro _ e v w hs _;have:=Zdp e;omega
 | succ n ih =>
  intro hn e v w hs hv;obtain ⟨A,c,rfl,h1,h2,h3⟩:=hv;have hsz:=Zdp e;have hlen:=Zew e.kids;have hfe:S.formedE L e=(S.headE L e.op e.n e.name e.kids.length && S.formedEs L e.kids):=by obtain ⟨op,n',nm,kids⟩:=e;rw [S.formedE];rfl
  refine Zt3 rn P L bh Ab nb cb e.op e.n e.name e.kids.length A c w (by omega) h1 (S.formedE L e) (fun h=>by rw [hfe,h];rfl) (fun h W hW=>?_);have hb:=hW.b;have hB:=hb.size;have hk:=(h3.below hb).more hB;have hp:=Zt4 (ih (by omega)) w.heap.size W hW.r (by have:=hW.z;omega) e.kids (fun k hk=>by have:=Zlj hk;omega);refine (Zfd W.heap.size _ _ (fun k=>!S.formedE L k) Zj6 W (Yb _) A e.kids c hp hk (by omega)).mono ?_;rintro x w' ⟨rfl,hb'⟩;refine ⟨?_,hb'⟩;rw [hfe,h,Zeh];simp
end
section
open Go.RowKit
theorem Zxx (rn:ByteArray)(P L:Int)(bh:Bool)(Ab:Option Addr)(nb cb:Nat)(op n:Int)(nm:ByteArray)(N1 N3 N4:Nat)(regs:List Int)(A1 A2 A3 A4:Option Addr)(c1 c2 c3 c4:Nat)(w:World)(hnm:nm.size<=maxLen)(hreg:Ints w w.heap.size A2 regs)(hrl:regs.length<=maxLen) :
 Calls Tryz.prog 225 #[.agg #[.string rn,.int .i64 P,.int .i64 L,.bool bh,.slice Ab nb cb],.agg #[.int .i64 op,.int .i64 n,.string nm,.slice A1 N1 c1,.slice A2 regs.length c2,.slice A3 N3 c3,.slice A4 N4 c4]] w
  fun x w'=>x=.returned (.bool (S.shapedS L op n nm N1 regs N3 N4))/\Below w.heap.size w w':=by
 have Hris:=Ya (fun (W:World) (hb:Below w.heap.size w W)=>Zxt A2 c2 regs W ((hreg.below hb).more hb.size) hrl);have hh0:S.shapedS L op n nm N1 regs N3 N4=(decide (1<=op/\op<=11) && (decide (op=5) || decide (regs.length=0)) && S.risingB regs && (decide (1<=S.bodiesS op) || decide (N3=0)) && (decide (2<=S.bodiesS op) || decide (N4=0)) &&
  S.numS L op n && decide (N1=S.exprsS op regs.length) && (S.namedS op==(nm.toList != ([]:List UInt8))) && (!S.namedS op || S.labB nm)):=by
  rw [Ziu];rfl
 have Hh:=Ya hh0;have Hlab:=Ya (fun W=>Zpf nm W hnm);clear hh0 hnm hreg hrl;generalize S.risingB regs=ρ at *;obtain ⟨N2,hN2⟩:=Yx regs.length;rw [<- hN2] at Hris Hh ⊢;have HN2:=Ya hN2;clear hN2;obtain ⟨res,hres⟩:=Yx (S.shapedS L op n nm N1 regs N3 N4);rw [<- hres] at Hh ⊢;clear hres;obtain ⟨t1,t2,t3,t4⟩:=Zex w (.cells #[.string rn,.int .i64 P,.int .i64 L,.bool bh,.slice Ab nb cb] 178) (.cells #[.int .i64 op,.int .i64 n,.string nm,.slice A1 N1 c1,.slice A2 N2 c2,.slice A3 N3 c3,.slice A4 N4 c4] 115);go_enter Tryz.func225,Tryz.ntmps225
 go_upto_region 1 with fail
 generalize (w.alloc (.cells #[.string rn,.int .i64 P,.int .i64 L,.bool bh,.slice Ab nb cb] 178)).alloc (.cells #[.int .i64 op,.int .i64 n,.string nm,.slice A1 N1 c1,.slice A2 N2 c2,.slice A3 N3 c3,.slice A4 N4 c4] 115)=w2 at *;have q0:w2.cell? ⟨w.heap.size+1,0,none⟩=some (.int .i64 op):=by rw [Yc t2];rfl
 have q1:w2.cell? ⟨w.heap.size+1,1,none⟩=some (.int .i64 n):=by rw [Yc t2];rfl
 go_quiet (fail)
 have HW:=Ya (show RE w (w2.drewN nq) (.cells #[.string rn,.int .i64 P,.int .i64 L,.bool bh,.slice Ab nb cb] 178) (.cells #[.int .i64 op,.int .i64 n,.string nm,.slice A1 N1 c1,.slice A2 N2 c2,.slice A3 N3 c3,.slice A4 N4 c4] 115) from ⟨t1,t2,below_drewN t3 nq,by show _<=w2.heap.size;omega⟩);clear q0 q1 t1 t2 t3 t4;generalize w2.drewN nq=w3 at *;have q0:w3.cell? ⟨w.heap.size+1,0,none⟩=some (.int .i64 op):=by rw [Yc HW.out.e];rfl
 have q1:w3.cell? ⟨w.heap.size+1,1,none⟩=some (.int .i64 n):=by rw [Yc HW.out.e];rfl
 have q2:w3.cell? ⟨w.heap.size,2,none⟩=some (.int .i64 L):=by rw [Yc HW.out.r];rfl
 have q3:w3.cell? ⟨w.heap.size+1,4,none⟩=some (.slice A2 N2 c2):=by rw [Yc HW.out.e];rfl
 go_upto_block 0 with fail
 clear q0;by_cases hop:1<=op/\op<=11
 ·go_cut [5,6,7,8] (fun v5 v6 v7 v8 wc=>v5=.int .i64 (S.exprsS op N2:Nat)/\v6=.bool (S.namedS op)/\v7=.bool (S.numS L op n)/\v8=.int .i64 (S.bodiesS op)/\Hid (RE w wc (.cells #[.string rn,.int .i64 P,.int .i64 L,.bool bh,.slice Ab nb cb] 178) (.cells #[.int .i64 op,.int .i64 n,.string nm,.slice A1 N1 c1,.slice A2 N2 c2,.slice A3 N3 c3,.slice A4 N4 c4] 115)))
  case first =>
   rcases (show op=1\/op=2\/op=3\/op=4\/op=5\/op=6\/op=7\/op=8\/op=9\/op=10\/op=11 by omega) with rfl | rfl | rfl | rfl | rfl | rfl | rfl | rfl | rfl | rfl | rfl
   ·by_cases h1:0<=n
    ·by_cases h2:n<L
     ·have He:=Ya (show true=S.numS L 1 n from (decide_eq_true ⟨h1,h2⟩).symm)
      go_wp2_with fail
      go_meet
      exact ⟨rfl,rfl,by rw [<- He.out],rfl,HW⟩
     ·have He:=Ya (show false=S.numS L 1 n from (decide_eq_false (by omega)).symm)
      go_wp2_with fail
      go_meet
      exact ⟨rfl,rfl,by rw [<- He.out],rfl,HW⟩
    ·have He:=Ya (show false=S.numS L 1 n from (decide_eq_false (by omega)).symm)
     go_wp2_with fail
     go_meet
     exact ⟨rfl,rfl,by rw [<- He.out],rfl,HW⟩
   ·go_wp2_with fail
    refine (Zqt n w3).mono ?_;rintro e4 w4 ⟨rfl,rfl⟩;go_wp2_with fail
    go_meet
    exact ⟨rfl,rfl,rfl,rfl,HW⟩
   ·go_wp2_with fail
    go_meet
    exact ⟨rfl,rfl,rfl,rfl,HW⟩
   ·go_wp2_with fail
    go_meet
    exact ⟨rfl,rfl,rfl,rfl,HW⟩
   ·go_wp2_with fail
    go_meet
    exact ⟨rfl,rfl,rfl,rfl,HW⟩
   ·go_wp2_with fail
    go_meet
    exact ⟨rfl,rfl,rfl,rfl,HW⟩
   ·go_wp2_with fail
    go_meet
    exact ⟨rfl,rfl,rfl,rfl,HW⟩
   ·go_wp2_with fail
    go_meet
    exact ⟨rfl,rfl,rfl,rfl,HW⟩
   ·go_wp2_with fail
    refine (Zf2 n w3).mono ?_;rintro e4 w4 ⟨rfl,rfl⟩;go_wp2_with fail
    go_meet
    exact ⟨rfl,rfl,rfl,rfl,HW⟩
   ·go_wp2_with fail
    go_meet
    exact ⟨rfl,rfl,rfl,rfl,HW⟩
   ·go_wp2_with fail
    go_meet
    exact ⟨rfl,rfl,rfl,rfl,HW⟩
  case rest =>
   obtain ⟨rfl,rfl,rfl,rfl,HWc⟩:=hcut;have Hh2:=Hh.out;rw [decide_eq_true hop,Bool.true_and] at Hh2;have Hh3:=Ya Hh2;clear Hh2 hop Hh HW q1 q2 q3;have q0:wc.cell? ⟨w.heap.size+1,0,none⟩=some (.int .i64 op):=by rw [Yc HWc.out.e];rfl
   have q2:wc.cell? ⟨w.heap.size+1,2,none⟩=some (.string nm):=by rw [Yc HWc.out.e];rfl
   have q3:wc.cell? ⟨w.heap.size+1,3,none⟩=some (.slice A1 N1 c1):=by rw [Yc HWc.out.e];rfl
   have q4:wc.cell? ⟨w.heap.size+1,4,none⟩=some (.slice A2 N2 c2):=by rw [Yc HWc.out.e];rfl
   have q5:wc.cell? ⟨w.heap.size+1,5,none⟩=some (.slice A3 N3 c3):=by rw [Yc HWc.out.e];rfl
   have q6:wc.cell? ⟨w.heap.size+1,6,none⟩=some (.slice A4 N4 c4):=by rw [Yc HWc.out.e];rfl
   generalize S.exprsS op N2=K at *;generalize S.namedS op=M at *;generalize S.numS L op n=Q at *;generalize S.bodiesS op=D at *;have Hr:=Ya (Hris.out wc HWc.out.b);have Hl:=Ya (Hlab.out wc);generalize S.labB nm=B at *;clear Hris Hlab HN2;obtain ⟨V,hV⟩:∃ V:Bool,V=((decide (op=5) || decide (N2=0)) && ρ && (decide (1<=D) || decide (N3=0)) && (decide (2<=D) || decide (N4=0))):=⟨_,rfl⟩
   have Hh4:=Ya (show res=(V && Q && decide (N1=K) && (M==(nm.toList != ([]:List UInt8))) && (!M || B)) from by rw [hV];exact Hh3.out);clear Hh3;go_upto_region 22 with fail
   go_cut [86] (fun v w5=>v=.bool (!V)/\wc=w5)
   case first =>
    clear Hl Hh4 q2 q3;by_cases h5:op=5
    ·subst h5
     cases ρ with
     | false =>
      have HV:=Ya (show V=false from by rw [hV];simp);clear hV;go_wp2_with fail
      refine Hr.out.mono ?_;rintro e4 w4 ⟨rfl,rfl⟩;go_wp2_with fail
      go_meet
      exact ⟨by rw [HV.out];rfl,rfl⟩
     | true =>
      by_cases d1:D<1
      ·by_cases z3:N3=0
       ·subst z3
        by_cases z4:N4=0
        ·subst z4
         have HV:=Ya (show V=true from by rw [hV];simp);clear hV;go_wp2_with fail
         refine Hr.out.mono ?_;rintro e4 w4 ⟨rfl,rfl⟩;go_wp2_with fail
         go_meet
         exact ⟨by rw [HV.out];rfl,rfl⟩
        ·have p4:0<N4:=by omega
         have HV:=Ya (show V=false from by rw [hV,decide_eq_false z4,decide_eq_false (show ¬ 2<=D by omega)];simp);clear hV z4;go_wp2_with fail
         refine Hr.out.mono ?_;rintro e4 w4 ⟨rfl,rfl⟩;go_wp2_with fail
         go_meet
         exact ⟨by rw [HV.out];rfl,rfl⟩
       ·have p3:0<N3:=by omega
        have HV:=Ya (show V=false from by rw [hV,decide_eq_false z3,decide_eq_false (show ¬ 1<=D by omega)];simp);clear hV z3;go_wp2_with fail
        refine Hr.out.mono ?_;rintro e4 w4 ⟨rfl,rfl⟩;go_wp2_with fail
        go_meet
        exact ⟨by rw [HV.out];rfl,rfl⟩
      ·by_cases d2:D<2
       ·by_cases z4:N4=0
        ·subst z4
         have HV:=Ya (show V=true from by rw [hV,decide_eq_true (show 1<=D by omega)];simp);clear hV;go_wp2_with fail
         refine Hr.out.mono ?_;rintro e4 w4 ⟨rfl,rfl⟩;go_wp2_with fail
         go_meet
         exact ⟨by rw [HV.out];rfl,rfl⟩
        ·have p4:0<N4:=by omega
         have HV:=Ya (show V=false from by rw [hV,decide_eq_false z4,decide_eq_false (show ¬ 2<=D by omega)];simp);clear hV z4;go_wp2_with fail
         refine Hr.out.mono ?_;rintro e4 w4 ⟨rfl,rfl⟩;go_wp2_with fail
         go_meet
         exact ⟨by rw [HV.out];rfl,rfl⟩
       ·have HV:=Ya (show V=true from by rw [hV,decide_eq_true (show 1<=D by omega),decide_eq_true (show 2<=D by omega)];simp)
        clear hV;go_wp2_with fail
        refine Hr.out.mono ?_;rintro e4 w4 ⟨rfl,rfl⟩;go_wp2_with fail
        go_meet
        exact ⟨by rw [HV.out];rfl,rfl⟩
    ·have n5:(op != 5)=true:=by simp [h5]
     by_cases z2:N2=0
     ·subst z2
      clear h5
      cases ρ with
      | false =>
       have HV:=Ya (show V=false from by rw [hV];simp);clear hV;go_wp2_with fail
       refine Hr.out.mono ?_;rintro e4 w4 ⟨rfl,rfl⟩;go_wp2_with fail
       go_meet
       exact ⟨by rw [HV.out];rfl,rfl⟩
      | true =>
       by_cases d1:D<1
       ·by_cases z3:N3=0
        ·subst z3
         by_cases z4:N4=0
         ·subst z4
          have HV:=Ya (show V=true from by rw [hV];simp);clear hV;go_wp2_with fail
          refine Hr.out.mono ?_;rintro e4 w4 ⟨rfl,rfl⟩;go_wp2_with fail
          go_meet
          exact ⟨by rw [HV.out];rfl,rfl⟩
         ·have p4:0<N4:=by omega
          have HV:=Ya (show V=false from by rw [hV,decide_eq_false z4,decide_eq_false (show ¬ 2<=D by omega)];simp);clear hV z4;go_wp2_with fail
          refine Hr.out.mono ?_;rintro e4 w4 ⟨rfl,rfl⟩;go_wp2_with fail
          go_meet
          exact ⟨by rw [HV.out];rfl,rfl⟩
        ·have p3:0<N3:=by omega
         have HV:=Ya (show V=false from by rw [hV,decide_eq_false z3,decide_eq_false (show ¬ 1<=D by omega)];simp);clear hV z3;go_wp2_with fail
         refine Hr.out.mono ?_;rintro e4 w4 ⟨rfl,rfl⟩;go_wp2_with fail
         go_meet
         exact ⟨by rw [HV.out];rfl,rfl⟩
       ·by_cases d2:D<2
        ·by_cases z4:N4=0
         ·subst z4
          have HV:=Ya (show V=true from by rw [hV,decide_eq_true (show 1<=D by omega)];simp);clear hV;go_wp2_with fail
          refine Hr.out.mono ?_;rintro e4 w4 ⟨rfl,rfl⟩;go_wp2_with fail
          go_meet
          exact ⟨by rw [HV.out];rfl,rfl⟩
         ·have p4:0<N4:=by omega
          have HV:=Ya (show V=false from by rw [hV,decide_eq_false z4,decide_eq_false (show ¬ 2<=D by omega)];simp);clear hV z4;go_wp2_with fail
          refine Hr.out.mono ?_;rintro e4 w4 ⟨rfl,rfl⟩;go_wp2_with fail
          go_meet
          exact ⟨by rw [HV.out];rfl,rfl⟩
        ·have HV:=Ya (show V=true from by rw [hV,decide_eq_true (show 1<=D by omega),decide_eq_true (show 2<=D by omega)];simp)
         clear hV;go_wp2_with fail
         refine Hr.out.mono ?_;rintro e4 w4 ⟨rfl,rfl⟩;go_wp2_with fail
         go_meet
         exact ⟨by rw [HV.out];rfl,rfl⟩
     ·have p2:0<N2:=by omega
      have HV:=Ya (show V=false from by rw [hV,decide_eq_false h5,decide_eq_false z2];simp);clear hV z2 h5;go_wp2_with fail
      go_meet
      exact ⟨by rw [HV.out];rfl,rfl⟩
   case rest =>
    obtain ⟨rfl,rfl⟩:=hcut;clear hV
    cases V with
    | false =>
     have Hf:=Ya (Hh4.out.trans (show _=false by simp));go_wp2_with fail
     go_ret
     exact ⟨Zk Hf.out.symm,HWc.out.b⟩
    | true =>
     cases Q with
     | false =>
      have Hf:=Ya (Hh4.out.trans (show _=false by simp));go_wp2_with fail
      go_ret
      exact ⟨Zk Hf.out.symm,HWc.out.b⟩
     | true =>
      by_cases hk:N1=K
      ·subst hk
       by_cases hn0:nm.toList=[]
       ·have hie:nm.toList.isEmpty=true:=by simp [hn0]
        cases M with
        | true =>
         have Hf:=Ya (Hh4.out.trans (show _=false by simp [hn0]));go_wp2_with fail
         go_ret
         exact ⟨Zk Hf.out.symm,HWc.out.b⟩
        | false =>
         have Hf:=Ya (Hh4.out.trans (show _=true by simp [hn0]));go_wp2_with fail
         go_ret
         exact ⟨Zk Hf.out.symm,HWc.out.b⟩
       ·have hie:nm.toList.isEmpty=false:=by simp [hn0]
        cases M with
        | false =>
         have Hf:=Ya (Hh4.out.trans (show _=false by simp [hn0]));go_wp2_with fail
         go_ret
         exact ⟨Zk Hf.out.symm,HWc.out.b⟩
        | true =>
         have Hf:=Ya (Hh4.out.trans (show _=B by simp [hn0]));go_wp2_with fail
         refine Hl.out.mono ?_;rintro e4 w4 ⟨rfl,rfl⟩;go_wp2_with fail
         go_ret
         exact ⟨Zk Hf.out.symm,HWc.out.b⟩
      ·have Hf:=Ya (Hh4.out.trans (show _=false by simp [hk]))
       have hne:((N1:Int)==(K:Int))=false:=by simp;omega
       clear hk;go_wp2_with fail
       go_ret
       exact ⟨Zk Hf.out.symm,HWc.out.b⟩
 ·have Hf:=Ya (show res=false from by rw [Hh.out,decide_eq_false hop];simp)
  have n1:(op==1)=false:=by simp;omega
  have n2:(op==2)=false:=by simp;omega
  have n3:(op==3)=false:=by simp;omega
  have n4:(op==4)=false:=by simp;omega
  have n5:(op==5)=false:=by simp;omega
  have n6:(op==6)=false:=by simp;omega
  have n7:(op==7)=false:=by simp;omega
  have n8:(op==8)=false:=by simp;omega
  have n9:(op==9)=false:=by simp;omega
  have n10:(op==10)=false:=by simp;omega
  have n11:(op==11)=false:=by simp;omega
  clear hop;go_wp2_with fail
  go_ret
  exact ⟨Zk Hf.out.symm,HW.out.b⟩
end
end Go.Proofs.YtfhiobkkdcdmiaaGreatDoor
