/- Parts. -/
import Derived.Test.YtfhiobkkdcdmiaaGreatDoorZAsmLfp
set_option linter.all false
open Nat renaming le_refl->Yb
open List renaming length_append->Yd,getD_eq_getElem?_getD->Ye,getElem?_eq_some_iff->Yg,getElem?_append_left->Ym,getElem?_append_right->Yo,mem_cons->Yz,mem_of_getElem?->Y1,getElem?_set_ne->Ybc
open Int renaming le_refl->Y7,mul_nonneg->Yat,ediv_nonneg->Yb5
namespace Go.Proofs.YtfhiobkkdcdmiaaGreatDoor
open Go.RowKit
namespace S
def toOf (xs:List Item)(F:List Int)(base:Int)(x:Item):Int:=if named x=true then addr xs F base (stands xs x.label).toNat else 0
def wordsAt (xs:List Item)(F:List Int)(base:Int)(i:Nat):List Int :=
 match xs[i]? with
 | none=>[]
 | some x=>wordsOf x (F.getD i 0) (addr xs F base i) (toOf xs F base x)
def outTo (xs:List Item)(F:List Int)(base:Int):Nat->List Int
 | 0=>[]
 | k+1=>outTo xs F base k++wordsAt xs F base k
def placeAt (xs:List Item)(F:List Int)(base:Int)(i:Nat):List (ByteArray×Int) :=
 match xs[i]? with
 | none=>[]
 | some x=>if x.kind=2 then [(x.label,addr xs F base i)] else []
def placesTo (xs:List Item)(F:List Int)(base:Int):Nat->List (ByteArray×Int)
 | 0=>[]
 | k+1=>placesTo xs F base k++placeAt xs F base k
end S
theorem Zcs {xs:List S.Item}(h:S.firstErr xs=0):∀x∈xs,1<=x.kind/\x.kind<=8:=by
 induction xs with
 | nil=>intro x hx;cases hx
 | cons y r ih =>
  intro x hx;rw[S.firstErr] at h;by_cases c:S.chkItem y=0
  .rw[if_neg (by simp[c])] at h
   rcases Yz.1 hx with rfl|hx
   .revert c;unfold S.chkItem;grind
   .exact ih h x hx
  .rw[if_pos c] at h
   exact absurd h c
theorem Zmo {x:S.Item}{form a t:Int}(hk:1<=x.kind/\x.kind<=8)(h3:x.kind=3->1<=form/\form<=3)(h4:x.kind=4->1<=form/\form<=2)(hw:0<=x.word) :
 ((S.wordsOf x form a t).length:Int)=if x.kind=2 then 0 else S.size x form:=by
 have hc:x.kind=1\/x.kind=2\/x.kind=3\/x.kind=4\/x.kind=5\/x.kind=6\/x.kind=7\/x.kind=8:=by omega
 rcases hc with h|h|h|h|h|h|h|h
 .simp[S.wordsOf,S.size,h]
 .simp[S.wordsOf,S.size,h]
 .have hf:form=1\/form=2\/form=3:=by have:=h3 h;omega
  rcases hf with rfl|rfl|rfl <;> simp[S.wordsOf,S.size,h]
 .have hf:form=1\/form=2:=by have:=h4 h;omega
  rcases hf with rfl|rfl <;> simp[S.wordsOf,S.size,h]
 .simp[S.wordsOf,S.size,h]
 .simp[S.wordsOf,S.size,h]
 .simp[S.wordsOf,S.size,h]
 .simp[S.wordsOf,S.size,h];omega
theorem Za5 {xs:List S.Item}{F:List Int}{base:Int}(hF:S.FormOk xs F)(hk:∀x∈xs,1<=x.kind/\x.kind<=8)(hw:∀x∈xs,0<=x.word/\x.word<=4294967295)(i:Nat) :
 ((S.wordsAt xs F base i).length:Int)=S.sizeAt xs F i:=by
 unfold S.wordsAt S.sizeAt
 cases hx:xs[i]? with
 | none=>simp
 | some x =>
  obtain⟨h3,h4,_⟩:=hF.2 i x hx;have hm:=Y1 hx;simp only;rw[Zmo (hk x hm) h3 h4 (hw x hm).1]
  split
  .rename_i c;simp[S.size,c]
  .rfl
theorem Zbk {xs:List S.Item}{F:List Int}{base:Int}(hF:S.FormOk xs F)(hk:∀x∈xs,1<=x.kind/\x.kind<=8)(hw:∀x∈xs,0<=x.word/\x.word<=4294967295) :
 ∀i:Nat,((S.outTo xs F base i).length:Int)=S.addr xs F base i-base
 | 0=>by simp[S.outTo,S.addr]
 | i+1=>by
  have h1:=Zbk (base:=base) hF hk hw i;have h2:=Za5 (base:=base) hF hk hw i;rw[S.outTo,Yd,S.addr];omega
theorem Zce (xs:List S.Item)(F:List Int)(base:Int):∀i:Nat,(S.placesTo xs F base i).length<=i
 | 0=>by simp[S.placesTo]
 | i+1=>by
  have h1:=Zce xs F base i;have h2:(S.placeAt xs F base i).length<=1:=by
   unfold S.placeAt
   split
   .simp
   .split <;> simp
  rw[S.placesTo,Yd];omega
theorem Zd6 {xs:List S.Item}{F:List Int}{base:Int}(hF:S.FormOk xs F)(hw:∀x∈xs,0<=x.word/\x.word<=4294967295){i n:Nat}(h:i<=n):S.addr xs F base i<=S.addr xs F base n:=by
 obtain⟨d,rfl⟩:∃d,n=i+d:=⟨n-i,by omega⟩
 exact Zgn hF hw i d
theorem Zh4 {xs:List S.Item}{base:Int}(h:S.CheckRes xs base 0):S.firstErr xs=0:=by
 rcases h with⟨_,h⟩|⟨_,_,h,h'⟩|⟨_,_,h,_⟩|⟨_,_,h,_⟩|⟨_,_,h,_⟩
 .omega
 .omega
 all_goals exact h
theorem Ztp {xs:List S.Item}{F:List Int}{base:Int}(hF:S.FormOk xs F)(hw:∀x∈xs,0<=x.word/\x.word<=4294967295)(hb:0<=base)(hm:S.addr xs F base xs.length<=67108864)(x:S.Item) :
 0<=S.toOf xs F base x/\S.toOf xs F base x<=67108864:=by
 unfold S.toOf
 split
 .rcases Zax xs x.label with⟨e,_⟩|⟨j,y,e,hj,_⟩
  .rw[e]
   have:=(Zdh (base:=base) hF hw 0)
   have h2:=Zd6 (base:=base) hF hw (Nat.zero_le xs.length);have e0:(-1:Int).toNat=0:=rfl;rw[e0];omega
  .have hlt:=(Yg.1 hj).1
   rw[e,Int.toNat_natCast];have h1:=(Zdh (base:=base) hF hw j).1;have h2:=Zd6 (base:=base) hF hw (Nat.le_of_lt hlt);omega
 .omega
theorem Zh5 {xs:List S.Item}{F:List Int}{base:Int}(hd:¬S.Dup xs):∀(n q:Nat)(s:ByteArray)(v:Int),(S.placesTo xs F base n)[q]?=some (s,v) ->
 ∃j:Nat,S.stands xs s=j/\v=S.addr xs F base j/\j<n
 | 0,q,s,v,h=>by simp[S.placesTo] at h
 | n+1,q,s,v,h=>by
  rw[S.placesTo] at h;by_cases hq:q<(S.placesTo xs F base n).length
  .rw[Ym hq] at h
   obtain⟨j,h1,h2,h3⟩:=Zh5 hd n q s v h;exact⟨j,h1,h2,by omega⟩
  .rw[Yo (by omega)] at h
   unfold S.placeAt at h
   cases hx:xs[n]? with
   | none=>simp[hx] at h
   | some x =>
    simp only[hx] at h
    split at h
    .rename_i hk
     have h0:q-(S.placesTo xs F base n).length=0:=by
      have:=(Yg.1 h).1;simp at this;omega
     rw[h0] at h;simp only[List.getElem?_cons_zero,Option.some.injEq,Prod.mk.injEq] at h;refine⟨n,?_,h.2.symm,by omega⟩;rw[<- h.1];by_cases e:S.stands xs x.label=n
     .exact e
     .exact absurd ⟨n,x,hx,hk,e⟩ hd
    .simp at h
theorem Zj9 {xs:List S.Item}{F:List Int}{base:Int}{j:Nat}{s:ByteArray}(hs:S.stands xs s=j):∀n:Nat,j<n->∃q:Nat,(S.placesTo xs F base n)[q]?=some (s,S.addr xs F base j)
 | 0,h=>by omega
 | n+1,h=>by
  rw[S.placesTo];by_cases hj:j<n
  .obtain⟨q,hq⟩:=Zj9 hs n hj
   refine⟨q,?_⟩;rw[Ym (Yg.1 hq).1];exact hq
  .have e:j=n:=by omega
   subst e;rcases Zax xs s with⟨h1,_⟩|⟨i,y,h1,h2,h3,h4,_⟩
   .omega
   .have:i=j:=by omega
    subst this;refine⟨(S.placesTo xs F base i).length,?_⟩;rw[Yo (by omega),Nat.sub_self];simp[S.placeAt,h2,h3,h4]
namespace S
inductive BE where
 | mk (op n:Int) (name:ByteArray) (kids:List BE)
inductive BS where
 | mk (op n:Int) (name:ByteArray) (exprs:List BE) (regs:List Int) (body els:List BS)
structure BR where
 name:ByteArray
 params:Int
 locals:Int
 behind:Bool
 body:List BS
namespace BE
def op:BE->Int | .mk o _ _ _=>o
def n:BE->Int | .mk _ n _ _=>n
def name:BE->ByteArray | .mk _ _ s _=>s
def kids:BE->List BE | .mk _ _ _ k=>k
end BE
namespace BS
def op:BS->Int | .mk o _ _ _ _ _ _=>o
def n:BS->Int | .mk _ n _ _ _ _ _=>n
def name:BS->ByteArray | .mk _ _ s _ _ _ _=>s
def exprs:BS->List BE | .mk _ _ _ e _ _ _=>e
def regs:BS->List Int | .mk _ _ _ _ r _ _=>r
def body:BS->List BS | .mk _ _ _ _ _ b _=>b
def els:BS->List BS | .mk _ _ _ _ _ _ e=>e
end BS
def visB (n:Int):Bool:=decide ((1<=n/\n<=10)\/n=26\/n=27\/n=29\/n=30)
def dotted (s:ByteArray):Bool:=s.data.toList.head?==some 46
def labB (s:ByteArray):Bool:=decide (s.size≠0) && !dotted s
def offB (n:Int):Bool:=decide (-32768<=n/\n<32768)
def numE (L:Int)(op n:Int):Bool :=
 if op=1 then decide (-2147483648<=n/\n<=4294967295) else if op=2 then decide (0<=n/\n<L) else if op=3 then visB n
 else if op=4 then decide (1<=n/\n<=14) else if op=5 then offB n else decide (n=0)
def kidsE (op:Int)(k:Nat):Nat:=if op=4\/op=7 then 2 else if op=5 then 1 else if op=6 then min k 4 else 0
def namedE (op:Int):Bool:=decide (op=6\/op=9)
def headE (L:Int)(op n:Int)(name:ByteArray)(k:Nat):Bool :=
 decide (1<=op/\op<=10) && numE L op n && decide (k=kidsE op k) && (namedE op==decide (name.size≠0)) && (!namedE op || labB name)
mutual
def formedE (L:Int):BE->Bool
 | .mk op n name kids=>headE L op n name kids.length && formedEs L kids
def formedEs (L:Int):List BE->Bool
 | []=>true
 | e::r=>formedE L e && formedEs L r
end
mutual
def needE:BE->Nat
 | .mk _ _ _ kids=>needEs kids 0
def needEs:List BE->Nat->Nat
 | [],_=>0
 | e::r,i=>max (i+max 1 (needE e)) (needEs r (i+1))
end
def risingB:List Int->Bool
 | []=>true
 | [a]=>visB a
 | a::b::r=>visB a && decide (a<b) && risingB (b::r)
def numS (L:Int)(op n:Int):Bool:=if op=1 then decide (0<=n/\n<L) else if op=2 then offB n else if op=9 then visB n else decide (n=0)
def exprsS (op:Int)(regs:Nat):Nat:=if op=2 then 2 else if op=5 then regs else if op=10 then 0 else 1
def namedS (op:Int):Bool:=decide (op=10)
def bodiesS (op:Int):Int:=if op=3 then 2 else if op=4 then 1 else 0
def shapedS (L:Int)(op n:Int)(name:ByteArray)(exprs:Nat)(regs:List Int)(body els:Nat):Bool :=
 decide (1<=op/\op<=11) && (decide (op=5) || decide (regs.length=0)) && risingB regs && (decide (1<=bodiesS op) || decide (body=0)) && (decide (2<=bodiesS op) || decide (els=0)) &&
  numS L op n && decide (exprs=exprsS op regs.length) && (namedS op==decide (name.size≠0)) && (!namedS op || labB name)
mutual
def chkS (L:Int):BS->Nat->Int
 | .mk op n name exprs regs body els,depth =>
  if !(shapedS L op n name exprs.length regs body.length els.length && formedEs L exprs) then 4
  else if 200<=depth\/14<needEs exprs 0 then 5
  else if chkSs L body (depth+1)≠0 then chkSs L body (depth+1) else chkSs L els (depth+1)
def chkSs (L:Int):List BS->Nat->Int
 | [],_=>0
 | s::r,depth=>if chkS L s depth≠0 then chkS L s depth else chkSs L r depth
end
def chkB (r:BR):Int :=
 if !labB r.name || decide (r.params<0) || decide (4<r.params) || decide (r.locals<r.params) || decide (200<r.locals) then 2 else chkSs r.locals r.body 0
def frameB (r:BR):Int:=if chkB r≠0 then 0 else r.locals+15
def bNo:ByteArray:=⟨#[]⟩
def bI (op d a b imm:Int):Item:=⟨1,⟨op,d,a,b,imm⟩,bNo,0⟩
def bL (s:ByteArray):Item:=⟨2,⟨0,0,0,0,0⟩,s,0⟩
def bJ (d:Int)(s:ByteArray):Item:=⟨4,⟨0,d,0,0,0⟩,s,0⟩
def bU (a:Int)(s:ByteArray):Item:=⟨3,⟨26,0,a,0,0⟩,s,0⟩
def bA (d:Int)(s:ByteArray):Item:=⟨5,⟨0,d,0,0,0⟩,s,0⟩
def bLab (n:Int):ByteArray:=⟨(46::itoa n).toArray⟩
def bLoad (fr d place:Int):Item:=bI 24 d 28 0 (place-fr)
def bStore (fr b place:Int):Item:=bI 25 0 28 b (place-fr)
def bMove (d a:Int):Item:=bI 15 d a 0 0
def bConst (d n:Int):List Item:=if -32768<=n/\n<32768 then [bI 15 d 0 0 n] else [bI 23 d 0 0 (n%4294967296/65536),bI 17 d d 0 (n%4294967296%65536)]
def bStores (fr L:Int):Nat->List Item
 | 0=>[]
 | k+1=>bStores fr L k++[bStore fr (11+k) (1+L+k)]
def bLoads (fr L:Int):Nat->List Item
 | 0=>[]
 | k+1=>bLoads fr L k++[bLoad fr (11+k) (1+L+k)]
def bArgs (at_:Nat):Nat->List Item
 | 0=>[]
 | k+1=>bArgs at_ k++[bMove (4+k) (11+at_+k)]
def bCall (fr L:Int)(name:ByteArray)(kids at_:Nat):List Item :=
 bStores fr L at_++bArgs at_ kids++[bJ 31 name]++bLoads fr L at_++[bMove (11+at_) 4]
def bOp (fr L:Int)(op n:Int)(name:ByteArray)(kids at_:Nat):List Item :=
 if op=1 then bConst (11+at_) n else if op=2 then [bLoad fr (11+at_) (1+n)] else if op=3 then [bMove (11+at_) n]
 else if op=4 then [bI n (11+at_) (11+at_) (12+at_) 0] else if op=5 then [bI 24 (11+at_) (11+at_) 0 n]
 else if op=6 then bCall fr L name kids at_
 else if op=7 then [bI 9 (11+at_) (11+at_) (12+at_) 0]++bConst (12+at_) 1++[bI 14 (11+at_) (11+at_) (12+at_) 0]
 else if op=8 then [bI 34 (11+at_) 0 0 0] else if op=9 then [bA (11+at_) name] else if op=10 then [bLoad fr (11+at_) 0] else []
mutual
def bExpr (fr L:Int):BE->Nat->List Item
 | .mk op n name kids,at_=>bExprs fr L kids at_++bOp fr L op n name kids.length at_
def bExprs (fr L:Int):List BE->Nat->List Item
 | [],_=>[]
 | e::r,at_=>bExpr fr L e at_++bExprs fr L r (at_+1)
end
def bTest (fr L:Int):List BE->List Item
 | []=>[]
 | e::_=>bExpr fr L e 0
def bPop (fr:Int):Item:=bI 15 28 28 0 (-fr)
def bBack (fr:Int)(behind:Bool):List Item :=
 [bPop fr,bI 24 31 28 0 0]++(if behind=true then [bI 24 25 31 0 0,bI 1 31 31 25 0,bI 33 0 31 0 1] else [bI 33 0 31 0 0])
def bRegs:List Int->Nat->List Item
 | [],_=>[]
 | n::r,i=>bMove n (11+i)::bRegs r (i+1)
mutual
def bStmt (fr L:Int)(behind:Bool):BS->Int->List Item×Int
 | .mk op n name exprs regs body els,l =>
  if op=4 then
   ([bL (bLab (l+1))]++bTest fr L exprs++[bU 11 (bLab (l+2))]++(bStmts fr L behind body (l+2)).1++[bJ 0 (bLab (l+1)),bL (bLab (l+2))],(bStmts fr L behind body (l+2)).2)
  else if op=3 then
   (bExprs fr L exprs 0++[bU 11 (bLab (l+1))]++(bStmts fr L behind body (l+2)).1++[bJ 0 (bLab (l+2)),bL (bLab (l+1))] ++
    (bStmts fr L behind els (bStmts fr L behind body (l+2)).2).1++[bL (bLab (l+2))],(bStmts fr L behind els (bStmts fr L behind body (l+2)).2).2)
  else
   (bExprs fr L exprs 0 ++
    (if op=1 then [bStore fr 11 (1+n)] else if op=2 then [bI 25 0 11 12 n] else if op=5 then bRegs regs 0++bBack fr behind else if op=7 then [bI 35 0 11 0 0] else if op=8 then [bI 36 0 11 0 0] else if op=9 then [bMove n 11] else if op=10 then [bPop fr,bJ 0 name] else if op=11 then [bPop fr,bI 33 0 11 0 0] else []),l)
def bStmts (fr L:Int)(behind:Bool):List BS->Int->List Item×Int
 | [],l=>([],l)
 | s::r,l=>((bStmt fr L behind s l).1++(bStmts fr L behind r (bStmt fr L behind s l).2).1,(bStmts fr L behind r (bStmt fr L behind s l).2).2)
end
def bParams:Nat->List Item
 | 0=>[]
 | k+1=>bParams k++[bI 25 0 28 (4+k) (1+k)]
def bHead (r:BR):List Item:=[bL r.name,bI 25 0 28 31 0]++bParams r.params.toNat++[bI 15 28 28 0 (frameB r)]
def bItems (r:BR):List Item:=bHead r++(bStmts (frameB r) r.locals r.behind r.body 0).1++bBack (frameB r) r.behind
end S
section
theorem Zxv {a b:Int}(a0:0<=a)(a1:a<=4294967295)(b0:0<=b)(b1:b<=4294967295) :
 (0<=bits .and .u32 a b/\bits .and .u32 a b<=4294967295)/\(0<=bits .or .u32 a b/\bits .or .u32 a b<=4294967295)/\(0<=bits .xor .u32 a b/\bits .xor .u32 a b<=4294967295):=by
 have ha:a.toNat<2^32:=by omega
 have hb:b.toNat<2^32:=by omega
 refine⟨?_,?_,?_⟩
 .rw[u32_and a0 a1 b0 b1]
  have:=Nat.and_lt_two_pow a.toNat hb;omega
 .rw[u32_or a0 a1 b0 b1]
  have:=Nat.or_lt_two_pow ha hb;omega
 .rw[u32_xor a0 a1 b0 b1]
  have:=Nat.xor_lt_two_pow ha hb;omega
theorem Zzp {a b:Int}(a0:0<=a)(a1:a<=4294967295)(b0:0<=b):0<=a/b/\a/b<=4294967295:=by
 refine⟨Yb5 a0 b0,?_⟩;have:=Int.ediv_le_self b a0;omega
theorem Z3f {a b:Int}(a0:0<=a)(a1:a<=4294967295)(b0:0<=b):0<=a%b/\a%b<=4294967295:=by
 by_cases h:b=0
 .subst h;simp;exact⟨a0,a1⟩
 .refine⟨Int.emod_nonneg a h,?_⟩
  have h1:=Int.emod_add_mul_ediv a b;have h2:0<=b*(a/b):=Yat b0 (Yb5 a0 b0);omega
theorem Z3g {a b:Int}(a0:0<=a)(a1:a<=4294967295)(b0:0<=b)(b1:b<=4294967295):0<=a*b/4294967296/\a*b/4294967296<=4294967295:=by
 have h1:0<=a*b:=Yat a0 b0;have h2:a*b<=4294967295*4294967295:=Int.mul_le_mul a1 b1 b0 (by omega);omega
theorem Ztq {op a b:Int}(a0:0<=a)(a1:a<=4294967295)(b0:0<=b)(b1:b<=4294967295):0<=S.alu op a b/\S.alu op a b<=4294967295:=by
 obtain⟨h7,h8,h9⟩:=Zxv a0 a1 b0 b1;have h5:=Zzp a0 a1 b0;have h6:=Z3f a0 a1 b0;have h4:=Z3g a0 a1 b0 b1;have hpw:(0:Int)<=2^(b%32).toNat:=Int.le_of_lt (Int.pow_pos (by omega));have h11:=Zzp a0 a1 hpw;unfold S.alu;by_cases c1:op=1
 .rw[if_pos c1];exact Zav _
 rw[if_neg c1];by_cases c2:op=2
 .rw[if_pos c2];exact Zav _
 rw[if_neg c2];by_cases c3:op=3
 .rw[if_pos c3];exact Zav _
 rw[if_neg c3];by_cases c4:op=4
 .rw[if_pos c4];exact h4
 rw[if_neg c4];by_cases c5:op=5
 .rw[if_pos c5];exact h5
 rw[if_neg c5];by_cases c6:op=6
 .rw[if_pos c6];exact h6
 rw[if_neg c6];by_cases c7:op=7
 .rw[if_pos c7];exact h7
 rw[if_neg c7];by_cases c8:op=8
 .rw[if_pos c8];exact h8
 rw[if_neg c8];by_cases c9:op=9
 .rw[if_pos c9];exact h9
 rw[if_neg c9];by_cases c10:op=10
 .rw[if_pos c10];exact Zav _
 rw[if_neg c10];by_cases c11:op=11
 .rw[if_pos c11];exact h11
 rw[if_neg c11];by_cases c12:op=12
 .rw[if_pos c12];exact Zav _
 rw[if_neg c12];by_cases c13:op=13
 .rw[if_pos c13];unfold S.truth;split <;> decide
 rw[if_neg c13];unfold S.truth;split <;> decide
theorem Zju {m:S.Mach}(h:m.Ok){d v:Int}(hd:0<=d)(hv:0<=v/\v<=4294967295):(m.put d v).Ok:=by
 unfold S.Mach.put;by_cases h0:d=0
 .rw[if_pos h0];exact h
 .rw[if_neg h0]
  have hg:∀i,(m.reg.set d.toNat v).getD i 0=if d.toNat=i/\i<m.reg.length then v else m.reg.getD i 0:=λ i=>by
   by_cases e:d.toNat=i
   .subst e
    by_cases hl:d.toNat<m.reg.length <;> simp[hl]
   .simp[e]
  refine⟨by simpa using h.regs,λ i=>?_,?_,h.mem,h.memw,h.place0,h.place1,h.inp,h.outp,h.code0,h.code1⟩
  .show 0<=(m.reg.set d.toNat v).getD i 0/\(m.reg.set d.toNat v).getD i 0<=4294967295
   rw[hg];split
   .exact hv
   .exact h.word i
  .show(m.reg.set d.toNat v).getD 0 0=0
   rw[hg,if_neg (by omega)];exact h.zero
theorem placed {m:S.Mach}(h:m.Ok){p s:Int}(hp:0<=p/\p<=4294967295):({ m with place:=p,steps:=s }:S.Mach).Ok :=
 ⟨h.regs,h.word,h.zero,h.mem,h.memw,hp.1,hp.2,h.inp,h.outp,h.code0,h.code1⟩
theorem Z0z {m:S.Mach}(h:m.Ok)(i:Int):0<=m.rd i/\m.rd i<=4294967295:=h.word _
theorem Zo5 {m:S.Mach}(h:m.Ok){x:S.Inst}(hd:0<=x.d):(m.act x).1.Ok/\0<=(m.act x).2.1/\(m.act x).2.1<=4294967295:=by
 have hn:=Zav (m.place+1);have ha:=Z0z h x.a;have hb:=Z0z h x.b;have hi:=Zav x.imm;unfold S.Mach.act;simp only;by_cases h1:x.op<=14
 .rw[if_pos h1]
  by_cases h2:m.rd x.b=0/\(x.op=5\/x.op=6)
  .rw[if_pos h2];exact⟨h,Y7 (0:Int),show(0:Int)<=4294967295 by decide⟩
  .rw[if_neg h2];exact⟨Zju h hd (Ztq ha.1 ha.2 hb.1 hb.2),hn⟩
 rw[if_neg h1];by_cases h2:x.op<=22
 .rw[if_pos h2];exact⟨Zju h hd (Ztq ha.1 ha.2 hi.1 hi.2),hn⟩
 rw[if_neg h2];by_cases h3:x.op=23
 .rw[if_pos h3];exact⟨Zju h hd (Zav _),hn⟩
 rw[if_neg h3];by_cases h4:x.op=24
 .rw[if_pos h4]
  by_cases h5:S.u32m (m.rd x.a+S.u32m x.imm)<m.mem.length
  .rw[if_pos h5];exact⟨Zju h hd (h.memw _),hn⟩
  .rw[if_neg h5];exact⟨h,Y7 (0:Int),show(0:Int)<=4294967295 by decide⟩
 rw[if_neg h4];by_cases h5:x.op=25
 .rw[if_pos h5]
  by_cases h6:S.u32m (m.rd x.a+S.u32m x.imm)<m.mem.length
  .rw[if_pos h6]
   refine⟨⟨h.regs,h.word,h.zero,by simpa using h.mem,λ i=>?_,h.place0,h.place1,h.inp,h.outp,h.code0,h.code1⟩,hn⟩
   show 0<=(m.mem.set (S.u32m (m.rd x.a+S.u32m x.imm)).toNat (m.rd x.b)).getD i 0/\(m.mem.set (S.u32m (m.rd x.a+S.u32m x.imm)).toNat (m.rd x.b)).getD i 0<=4294967295
   generalize (S.u32m (m.rd x.a+S.u32m x.imm)).toNat=q;by_cases e:q=i
   .subst e
    by_cases hl:q<m.mem.length
    .simp[hl];exact hb
    .simp[hl]
   .have:=h.memw i
    simp only[Ye,Ybc e] at this⊢;exact this
  .rw[if_neg h6];exact⟨h,Y7 (0:Int),show(0:Int)<=4294967295 by decide⟩
 rw[if_neg h5];by_cases h6:x.op<=31
 .rw[if_pos h6]
  refine⟨h,?_⟩
  show 0<=(if S.goes x.op (m.rd x.a) (m.rd x.b)=true then _ else _)/\(if S.goes x.op (m.rd x.a) (m.rd x.b)=true then _ else _)<=_
  split
  .exact Zav _
  .exact hn
 rw[if_neg h6];by_cases h7:x.op=32
 .rw[if_pos h7];exact⟨Zju h hd hn,Zav _⟩
 rw[if_neg h7];by_cases h8:x.op=33
 .rw[if_pos h8];exact⟨Zju h hd hn,Zav _⟩
 rw[if_neg h8];by_cases h9:x.op=34
 .rw[if_pos h9]
  cases hin:m.input with
  | nil=>exact⟨Zju h hd (show(0:Int)<=4294967295/\(4294967295:Int)<=4294967295 by decide),hn⟩
  | cons y r =>
   have hy:=h.inp y (by rw[hin];simp);have hk:({ m with input:=r }:S.Mach).Ok:=⟨h.regs,h.word,h.zero,h.mem,h.memw,h.place0,h.place1,λ z hz=>h.inp z (by rw[hin];exact List.mem_cons_of_mem _ hz),h.outp,h.code0,h.code1⟩
   exact⟨Zju hk hd (show 0<=y/\y<=4294967295 by omega),hn⟩
 rw[if_neg h9];by_cases h10:x.op=35
 .rw[if_pos h10]
  refine⟨⟨h.regs,h.word,h.zero,h.mem,h.memw,h.place0,h.place1,h.inp,λ z hz=>?_,h.code0,h.code1⟩,hn⟩;rcases List.mem_append.1 hz with hz|hz
  .exact h.outp z hz
  .rw[List.mem_singleton] at hz;omega
 rw[if_neg h10];exact⟨⟨h.regs,h.word,h.zero,h.mem,h.memw,h.place0,h.place1,h.inp,h.outp,ha.1,ha.2⟩,h.place0,h.place1⟩
theorem Za6 (m:S.Mach)(a:Nat):∀b:Nat,m.steps_ (a+b)=(m.steps_ a).steps_ b
 | 0=>rfl
 | b+1=>by
  show(m.steps_ (a+b)).step=((m.steps_ a).steps_ b).step
  rw[Za6 m a b]
theorem Zc3 (m:S.Mach):m.steps_ 1=m.step:=rfl
theorem Zh6 {m:S.Mach}(h:m.state≠0):∀n:Nat,m.steps_ n=m
 | 0=>rfl
 | n+1=>by
  show(m.steps_ n).step=m
  rw[Zh6 h n];unfold S.Mach.step;rw[if_pos h]
namespace S
structure Img where
 xs:List Item
 F:List Int
 size:Int
 i0:Nat
 i1:Nat
 lo:Int
 hi:Int
namespace Img
def adr (I:Img)(i:Nat):Int:=addr I.xs I.F 0 i
def lab (I:Img)(s:ByteArray):Int:=I.adr (stands I.xs s).toNat
structure Ok (I:Img):Prop where
 res:FormsRes I.xs 0 0 I.F
 words:∀x∈I.xs,0<=x.word/\x.word<=4294967295
 i01:I.i0<=I.i1
 i1l:I.i1<=I.xs.length
 size:I.adr I.xs.length<I.size
 size2:I.size<=335544320
 lo0:0<=I.lo
 lohi:I.lo<=I.hi
 hisz:I.hi<=I.size
 apart:I.hi<=I.adr I.i0\/I.adr I.i1<=I.lo
def code (I:Img)(a:Int):Prop:=I.adr I.i0<=a/\a<I.adr I.i1
def stk (I:Img)(a:Int):Prop:=I.lo<=a/\a<I.hi
def In (I:Img)(mem:List Int):Prop:=∀i,I.i0<=i->i<I.i1->∀j w,(wordsAt I.xs I.F 0 i)[j]?=some w->mem.getD ((I.adr i).toNat+j) 0=w
end Img
end S
section
variable {I:S.Img}(hI:I.Ok)
include hI
theorem Za0:S.FormOk I.xs I.F:=by
 rcases hI.res with⟨h,_⟩|⟨h,_⟩|⟨_,_,h,_⟩
 .exact absurd rfl h
 .omega
 .exact h.1
theorem Zgp:S.Stable I.xs 0 I.F:=by
 rcases hI.res with⟨h,_⟩|⟨h,_⟩|⟨_,_,h,h2,_⟩
 .exact absurd rfl h
 .omega
 .exact h2
theorem Zmp:S.CheckRes I.xs 0 0:=by
 rcases hI.res with⟨h,_⟩|⟨h,_⟩|⟨h,_⟩
 .exact absurd rfl h
 .omega
 .exact h
theorem Zmq:I.adr I.xs.length<=67108864:=by
 rcases hI.res with⟨h,_⟩|⟨h,_⟩|⟨_,_,_,_,h⟩
 .exact absurd rfl h
 .omega
 .exact h
theorem Ztr:¬S.Dup I.xs:=by
 rcases Zmp hI with⟨_,h⟩|⟨_,_,h,h2⟩|⟨_,_,_,_,h⟩|⟨_,_,_,_,_,h⟩|⟨_,_,_,h,_⟩
 .omega
 .exact absurd h2.symm h
 .omega
 .omega
 .exact h
theorem Zcf:S.firstErr I.xs=0:=by
 rcases Zmp hI with⟨_,h⟩|⟨_,_,h,h2⟩|⟨_,_,_,_,h⟩|⟨_,_,_,_,_,h⟩|⟨_,_,h,_,_⟩
 .omega
 .exact absurd h2.symm h
 .omega
 .omega
 .exact h
theorem Zdw {i j:Nat}(h:i<=j):I.adr i<=I.adr j:=Zd6 (Za0 hI) hI.words h
theorem Zo6 (i:Nat):0<=I.adr i:=(Zdh (Za0 hI) hI.words i).1
theorem Zk5 {i:Nat}(h:i<=I.xs.length):I.adr i<=67108864:=Int.le_trans (Zdw hI h) (Zmq hI)
theorem Zh7 {i:Nat}{x:S.Item}(hx:I.xs[i]?=some x)(hk:x.kind=2):S.stands I.xs x.label=i:=by
 by_cases h:S.stands I.xs x.label=i
 .exact h
 .exact absurd ⟨i,x,hx,hk,h⟩ (Ztr hI)
theorem Z00 {x:S.Item}{i:Nat}(hx:I.xs[i]?=some x):S.chkItem x=0:=by
 have h:=Zcf hI;have hm:=Y1 hx;generalize I.xs=l at h hm;clear hx
 induction l with
 | nil=>cases hm
 | cons y r ih =>
  rw[S.firstErr] at h;by_cases c:S.chkItem y=0
  .rw[if_neg (by simp[c])] at h
   rcases Yz.1 hm with rfl|hm
   .exact c
   .exact ih h hm
  .rw[if_pos c] at h;exact absurd h c
theorem Z8 {i:Nat}{x:S.Item}(hx:I.xs[i]?=some x):I.adr (i+1)=I.adr i+S.size x (I.F.getD i 0):=by
 show S.addr I.xs I.F 0 i+S.sizeAt I.xs I.F i=_
 unfold S.sizeAt;rw[hx];rfl
end
theorem Zts {m:S.Mach}{x:S.Inst}(hr:m.state=0)(hp:m.place<m.mem.length)(hw:m.mem.getD m.place.toNat 0=S.wordOf x)(hg:S.good x=true)(ht:(m.act x).2.2=0) :
 m.step={ (m.act x).1 with place:=(m.act x).2.1,steps:=m.steps+1 }:=by
 have e:S.wordOf x=S.enc x:=by unfold S.wordOf;rw[if_pos hg]
 obtain⟨h1,h2⟩:=Zte hg;unfold S.Mach.step;rw[if_neg (by simp[hr]),if_neg (by omega),hw,e,h1,h2,if_neg (by simp),if_neg (by simp[ht])]
end
section
namespace S
structure Vw where
 reg:Int->Int
 mem:Int->Int
 inp:List Int
 out:List Int
namespace Vw
def set (V:Vw)(d v:Int):Vw:={ V with reg:=λ j=>if j=d then v else V.reg j }
def sto (V:Vw)(a v:Int):Vw:={ V with mem:=λ b=>if b=a then v else V.mem b }
end Vw
def inByte:List Int->Int
 | []=>4294967295
 | x::_=>x
def Mach.mv (m:Mach)(a:Int):Int:=m.mem.getD a.toNat 0
structure On (I:Img)(m:Mach)(V:Vw)(a:Int):Prop where
 ok:m.Ok
 run:m.state=0
 len:(m.mem.length:Int)=I.size
 code:I.In m.mem
 place:m.place=a
 reg:∀j,0<=j->j<=31->j≠25->m.rd j=V.reg j
 mem:∀b,0<=b->b<I.size->m.mv b=V.mem b
 inp:m.input=V.inp
 out:m.out=V.out
structure Off (I:Img)(m:Mach)(V:Vw)(code:Int):Prop where
 ok:m.Ok
 end_:m.state=1
 codeIs:m.code=code
 len:(m.mem.length:Int)=I.size
 code:I.In m.mem
 place:I.code m.place
 reg:∀j,0<=j->j<=31->j≠25->m.rd j=V.reg j
 mem:∀b,0<=b->b<I.size->m.mv b=V.mem b
 inp:m.input=V.inp
 out:m.out=V.out
def Go (I:Img)(V:Vw)(a:Int)(n:Nat)(V':Vw)(a':Int):Prop:=∀m,On I m V a->∃k,k<=n/\On I (m.steps_ k) V' a'
def GoH (I:Img)(V:Vw)(a:Int)(n:Nat)(V':Vw)(code:Int):Prop:=∀m,On I m V a->∃k,k<=n/\Off I (m.steps_ k) V' code
end S
theorem Zdi (I:S.Img)(V:S.Vw)(a:Int):S.Go I V a 0 V a:=λ m h=>⟨0,Yb _,h⟩
theorem S.Go.trans {I:S.Img}{V V' V2:S.Vw}{a b c:Int}{n k:Nat}(h:S.Go I V a n V' b)(h2:S.Go I V' b k V2 c):S.Go I V a (n+k) V2 c:=λ m hm=>by
 obtain⟨i,hi,h3⟩:=h m hm;obtain⟨j,hj,h4⟩:=h2 _ h3;exact⟨i+j,by omega,by rw[Za6];exact h4⟩
theorem S.Go.halt {I:S.Img}{V V' V2:S.Vw}{a b c:Int}{n k:Nat}(h:S.Go I V a n V' b)(h2:S.GoH I V' b k V2 c):S.GoH I V a (n+k) V2 c:=λ m hm=>by
 obtain⟨i,hi,h3⟩:=h m hm;obtain⟨j,hj,h4⟩:=h2 _ h3;exact⟨i+j,by omega,by rw[Za6];exact h4⟩
theorem S.Go.more {I:S.Img}{V V':S.Vw}{a b:Int}{n k:Nat}(h:S.Go I V a n V' b)(hk:n<=k):S.Go I V a k V' b:=λ m hm=>by
 obtain⟨i,hi,h3⟩:=h m hm;exact⟨i,by omega,h3⟩
theorem S.GoH.more {I:S.Img}{V V':S.Vw}{a b:Int}{n k:Nat}(h:S.GoH I V a n V' b)(hk:n<=k):S.GoH I V a k V' b:=λ m hm=>by
 obtain⟨i,hi,h3⟩:=h m hm;exact⟨i,by omega,h3⟩
theorem S.On.ext {I:S.Img}{m:S.Mach}{V V':S.Vw}{a:Int}(h:S.On I m V a)(hr:∀j,0<=j->j<=31->j≠25->V.reg j=V'.reg j)(hm:∀b,0<=b->b<I.size->V.mem b=V'.mem b)(hi:V.inp=V'.inp)(ho:V.out=V'.out):S.On I m V' a :=
 ⟨h.ok,h.run,h.len,h.code,h.place,λ j h0 h1 h2=>(h.reg j h0 h1 h2).trans (hr j h0 h1 h2),λ b h0 h1=>(h.mem b h0 h1).trans (hm b h0 h1),h.inp.trans hi,h.out.trans ho⟩
theorem S.Go.ext {I:S.Img}{V V' V2:S.Vw}{a b:Int}{n:Nat}(h:S.Go I V a n V' b)(hr:∀j,0<=j->j<=31->j≠25->V'.reg j=V2.reg j)(hm:∀b,0<=b->b<I.size->V'.mem b=V2.mem b)(hi:V'.inp=V2.inp)(ho:V'.out=V2.out):S.Go I V a n V2 b:=λ m h0=>by
 obtain⟨k,hk,h1⟩:=h m h0;exact⟨k,hk,h1.ext hr hm hi ho⟩
theorem S.On.rbd {I:S.Img}{m:S.Mach}{V:S.Vw}{a:Int}(h:S.On I m V a){j:Int}(h0:0<=j)(h1:j<=31)(h2:j≠25):0<=V.reg j/\V.reg j<=4294967295:=by
 rw[<- h.reg j h0 h1 h2];exact h.ok.word _
theorem S.On.zero {I:S.Img}{m:S.Mach}{V:S.Vw}{a:Int}(h:S.On I m V a):V.reg 0=0:=by
 rw[<- h.reg 0 (by decide) (by decide) (by decide)];exact h.ok.zero
theorem Zxw {I:S.Img}{V V':S.Vw}{a b:Int}{n:Nat}(h:∀m,S.On I m V a->S.Go I V a n V' b):S.Go I V a n V' b:=λ m hm=>h m hm m hm
section
variable {I:S.Img}(hI:I.Ok)
include hI
theorem Z1 {m:S.Mach}{V:S.Vw}{a:Int}(h:S.On I m V a){i j:Nat}(h0:I.i0<=i)(h1:i<I.i1){y:S.Inst}(hj:(S.wordsAt I.xs I.F 0 i)[j]?=some (S.wordOf y))(ha:a=I.adr i+j)(hg:S.good y=true)(ht:(m.act y).2.2=0) :
 m.step={ (m.act y).1 with place:=(m.act y).2.1,steps:=m.steps+1 }/\S.u32m (m.place+1)=I.adr i+j+1:=by
 have hlt:=(Yg.1 hj).1;have hl:=Za5 (base:=0) (Za0 hI) (Zcs (Zcf hI)) hI.words i;have hn:I.adr (i+1)=I.adr i+S.sizeAt I.xs I.F i:=rfl;have h2:=Zk5 hI (i:=i+1) (by have:=hI.i1l;omega);have h3:=Zdw hI (i:=i+1) (j:=I.xs.length) (by have:=hI.i1l;omega);have h4:=hI.size;have h5:=Zo6 hI i;have hp:=h.place;have hlen:=h.len;refine⟨Zts h.run (by omega) ?_ hg ht,?_⟩
 .have:=h.code i h0 h1 j _ hj
  rw[<- this,hp,ha]
  congr 1
  omega
 .unfold S.u32m
  omega
theorem Zh8 {m:S.Mach}{V:S.Vw}{a:Int}(h:S.On I m V a){y:S.Inst}{d v p:Int}(hd:0<d)(hd2:d<=31)(hs:m.step={ (m.act y).1 with place:=(m.act y).2.1,steps:=m.steps+1 })
 (hy:0<=y.d) (ha:m.act y=(m.put d v,p,0)):S.On I m.step (V.set d v) p:=by
 have hk:=Zo5 h.ok (x:=y) hy;rw[hs,ha];rw[ha] at hk;have e:m.put d v={ m with reg:=m.reg.set d.toNat v }:=by unfold S.Mach.put;rw[if_neg (by omega)]
 refine⟨placed hk.1 hk.2,by rw[e];exact h.run,by rw[e];exact h.len,by rw[e];exact h.code,rfl,λ j h0 h1 h2=>?_,by rw[e];exact h.mem,by rw[e];exact h.inp,by rw[e];exact h.out⟩;rw[e]
 show(m.reg.set d.toNat v).getD j.toNat 0=if j=d then v else V.reg j
 have hr:=h.ok.regs;by_cases c:j=d
 .subst c
  rw[if_pos rfl];have:j.toNat<m.reg.length:=by omega
  simp[this]
 .rw[if_neg c,<- h.reg j h0 h1 h2]
  have:¬d.toNat=j.toNat:=by omega
  show _=m.reg.getD j.toNat 0
  simp[this]
theorem Zd7 {m:S.Mach}{V:S.Vw}{a:Int}(h:S.On I m V a){y:S.Inst}{p:Int}(hs:m.step={ (m.act y).1 with place:=(m.act y).2.1,steps:=m.steps+1 })
 (hy:0<=y.d) (ha:m.act y=(m,p,0)):S.On I m.step V p:=by
 have hk:=Zo5 h.ok (x:=y) hy;rw[hs,ha];rw[ha] at hk;exact⟨placed hk.1 hk.2,h.run,h.len,h.code,rfl,h.reg,h.mem,h.inp,h.out⟩
section
variable {i:Nat}(h0:I.i0<=i)(h1:i<I.i1)
include h0 h1
theorem Zaa {y:S.Inst}{s:ByteArray}{w:Int}(hx:I.xs[i]?=some ⟨1,y,s,w⟩):S.wordsAt I.xs I.F 0 i=[S.wordOf y]/\S.good y=true/\I.adr (i+1)=I.adr i+1:=by
 have hc:=Z00 hI hx;refine⟨?_,?_,?_⟩
 .unfold S.wordsAt
  rw[hx];rfl
 .by_cases g:S.good y=true
  .exact g
  .exfalso
   simp[S.chkItem,S.chk,g] at hc
 .rw[Z8 hI hx]
  rfl
theorem Zql {V V':S.Vw}{y:S.Inst}{s:ByteArray}{w:Int}(hx:I.xs[i]?=some ⟨1,y,s,w⟩){d v:Int}(hd:0<d)(hd2:d<=31)(hy:0<=y.d)
 (ha:∀m,S.On I m V (I.adr i)->m.act y=(m.put d v,S.u32m (m.place+1),0)):S.Go I V (I.adr i) 1 (V.set d v) (I.adr (i+1)):=λ m hm=>by
 obtain⟨hw,hg,hn⟩:=Zaa hI h0 h1 hx;have ha':=ha m hm;obtain⟨hs,hp⟩:=Z1 hI hm h0 h1 (j:=0) (y:=y) (by rw[hw];rfl) (by simp) hg (by rw[ha']);refine⟨1,Yb _,?_⟩;have:=Zh8 hI hm hd hd2 hs hy ha';rw[hp] at this;rw[Zc3,hn]
 simpa using this
theorem Ztt {V:S.Vw}{op d a b:Int}{s:ByteArray}{w:Int}(hx:I.xs[i]?=some ⟨1,⟨op,d,a,b,0⟩,s,w⟩)(ho:op<=14)(hd:0<d)(hd2:d<=31)
 (ha:0<=a/\a<=31/\a≠25) (hb:0<=b/\b<=31/\b≠25) (hz:V.reg b=0->op≠5/\op≠6) :
 S.Go I V (I.adr i) 1 (V.set d (S.alu op (V.reg a) (V.reg b))) (I.adr (i+1)):=by
 refine Zql (V':=V) hI h0 h1 hx hd hd2 (by show 0<=d;omega) λ m hm=>?_
 have e1:=hm.reg a ha.1 ha.2.1 ha.2.2;have e2:=hm.reg b hb.1 hb.2.1 hb.2.2;unfold S.Mach.act;simp only[e1,e2,if_pos ho];rw[if_neg (λ q=>by have:=hz q.1;omega)]
theorem Zzq {V:S.Vw}{op d a n:Int}{s:ByteArray}{w:Int}(hx:I.xs[i]?=some ⟨1,⟨op,d,a,0,n⟩,s,w⟩)(ho:15<=op/\op<=22)(hd:0<d)(hd2:d<=31)(ha:0<=a/\a<=31/\a≠25) :
 S.Go I V (I.adr i) 1 (V.set d (S.alu (S.like op) (V.reg a) (S.u32m n))) (I.adr (i+1)):=by
 refine Zql (V':=V) hI h0 h1 hx hd hd2 (by show 0<=d;omega) λ m hm=>?_
 have e1:=hm.reg a ha.1 ha.2.1 ha.2.2;unfold S.Mach.act;simp only[e1];rw[if_neg (by omega),if_pos ho.2]
theorem Zd8 {V:S.Vw}{d a n:Int}{s:ByteArray}{w:Int}(hx:I.xs[i]?=some ⟨1,⟨15,d,a,0,n⟩,s,w⟩)(hd:0<d)(hd2:d<=31)(ha:0<=a/\a<=31/\a≠25) :
 S.Go I V (I.adr i) 1 (V.set d (S.u32m (V.reg a+n))) (I.adr (i+1)):=by
 have h:=Zzq (V:=V) hI h0 h1 hx (by decide) hd hd2 ha;have e:S.alu (S.like 15) (V.reg a) (S.u32m n)=S.u32m (V.reg a+n):=by
  show S.u32m (V.reg a+S.u32m n)=_
  unfold S.u32m;omega
 rw[e] at h;exact h
theorem Z01 {V:S.Vw}{d a:Int}{s:ByteArray}{w:Int}(hx:I.xs[i]?=some ⟨1,⟨15,d,a,0,0⟩,s,w⟩)(hd:0<d)(hd2:d<=31)(ha:0<=a/\a<=31/\a≠25) :
 S.Go I V (I.adr i) 1 (V.set d (V.reg a)) (I.adr (i+1)):=Zxw λ m hm=>by
 have hb:=hm.rbd ha.1 ha.2.1 ha.2.2;have h:=Zd8 (V:=V) hI h0 h1 hx hd hd2 ha;have e:S.u32m (V.reg a+0)=V.reg a:=by unfold S.u32m;omega
 rw[e] at h;exact h
theorem Z3h {V:S.Vw}{d n:Int}{s:ByteArray}{w:Int}(hx:I.xs[i]?=some ⟨1,⟨23,d,0,0,n⟩,s,w⟩)(hd:0<d)(hd2:d<=31)(hn:0<=n/\n<=65535) :
 S.Go I V (I.adr i) 1 (V.set d (n*65536)) (I.adr (i+1)):=by
 refine Zql (V':=V) hI h0 h1 hx hd hd2 (by show 0<=d;omega) λ m hm=>?_
 have e:S.u32m (S.u32m n*65536)=n*65536:=by unfold S.u32m;omega
 unfold S.Mach.act;simp[e]
theorem Z02 {V:S.Vw}{d a n p:Int}{s:ByteArray}{w:Int}(hx:I.xs[i]?=some ⟨1,⟨24,d,a,0,n⟩,s,w⟩)(hd:0<d)(hd2:d<=31)(ha:0<=a/\a<=31/\a≠25)
 (hp:p=S.u32m (V.reg a+n)) (hp2:p<I.size):S.Go I V (I.adr i) 1 (V.set d (V.mem p)) (I.adr (i+1)):=by
 have hp0:0<=p:=by rw[hp];exact(Zav _).1
 refine Zql (V':=V) hI h0 h1 hx hd hd2 (by show 0<=d;omega) λ m hm=>?_
 have e1:=hm.reg a ha.1 ha.2.1 ha.2.2;have e2:S.u32m (V.reg a+S.u32m n)=p:=by rw[hp];unfold S.u32m;omega
 have hl:=hm.len;have hv:=hm.mem p hp0 hp2;unfold S.Mach.mv at hv;unfold S.Mach.act;simp only[e1,e2];rw[if_neg (by decide),if_neg (by decide),if_neg (by decide),if_pos trivial,if_pos (by omega),hv]
theorem Ztu {V:S.Vw}{a b n p:Int}{s:ByteArray}{w:Int}(hx:I.xs[i]?=some ⟨1,⟨25,0,a,b,n⟩,s,w⟩)(ha:0<=a/\a<=31/\a≠25)(hb:0<=b/\b<=31/\b≠25)
 (hp:p=S.u32m (V.reg a+n)) (hp2:p<I.size) (hc:¬I.code p):S.Go I V (I.adr i) 1 (V.sto p (V.reg b)) (I.adr (i+1)):=λ m hm=>by
 have hp0:0<=p:=by rw[hp];exact(Zav _).1
 obtain⟨hw,hg,hn⟩:=Zaa hI h0 h1 hx;have e1:=hm.reg a ha.1 ha.2.1 ha.2.2;have e2:=hm.reg b hb.1 hb.2.1 hb.2.2;have e3:S.u32m (V.reg a+S.u32m n)=p:=by rw[hp];unfold S.u32m;omega
 have hl:=hm.len;have ha':m.act ⟨25,0,a,b,n⟩=({ m with mem:=m.mem.set p.toNat (V.reg b) },S.u32m (m.place+1),0):=by
  unfold S.Mach.act;simp only[e1,e2,e3];rw[if_neg (by decide),if_neg (by decide),if_neg (by decide),if_neg (by decide),if_pos trivial,if_pos (by omega)]
 obtain⟨hs,hp1⟩:=Z1 hI hm h0 h1 (j:=0) (y:=⟨25,0,a,b,n⟩) (by rw[hw];rfl) (by simp) hg (by rw[ha']);have hk:=Zo5 hm.ok (x:=⟨25,0,a,b,n⟩) (Y7 _);rw[ha'] at hk;refine⟨1,Yb _,?_⟩;rw[Zc3,hs,ha',hn];refine⟨placed hk.1 hk.2,hm.run,by simpa using hm.len,λ k k0 k1 j v hv=>?_,by show S.u32m (m.place+1)=_;rw[hp1];simp,hm.reg,λ q q0 q1=>?_,hm.inp,hm.out⟩
 .have hold:=hm.code k k0 k1 j v hv
  have hlt:=(Yg.1 hv).1;have hlen:=Za5 (base:=0) (Za0 hI) (Zcs (Zcf hI)) hI.words k;have hnx:I.adr (k+1)=I.adr k+S.sizeAt I.xs I.F k:=rfl;have l1:=Zdw hI (i:=I.i0) (j:=k) k0;have l2:=Zdw hI (i:=k+1) (j:=I.i1) k1;have l3:=Zo6 hI k;have hne:¬p.toNat=(I.adr k).toNat+j:=by
   intro e;exact hc ⟨by omega,by omega⟩
  show(m.mem.set p.toNat (V.reg b)).getD _ 0=v
  rw[<- hold];simp only[Ye,Ybc hne]
 .show(m.mem.set p.toNat (V.reg b)).getD q.toNat 0=if q=p then V.reg b else V.mem q
  by_cases c:q=p
  .subst c
   rw[if_pos rfl];have:q.toNat<m.mem.length:=by omega
   simp[this]
  .rw[if_neg c,<- hm.mem q q0 q1]
   have:¬p.toNat=q.toNat:=by omega
   show _=m.mem.getD q.toNat 0
   simp only[Ye,Ybc this]
theorem Z5m {V:S.Vw}{d:Int}{s:ByteArray}{w:Int}(hx:I.xs[i]?=some ⟨1,⟨34,d,0,0,0⟩,s,w⟩)(hd:0<d)(hd2:d<=31) :
 S.Go I V (I.adr i) 1 (({ V with inp:=V.inp.tail }:S.Vw).set d (S.inByte V.inp)) (I.adr (i+1)):=λ m hm=>by
 obtain⟨hw,hg,hn⟩:=Zaa hI h0 h1 hx;have hin:=hm.inp;obtain⟨v,hv⟩:=Yx (S.inByte V.inp);have ha':m.act ⟨34,d,0,0,0⟩=(({ m with input:=V.inp.tail }:S.Mach).put d v,S.u32m (m.place+1),0):=by
  unfold S.Mach.act;simp only[hin];rw[if_neg (by decide),if_neg (by decide),if_neg (by decide),if_neg (by decide),if_neg (by decide),if_neg (by decide),if_neg (by decide),if_neg (by decide),if_pos trivial,hv]
  cases hV:V.inp with
  | nil =>
   rw[hV] at hin;simp only[List.tail_nil];have:({ m with input:=[] }:S.Mach)=m:=by rw[<- hin]
   rw[this];rfl
  | cons x r=>rfl
 obtain⟨hs,hp1⟩:=Z1 hI hm h0 h1 (j:=0) (y:=⟨34,d,0,0,0⟩) (by rw[hw];rfl) (by simp) hg (by rw[ha']);have hk:=Zo5 hm.ok (x:=⟨34,d,0,0,0⟩) (by show 0<=d;omega);rw[ha'] at hk;refine⟨1,Yb _,?_⟩;rw[Zc3,hs,ha',hn,<- hv];have e:({ m with input:=V.inp.tail }:S.Mach).put d v={ m with input:=V.inp.tail,reg:=m.reg.set d.toNat v }:=by unfold S.Mach.put;rw[if_neg (by omega)]
 refine⟨placed hk.1 hk.2,by rw[e];exact hm.run,by rw[e];exact hm.len,by rw[e];exact hm.code,by show S.u32m (m.place+1)=_;rw[hp1];simp,λ j j0 j1 j2=>?_,by rw[e];exact hm.mem,by rw[e];rfl,by rw[e];exact hm.out⟩;rw[e]
 show(m.reg.set d.toNat v).getD j.toNat 0=if j=d then v else V.reg j
 have hr:=hm.ok.regs;by_cases c:j=d
 .subst c
  rw[if_pos rfl];have:j.toNat<m.reg.length:=by omega
  simp[this]
 .rw[if_neg c,<- hm.reg j j0 j1 j2]
  have:¬d.toNat=j.toNat:=by omega
  show _=m.reg.getD j.toNat 0
  simp[this]
theorem Z3i {V:S.Vw}{a:Int}{s:ByteArray}{w:Int}(hx:I.xs[i]?=some ⟨1,⟨35,0,a,0,0⟩,s,w⟩)(ha:0<=a/\a<=31/\a≠25) :
 S.Go I V (I.adr i) 1 { V with out:=V.out++[V.reg a%256] } (I.adr (i+1)):=λ m hm=>by
 obtain⟨hw,hg,hn⟩:=Zaa hI h0 h1 hx;have e1:=hm.reg a ha.1 ha.2.1 ha.2.2;have ha':m.act ⟨35,0,a,0,0⟩=({ m with out:=m.out++[V.reg a%256] },S.u32m (m.place+1),0):=by
  unfold S.Mach.act;simp only[e1];rw[if_neg (by decide),if_neg (by decide),if_neg (by decide),if_neg (by decide),if_neg (by decide),if_neg (by decide),if_neg (by decide),if_neg (by decide),if_neg (by decide),if_pos trivial]
 obtain⟨hs,hp1⟩:=Z1 hI hm h0 h1 (j:=0) (y:=⟨35,0,a,0,0⟩) (by rw[hw];rfl) (by simp) hg (by rw[ha']);have hk:=Zo5 hm.ok (x:=⟨35,0,a,0,0⟩) (Y7 _);rw[ha'] at hk;refine⟨1,Yb _,?_⟩;rw[Zc3,hs,ha',hn];exact⟨placed hk.1 hk.2,hm.run,hm.len,hm.code,by show S.u32m (m.place+1)=_;rw[hp1];simp,hm.reg,hm.mem,hm.inp,by show m.out++_=_;rw[hm.out]⟩
theorem Z03 {V:S.Vw}{a:Int}{s:ByteArray}{w:Int}(hx:I.xs[i]?=some ⟨1,⟨36,0,a,0,0⟩,s,w⟩)(ha:0<=a/\a<=31/\a≠25) :
 S.GoH I V (I.adr i) 1 V (V.reg a):=λ m hm=>by
 obtain⟨hw,hg,hn⟩:=Zaa hI h0 h1 hx;have e1:=hm.reg a ha.1 ha.2.1 ha.2.2;have ha':m.act ⟨36,0,a,0,0⟩=({ m with state:=1,code:=V.reg a },m.place,0):=by
  unfold S.Mach.act;simp only[e1];rw[if_neg (by decide),if_neg (by decide),if_neg (by decide),if_neg (by decide),if_neg (by decide),if_neg (by decide),if_neg (by decide),if_neg (by decide),if_neg (by decide),if_neg (by decide)]
 obtain⟨hs,hp1⟩:=Z1 hI hm h0 h1 (j:=0) (y:=⟨36,0,a,0,0⟩) (by rw[hw];rfl) (by simp) hg (by rw[ha']);have hk:=Zo5 hm.ok (x:=⟨36,0,a,0,0⟩) (Y7 _);rw[ha'] at hk;refine⟨1,Yb _,?_⟩;rw[Zc3,hs,ha'];have l1:=Zdw hI h0;have l2:=Zdw hI (i:=i+1) (j:=I.i1) h1;have hp:=hm.place;exact⟨placed hk.1 hk.2,rfl,rfl,hm.len,hm.code,⟨by show I.adr I.i0<=m.place;omega,by show m.place<I.adr I.i1;omega⟩,hm.reg,hm.mem,hm.inp,hm.out⟩
theorem Zo7 {V:S.Vw}{a n:Int}{s:ByteArray}{w:Int}(hx:I.xs[i]?=some ⟨1,⟨33,0,a,0,n⟩,s,w⟩)(ha:0<=a/\a<=31/\a≠25) :
 S.Go I V (I.adr i) 1 V (S.u32m (V.reg a+n)):=λ m hm=>by
 obtain⟨hw,hg,hn⟩:=Zaa hI h0 h1 hx;have e1:=hm.reg a ha.1 ha.2.1 ha.2.2;have e3:S.u32m (V.reg a+S.u32m n)=S.u32m (V.reg a+n):=by unfold S.u32m;omega
 have ha':m.act ⟨33,0,a,0,n⟩=(m,S.u32m (V.reg a+n),0):=by
  unfold S.Mach.act S.Mach.put;simp[e1,e3]
 obtain⟨hs,hp1⟩:=Z1 hI hm h0 h1 (j:=0) (y:=⟨33,0,a,0,n⟩) (by rw[hw];rfl) (by simp) hg (by rw[ha']);exact⟨1,Yb _,Zd7 hI hm hs (Y7 _) ha'⟩
theorem Zem {V:S.Vw}{y:S.Inst}{s:ByteArray}{w:Int}(hx:I.xs[i]?=some ⟨2,y,s,w⟩):S.Go I V (I.adr i) 0 V (I.adr (i+1)):=by
 have e:I.adr (i+1)=I.adr i:=by
  rw[Z8 hI hx];simp[S.size]
 rw[e];exact Zdi _ _ _
end
end
end
