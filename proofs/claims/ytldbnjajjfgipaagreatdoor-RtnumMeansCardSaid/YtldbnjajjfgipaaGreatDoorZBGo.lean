/- Parts. -/
import Derived.Test.YtldbnjajjfgipaaGreatDoorZAsmLfp
set_option linter.all false
open Nat renaming le_refl->Yb
open List renaming length_append->Yd,getD_eq_getElem?_getD->Ye,getElem?_eq_some_iff->Yg,getElem?_append_left->Yn,getElem?_append_right->Yo,mem_cons->Yz,mem_of_getElem?->Y0,getElem?_set_ne->Ybg
open Int renaming le_refl->Y5,mul_nonneg->Yas,ediv_nonneg->Yb5
namespace Go.Proofs.YtldbnjajjfgipaaGreatDoor
open S Go.RowKit
namespace S
def toOf (xs:List Item)(F:List Int)(base:Int)(x:Item):Int:=if named x=true then addr xs F base (stands xs x.label).toNat else 0
def wordsAt (xs:List Item)(F:List Int)(base:Int)(i:Nat):List Int :=
 match xs[i]? with
 | none=>[]
 | some x=>wordsOf x (F.getD i 0) (addr xs F base i) (toOf xs F base x)
def outTo (xs:List Item)(F:List Int)(base:Int):Nat->List Int
 | 0=>[]
 | k+1=>outTo xs F base k++wordsAt xs F base k
def placeAt (xs:List Item)(F:List Int)(base:Int)(i:Nat):List (ByteArray×Int) :=
 match xs[i]? with
 | none=>[]
 | some x=>if x.kind=2 then [(x.label,addr xs F base i)] else []
def placesTo (xs:List Item)(F:List Int)(base:Int):Nat->List (ByteArray×Int)
 | 0=>[]
 | k+1=>placesTo xs F base k++placeAt xs F base k
end S
theorem Zcu {xs:List S.Item}(h:firstErr xs=0):∀x∈xs,1<=x.kind/\x.kind<=8:=by
 induction xs with
 | nil=>intro x a;cases a
 | cons y r ih =>
  intro x a;rw[firstErr] at h;by_cases c:chkItem y=0
  .rw[if_neg (by simp[c])] at h
   rcases Yz.1 a with rfl|a
   .revert c;unfold chkItem;grind
   .exact ih h x a
  .rw[if_pos c] at h
   exact absurd h c
theorem Znj {x:S.Item}{form a t:Int}(hk:1<=x.kind/\x.kind<=8)(h3:x.kind=3->1<=form/\form<=3)(b:x.kind=4->1<=form/\form<=2)(hw:0<=x.word) :
 ((S.wordsOf x form a t).length:Int)=if x.kind=2 then 0 else S.size x form:=by
 have c:x.kind=1\/x.kind=2\/x.kind=3\/x.kind=4\/x.kind=5\/x.kind=6\/x.kind=7\/x.kind=8:=by omega
 rcases c with h|h|h|h|h|h|h|h
 .simp[S.wordsOf,S.size,h]
 .simp[S.wordsOf,S.size,h]
 .have hf:form=1\/form=2\/form=3:=by have:=h3 h;omega
  rcases hf with rfl|rfl|rfl <;> simp[S.wordsOf,S.size,h]
 .have hf:form=1\/form=2:=by have:=b h;omega
  rcases hf with rfl|rfl <;> simp[S.wordsOf,S.size,h]
 .simp[S.wordsOf,S.size,h]
 .simp[S.wordsOf,S.size,h]
 .simp[S.wordsOf,S.size,h]
 .simp[S.wordsOf,S.size,h];omega
theorem Za4 {xs:List S.Item}{F:List Int}{base:Int}(hF:FormOk xs F)(d:∀x∈xs,1<=x.kind/\x.kind<=8)(b:∀x∈xs,0<=x.word/\x.word<=4294967295)(i:Nat) :
 ((S.wordsAt xs F base i).length:Int)=sizeAt xs F i:=by
 unfold S.wordsAt sizeAt
 cases hx:xs[i]? with
 | none=>simp
 | some x =>
  obtain⟨h3,a,_⟩:=hF.2 i x hx;have hm:=Y0 hx;simp only;rw[Znj (d x hm) h3 a (b x hm).1]
  split
  .rename_i c;simp[S.size,c]
  .rfl
theorem Zbj {xs:List S.Item}{F:List Int}{base:Int}(hF:FormOk xs F)(b:∀x∈xs,1<=x.kind/\x.kind<=8)(a:∀x∈xs,0<=x.word/\x.word<=4294967295) :
 ∀i:Nat,((S.outTo xs F base i).length:Int)=S.addr xs F base i-base
 | 0=>by simp[S.outTo,S.addr]
 | i+1=>by
  have h1:=Zbj (base:=base) hF b a i;have h2:=Za4 (base:=base) hF b a i;rw[S.outTo,Yd,S.addr];omega
theorem Zcg (xs:List S.Item)(F:List Int)(base:Int):∀i:Nat,(S.placesTo xs F base i).length<=i
 | 0=>by simp[S.placesTo]
 | i+1=>by
  have h1:=Zcg xs F base i;have h2:(S.placeAt xs F base i).length<=1:=by
   unfold S.placeAt
   split
   .simp
   .split <;> simp
  rw[S.placesTo,Yd];omega
theorem Zec {xs:List S.Item}{F:List Int}{base:Int}(hF:FormOk xs F)(a:∀x∈xs,0<=x.word/\x.word<=4294967295){i n:Nat}(h:i<=n):S.addr xs F base i<=S.addr xs F base n:=by
 obtain⟨d,rfl⟩:∃d,n=i+d:=⟨n-i,by omega⟩
 exact Zgw hF a i d
theorem Zin {xs:List S.Item}{base:Int}(h:CheckRes xs base 0):firstErr xs=0:=by
 rcases h with⟨_,h⟩|⟨_,_,h,h'⟩|⟨_,_,h,_⟩|⟨_,_,h,_⟩|⟨_,_,h,_⟩
 .omega
 .omega
 all_goals exact h
theorem Zuh {xs:List S.Item}{F:List Int}{base:Int}(hF:FormOk xs F)(a:∀x∈xs,0<=x.word/\x.word<=4294967295)(hb:0<=base)(hm:S.addr xs F base xs.length<=67108864)(x:S.Item) :
 0<=S.toOf xs F base x/\S.toOf xs F base x<=67108864:=by
 unfold S.toOf
 split
 .rcases Zav xs x.label with⟨e,_⟩|⟨j,y,e,hj,_⟩
  .rw[e]
   have:=(Zdi (base:=base) hF a 0)
   have h2:=Zec (base:=base) hF a (Nat.zero_le xs.length);have b:(-1:Int).toNat=0:=rfl;rw[b];omega
  .have hlt:=(Yg.1 hj).1
   rw[e,Int.toNat_natCast];have h1:=(Zdi (base:=base) hF a j).1;have h2:=Zec (base:=base) hF a (Nat.le_of_lt hlt);omega
 .omega
theorem Zio {xs:List S.Item}{F:List Int}{base:Int}(a:¬Dup xs):∀(n q:Nat)(s:ByteArray)(v:Int),(S.placesTo xs F base n)[q]?=some (s,v) ->
 ∃j:Nat,S.stands xs s=j/\v=S.addr xs F base j/\j<n
 | 0,q,s,v,h=>by simp[S.placesTo] at h
 | n+1,q,s,v,h=>by
  rw[S.placesTo] at h;by_cases b:q<(S.placesTo xs F base n).length
  .rw[Yn b] at h
   obtain⟨j,h1,h2,h3⟩:=Zio a n q s v h;exact⟨j,h1,h2,by omega⟩
  .rw[Yo (by omega)] at h
   unfold S.placeAt at h
   cases hx:xs[n]? with
   | none=>simp[hx] at h
   | some x =>
    simp only[hx] at h
    split at h
    .rename_i hk
     have h0:q-(S.placesTo xs F base n).length=0:=by
      have:=(Yg.1 h).1;simp at this;omega
     rw[h0] at h;simp only[List.getElem?_cons_zero,Option.some.injEq,Prod.mk.injEq] at h;refine⟨n,?_,h.2.symm,by omega⟩;rw[<- h.1];by_cases e:S.stands xs x.label=n
     .exact e
     .exact absurd ⟨n,x,hx,hk,e⟩ a
    .simp at h
theorem Zkq {xs:List S.Item}{F:List Int}{base:Int}{j:Nat}{s:ByteArray}(c:S.stands xs s=j):∀n:Nat,j<n->∃q:Nat,(S.placesTo xs F base n)[q]?=some (s,S.addr xs F base j)
 | 0,h=>by omega
 | n+1,h=>by
  rw[S.placesTo];by_cases a:j<n
  .obtain⟨q,hq⟩:=Zkq c n a
   refine⟨q,?_⟩;rw[Yn (Yg.1 hq).1];exact hq
  .have e:j=n:=by omega
   subst e;rcases Zav xs s with⟨h1,_⟩|⟨i,y,h1,h2,h3,b,_⟩
   .omega
   .have:i=j:=by omega
    subst this;refine⟨(S.placesTo xs F base i).length,?_⟩;rw[Yo (by omega),Nat.sub_self];simp[S.placeAt,h2,h3,b]
namespace S
inductive BE where
 | mk (op n:Int) (name:ByteArray) (kids:List BE)
inductive BS where
 | mk (op n:Int) (name:ByteArray) (exprs:List BE) (regs:List Int) (body els:List BS)
structure BR where
 name:ByteArray
 params:Int
 locals:Int
 behind:Bool
 body:List BS
namespace BE
def op:BE->Int | .mk o _ _ _=>o
def n:BE->Int | .mk _ n _ _=>n
def name:BE->ByteArray | .mk _ _ s _=>s
def kids:BE->List BE | .mk _ _ _ k=>k
end BE
namespace BS
def op:BS->Int | .mk o _ _ _ _ _ _=>o
def n:BS->Int | .mk _ n _ _ _ _ _=>n
def name:BS->ByteArray | .mk _ _ s _ _ _ _=>s
def exprs:BS->List BE | .mk _ _ _ e _ _ _=>e
def regs:BS->List Int | .mk _ _ _ _ r _ _=>r
def body:BS->List BS | .mk _ _ _ _ _ b _=>b
def els:BS->List BS | .mk _ _ _ _ _ _ e=>e
end BS
def visB (n:Int):Bool:=decide ((1<=n/\n<=10)\/n=26\/n=27\/n=29\/n=30)
def dotted (s:ByteArray):Bool:=s.data.toList.head?==some 46
def labB (s:ByteArray):Bool:=decide (s.size≠0) && !dotted s
def offB (n:Int):Bool:=decide (-32768<=n/\n<32768)
def numE (L:Int)(op n:Int):Bool :=
 if op=1 then decide (-2147483648<=n/\n<=4294967295) else if op=2 then decide (0<=n/\n<L) else if op=3 then visB n
 else if op=4 then decide (1<=n/\n<=14) else if op=5 then offB n else decide (n=0)
def kidsE (op:Int)(k:Nat):Nat:=if op=4\/op=7 then 2 else if op=5 then 1 else if op=6 then min k 4 else 0
def namedE (op:Int):Bool:=decide (op=6\/op=9)
def headE (L:Int)(op n:Int)(name:ByteArray)(k:Nat):Bool :=
 decide (1<=op/\op<=10) && numE L op n && decide (k=kidsE op k) && (namedE op==decide (name.size≠0)) && (!namedE op || labB name)
mutual
def formedE (L:Int):BE->Bool
 | .mk op n name kids=>headE L op n name kids.length && formedEs L kids
def formedEs (L:Int):List BE->Bool
 | []=>true
 | e::r=>formedE L e && formedEs L r
end
mutual
def needE:BE->Nat
 | .mk _ _ _ kids=>needEs kids 0
def needEs:List BE->Nat->Nat
 | [],_=>0
 | e::r,i=>max (i+max 1 (needE e)) (needEs r (i+1))
end
def risingB:List Int->Bool
 | []=>true
 | [a]=>visB a
 | a::b::r=>visB a && decide (a<b) && risingB (b::r)
def numS (L:Int)(op n:Int):Bool:=if op=1 then decide (0<=n/\n<L) else if op=2 then offB n else if op=9 then visB n else decide (n=0)
def exprsS (op:Int)(regs:Nat):Nat:=if op=2 then 2 else if op=5 then regs else if op=10 then 0 else 1
def namedS (op:Int):Bool:=decide (op=10)
def bodiesS (op:Int):Int:=if op=3 then 2 else if op=4 then 1 else 0
def shapedS (L:Int)(op n:Int)(name:ByteArray)(exprs:Nat)(regs:List Int)(body els:Nat):Bool :=
 decide (1<=op/\op<=11) && (decide (op=5) || decide (regs.length=0)) && risingB regs && (decide (1<=bodiesS op) || decide (body=0)) && (decide (2<=bodiesS op) || decide (els=0)) &&
  numS L op n && decide (exprs=exprsS op regs.length) && (namedS op==decide (name.size≠0)) && (!namedS op || labB name)
mutual
def chkS (L:Int):BS->Nat->Int
 | .mk op n name exprs regs body els,depth =>
  if !(shapedS L op n name exprs.length regs body.length els.length && formedEs L exprs) then 4
  else if 200<=depth\/14<needEs exprs 0 then 5
  else if chkSs L body (depth+1)≠0 then chkSs L body (depth+1) else chkSs L els (depth+1)
def chkSs (L:Int):List BS->Nat->Int
 | [],_=>0
 | s::r,depth=>if chkS L s depth≠0 then chkS L s depth else chkSs L r depth
end
def chkB (r:BR):Int :=
 if !labB r.name || decide (r.params<0) || decide (4<r.params) || decide (r.locals<r.params) || decide (200<r.locals) then 2 else chkSs r.locals r.body 0
def frameB (r:BR):Int:=if chkB r≠0 then 0 else r.locals+15
def bNo:ByteArray:=⟨#[]⟩
def bI (op d a b imm:Int):Item:=⟨1,⟨op,d,a,b,imm⟩,bNo,0⟩
def bL (s:ByteArray):Item:=⟨2,⟨0,0,0,0,0⟩,s,0⟩
def bJ (d:Int)(s:ByteArray):Item:=⟨4,⟨0,d,0,0,0⟩,s,0⟩
def bU (a:Int)(s:ByteArray):Item:=⟨3,⟨26,0,a,0,0⟩,s,0⟩
def bA (d:Int)(s:ByteArray):Item:=⟨5,⟨0,d,0,0,0⟩,s,0⟩
def bLab (n:Int):ByteArray:=⟨(46::itoa n).toArray⟩
def bLoad (fr d place:Int):Item:=bI 24 d 28 0 (place-fr)
def bStore (fr b place:Int):Item:=bI 25 0 28 b (place-fr)
def bMove (d a:Int):Item:=bI 15 d a 0 0
def bConst (d n:Int):List Item:=if -32768<=n/\n<32768 then [bI 15 d 0 0 n] else [bI 23 d 0 0 (n%4294967296/65536),bI 17 d d 0 (n%4294967296%65536)]
def bStores (fr L:Int):Nat->List Item
 | 0=>[]
 | k+1=>bStores fr L k++[bStore fr (11+k) (1+L+k)]
def bLoads (fr L:Int):Nat->List Item
 | 0=>[]
 | k+1=>bLoads fr L k++[bLoad fr (11+k) (1+L+k)]
def bArgs (at_:Nat):Nat->List Item
 | 0=>[]
 | k+1=>bArgs at_ k++[bMove (4+k) (11+at_+k)]
def bCall (fr L:Int)(name:ByteArray)(kids at_:Nat):List Item :=
 bStores fr L at_++bArgs at_ kids++[bJ 31 name]++bLoads fr L at_++[bMove (11+at_) 4]
def bOp (fr L:Int)(op n:Int)(name:ByteArray)(kids at_:Nat):List Item :=
 if op=1 then bConst (11+at_) n else if op=2 then [bLoad fr (11+at_) (1+n)] else if op=3 then [bMove (11+at_) n]
 else if op=4 then [bI n (11+at_) (11+at_) (12+at_) 0] else if op=5 then [bI 24 (11+at_) (11+at_) 0 n]
 else if op=6 then bCall fr L name kids at_
 else if op=7 then [bI 9 (11+at_) (11+at_) (12+at_) 0]++bConst (12+at_) 1++[bI 14 (11+at_) (11+at_) (12+at_) 0]
 else if op=8 then [bI 34 (11+at_) 0 0 0] else if op=9 then [bA (11+at_) name] else if op=10 then [bLoad fr (11+at_) 0] else []
mutual
def bExpr (fr L:Int):BE->Nat->List Item
 | .mk op n name kids,at_=>bExprs fr L kids at_++bOp fr L op n name kids.length at_
def bExprs (fr L:Int):List BE->Nat->List Item
 | [],_=>[]
 | e::r,at_=>bExpr fr L e at_++bExprs fr L r (at_+1)
end
def bTest (fr L:Int):List BE->List Item
 | []=>[]
 | e::_=>bExpr fr L e 0
def bPop (fr:Int):Item:=bI 15 28 28 0 (-fr)
def bBack (fr:Int)(behind:Bool):List Item :=
 [bPop fr,bI 24 31 28 0 0]++(if behind=true then [bI 24 25 31 0 0,bI 1 31 31 25 0,bI 33 0 31 0 1] else [bI 33 0 31 0 0])
def bRegs:List Int->Nat->List Item
 | [],_=>[]
 | n::r,i=>bMove n (11+i)::bRegs r (i+1)
mutual
def bStmt (fr L:Int)(behind:Bool):BS->Int->List Item×Int
 | .mk op n name exprs regs body els,l =>
  if op=4 then
   ([bL (bLab (l+1))]++bTest fr L exprs++[bU 11 (bLab (l+2))]++(bStmts fr L behind body (l+2)).1++[bJ 0 (bLab (l+1)),bL (bLab (l+2))],(bStmts fr L behind body (l+2)).2)
  else if op=3 then
   (bExprs fr L exprs 0++[bU 11 (bLab (l+1))]++(bStmts fr L behind body (l+2)).1++[bJ 0 (bLab (l+2)),bL (bLab (l+1))] ++
    (bStmts fr L behind els (bStmts fr L behind body (l+2)).2).1++[bL (bLab (l+2))],(bStmts fr L behind els (bStmts fr L behind body (l+2)).2).2)
  else
   (bExprs fr L exprs 0 ++
    (if op=1 then [bStore fr 11 (1+n)] else if op=2 then [bI 25 0 11 12 n] else if op=5 then bRegs regs 0++bBack fr behind else if op=7 then [bI 35 0 11 0 0] else if op=8 then [bI 36 0 11 0 0] else if op=9 then [bMove n 11] else if op=10 then [bPop fr,bJ 0 name] else if op=11 then [bPop fr,bI 33 0 11 0 0] else []),l)
def bStmts (fr L:Int)(behind:Bool):List BS->Int->List Item×Int
 | [],l=>([],l)
 | s::r,l=>((bStmt fr L behind s l).1++(bStmts fr L behind r (bStmt fr L behind s l).2).1,(bStmts fr L behind r (bStmt fr L behind s l).2).2)
end
def bParams:Nat->List Item
 | 0=>[]
 | k+1=>bParams k++[bI 25 0 28 (4+k) (1+k)]
def bHead (r:BR):List Item:=[bL r.name,bI 25 0 28 31 0]++bParams r.params.toNat++[bI 15 28 28 0 (frameB r)]
def bItems (r:BR):List Item:=bHead r++(bStmts (frameB r) r.locals r.behind r.body 0).1++bBack (frameB r) r.behind
end S
section
theorem Zyx {a b:Int}(a0:0<=a)(e:a<=4294967295)(d:0<=b)(b1:b<=4294967295) :
 (0<=bits .and .u32 a b/\bits .and .u32 a b<=4294967295)/\(0<=bits .or .u32 a b/\bits .or .u32 a b<=4294967295)/\(0<=bits .xor .u32 a b/\bits .xor .u32 a b<=4294967295):=by
 have f:a.toNat<2^32:=by omega
 have c:b.toNat<2^32:=by omega
 refine⟨?_,?_,?_⟩
 .rw[u32_and a0 e d b1]
  have:=Nat.and_lt_two_pow a.toNat c;omega
 .rw[u32_or a0 e d b1]
  have:=Nat.or_lt_two_pow f c;omega
 .rw[u32_xor a0 e d b1]
  have:=Nat.xor_lt_two_pow f c;omega
theorem Z05 {a b:Int}(a0:0<=a)(a1:a<=4294967295)(c:0<=b):0<=a/b/\a/b<=4294967295:=by
 refine⟨Yb5 a0 c,?_⟩;have:=Int.ediv_le_self b a0;omega
theorem Z4s {a b:Int}(a0:0<=a)(d:a<=4294967295)(c:0<=b):0<=a%b/\a%b<=4294967295:=by
 by_cases h:b=0
 .subst h;simp;exact⟨a0,d⟩
 .refine⟨Int.emod_nonneg a h,?_⟩
  have h1:=Int.emod_add_mul_ediv a b;have h2:0<=b*(a/b):=Yas c (Yb5 a0 c);omega
theorem Z4t {a b:Int}(a0:0<=a)(d:a<=4294967295)(c:0<=b)(b1:b<=4294967295):0<=a*b/4294967296/\a*b/4294967296<=4294967295:=by
 have h1:0<=a*b:=Yas a0 c;have h2:a*b<=4294967295*4294967295:=Int.mul_le_mul d b1 c (by omega);omega
theorem Zui {op a b:Int}(a0:0<=a)(f:a<=4294967295)(h:0<=b)(b1:b<=4294967295):0<=alu op a b/\alu op a b<=4294967295:=by
 obtain⟨p,s,q⟩:=Zyx a0 f h b1;have r:=Z05 a0 f h;have n:=Z4s a0 f h;have o:=Z4t a0 f h b1;have j:(0:Int)<=2^(b%32).toNat:=Int.le_of_lt (Int.pow_pos (by omega));have k:=Z05 a0 f j;unfold alu;by_cases c1:op=1
 .rw[if_pos c1];exact Zat _
 rw[if_neg c1];by_cases c2:op=2
 .rw[if_pos c2];exact Zat _
 rw[if_neg c2];by_cases c3:op=3
 .rw[if_pos c3];exact Zat _
 rw[if_neg c3];by_cases c4:op=4
 .rw[if_pos c4];exact o
 rw[if_neg c4];by_cases c5:op=5
 .rw[if_pos c5];exact r
 rw[if_neg c5];by_cases c6:op=6
 .rw[if_pos c6];exact n
 rw[if_neg c6];by_cases c7:op=7
 .rw[if_pos c7];exact p
 rw[if_neg c7];by_cases l:op=8
 .rw[if_pos l];exact s
 rw[if_neg l];by_cases m:op=9
 .rw[if_pos m];exact q
 rw[if_neg m];by_cases c:op=10
 .rw[if_pos c];exact Zat _
 rw[if_neg c];by_cases g:op=11
 .rw[if_pos g];exact k
 rw[if_neg g];by_cases e:op=12
 .rw[if_pos e];exact Zat _
 rw[if_neg e];by_cases d:op=13
 .rw[if_pos d];unfold truth;split <;> decide
 rw[if_neg d];unfold truth;split <;> decide
theorem Zka {m:S.Mach}(h:m.Ok){d v:Int}(hd:0<=d)(a:0<=v/\v<=4294967295):(m.put d v).Ok:=by
 unfold S.Mach.put;by_cases h0:d=0
 .rw[if_pos h0];exact h
 .rw[if_neg h0]
  have hg:∀i,(m.reg.set d.toNat v).getD i 0=if d.toNat=i/\i<m.reg.length then v else m.reg.getD i 0:=λ i=>by
   by_cases e:d.toNat=i
   .subst e
    by_cases b:d.toNat<m.reg.length <;> simp[b]
   .simp[e]
  refine⟨by simpa using h.regs,λ i=>?_,?_,h.mem,h.memw,h.place0,h.place1,h.inp,h.outp,h.code0,h.code1⟩
  .show 0<=(m.reg.set d.toNat v).getD i 0/\(m.reg.set d.toNat v).getD i 0<=4294967295
   rw[hg];split
   .exact a
   .exact h.word i
  .show(m.reg.set d.toNat v).getD 0 0=0
   rw[hg,if_neg (by omega)];exact h.zero
theorem placed {m:S.Mach}(h:m.Ok){p s:Int}(hp:0<=p/\p<=4294967295):({ m with place:=p,steps:=s }:S.Mach).Ok :=
 ⟨h.regs,h.word,h.zero,h.mem,h.memw,hp.1,hp.2,h.inp,h.outp,h.code0,h.code1⟩
theorem Zuj {m:S.Mach}(h:m.Ok)(i:Int):0<=m.rd i/\m.rd i<=4294967295:=h.word _
theorem Zpp {m:S.Mach}(h:m.Ok){x:Inst}(f:0<=x.d):(m.act x).1.Ok/\0<=(m.act x).2.1/\(m.act x).2.1<=4294967295:=by
 have c:=Zat (m.place+1);have j:=Zuj h x.a;have o:=Zuj h x.b;have hi:=Zat x.imm;unfold S.Mach.act;simp only;by_cases h1:x.op<=14
 .rw[if_pos h1]
  by_cases h2:m.rd x.b=0/\(x.op=5\/x.op=6)
  .rw[if_pos h2];exact⟨h,Y5 (0:Int),show(0:Int)<=4294967295 by decide⟩
  .rw[if_neg h2];exact⟨Zka h f (Zui j.1 j.2 o.1 o.2),c⟩
 rw[if_neg h1];by_cases h2:x.op<=22
 .rw[if_pos h2];exact⟨Zka h f (Zui j.1 j.2 hi.1 hi.2),c⟩
 rw[if_neg h2];by_cases h3:x.op=23
 .rw[if_pos h3];exact⟨Zka h f (Zat _),c⟩
 rw[if_neg h3];by_cases p:x.op=24
 .rw[if_pos p]
  by_cases n:u32m (m.rd x.a+u32m x.imm)<m.mem.length
  .rw[if_pos n];exact⟨Zka h f (h.memw _),c⟩
  .rw[if_neg n];exact⟨h,Y5 (0:Int),show(0:Int)<=4294967295 by decide⟩
 rw[if_neg p];by_cases n:x.op=25
 .rw[if_pos n]
  by_cases l:u32m (m.rd x.a+u32m x.imm)<m.mem.length
  .rw[if_pos l]
   refine⟨⟨h.regs,h.word,h.zero,by simpa using h.mem,λ i=>?_,h.place0,h.place1,h.inp,h.outp,h.code0,h.code1⟩,c⟩
   show 0<=(m.mem.set (u32m (m.rd x.a+u32m x.imm)).toNat (m.rd x.b)).getD i 0/\(m.mem.set (u32m (m.rd x.a+u32m x.imm)).toNat (m.rd x.b)).getD i 0<=4294967295
   generalize (u32m (m.rd x.a+u32m x.imm)).toNat=q;by_cases e:q=i
   .subst e
    by_cases u:q<m.mem.length
    .simp[u];exact o
    .simp[u]
   .have:=h.memw i
    simp only[Ye,Ybg e] at this⊢;exact this
  .rw[if_neg l];exact⟨h,Y5 (0:Int),show(0:Int)<=4294967295 by decide⟩
 rw[if_neg n];by_cases l:x.op<=31
 .rw[if_pos l]
  refine⟨h,?_⟩
  show 0<=(if goes x.op (m.rd x.a) (m.rd x.b)=true then _ else _)/\(if goes x.op (m.rd x.a) (m.rd x.b)=true then _ else _)<=_
  split
  .exact Zat _
  .exact c
 rw[if_neg l];by_cases s:x.op=32
 .rw[if_pos s];exact⟨Zka h f c,Zat _⟩
 rw[if_neg s];by_cases v:x.op=33
 .rw[if_pos v];exact⟨Zka h f c,Zat _⟩
 rw[if_neg v];by_cases t:x.op=34
 .rw[if_pos t]
  cases hin:m.input with
  | nil=>exact⟨Zka h f (show(0:Int)<=4294967295/\(4294967295:Int)<=4294967295 by decide),c⟩
  | cons y r =>
   have hy:=h.inp y (by rw[hin];simp);have w:({ m with input:=r }:S.Mach).Ok:=⟨h.regs,h.word,h.zero,h.mem,h.memw,h.place0,h.place1,λ z g=>h.inp z (by rw[hin];exact List.mem_cons_of_mem _ g),h.outp,h.code0,h.code1⟩
   exact⟨Zka w f (show 0<=y/\y<=4294967295 by omega),c⟩
 rw[if_neg t];by_cases k:x.op=35
 .rw[if_pos k]
  refine⟨⟨h.regs,h.word,h.zero,h.mem,h.memw,h.place0,h.place1,h.inp,λ z g=>?_,h.code0,h.code1⟩,c⟩;rcases List.mem_append.1 g with g|g
  .exact h.outp z g
  .rw[List.mem_singleton] at g;omega
 rw[if_neg k];exact⟨⟨h.regs,h.word,h.zero,h.mem,h.memw,h.place0,h.place1,h.inp,h.outp,j.1,j.2⟩,h.place0,h.place1⟩
theorem Za6 (m:S.Mach)(a:Nat):∀b:Nat,m.steps_ (a+b)=(m.steps_ a).steps_ b
 | 0=>rfl
 | b+1=>by
  show(m.steps_ (a+b)).step=((m.steps_ a).steps_ b).step
  rw[Za6 m a b]
theorem Zc3 (m:S.Mach):m.steps_ 1=m.step:=rfl
theorem Zip {m:S.Mach}(h:m.state≠0):∀n:Nat,m.steps_ n=m
 | 0=>rfl
 | n+1=>by
  show(m.steps_ n).step=m
  rw[Zip h n];unfold S.Mach.step;rw[if_pos h]
namespace S
structure Img where
 xs:List Item
 F:List Int
 size:Int
 i0:Nat
 i1:Nat
 lo:Int
 hi:Int
namespace Img
def adr (I:Img)(i:Nat):Int:=addr I.xs I.F 0 i
def lab (I:Img)(s:ByteArray):Int:=I.adr (stands I.xs s).toNat
structure Ok (I:Img):Prop where
 res:FormsRes I.xs 0 0 I.F
 words:∀x∈I.xs,0<=x.word/\x.word<=4294967295
 i01:I.i0<=I.i1
 i1l:I.i1<=I.xs.length
 size:I.adr I.xs.length<I.size
 size2:I.size<=335544320
 lo0:0<=I.lo
 lohi:I.lo<=I.hi
 hisz:I.hi<=I.size
 apart:I.hi<=I.adr I.i0\/I.adr I.i1<=I.lo
def code (I:Img)(a:Int):Prop:=I.adr I.i0<=a/\a<I.adr I.i1
def stk (I:Img)(a:Int):Prop:=I.lo<=a/\a<I.hi
def In (I:Img)(mem:List Int):Prop:=∀i,I.i0<=i->i<I.i1->∀j w,(wordsAt I.xs I.F 0 i)[j]?=some w->mem.getD ((I.adr i).toNat+j) 0=w
end Img
end S
section
variable {I:S.Img}(hI:I.Ok)
include hI
theorem Zay:FormOk I.xs I.F:=by
 rcases hI.res with⟨h,_⟩|⟨h,_⟩|⟨_,_,h,_⟩
 .exact absurd rfl h
 .omega
 .exact h.1
theorem Zg0:Stable I.xs 0 I.F:=by
 rcases hI.res with⟨h,_⟩|⟨h,_⟩|⟨_,_,h,h2,_⟩
 .exact absurd rfl h
 .omega
 .exact h2
theorem Znk:CheckRes I.xs 0 0:=by
 rcases hI.res with⟨h,_⟩|⟨h,_⟩|⟨h,_⟩
 .exact absurd rfl h
 .omega
 .exact h
theorem Znl:I.adr I.xs.length<=67108864:=by
 rcases hI.res with⟨h,_⟩|⟨h,_⟩|⟨_,_,_,_,h⟩
 .exact absurd rfl h
 .omega
 .exact h
theorem Zuk:¬Dup I.xs:=by
 rcases Znk hI with⟨_,h⟩|⟨_,_,h,h2⟩|⟨_,_,_,_,h⟩|⟨_,_,_,_,_,h⟩|⟨_,_,_,h,_⟩
 .omega
 .exact absurd h2.symm h
 .omega
 .omega
 .exact h
theorem Zch:firstErr I.xs=0:=by
 rcases Znk hI with⟨_,h⟩|⟨_,_,h,h2⟩|⟨_,_,_,_,h⟩|⟨_,_,_,_,_,h⟩|⟨_,_,h,_,_⟩
 .omega
 .exact absurd h2.symm h
 .omega
 .omega
 .exact h
theorem Zd0 {i j:Nat}(h:i<=j):I.adr i<=I.adr j:=Zec (Zay hI) hI.words h
theorem Zpq (i:Nat):0<=I.adr i:=(Zdi (Zay hI) hI.words i).1
theorem Zlq {i:Nat}(h:i<=I.xs.length):I.adr i<=67108864:=Int.le_trans (Zd0 hI h) (Znl hI)
theorem Ziq {i:Nat}{x:S.Item}(a:I.xs[i]?=some x)(b:x.kind=2):S.stands I.xs x.label=i:=by
 by_cases h:S.stands I.xs x.label=i
 .exact h
 .exact absurd ⟨i,x,a,b,h⟩ (Zuk hI)
theorem Z2e {x:S.Item}{i:Nat}(a:I.xs[i]?=some x):chkItem x=0:=by
 have h:=Zch hI;have hm:=Y0 a;generalize I.xs=l at h hm;clear a
 induction l with
 | nil=>cases hm
 | cons y r ih =>
  rw[firstErr] at h;by_cases c:chkItem y=0
  .rw[if_neg (by simp[c])] at h
   rcases Yz.1 hm with rfl|hm
   .exact c
   .exact ih h hm
  .rw[if_pos c] at h;exact absurd h c
theorem Z7 {i:Nat}{x:S.Item}(a:I.xs[i]?=some x):I.adr (i+1)=I.adr i+S.size x (I.F.getD i 0):=by
 show S.addr I.xs I.F 0 i+sizeAt I.xs I.F i=_
 unfold sizeAt;rw[a];rfl
end
theorem Zul {m:S.Mach}{x:Inst}(b:m.state=0)(hp:m.place<m.mem.length)(c:m.mem.getD m.place.toNat 0=wordOf x)(hg:good x=true)(a:(m.act x).2.2=0) :
 m.step={ (m.act x).1 with place:=(m.act x).2.1,steps:=m.steps+1 }:=by
 have e:wordOf x=enc x:=by unfold wordOf;rw[if_pos hg]
 obtain⟨h1,h2⟩:=Zt2 hg;unfold S.Mach.step;rw[if_neg (by simp[b]),if_neg (by omega),c,e,h1,h2,if_neg (by simp),if_neg (by simp[a])]
end
section
namespace S
structure Vw where
 reg:Int->Int
 mem:Int->Int
 inp:List Int
 out:List Int
namespace Vw
def set (V:Vw)(d v:Int):Vw:={ V with reg:=λ j=>if j=d then v else V.reg j }
def sto (V:Vw)(a v:Int):Vw:={ V with mem:=λ b=>if b=a then v else V.mem b }
end Vw
def inByte:List Int->Int
 | []=>4294967295
 | x::_=>x
def Mach.mv (m:Mach)(a:Int):Int:=m.mem.getD a.toNat 0
structure On (I:Img)(m:Mach)(V:Vw)(a:Int):Prop where
 ok:m.Ok
 run:m.state=0
 len:(m.mem.length:Int)=I.size
 code:I.In m.mem
 place:m.place=a
 reg:∀j,0<=j->j<=31->j≠25->m.rd j=V.reg j
 mem:∀b,0<=b->b<I.size->m.mv b=V.mem b
 inp:m.input=V.inp
 out:m.out=V.out
structure Off (I:Img)(m:Mach)(V:Vw)(code:Int):Prop where
 ok:m.Ok
 end_:m.state=1
 codeIs:m.code=code
 len:(m.mem.length:Int)=I.size
 code:I.In m.mem
 place:I.code m.place
 reg:∀j,0<=j->j<=31->j≠25->m.rd j=V.reg j
 mem:∀b,0<=b->b<I.size->m.mv b=V.mem b
 inp:m.input=V.inp
 out:m.out=V.out
def Go (I:Img)(V:Vw)(a:Int)(n:Nat)(V':Vw)(a':Int):Prop:=∀m,On I m V a->∃k,k<=n/\On I (m.steps_ k) V' a'
def GoH (I:Img)(V:Vw)(a:Int)(n:Nat)(V':Vw)(code:Int):Prop:=∀m,On I m V a->∃k,k<=n/\Off I (m.steps_ k) V' code
end S
theorem Zdl (I:S.Img)(V:S.Vw)(a:Int):S.Go I V a 0 V a:=λ m h=>⟨0,Yb _,h⟩
theorem S.Go.trans {I:S.Img}{V V' d:S.Vw}{a b c:Int}{n k:Nat}(h:S.Go I V a n V' b)(h2:S.Go I V' b k d c):S.Go I V a (n+k) d c:=λ m hm=>by
 obtain⟨i,hi,h3⟩:=h m hm;obtain⟨j,hj,e⟩:=h2 _ h3;exact⟨i+j,by omega,by rw[Za6];exact e⟩
theorem S.Go.halt {I:S.Img}{V V' d:S.Vw}{a b c:Int}{n k:Nat}(h:S.Go I V a n V' b)(h2:S.GoH I V' b k d c):S.GoH I V a (n+k) d c:=λ m hm=>by
 obtain⟨i,hi,h3⟩:=h m hm;obtain⟨j,hj,e⟩:=h2 _ h3;exact⟨i+j,by omega,by rw[Za6];exact e⟩
theorem S.Go.more {I:S.Img}{V V':S.Vw}{a b:Int}{n k:Nat}(h:S.Go I V a n V' b)(hk:n<=k):S.Go I V a k V' b:=λ m hm=>by
 obtain⟨i,hi,h3⟩:=h m hm;exact⟨i,by omega,h3⟩
theorem S.GoH.more {I:S.Img}{V V':S.Vw}{a b:Int}{n k:Nat}(h:S.GoH I V a n V' b)(hk:n<=k):S.GoH I V a k V' b:=λ m hm=>by
 obtain⟨i,hi,h3⟩:=h m hm;exact⟨i,by omega,h3⟩
theorem S.On.ext {I:S.Img}{m:S.Mach}{V V':S.Vw}{a:Int}(h:S.On I m V a)(c:∀j,0<=j->j<=31->j≠25->V.reg j=V'.reg j)(hm:∀b,0<=b->b<I.size->V.mem b=V'.mem b)(hi:V.inp=V'.inp)(d:V.out=V'.out):S.On I m V' a :=
 ⟨h.ok,h.run,h.len,h.code,h.place,λ j h0 h1 h2=>(h.reg j h0 h1 h2).trans (c j h0 h1 h2),λ b h0 h1=>(h.mem b h0 h1).trans (hm b h0 h1),h.inp.trans hi,h.out.trans d⟩
theorem S.Go.ext {I:S.Img}{V V' c:S.Vw}{a b:Int}{n:Nat}(h:S.Go I V a n V' b)(d:∀j,0<=j->j<=31->j≠25->V'.reg j=c.reg j)(hm:∀b,0<=b->b<I.size->V'.mem b=c.mem b)(hi:V'.inp=c.inp)(e:V'.out=c.out):S.Go I V a n c b:=λ m h0=>by
 obtain⟨k,f,h1⟩:=h m h0;exact⟨k,f,h1.ext d hm hi e⟩
theorem S.On.rbd {I:S.Img}{m:S.Mach}{V:S.Vw}{a:Int}(h:S.On I m V a){j:Int}(h0:0<=j)(h1:j<=31)(h2:j≠25):0<=V.reg j/\V.reg j<=4294967295:=by
 rw[<- h.reg j h0 h1 h2];exact h.ok.word _
theorem S.On.zero {I:S.Img}{m:S.Mach}{V:S.Vw}{a:Int}(h:S.On I m V a):V.reg 0=0:=by
 rw[<- h.reg 0 (by decide) (by decide) (by decide)];exact h.ok.zero
theorem Zyy {I:S.Img}{V V':S.Vw}{a b:Int}{n:Nat}(h:∀m,S.On I m V a->S.Go I V a n V' b):S.Go I V a n V' b:=λ m hm=>h m hm m hm
section
variable {I:S.Img}(hI:I.Ok)
include hI
theorem Zz {m:S.Mach}{V:S.Vw}{a:Int}(h:S.On I m V a){i j:Nat}(h0:I.i0<=i)(h1:i<I.i1){y:Inst}(b:(S.wordsAt I.xs I.F 0 i)[j]?=some (wordOf y))(d:a=I.adr i+j)(hg:good y=true)(e:(m.act y).2.2=0) :
 m.step={ (m.act y).1 with place:=(m.act y).2.1,steps:=m.steps+1 }/\u32m (m.place+1)=I.adr i+j+1:=by
 have f:=(Yg.1 b).1;have hl:=Za4 (base:=0) (Zay hI) (Zcu (Zch hI)) hI.words i;have hn:I.adr (i+1)=I.adr i+sizeAt I.xs I.F i:=rfl;have h2:=Zlq hI (i:=i+1) (by have:=hI.i1l;omega);have h3:=Zd0 hI (i:=i+1) (j:=I.xs.length) (by have:=hI.i1l;omega);have h4:=hI.size;have h5:=Zpq hI i;have hp:=h.place;have c:=h.len;refine⟨Zul h.run (by omega) ?_ hg e,?_⟩
 .have:=h.code i h0 h1 j _ b
  rw[<- this,hp,d]
  congr 1
  omega
 .unfold u32m
  omega
theorem Zir {m:S.Mach}{V:S.Vw}{a:Int}(h:S.On I m V a){y:Inst}{d v p:Int}(hd:0<d)(g:d<=31)(k:m.step={ (m.act y).1 with place:=(m.act y).2.1,steps:=m.steps+1 })
 (l:0<=y.d) (f:m.act y=(m.put d v,p,0)):S.On I m.step (V.set d v) p:=by
 have b:=Zpp h.ok (x:=y) l;rw[k,f];rw[f] at b;have e:m.put d v={ m with reg:=m.reg.set d.toNat v }:=by unfold S.Mach.put;rw[if_neg (by omega)]
 refine⟨placed b.1 b.2,by rw[e];exact h.run,by rw[e];exact h.len,by rw[e];exact h.code,rfl,λ j h0 h1 h2=>?_,by rw[e];exact h.mem,by rw[e];exact h.inp,by rw[e];exact h.out⟩;rw[e]
 show(m.reg.set d.toNat v).getD j.toNat 0=if j=d then v else V.reg j
 have hr:=h.ok.regs;by_cases c:j=d
 .subst c
  rw[if_pos rfl];have:j.toNat<m.reg.length:=by omega
  simp[this]
 .rw[if_neg c,<- h.reg j h0 h1 h2]
  have:¬d.toNat=j.toNat:=by omega
  show _=m.reg.getD j.toNat 0
  simp[this]
theorem Zed {m:S.Mach}{V:S.Vw}{a:Int}(h:S.On I m V a){y:Inst}{p:Int}(e:m.step={ (m.act y).1 with place:=(m.act y).2.1,steps:=m.steps+1 })
 (f:0<=y.d) (c:m.act y=(m,p,0)):S.On I m.step V p:=by
 have b:=Zpp h.ok (x:=y) f;rw[e,c];rw[c] at b;exact⟨placed b.1 b.2,h.run,h.len,h.code,rfl,h.reg,h.mem,h.inp,h.out⟩
section
variable {i:Nat}(h0:I.i0<=i)(h1:i<I.i1)
include h0 h1
theorem Z8 {y:Inst}{s:ByteArray}{w:Int}(a:I.xs[i]?=some ⟨1,y,s,w⟩):S.wordsAt I.xs I.F 0 i=[wordOf y]/\good y=true/\I.adr (i+1)=I.adr i+1:=by
 have b:=Z2e hI a;refine⟨?_,?_,?_⟩
 .unfold S.wordsAt
  rw[a];rfl
 .by_cases g:good y=true
  .exact g
  .exfalso
   simp[chkItem,chk,g] at b
 .rw[Z7 hI a]
  rfl
theorem Zq6 {V V':S.Vw}{y:Inst}{s:ByteArray}{w:Int}(l:I.xs[i]?=some ⟨1,y,s,w⟩){d v:Int}(f:0<d)(b:d<=31)(k:0<=y.d)
 (e:∀m,S.On I m V (I.adr i)->m.act y=(m.put d v,u32m (m.place+1),0)):S.Go I V (I.adr i) 1 (V.set d v) (I.adr (i+1)):=λ m hm=>by
 obtain⟨h,hg,c⟩:=Z8 hI h0 h1 l;have a:=e m hm;obtain⟨g,hp⟩:=Zz hI hm h0 h1 (j:=0) (y:=y) (by rw[h];rfl) (by simp) hg (by rw[a]);refine⟨1,Yb _,?_⟩;have:=Zir hI hm f b g k a;rw[hp] at this;rw[Zc3,c]
 simpa using this
theorem Zum {V:S.Vw}{op d a b:Int}{s:ByteArray}{w:Int}(n:I.xs[i]?=some ⟨1,⟨op,d,a,b,0⟩,s,w⟩)(l:op<=14)(h:0<d)(f:d<=31)
 (e:0<=a/\a<=31/\a≠25) (c:0<=b/\b<=31/\b≠25) (k:V.reg b=0->op≠5/\op≠6) :
 S.Go I V (I.adr i) 1 (V.set d (alu op (V.reg a) (V.reg b))) (I.adr (i+1)):=by
 refine Zq6 (V':=V) hI h0 h1 n h f (by show 0<=d;omega) λ m hm=>?_
 have j:=hm.reg a e.1 e.2.1 e.2.2;have g:=hm.reg b c.1 c.2.1 c.2.2;unfold S.Mach.act;simp only[j,g,if_pos l];rw[if_neg (λ q=>by have:=k q.1;omega)]
theorem Z06 {V:S.Vw}{op d a n:Int}{s:ByteArray}{w:Int}(h:I.xs[i]?=some ⟨1,⟨op,d,a,0,n⟩,s,w⟩)(f:15<=op/\op<=22)(e:0<d)(c:d<=31)(b:0<=a/\a<=31/\a≠25) :
 S.Go I V (I.adr i) 1 (V.set d (alu (like op) (V.reg a) (u32m n))) (I.adr (i+1)):=by
 refine Zq6 (V':=V) hI h0 h1 h e c (by show 0<=d;omega) λ m hm=>?_
 have g:=hm.reg a b.1 b.2.1 b.2.2;unfold S.Mach.act;simp only[g];rw[if_neg (by omega),if_pos f.2]
theorem Zee {V:S.Vw}{d a n:Int}{s:ByteArray}{w:Int}(f:I.xs[i]?=some ⟨1,⟨15,d,a,0,n⟩,s,w⟩)(c:0<d)(b:d<=31)(g:0<=a/\a<=31/\a≠25) :
 S.Go I V (I.adr i) 1 (V.set d (u32m (V.reg a+n))) (I.adr (i+1)):=by
 have h:=Z06 (V:=V) hI h0 h1 f (by decide) c b g;have e:alu (like 15) (V.reg a) (u32m n)=u32m (V.reg a+n):=by
  show u32m (V.reg a+u32m n)=_
  unfold u32m;omega
 rw[e] at h;exact h
theorem Z2f {V:S.Vw}{d a:Int}{s:ByteArray}{w:Int}(g:I.xs[i]?=some ⟨1,⟨15,d,a,0,0⟩,s,w⟩)(f:0<d)(c:d<=31)(b:0<=a/\a<=31/\a≠25) :
 S.Go I V (I.adr i) 1 (V.set d (V.reg a)) (I.adr (i+1)):=Zyy λ m hm=>by
 have hb:=hm.rbd b.1 b.2.1 b.2.2;have h:=Zee (V:=V) hI h0 h1 g f c b;have e:u32m (V.reg a+0)=V.reg a:=by unfold u32m;omega
 rw[e] at h;exact h
theorem Z4u {V:S.Vw}{d n:Int}{s:ByteArray}{w:Int}(c:I.xs[i]?=some ⟨1,⟨23,d,0,0,n⟩,s,w⟩)(b:0<d)(a:d<=31)(hn:0<=n/\n<=65535) :
 S.Go I V (I.adr i) 1 (V.set d (n*65536)) (I.adr (i+1)):=by
 refine Zq6 (V':=V) hI h0 h1 c b a (by show 0<=d;omega) λ m hm=>?_
 have e:u32m (u32m n*65536)=n*65536:=by unfold u32m;omega
 unfold S.Mach.act;simp[e]
theorem Z2g {V:S.Vw}{d a n p:Int}{s:ByteArray}{w:Int}(l:I.xs[i]?=some ⟨1,⟨24,d,a,0,n⟩,s,w⟩)(j:0<d)(c:d<=31)(b:0<=a/\a<=31/\a≠25)
 (hp:p=u32m (V.reg a+n)) (f:p<I.size):S.Go I V (I.adr i) 1 (V.set d (V.mem p)) (I.adr (i+1)):=by
 have e:0<=p:=by rw[hp];exact(Zat _).1
 refine Zq6 (V':=V) hI h0 h1 l j c (by show 0<=d;omega) λ m hm=>?_
 have k:=hm.reg a b.1 b.2.1 b.2.2;have h:u32m (V.reg a+u32m n)=p:=by rw[hp];unfold u32m;omega
 have hl:=hm.len;have g:=hm.mem p e f;unfold S.Mach.mv at g;unfold S.Mach.act;simp only[k,h];rw[if_neg (by decide),if_neg (by decide),if_neg (by decide),if_pos trivial,if_pos (by omega),g]
theorem Zun {V:S.Vw}{a b n p:Int}{s:ByteArray}{w:Int}(O:I.xs[i]?=some ⟨1,⟨25,0,a,b,n⟩,s,w⟩)(l:0<=a/\a<=31/\a≠25)(g:0<=b/\b<=31/\b≠25)
 (hp:p=u32m (V.reg a+n)) (K:p<I.size) (E:¬I.code p):S.Go I V (I.adr i) 1 (V.sto p (V.reg b)) (I.adr (i+1)):=λ m hm=>by
 have J:0<=p:=by rw[hp];exact(Zat _).1
 obtain⟨G,hg,A⟩:=Z8 hI h0 h1 O;have D:=hm.reg a l.1 l.2.1 l.2.2;have z:=hm.reg b g.1 g.2.1 g.2.2;have M:u32m (V.reg a+u32m n)=p:=by rw[hp];unfold u32m;omega
 have hl:=hm.len;have d:m.act ⟨25,0,a,b,n⟩=({ m with mem:=m.mem.set p.toNat (V.reg b) },u32m (m.place+1),0):=by
  unfold S.Mach.act;simp only[D,z,M];rw[if_neg (by decide),if_neg (by decide),if_neg (by decide),if_neg (by decide),if_pos trivial,if_pos (by omega)]
 obtain⟨C,f⟩:=Zz hI hm h0 h1 (j:=0) (y:=⟨25,0,a,b,n⟩) (by rw[G];rfl) (by simp) hg (by rw[d]);have h:=Zpp hm.ok (x:=⟨25,0,a,b,n⟩) (Y5 _);rw[d] at h;refine⟨1,Yb _,?_⟩;rw[Zc3,C,d,A];refine⟨placed h.1 h.2,hm.run,by simpa using hm.len,λ k k0 u j v r=>?_,by show u32m (m.place+1)=_;rw[f];simp,hm.reg,λ q L B=>?_,hm.inp,hm.out⟩
 .have hold:=hm.code k k0 u j v r
  have N:=(Yg.1 r).1;have t:=Za4 (base:=0) (Zay hI) (Zcu (Zch hI)) hI.words k;have H:I.adr (k+1)=I.adr k+sizeAt I.xs I.F k:=rfl;have l1:=Zd0 hI (i:=I.i0) (j:=k) k0;have l2:=Zd0 hI (i:=k+1) (j:=I.i1) u;have l3:=Zpq hI k;have o:¬p.toNat=(I.adr k).toNat+j:=by
   intro e;exact E ⟨by omega,by omega⟩
  show(m.mem.set p.toNat (V.reg b)).getD _ 0=v
  rw[<- hold];simp only[Ye,Ybg o]
 .show(m.mem.set p.toNat (V.reg b)).getD q.toNat 0=if q=p then V.reg b else V.mem q
  by_cases c:q=p
  .subst c
   rw[if_pos rfl];have:q.toNat<m.mem.length:=by omega
   simp[this]
  .rw[if_neg c,<- hm.mem q L B]
   have:¬p.toNat=q.toNat:=by omega
   show _=m.mem.getD q.toNat 0
   simp only[Ye,Ybg this]
theorem Z60 {V:S.Vw}{d:Int}{s:ByteArray}{w:Int}(u:I.xs[i]?=some ⟨1,⟨34,d,0,0,0⟩,s,w⟩)(hd:0<d)(n:d<=31) :
 S.Go I V (I.adr i) 1 (({ V with inp:=V.inp.tail }:S.Vw).set d (S.inByte V.inp)) (I.adr (i+1)):=λ m hm=>by
 obtain⟨t,hg,l⟩:=Z8 hI h0 h1 u;have a:=hm.inp;obtain⟨v,h⟩:=Yx (S.inByte V.inp);have b:m.act ⟨34,d,0,0,0⟩=(({ m with input:=V.inp.tail }:S.Mach).put d v,u32m (m.place+1),0):=by
  unfold S.Mach.act;simp only[a];rw[if_neg (by decide),if_neg (by decide),if_neg (by decide),if_neg (by decide),if_neg (by decide),if_neg (by decide),if_neg (by decide),if_neg (by decide),if_pos trivial,h]
  cases hV:V.inp with
  | nil =>
   rw[hV] at a;simp only[List.tail_nil];have:({ m with input:=[] }:S.Mach)=m:=by rw[<- a]
   rw[this];rfl
  | cons x r=>rfl
 obtain⟨q,f⟩:=Zz hI hm h0 h1 (j:=0) (y:=⟨34,d,0,0,0⟩) (by rw[t];rfl) (by simp) hg (by rw[b]);have g:=Zpp hm.ok (x:=⟨34,d,0,0,0⟩) (by show 0<=d;omega);rw[b] at g;refine⟨1,Yb _,?_⟩;rw[Zc3,q,b,l,<- h];have e:({ m with input:=V.inp.tail }:S.Mach).put d v={ m with input:=V.inp.tail,reg:=m.reg.set d.toNat v }:=by unfold S.Mach.put;rw[if_neg (by omega)]
 refine⟨placed g.1 g.2,by rw[e];exact hm.run,by rw[e];exact hm.len,by rw[e];exact hm.code,by show u32m (m.place+1)=_;rw[f];simp,λ j o p k=>?_,by rw[e];exact hm.mem,by rw[e];rfl,by rw[e];exact hm.out⟩;rw[e]
 show(m.reg.set d.toNat v).getD j.toNat 0=if j=d then v else V.reg j
 have hr:=hm.ok.regs;by_cases c:j=d
 .subst c
  rw[if_pos rfl];have:j.toNat<m.reg.length:=by omega
  simp[this]
 .rw[if_neg c,<- hm.reg j o p k]
  have:¬d.toNat=j.toNat:=by omega
  show _=m.reg.getD j.toNat 0
  simp[this]
theorem Z4v {V:S.Vw}{a:Int}{s:ByteArray}{w:Int}(l:I.xs[i]?=some ⟨1,⟨35,0,a,0,0⟩,s,w⟩)(e:0<=a/\a<=31/\a≠25) :
 S.Go I V (I.adr i) 1 { V with out:=V.out++[V.reg a%256] } (I.adr (i+1)):=λ m hm=>by
 obtain⟨k,hg,f⟩:=Z8 hI h0 h1 l;have h:=hm.reg a e.1 e.2.1 e.2.2;have b:m.act ⟨35,0,a,0,0⟩=({ m with out:=m.out++[V.reg a%256] },u32m (m.place+1),0):=by
  unfold S.Mach.act;simp only[h];rw[if_neg (by decide),if_neg (by decide),if_neg (by decide),if_neg (by decide),if_neg (by decide),if_neg (by decide),if_neg (by decide),if_neg (by decide),if_neg (by decide),if_pos trivial]
 obtain⟨g,c⟩:=Zz hI hm h0 h1 (j:=0) (y:=⟨35,0,a,0,0⟩) (by rw[k];rfl) (by simp) hg (by rw[b]);have d:=Zpp hm.ok (x:=⟨35,0,a,0,0⟩) (Y5 _);rw[b] at d;refine⟨1,Yb _,?_⟩;rw[Zc3,g,b,f];exact⟨placed d.1 d.2,hm.run,hm.len,hm.code,by show u32m (m.place+1)=_;rw[c];simp,hm.reg,hm.mem,hm.inp,by show m.out++_=_;rw[hm.out]⟩
theorem Z2h {V:S.Vw}{a:Int}{s:ByteArray}{w:Int}(k:I.xs[i]?=some ⟨1,⟨36,0,a,0,0⟩,s,w⟩)(d:0<=a/\a<=31/\a≠25) :
 S.GoH I V (I.adr i) 1 V (V.reg a):=λ m hm=>by
 obtain⟨h,hg,hn⟩:=Z8 hI h0 h1 k;have g:=hm.reg a d.1 d.2.1 d.2.2;have b:m.act ⟨36,0,a,0,0⟩=({ m with state:=1,code:=V.reg a },m.place,0):=by
  unfold S.Mach.act;simp only[g];rw[if_neg (by decide),if_neg (by decide),if_neg (by decide),if_neg (by decide),if_neg (by decide),if_neg (by decide),if_neg (by decide),if_neg (by decide),if_neg (by decide),if_neg (by decide)]
 obtain⟨f,e⟩:=Zz hI hm h0 h1 (j:=0) (y:=⟨36,0,a,0,0⟩) (by rw[h];rfl) (by simp) hg (by rw[b]);have c:=Zpp hm.ok (x:=⟨36,0,a,0,0⟩) (Y5 _);rw[b] at c;refine⟨1,Yb _,?_⟩;rw[Zc3,f,b];have l1:=Zd0 hI h0;have l2:=Zd0 hI (i:=i+1) (j:=I.i1) h1;have hp:=hm.place;exact⟨placed c.1 c.2,rfl,rfl,hm.len,hm.code,⟨by show I.adr I.i0<=m.place;omega,by show m.place<I.adr I.i1;omega⟩,hm.reg,hm.mem,hm.inp,hm.out⟩
theorem Zpr {V:S.Vw}{a n:Int}{s:ByteArray}{w:Int}(k:I.xs[i]?=some ⟨1,⟨33,0,a,0,n⟩,s,w⟩)(c:0<=a/\a<=31/\a≠25) :
 S.Go I V (I.adr i) 1 V (u32m (V.reg a+n)):=λ m hm=>by
 obtain⟨g,hg,hn⟩:=Z8 hI h0 h1 k;have f:=hm.reg a c.1 c.2.1 c.2.2;have h:u32m (V.reg a+u32m n)=u32m (V.reg a+n):=by unfold u32m;omega
 have b:m.act ⟨33,0,a,0,n⟩=(m,u32m (V.reg a+n),0):=by
  unfold S.Mach.act S.Mach.put;simp[f,h]
 obtain⟨e,d⟩:=Zz hI hm h0 h1 (j:=0) (y:=⟨33,0,a,0,n⟩) (by rw[g];rfl) (by simp) hg (by rw[b]);exact⟨1,Yb _,Zed hI hm e (Y5 _) b⟩
theorem Zet {V:S.Vw}{y:Inst}{s:ByteArray}{w:Int}(a:I.xs[i]?=some ⟨2,y,s,w⟩):S.Go I V (I.adr i) 0 V (I.adr (i+1)):=by
 have e:I.adr (i+1)=I.adr i:=by
  rw[Z7 hI a];simp[S.size]
 rw[e];exact Zdl _ _ _
end
end
end
