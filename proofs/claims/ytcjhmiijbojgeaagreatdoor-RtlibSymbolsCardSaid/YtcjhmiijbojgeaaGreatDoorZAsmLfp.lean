/- Parts. -/
import Derived.Test.YtcjhmiijbojgeaaGreatDoorZYx
import Derived.WalkKit
set_option linter.all false
open List renaming getElem?_eq_some_iff->Yg,getD_eq_getElem?_getD->Yh
namespace Go.Proofs.YtcjhmiijbojgeaaGreatDoor
namespace S
structure Inst where
 op:Int
 d:Int
 a:Int
 b:Int
 imm:Int
def form (op:Int):Int :=
 if 1<=op/\op<=14 then 1 else if op=23 then 3 else if (15<=op/\op<=24)\/op=33 then 2
 else if 25<=op/\op<=31 then 4 else if op=32 then 5 else if op=34 then 6 else if op=35\/op=36 then 7 else 0
def least (op:Int):Int :=
 if op=32 then -1048576 else if (16<=op/\op<=21)\/op=23 then 0
 else if form op=2\/form op=4 then -32768 else 0
def most (op:Int):Int :=
 if op=32 then 1048575 else if (16<=op/\op<=18)\/op=23 then 65535 else if 19<=op/\op<=21 then 31
 else if form op=2\/form op=4 then 32767 else 0
def hasD (f:Int):Bool:=decide (f=1\/f=2\/f=3\/f=5\/f=6)
def hasA (f:Int):Bool:=decide (f=1\/f=2\/f=4\/f=7)
def hasB (f:Int):Bool:=decide (f=1\/f=4)
def bitsOf (f:Int):Int:=if f=5 then 21 else if 2<=f/\f<=4 then 16 else 0
def reg (is:Bool)(n:Int):Bool:=decide (n=0\/(is=true/\0<=n/\n<=31))
def good (x:Inst):Bool :=
 decide (form x.op≠0) && reg (hasD (form x.op)) x.d && reg (hasA (form x.op)) x.a && reg (hasB (form x.op)) x.b &&
  decide (least x.op<=x.imm) && decide (x.imm<=most x.op)
def chk (x:Inst):Int:=if good x=true then 0 else 11
def enc (x:Inst):Int :=
 if form x.op=1 then x.op*67108864+x.d*2097152+x.a*65536+x.b*2048
 else if form x.op=2 then x.op*67108864+x.d*2097152+x.a*65536+x.imm%65536
 else if form x.op=3 then x.op*67108864+x.d*2097152+x.imm
 else if form x.op=4 then x.op*67108864+x.a*2097152+x.b*65536+x.imm%65536
 else if form x.op=5 then x.op*67108864+x.d*2097152+x.imm%2097152
 else if form x.op=6 then x.op*67108864+x.d*2097152
 else x.op*67108864+x.a*2097152
def turned (op:Int):Int:=if op<26\/31<op then 0 else if op%2=0 then op+1 else op-1
end S
theorem Zdt (op:Int):(S.form op=0/\(op<1\/36<op))\/(S.form op=1/\1<=op/\op<=14)\/(S.form op=2/\((15<=op/\op<=24/\op≠23)\/op=33))\/(S.form op=3/\op=23) \/
 (S.form op=4/\25<=op/\op<=31)\/(S.form op=5/\op=32)\/(S.form op=6/\op=34)\/(S.form op=7/\(op=35\/op=36)):=by
 grind [S.form]
theorem Zfa {op d a b imm:Int}(hg:S.good ⟨op,d,a,b,imm⟩=true):1<=op/\op<=36/\0<=d/\d<=31/\0<=a/\a<=31/\0<=b/\b<=31 /\
 ((S.form op=1/\S.hasD (S.form op)=true/\S.hasA (S.form op)=true/\S.hasB (S.form op)=true/\S.bitsOf (S.form op)=0/\0<=imm/\imm<=0)\/(S.form op=2/\S.hasD (S.form op)=true/\S.hasA (S.form op)=true/\S.hasB (S.form op)=false/\S.bitsOf (S.form op)=16/\-32768<=imm/\imm<=65535)\/(S.form op=3/\S.hasD (S.form op)=true/\S.hasA (S.form op)=false/\S.hasB (S.form op)=false/\S.bitsOf (S.form op)=16/\0<=imm/\imm<=65535)\/(S.form op=4/\S.hasD (S.form op)=false/\S.hasA (S.form op)=true/\S.hasB (S.form op)=true/\S.bitsOf (S.form op)=16/\-32768<=imm/\imm<=32767)\/(S.form op=5/\S.hasD (S.form op)=true/\S.hasA (S.form op)=false/\S.hasB (S.form op)=false/\S.bitsOf (S.form op)=21/\-1048576<=imm/\imm<=1048575)\/(S.form op=6/\S.hasD (S.form op)=true/\S.hasA (S.form op)=false/\S.hasB (S.form op)=false/\S.bitsOf (S.form op)=0/\0<=imm/\imm<=0)\/(S.form op=7/\S.hasD (S.form op)=false/\S.hasA (S.form op)=true/\S.hasB (S.form op)=false/\S.bitsOf (S.form op)=0/\0<=imm/\imm<=0)):=by
 simp only[S.good,Bool.and_eq_true,decide_eq_true_eq,S.reg] at hg;obtain⟨⟨⟨⟨⟨f,k⟩,g⟩,j⟩,i⟩,l⟩:=hg;have c:0<=d/\d<=31/\0<=a/\a<=31/\0<=b/\b<=31:=by omega
 rcases Zdt op with⟨h,e⟩|⟨h,e⟩|⟨h,e⟩|⟨h,e⟩|⟨h,e⟩|⟨h,e⟩|⟨h,e⟩|⟨h,e⟩
 .exact absurd h f
 all_goals
  refine⟨by omega,by omega,c.1,c.2.1,c.2.2.1,c.2.2.2.1,c.2.2.2.2.1,c.2.2.2.2.2,?_⟩;simp only[S.least,S.most,h] at i l;simp[h,S.hasD,S.hasA,S.hasB,S.bitsOf];clear f k g j c h
  grind
namespace S
structure Item where
 kind:Int
 inst:Inst
 label:ByteArray
 word:Int
def wordOf (x:Inst):Int:=if good x=true then enc x else 0
def size (x:Item)(form:Int):Int :=
 if x.kind=2 then 0 else if x.kind=3/\form=3 then 4 else if x.kind=3 then form else if x.kind=4 then 2*form-1
 else if x.kind=5 then 2 else if x.kind=8 then x.word else 1
def regOk (n:Int):Bool:=decide (0<=n/\n<=31)
def chkItem (x:Item):Int :=
 if x.kind<1\/8<x.kind then 4
 else if x.kind=1/\chk x.inst≠0 then 11
 else if x.kind=3/\(turned x.inst.op=0\/¬(regOk x.inst.a=true)\/¬(regOk x.inst.b=true)) then 11
 else if (x.kind=4\/x.kind=5)/\¬(regOk x.inst.d=true) then 11
 else 0
def named (x:Item):Bool:=decide (x.kind=3\/x.kind=4\/x.kind=5\/x.kind=7)
def firstErr:List Item->Int
 | []=>0
 | x::r=>if chkItem x≠0 then chkItem x else firstErr r
def standsFrom (xs:List Item)(lab:ByteArray):Nat->Nat->Int
 | 0,_=>-1
 | f+1,i=>match xs[i]? with
  | none=>-1
  | some x=>if x.kind=2/\x.label=lab then i else standsFrom xs lab f (i+1)
def stands (xs:List Item)(lab:ByteArray):Int:=standsFrom xs lab xs.length 0
def Dup (xs:List Item):Prop:=∃(i:Nat)(x:Item),xs[i]?=some x/\x.kind=2/\stands xs x.label≠i
def Miss (xs:List Item):Prop:=∃(i:Nat)(x:Item),xs[i]?=some x/\named x=true/\stands xs x.label<0
def lui (tq:Int):Int:=wordOf ⟨23,25,0,0,tq/65536⟩
def ori (tq:Int):Int:=wordOf ⟨17,25,25,0,tq%65536⟩
def wordsOf (x:Item)(form at_ tq:Int):List Int :=
 if x.kind=1 then [wordOf x.inst]
 else if x.kind=3/\form=1 then [wordOf ⟨x.inst.op,0,x.inst.a,x.inst.b,tq-at_-1⟩]
 else if x.kind=3/\form=2 then [wordOf ⟨turned x.inst.op,0,x.inst.a,x.inst.b,1⟩,wordOf ⟨32,0,0,0,tq-at_-2⟩]
 else if x.kind=3 then [wordOf ⟨turned x.inst.op,0,x.inst.a,x.inst.b,3⟩,lui tq,ori tq,wordOf ⟨33,0,25,0,0⟩]
 else if x.kind=4/\form=1 then [wordOf ⟨32,x.inst.d,0,0,tq-at_-1⟩]
 else if x.kind=4 then [lui tq,ori tq,wordOf ⟨33,x.inst.d,25,0,0⟩]
 else if x.kind=5 then [wordOf ⟨23,x.inst.d,0,0,(tq+x.word)%4294967296/65536⟩,wordOf ⟨17,x.inst.d,x.inst.d,0,(tq+x.word)%4294967296%65536⟩]
 else if x.kind=6 then [x.word]
 else if x.kind=7 then [(4*tq+x.word)%4294967296]
 else if x.kind=8 then List.replicate x.word.toNat 0
 else []
def most26:Int:=67108864
def CheckRes (xs:List Item)(base r:Int):Prop :=
 ((base<0\/most26<base)/\r=2) \/
 (0<=base/\base<=most26/\firstErr xs≠0/\r=firstErr xs) \/
 (0<=base/\base<=most26/\firstErr xs=0/\Dup xs/\r=14) \/
 (0<=base/\base<=most26/\firstErr xs=0/\¬Dup xs/\Miss xs/\r=12) \/
 (0<=base/\base<=most26/\firstErr xs=0/\¬Dup xs/\¬Miss xs/\r=0)
def sizeAt (xs:List Item)(F:List Int)(i:Nat):Int :=
 match xs[i]? with
 | none=>0
 | some x=>size x (F.getD i 0)
def addr (xs:List Item)(F:List Int)(base:Int):Nat->Int
 | 0=>base
 | i+1=>addr xs F base i+sizeAt xs F i
def FormOk (xs:List Item)(F:List Int):Prop :=
 F.length=xs.length/\∀(i:Nat)(x:Item),xs[i]?=some x ->
  (x.kind=3->1<=F.getD i 0/\F.getD i 0<=3)/\(x.kind=4->1<=F.getD i 0/\F.getD i 0<=2)/\(x.kind≠3->x.kind≠4->F.getD i 0=0)
def fit (xs:List Item)(F:List Int)(base:Int)(i:Nat)(x:Item):Bool :=
 if (x.kind≠3/\x.kind≠4)\/(x.kind=3/\F.getD i 0=3)\/(x.kind=4/\F.getD i 0=2) then true
 else if x.kind=3/\F.getD i 0=1 then
  decide (-32768<=addr xs F base (stands xs x.label).toNat-addr xs F base (i+1)/\addr xs F base (stands xs x.label).toNat-addr xs F base (i+1)<=32767)
 else decide (-1048576<=addr xs F base (stands xs x.label).toNat-addr xs F base (i+1)/\addr xs F base (stands xs x.label).toNat-addr xs F base (i+1)<=1048575)
end S
theorem Zq4 (op a b:Int):S.chk ⟨S.turned op,0,a,b,0⟩=if S.turned op=0\/¬(S.regOk a=true)\/¬(S.regOk b=true) then 11 else 0:=by
 by_cases h:S.turned op=0
 .simp only[h,true_or,if_true]
  have hf:S.form 0=0:=by decide
  simp[S.chk,S.good,hf]
 .have ht:26<=S.turned op/\S.turned op<=31:=by
   revert h;unfold S.turned;grind
  have hf:S.form (S.turned op)=4:=by
   unfold S.form;grind
  have c:S.least (S.turned op)=-32768/\S.most (S.turned op)=32767:=by
   unfold S.least S.most;grind
  simp only[S.chk,S.good,hf,S.hasD,S.hasA,S.hasB,S.reg,S.regOk,c.1,c.2];simp[h]
  grind
theorem Zxj (d:Int):S.chk ⟨32,d,0,0,0⟩=if ¬(S.regOk d=true) then 11 else 0:=by
 have hf:S.form 32=5:=by decide
 have a:S.least 32=-1048576/\S.most 32=1048575:=by decide
 simp only[S.chk,S.good,hf,S.hasD,S.hasA,S.hasB,S.reg,S.regOk,a.1,a.2];simp
 grind
theorem Zdu (xs:List S.Item)(lab:ByteArray):∀(f i:Nat),i+f=xs.length ->
 (S.standsFrom xs lab f i=-1/\∀(j:Nat)(x:S.Item),i<=j->xs[j]?=some x->¬(x.kind=2/\x.label=lab)) \/
 ∃(j:Nat)(x:S.Item),S.standsFrom xs lab f i=j/\i<=j/\xs[j]?=some x/\x.kind=2/\x.label=lab/\∀(m:Nat)(y:S.Item),i<=m->m<j->xs[m]?=some y->¬(y.kind=2/\y.label=lab)
 | 0,i,h=>by
  left
  refine⟨rfl,λ j x r b=>?_⟩;have:=(Yg.1 b).1;omega
 | f+1,i,h=>by
  have hi:i<xs.length:=by omega
  have b:xs[i]?=some xs[i]:=List.getElem?_eq_getElem hi;rw[S.standsFrom,b];by_cases c:xs[i].kind=2/\xs[i].label=lab
  .right
   refine⟨i,xs[i],by simp[c],Nat.le_refl _,b,c.1,c.2,λ m y d k=>by omega⟩
  .simp only[c,if_false]
   rcases Zdu xs lab f (i+1) (by omega) with⟨d,k⟩|⟨j,x,d,k,q,o,n,p⟩
   .left
    refine⟨d,λ j x r a=>?_⟩;by_cases e:j=i
    .subst e;rw[b] at a;cases a;exact c
    .exact k j x (by omega) a
   .right
    refine⟨j,x,d,by omega,q,o,n,λ m y hm g l=>?_⟩;by_cases e:m=i
    .subst e;rw[b] at l;cases l;exact c
    .exact p m y (by omega) g l
theorem Zaj (xs:List S.Item)(lab:ByteArray) :
 (S.stands xs lab=-1/\∀(j:Nat)(x:S.Item),xs[j]?=some x->¬(x.kind=2/\x.label=lab)) \/
 ∃(j:Nat)(x:S.Item),S.stands xs lab=j/\xs[j]?=some x/\x.kind=2/\x.label=lab/\∀(m:Nat)(y:S.Item),m<j->xs[m]?=some y->¬(y.kind=2/\y.label=lab):=by
 rcases Zdu xs lab xs.length 0 (by omega) with⟨a,e⟩|⟨j,x,a,_,b,d,c,f⟩
 .exact .inl ⟨a,λ j x h=>e j x (Nat.zero_le _) h⟩
 .exact .inr ⟨j,x,a,b,d,c,λ m y hm g=>f m y (Nat.zero_le _) hm g⟩
theorem Zhq {xs:List S.Item}{F:List Int}(hF:S.FormOk xs F)(a:∀x∈xs,0<=x.word/\x.word<=4294967295)(i:Nat):0<=S.sizeAt xs F i/\S.sizeAt xs F i<=4294967295:=by
 unfold S.sizeAt
 split
 .omega
 .rename_i x hx
  obtain⟨h3,h4,_⟩:=hF.2 i x hx;obtain⟨h5,h6⟩:=a x (List.mem_of_getElem? hx);unfold S.size
  grind
theorem Zcm {xs:List S.Item}{F:List Int}{base:Int}(hF:S.FormOk xs F)(a:∀x∈xs,0<=x.word/\x.word<=4294967295):∀i:Nat,base<=S.addr xs F base i/\S.addr xs F base i<=base+i*4294967295
 | 0=>by simp[S.addr]
 | i+1=>by
  obtain⟨h1,h2⟩:=Zcm hF a (base:=base) i;obtain⟨h3,h4⟩:=Zhq hF a i;simp only[S.addr];omega
namespace S
def Stable (xs:List Item)(base:Int)(G:List Int):Prop:=FormOk xs G/\∀(i:Nat)(x:Item),xs[i]?=some x->fit xs G base i x=true
def Inv (xs:List Item)(base:Int)(F:List Int):Prop:=FormOk xs F/\∀G,Stable xs base G->∀i,F.getD i 0<=G.getD i 0
def startForm (x:Item):Int:=if x.kind=3\/x.kind=4 then 1 else 0
def FormsRes (xs:List Item)(base e:Int)(F:List Int):Prop :=
 (e≠0/\CheckRes xs base e/\F=[]) \/
 (CheckRes xs base 0/\e=3/\F=[]/\∃G,Inv xs base G/\most26<addr xs G base xs.length) \/
 (CheckRes xs base 0/\e=0/\Inv xs base F/\Stable xs base F/\addr xs F base xs.length<=most26)
end S
theorem Zq5 (xs:List S.Item)(base:Int):S.Inv xs base (xs.map S.startForm):=by
 have hg:∀(i:Nat)(x:S.Item),xs[i]?=some x->(xs.map S.startForm).getD i 0=S.startForm x:=by
  intro i x a;simp[Yh,a]
 refine⟨⟨by simp,λ i x a=>?_⟩,λ G b i=>?_⟩
 .rw[hg i x a]
  unfold S.startForm
  grind
 .cases a:xs[i]? with
  | none =>
   simp[Yh,a];have:G[i]?=none:=by
    rw[List.getElem?_eq_none_iff] at a⊢;rw[b.1.1];exact a
   simp[this]
  | some x =>
   rw[hg i x a];obtain⟨h3,h4,h5⟩:=b.1.2 i x a;unfold S.startForm
   grind
theorem Zs4 {x:S.Item}{f g:Int}(h:f<=g)(h3:x.kind=3->1<=f/\g<=3):S.size x f<=S.size x g:=by
 unfold S.size
 grind
theorem Zfb {xs:List S.Item}{F G:List Int}{base:Int}(hF:S.FormOk xs F)(b:S.FormOk xs G)(h:∀i,F.getD i 0<=G.getD i 0)(p:Nat) :
 ∀d:Nat,S.addr xs F base (p+d)-S.addr xs F base p<=S.addr xs G base (p+d)-S.addr xs G base p
 | 0=>by simp
 | d+1=>by
  have ih:=Zfb (base:=base) hF b h p d;have hs:S.sizeAt xs F (p+d)<=S.sizeAt xs G (p+d):=by
   unfold S.sizeAt
   cases hx:xs[p+d]? with
   | none=>simp
   | some x =>
    exact Zs4 (h (p+d)) λ a=>⟨((hF.2 _ x hx).1 a).1,((b.2 _ x hx).1 a).2⟩
  show S.addr xs F base (p+d)+S.sizeAt xs F (p+d)-S.addr xs F base p<=S.addr xs G base (p+d)+S.sizeAt xs G (p+d)-S.addr xs G base p
  omega
theorem Zhr {xs:List S.Item}{F:List Int}{base:Int}(hF:S.FormOk xs F)(a:∀x∈xs,0<=x.word/\x.word<=4294967295)(p:Nat) :
 ∀d:Nat,S.addr xs F base p<=S.addr xs F base (p+d)
 | 0=>by simp
 | d+1=>by
  have ih:=Zhr (base:=base) hF a p d;have:=(Zhq hF a (p+d)).1
  show S.addr xs F base p<=S.addr xs F base (p+d)+S.sizeAt xs F (p+d)
  omega
theorem Zxk {xs:List S.Item}{F G:List Int}{base:Int}(hF:S.FormOk xs F)(e:S.FormOk xs G)(f:∀x∈xs,0<=x.word/\x.word<=4294967295)(h:∀i,F.getD i 0<=G.getD i 0)
 {i:Nat} {x:S.Item} (k:xs[i]?=some x) (hi:F.getD i 0=G.getD i 0) (hf:S.fit xs F base i x=false):S.fit xs G base i x=false:=by
 have l:=(Yg.1 k).1;unfold S.fit at hf⊢;rw[<- hi]
 split
 .rename_i c;rw[if_pos c] at hf;cases hf
 .rename_i c
  rw[if_neg c] at hf;generalize (S.stands xs x.label).toNat=j at *;rcases Nat.lt_or_ge i j with a|a
  .obtain⟨d,rfl⟩:∃d,j=(i+1)+d:=⟨j-(i+1),by omega⟩
   have g:=Zfb (base:=base) hF e h (i+1) d;have b:=Zhr (base:=base) hF f (i+1) d;by_cases c2:x.kind=3/\F.getD i 0=1
   .rw[if_pos c2] at hf⊢
    rw[decide_eq_false_iff_not] at hf⊢;omega
   .rw[if_neg c2] at hf⊢
    rw[decide_eq_false_iff_not] at hf⊢;omega
  .obtain⟨d,hd⟩:∃d,i+1=j+d:=⟨i+1-j,by omega⟩
   have g:=Zfb (base:=base) hF e h j d;have b:=Zhr (base:=base) hF f j d;rw[<- hd] at g b;by_cases c2:x.kind=3/\F.getD i 0=1
   .rw[if_pos c2] at hf⊢
    rw[decide_eq_false_iff_not] at hf⊢;omega
   .rw[if_neg c2] at hf⊢
    rw[decide_eq_false_iff_not] at hf⊢;omega
theorem Za0 {F:List Int}{i:Nat}{v:Int}(h:i<F.length):(F.set i v).getD i 0=v:=by simp[h]
theorem Z9 {F:List Int}{i j:Nat}{v:Int}(h:i≠j):(F.set i v).getD j 0=F.getD j 0:=by simp[List.getElem?_set_ne h]
theorem Zl7 {xs:List S.Item}{F:List Int}{base:Int}(hF:S.FormOk xs F){i:Nat}{x:S.Item}(f:xs[i]?=some x)(hf:S.fit xs F base i x=false) :
 (x.kind=3/\1<=F.getD i 0/\F.getD i 0<=2)\/(x.kind=4/\F.getD i 0=1):=by
 obtain⟨b,d,_⟩:=hF.2 i x f;unfold S.fit at hf
 split at hf
 .cases hf
 .rename_i c
  by_cases a:x.kind=3
  .have:=b a;left;refine⟨a,by omega,?_⟩;by_cases e:F.getD i 0=3
   .exact absurd (.inr (.inl ⟨a,e⟩)) c
   .omega
  .by_cases k4:x.kind=4
   .have:=d k4;right;refine⟨k4,?_⟩;by_cases e:F.getD i 0=2
    .exact absurd (.inr (.inr ⟨k4,e⟩)) c
    .omega
   .exact absurd (.inl ⟨a,k4⟩) c
theorem Zn9 {xs:List S.Item}{F:List Int}(hF:S.FormOk xs F){i:Nat}{x:S.Item}(c:xs[i]?=some x)(h:(x.kind=3/\1<=F.getD i 0/\F.getD i 0<=2)\/(x.kind=4/\F.getD i 0=1)) :
 S.FormOk xs (F.set i (F.getD i 0+1)):=by
 have a:=(Yg.1 c).1;refine⟨by rw[List.length_set];exact hF.1,λ j y b=>?_⟩;by_cases e:i=j
 .subst e
  rw[c] at b;cases b;rw[Za0 (by rw[hF.1];exact a)];omega
 .rw[Z9 e]
  exact hF.2 j y b
theorem Zxl {xs:List S.Item}{base:Int}{F f:List Int}(g:S.Inv xs base F)(b:S.Inv xs base f)(m:∀x∈xs,0<=x.word/\x.word<=4294967295)
 {i:Nat} {x:S.Item} (c:xs[i]?=some x) (a:f.getD i 0=F.getD i 0) (hf:S.fit xs F base i x=false):S.Inv xs base (f.set i (f.getD i 0+1)):=by
 have h:=(Yg.1 c).1;have k:=Zl7 g.1 c hf;rw[<- a] at k;refine⟨Zn9 b.1 c k,λ G d j=>?_⟩;by_cases e:i=j
 .subst e
  rw[Za0 (by rw[b.1.1];exact h)];have l:=g.2 G d i;rw[a];by_cases n:F.getD i 0=G.getD i 0
  .have:=Zxk g.1 d.1 m (g.2 G d) c n hf
   rw[d.2 i x c] at this
   cases this
  .omega
 .rw[Z9 e]
  exact b.2 G d j
theorem Zat {xs:List S.Item}{base r s:Int}(h:S.CheckRes xs base r)(k:S.CheckRes xs base s):r=s:=by
 unfold S.CheckRes at h k;rcases h with⟨c,a⟩|⟨c,a,d,f⟩|⟨c,a,d,f,i⟩|⟨c,a,d,f,i,m⟩|⟨c,a,d,f,i,m⟩ <;>
 rcases k with⟨b,k2⟩|⟨b,k2,e,g⟩|⟨b,k2,e,g,j⟩|⟨b,k2,e,g,j,l⟩|⟨b,k2,e,g,j,l⟩ <;>
 first
  | omega
  | (exact absurd ‹S.Dup xs› ‹¬S.Dup xs›)
  | (exact absurd ‹S.Miss xs› ‹¬S.Miss xs›)
theorem Zda {F G:List Int}(h:F.length=G.length)(k:∀i,F.getD i 0=G.getD i 0):F=G:=by
 apply List.ext_getElem h
 intro i b a;have:=k i
 simpa[b,a] using this
theorem Zfc {xs:List S.Item}{base:Int}{F G:List Int}(hF:S.Inv xs base F)(a:S.Stable xs base G):S.addr xs F base xs.length<=S.addr xs G base xs.length:=by
 have:=Zfb (base:=base) hF.1 a.1 (hF.2 G a) 0 xs.length;simp only[Nat.zero_add] at this;simp only[S.addr] at this;omega
theorem Zl8 {xs:List S.Item}{base e f:Int}{F G:List Int}(h:S.FormsRes xs base e F)(k:S.FormsRes xs base f G):e=f/\F=G:=by
 rcases h with⟨g,l,d⟩|⟨g,l,d,H,m,o⟩|⟨g,l,d,m,o⟩ <;>
 rcases k with⟨j,k2,c⟩|⟨j,k2,c,K,n,p⟩|⟨j,k2,c,n,p⟩
 .exact⟨Zat l k2,by rw[d,c]⟩
 .exact absurd (Zat l j) g
 .exact absurd (Zat l j) g
 .exact absurd (Zat k2 g) j
 .exact⟨by omega,by rw[d,c]⟩
 .have:=Zfc m n;omega
 .exact absurd (Zat k2 g) j
 .have:=Zfc n m;omega
 .refine⟨by omega,Zda (by rw[d.1.1,c.1.1]) λ i=>?_⟩
  have a:=d.2 G n i;have b:=c.2 F m i;omega
def Zs5 (F:List Int):Nat:=(F.map λ f=>(3-f).toNat).sum
theorem Zxm {F:List Int}{i:Nat}(h:i<F.length)(a:F.getD i 0<=2):Zs5 (F.set i (F.getD i 0+1))<Zs5 F:=by
 induction F generalizing i with
 | nil=>simp at h
 | cons f F ih =>
  cases i with
  | zero=>simp[Zs5] at *;omega
  | succ i =>
   have:=ih (i:=i) (by simpa using h) (by simpa using a);simp[Zs5] at *;omega
theorem Zk0 {xs:List S.Item}{k:Nat}{x:S.Item}(a:xs[k]?=some x):S.firstErr (xs.drop k)=if S.chkItem x≠0 then S.chkItem x else S.firstErr (xs.drop (k+1)):=by
 have b:=(Yg.1 a).1;have c:=(Yg.1 a).2;rw[List.drop_eq_getElem_cons b,c,S.firstErr]
theorem Zl9 {xs:List S.Item}{base:Int}(h:S.CheckRes xs base 0){i:Nat}{x:S.Item}(c:xs[i]?=some x)(b:S.named x=true):0<=S.stands xs x.label:=by
 rcases h with⟨_,h⟩|⟨_,_,h,h'⟩|⟨_,_,_,_,h⟩|⟨_,_,_,_,_,h⟩|⟨_,_,_,_,hm,_⟩
 .omega
 .omega
 .omega
 .omega
 .have:¬S.stands xs x.label<0:=λ a=>hm ⟨i,x,c,b,a⟩
  omega
theorem Z07 {xs:List S.Item}{base:Int}(h:S.CheckRes xs base 0):0<=base/\base<=67108864:=by
 rcases h with⟨_,h⟩|⟨h0,a,_⟩|⟨h0,a,_⟩|⟨h0,a,_⟩|⟨h0,a,_⟩
 .omega
 all_goals exact⟨h0,a⟩
