/- Parts. -/
import Derived.Test.YtlldagdhlfpihaaGreatDoorZBits
set_option linter.unusedVariables false
set_option linter.unusedSimpArgs false
set_option linter.unusedSectionVars false
namespace Go.Proofs.YtlldagdhlfpihaaGreatDoor
section
open Go.RowKit
namespace S
structure Mach where
 reg:List Int
 mem:List Int
 place:Int
 input:List Int
 out:List Int
 state:Int
 code:Int
 trap:Int
 steps:Int
def u32m (x:Int):Int:=x%4294967296
def sgn (w:Int):Int:=if 2147483648<=w then w-4294967296 else w
def truth (p:Prop) [Decidable p]:Int:=if p then 1 else 0
def alu (op a b:Int):Int :=
 if op=1 then u32m (a+b) else if op=2 then u32m (a-b) else if op=3 then u32m (a*b) else if op=4 then a*b/4294967296
 else if op=5 then a/b else if op=6 then a%b else if op=7 then bits .and .u32 a b else if op=8 then bits .or .u32 a b
 else if op=9 then bits .xor .u32 a b else if op=10 then u32m (a*2^(b%32).toNat) else if op=11 then a/2^(b%32).toNat
 else if op=12 then u32m (sgn a/2^(b%32).toNat) else if op=13 then truth (sgn a<sgn b) else truth (a<b)
def like (op:Int):Int:=if op=15 then 1 else op-9
def goes (op a b:Int):Bool :=
 if op=26 then decide (a=b) else if op=27 then decide (a≠b) else if op=28 then decide (sgn a<sgn b) else if op=29 then decide (sgn b<=sgn a)
 else if op=30 then decide (a<b) else decide (b<=a)
namespace Mach
def put (m:Mach) (d v:Int):Mach:=if d=0 then m else { m with reg:=m.reg.set d.toNat v }
def fell (m:Mach) (t:Int):Mach:={ m with state:=2,trap:=t }
def rd (m:Mach) (i:Int):Int:=m.reg.getD i.toNat 0
def act (m:Mach) (i:Inst):Mach×Int×Int :=
 let a:=m.rd i.a
 let b:=m.rd i.b
 let imm:=u32m i.imm
 let next:=u32m (m.place+1)
 let at_:=u32m (a+imm)
 if i.op<=14 then (if b=0/\(i.op=5\/i.op=6) then (m,0,4) else (m.put i.d (alu i.op a b),next,0))
 else if i.op<=22 then (m.put i.d (alu (like i.op) a imm),next,0)
 else if i.op=23 then (m.put i.d (u32m (imm*65536)),next,0)
 else if i.op=24 then (if at_<m.mem.length then (m.put i.d (m.mem.getD at_.toNat 0),next,0) else (m,0,2))
 else if i.op=25 then (if at_<m.mem.length then ({ m with mem:=m.mem.set at_.toNat b },next,0) else (m,0,2))
 else if i.op<=31 then (m,if goes i.op a b=true then u32m (next+imm) else next,0)
 else if i.op=32 then (m.put i.d next,u32m (next+imm),0)
 else if i.op=33 then (m.put i.d next,at_,0)
 else if i.op=34 then
  match m.input with
  | []=>(m.put i.d 4294967295,next,0)
  | x::r=>(({ m with input:=r }:Mach).put i.d x,next,0)
 else if i.op=35 then ({ m with out:=m.out++[a%256] },next,0)
 else ({ m with state:=1,code:=a },m.place,0)
def step (m:Mach):Mach :=
 if m.state≠0 then m
 else if (m.mem.length:Int)<=m.place then m.fell 3
 else if decE (m.mem.getD m.place.toNat 0)≠0 then m.fell 1
 else if (m.act (dec (m.mem.getD m.place.toNat 0))).2.2≠0 then m.fell (m.act (dec (m.mem.getD m.place.toNat 0))).2.2
 else { (m.act (dec (m.mem.getD m.place.toNat 0))).1 with place:=(m.act (dec (m.mem.getD m.place.toNat 0))).2.1,steps:=m.steps+1 }
def steps_ (m:Mach):Nat->Mach
 | 0=>m
 | n+1=>(steps_ m n).step
structure Ok (m:Mach):Prop where
 regs:m.reg.length=32
 word:∀ i,0<=m.reg.getD i 0/\m.reg.getD i 0<=4294967295
 zero:m.reg.getD 0 0=0
 mem:0<m.mem.length
 memw:∀ i,0<=m.mem.getD i 0/\m.mem.getD i 0<=4294967295
 place0:0<=m.place
 place1:m.place<=4294967295
 inp:∀ x∈m.input,0<=x/\x<=255
 outp:∀ x∈m.out,0<=x/\x<=255
 code0:0<=m.code
 code1:m.code<=4294967295
end Mach
end S
end
section
open Go.RowKit
theorem ofInt_toNat {a:Int}(h0:0<=a) (h1:a<=4294967295):(BitVec.ofInt 32 a).toNat=a.toNat:=by
 rw [BitVec.toNat_ofInt]
 omega
theorem u32_and {a b:Int}(a0:0<=a) (a1:a<=4294967295) (b0:0<=b) (b1:b<=4294967295):bits .and .u32 a b=((a.toNat &&& b.toNat:Nat):Int):=by
 show IntKind.u32.wrap ((BitVec.ofInt 32 a &&& BitVec.ofInt 32 b).toNat:Int)=_
 rw [BitVec.toNat_and,ofInt_toNat a0 a1,ofInt_toNat b0 b1]
 exact wraps_u32 _ (by omega) (by have:=Nat.and_lt_two_pow a.toNat (show b.toNat<2^32 by omega);omega)
theorem u32_or {a b:Int}(a0:0<=a) (a1:a<=4294967295) (b0:0<=b) (b1:b<=4294967295):bits .or .u32 a b=((a.toNat ||| b.toNat:Nat):Int):=by
 show IntKind.u32.wrap ((BitVec.ofInt 32 a ||| BitVec.ofInt 32 b).toNat:Int)=_
 rw [BitVec.toNat_or,ofInt_toNat a0 a1,ofInt_toNat b0 b1]
 exact wraps_u32 _ (by omega) (by have:=Nat.or_lt_two_pow (show a.toNat<2^32 by omega) (show b.toNat<2^32 by omega);omega)
theorem u32_xor {a b:Int}(a0:0<=a) (a1:a<=4294967295) (b0:0<=b) (b1:b<=4294967295):bits .xor .u32 a b=((a.toNat ^^^ b.toNat:Nat):Int):=by
 show IntKind.u32.wrap ((BitVec.ofInt 32 a ^^^ BitVec.ofInt 32 b).toNat:Int)=_
 rw [BitVec.toNat_xor,ofInt_toNat a0 a1,ofInt_toNat b0 b1]
 exact wraps_u32 _ (by omega) (by have:=Nat.xor_lt_two_pow (show a.toNat<2^32 by omega) (show b.toNat<2^32 by omega);omega)
theorem sgn_wrap {a:Int}(a0:0<=a) (a1:a<=4294967295):IntKind.i32.wrap a=S.sgn a:=by
 unfold S.sgn
 rw [IntKind.wrap_i32]
 split <;> omega
theorem u32_wrap (x:Int):IntKind.u32.wrap x=S.u32m x:=by
 unfold S.u32m
 rw [IntKind.wrap_u32]
theorem u32_bd (x:Int):0<=S.u32m x/\S.u32m x<=4294967295:=by unfold S.u32m;omega
end
section
namespace S
structure Item where
 kind:Int
 inst:Inst
 label:ByteArray
 word:Int
def wordOf (x:Inst):Int:=if good x=true then enc x else 0
def size (x:Item) (form:Int):Int :=
 if x.kind=2 then 0 else if x.kind=3/\form=3 then 4 else if x.kind=3 then form else if x.kind=4 then 2*form-1
 else if x.kind=5 then 2 else if x.kind=8 then x.word else 1
def regOk (n:Int):Bool:=decide (0<=n/\n<=31)
def chkItem (x:Item):Int :=
 if x.kind<1\/8<x.kind then 4
 else if x.kind=1/\chk x.inst≠0 then 11
 else if x.kind=3/\(turned x.inst.op=0\/¬ (regOk x.inst.a=true)\/¬ (regOk x.inst.b=true)) then 11
 else if (x.kind=4\/x.kind=5)/\¬ (regOk x.inst.d=true) then 11
 else 0
def named (x:Item):Bool:=decide (x.kind=3\/x.kind=4\/x.kind=5\/x.kind=7)
def firstErr:List Item->Int
 | []=>0
 | x::r=>if chkItem x≠0 then chkItem x else firstErr r
def standsFrom (xs:List Item) (lab:ByteArray):Nat->Nat->Int
 | 0,_=>-1
 | f+1,i=>match xs[i]? with
  | none=>-1
  | some x=>if x.kind=2/\x.label=lab then i else standsFrom xs lab f (i+1)
def stands (xs:List Item) (lab:ByteArray):Int:=standsFrom xs lab xs.length 0
def Dup (xs:List Item):Prop:=∃ (i:Nat) (x:Item),xs[i]?=some x/\x.kind=2/\stands xs x.label≠i
def Miss (xs:List Item):Prop:=∃ (i:Nat) (x:Item),xs[i]?=some x/\named x=true/\stands xs x.label<0
def lui (tq:Int):Int:=wordOf ⟨23,25,0,0,tq/65536⟩
def ori (tq:Int):Int:=wordOf ⟨17,25,25,0,tq%65536⟩
def wordsOf (x:Item) (form at_ tq:Int):List Int :=
 if x.kind=1 then [wordOf x.inst]
 else if x.kind=3/\form=1 then [wordOf ⟨x.inst.op,0,x.inst.a,x.inst.b,tq-at_-1⟩]
 else if x.kind=3/\form=2 then [wordOf ⟨turned x.inst.op,0,x.inst.a,x.inst.b,1⟩,wordOf ⟨32,0,0,0,tq-at_-2⟩]
 else if x.kind=3 then [wordOf ⟨turned x.inst.op,0,x.inst.a,x.inst.b,3⟩,lui tq,ori tq,wordOf ⟨33,0,25,0,0⟩]
 else if x.kind=4/\form=1 then [wordOf ⟨32,x.inst.d,0,0,tq-at_-1⟩]
 else if x.kind=4 then [lui tq,ori tq,wordOf ⟨33,x.inst.d,25,0,0⟩]
 else if x.kind=5 then [wordOf ⟨23,x.inst.d,0,0,(tq+x.word)%4294967296/65536⟩,wordOf ⟨17,x.inst.d,x.inst.d,0,(tq+x.word)%4294967296%65536⟩]
 else if x.kind=6 then [x.word]
 else if x.kind=7 then [(4*tq+x.word)%4294967296]
 else if x.kind=8 then List.replicate x.word.toNat 0
 else []
def most26:Int:=67108864
def CheckRes (xs:List Item) (base r:Int):Prop :=
 ((base<0\/most26<base)/\r=2) \/
 (0<=base/\base<=most26/\firstErr xs≠0/\r=firstErr xs) \/
 (0<=base/\base<=most26/\firstErr xs=0/\Dup xs/\r=14) \/
 (0<=base/\base<=most26/\firstErr xs=0/\¬ Dup xs/\Miss xs/\r=12) \/
 (0<=base/\base<=most26/\firstErr xs=0/\¬ Dup xs/\¬ Miss xs/\r=0)
def sizeAt (xs:List Item) (F:List Int) (i:Nat):Int :=
 match xs[i]? with
 | none=>0
 | some x=>size x (F.getD i 0)
def addr (xs:List Item) (F:List Int) (base:Int):Nat->Int
 | 0=>base
 | i+1=>addr xs F base i+sizeAt xs F i
def FormOk (xs:List Item) (F:List Int):Prop :=
 F.length=xs.length/\∀ (i:Nat) (x:Item),xs[i]?=some x ->
  (x.kind=3->1<=F.getD i 0/\F.getD i 0<=3)/\(x.kind=4->1<=F.getD i 0/\F.getD i 0<=2)/\(x.kind≠3->x.kind≠4->F.getD i 0=0)
def fit (xs:List Item) (F:List Int) (base:Int) (i:Nat) (x:Item):Bool :=
 if (x.kind≠3/\x.kind≠4)\/(x.kind=3/\F.getD i 0=3)\/(x.kind=4/\F.getD i 0=2) then true
 else if x.kind=3/\F.getD i 0=1 then
  decide (-32768<=addr xs F base (stands xs x.label).toNat-addr xs F base (i+1)/\addr xs F base (stands xs x.label).toNat-addr xs F base (i+1)<=32767)
 else decide (-1048576<=addr xs F base (stands xs x.label).toNat-addr xs F base (i+1)/\addr xs F base (stands xs x.label).toNat-addr xs F base (i+1)<=1048575)
end S
theorem chk_turned (op a b:Int):S.chk ⟨S.turned op,0,a,b,0⟩=if S.turned op=0\/¬ (S.regOk a=true)\/¬ (S.regOk b=true) then 11 else 0:=by
 by_cases h:S.turned op=0
 ·simp only [h,true_or,if_true]
  have hf:S.form 0=0:=by decide
  simp [S.chk,S.good,hf]
 ·have ht:26<=S.turned op/\S.turned op<=31:=by
   revert h;unfold S.turned;grind
  have hf:S.form (S.turned op)=4:=by
   unfold S.form;grind
  have hl:S.least (S.turned op)=-32768/\S.most (S.turned op)=32767:=by
   unfold S.least S.most;grind
  simp only [S.chk,S.good,hf,S.hasD,S.hasA,S.hasB,S.reg,S.regOk,hl.1,hl.2]
  simp [h]
  grind
theorem chk_jump (d:Int):S.chk ⟨32,d,0,0,0⟩=if ¬ (S.regOk d=true) then 11 else 0:=by
 have hf:S.form 32=5:=by decide
 have hl:S.least 32=-1048576/\S.most 32=1048575:=by decide
 simp only [S.chk,S.good,hf,S.hasD,S.hasA,S.hasB,S.reg,S.regOk,hl.1,hl.2]
 simp
 grind
theorem standsFrom_spec (xs:List S.Item) (lab:ByteArray):∀ (f i:Nat),i+f=xs.length ->
 (S.standsFrom xs lab f i=-1/\∀ (j:Nat) (x:S.Item),i<=j->xs[j]?=some x->¬ (x.kind=2/\x.label=lab)) \/
 ∃ (j:Nat) (x:S.Item),S.standsFrom xs lab f i=j/\i<=j/\xs[j]?=some x/\x.kind=2/\x.label=lab/\∀ (m:Nat) (y:S.Item),i<=m->m<j->xs[m]?=some y->¬ (y.kind=2/\y.label=lab)
 | 0,i,h=>by
  left
  refine ⟨rfl,fun j x hj hx=>?_⟩
  have:=(List.getElem?_eq_some_iff.1 hx).1
  omega
 | f+1,i,h=>by
  have hi:i<xs.length:=by omega
  have hx:xs[i]?=some xs[i]:=List.getElem?_eq_getElem hi
  rw [S.standsFrom,hx]
  by_cases c:xs[i].kind=2/\xs[i].label=lab
  ·right
   refine ⟨i,xs[i],by simp [c],Nat.le_refl _,hx,c.1,c.2,fun m y h1 h2=>by omega⟩
  ·simp only [c,if_false]
   rcases standsFrom_spec xs lab f (i+1) (by omega) with ⟨h1,h2⟩ | ⟨j,x,h1,h2,h3,h4,h5,h6⟩
   ·left
    refine ⟨h1,fun j x hj hjx=>?_⟩
    by_cases e:j=i
    ·subst e;rw [hx] at hjx;cases hjx;exact c
    ·exact h2 j x (by omega) hjx
   ·right
    refine ⟨j,x,h1,by omega,h3,h4,h5,fun m y hm hmj hy=>?_⟩
    by_cases e:m=i
    ·subst e;rw [hx] at hy;cases hy;exact c
    ·exact h6 m y (by omega) hmj hy
theorem stands_spec (xs:List S.Item) (lab:ByteArray) :
 (S.stands xs lab=-1/\∀ (j:Nat) (x:S.Item),xs[j]?=some x->¬ (x.kind=2/\x.label=lab)) \/
 ∃ (j:Nat) (x:S.Item),S.stands xs lab=j/\xs[j]?=some x/\x.kind=2/\x.label=lab/\∀ (m:Nat) (y:S.Item),m<j->xs[m]?=some y->¬ (y.kind=2/\y.label=lab):=by
 rcases standsFrom_spec xs lab xs.length 0 (by omega) with ⟨h1,h2⟩ | ⟨j,x,h1,_,h3,h4,h5,h6⟩
 ·exact .inl ⟨h1,fun j x hx=>h2 j x (Nat.zero_le _) hx⟩
 ·exact .inr ⟨j,x,h1,h3,h4,h5,fun m y hm hy=>h6 m y (Nat.zero_le _) hm hy⟩
theorem sizeAt_bd {xs:List S.Item}{F:List Int}(hF:S.FormOk xs F) (hw:∀ x∈xs,0<=x.word/\x.word<=4294967295) (i:Nat):0<=S.sizeAt xs F i/\S.sizeAt xs F i<=4294967295:=by
 unfold S.sizeAt
 split
 ·omega
 ·rename_i x hx
  obtain ⟨h3,h4,_⟩:=hF.2 i x hx
  obtain ⟨h5,h6⟩:=hw x (List.mem_of_getElem? hx)
  unfold S.size
  grind
theorem addr_bd {xs:List S.Item}{F:List Int}{base:Int}(hF:S.FormOk xs F) (hw:∀ x∈xs,0<=x.word/\x.word<=4294967295):∀ i:Nat,base<=S.addr xs F base i/\S.addr xs F base i<=base+i*4294967295
 | 0=>by simp [S.addr]
 | i+1=>by
  obtain ⟨h1,h2⟩:=addr_bd hF hw (base:=base) i
  obtain ⟨h3,h4⟩:=sizeAt_bd hF hw i
  simp only [S.addr]
  omega
end
section
namespace S
def Stable (xs:List Item) (base:Int) (G:List Int):Prop:=FormOk xs G/\∀ (i:Nat) (x:Item),xs[i]?=some x->fit xs G base i x=true
def Inv (xs:List Item) (base:Int) (F:List Int):Prop:=FormOk xs F/\∀ G,Stable xs base G->∀ i,F.getD i 0<=G.getD i 0
def startForm (x:Item):Int:=if x.kind=3\/x.kind=4 then 1 else 0
def FormsRes (xs:List Item) (base e:Int) (F:List Int):Prop :=
 (e≠0/\CheckRes xs base e/\F=[]) \/
 (CheckRes xs base 0/\e=3/\F=[]/\∃ G,Inv xs base G/\most26<addr xs G base xs.length) \/
 (CheckRes xs base 0/\e=0/\Inv xs base F/\Stable xs base F/\addr xs F base xs.length<=most26)
end S
theorem form_start (xs:List S.Item) (base:Int):S.Inv xs base (xs.map S.startForm):=by
 have hg:∀ (i:Nat) (x:S.Item),xs[i]?=some x->(xs.map S.startForm).getD i 0=S.startForm x:=by
  intro i x hx
  simp [List.getD_eq_getElem?_getD,hx]
 refine ⟨⟨by simp,fun i x hx=>?_⟩,fun G hG i=>?_⟩
 ·rw [hg i x hx]
  unfold S.startForm
  grind
 ·cases hx:xs[i]? with
  | none =>
   simp [List.getD_eq_getElem?_getD,hx];have:G[i]?=none:=by
    rw [List.getElem?_eq_none_iff] at hx ⊢
    rw [hG.1.1];exact hx
   simp [this]
  | some x =>
   rw [hg i x hx]
   obtain ⟨h3,h4,h5⟩:=hG.1.2 i x hx
   unfold S.startForm
   grind
theorem size_mono {x:S.Item}{f g:Int}(h:f<=g) (h3:x.kind=3->1<=f/\g<=3):S.size x f<=S.size x g:=by
 unfold S.size
 grind
theorem addr_mono {xs:List S.Item}{F G:List Int}{base:Int}(hF:S.FormOk xs F) (hG:S.FormOk xs G) (h:∀ i,F.getD i 0<=G.getD i 0) (p:Nat) :
 ∀ d:Nat,S.addr xs F base (p+d)-S.addr xs F base p<=S.addr xs G base (p+d)-S.addr xs G base p
 | 0=>by simp
 | d+1=>by
  have ih:=addr_mono (base:=base) hF hG h p d
  have hs:S.sizeAt xs F (p+d)<=S.sizeAt xs G (p+d):=by
   unfold S.sizeAt
   cases hx:xs[p+d]? with
   | none=>simp
   | some x =>
    exact size_mono (h (p+d)) fun h3=>⟨((hF.2 _ x hx).1 h3).1,((hG.2 _ x hx).1 h3).2⟩
  show S.addr xs F base (p+d)+S.sizeAt xs F (p+d)-S.addr xs F base p<=S.addr xs G base (p+d)+S.sizeAt xs G (p+d)-S.addr xs G base p
  omega
theorem addr_up {xs:List S.Item}{F:List Int}{base:Int}(hF:S.FormOk xs F) (hw:∀ x∈xs,0<=x.word/\x.word<=4294967295) (p:Nat) :
 ∀ d:Nat,S.addr xs F base p<=S.addr xs F base (p+d)
 | 0=>by simp
 | d+1=>by
  have ih:=addr_up (base:=base) hF hw p d
  have:=(sizeAt_bd hF hw (p+d)).1
  show S.addr xs F base p<=S.addr xs F base (p+d)+S.sizeAt xs F (p+d)
  omega
theorem fit_mono {xs:List S.Item}{F G:List Int}{base:Int}(hF:S.FormOk xs F) (hG:S.FormOk xs G) (hw:∀ x∈xs,0<=x.word/\x.word<=4294967295) (h:∀ i,F.getD i 0<=G.getD i 0)
 {i:Nat} {x:S.Item} (hx:xs[i]?=some x) (hi:F.getD i 0=G.getD i 0) (hf:S.fit xs F base i x=false):S.fit xs G base i x=false:=by
 have hlt:=(List.getElem?_eq_some_iff.1 hx).1
 unfold S.fit at hf ⊢
 rw [<- hi]
 split
 ·rename_i c;rw [if_pos c] at hf;cases hf
 ·rename_i c
  rw [if_neg c] at hf
  generalize (S.stands xs x.label).toNat=j at *
  rcases Nat.lt_or_ge i j with hij | hij
  ·obtain ⟨d,rfl⟩:∃ d,j=(i+1)+d:=⟨j-(i+1),by omega⟩
   have h1:=addr_mono (base:=base) hF hG h (i+1) d
   have h2:=addr_up (base:=base) hF hw (i+1) d
   by_cases c2:x.kind=3/\F.getD i 0=1
   ·rw [if_pos c2] at hf ⊢
    rw [decide_eq_false_iff_not] at hf ⊢
    omega
   ·rw [if_neg c2] at hf ⊢
    rw [decide_eq_false_iff_not] at hf ⊢
    omega
  ·obtain ⟨d,hd⟩:∃ d,i+1=j+d:=⟨i+1-j,by omega⟩
   have h1:=addr_mono (base:=base) hF hG h j d
   have h2:=addr_up (base:=base) hF hw j d
   rw [<- hd] at h1 h2
   by_cases c2:x.kind=3/\F.getD i 0=1
   ·rw [if_pos c2] at hf ⊢
    rw [decide_eq_false_iff_not] at hf ⊢
    omega
   ·rw [if_neg c2] at hf ⊢
    rw [decide_eq_false_iff_not] at hf ⊢
    omega
theorem getD_set_self {F:List Int}{i:Nat}{v:Int}(h:i<F.length):(F.set i v).getD i 0=v:=by simp [h]
theorem getD_set_other {F:List Int}{i j:Nat}{v:Int}(h:i≠j):(F.set i v).getD j 0=F.getD j 0:=by simp [List.getElem?_set_ne h]
theorem fit_false {xs:List S.Item}{F:List Int}{base:Int}(hF:S.FormOk xs F){i:Nat}{x:S.Item}(hx:xs[i]?=some x) (hf:S.fit xs F base i x=false) :
 (x.kind=3/\1<=F.getD i 0/\F.getD i 0<=2)\/(x.kind=4/\F.getD i 0=1):=by
 obtain ⟨h3,h4,_⟩:=hF.2 i x hx
 unfold S.fit at hf
 split at hf
 ·cases hf
 ·rename_i c
  by_cases k3:x.kind=3
  ·have:=h3 k3;left;refine ⟨k3,by omega,?_⟩;by_cases e:F.getD i 0=3
   ·exact absurd (.inr (.inl ⟨k3,e⟩)) c
   ·omega
  ·by_cases k4:x.kind=4
   ·have:=h4 k4;right;refine ⟨k4,?_⟩;by_cases e:F.getD i 0=2
    ·exact absurd (.inr (.inr ⟨k4,e⟩)) c
    ·omega
   ·exact absurd (.inl ⟨k3,k4⟩) c
theorem formOk_grow {xs:List S.Item}{F:List Int}(hF:S.FormOk xs F){i:Nat}{x:S.Item}(hx:xs[i]?=some x) (h:(x.kind=3/\1<=F.getD i 0/\F.getD i 0<=2)\/(x.kind=4/\F.getD i 0=1)) :
 S.FormOk xs (F.set i (F.getD i 0+1)):=by
 have hlt:=(List.getElem?_eq_some_iff.1 hx).1
 refine ⟨by rw [List.length_set];exact hF.1,fun j y hy=>?_⟩
 by_cases e:i=j
 ·subst e
  rw [hx] at hy;cases hy
  rw [getD_set_self (by rw [hF.1];exact hlt)]
  omega
 ·rw [getD_set_other e]
  exact hF.2 j y hy
theorem inv_grow {xs:List S.Item}{base:Int}{F F1:List Int}(hI:S.Inv xs base F) (hI1:S.Inv xs base F1) (hw:∀ x∈xs,0<=x.word/\x.word<=4294967295)
 {i:Nat} {x:S.Item} (hx:xs[i]?=some x) (hsame:F1.getD i 0=F.getD i 0) (hf:S.fit xs F base i x=false):S.Inv xs base (F1.set i (F1.getD i 0+1)):=by
 have hlt:=(List.getElem?_eq_some_iff.1 hx).1
 have h1:=fit_false hI.1 hx hf
 rw [<- hsame] at h1
 refine ⟨formOk_grow hI1.1 hx h1,fun G hG j=>?_⟩
 by_cases e:i=j
 ·subst e
  rw [getD_set_self (by rw [hI1.1.1];exact hlt)]
  have hle:=hI.2 G hG i
  rw [hsame]
  by_cases he:F.getD i 0=G.getD i 0
  ·have:=fit_mono hI.1 hG.1 hw (hI.2 G hG) hx he hf
   rw [hG.2 i x hx] at this
   cases this
  ·omega
 ·rw [getD_set_other e]
  exact hI1.2 G hG j
theorem checkRes_fun {xs:List S.Item}{base r s:Int}(h:S.CheckRes xs base r) (k:S.CheckRes xs base s):r=s:=by
 unfold S.CheckRes at h k
 rcases h with ⟨h1,h2⟩ | ⟨h1,h2,h3,h4⟩ | ⟨h1,h2,h3,h4,h5⟩ | ⟨h1,h2,h3,h4,h5,h6⟩ | ⟨h1,h2,h3,h4,h5,h6⟩ <;>
 rcases k with ⟨k1,k2⟩ | ⟨k1,k2,k3,k4⟩ | ⟨k1,k2,k3,k4,k5⟩ | ⟨k1,k2,k3,k4,k5,k6⟩ | ⟨k1,k2,k3,k4,k5,k6⟩ <;>
 first
  | omega
  | (exact absurd ‹S.Dup xs› ‹¬ S.Dup xs›)
  | (exact absurd ‹S.Miss xs› ‹¬ S.Miss xs›)
theorem list_ext_getD {F G:List Int}(h:F.length=G.length) (k:∀ i,F.getD i 0=G.getD i 0):F=G:=by
 apply List.ext_getElem h
 intro i h1 h2
 have:=k i
 simpa [h1,h2] using this
def room (F:List Int):Nat:=(F.map fun f=>(3-f).toNat).sum
theorem room_set {F:List Int}{i:Nat}(h:i<F.length) (h3:F.getD i 0<=2):room (F.set i (F.getD i 0+1))<room F:=by
 induction F generalizing i with
 | nil=>simp at h
 | cons f F ih =>
  cases i with
  | zero=>simp [room] at *;omega
  | succ i =>
   have:=ih (i:=i) (by simpa using h) (by simpa using h3)
   simp [room] at *;omega
theorem firstErr_drop {xs:List S.Item}{k:Nat}{x:S.Item}(hx:xs[k]?=some x):S.firstErr (xs.drop k)=if S.chkItem x≠0 then S.chkItem x else S.firstErr (xs.drop (k+1)):=by
 have hk:=(List.getElem?_eq_some_iff.1 hx).1
 have he:=(List.getElem?_eq_some_iff.1 hx).2
 rw [List.drop_eq_getElem_cons hk,he,S.firstErr]
theorem named_stands {xs:List S.Item}{base:Int}(h:S.CheckRes xs base 0){i:Nat}{x:S.Item}(hx:xs[i]?=some x) (hn:S.named x=true):0<=S.stands xs x.label:=by
 rcases h with ⟨_,h⟩ | ⟨_,_,h,h'⟩ | ⟨_,_,_,_,h⟩ | ⟨_,_,_,_,_,h⟩ | ⟨_,_,_,_,hm,_⟩
 ·omega
 ·omega
 ·omega
 ·omega
 ·have:¬ S.stands xs x.label<0:=fun hlt=>hm ⟨i,x,hx,hn,hlt⟩
  omega
theorem base_ok {xs:List S.Item}{base:Int}(h:S.CheckRes xs base 0):0<=base/\base<=67108864:=by
 rcases h with ⟨_,h⟩ | ⟨h0,h1,_⟩ | ⟨h0,h1,_⟩ | ⟨h0,h1,_⟩ | ⟨h0,h1,_⟩
 ·omega
 all_goals exact ⟨h0,h1⟩
end
end Go.Proofs.YtlldagdhlfpihaaGreatDoor
