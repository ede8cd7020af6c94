/- Parts. -/
import Derived.Test.YtldbnjajjfgipaaGreatDoorRows
import Derived.Test.YtldbnjajjfgipaaGreatDoorProg
import Derived.Test.YtldbnjajjfgipaaGreatDoorZYx
import Derived.Test.YtldbnjajjfgipaaGreatDoorShelf
import Derived.JoinedOf
import Derived.JoinedCond
import Derived.KernelRfl
import Derived.WalkKit
import Derived.Lib.ItoaNum
import Derived.Lib.AtoiAll
import Derived.Lib.Strings
import Derived.WalkSpells
import Derived.WalkLawsBesides
import Derived.Deep.QuietTactic
import Derived.BigQuiet
import Derived.LoopN
import Derived.Maps.AppendAt
import Derived.Lib.Hide
import Derived.Lib.AppendIntMem
import Derived.Lib.SmallJoins
import Derived.Laws.BytesArg
import Derived.Deep.RegionWith
import Derived.Deep.DeepCutAuto
import Derived.ProofKit
import Derived.Carry
import Derived.OpenShut
import Derived.LaidMore
import Derived.LaidHandle
import Derived.MakeChecks
import Derived.Lib.LaidTab
import Derived.Stop.LaidErr
import Derived.Deep.DeepHandedRow
import Derived.Deep.DeepWitnessRowRef
import Derived.Laws.BitsLemmas
import Derived.Laws.BitsAllLaws
set_option linter.all false
set_option maxHeartbeats 40000000
open Nat renaming le_refl->Yb,le_trans->Ym,zero_le->Yae,lt_or_ge->Ycj
open List renaming getD_eq_getElem?_getD->Ye,getElem?_eq_some_iff->Yg,map_cons->Yck,map_toArray->Yc9,map_nil->Ydp
open Bool renaming and_eq_true->Yu
namespace Go.Proofs.YtldbnjajjfgipaaGreatDoor
open Go.Proofs.Tryz Go.RowKit
section
set_option maxRecDepth 100000
theorem Zgu:joinedFacts Tryz.pinned.checked.prog 5 Tryz.f5 (OpenSpec.ofChange Rows.rtnumMeansSpec).bare Rows.rtnumMeansRow=true:=by
 unfold joinedFacts;simp only[Yu]
 (repeat' apply And.intro)
 all_goals (as_aux_lemma=>kernel_rfl)
end
namespace S
structure Inst where
 op:Int
 d:Int
 a:Int
 b:Int
 imm:Int
def form (op:Int):Int :=
 if 1<=op/\op<=14 then 1 else if op=23 then 3 else if (15<=op/\op<=24)\/op=33 then 2
 else if 25<=op/\op<=31 then 4 else if op=32 then 5 else if op=34 then 6 else if op=35\/op=36 then 7 else 0
def least (op:Int):Int :=
 if op=32 then -1048576 else if (16<=op/\op<=21)\/op=23 then 0
 else if form op=2\/form op=4 then -32768 else 0
def most (op:Int):Int :=
 if op=32 then 1048575 else if (16<=op/\op<=18)\/op=23 then 65535 else if 19<=op/\op<=21 then 31
 else if form op=2\/form op=4 then 32767 else 0
def hasD (f:Int):Bool:=decide (f=1\/f=2\/f=3\/f=5\/f=6)
def hasA (f:Int):Bool:=decide (f=1\/f=2\/f=4\/f=7)
def hasB (f:Int):Bool:=decide (f=1\/f=4)
def bitsOf (f:Int):Int:=if f=5 then 21 else if 2<=f/\f<=4 then 16 else 0
def reg (is:Bool)(n:Int):Bool:=decide (n=0\/(is=true/\0<=n/\n<=31))
def good (x:Inst):Bool :=
 decide (form x.op≠0) && reg (hasD (form x.op)) x.d && reg (hasA (form x.op)) x.a && reg (hasB (form x.op)) x.b &&
  decide (least x.op<=x.imm) && decide (x.imm<=most x.op)
def chk (x:Inst):Int:=if good x=true then 0 else 11
def enc (x:Inst):Int :=
 if form x.op=1 then x.op*67108864+x.d*2097152+x.a*65536+x.b*2048
 else if form x.op=2 then x.op*67108864+x.d*2097152+x.a*65536+x.imm%65536
 else if form x.op=3 then x.op*67108864+x.d*2097152+x.imm
 else if form x.op=4 then x.op*67108864+x.a*2097152+x.b*65536+x.imm%65536
 else if form x.op=5 then x.op*67108864+x.d*2097152+x.imm%2097152
 else if form x.op=6 then x.op*67108864+x.d*2097152
 else x.op*67108864+x.a*2097152
def turned (op:Int):Int:=if op<26\/31<op then 0 else if op%2=0 then op+1 else op-1
end S
theorem Zd6 (op:Int):(S.form op=0/\(op<1\/36<op))\/(S.form op=1/\1<=op/\op<=14)\/(S.form op=2/\((15<=op/\op<=24/\op≠23)\/op=33))\/(S.form op=3/\op=23) \/
 (S.form op=4/\25<=op/\op<=31)\/(S.form op=5/\op=32)\/(S.form op=6/\op=34)\/(S.form op=7/\(op=35\/op=36)):=by
 grind [S.form]
theorem Zfs {op d a b imm:Int}(hg:S.good ⟨op,d,a,b,imm⟩=true):1<=op/\op<=36/\0<=d/\d<=31/\0<=a/\a<=31/\0<=b/\b<=31 /\
 ((S.form op=1/\S.hasD (S.form op)=true/\S.hasA (S.form op)=true/\S.hasB (S.form op)=true/\S.bitsOf (S.form op)=0/\0<=imm/\imm<=0)\/(S.form op=2/\S.hasD (S.form op)=true/\S.hasA (S.form op)=true/\S.hasB (S.form op)=false/\S.bitsOf (S.form op)=16/\-32768<=imm/\imm<=65535)\/(S.form op=3/\S.hasD (S.form op)=true/\S.hasA (S.form op)=false/\S.hasB (S.form op)=false/\S.bitsOf (S.form op)=16/\0<=imm/\imm<=65535)\/(S.form op=4/\S.hasD (S.form op)=false/\S.hasA (S.form op)=true/\S.hasB (S.form op)=true/\S.bitsOf (S.form op)=16/\-32768<=imm/\imm<=32767)\/(S.form op=5/\S.hasD (S.form op)=true/\S.hasA (S.form op)=false/\S.hasB (S.form op)=false/\S.bitsOf (S.form op)=21/\-1048576<=imm/\imm<=1048575)\/(S.form op=6/\S.hasD (S.form op)=true/\S.hasA (S.form op)=false/\S.hasB (S.form op)=false/\S.bitsOf (S.form op)=0/\0<=imm/\imm<=0)\/(S.form op=7/\S.hasD (S.form op)=false/\S.hasA (S.form op)=true/\S.hasB (S.form op)=false/\S.bitsOf (S.form op)=0/\0<=imm/\imm<=0)):=by
 simp only[S.good,Yu,decide_eq_true_eq,S.reg] at hg;obtain⟨⟨⟨⟨⟨h1,h2⟩,h3⟩,i⟩,f⟩,g⟩:=hg;have e:0<=d/\d<=31/\0<=a/\a<=31/\0<=b/\b<=31:=by omega
 rcases Zd6 op with⟨h,c⟩|⟨h,c⟩|⟨h,c⟩|⟨h,c⟩|⟨h,c⟩|⟨h,c⟩|⟨h,c⟩|⟨h,c⟩
 .exact absurd h h1
 all_goals
  refine⟨by omega,by omega,e.1,e.2.1,e.2.2.1,e.2.2.2.1,e.2.2.2.2.1,e.2.2.2.2.2,?_⟩;simp only[S.least,S.most,h] at f g;simp[h,S.hasD,S.hasA,S.hasB,S.bitsOf];clear h1 h2 h3 i e h
  grind
namespace S
def nameTab:List (List UInt8):=[[],[97,100,100],[115,117,98],[109,117,108],[109,117,108,104],[100,105,118],[114,101,109],[97,110,100],[111,114],[120,111,114],[115,108,108],[115,114,108],[115,114,97],[115,108,116],[115,108,116,117],[97,100,100,105],[97,110,100,105],[111,114,105],[120,111,114,105],[115,108,108,105],[115,114,108,105],[115,114,97,105],[115,108,116,105],[108,117,105],[108,119],[115,119],[98,101,113],[98,110,101],[98,108,116],[98,103,101],[98,108,116,117],[98,103,101,117],[106,97,108],[106,97,108,114],[105,110],[111,117,116],[104,97,108,116]]
def Z6q (op:Int):List UInt8:=if 0<=op/\op<37 then nameTab.getD op.toNat [] else []
def digF:Nat->Nat->List UInt8
 | 0,u=>[UInt8.ofNat (48+u%10)]
 | f+1,u=>if u<10 then [UInt8.ofNat (48+u)] else digF f (u/10)++[UInt8.ofNat (48+u%10)]
def itoa (n:Int):List UInt8:=if n<0 then 45::digF 20 n.natAbs else digF 20 n.toNat
def part (is:Bool)(mark:List UInt8)(n:Int):List UInt8:=if is=true then 32::(mark++itoa n) else []
def text (x:Inst):List UInt8 :=
 if good x=true then Z6q x.op++(part (hasD (form x.op)) [114] x.d++(part (hasA (form x.op)) [114] x.a++(part (hasB (form x.op)) [114] x.b++part (decide (0<bitsOf (form x.op))) [] x.imm))) else [63]
def words:List UInt8->List (List UInt8)
 | []=>[[]]
 | c::r=>if c=32 then []::words r else match words r with
  | []=>[[c]]
  | w::t=>(c::w)::t
end S
theorem Zph:∀(f u:Nat),u<10^(f+1)->S.digF f u=Lib.decDigits u
 | 0,u,h=>by
  have b:u<10:=by simpa using h
  rw[Lib.decDigits_one b]
  show [UInt8.ofNat (48+u%10)]=_
  rw[Nat.mod_eq_of_lt b]
 | f+1,u,h=>by
  show(if u<10 then [UInt8.ofNat (48+u)] else S.digF f (u/10)++[UInt8.ofNat (48+u%10)])=_
  by_cases a:u<10
  .rw[if_pos a,Lib.decDigits_one a]
  .rw[if_neg a,Zph f (u/10) (by rw[Nat.pow_succ] at h;omega)]
   conv=>rhs;rw[Lib.decDigits,dif_neg a]
theorem Z12 {n:Int}(h:-1000000000000000000000<n/\n<1000000000000000000000):S.itoa n=Lib.itoa n:=by
 have e:(10:Nat)^(20+1)=1000000000000000000000:=by decide
 unfold S.itoa Lib.itoa
 split
 .rw[Zph 20 _ (by rw[e];omega)]
 .rw[Zph 20 _ (by rw[e];omega)]
theorem Z0 {k:IntKind}{a b:Int}(h:a=b):Ending.returned (.int k a)=.returned (.int k b):=by rw[h]
theorem Zk {a b:Bool}(h:a=b):Ending.returned (.bool a)=.returned (.bool b):=by rw[h]
theorem Zym {k l:IntKind}{a b x y:Int}(h:a=b)(g:x=y):Ending.returned (.tuple #[.int k a,.int l x])=.returned (.tuple #[.int k b,.int l y]):=by rw[h,g]
theorem Znc {fn:Func}{t u v x:Tmp}(h:fn.results=#[.tmp t,.tmp u,.tmp v,.tmp x])(tmps:Array Value)(P:Program)(w:World) :
 (results fn tmps).run P w=.ok (.tuple #[tmps.getD t undef,tmps.getD u undef,tmps.getD v undef,tmps.getD x undef]) w:=by simp[results,h]
theorem below_drewN {B:Nat}{a w:World}(h:Below B a w)(n:Nat):Below B a (w.drewN n):=⟨h.os,h.tape,h.output,h.size,h.block⟩
theorem Zih {W w1:World}(a:Below W.heap.size W w1):(∀b o,b<W.heap.size->w1.cell? ⟨b,o,none⟩=W.cell? ⟨b,o,none⟩)/\(∀b o,b<W.heap.size->w1.frozen? ⟨b,o,none⟩=W.frozen? ⟨b,o,none⟩) :=
 ⟨λ b o h=>a.cell (p:=⟨b,o,none⟩) h,λ b o h=>a.frozen (p:=⟨b,o,none⟩) h⟩
theorem Ztz {P:Program}{c:Code}{Q:Exit->Act->World->Prop}{a:Act}{w:World}(I:World->Prop)(h:I w)(k:∀w',I w'->Code.wp P c Q a w'):Code.wp P c Q a w:=k w h
theorem Zb1 {base:Nat}{a w w':World}{row:Option Nat}(h:Below base a w)(hg:w.grownBy w' row)(b:base<=w.heap.size)(c:∀k,row=some k->base<=k):Below base a w':=h.grown hg b c
theorem Ze {w w':World}{base:Nat}{e:TypeId}{size:Nat}{v:Value}{n:Nat}{xs:List Value}(h:w.ownsRow base e size v n xs)(a:Below w.heap.size w w'):w'.ownsRow base e size v n xs:=by
 refine h.kept (row:=none) ⟨a.os,a.tape,a.output,a.size,λ k b _=>a.block k b⟩ ?_
 cases v.ownBlock <;> simp
theorem Zll {w:World}{base:Nat}{e:TypeId}{size:Nat}{v:Value}{n:Nat}{xs:List Value}(h:w.ownsRow base e size v n xs)(k:Nat):(w.drewN k).ownsRow base e size v n xs:=h
theorem Z3 {w:World}{base a:Nat}{e:TypeId}{size:Nat}{v:Value}{n:Nat}{xs:List Value}(h:w.ownsRow base e size v n xs)(c:a<=base):w.ownsRow a e size v n xs:=by
 refine⟨h.1,?_⟩;rcases h.2 with h|⟨g,cap,b,h1,h2,h3⟩
 .exact .inl h
 .exact .inr ⟨g,cap,b,h1,Ym c h2,h3⟩
theorem Zc {w:World}{base:Nat}{e:TypeId}{size:Nat}{v:Value}{n:Nat}{xs:List Value}(h:w.ownsRow base e size v n xs):∃A c,v=.slice A n c:=by
 rcases h.2 with⟨rfl,rfl⟩|⟨g,cap,a,rfl,_⟩
 .exact⟨_,_,rfl⟩
 .exact⟨_,_,rfl⟩
theorem Z9 {w:World}{base:Nat}{e:TypeId}{size:Nat}{A:Option Addr}{c m:Nat}{n:Nat}{xs:List Value}(h:w.ownsRow base e size (.slice A m c) n xs)(hn:0<n) :
 ∃g,A=some ⟨g,0,none⟩/\base<=g/\g<w.heap.size/\n<=c/\(∀j,j<n*size->w.cell? ⟨g,j,none⟩=xs[j]?)/\(∀j,w.frozen? ⟨g,j,none⟩=false):=by
 have a:=h.lt;rcases h.2 with⟨h1,h2⟩|⟨g,cap,d,h1,h2,h3,b,h5,h6,h7⟩
 .omega
 .simp only[Value.slice.injEq] at h1
  obtain⟨rfl,rfl,rfl⟩:=h1;exact⟨g,rfl,h2,(a g rfl).2,b,λ j f=>h.cellAt j f,λ j=>h.frozenAt j⟩
theorem Zas (w:World)(cs:Array Value)(e:TypeId)(o:Nat):(w.alloc (.cells cs e)).cell? ⟨w.heap.size,o,none⟩=cs[o]?:=by
 simp only[World.cell?,heap_alloc_new];simp
theorem Z13 {w0:World}{cs:Array Value}{e:TypeId}(j:Nat)(u:Value)(h:cs.toList[j]?=some u):(w0.alloc (.cells cs e)).cell? ((⟨w0.heap.size,0,none⟩:Addr).add j)=some u:=by
 have a:(⟨w0.heap.size,0,none⟩:Addr).add j=⟨w0.heap.size,j,none⟩:=by
  unfold Addr.add;by_cases h0:j=0
  .subst h0;rfl
  .rw[if_neg h0];simp
 rw[a];simp only[World.cell?,heap_alloc_new]
 simpa using h
theorem Zd7 {P:Program}{o:Oper}{a:Act}{K:Act->World->Prop}{Q:Exit->Act->World->Prop}{w0 w:World}(s x:Operand)(t:TypeId)
 (J:o.op=.call { callee:=.builtin .append,args:=#[s,x],argTypes:=#[t,t] })
 (base:Nat) (e:TypeId) {z:Value} {size bytes:Nat} (g:(P.info? e).map (λ i=>(i.zero,i.size,i.bytes))=some (some z,size,bytes)) (D:P.underlying t=some (.slice e))
 (A:z.cells.size=size) (q:0<size) (cs:Array Value)
 (v:Value) (n:Nat) (xs:List Value) (E:a.eval s=v) (c:w0.ownsRow base e size v n xs)
 (G:w=w0.alloc (.cells cs e)) (M:a.eval x=.slice (some ⟨w0.heap.size,0,none⟩) 1 1) (L:cs.size=size) (h1:∀u∈cs.toList,u.oneCell'=true)
 (p:n+1<=maxLen) (b:(n+1)*bytes<=140737488355328) (d:base<=w0.heap.size)
 (h:∀l w',w'.ownsRow base e size l (n+1) (xs++cs.toList)->w0.grownBy w' v.ownBlock->Below base w0 w'->(l.ownBlock=v.ownBlock\/l.ownBlock=some (w0.heap.size+1))->K (a.put o.dst l) w') :
 o.wp P a w K Q:=by
 obtain⟨i,hi,F,f,B⟩:=info_parts g;subst G;obtain⟨l,w',m,h2,h3,_,I⟩:=run_append_own_at (P:=P) (w0.alloc (.cells cs e)) base t o.type e i z size bytes D hi F f B A q v n xs (c.alloc _) ⟨w0.heap.size,0,none⟩ 1 1 cs.toList
  (by simp[L]) (λ j u C=>Z13 j u C) h1 p b (by simp;omega)
 unfold Oper.wp execOp;simp only[J,resolve,invoke,builtin,Sem.run_bind,Sem.run_pure,Result.andThen_ok,Yc9,Yck,Ydp,E,M,m];have hg:w0.grownBy w' v.ownBlock:=⟨h3.os,h3.tape,h3.output,Ym (by simp) h3.size,λ k r y=>(h3.block k (by simp;omega) y).trans (Below.heap_alloc _ _ _ r)⟩
 refine h l w' h2 hg ((Below.refl _ _).grown hg d (λ k r=>(c.lt k r).1)) ?_
 simpa using I
theorem Zm {P:Program}{ops:Array Oper}{rest:List Oper}{o:Oper}{a:Act}{Q:Exit->Act->World->Prop}{w0 w:World}(k:o.guard=none)(s x:Operand)(t:TypeId)
 (B:o.op=.call { callee:=.builtin .append,args:=#[s,x],argTypes:=#[t,t] })
 (base:Nat) (e:TypeId) {z:Value} {size bytes:Nat} (d:(P.info? e).map (λ i=>(i.zero,i.size,i.bytes))=some (some z,size,bytes)) (p:P.underlying t=some (.slice e))
 (m:z.cells.size=size) (l:0<size) (cs:Array Value)
 (v:Value) (n:Nat) (xs:List Value) (r:a.eval s=v) (g:w0.ownsRow base e size v n xs)
 (y:w=w0.alloc (.cells cs e)) (E:a.eval x=.slice (some ⟨w0.heap.size,0,none⟩) 1 1) (D:cs.size=size) (h1:∀u∈cs.toList,u.oneCell'=true)
 (j:n+1<=maxLen) (b:(n+1)*bytes<=140737488355328) (c:base<=w0.heap.size)
 (h:∀f w',w'.ownsRow base e size f (n+1) (xs++cs.toList)->w0.grownBy w' v.ownBlock->Below base w0 w'->(f.ownBlock=v.ownBlock\/f.ownBlock=some (w0.heap.size+1))->wpList P ops Q rest (a.put o.dst f) w') :
 wpList P ops Q (o::rest) a w :=
 wpList_plain k λ _ C=>Zd7 s x t B base e d p m l cs v n xs r g y E D h1 j b c λ f w' h2 h3 q A=>C _ _ (h f w' h2 h3 q A)
def Reads (w:World)(B:Nat)(A:Option Addr)(xs:List Value):Prop :=
 0<xs.length->∃b off,A=some ⟨b,off,none⟩/\b<B/\∀i x,xs[i]?=some x->w.cell? ⟨b,off+i,none⟩=some x
theorem Reads.below {w w':World}{B:Nat}{A:Option Addr}{xs:List Value}(h:Reads w B A xs)(c:Below B w w'):Reads w' B A xs:=λ hp=>by
 obtain⟨b,off,e,a,d⟩:=h hp;exact⟨b,off,e,a,λ i x f=>(c.cell (p:=⟨b,off+i,none⟩) a).trans (d i x f)⟩
theorem Reads.of_own {w:World}{base:Nat}{e:TypeId}{A:Option Addr}{m c n:Nat}{xs:List Value}(h:w.ownsRow base e 1 (.slice A m c) n xs):Reads w w.heap.size A xs:=λ hp=>by
 have hl:xs.length=n:=by have:=h.1;simpa using this
 obtain⟨g,rfl,j,a,f,b,_⟩:=Z9 h (by omega);refine⟨g,0,rfl,a,λ i x d=>?_⟩;have hi:=(Yg.1 d).1;have h1:=b i (by omega);rw[Nat.zero_add,h1,d]
theorem Addr.add_mk (b o j:Nat):(⟨b,o,none⟩:Addr).add j=⟨b,o+j,none⟩:=by
 unfold Addr.add;by_cases h:j=0
 .subst h;rfl
 .rw[if_neg h]
theorem Zce {P:Program}(w:World)(base:Nat)(t ty e:TypeId)(i:TypeInfo)(size:Nat)(d:P.underlying t=some (.slice e))(hi:P.info? e=some i)
 (v:Value) (n:Nat) (xs:List Value) (a:w.ownsRow base e size v n xs) (c:Nat):(Builtin.append_ #[t,t] ty #[v,.slice none 0 c]).run P w=.ok v w:=by
 rcases a.2 with⟨rfl,rfl⟩|⟨g,cap,f,rfl,_,_,b,_⟩
 .simp[Builtin.append_,run_underlying d,sizeOf,typeInfo,hi,Builtin.lenOf,Builtin.firstCells]
 .simp[Builtin.append_,run_underlying d,sizeOf,typeInfo,hi,Builtin.lenOf,Builtin.firstCells,b,storeCells]
theorem Zsf {P:Program}{o:Oper}{a:Act}{K:Act->World->Prop}{Q:Exit->Act->World->Prop}{w:World}(s x:Operand)(t:TypeId)
 (Y:o.op=.call { callee:=.builtin .append,args:=#[s,x],argTypes:=#[t,t] })
 (base:Nat) (e:TypeId) {z:Value} {bytes:Nat} (y:(P.info? e).map (λ i=>(i.zero,i.size,i.bytes))=some (some z,1,bytes)) (I:P.underlying t=some (.slice e))
 (F:z.cells.size=1) (v:Value) (n:Nat) (xs:List Value) (O:a.eval s=v) (f:w.ownsRow base e 1 v n xs)
 (B:Nat) (A:Option Addr) (m c:Nat) (d:List Value) (hx:a.eval x=.slice A m c) (hm:m=d.length) (hA:A=none->m=0) (X:Reads w B A d) (h1:∀u∈d,u.oneCell'=true)
 (D:n+m<=maxLen) (q:(n+m)*bytes<=140737488355328) (l:base<=w.heap.size)
 (h:∀g w',w'.ownsRow base e 1 g (n+m) (xs++d)->w.grownBy w' v.ownBlock->Below base w w'->(g.ownBlock=v.ownBlock\/g.ownBlock=some w.heap.size)->K (a.put o.dst g) w') :
 o.wp P a w K Q:=by
 obtain⟨i,hi,R,r,E⟩:=info_parts y;have C:∃g w',(Builtin.append_ #[t,t] o.type #[v,.slice A m c]).run P w=.ok g w'/\w'.ownsRow base e 1 g (n+m) (xs++d)/\w.grownBy w' v.ownBlock/\(g.ownBlock=v.ownBlock\/g.ownBlock=some w.heap.size):=by
  rcases A with _|J
  .have h0:=hA rfl
   subst h0;have L:d=[]:=List.eq_nil_of_length_eq_zero hm.symm;subst L;exact⟨v,w,Zce w base t _ e i 1 I hi v n xs f c,by simpa using f,World.grownBy.refl w _,.inl rfl⟩
  .have hcells:∀j u,d[j]?=some u->w.cell? (J.add j)=some u:=by
    intro j u G;have Z:=(Yg.1 G).1;obtain⟨b,off,T,V,U⟩:=X (by omega)
    cases T
    rw[Addr.add_mk];exact U j u G
   obtain⟨g,w',p,h2,h3,_,W⟩:=run_append_own_at (P:=P) w base t o.type e i z 1 bytes I hi R r E F (by decide) v n xs f J m c d (by rw[hm];simp) hcells h1 D q l;exact⟨g,w',p,h2,h3,W⟩
 obtain⟨g,w',p,h2,h3,N⟩:=C;unfold Oper.wp execOp;simp only[Y,resolve,invoke,builtin,Sem.run_bind,Sem.run_pure,Result.andThen_ok,Yc9,Yck,Ydp,O,hx,p];exact h g w' h2 h3 ((Below.refl _ _).grown h3 l (λ k M=>(f.lt k M).1)) N
theorem Zb2 {P:Program}{ops:Array Oper}{rest:List Oper}{o:Oper}{a:Act}{Q:Exit->Act->World->Prop}{w:World}(p:o.guard=none)(s x:Operand)(t:TypeId)
 (F:o.op=.call { callee:=.builtin .append,args:=#[s,x],argTypes:=#[t,t] })
 (base:Nat) (e:TypeId) {z:Value} {bytes:Nat} (g:(P.info? e).map (λ i=>(i.zero,i.size,i.bytes))=some (some z,1,bytes)) (r:P.underlying t=some (.slice e))
 (q:z.cells.size=1) (v:Value) (n:Nat) (xs:List Value) (C:a.eval s=v) (k:w.ownsRow base e 1 v n xs)
 (B:Nat) (A:Option Addr) (m c:Nat) (b:List Value) (I:a.eval x=.slice A m c) (hm:m=b.length) (hA:A=none->m=0) (E:Reads w B A b) (h1:∀u∈b,u.oneCell'=true)
 (l:n+m<=maxLen) (d:(n+m)*bytes<=140737488355328) (f:base<=w.heap.size)
 (h:∀j w',w'.ownsRow base e 1 j (n+m) (xs++b)->w.grownBy w' v.ownBlock->Below base w w'->(j.ownBlock=v.ownBlock\/j.ownBlock=some w.heap.size)->wpList P ops Q rest (a.put o.dst j) w') :
 wpList P ops Q (o::rest) a w :=
 wpList_plain p λ _ G=>Zsf s x t F base e g r q v n xs C k B A m c b I hm hA E h1 l d f λ j w' h2 h3 y D=>G _ _ (h j w' h2 h3 y D)
structure LVE (w:World):Prop where
 tab : Lib.TabIs prog w "internal/strconv.uint64pow10" .u64 Lib.pow10Tab
 size:3<=w.heap.size
theorem Zt0 : prog.globalNamed "internal/strconv.uint64pow10" = some 0 := by kernel_rfl
theorem LVE.keep {w w':World}(h:LVE w){B:Nat}(a:Below B w w')(hB:3<=B):LVE w':=by
 refine⟨?_,Ym h.size a.size⟩;have h1:=h.tab;unfold Lib.TabIs World.var? at h1⊢;rw[Zt0] at h1⊢;simp only[Option.bind_some] at h1⊢;rw[a.block 0 (by omega)];exact h1
theorem LVE.on {w w':World}(h:LVE w)(a:Below w.heap.size w w'):LVE w':=h.keep a h.size
def I64 (n:Int):Prop:=-9223372036854775808<=n/\n<=9223372036854775807
theorem Zt1 (n:Int)(h:I64 n)(w:World)(a:LVE w) :
 Calls prog 120 #[.int .i64 n] w λ e w'=>e=.returned (.string ⟨(S.itoa n).toArray⟩)/\Below w.heap.size w w':=by
 obtain⟨h0,h1⟩:=h;refine(Tryz.strconv_Itoa n h0 h1 w a.tab).mono ?_;rintro e w' ⟨rfl,k,os,rfl⟩;refine⟨by rw[Z12 (by omega)],?_⟩;exact Lib.below_grow _ _ (Yb _) _ _
theorem Zd8:∀(f u:Nat),(S.digF f u).length<=f+1
 | 0,u=>by simp[S.digF]
 | f+1,u=>by
  simp only[S.digF]
  split
  .simp
  .have:=Zd8 f (u/10)
   rw[List.length_append];simp;omega
theorem Zlm (n:Int):(S.itoa n).length<=22:=by
 unfold S.itoa;have h1:=Zd8 20 n.natAbs;have h2:=Zd8 20 n.toNat
 split
 .simp;omega
 .omega
theorem Z14 (a b:List UInt8):(⟨a.toArray⟩:ByteArray)++⟨b.toArray⟩=⟨(a++b).toArray⟩:=by
 apply ByteArray.ext
 apply Array.toList_inj.1
 rw[Go.Joins.data_append]
theorem Z15 {a b:ByteArray}(h:a=b):Ending.returned (.string a)=.returned (.string b):=by rw[h]
section
open Go.ChangeShapes Go.WideShapes Go.ChangeAt Go.RowKit
section
variable {H:Type}{enc:TypeId×Value->H}{P:Program}
theorem Zgv {t:TypeId}(j:laidOutB P=true)(f:P.readableRec t=true)(a:t<P.types.size){W e:World}{v:Value}{d:DataW H}{b:List MemPlace}
 (h:DataW.Trod enc P W 0 (λ _=>true) true t v d b) (g:Below W.heap.size W e) (c:∀x∈b,x.block<W.heap.size) (sp:Nat->Bool) (i:∀x∈b,sp x.block=true) :
 DataW.Trod enc P e 0 sp true t v d b :=
 WideElems.Trod_stays j f a h (λ x k=>g.same (c x k)) i
theorem Zln {f:Func}{s:ChangeSpec}{apart fresh e k:Bool}{W l:World}{args:Array Value}{v:Value}{m o:List (DataW H)}{a pa pv:List MemPlace}
 (u:DataW.Whole enc P f.params.toList s.vars apart W args.toList m o a)
 (i:∀(b:Nat)(sp:Nat->Bool)(y:Bool),DataW.TrodAll enc P l b sp y f.resultTypes.toList (v.resultList f.resultTypes.size) (s.fn H (m++o)).results [])
 (d:∀sp:Nat->Bool,(∀p∈a,sp p.block=true)->DataW.TrodAll enc P l 0 sp true f.params.toList args.toList (s.fn H (m++o)).args pa)
 (c:∀sp:Nat->Bool,(∀p∈a,sp p.block=true)->DataW.TrodVars enc P l sp s.vars (s.fn H (m++o)).vars pv)
 (g:a=pa++pv) (x:Below W.heap.size W l)
 (w:∀(j:Nat)(t:TypeId)(r:Value),f.resultTypes[j]?=some t->(v.resultList f.resultTypes.size)[j]?=some r->Value.okWide P l .any 0 t r) :
 s.post enc P f apart fresh e k W args v l:=by
 have q:∀p∈a,p.block<W.heap.size:=λ p hp=>u.lt p hp
 have h:∀p∈a,(λ b=>decide (b<W.heap.size)) p.block=true:=λ p hp=>by simpa using q p hp
 refine⟨m,o,a,[],pa,pv,u,i _ _ _,d _ h,c _ h,World.keptBut_mono (λ p hp=>⟨hp,?_⟩) (x.frame (·∈a)),λ _=>?_⟩
 .rw[g,List.mem_append] at hp
  exact Or.inr hp
 .obtain⟨_,_,_,_,_,hz,hn⟩:=u
  refine⟨w,_,_,([]++pa)++pv,⟨[]++pa,pv,trodAll_append (d _ (λ _ _=>rfl)) (i _ _ _),c _ (λ _ _=>rfl),rfl,?_,?_⟩,?_⟩
  .intro b off hp
   have n:MemPlace.cell b off∈a:=by rw[g];simpa using hp
   rw[x.frozen (q _ n)];exact hz b off n
  .intro ha
   have:=hn ha;rw[g] at this
   simpa using this
  .intro p hp _
   rw[g]
   simpa using hp
end
end
section
set_option maxRecDepth 100000
open Go.ChangeShapes Go.WideShapes Go.ChangeAt Go.RowKit
theorem Z8d : prog.globalNamed "internal/strconv.uint64pow10" = some 0 := by kernel_rfl
theorem Z8e:(prog.globals[0]?).map (·.type)=some 291:=by kernel_rfl
theorem Z8f:prog.cellsOf 291=20:=by kernel_rfl
theorem Z8g:prog.cellsOf 167=1:=by kernel_rfl
def Z4p:List (String×DataW Unit):=Rows.rtnumMeansRow.laid
noncomputable def laidWorld (os:Os):World:=World.doorLaid prog 100 os
theorem Zyn (os:Os)(args:Array Value):laidMetH prog Z4p ((laidWorld os).forCall (λ _ _=>0) ⟨#[],args,[]⟩).memory :=
 laidMetH_of_parts3 (fuel:=8) (laidMet_of_run' 8 (by kernel_rfl) (by kernel_rfl)) (by kernel_rfl) (by kernel_rfl)
theorem Z6r {W:World}(h:laidMetH prog Z4p W)(d:W.ShapedOpen prog):LVE W:=by
 rw[MakeChecks.laidMetH_plain _ _ _ (by kernel_rfl)] at h;have h3:=laidMet.tail (laidMet.tail h);have a:3<=W.heap.size:=by
  obtain⟨cs,c,_⟩:=d.1 2 (Array.replicate 64 (.int .u8 0)) 300 (of_decide_eq_true (by kernel_rfl)) (by kernel_rfl);rcases Ycj 2 W.heap.size with b|b
  .omega
  .simp[Array.getElem?_eq_none b] at c
 exact⟨Lib.tabIs_of_head Z8d Z8e underlying291 underlying167 Z8g Z8f h3,a⟩
end
namespace S
def opOf (w:Int):Int:=w/67108864
def rawD (w:Int):Int:=if hasD (form (opOf w))=true then w/2097152%32 else 0
def rawA (w:Int):Int:=if hasA (form (opOf w))=true then(if hasD (form (opOf w))=true then w/65536%32 else w/2097152%32) else 0
def rawB (w:Int):Int:=if hasB (form (opOf w))=true then(if hasD (form (opOf w))=true then w/2048%32 else w/65536%32) else 0
def rawI (w:Int):Int :=
 if form (opOf w)=5 then(if 1048576<=w%2097152 then w%2097152-2097152 else w%2097152)
 else if 2<=form (opOf w)/\form (opOf w)<=4 then(if least (opOf w)<0/\32768<=w%65536 then w%65536-65536 else w%65536)
 else 0
def raw (w:Int):Inst:=⟨opOf w,rawD w,rawA w,rawB w,rawI w⟩
def decB (w:Int):Bool:=good (raw w) && decide (enc (raw w)=w)
def dec (w:Int):Inst:=if decB w=true then raw w else⟨0,0,0,0,0⟩
def decE (w:Int):Int:=if decB w=true then 0 else 11
end S
theorem Z4q {x:S.Inst}(h:S.good x=true):0<=S.enc x/\S.enc x<=4294967295:=by
 obtain⟨op,d,a,b,imm⟩:=x;obtain⟨o1,o2,d1,d2,a1,a2,b1,b2,c⟩:=Zfs h;rcases c with⟨h,_,_,_,_,i1,i2⟩|⟨h,_,_,_,_,i1,i2⟩|⟨h,_,_,_,_,i1,i2⟩|⟨h,_,_,_,_,i1,i2⟩|⟨h,_,_,_,_,i1,i2⟩|⟨h,_,_,_,_,i1,i2⟩|⟨h,_,_,_,_,i1,i2⟩
 all_goals
  simp only[S.enc,h];simp;omega
theorem Z16 {x:S.Inst}(h:S.good x=true):S.raw (S.enc x)=x:=by
 obtain⟨op,d,a,b,imm⟩:=x;have hg:=h;obtain⟨o1,o2,d1,d2,a1,a2,b1,b2,m⟩:=Zfs h;simp only[S.good,Yu,decide_eq_true_eq,S.reg] at hg;obtain⟨⟨⟨⟨⟨_,g2⟩,k⟩,j⟩,g5⟩,g6⟩:=hg;clear h;rcases m with⟨h,f,hA,c,i,i1,i2⟩|⟨h,f,hA,c,i,i1,i2⟩|⟨h,f,hA,c,i,i1,i2⟩|⟨h,f,hA,c,i,i1,i2⟩|⟨h,f,hA,c,i,i1,i2⟩|⟨h,f,hA,c,i,i1,i2⟩|⟨h,f,hA,c,i,i1,i2⟩
 all_goals
  rw[f] at g2;rw[hA] at k;rw[c] at j;simp at g2 k j;have l:S.opOf (S.enc ⟨op,d,a,b,imm⟩)=op:=by
   simp only[S.opOf,S.enc,h];simp;omega
  simp only[S.raw,S.rawD,S.rawA,S.rawB,S.rawI,l,f,hA,c];simp only[S.enc,h];simp;clear l
 .omega
 .have e:=Zd6 op
  by_cases g:S.least op<0
  .have hm:S.least op=-32768/\S.most op=32767:=by
    have:op≠32/\op≠23:=by omega
    revert g;unfold S.least S.most;grind
   simp only[g,true_and];refine⟨by omega,by omega,?_⟩
   split <;> omega
  .simp only[g,false_and,if_false]
   refine⟨by omega,by omega,by omega⟩
 .have g:¬S.least op<0:=by
   have:S.least op=0/\S.most op=65535:=by
    have e:op=23:=by have:=Zd6 op;omega
    subst e;decide
   omega
  simp only[g,false_and,if_false];refine⟨by omega,by omega,by omega⟩
 .have g:S.least op<0:=by
   have e:=Zd6 op;have:S.least op=-32768:=by unfold S.least;grind
   omega
  simp only[g,true_and];refine⟨by omega,by omega,by omega,?_⟩
  split <;> omega
 .refine⟨by omega,by omega,?_⟩
  split <;> omega
 .omega
 .omega
theorem Zt2 {x:S.Inst}(h:S.good x=true):S.dec (S.enc x)=x/\S.decE (S.enc x)=0:=by
 have a:=Z16 h;have b:S.decB (S.enc x)=true:=by
  unfold S.decB;rw[a,h];simp
 unfold S.dec S.decE;rw[b,a];simp
theorem Z17 {w:Int}(h:S.decB w=false):S.dec w=⟨0,0,0,0,0⟩/\S.decE w=11:=by
 unfold S.dec S.decE;rw[h];simp
theorem Zyo {w:Int}(h:S.decB w=true):S.good (S.dec w)=true/\S.enc (S.dec w)=w/\S.decE w=0:=by
 have e:S.dec w=S.raw w:=by unfold S.dec;rw[h];simp
 rw[e];unfold S.decE;rw[h];simp only[S.decB,Yu,decide_eq_true_eq] at h;exact⟨h.1,h.2,by simp⟩
theorem Zd9 (n:Int)(h₀:0<=n)(h₁:n<2^32):IntKind.u32.wrap n=n:=by rw[IntKind.wrap_u32];omega
theorem Zu (i:Nat)(x y:Int)(m:Int)(hm:m=2^i)(d:0<=x)(f:x%m=0)(c:x<4294967296)(a:0<=y)(b:y<m)(e:y<4294967296):bits .or .u32 x y=x+y:=by
 subst hm;exact bits_join .u32 32 (by decide) Zd9 i x y d f (by simpa using c) a b (by simpa using e)
theorem Zah (i:Nat)(x:Int)(m n:Int)(hm:m=2^i)(a:n=m-1)(hi:i<=32)(h0:0<=x)(h1:x<4294967296):bits .and .u32 x n=x%m:=by
 subst a hm;exact bits_mask .u32 32 (by decide) Zd9 i hi x h0 (by simpa using h1)
theorem Z6s {op d a b imm:Int}(o1:1<=op)(o2:op<=36)(d1:0<=d)(d2:d<=31)(a1:0<=a)(a2:a<=31)(b1:0<=b)(b2:b<=31)(i1:0<=imm)(i2:imm<=0)(h:S.form op=1) :
 bits .or .u32 (bits .or .u32 (bits .or .u32 (bits .or .u32 (op*67108864) (d*2097152)) (a*65536)) (b*2048)) (bits .and .u32 imm 0)=S.enc ⟨op,d,a,b,imm⟩:=by
 rw[Zah 0 imm 1 0 (by decide) (by omega) (by omega) (by omega) (by omega),
  Zu 26 (op*67108864) (d*2097152) 67108864 (by decide) (by omega) (by omega) (by omega) (by omega) (by omega) (by omega),
  Zu 21 (op*67108864+d*2097152) (a*65536) 2097152 (by decide) (by omega) (by omega) (by omega) (by omega) (by omega) (by omega),
  Zu 16 (op*67108864+d*2097152+a*65536) (b*2048) 65536 (by decide) (by omega) (by omega) (by omega) (by omega) (by omega) (by omega),
  Zu 11 (op*67108864+d*2097152+a*65536+b*2048) (imm%1) 2048 (by decide) (by omega) (by omega) (by omega) (by omega) (by omega) (by omega)]
 simp only[S.enc,h];simp
 try omega
theorem Z6t {op d a b imm:Int}(o1:1<=op)(o2:op<=36)(d1:0<=d)(d2:d<=31)(a1:0<=a)(a2:a<=31)(i1:-32768<=imm)(i2:imm<=65535)(h:S.form op=2) :
 bits .or .u32 (bits .or .u32 (bits .or .u32 (op*67108864) (d*2097152)) (a*65536)) (bits .and .u32 (imm%4294967296) 65535)=S.enc ⟨op,d,a,b,imm⟩:=by
 rw[Zah 16 (imm%4294967296) 65536 65535 (by decide) (by omega) (by omega) (by omega) (by omega),
  Zu 26 (op*67108864) (d*2097152) 67108864 (by decide) (by omega) (by omega) (by omega) (by omega) (by omega) (by omega),
  Zu 21 (op*67108864+d*2097152) (a*65536) 2097152 (by decide) (by omega) (by omega) (by omega) (by omega) (by omega) (by omega),
  Zu 16 (op*67108864+d*2097152+a*65536) ((imm%4294967296)%65536) 65536 (by decide) (by omega) (by omega) (by omega) (by omega) (by omega) (by omega)]
 simp only[S.enc,h];simp
 try omega
theorem Z6u {op d a b imm:Int}(o1:1<=op)(o2:op<=36)(d1:0<=d)(d2:d<=31)(i1:0<=imm)(i2:imm<=65535)(h:S.form op=3) :
 bits .or .u32 (bits .or .u32 (op*67108864) (d*2097152)) (bits .and .u32 imm 65535)=S.enc ⟨op,d,a,b,imm⟩:=by
 rw[Zah 16 imm 65536 65535 (by decide) (by omega) (by omega) (by omega) (by omega),
  Zu 26 (op*67108864) (d*2097152) 67108864 (by decide) (by omega) (by omega) (by omega) (by omega) (by omega) (by omega),
  Zu 21 (op*67108864+d*2097152) (imm%65536) 2097152 (by decide) (by omega) (by omega) (by omega) (by omega) (by omega) (by omega)]
 simp only[S.enc,h];simp
 try omega
theorem Z6v {op d a b imm:Int}(o1:1<=op)(o2:op<=36)(a1:0<=a)(a2:a<=31)(b1:0<=b)(b2:b<=31)(i1:-32768<=imm)(i2:imm<=32767)(h:S.form op=4) :
 bits .or .u32 (bits .or .u32 (bits .or .u32 (op*67108864) (a*2097152)) (b*65536)) (bits .and .u32 (imm%4294967296) 65535)=S.enc ⟨op,d,a,b,imm⟩:=by
 rw[Zah 16 (imm%4294967296) 65536 65535 (by decide) (by omega) (by omega) (by omega) (by omega),
  Zu 26 (op*67108864) (a*2097152) 67108864 (by decide) (by omega) (by omega) (by omega) (by omega) (by omega) (by omega),
  Zu 21 (op*67108864+a*2097152) (b*65536) 2097152 (by decide) (by omega) (by omega) (by omega) (by omega) (by omega) (by omega),
  Zu 16 (op*67108864+a*2097152+b*65536) ((imm%4294967296)%65536) 65536 (by decide) (by omega) (by omega) (by omega) (by omega) (by omega) (by omega)]
 simp only[S.enc,h];simp
 try omega
theorem Z6w {op d a b imm:Int}(o1:1<=op)(o2:op<=36)(d1:0<=d)(d2:d<=31)(i1:-1048576<=imm)(i2:imm<=1048575)(h:S.form op=5) :
 bits .or .u32 (bits .or .u32 (op*67108864) (d*2097152)) (bits .and .u32 (imm%4294967296) 2097151)=S.enc ⟨op,d,a,b,imm⟩:=by
 rw[Zah 21 (imm%4294967296) 2097152 2097151 (by decide) (by omega) (by omega) (by omega) (by omega),
  Zu 26 (op*67108864) (d*2097152) 67108864 (by decide) (by omega) (by omega) (by omega) (by omega) (by omega) (by omega),
  Zu 21 (op*67108864+d*2097152) ((imm%4294967296)%2097152) 2097152 (by decide) (by omega) (by omega) (by omega) (by omega) (by omega) (by omega)]
 simp only[S.enc,h];simp
 try omega
theorem Z6x {op d a b imm:Int}(o1:1<=op)(o2:op<=36)(d1:0<=d)(d2:d<=31)(i1:0<=imm)(i2:imm<=0)(h:S.form op=6) :
 bits .or .u32 (bits .or .u32 (op*67108864) (d*2097152)) (bits .and .u32 imm 0)=S.enc ⟨op,d,a,b,imm⟩:=by
 rw[Zah 0 imm 1 0 (by decide) (by omega) (by omega) (by omega) (by omega),
  Zu 26 (op*67108864) (d*2097152) 67108864 (by decide) (by omega) (by omega) (by omega) (by omega) (by omega) (by omega),
  Zu 21 (op*67108864+d*2097152) (imm%1) 2097152 (by decide) (by omega) (by omega) (by omega) (by omega) (by omega) (by omega)]
 simp only[S.enc,h];simp
 try omega
theorem Z6y {op d a b imm:Int}(o1:1<=op)(o2:op<=36)(a1:0<=a)(a2:a<=31)(i1:0<=imm)(i2:imm<=0)(h:S.form op=7) :
 bits .or .u32 (bits .or .u32 (op*67108864) (a*2097152)) (bits .and .u32 imm 0)=S.enc ⟨op,d,a,b,imm⟩:=by
 rw[Zah 0 imm 1 0 (by decide) (by omega) (by omega) (by omega) (by omega),
  Zu 26 (op*67108864) (a*2097152) 67108864 (by decide) (by omega) (by omega) (by omega) (by omega) (by omega) (by omega),
  Zu 21 (op*67108864+a*2097152) (imm%1) 2097152 (by decide) (by omega) (by omega) (by omega) (by omega) (by omega) (by omega)]
 simp only[S.enc,h];simp
 try omega
def val (l:List Int):Int:=l.foldl (λ a x=>2*a+x) 0
namespace S
structure Mach where
 reg:List Int
 mem:List Int
 place:Int
 input:List Int
 out:List Int
 state:Int
 code:Int
 trap:Int
 steps:Int
def u32m (x:Int):Int:=x%4294967296
def sgn (w:Int):Int:=if 2147483648<=w then w-4294967296 else w
def truth (p:Prop)[Decidable p]:Int:=if p then 1 else 0
def alu (op a b:Int):Int :=
 if op=1 then u32m (a+b) else if op=2 then u32m (a-b) else if op=3 then u32m (a*b) else if op=4 then a*b/4294967296
 else if op=5 then a/b else if op=6 then a%b else if op=7 then bits .and .u32 a b else if op=8 then bits .or .u32 a b
 else if op=9 then bits .xor .u32 a b else if op=10 then u32m (a*2^(b%32).toNat) else if op=11 then a/2^(b%32).toNat
 else if op=12 then u32m (sgn a/2^(b%32).toNat) else if op=13 then truth (sgn a<sgn b) else truth (a<b)
def like (op:Int):Int:=if op=15 then 1 else op-9
def goes (op a b:Int):Bool :=
 if op=26 then decide (a=b) else if op=27 then decide (a≠b) else if op=28 then decide (sgn a<sgn b) else if op=29 then decide (sgn b<=sgn a)
 else if op=30 then decide (a<b) else decide (b<=a)
namespace Mach
def put (m:Mach)(d v:Int):Mach:=if d=0 then m else { m with reg:=m.reg.set d.toNat v }
def fell (m:Mach)(t:Int):Mach:={ m with state:=2,trap:=t }
def rd (m:Mach)(i:Int):Int:=m.reg.getD i.toNat 0
def act (m:Mach)(i:Inst):Mach×Int×Int :=
 let a:=m.rd i.a
 let b:=m.rd i.b
 let imm:=u32m i.imm
 let next:=u32m (m.place+1)
 let at_:=u32m (a+imm)
 if i.op<=14 then(if b=0/\(i.op=5\/i.op=6) then(m,0,4) else(m.put i.d (alu i.op a b),next,0))
 else if i.op<=22 then(m.put i.d (alu (like i.op) a imm),next,0)
 else if i.op=23 then(m.put i.d (u32m (imm*65536)),next,0)
 else if i.op=24 then(if at_<m.mem.length then(m.put i.d (m.mem.getD at_.toNat 0),next,0) else(m,0,2))
 else if i.op=25 then(if at_<m.mem.length then({ m with mem:=m.mem.set at_.toNat b },next,0) else(m,0,2))
 else if i.op<=31 then(m,if goes i.op a b=true then u32m (next+imm) else next,0)
 else if i.op=32 then(m.put i.d next,u32m (next+imm),0)
 else if i.op=33 then(m.put i.d next,at_,0)
 else if i.op=34 then
  match m.input with
  | []=>(m.put i.d 4294967295,next,0)
  | x::r=>(({ m with input:=r }:Mach).put i.d x,next,0)
 else if i.op=35 then({ m with out:=m.out++[a%256] },next,0)
 else({ m with state:=1,code:=a },m.place,0)
def step (m:Mach):Mach :=
 if m.state≠0 then m
 else if (m.mem.length:Int)<=m.place then m.fell 3
 else if decE (m.mem.getD m.place.toNat 0)≠0 then m.fell 1
 else if (m.act (dec (m.mem.getD m.place.toNat 0))).2.2≠0 then m.fell (m.act (dec (m.mem.getD m.place.toNat 0))).2.2
 else { (m.act (dec (m.mem.getD m.place.toNat 0))).1 with place:=(m.act (dec (m.mem.getD m.place.toNat 0))).2.1,steps:=m.steps+1 }
def steps_ (m:Mach):Nat->Mach
 | 0=>m
 | n+1=>(steps_ m n).step
structure Ok (m:Mach):Prop where
 regs:m.reg.length=32
 word:∀i,0<=m.reg.getD i 0/\m.reg.getD i 0<=4294967295
 zero:m.reg.getD 0 0=0
 mem:0<m.mem.length
 memw:∀i,0<=m.mem.getD i 0/\m.mem.getD i 0<=4294967295
 place0:0<=m.place
 place1:m.place<=4294967295
 inp:∀x∈m.input,0<=x/\x<=255
 outp:∀x∈m.out,0<=x/\x<=255
 code0:0<=m.code
 code1:m.code<=4294967295
end Mach
end S
theorem Zby {a:Int}(h0:0<=a)(h1:a<=4294967295):(BitVec.ofInt 32 a).toNat=a.toNat:=by
 rw[BitVec.toNat_ofInt];omega
theorem u32_and {a b:Int}(a0:0<=a)(d:a<=4294967295)(c:0<=b)(b1:b<=4294967295):bits .and .u32 a b=((a.toNat &&& b.toNat:Nat):Int):=by
 show IntKind.u32.wrap ((BitVec.ofInt 32 a &&& BitVec.ofInt 32 b).toNat:Int)=_
 rw[BitVec.toNat_and,Zby a0 d,Zby c b1];exact Zd9 _ (by omega) (by have:=Nat.and_lt_two_pow a.toNat (show b.toNat<2^32 by omega);omega)
theorem u32_or {a b:Int}(a0:0<=a)(d:a<=4294967295)(c:0<=b)(b1:b<=4294967295):bits .or .u32 a b=((a.toNat ||| b.toNat:Nat):Int):=by
 show IntKind.u32.wrap ((BitVec.ofInt 32 a ||| BitVec.ofInt 32 b).toNat:Int)=_
 rw[BitVec.toNat_or,Zby a0 d,Zby c b1];exact Zd9 _ (by omega) (by have:=Nat.or_lt_two_pow (show a.toNat<2^32 by omega) (show b.toNat<2^32 by omega);omega)
theorem u32_xor {a b:Int}(a0:0<=a)(d:a<=4294967295)(c:0<=b)(b1:b<=4294967295):bits .xor .u32 a b=((a.toNat ^^^ b.toNat:Nat):Int):=by
 show IntKind.u32.wrap ((BitVec.ofInt 32 a ^^^ BitVec.ofInt 32 b).toNat:Int)=_
 rw[BitVec.toNat_xor,Zby a0 d,Zby c b1];exact Zd9 _ (by omega) (by have:=Nat.xor_lt_two_pow (show a.toNat<2^32 by omega) (show b.toNat<2^32 by omega);omega)
theorem Zes {a:Int}(a0:0<=a)(a1:a<=4294967295):IntKind.i32.wrap a=S.sgn a:=by
 unfold S.sgn;rw[IntKind.wrap_i32]
 split <;> omega
theorem Zft (x:Int):IntKind.u32.wrap x=S.u32m x:=by
 unfold S.u32m;rw[IntKind.wrap_u32]
theorem Zat (x:Int):0<=S.u32m x/\S.u32m x<=4294967295:=by unfold S.u32m;omega
namespace S
structure Item where
 kind:Int
 inst:Inst
 label:ByteArray
 word:Int
def wordOf (x:Inst):Int:=if good x=true then enc x else 0
def size (x:Item)(form:Int):Int :=
 if x.kind=2 then 0 else if x.kind=3/\form=3 then 4 else if x.kind=3 then form else if x.kind=4 then 2*form-1
 else if x.kind=5 then 2 else if x.kind=8 then x.word else 1
def regOk (n:Int):Bool:=decide (0<=n/\n<=31)
def chkItem (x:Item):Int :=
 if x.kind<1\/8<x.kind then 4
 else if x.kind=1/\chk x.inst≠0 then 11
 else if x.kind=3/\(turned x.inst.op=0\/¬(regOk x.inst.a=true)\/¬(regOk x.inst.b=true)) then 11
 else if (x.kind=4\/x.kind=5)/\¬(regOk x.inst.d=true) then 11
 else 0
def named (x:Item):Bool:=decide (x.kind=3\/x.kind=4\/x.kind=5\/x.kind=7)
def firstErr:List Item->Int
 | []=>0
 | x::r=>if chkItem x≠0 then chkItem x else firstErr r
def standsFrom (xs:List Item)(lab:ByteArray):Nat->Nat->Int
 | 0,_=>-1
 | f+1,i=>match xs[i]? with
  | none=>-1
  | some x=>if x.kind=2/\x.label=lab then i else standsFrom xs lab f (i+1)
def stands (xs:List Item)(lab:ByteArray):Int:=standsFrom xs lab xs.length 0
def Dup (xs:List Item):Prop:=∃(i:Nat)(x:Item),xs[i]?=some x/\x.kind=2/\stands xs x.label≠i
def Miss (xs:List Item):Prop:=∃(i:Nat)(x:Item),xs[i]?=some x/\named x=true/\stands xs x.label<0
def lui (tq:Int):Int:=wordOf ⟨23,25,0,0,tq/65536⟩
def ori (tq:Int):Int:=wordOf ⟨17,25,25,0,tq%65536⟩
def wordsOf (x:Item)(form at_ tq:Int):List Int :=
 if x.kind=1 then [wordOf x.inst]
 else if x.kind=3/\form=1 then [wordOf ⟨x.inst.op,0,x.inst.a,x.inst.b,tq-at_-1⟩]
 else if x.kind=3/\form=2 then [wordOf ⟨turned x.inst.op,0,x.inst.a,x.inst.b,1⟩,wordOf ⟨32,0,0,0,tq-at_-2⟩]
 else if x.kind=3 then [wordOf ⟨turned x.inst.op,0,x.inst.a,x.inst.b,3⟩,lui tq,ori tq,wordOf ⟨33,0,25,0,0⟩]
 else if x.kind=4/\form=1 then [wordOf ⟨32,x.inst.d,0,0,tq-at_-1⟩]
 else if x.kind=4 then [lui tq,ori tq,wordOf ⟨33,x.inst.d,25,0,0⟩]
 else if x.kind=5 then [wordOf ⟨23,x.inst.d,0,0,(tq+x.word)%4294967296/65536⟩,wordOf ⟨17,x.inst.d,x.inst.d,0,(tq+x.word)%4294967296%65536⟩]
 else if x.kind=6 then [x.word]
 else if x.kind=7 then [(4*tq+x.word)%4294967296]
 else if x.kind=8 then List.replicate x.word.toNat 0
 else []
def most26:Int:=67108864
def CheckRes (xs:List Item)(base r:Int):Prop :=
 ((base<0\/most26<base)/\r=2) \/
 (0<=base/\base<=most26/\firstErr xs≠0/\r=firstErr xs) \/
 (0<=base/\base<=most26/\firstErr xs=0/\Dup xs/\r=14) \/
 (0<=base/\base<=most26/\firstErr xs=0/\¬Dup xs/\Miss xs/\r=12) \/
 (0<=base/\base<=most26/\firstErr xs=0/\¬Dup xs/\¬Miss xs/\r=0)
def sizeAt (xs:List Item)(F:List Int)(i:Nat):Int :=
 match xs[i]? with
 | none=>0
 | some x=>size x (F.getD i 0)
def addr (xs:List Item)(F:List Int)(base:Int):Nat->Int
 | 0=>base
 | i+1=>addr xs F base i+sizeAt xs F i
def FormOk (xs:List Item)(F:List Int):Prop :=
 F.length=xs.length/\∀(i:Nat)(x:Item),xs[i]?=some x ->
  (x.kind=3->1<=F.getD i 0/\F.getD i 0<=3)/\(x.kind=4->1<=F.getD i 0/\F.getD i 0<=2)/\(x.kind≠3->x.kind≠4->F.getD i 0=0)
def fit (xs:List Item)(F:List Int)(base:Int)(i:Nat)(x:Item):Bool :=
 if (x.kind≠3/\x.kind≠4)\/(x.kind=3/\F.getD i 0=3)\/(x.kind=4/\F.getD i 0=2) then true
 else if x.kind=3/\F.getD i 0=1 then
  decide (-32768<=addr xs F base (stands xs x.label).toNat-addr xs F base (i+1)/\addr xs F base (stands xs x.label).toNat-addr xs F base (i+1)<=32767)
 else decide (-1048576<=addr xs F base (stands xs x.label).toNat-addr xs F base (i+1)/\addr xs F base (stands xs x.label).toNat-addr xs F base (i+1)<=1048575)
end S
theorem Zsg (op a b:Int):S.chk ⟨S.turned op,0,a,b,0⟩=if S.turned op=0\/¬(S.regOk a=true)\/¬(S.regOk b=true) then 11 else 0:=by
 by_cases h:S.turned op=0
 .simp only[h,true_or,if_true]
  have hf:S.form 0=0:=by decide
  simp[S.chk,S.good,hf]
 .have ht:26<=S.turned op/\S.turned op<=31:=by
   revert h;unfold S.turned;grind
  have hf:S.form (S.turned op)=4:=by
   unfold S.form;grind
  have c:S.least (S.turned op)=-32768/\S.most (S.turned op)=32767:=by
   unfold S.least S.most;grind
  simp only[S.chk,S.good,hf,S.hasD,S.hasA,S.hasB,S.reg,S.regOk,c.1,c.2];simp[h]
  grind
theorem Zyp (d:Int):S.chk ⟨32,d,0,0,0⟩=if ¬(S.regOk d=true) then 11 else 0:=by
 have hf:S.form 32=5:=by decide
 have a:S.least 32=-1048576/\S.most 32=1048575:=by decide
 simp only[S.chk,S.good,hf,S.hasD,S.hasA,S.hasB,S.reg,S.regOk,a.1,a.2];simp
 grind
theorem Zea (xs:List S.Item)(lab:ByteArray):∀(f i:Nat),i+f=xs.length ->
 (S.standsFrom xs lab f i=-1/\∀(j:Nat)(x:S.Item),i<=j->xs[j]?=some x->¬(x.kind=2/\x.label=lab)) \/
 ∃(j:Nat)(x:S.Item),S.standsFrom xs lab f i=j/\i<=j/\xs[j]?=some x/\x.kind=2/\x.label=lab/\∀(m:Nat)(y:S.Item),i<=m->m<j->xs[m]?=some y->¬(y.kind=2/\y.label=lab)
 | 0,i,h=>by
  left
  refine⟨rfl,λ j x n b=>?_⟩;have:=(Yg.1 b).1;omega
 | f+1,i,h=>by
  have hi:i<xs.length:=by omega
  have b:xs[i]?=some xs[i]:=List.getElem?_eq_getElem hi;rw[S.standsFrom,b];by_cases c:xs[i].kind=2/\xs[i].label=lab
  .right
   refine⟨i,xs[i],by simp[c],Yb _,b,c.1,c.2,λ m y h1 h2=>by omega⟩
  .simp only[c,if_false]
   rcases Zea xs lab f (i+1) (by omega) with⟨h1,h2⟩|⟨j,x,h1,h2,h3,l,o,k⟩
   .left
    refine⟨h1,λ j x n a=>?_⟩;by_cases e:j=i
    .subst e;rw[b] at a;cases a;exact c
    .exact h2 j x (by omega) a
   .right
    refine⟨j,x,h1,by omega,h3,l,o,λ m y hm d g=>?_⟩;by_cases e:m=i
    .subst e;rw[b] at g;cases g;exact c
    .exact k m y (by omega) d g
theorem Zav (xs:List S.Item)(lab:ByteArray) :
 (S.stands xs lab=-1/\∀(j:Nat)(x:S.Item),xs[j]?=some x->¬(x.kind=2/\x.label=lab)) \/
 ∃(j:Nat)(x:S.Item),S.stands xs lab=j/\xs[j]?=some x/\x.kind=2/\x.label=lab/\∀(m:Nat)(y:S.Item),m<j->xs[m]?=some y->¬(y.kind=2/\y.label=lab):=by
 rcases Zea xs lab xs.length 0 (by omega) with⟨h1,h2⟩|⟨j,x,h1,_,h3,c,a,b⟩
 .exact .inl ⟨h1,λ j x e=>h2 j x (Yae _) e⟩
 .exact .inr ⟨j,x,h1,h3,c,a,λ m y hm d=>b m y (Yae _) hm d⟩
theorem Zij {xs:List S.Item}{F:List Int}(hF:S.FormOk xs F)(a:∀x∈xs,0<=x.word/\x.word<=4294967295)(i:Nat):0<=S.sizeAt xs F i/\S.sizeAt xs F i<=4294967295:=by
 unfold S.sizeAt
 split
 .omega
 .rename_i x hx
  obtain⟨h3,h4,_⟩:=hF.2 i x hx;obtain⟨h5,h6⟩:=a x (List.mem_of_getElem? hx);unfold S.size
  grind
theorem Zdi {xs:List S.Item}{F:List Int}{base:Int}(hF:S.FormOk xs F)(a:∀x∈xs,0<=x.word/\x.word<=4294967295):∀i:Nat,base<=S.addr xs F base i/\S.addr xs F base i<=base+i*4294967295
 | 0=>by simp[S.addr]
 | i+1=>by
  obtain⟨h1,h2⟩:=Zdi hF a (base:=base) i;obtain⟨h3,h4⟩:=Zij hF a i;simp only[S.addr];omega
namespace S
def Stable (xs:List Item)(base:Int)(G:List Int):Prop:=FormOk xs G/\∀(i:Nat)(x:Item),xs[i]?=some x->fit xs G base i x=true
def Inv (xs:List Item)(base:Int)(F:List Int):Prop:=FormOk xs F/\∀G,Stable xs base G->∀i,F.getD i 0<=G.getD i 0
def startForm (x:Item):Int:=if x.kind=3\/x.kind=4 then 1 else 0
def FormsRes (xs:List Item)(base e:Int)(F:List Int):Prop :=
 (e≠0/\CheckRes xs base e/\F=[]) \/
 (CheckRes xs base 0/\e=3/\F=[]/\∃G,Inv xs base G/\most26<addr xs G base xs.length) \/
 (CheckRes xs base 0/\e=0/\Inv xs base F/\Stable xs base F/\addr xs F base xs.length<=most26)
end S
theorem Zsh (xs:List S.Item)(base:Int):S.Inv xs base (xs.map S.startForm):=by
 have hg:∀(i:Nat)(x:S.Item),xs[i]?=some x->(xs.map S.startForm).getD i 0=S.startForm x:=by
  intro i x a;simp[Ye,a]
 refine⟨⟨by simp,λ i x a=>?_⟩,λ G b i=>?_⟩
 .rw[hg i x a]
  unfold S.startForm
  grind
 .cases a:xs[i]? with
  | none =>
   simp[Ye,a];have:G[i]?=none:=by
    rw[List.getElem?_eq_none_iff] at a⊢;rw[b.1.1];exact a
   simp[this]
  | some x =>
   rw[hg i x a];obtain⟨h3,h4,h5⟩:=b.1.2 i x a;unfold S.startForm
   grind
theorem Zt4 {x:S.Item}{f g:Int}(h:f<=g)(h3:x.kind=3->1<=f/\g<=3):S.size x f<=S.size x g:=by
 unfold S.size
 grind
theorem Zfu {xs:List S.Item}{F G:List Int}{base:Int}(hF:S.FormOk xs F)(a:S.FormOk xs G)(h:∀i,F.getD i 0<=G.getD i 0)(p:Nat) :
 ∀d:Nat,S.addr xs F base (p+d)-S.addr xs F base p<=S.addr xs G base (p+d)-S.addr xs G base p
 | 0=>by simp
 | d+1=>by
  have ih:=Zfu (base:=base) hF a h p d;have hs:S.sizeAt xs F (p+d)<=S.sizeAt xs G (p+d):=by
   unfold S.sizeAt
   cases hx:xs[p+d]? with
   | none=>simp
   | some x =>
    exact Zt4 (h (p+d)) λ h3=>⟨((hF.2 _ x hx).1 h3).1,((a.2 _ x hx).1 h3).2⟩
  show S.addr xs F base (p+d)+S.sizeAt xs F (p+d)-S.addr xs F base p<=S.addr xs G base (p+d)+S.sizeAt xs G (p+d)-S.addr xs G base p
  omega
theorem Zgw {xs:List S.Item}{F:List Int}{base:Int}(hF:S.FormOk xs F)(a:∀x∈xs,0<=x.word/\x.word<=4294967295)(p:Nat) :
 ∀d:Nat,S.addr xs F base p<=S.addr xs F base (p+d)
 | 0=>by simp
 | d+1=>by
  have ih:=Zgw (base:=base) hF a p d;have:=(Zij hF a (p+d)).1
  show S.addr xs F base p<=S.addr xs F base (p+d)+S.sizeAt xs F (p+d)
  omega
theorem Zyq {xs:List S.Item}{F G:List Int}{base:Int}(hF:S.FormOk xs F)(b:S.FormOk xs G)(e:∀x∈xs,0<=x.word/\x.word<=4294967295)(h:∀i,F.getD i 0<=G.getD i 0)
 {i:Nat} {x:S.Item} (g:xs[i]?=some x) (hi:F.getD i 0=G.getD i 0) (hf:S.fit xs F base i x=false):S.fit xs G base i x=false:=by
 have f:=(Yg.1 g).1;unfold S.fit at hf⊢;rw[<- hi]
 split
 .rename_i c;rw[if_pos c] at hf;cases hf
 .rename_i c
  rw[if_neg c] at hf;generalize (S.stands xs x.label).toNat=j at *;rcases Ycj i j with a|a
  .obtain⟨d,rfl⟩:∃d,j=(i+1)+d:=⟨j-(i+1),by omega⟩
   have h1:=Zfu (base:=base) hF b h (i+1) d;have h2:=Zgw (base:=base) hF e (i+1) d;by_cases c2:x.kind=3/\F.getD i 0=1
   .rw[if_pos c2] at hf⊢
    rw[decide_eq_false_iff_not] at hf⊢;omega
   .rw[if_neg c2] at hf⊢
    rw[decide_eq_false_iff_not] at hf⊢;omega
  .obtain⟨d,hd⟩:∃d,i+1=j+d:=⟨i+1-j,by omega⟩
   have h1:=Zfu (base:=base) hF b h j d;have h2:=Zgw (base:=base) hF e j d;rw[<- hd] at h1 h2;by_cases c2:x.kind=3/\F.getD i 0=1
   .rw[if_pos c2] at hf⊢
    rw[decide_eq_false_iff_not] at hf⊢;omega
   .rw[if_neg c2] at hf⊢
    rw[decide_eq_false_iff_not] at hf⊢;omega
theorem Zbq {F:List Int}{i:Nat}{v:Int}(h:i<F.length):(F.set i v).getD i 0=v:=by simp[h]
theorem Zai {F:List Int}{i j:Nat}{v:Int}(h:i≠j):(F.set i v).getD j 0=F.getD j 0:=by simp[List.getElem?_set_ne h]
theorem Znd {xs:List S.Item}{F:List Int}{base:Int}(hF:S.FormOk xs F){i:Nat}{x:S.Item}(d:xs[i]?=some x)(hf:S.fit xs F base i x=false) :
 (x.kind=3/\1<=F.getD i 0/\F.getD i 0<=2)\/(x.kind=4/\F.getD i 0=1):=by
 obtain⟨h3,b,_⟩:=hF.2 i x d;unfold S.fit at hf
 split at hf
 .cases hf
 .rename_i c
  by_cases a:x.kind=3
  .have:=h3 a;left;refine⟨a,by omega,?_⟩;by_cases e:F.getD i 0=3
   .exact absurd (.inr (.inl ⟨a,e⟩)) c
   .omega
  .by_cases k4:x.kind=4
   .have:=b k4;right;refine⟨k4,?_⟩;by_cases e:F.getD i 0=2
    .exact absurd (.inr (.inr ⟨k4,e⟩)) c
    .omega
   .exact absurd (.inl ⟨a,k4⟩) c
theorem Zpj {xs:List S.Item}{F:List Int}(hF:S.FormOk xs F){i:Nat}{x:S.Item}(c:xs[i]?=some x)(h:(x.kind=3/\1<=F.getD i 0/\F.getD i 0<=2)\/(x.kind=4/\F.getD i 0=1)) :
 S.FormOk xs (F.set i (F.getD i 0+1)):=by
 have a:=(Yg.1 c).1;refine⟨by rw[List.length_set];exact hF.1,λ j y b=>?_⟩;by_cases e:i=j
 .subst e
  rw[c] at b;cases b;rw[Zbq (by rw[hF.1];exact a)];omega
 .rw[Zai e]
  exact hF.2 j y b
theorem Zyr {xs:List S.Item}{base:Int}{F f:List Int}(g:S.Inv xs base F)(b:S.Inv xs base f)(m:∀x∈xs,0<=x.word/\x.word<=4294967295)
 {i:Nat} {x:S.Item} (d:xs[i]?=some x) (a:f.getD i 0=F.getD i 0) (hf:S.fit xs F base i x=false):S.Inv xs base (f.set i (f.getD i 0+1)):=by
 have h:=(Yg.1 d).1;have h1:=Znd g.1 d hf;rw[<- a] at h1;refine⟨Zpj b.1 d h1,λ G c j=>?_⟩;by_cases e:i=j
 .subst e
  rw[Zbq (by rw[b.1.1];exact h)];have l:=g.2 G c i;rw[a];by_cases k:F.getD i 0=G.getD i 0
  .have:=Zyq g.1 c.1 m (g.2 G c) d k hf
   rw[c.2 i x d] at this
   cases this
  .omega
 .rw[Zai e]
  exact b.2 G c j
theorem Zne {xs:List S.Item}{base r s:Int}(h:S.CheckRes xs base r)(k:S.CheckRes xs base s):r=s:=by
 unfold S.CheckRes at h k;rcases h with⟨h1,h2⟩|⟨h1,h2,h3,c⟩|⟨h1,h2,h3,c,e⟩|⟨h1,h2,h3,c,e,i⟩|⟨h1,h2,h3,c,e,i⟩ <;>
 rcases k with⟨a,k2⟩|⟨a,k2,b,d⟩|⟨a,k2,b,d,f⟩|⟨a,k2,b,d,f,g⟩|⟨a,k2,b,d,f,g⟩ <;>
 first
  | omega
  | (exact absurd ‹S.Dup xs› ‹¬S.Dup xs›)
  | (exact absurd ‹S.Miss xs› ‹¬S.Miss xs›)
theorem Zfv {F G:List Int}(h:F.length=G.length)(k:∀i,F.getD i 0=G.getD i 0):F=G:=by
 apply List.ext_getElem h
 intro i h1 h2;have:=k i
 simpa[h1,h2] using this
def Zty (F:List Int):Nat:=(F.map λ f=>(3-f).toNat).sum
theorem Zys {F:List Int}{i:Nat}(h:i<F.length)(h3:F.getD i 0<=2):Zty (F.set i (F.getD i 0+1))<Zty F:=by
 induction F generalizing i with
 | nil=>simp at h
 | cons f F ih =>
  cases i with
  | zero=>simp[Zty] at *;omega
  | succ i =>
   have:=ih (i:=i) (by simpa using h) (by simpa using h3);simp[Zty] at *;omega
theorem Zlo {xs:List S.Item}{k:Nat}{x:S.Item}(a:xs[k]?=some x):S.firstErr (xs.drop k)=if S.chkItem x≠0 then S.chkItem x else S.firstErr (xs.drop (k+1)):=by
 have c:=(Yg.1 a).1;have b:=(Yg.1 a).2;rw[List.drop_eq_getElem_cons c,b,S.firstErr]
theorem Znf {xs:List S.Item}{base:Int}(h:S.CheckRes xs base 0){i:Nat}{x:S.Item}(b:xs[i]?=some x)(c:S.named x=true):0<=S.stands xs x.label:=by
 rcases h with⟨_,h⟩|⟨_,_,h,h'⟩|⟨_,_,_,_,h⟩|⟨_,_,_,_,_,h⟩|⟨_,_,_,_,hm,_⟩
 .omega
 .omega
 .omega
 .omega
 .have:¬S.stands xs x.label<0:=λ a=>hm ⟨i,x,b,c,a⟩
  omega
theorem Z18 {xs:List S.Item}{base:Int}(h:S.CheckRes xs base 0):0<=base/\base<=67108864:=by
 rcases h with⟨_,h⟩|⟨h0,h1,_⟩|⟨h0,h1,_⟩|⟨h0,h1,_⟩|⟨h0,h1,_⟩
 .omega
 all_goals exact⟨h0,h1⟩
