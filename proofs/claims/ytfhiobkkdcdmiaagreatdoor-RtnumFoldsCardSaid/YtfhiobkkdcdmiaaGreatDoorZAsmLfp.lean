/- Parts. -/
import Derived.Test.YtfhiobkkdcdmiaaGreatDoorRows
import Derived.Test.YtfhiobkkdcdmiaaGreatDoorProg
import Derived.Test.YtfhiobkkdcdmiaaGreatDoorZYx
import Derived.Test.YtfhiobkkdcdmiaaGreatDoorShelf
import Derived.JoinedOf
import Derived.JoinedCond
import Derived.KernelRfl
import Derived.WalkKit
import Derived.Lib.ItoaNum
import Derived.Lib.AtoiAll
import Derived.Lib.Strings
import Derived.WalkSpells
import Derived.WalkLawsBesides
import Derived.Deep.QuietTactic
import Derived.BigQuiet
import Derived.LoopN
import Derived.Maps.AppendAt
import Derived.Lib.Hide
import Derived.Lib.AppendIntMem
import Derived.Lib.SmallJoins
import Derived.Laws.BytesArg
import Derived.Deep.RegionWith
import Derived.Deep.DeepCutAuto
import Derived.ProofKit
import Derived.Carry
import Derived.OpenShut
import Derived.LaidMore
import Derived.LaidHandle
import Derived.MakeChecks
import Derived.Lib.LaidTab
import Derived.Stop.LaidErr
import Derived.Deep.DeepHandedRow
import Derived.Deep.DeepWitnessRowRef
import Derived.Laws.BitsLemmas
import Derived.Laws.BitsAllLaws
set_option linter.all false
set_option maxHeartbeats 40000000
open Nat renaming le_refl->Yb,le_trans->Y8,zero_le->Yag,lt_or_ge->Ycf
open List renaming getD_eq_getElem?_getD->Ye,getElem?_eq_some_iff->Yg,map_cons->Ybz,map_toArray->Yda,map_nil->Ydp
open Bool renaming and_eq_true->Yt
namespace Go.Proofs.YtfhiobkkdcdmiaaGreatDoor
open Go.RowKit
section
set_option maxRecDepth 100000
theorem Zgm:joinedFacts Tryz.pinned.checked.prog 6 Tryz.f6 (OpenSpec.ofChange Rows.rtnumFoldsSpec).bare Rows.rtnumFoldsRow=true:=by
 unfold joinedFacts;simp only[Yt]
 (repeat' apply And.intro)
 all_goals (as_aux_lemma=>kernel_rfl)
end
namespace S
structure Inst where
 op:Int
 d:Int
 a:Int
 b:Int
 imm:Int
def form (op:Int):Int :=
 if 1<=op/\op<=14 then 1 else if op=23 then 3 else if (15<=op/\op<=24)\/op=33 then 2
 else if 25<=op/\op<=31 then 4 else if op=32 then 5 else if op=34 then 6 else if op=35\/op=36 then 7 else 0
def least (op:Int):Int :=
 if op=32 then -1048576 else if (16<=op/\op<=21)\/op=23 then 0
 else if form op=2\/form op=4 then -32768 else 0
def most (op:Int):Int :=
 if op=32 then 1048575 else if (16<=op/\op<=18)\/op=23 then 65535 else if 19<=op/\op<=21 then 31
 else if form op=2\/form op=4 then 32767 else 0
def hasD (f:Int):Bool:=decide (f=1\/f=2\/f=3\/f=5\/f=6)
def hasA (f:Int):Bool:=decide (f=1\/f=2\/f=4\/f=7)
def hasB (f:Int):Bool:=decide (f=1\/f=4)
def bitsOf (f:Int):Int:=if f=5 then 21 else if 2<=f/\f<=4 then 16 else 0
def reg (is:Bool)(n:Int):Bool:=decide (n=0\/(is=true/\0<=n/\n<=31))
def good (x:Inst):Bool :=
 decide (form x.op≠0) && reg (hasD (form x.op)) x.d && reg (hasA (form x.op)) x.a && reg (hasB (form x.op)) x.b &&
  decide (least x.op<=x.imm) && decide (x.imm<=most x.op)
def chk (x:Inst):Int:=if good x=true then 0 else 11
def enc (x:Inst):Int :=
 if form x.op=1 then x.op*67108864+x.d*2097152+x.a*65536+x.b*2048
 else if form x.op=2 then x.op*67108864+x.d*2097152+x.a*65536+x.imm%65536
 else if form x.op=3 then x.op*67108864+x.d*2097152+x.imm
 else if form x.op=4 then x.op*67108864+x.a*2097152+x.b*65536+x.imm%65536
 else if form x.op=5 then x.op*67108864+x.d*2097152+x.imm%2097152
 else if form x.op=6 then x.op*67108864+x.d*2097152
 else x.op*67108864+x.a*2097152
def turned (op:Int):Int:=if op<26\/31<op then 0 else if op%2=0 then op+1 else op-1
end S
theorem Zak (op:Int):(S.form op=0/\(op<1\/36<op))\/(S.form op=1/\1<=op/\op<=14)\/(S.form op=2/\((15<=op/\op<=24/\op≠23)\/op=33))\/(S.form op=3/\op=23) \/
 (S.form op=4/\25<=op/\op<=31)\/(S.form op=5/\op=32)\/(S.form op=6/\op=34)\/(S.form op=7/\(op=35\/op=36)):=by
 grind [S.form]
theorem Zfm {op d a b imm:Int}(hg:S.good ⟨op,d,a,b,imm⟩=true):1<=op/\op<=36/\0<=d/\d<=31/\0<=a/\a<=31/\0<=b/\b<=31 /\
 ((S.form op=1/\S.hasD (S.form op)=true/\S.hasA (S.form op)=true/\S.hasB (S.form op)=true/\S.bitsOf (S.form op)=0/\0<=imm/\imm<=0)\/(S.form op=2/\S.hasD (S.form op)=true/\S.hasA (S.form op)=true/\S.hasB (S.form op)=false/\S.bitsOf (S.form op)=16/\-32768<=imm/\imm<=65535)\/(S.form op=3/\S.hasD (S.form op)=true/\S.hasA (S.form op)=false/\S.hasB (S.form op)=false/\S.bitsOf (S.form op)=16/\0<=imm/\imm<=65535)\/(S.form op=4/\S.hasD (S.form op)=false/\S.hasA (S.form op)=true/\S.hasB (S.form op)=true/\S.bitsOf (S.form op)=16/\-32768<=imm/\imm<=32767)\/(S.form op=5/\S.hasD (S.form op)=true/\S.hasA (S.form op)=false/\S.hasB (S.form op)=false/\S.bitsOf (S.form op)=21/\-1048576<=imm/\imm<=1048575)\/(S.form op=6/\S.hasD (S.form op)=true/\S.hasA (S.form op)=false/\S.hasB (S.form op)=false/\S.bitsOf (S.form op)=0/\0<=imm/\imm<=0)\/(S.form op=7/\S.hasD (S.form op)=false/\S.hasA (S.form op)=true/\S.hasB (S.form op)=false/\S.bitsOf (S.form op)=0/\0<=imm/\imm<=0)):=by
 simp only[S.good,Yt,decide_eq_true_eq,S.reg] at hg;obtain⟨⟨⟨⟨⟨h1,h2⟩,h3⟩,h4⟩,h5⟩,h6⟩:=hg;have hl:0<=d/\d<=31/\0<=a/\a<=31/\0<=b/\b<=31:=by omega
 rcases Zak op with⟨h,ho⟩|⟨h,ho⟩|⟨h,ho⟩|⟨h,ho⟩|⟨h,ho⟩|⟨h,ho⟩|⟨h,ho⟩|⟨h,ho⟩
 .exact absurd h h1
 all_goals
  refine⟨by omega,by omega,hl.1,hl.2.1,hl.2.2.1,hl.2.2.2.1,hl.2.2.2.2.1,hl.2.2.2.2.2,?_⟩;simp only[S.least,S.most,h] at h5 h6;simp[h,S.hasD,S.hasA,S.hasB,S.bitsOf];clear h1 h2 h3 h4 hl h
  grind
namespace S
def nameTab:List (List UInt8):=[[],[97,100,100],[115,117,98],[109,117,108],[109,117,108,104],[100,105,118],[114,101,109],[97,110,100],[111,114],[120,111,114],[115,108,108],[115,114,108],[115,114,97],[115,108,116],[115,108,116,117],[97,100,100,105],[97,110,100,105],[111,114,105],[120,111,114,105],[115,108,108,105],[115,114,108,105],[115,114,97,105],[115,108,116,105],[108,117,105],[108,119],[115,119],[98,101,113],[98,110,101],[98,108,116],[98,103,101],[98,108,116,117],[98,103,101,117],[106,97,108],[106,97,108,114],[105,110],[111,117,116],[104,97,108,116]]
def Z5d (op:Int):List UInt8:=if 0<=op/\op<37 then nameTab.getD op.toNat [] else []
def digF:Nat->Nat->List UInt8
 | 0,u=>[UInt8.ofNat (48+u%10)]
 | f+1,u=>if u<10 then [UInt8.ofNat (48+u)] else digF f (u/10)++[UInt8.ofNat (48+u%10)]
def itoa (n:Int):List UInt8:=if n<0 then 45::digF 20 n.natAbs else digF 20 n.toNat
def part (is:Bool)(mark:List UInt8)(n:Int):List UInt8:=if is=true then 32::(mark++itoa n) else []
def text (x:Inst):List UInt8 :=
 if good x=true then Z5d x.op++(part (hasD (form x.op)) [114] x.d++(part (hasA (form x.op)) [114] x.a++(part (hasB (form x.op)) [114] x.b++part (decide (0<bitsOf (form x.op))) [] x.imm))) else [63]
def words:List UInt8->List (List UInt8)
 | []=>[[]]
 | c::r=>if c=32 then []::words r else match words r with
  | []=>[[c]]
  | w::t=>(c::w)::t
end S
theorem Zoy:∀(f u:Nat),u<10^(f+1)->S.digF f u=Lib.decDigits u
 | 0,u,h=>by
  have h':u<10:=by simpa using h
  rw[Lib.decDigits_one h']
  show [UInt8.ofNat (48+u%10)]=_
  rw[Nat.mod_eq_of_lt h']
 | f+1,u,h=>by
  show(if u<10 then [UInt8.ofNat (48+u)] else S.digF f (u/10)++[UInt8.ofNat (48+u%10)])=_
  by_cases hu:u<10
  .rw[if_pos hu,Lib.decDigits_one hu]
  .rw[if_neg hu,Zoy f (u/10) (by rw[Nat.pow_succ] at h;omega)]
   conv=>rhs;rw[Lib.decDigits,dif_neg hu]
theorem Zta {n:Int}(h:-1000000000000000000000<n/\n<1000000000000000000000):S.itoa n=Lib.itoa n:=by
 have e:(10:Nat)^(20+1)=1000000000000000000000:=by decide
 unfold S.itoa Lib.itoa
 split
 .rw[Zoy 20 _ (by rw[e];omega)]
 .rw[Zoy 20 _ (by rw[e];omega)]
theorem Z2 {k:IntKind}{a b:Int}(h:a=b):Ending.returned (.int k a)=.returned (.int k b):=by rw[h]
theorem Zi {a b:Bool}(h:a=b):Ending.returned (.bool a)=.returned (.bool b):=by rw[h]
theorem Zxl {k l:IntKind}{a b x y:Int}(h:a=b)(g:x=y):Ending.returned (.tuple #[.int k a,.int l x])=.returned (.tuple #[.int k b,.int l y]):=by rw[h,g]
theorem Zmi {fn:Func}{t u v x:Tmp}(h:fn.results=#[.tmp t,.tmp u,.tmp v,.tmp x])(tmps:Array Value)(P:Program)(w:World) :
 (results fn tmps).run P w=.ok (.tuple #[tmps.getD t undef,tmps.getD u undef,tmps.getD v undef,tmps.getD x undef]) w:=by simp[results,h]
theorem below_drewN {B:Nat}{a w:World}(h:Below B a w)(n:Nat):Below B a (w.drewN n):=⟨h.os,h.tape,h.output,h.size,h.block⟩
theorem Zcr {W w1:World}(hb:Below W.heap.size W w1):(∀b o,b<W.heap.size->w1.cell? ⟨b,o,none⟩=W.cell? ⟨b,o,none⟩)/\(∀b o,b<W.heap.size->w1.frozen? ⟨b,o,none⟩=W.frozen? ⟨b,o,none⟩) :=
 ⟨λ b o h=>hb.cell (p:=⟨b,o,none⟩) h,λ b o h=>hb.frozen (p:=⟨b,o,none⟩) h⟩
theorem Ztb {P:Program}{c:Code}{Q:Exit->Act->World->Prop}{a:Act}{w:World}(I:World->Prop)(h:I w)(k:∀w',I w'->Code.wp P c Q a w'):Code.wp P c Q a w:=k w h
theorem Zb1 {base:Nat}{a w w':World}{row:Option Nat}(h:Below base a w)(hg:w.grownBy w' row)(hB:base<=w.heap.size)(hr:∀k,row=some k->base<=k):Below base a w':=h.grown hg hB hr
theorem Zd {w w':World}{base:Nat}{e:TypeId}{size:Nat}{v:Value}{n:Nat}{xs:List Value}(h:w.ownsRow base e size v n xs)(hb:Below w.heap.size w w'):w'.ownsRow base e size v n xs:=by
 refine h.kept (row:=none) ⟨hb.os,hb.tape,hb.output,hb.size,λ k hk _=>hb.block k hk⟩ ?_
 cases v.ownBlock <;> simp
theorem Zk1 {w:World}{base:Nat}{e:TypeId}{size:Nat}{v:Value}{n:Nat}{xs:List Value}(h:w.ownsRow base e size v n xs)(k:Nat):(w.drewN k).ownsRow base e size v n xs:=h
theorem Z5 {w:World}{base base':Nat}{e:TypeId}{size:Nat}{v:Value}{n:Nat}{xs:List Value}(h:w.ownsRow base e size v n xs)(hb:base'<=base):w.ownsRow base' e size v n xs:=by
 refine⟨h.1,?_⟩;rcases h.2 with h|⟨g,cap,cur,h1,h2,h3⟩
 .exact .inl h
 .exact .inr ⟨g,cap,cur,h1,Y8 hb h2,h3⟩
theorem Zb {w:World}{base:Nat}{e:TypeId}{size:Nat}{v:Value}{n:Nat}{xs:List Value}(h:w.ownsRow base e size v n xs):∃A c,v=.slice A n c:=by
 rcases h.2 with⟨rfl,rfl⟩|⟨g,cap,cur,rfl,_⟩
 .exact⟨_,_,rfl⟩
 .exact⟨_,_,rfl⟩
theorem Z6 {w:World}{base:Nat}{e:TypeId}{size:Nat}{A:Option Addr}{c m:Nat}{n:Nat}{xs:List Value}(h:w.ownsRow base e size (.slice A m c) n xs)(hn:0<n) :
 ∃g,A=some ⟨g,0,none⟩/\base<=g/\g<w.heap.size/\n<=c/\(∀j,j<n*size->w.cell? ⟨g,j,none⟩=xs[j]?)/\(∀j,w.frozen? ⟨g,j,none⟩=false):=by
 have hlt:=h.lt;rcases h.2 with⟨h1,h2⟩|⟨g,cap,cur,h1,h2,h3,h4,h5,h6,h7⟩
 .omega
 .simp only[Value.slice.injEq] at h1
  obtain⟨rfl,rfl,rfl⟩:=h1;exact⟨g,rfl,h2,(hlt g rfl).2,h4,λ j hj=>h.cellAt j hj,λ j=>h.frozenAt j⟩
theorem Zau (w:World)(cs:Array Value)(e:TypeId)(o:Nat):(w.alloc (.cells cs e)).cell? ⟨w.heap.size,o,none⟩=cs[o]?:=by
 simp only[World.cell?,heap_alloc_new];simp
theorem Z0t {w0:World}{cs:Array Value}{e:TypeId}(j:Nat)(u:Value)(h:cs.toList[j]?=some u):(w0.alloc (.cells cs e)).cell? ((⟨w0.heap.size,0,none⟩:Addr).add j)=some u:=by
 have hj:(⟨w0.heap.size,0,none⟩:Addr).add j=⟨w0.heap.size,j,none⟩:=by
  unfold Addr.add;by_cases h0:j=0
  .subst h0;rfl
  .rw[if_neg h0];simp
 rw[hj];simp only[World.cell?,heap_alloc_new]
 simpa using h
theorem Zd2 {P:Program}{o:Oper}{a:Act}{K:Act->World->Prop}{Q:Exit->Act->World->Prop}{w0 w:World}(s x:Operand)(t:TypeId)
 (ho:o.op=.call { callee:=.builtin .append,args:=#[s,x],argTypes:=#[t,t] })
 (base:Nat) (e:TypeId) {z:Value} {size bytes:Nat} (hinfo:(P.info? e).map (λ i=>(i.zero,i.size,i.bytes))=some (some z,size,bytes)) (ht:P.underlying t=some (.slice e))
 (hzs:z.cells.size=size) (hsz:0<size) (cs:Array Value)
 (v:Value) (n:Nat) (xs:List Value) (hs:a.eval s=v) (hown:w0.ownsRow base e size v n xs)
 (hw:w=w0.alloc (.cells cs e)) (hx:a.eval x=.slice (some ⟨w0.heap.size,0,none⟩) 1 1) (hl:cs.size=size) (h1:∀u∈cs.toList,u.oneCell'=true)
 (h63:n+1<=maxLen) (hbytes:(n+1)*bytes<=140737488355328) (hbase:base<=w0.heap.size)
 (h:∀v' w',w'.ownsRow base e size v' (n+1) (xs++cs.toList)->w0.grownBy w' v.ownBlock->Below base w0 w'->(v'.ownBlock=v.ownBlock\/v'.ownBlock=some (w0.heap.size+1))->K (a.put o.dst v') w') :
 o.wp P a w K Q:=by
 obtain⟨i,hi,hz,hsize,hby⟩:=info_parts hinfo;subst hw;obtain⟨v',w',hrun,h2,h3,_,h5⟩:=run_append_own_at (P:=P) (w0.alloc (.cells cs e)) base t o.type e i z size bytes ht hi hz hsize hby hzs hsz v n xs (hown.alloc _) ⟨w0.heap.size,0,none⟩ 1 1 cs.toList
  (by simp[hl]) (λ j u hu=>Z0t j u hu) h1 h63 hbytes (by simp;omega)
 unfold Oper.wp execOp;simp only[ho,resolve,invoke,builtin,Sem.run_bind,Sem.run_pure,Result.andThen_ok,Yda,Ybz,Ydp,hs,hx,hrun];have hg:w0.grownBy w' v.ownBlock:=⟨h3.os,h3.tape,h3.output,Y8 (by simp) h3.size,λ k hk hne=>(h3.block k (by simp;omega) hne).trans (Below.heap_alloc _ _ _ hk)⟩
 refine h v' w' h2 hg ((Below.refl _ _).grown hg hbase (λ k hk=>(hown.lt k hk).1)) ?_
 simpa using h5
theorem Zt {P:Program}{ops:Array Oper}{rest:List Oper}{o:Oper}{a:Act}{Q:Exit->Act->World->Prop}{w0 w:World}(hgd:o.guard=none)(s x:Operand)(t:TypeId)
 (ho:o.op=.call { callee:=.builtin .append,args:=#[s,x],argTypes:=#[t,t] })
 (base:Nat) (e:TypeId) {z:Value} {size bytes:Nat} (hinfo:(P.info? e).map (λ i=>(i.zero,i.size,i.bytes))=some (some z,size,bytes)) (ht:P.underlying t=some (.slice e))
 (hzs:z.cells.size=size) (hsz:0<size) (cs:Array Value)
 (v:Value) (n:Nat) (xs:List Value) (hs:a.eval s=v) (hown:w0.ownsRow base e size v n xs)
 (hw:w=w0.alloc (.cells cs e)) (hx:a.eval x=.slice (some ⟨w0.heap.size,0,none⟩) 1 1) (hl:cs.size=size) (h1:∀u∈cs.toList,u.oneCell'=true)
 (h63:n+1<=maxLen) (hbytes:(n+1)*bytes<=140737488355328) (hbase:base<=w0.heap.size)
 (h:∀v' w',w'.ownsRow base e size v' (n+1) (xs++cs.toList)->w0.grownBy w' v.ownBlock->Below base w0 w'->(v'.ownBlock=v.ownBlock\/v'.ownBlock=some (w0.heap.size+1))->wpList P ops Q rest (a.put o.dst v') w') :
 wpList P ops Q (o::rest) a w :=
 wpList_plain hgd λ _ hK=>Zd2 s x t ho base e hinfo ht hzs hsz cs v n xs hs hown hw hx hl h1 h63 hbytes hbase λ v' w' h2 h3 h4 h5=>hK _ _ (h v' w' h2 h3 h4 h5)
def Reads (w:World)(B:Nat)(A:Option Addr)(xs:List Value):Prop :=
 0<xs.length->∃b off,A=some ⟨b,off,none⟩/\b<B/\∀i x,xs[i]?=some x->w.cell? ⟨b,off+i,none⟩=some x
theorem Reads.below {w w':World}{B:Nat}{A:Option Addr}{xs:List Value}(h:Reads w B A xs)(hb:Below B w w'):Reads w' B A xs:=λ hp=>by
 obtain⟨b,off,e,hbB,hc⟩:=h hp;exact⟨b,off,e,hbB,λ i x hx=>(hb.cell (p:=⟨b,off+i,none⟩) hbB).trans (hc i x hx)⟩
theorem Reads.of_own {w:World}{base:Nat}{e:TypeId}{A:Option Addr}{m c n:Nat}{xs:List Value}(h:w.ownsRow base e 1 (.slice A m c) n xs):Reads w w.heap.size A xs:=λ hp=>by
 have hl:xs.length=n:=by have:=h.1;simpa using this
 obtain⟨g,rfl,hg1,hg2,hg3,hg4,_⟩:=Z6 h (by omega);refine⟨g,0,rfl,hg2,λ i x hx=>?_⟩;have hi:=(Yg.1 hx).1;have h1:=hg4 i (by omega);rw[Nat.zero_add,h1,hx]
theorem Addr.add_mk (b o j:Nat):(⟨b,o,none⟩:Addr).add j=⟨b,o+j,none⟩:=by
 unfold Addr.add;by_cases h:j=0
 .subst h;rfl
 .rw[if_neg h]
theorem Zcc {P:Program}(w:World)(base:Nat)(t ty e:TypeId)(i:TypeInfo)(size:Nat)(ht:P.underlying t=some (.slice e))(hi:P.info? e=some i)
 (v:Value) (n:Nat) (xs:List Value) (hown:w.ownsRow base e size v n xs) (c:Nat):(Builtin.append_ #[t,t] ty #[v,.slice none 0 c]).run P w=.ok v w:=by
 rcases hown.2 with⟨rfl,rfl⟩|⟨g,cap,cur,rfl,_,_,hnc,_⟩
 .simp[Builtin.append_,run_underlying ht,sizeOf,typeInfo,hi,Builtin.lenOf,Builtin.firstCells]
 .simp[Builtin.append_,run_underlying ht,sizeOf,typeInfo,hi,Builtin.lenOf,Builtin.firstCells,hnc,storeCells]
theorem Zrr {P:Program}{o:Oper}{a:Act}{K:Act->World->Prop}{Q:Exit->Act->World->Prop}{w:World}(s x:Operand)(t:TypeId)
 (ho:o.op=.call { callee:=.builtin .append,args:=#[s,x],argTypes:=#[t,t] })
 (base:Nat) (e:TypeId) {z:Value} {bytes:Nat} (hinfo:(P.info? e).map (λ i=>(i.zero,i.size,i.bytes))=some (some z,1,bytes)) (ht:P.underlying t=some (.slice e))
 (hzs:z.cells.size=1) (v:Value) (n:Nat) (xs:List Value) (hs:a.eval s=v) (hown:w.ownsRow base e 1 v n xs)
 (B:Nat) (A:Option Addr) (m c:Nat) (news:List Value) (hx:a.eval x=.slice A m c) (hm:m=news.length) (hA:A=none->m=0) (hr:Reads w B A news) (h1:∀u∈news,u.oneCell'=true)
 (h63:n+m<=maxLen) (hbytes:(n+m)*bytes<=140737488355328) (hbase:base<=w.heap.size)
 (h:∀v' w',w'.ownsRow base e 1 v' (n+m) (xs++news)->w.grownBy w' v.ownBlock->Below base w w'->(v'.ownBlock=v.ownBlock\/v'.ownBlock=some w.heap.size)->K (a.put o.dst v') w') :
 o.wp P a w K Q:=by
 obtain⟨i,hi,hz,hsize,hby⟩:=info_parts hinfo;have hfin:∃v' w',(Builtin.append_ #[t,t] o.type #[v,.slice A m c]).run P w=.ok v' w'/\w'.ownsRow base e 1 v' (n+m) (xs++news)/\w.grownBy w' v.ownBlock/\(v'.ownBlock=v.ownBlock\/v'.ownBlock=some w.heap.size):=by
  rcases A with _|ad
  .have h0:=hA rfl
   subst h0;have hn:news=[]:=List.eq_nil_of_length_eq_zero hm.symm;subst hn;exact⟨v,w,Zcc w base t _ e i 1 ht hi v n xs hown c,by simpa using hown,World.grownBy.refl w _,.inl rfl⟩
  .have hcells:∀j u,news[j]?=some u->w.cell? (ad.add j)=some u:=by
    intro j u hu;have hlt:=(Yg.1 hu).1;obtain⟨b,off,he,hbB,hc⟩:=hr (by omega)
    cases he
    rw[Addr.add_mk];exact hc j u hu
   obtain⟨v',w',hrun,h2,h3,_,h5⟩:=run_append_own_at (P:=P) w base t o.type e i z 1 bytes ht hi hz hsize hby hzs (by decide) v n xs hown ad m c news (by rw[hm];simp) hcells h1 h63 hbytes hbase;exact⟨v',w',hrun,h2,h3,h5⟩
 obtain⟨v',w',hrun,h2,h3,h4⟩:=hfin;unfold Oper.wp execOp;simp only[ho,resolve,invoke,builtin,Sem.run_bind,Sem.run_pure,Result.andThen_ok,Yda,Ybz,Ydp,hs,hx,hrun];exact h v' w' h2 h3 ((Below.refl _ _).grown h3 hbase (λ k hk=>(hown.lt k hk).1)) h4
theorem Zb2 {P:Program}{ops:Array Oper}{rest:List Oper}{o:Oper}{a:Act}{Q:Exit->Act->World->Prop}{w:World}(hgd:o.guard=none)(s x:Operand)(t:TypeId)
 (ho:o.op=.call { callee:=.builtin .append,args:=#[s,x],argTypes:=#[t,t] })
 (base:Nat) (e:TypeId) {z:Value} {bytes:Nat} (hinfo:(P.info? e).map (λ i=>(i.zero,i.size,i.bytes))=some (some z,1,bytes)) (ht:P.underlying t=some (.slice e))
 (hzs:z.cells.size=1) (v:Value) (n:Nat) (xs:List Value) (hs:a.eval s=v) (hown:w.ownsRow base e 1 v n xs)
 (B:Nat) (A:Option Addr) (m c:Nat) (news:List Value) (hx:a.eval x=.slice A m c) (hm:m=news.length) (hA:A=none->m=0) (hr:Reads w B A news) (h1:∀u∈news,u.oneCell'=true)
 (h63:n+m<=maxLen) (hbytes:(n+m)*bytes<=140737488355328) (hbase:base<=w.heap.size)
 (h:∀v' w',w'.ownsRow base e 1 v' (n+m) (xs++news)->w.grownBy w' v.ownBlock->Below base w w'->(v'.ownBlock=v.ownBlock\/v'.ownBlock=some w.heap.size)->wpList P ops Q rest (a.put o.dst v') w') :
 wpList P ops Q (o::rest) a w :=
 wpList_plain hgd λ _ hK=>Zrr s x t ho base e hinfo ht hzs v n xs hs hown B A m c news hx hm hA hr h1 h63 hbytes hbase λ v' w' h2 h3 h4 h5=>hK _ _ (h v' w' h2 h3 h4 h5)
structure LVE (w:World):Prop where
 tab : Lib.TabIs Tryz.prog w "internal/strconv.uint64pow10" .u64 Lib.pow10Tab
 size:3<=w.heap.size
theorem Ztc : Tryz.prog.globalNamed "internal/strconv.uint64pow10" = some 0 := by kernel_rfl
theorem LVE.keep {w w':World}(h:LVE w){B:Nat}(hb:Below B w w')(hB:3<=B):LVE w':=by
 refine⟨?_,Y8 h.size hb.size⟩;have h1:=h.tab;unfold Lib.TabIs World.var? at h1⊢;rw[Ztc] at h1⊢;simp only[Option.bind_some] at h1⊢;rw[hb.block 0 (by omega)];exact h1
theorem LVE.on {w w':World}(h:LVE w)(hb:Below w.heap.size w w'):LVE w':=h.keep hb h.size
def I64 (n:Int):Prop:=-9223372036854775808<=n/\n<=9223372036854775807
theorem Zqj (n:Int)(h:I64 n)(w:World)(hL:LVE w) :
 Calls Tryz.prog 85 #[.int .i64 n] w λ e w'=>e=.returned (.string ⟨(S.itoa n).toArray⟩)/\Below w.heap.size w w':=by
 obtain⟨h0,h1⟩:=h;refine(Tryz.strconv_Itoa n h0 h1 w hL.tab).mono ?_;rintro e w' ⟨rfl,k,os,rfl⟩;refine⟨by rw[Zta (by omega)],?_⟩;exact Lib.below_grow _ _ (Yb _) _ _
theorem Zd3:∀(f u:Nat),(S.digF f u).length<=f+1
 | 0,u=>by simp[S.digF]
 | f+1,u=>by
  simp only[S.digF]
  split
  .simp
  .have:=Zd3 f (u/10)
   rw[List.length_append];simp;omega
theorem Zk2 (n:Int):(S.itoa n).length<=22:=by
 unfold S.itoa;have h1:=Zd3 20 n.natAbs;have h2:=Zd3 20 n.toNat
 split
 .simp;omega
 .omega
theorem Ztd (a b:List UInt8):(⟨a.toArray⟩:ByteArray)++⟨b.toArray⟩=⟨(a++b).toArray⟩:=by
 apply ByteArray.ext
 apply Array.toList_inj.1
 rw[Go.Joins.data_append]
theorem Z0u {a b:ByteArray}(h:a=b):Ending.returned (.string a)=.returned (.string b):=by rw[h]
section
open Go.ChangeShapes Go.WideShapes Go.ChangeAt Go.RowKit
section
variable {H:Type}{enc:TypeId×Value->H}{P:Program}
theorem Zj7 {t:TypeId}(hl:laidOutB P=true)(hr:P.readableRec t=true)(hrow:t<P.types.size){W W':World}{v:Value}{d:DataW H}{ps:List MemPlace}
 (h:DataW.Trod enc P W 0 (λ _=>true) true t v d ps) (hb:Below W.heap.size W W') (hlt:∀x∈ps,x.block<W.heap.size) (sp:Nat->Bool) (hs:∀x∈ps,sp x.block=true) :
 DataW.Trod enc P W' 0 sp true t v d ps :=
 WideElems.Trod_stays hl hr hrow h (λ x hx=>hb.same (hlt x hx)) hs
theorem Zk3 {f:Func}{s:ChangeSpec}{apart fresh handsOn again:Bool}{W W':World}{args:Array Value}{v:Value}{ds gs:List (DataW H)}{before pa pv:List MemPlace}
 (hW:DataW.Whole enc P f.params.toList s.vars apart W args.toList ds gs before)
 (hres:∀(b:Nat)(sp:Nat->Bool)(hd:Bool),DataW.TrodAll enc P W' b sp hd f.resultTypes.toList (v.resultList f.resultTypes.size) (s.fn H (ds++gs)).results [])
 (hargs:∀sp:Nat->Bool,(∀p∈before,sp p.block=true)->DataW.TrodAll enc P W' 0 sp true f.params.toList args.toList (s.fn H (ds++gs)).args pa)
 (hvars:∀sp:Nat->Bool,(∀p∈before,sp p.block=true)->DataW.TrodVars enc P W' sp s.vars (s.fn H (ds++gs)).vars pv)
 (hps:before=pa++pv) (hb:Below W.heap.size W W')
 (hok:∀(j:Nat)(t:TypeId)(r:Value),f.resultTypes[j]?=some t->(v.resultList f.resultTypes.size)[j]?=some r->Value.okWide P W' .any 0 t r) :
 s.post enc P f apart fresh handsOn again W args v W':=by
 have hlt:∀p∈before,p.block<W.heap.size:=λ p hp=>hW.lt p hp
 have hold:∀p∈before,(λ b=>decide (b<W.heap.size)) p.block=true:=λ p hp=>by simpa using hlt p hp
 refine⟨ds,gs,before,[],pa,pv,hW,hres _ _ _,hargs _ hold,hvars _ hold,World.keptBut_mono (λ p hp=>⟨hp,?_⟩) (hb.frame (·∈before)),λ _=>?_⟩
 .rw[hps,List.mem_append] at hp
  exact Or.inr hp
 .obtain⟨_,_,_,_,_,hz,hn⟩:=hW
  refine⟨hok,_,_,([]++pa)++pv,⟨[]++pa,pv,trodAll_append (hargs _ (λ _ _=>rfl)) (hres _ _ _),hvars _ (λ _ _=>rfl),rfl,?_,?_⟩,?_⟩
  .intro b off hp
   have hin:MemPlace.cell b off∈before:=by rw[hps];simpa using hp
   rw[hb.frozen (hlt _ hin)];exact hz b off hin
  .intro ha
   have:=hn ha;rw[hps] at this
   simpa using this
  .intro p hp _
   rw[hps]
   simpa using hp
end
end
section
set_option maxRecDepth 100000
open Go.ChangeShapes Go.WideShapes Go.ChangeAt Go.RowKit
theorem Z6y : Tryz.prog.globalNamed "internal/strconv.uint64pow10" = some 0 := by kernel_rfl
theorem Z6z:(Tryz.prog.globals[0]?).map (·.type)=some 243:=by kernel_rfl
theorem Z60:Tryz.prog.cellsOf 243=20:=by kernel_rfl
theorem Z61:Tryz.prog.cellsOf 141=1:=by kernel_rfl
def Z3d:List (String×DataW Unit):=Rows.rtnumKnownRow.laid
noncomputable def laidWorld (os:Os):World:=World.doorLaid Tryz.prog 100 os
theorem Zxm (os:Os)(args:Array Value):laidMetH Tryz.prog Z3d ((laidWorld os).forCall (λ _ _=>0) ⟨#[],args,[]⟩).memory :=
 laidMetH_of_parts3 (fuel:=8) (laidMet_of_run' 8 (by kernel_rfl) (by kernel_rfl)) (by kernel_rfl) (by kernel_rfl)
theorem Z5e {W:World}(h:laidMetH Tryz.prog Z3d W)(hs:W.ShapedOpen Tryz.prog):LVE W:=by
 rw[MakeChecks.laidMetH_plain _ _ _ (by kernel_rfl)] at h;have h3:=laidMet.tail (laidMet.tail h);have hsz:3<=W.heap.size:=by
  obtain⟨cs,ho,_⟩:=hs.1 3 (Array.replicate 64 (.int .u8 0)) 256 (of_decide_eq_true (by kernel_rfl)) (by kernel_rfl);rcases Ycf 3 W.heap.size with h8|h8
  .omega
  .simp[Array.getElem?_eq_none h8] at ho
 exact⟨Lib.tabIs_of_head Z6y Z6z Tryz.underlying243 Tryz.underlying141 Z61 Z60 h3,hsz⟩
end
namespace S
def opOf (w:Int):Int:=w/67108864
def rawD (w:Int):Int:=if hasD (form (opOf w))=true then w/2097152%32 else 0
def rawA (w:Int):Int:=if hasA (form (opOf w))=true then(if hasD (form (opOf w))=true then w/65536%32 else w/2097152%32) else 0
def rawB (w:Int):Int:=if hasB (form (opOf w))=true then(if hasD (form (opOf w))=true then w/2048%32 else w/65536%32) else 0
def rawI (w:Int):Int :=
 if form (opOf w)=5 then(if 1048576<=w%2097152 then w%2097152-2097152 else w%2097152)
 else if 2<=form (opOf w)/\form (opOf w)<=4 then(if least (opOf w)<0/\32768<=w%65536 then w%65536-65536 else w%65536)
 else 0
def raw (w:Int):Inst:=⟨opOf w,rawD w,rawA w,rawB w,rawI w⟩
def decB (w:Int):Bool:=good (raw w) && decide (enc (raw w)=w)
def dec (w:Int):Inst:=if decB w=true then raw w else⟨0,0,0,0,0⟩
def decE (w:Int):Int:=if decB w=true then 0 else 11
end S
theorem Z3e {x:S.Inst}(h:S.good x=true):0<=S.enc x/\S.enc x<=4294967295:=by
 obtain⟨op,d,a,b,imm⟩:=x;obtain⟨o1,o2,d1,d2,a1,a2,b1,b2,hw⟩:=Zfm h;rcases hw with⟨h,_,_,_,_,i1,i2⟩|⟨h,_,_,_,_,i1,i2⟩|⟨h,_,_,_,_,i1,i2⟩|⟨h,_,_,_,_,i1,i2⟩|⟨h,_,_,_,_,i1,i2⟩|⟨h,_,_,_,_,i1,i2⟩|⟨h,_,_,_,_,i1,i2⟩
 all_goals
  simp only[S.enc,h];simp;omega
theorem Z0v {x:S.Inst}(h:S.good x=true):S.raw (S.enc x)=x:=by
 obtain⟨op,d,a,b,imm⟩:=x;have hg:=h;obtain⟨o1,o2,d1,d2,a1,a2,b1,b2,hw⟩:=Zfm h;simp only[S.good,Yt,decide_eq_true_eq,S.reg] at hg;obtain⟨⟨⟨⟨⟨_,g2⟩,g3⟩,g4⟩,g5⟩,g6⟩:=hg;clear h;rcases hw with⟨h,hD,hA,hB,hI,i1,i2⟩|⟨h,hD,hA,hB,hI,i1,i2⟩|⟨h,hD,hA,hB,hI,i1,i2⟩|⟨h,hD,hA,hB,hI,i1,i2⟩|⟨h,hD,hA,hB,hI,i1,i2⟩|⟨h,hD,hA,hB,hI,i1,i2⟩|⟨h,hD,hA,hB,hI,i1,i2⟩
 all_goals
  rw[hD] at g2;rw[hA] at g3;rw[hB] at g4;simp at g2 g3 g4;have ho:S.opOf (S.enc ⟨op,d,a,b,imm⟩)=op:=by
   simp only[S.opOf,S.enc,h];simp;omega
  simp only[S.raw,S.rawD,S.rawA,S.rawB,S.rawI,ho,hD,hA,hB];simp only[S.enc,h];simp;clear ho
 .omega
 .have e:=Zak op
  by_cases hl:S.least op<0
  .have hm:S.least op=-32768/\S.most op=32767:=by
    have:op≠32/\op≠23:=by omega
    revert hl;unfold S.least S.most;grind
   simp only[hl,true_and];refine⟨by omega,by omega,?_⟩
   split <;> omega
  .simp only[hl,false_and,if_false]
   refine⟨by omega,by omega,by omega⟩
 .have hl:¬S.least op<0:=by
   have:S.least op=0/\S.most op=65535:=by
    have e:op=23:=by have:=Zak op;omega
    subst e;decide
   omega
  simp only[hl,false_and,if_false];refine⟨by omega,by omega,by omega⟩
 .have hl:S.least op<0:=by
   have e:=Zak op;have:S.least op=-32768:=by unfold S.least;grind
   omega
  simp only[hl,true_and];refine⟨by omega,by omega,by omega,?_⟩
  split <;> omega
 .refine⟨by omega,by omega,?_⟩
  split <;> omega
 .omega
 .omega
theorem Zte {x:S.Inst}(h:S.good x=true):S.dec (S.enc x)=x/\S.decE (S.enc x)=0:=by
 have hr:=Z0v h;have hd:S.decB (S.enc x)=true:=by
  unfold S.decB;rw[hr,h];simp
 unfold S.dec S.decE;rw[hd,hr];simp
theorem Z0w {w:Int}(h:S.decB w=false):S.dec w=⟨0,0,0,0,0⟩/\S.decE w=11:=by
 unfold S.dec S.decE;rw[h];simp
theorem Zxn {w:Int}(h:S.decB w=true):S.good (S.dec w)=true/\S.enc (S.dec w)=w/\S.decE w=0:=by
 have e:S.dec w=S.raw w:=by unfold S.dec;rw[h];simp
 rw[e];unfold S.decE;rw[h];simp only[S.decB,Yt,decide_eq_true_eq] at h;exact⟨h.1,h.2,by simp⟩
theorem Zd4 (n:Int)(h₀:0<=n)(h₁:n<2^32):IntKind.u32.wrap n=n:=by rw[IntKind.wrap_u32];omega
theorem Zw (i:Nat)(x y:Int)(m:Int)(hm:m=2^i)(hx0:0<=x)(hx:x%m=0)(hx1:x<4294967296)(hy0:0<=y)(hy1:y<m)(hy2:y<4294967296):bits .or .u32 x y=x+y:=by
 subst hm;exact bits_join .u32 32 (by decide) Zd4 i x y hx0 hx (by simpa using hx1) hy0 hy1 (by simpa using hy2)
theorem Z0 (i:Nat)(x:Int)(m n:Int)(hm:m=2^i)(hn:n=m-1)(hi:i<=32)(h0:0<=x)(h1:x<4294967296):bits .and .u32 x n=x%m:=by
 subst hn hm;exact bits_mask .u32 32 (by decide) Zd4 i hi x h0 (by simpa using h1)
theorem Z5f {op d a b imm:Int}(o1:1<=op)(o2:op<=36)(d1:0<=d)(d2:d<=31)(a1:0<=a)(a2:a<=31)(b1:0<=b)(b2:b<=31)(i1:0<=imm)(i2:imm<=0)(h:S.form op=1) :
 bits .or .u32 (bits .or .u32 (bits .or .u32 (bits .or .u32 (op*67108864) (d*2097152)) (a*65536)) (b*2048)) (bits .and .u32 imm 0)=S.enc ⟨op,d,a,b,imm⟩:=by
 rw[Z0 0 imm 1 0 (by decide) (by omega) (by omega) (by omega) (by omega),
  Zw 26 (op*67108864) (d*2097152) 67108864 (by decide) (by omega) (by omega) (by omega) (by omega) (by omega) (by omega),
  Zw 21 (op*67108864+d*2097152) (a*65536) 2097152 (by decide) (by omega) (by omega) (by omega) (by omega) (by omega) (by omega),
  Zw 16 (op*67108864+d*2097152+a*65536) (b*2048) 65536 (by decide) (by omega) (by omega) (by omega) (by omega) (by omega) (by omega),
  Zw 11 (op*67108864+d*2097152+a*65536+b*2048) (imm%1) 2048 (by decide) (by omega) (by omega) (by omega) (by omega) (by omega) (by omega)]
 simp only[S.enc,h];simp
 try omega
theorem Z5g {op d a b imm:Int}(o1:1<=op)(o2:op<=36)(d1:0<=d)(d2:d<=31)(a1:0<=a)(a2:a<=31)(i1:-32768<=imm)(i2:imm<=65535)(h:S.form op=2) :
 bits .or .u32 (bits .or .u32 (bits .or .u32 (op*67108864) (d*2097152)) (a*65536)) (bits .and .u32 (imm%4294967296) 65535)=S.enc ⟨op,d,a,b,imm⟩:=by
 rw[Z0 16 (imm%4294967296) 65536 65535 (by decide) (by omega) (by omega) (by omega) (by omega),
  Zw 26 (op*67108864) (d*2097152) 67108864 (by decide) (by omega) (by omega) (by omega) (by omega) (by omega) (by omega),
  Zw 21 (op*67108864+d*2097152) (a*65536) 2097152 (by decide) (by omega) (by omega) (by omega) (by omega) (by omega) (by omega),
  Zw 16 (op*67108864+d*2097152+a*65536) ((imm%4294967296)%65536) 65536 (by decide) (by omega) (by omega) (by omega) (by omega) (by omega) (by omega)]
 simp only[S.enc,h];simp
 try omega
theorem Z5h {op d a b imm:Int}(o1:1<=op)(o2:op<=36)(d1:0<=d)(d2:d<=31)(i1:0<=imm)(i2:imm<=65535)(h:S.form op=3) :
 bits .or .u32 (bits .or .u32 (op*67108864) (d*2097152)) (bits .and .u32 imm 65535)=S.enc ⟨op,d,a,b,imm⟩:=by
 rw[Z0 16 imm 65536 65535 (by decide) (by omega) (by omega) (by omega) (by omega),
  Zw 26 (op*67108864) (d*2097152) 67108864 (by decide) (by omega) (by omega) (by omega) (by omega) (by omega) (by omega),
  Zw 21 (op*67108864+d*2097152) (imm%65536) 2097152 (by decide) (by omega) (by omega) (by omega) (by omega) (by omega) (by omega)]
 simp only[S.enc,h];simp
 try omega
theorem Z5i {op d a b imm:Int}(o1:1<=op)(o2:op<=36)(a1:0<=a)(a2:a<=31)(b1:0<=b)(b2:b<=31)(i1:-32768<=imm)(i2:imm<=32767)(h:S.form op=4) :
 bits .or .u32 (bits .or .u32 (bits .or .u32 (op*67108864) (a*2097152)) (b*65536)) (bits .and .u32 (imm%4294967296) 65535)=S.enc ⟨op,d,a,b,imm⟩:=by
 rw[Z0 16 (imm%4294967296) 65536 65535 (by decide) (by omega) (by omega) (by omega) (by omega),
  Zw 26 (op*67108864) (a*2097152) 67108864 (by decide) (by omega) (by omega) (by omega) (by omega) (by omega) (by omega),
  Zw 21 (op*67108864+a*2097152) (b*65536) 2097152 (by decide) (by omega) (by omega) (by omega) (by omega) (by omega) (by omega),
  Zw 16 (op*67108864+a*2097152+b*65536) ((imm%4294967296)%65536) 65536 (by decide) (by omega) (by omega) (by omega) (by omega) (by omega) (by omega)]
 simp only[S.enc,h];simp
 try omega
theorem Z5j {op d a b imm:Int}(o1:1<=op)(o2:op<=36)(d1:0<=d)(d2:d<=31)(i1:-1048576<=imm)(i2:imm<=1048575)(h:S.form op=5) :
 bits .or .u32 (bits .or .u32 (op*67108864) (d*2097152)) (bits .and .u32 (imm%4294967296) 2097151)=S.enc ⟨op,d,a,b,imm⟩:=by
 rw[Z0 21 (imm%4294967296) 2097152 2097151 (by decide) (by omega) (by omega) (by omega) (by omega),
  Zw 26 (op*67108864) (d*2097152) 67108864 (by decide) (by omega) (by omega) (by omega) (by omega) (by omega) (by omega),
  Zw 21 (op*67108864+d*2097152) ((imm%4294967296)%2097152) 2097152 (by decide) (by omega) (by omega) (by omega) (by omega) (by omega) (by omega)]
 simp only[S.enc,h];simp
 try omega
theorem Z5k {op d a b imm:Int}(o1:1<=op)(o2:op<=36)(d1:0<=d)(d2:d<=31)(i1:0<=imm)(i2:imm<=0)(h:S.form op=6) :
 bits .or .u32 (bits .or .u32 (op*67108864) (d*2097152)) (bits .and .u32 imm 0)=S.enc ⟨op,d,a,b,imm⟩:=by
 rw[Z0 0 imm 1 0 (by decide) (by omega) (by omega) (by omega) (by omega),
  Zw 26 (op*67108864) (d*2097152) 67108864 (by decide) (by omega) (by omega) (by omega) (by omega) (by omega) (by omega),
  Zw 21 (op*67108864+d*2097152) (imm%1) 2097152 (by decide) (by omega) (by omega) (by omega) (by omega) (by omega) (by omega)]
 simp only[S.enc,h];simp
 try omega
theorem Z5l {op d a b imm:Int}(o1:1<=op)(o2:op<=36)(a1:0<=a)(a2:a<=31)(i1:0<=imm)(i2:imm<=0)(h:S.form op=7) :
 bits .or .u32 (bits .or .u32 (op*67108864) (a*2097152)) (bits .and .u32 imm 0)=S.enc ⟨op,d,a,b,imm⟩:=by
 rw[Z0 0 imm 1 0 (by decide) (by omega) (by omega) (by omega) (by omega),
  Zw 26 (op*67108864) (a*2097152) 67108864 (by decide) (by omega) (by omega) (by omega) (by omega) (by omega) (by omega),
  Zw 21 (op*67108864+a*2097152) (imm%1) 2097152 (by decide) (by omega) (by omega) (by omega) (by omega) (by omega) (by omega)]
 simp only[S.enc,h];simp
 try omega
def val (l:List Int):Int:=l.foldl (λ a x=>2*a+x) 0
namespace S
structure Mach where
 reg:List Int
 mem:List Int
 place:Int
 input:List Int
 out:List Int
 state:Int
 code:Int
 trap:Int
 steps:Int
def u32m (x:Int):Int:=x%4294967296
def sgn (w:Int):Int:=if 2147483648<=w then w-4294967296 else w
def truth (p:Prop)[Decidable p]:Int:=if p then 1 else 0
def alu (op a b:Int):Int :=
 if op=1 then u32m (a+b) else if op=2 then u32m (a-b) else if op=3 then u32m (a*b) else if op=4 then a*b/4294967296
 else if op=5 then a/b else if op=6 then a%b else if op=7 then bits .and .u32 a b else if op=8 then bits .or .u32 a b
 else if op=9 then bits .xor .u32 a b else if op=10 then u32m (a*2^(b%32).toNat) else if op=11 then a/2^(b%32).toNat
 else if op=12 then u32m (sgn a/2^(b%32).toNat) else if op=13 then truth (sgn a<sgn b) else truth (a<b)
def like (op:Int):Int:=if op=15 then 1 else op-9
def goes (op a b:Int):Bool :=
 if op=26 then decide (a=b) else if op=27 then decide (a≠b) else if op=28 then decide (sgn a<sgn b) else if op=29 then decide (sgn b<=sgn a)
 else if op=30 then decide (a<b) else decide (b<=a)
namespace Mach
def put (m:Mach)(d v:Int):Mach:=if d=0 then m else { m with reg:=m.reg.set d.toNat v }
def fell (m:Mach)(t:Int):Mach:={ m with state:=2,trap:=t }
def rd (m:Mach)(i:Int):Int:=m.reg.getD i.toNat 0
def act (m:Mach)(i:Inst):Mach×Int×Int :=
 let a:=m.rd i.a
 let b:=m.rd i.b
 let imm:=u32m i.imm
 let next:=u32m (m.place+1)
 let at_:=u32m (a+imm)
 if i.op<=14 then(if b=0/\(i.op=5\/i.op=6) then(m,0,4) else(m.put i.d (alu i.op a b),next,0))
 else if i.op<=22 then(m.put i.d (alu (like i.op) a imm),next,0)
 else if i.op=23 then(m.put i.d (u32m (imm*65536)),next,0)
 else if i.op=24 then(if at_<m.mem.length then(m.put i.d (m.mem.getD at_.toNat 0),next,0) else(m,0,2))
 else if i.op=25 then(if at_<m.mem.length then({ m with mem:=m.mem.set at_.toNat b },next,0) else(m,0,2))
 else if i.op<=31 then(m,if goes i.op a b=true then u32m (next+imm) else next,0)
 else if i.op=32 then(m.put i.d next,u32m (next+imm),0)
 else if i.op=33 then(m.put i.d next,at_,0)
 else if i.op=34 then
  match m.input with
  | []=>(m.put i.d 4294967295,next,0)
  | x::r=>(({ m with input:=r }:Mach).put i.d x,next,0)
 else if i.op=35 then({ m with out:=m.out++[a%256] },next,0)
 else({ m with state:=1,code:=a },m.place,0)
def step (m:Mach):Mach :=
 if m.state≠0 then m
 else if (m.mem.length:Int)<=m.place then m.fell 3
 else if decE (m.mem.getD m.place.toNat 0)≠0 then m.fell 1
 else if (m.act (dec (m.mem.getD m.place.toNat 0))).2.2≠0 then m.fell (m.act (dec (m.mem.getD m.place.toNat 0))).2.2
 else { (m.act (dec (m.mem.getD m.place.toNat 0))).1 with place:=(m.act (dec (m.mem.getD m.place.toNat 0))).2.1,steps:=m.steps+1 }
def steps_ (m:Mach):Nat->Mach
 | 0=>m
 | n+1=>(steps_ m n).step
structure Ok (m:Mach):Prop where
 regs:m.reg.length=32
 word:∀i,0<=m.reg.getD i 0/\m.reg.getD i 0<=4294967295
 zero:m.reg.getD 0 0=0
 mem:0<m.mem.length
 memw:∀i,0<=m.mem.getD i 0/\m.mem.getD i 0<=4294967295
 place0:0<=m.place
 place1:m.place<=4294967295
 inp:∀x∈m.input,0<=x/\x<=255
 outp:∀x∈m.out,0<=x/\x<=255
 code0:0<=m.code
 code1:m.code<=4294967295
end Mach
end S
theorem Zbz {a:Int}(h0:0<=a)(h1:a<=4294967295):(BitVec.ofInt 32 a).toNat=a.toNat:=by
 rw[BitVec.toNat_ofInt];omega
theorem u32_and {a b:Int}(a0:0<=a)(a1:a<=4294967295)(b0:0<=b)(b1:b<=4294967295):bits .and .u32 a b=((a.toNat &&& b.toNat:Nat):Int):=by
 show IntKind.u32.wrap ((BitVec.ofInt 32 a &&& BitVec.ofInt 32 b).toNat:Int)=_
 rw[BitVec.toNat_and,Zbz a0 a1,Zbz b0 b1];exact Zd4 _ (by omega) (by have:=Nat.and_lt_two_pow a.toNat (show b.toNat<2^32 by omega);omega)
theorem u32_or {a b:Int}(a0:0<=a)(a1:a<=4294967295)(b0:0<=b)(b1:b<=4294967295):bits .or .u32 a b=((a.toNat ||| b.toNat:Nat):Int):=by
 show IntKind.u32.wrap ((BitVec.ofInt 32 a ||| BitVec.ofInt 32 b).toNat:Int)=_
 rw[BitVec.toNat_or,Zbz a0 a1,Zbz b0 b1];exact Zd4 _ (by omega) (by have:=Nat.or_lt_two_pow (show a.toNat<2^32 by omega) (show b.toNat<2^32 by omega);omega)
theorem u32_xor {a b:Int}(a0:0<=a)(a1:a<=4294967295)(b0:0<=b)(b1:b<=4294967295):bits .xor .u32 a b=((a.toNat ^^^ b.toNat:Nat):Int):=by
 show IntKind.u32.wrap ((BitVec.ofInt 32 a ^^^ BitVec.ofInt 32 b).toNat:Int)=_
 rw[BitVec.toNat_xor,Zbz a0 a1,Zbz b0 b1];exact Zd4 _ (by omega) (by have:=Nat.xor_lt_two_pow (show a.toNat<2^32 by omega) (show b.toNat<2^32 by omega);omega)
theorem Zel {a:Int}(a0:0<=a)(a1:a<=4294967295):IntKind.i32.wrap a=S.sgn a:=by
 unfold S.sgn;rw[IntKind.wrap_i32]
 split <;> omega
theorem Zfn (x:Int):IntKind.u32.wrap x=S.u32m x:=by
 unfold S.u32m;rw[IntKind.wrap_u32]
theorem Zav (x:Int):0<=S.u32m x/\S.u32m x<=4294967295:=by unfold S.u32m;omega
namespace S
structure Item where
 kind:Int
 inst:Inst
 label:ByteArray
 word:Int
def wordOf (x:Inst):Int:=if good x=true then enc x else 0
def size (x:Item)(form:Int):Int :=
 if x.kind=2 then 0 else if x.kind=3/\form=3 then 4 else if x.kind=3 then form else if x.kind=4 then 2*form-1
 else if x.kind=5 then 2 else if x.kind=8 then x.word else 1
def regOk (n:Int):Bool:=decide (0<=n/\n<=31)
def chkItem (x:Item):Int :=
 if x.kind<1\/8<x.kind then 4
 else if x.kind=1/\chk x.inst≠0 then 11
 else if x.kind=3/\(turned x.inst.op=0\/¬(regOk x.inst.a=true)\/¬(regOk x.inst.b=true)) then 11
 else if (x.kind=4\/x.kind=5)/\¬(regOk x.inst.d=true) then 11
 else 0
def named (x:Item):Bool:=decide (x.kind=3\/x.kind=4\/x.kind=5\/x.kind=7)
def firstErr:List Item->Int
 | []=>0
 | x::r=>if chkItem x≠0 then chkItem x else firstErr r
def standsFrom (xs:List Item)(lab:ByteArray):Nat->Nat->Int
 | 0,_=>-1
 | f+1,i=>match xs[i]? with
  | none=>-1
  | some x=>if x.kind=2/\x.label=lab then i else standsFrom xs lab f (i+1)
def stands (xs:List Item)(lab:ByteArray):Int:=standsFrom xs lab xs.length 0
def Dup (xs:List Item):Prop:=∃(i:Nat)(x:Item),xs[i]?=some x/\x.kind=2/\stands xs x.label≠i
def Miss (xs:List Item):Prop:=∃(i:Nat)(x:Item),xs[i]?=some x/\named x=true/\stands xs x.label<0
def lui (tq:Int):Int:=wordOf ⟨23,25,0,0,tq/65536⟩
def ori (tq:Int):Int:=wordOf ⟨17,25,25,0,tq%65536⟩
def wordsOf (x:Item)(form at_ tq:Int):List Int :=
 if x.kind=1 then [wordOf x.inst]
 else if x.kind=3/\form=1 then [wordOf ⟨x.inst.op,0,x.inst.a,x.inst.b,tq-at_-1⟩]
 else if x.kind=3/\form=2 then [wordOf ⟨turned x.inst.op,0,x.inst.a,x.inst.b,1⟩,wordOf ⟨32,0,0,0,tq-at_-2⟩]
 else if x.kind=3 then [wordOf ⟨turned x.inst.op,0,x.inst.a,x.inst.b,3⟩,lui tq,ori tq,wordOf ⟨33,0,25,0,0⟩]
 else if x.kind=4/\form=1 then [wordOf ⟨32,x.inst.d,0,0,tq-at_-1⟩]
 else if x.kind=4 then [lui tq,ori tq,wordOf ⟨33,x.inst.d,25,0,0⟩]
 else if x.kind=5 then [wordOf ⟨23,x.inst.d,0,0,(tq+x.word)%4294967296/65536⟩,wordOf ⟨17,x.inst.d,x.inst.d,0,(tq+x.word)%4294967296%65536⟩]
 else if x.kind=6 then [x.word]
 else if x.kind=7 then [(4*tq+x.word)%4294967296]
 else if x.kind=8 then List.replicate x.word.toNat 0
 else []
def most26:Int:=67108864
def CheckRes (xs:List Item)(base r:Int):Prop :=
 ((base<0\/most26<base)/\r=2) \/
 (0<=base/\base<=most26/\firstErr xs≠0/\r=firstErr xs) \/
 (0<=base/\base<=most26/\firstErr xs=0/\Dup xs/\r=14) \/
 (0<=base/\base<=most26/\firstErr xs=0/\¬Dup xs/\Miss xs/\r=12) \/
 (0<=base/\base<=most26/\firstErr xs=0/\¬Dup xs/\¬Miss xs/\r=0)
def sizeAt (xs:List Item)(F:List Int)(i:Nat):Int :=
 match xs[i]? with
 | none=>0
 | some x=>size x (F.getD i 0)
def addr (xs:List Item)(F:List Int)(base:Int):Nat->Int
 | 0=>base
 | i+1=>addr xs F base i+sizeAt xs F i
def FormOk (xs:List Item)(F:List Int):Prop :=
 F.length=xs.length/\∀(i:Nat)(x:Item),xs[i]?=some x ->
  (x.kind=3->1<=F.getD i 0/\F.getD i 0<=3)/\(x.kind=4->1<=F.getD i 0/\F.getD i 0<=2)/\(x.kind≠3->x.kind≠4->F.getD i 0=0)
def fit (xs:List Item)(F:List Int)(base:Int)(i:Nat)(x:Item):Bool :=
 if (x.kind≠3/\x.kind≠4)\/(x.kind=3/\F.getD i 0=3)\/(x.kind=4/\F.getD i 0=2) then true
 else if x.kind=3/\F.getD i 0=1 then
  decide (-32768<=addr xs F base (stands xs x.label).toNat-addr xs F base (i+1)/\addr xs F base (stands xs x.label).toNat-addr xs F base (i+1)<=32767)
 else decide (-1048576<=addr xs F base (stands xs x.label).toNat-addr xs F base (i+1)/\addr xs F base (stands xs x.label).toNat-addr xs F base (i+1)<=1048575)
end S
theorem Zrs (op a b:Int):S.chk ⟨S.turned op,0,a,b,0⟩=if S.turned op=0\/¬(S.regOk a=true)\/¬(S.regOk b=true) then 11 else 0:=by
 by_cases h:S.turned op=0
 .simp only[h,true_or,if_true]
  have hf:S.form 0=0:=by decide
  simp[S.chk,S.good,hf]
 .have ht:26<=S.turned op/\S.turned op<=31:=by
   revert h;unfold S.turned;grind
  have hf:S.form (S.turned op)=4:=by
   unfold S.form;grind
  have hl:S.least (S.turned op)=-32768/\S.most (S.turned op)=32767:=by
   unfold S.least S.most;grind
  simp only[S.chk,S.good,hf,S.hasD,S.hasA,S.hasB,S.reg,S.regOk,hl.1,hl.2];simp[h]
  grind
theorem Zxo (d:Int):S.chk ⟨32,d,0,0,0⟩=if ¬(S.regOk d=true) then 11 else 0:=by
 have hf:S.form 32=5:=by decide
 have hl:S.least 32=-1048576/\S.most 32=1048575:=by decide
 simp only[S.chk,S.good,hf,S.hasD,S.hasA,S.hasB,S.reg,S.regOk,hl.1,hl.2];simp
 grind
theorem Zd5 (xs:List S.Item)(lab:ByteArray):∀(f i:Nat),i+f=xs.length ->
 (S.standsFrom xs lab f i=-1/\∀(j:Nat)(x:S.Item),i<=j->xs[j]?=some x->¬(x.kind=2/\x.label=lab)) \/
 ∃(j:Nat)(x:S.Item),S.standsFrom xs lab f i=j/\i<=j/\xs[j]?=some x/\x.kind=2/\x.label=lab/\∀(m:Nat)(y:S.Item),i<=m->m<j->xs[m]?=some y->¬(y.kind=2/\y.label=lab)
 | 0,i,h=>by
  left
  refine⟨rfl,λ j x hj hx=>?_⟩;have:=(Yg.1 hx).1;omega
 | f+1,i,h=>by
  have hi:i<xs.length:=by omega
  have hx:xs[i]?=some xs[i]:=List.getElem?_eq_getElem hi;rw[S.standsFrom,hx];by_cases c:xs[i].kind=2/\xs[i].label=lab
  .right
   refine⟨i,xs[i],by simp[c],Yb _,hx,c.1,c.2,λ m y h1 h2=>by omega⟩
  .simp only[c,if_false]
   rcases Zd5 xs lab f (i+1) (by omega) with⟨h1,h2⟩|⟨j,x,h1,h2,h3,h4,h5,h6⟩
   .left
    refine⟨h1,λ j x hj hjx=>?_⟩;by_cases e:j=i
    .subst e;rw[hx] at hjx;cases hjx;exact c
    .exact h2 j x (by omega) hjx
   .right
    refine⟨j,x,h1,by omega,h3,h4,h5,λ m y hm hmj hy=>?_⟩;by_cases e:m=i
    .subst e;rw[hx] at hy;cases hy;exact c
    .exact h6 m y (by omega) hmj hy
theorem Zax (xs:List S.Item)(lab:ByteArray) :
 (S.stands xs lab=-1/\∀(j:Nat)(x:S.Item),xs[j]?=some x->¬(x.kind=2/\x.label=lab)) \/
 ∃(j:Nat)(x:S.Item),S.stands xs lab=j/\xs[j]?=some x/\x.kind=2/\x.label=lab/\∀(m:Nat)(y:S.Item),m<j->xs[m]?=some y->¬(y.kind=2/\y.label=lab):=by
 rcases Zd5 xs lab xs.length 0 (by omega) with⟨h1,h2⟩|⟨j,x,h1,_,h3,h4,h5,h6⟩
 .exact .inl ⟨h1,λ j x hx=>h2 j x (Yag _) hx⟩
 .exact .inr ⟨j,x,h1,h3,h4,h5,λ m y hm hy=>h6 m y (Yag _) hm hy⟩
theorem Zh3 {xs:List S.Item}{F:List Int}(hF:S.FormOk xs F)(hw:∀x∈xs,0<=x.word/\x.word<=4294967295)(i:Nat):0<=S.sizeAt xs F i/\S.sizeAt xs F i<=4294967295:=by
 unfold S.sizeAt
 split
 .omega
 .rename_i x hx
  obtain⟨h3,h4,_⟩:=hF.2 i x hx;obtain⟨h5,h6⟩:=hw x (List.mem_of_getElem? hx);unfold S.size
  grind
theorem Zdh {xs:List S.Item}{F:List Int}{base:Int}(hF:S.FormOk xs F)(hw:∀x∈xs,0<=x.word/\x.word<=4294967295):∀i:Nat,base<=S.addr xs F base i/\S.addr xs F base i<=base+i*4294967295
 | 0=>by simp[S.addr]
 | i+1=>by
  obtain⟨h1,h2⟩:=Zdh hF hw (base:=base) i;obtain⟨h3,h4⟩:=Zh3 hF hw i;simp only[S.addr];omega
namespace S
def Stable (xs:List Item)(base:Int)(G:List Int):Prop:=FormOk xs G/\∀(i:Nat)(x:Item),xs[i]?=some x->fit xs G base i x=true
def Inv (xs:List Item)(base:Int)(F:List Int):Prop:=FormOk xs F/\∀G,Stable xs base G->∀i,F.getD i 0<=G.getD i 0
def startForm (x:Item):Int:=if x.kind=3\/x.kind=4 then 1 else 0
def FormsRes (xs:List Item)(base e:Int)(F:List Int):Prop :=
 (e≠0/\CheckRes xs base e/\F=[]) \/
 (CheckRes xs base 0/\e=3/\F=[]/\∃G,Inv xs base G/\most26<addr xs G base xs.length) \/
 (CheckRes xs base 0/\e=0/\Inv xs base F/\Stable xs base F/\addr xs F base xs.length<=most26)
end S
theorem Zrt (xs:List S.Item)(base:Int):S.Inv xs base (xs.map S.startForm):=by
 have hg:∀(i:Nat)(x:S.Item),xs[i]?=some x->(xs.map S.startForm).getD i 0=S.startForm x:=by
  intro i x hx;simp[Ye,hx]
 refine⟨⟨by simp,λ i x hx=>?_⟩,λ G hG i=>?_⟩
 .rw[hg i x hx]
  unfold S.startForm
  grind
 .cases hx:xs[i]? with
  | none =>
   simp[Ye,hx];have:G[i]?=none:=by
    rw[List.getElem?_eq_none_iff] at hx⊢;rw[hG.1.1];exact hx
   simp[this]
  | some x =>
   rw[hg i x hx];obtain⟨h3,h4,h5⟩:=hG.1.2 i x hx;unfold S.startForm
   grind
theorem Ztg {x:S.Item}{f g:Int}(h:f<=g)(h3:x.kind=3->1<=f/\g<=3):S.size x f<=S.size x g:=by
 unfold S.size
 grind
theorem Zfo {xs:List S.Item}{F G:List Int}{base:Int}(hF:S.FormOk xs F)(hG:S.FormOk xs G)(h:∀i,F.getD i 0<=G.getD i 0)(p:Nat) :
 ∀d:Nat,S.addr xs F base (p+d)-S.addr xs F base p<=S.addr xs G base (p+d)-S.addr xs G base p
 | 0=>by simp
 | d+1=>by
  have ih:=Zfo (base:=base) hF hG h p d;have hs:S.sizeAt xs F (p+d)<=S.sizeAt xs G (p+d):=by
   unfold S.sizeAt
   cases hx:xs[p+d]? with
   | none=>simp
   | some x =>
    exact Ztg (h (p+d)) λ h3=>⟨((hF.2 _ x hx).1 h3).1,((hG.2 _ x hx).1 h3).2⟩
  show S.addr xs F base (p+d)+S.sizeAt xs F (p+d)-S.addr xs F base p<=S.addr xs G base (p+d)+S.sizeAt xs G (p+d)-S.addr xs G base p
  omega
theorem Zgn {xs:List S.Item}{F:List Int}{base:Int}(hF:S.FormOk xs F)(hw:∀x∈xs,0<=x.word/\x.word<=4294967295)(p:Nat) :
 ∀d:Nat,S.addr xs F base p<=S.addr xs F base (p+d)
 | 0=>by simp
 | d+1=>by
  have ih:=Zgn (base:=base) hF hw p d;have:=(Zh3 hF hw (p+d)).1
  show S.addr xs F base p<=S.addr xs F base (p+d)+S.sizeAt xs F (p+d)
  omega
theorem Zxp {xs:List S.Item}{F G:List Int}{base:Int}(hF:S.FormOk xs F)(hG:S.FormOk xs G)(hw:∀x∈xs,0<=x.word/\x.word<=4294967295)(h:∀i,F.getD i 0<=G.getD i 0)
 {i:Nat} {x:S.Item} (hx:xs[i]?=some x) (hi:F.getD i 0=G.getD i 0) (hf:S.fit xs F base i x=false):S.fit xs G base i x=false:=by
 have hlt:=(Yg.1 hx).1;unfold S.fit at hf⊢;rw[<- hi]
 split
 .rename_i c;rw[if_pos c] at hf;cases hf
 .rename_i c
  rw[if_neg c] at hf;generalize (S.stands xs x.label).toNat=j at *;rcases Ycf i j with hij|hij
  .obtain⟨d,rfl⟩:∃d,j=(i+1)+d:=⟨j-(i+1),by omega⟩
   have h1:=Zfo (base:=base) hF hG h (i+1) d;have h2:=Zgn (base:=base) hF hw (i+1) d;by_cases c2:x.kind=3/\F.getD i 0=1
   .rw[if_pos c2] at hf⊢
    rw[decide_eq_false_iff_not] at hf⊢;omega
   .rw[if_neg c2] at hf⊢
    rw[decide_eq_false_iff_not] at hf⊢;omega
  .obtain⟨d,hd⟩:∃d,i+1=j+d:=⟨i+1-j,by omega⟩
   have h1:=Zfo (base:=base) hF hG h j d;have h2:=Zgn (base:=base) hF hw j d;rw[<- hd] at h1 h2;by_cases c2:x.kind=3/\F.getD i 0=1
   .rw[if_pos c2] at hf⊢
    rw[decide_eq_false_iff_not] at hf⊢;omega
   .rw[if_neg c2] at hf⊢
    rw[decide_eq_false_iff_not] at hf⊢;omega
theorem Zbq {F:List Int}{i:Nat}{v:Int}(h:i<F.length):(F.set i v).getD i 0=v:=by simp[h]
theorem Zal {F:List Int}{i j:Nat}{v:Int}(h:i≠j):(F.set i v).getD j 0=F.getD j 0:=by simp[List.getElem?_set_ne h]
theorem Zmj {xs:List S.Item}{F:List Int}{base:Int}(hF:S.FormOk xs F){i:Nat}{x:S.Item}(hx:xs[i]?=some x)(hf:S.fit xs F base i x=false) :
 (x.kind=3/\1<=F.getD i 0/\F.getD i 0<=2)\/(x.kind=4/\F.getD i 0=1):=by
 obtain⟨h3,h4,_⟩:=hF.2 i x hx;unfold S.fit at hf
 split at hf
 .cases hf
 .rename_i c
  by_cases k3:x.kind=3
  .have:=h3 k3;left;refine⟨k3,by omega,?_⟩;by_cases e:F.getD i 0=3
   .exact absurd (.inr (.inl ⟨k3,e⟩)) c
   .omega
  .by_cases k4:x.kind=4
   .have:=h4 k4;right;refine⟨k4,?_⟩;by_cases e:F.getD i 0=2
    .exact absurd (.inr (.inr ⟨k4,e⟩)) c
    .omega
   .exact absurd (.inl ⟨k3,k4⟩) c
theorem Zo0 {xs:List S.Item}{F:List Int}(hF:S.FormOk xs F){i:Nat}{x:S.Item}(hx:xs[i]?=some x)(h:(x.kind=3/\1<=F.getD i 0/\F.getD i 0<=2)\/(x.kind=4/\F.getD i 0=1)) :
 S.FormOk xs (F.set i (F.getD i 0+1)):=by
 have hlt:=(Yg.1 hx).1;refine⟨by rw[List.length_set];exact hF.1,λ j y hy=>?_⟩;by_cases e:i=j
 .subst e
  rw[hx] at hy;cases hy;rw[Zbq (by rw[hF.1];exact hlt)];omega
 .rw[Zal e]
  exact hF.2 j y hy
theorem Zxq {xs:List S.Item}{base:Int}{F F1:List Int}(hI:S.Inv xs base F)(hI1:S.Inv xs base F1)(hw:∀x∈xs,0<=x.word/\x.word<=4294967295)
 {i:Nat} {x:S.Item} (hx:xs[i]?=some x) (hsame:F1.getD i 0=F.getD i 0) (hf:S.fit xs F base i x=false):S.Inv xs base (F1.set i (F1.getD i 0+1)):=by
 have hlt:=(Yg.1 hx).1;have h1:=Zmj hI.1 hx hf;rw[<- hsame] at h1;refine⟨Zo0 hI1.1 hx h1,λ G hG j=>?_⟩;by_cases e:i=j
 .subst e
  rw[Zbq (by rw[hI1.1.1];exact hlt)];have hle:=hI.2 G hG i;rw[hsame];by_cases he:F.getD i 0=G.getD i 0
  .have:=Zxp hI.1 hG.1 hw (hI.2 G hG) hx he hf
   rw[hG.2 i x hx] at this
   cases this
  .omega
 .rw[Zal e]
  exact hI1.2 G hG j
theorem Zmk {xs:List S.Item}{base r s:Int}(h:S.CheckRes xs base r)(k:S.CheckRes xs base s):r=s:=by
 unfold S.CheckRes at h k;rcases h with⟨h1,h2⟩|⟨h1,h2,h3,h4⟩|⟨h1,h2,h3,h4,h5⟩|⟨h1,h2,h3,h4,h5,h6⟩|⟨h1,h2,h3,h4,h5,h6⟩ <;>
 rcases k with⟨k1,k2⟩|⟨k1,k2,k3,k4⟩|⟨k1,k2,k3,k4,k5⟩|⟨k1,k2,k3,k4,k5,k6⟩|⟨k1,k2,k3,k4,k5,k6⟩ <;>
 first
  | omega
  | (exact absurd ‹S.Dup xs› ‹¬S.Dup xs›)
  | (exact absurd ‹S.Miss xs› ‹¬S.Miss xs›)
theorem Zfp {F G:List Int}(h:F.length=G.length)(k:∀i,F.getD i 0=G.getD i 0):F=G:=by
 apply List.ext_getElem h
 intro i h1 h2;have:=k i
 simpa[h1,h2] using this
def Zs9 (F:List Int):Nat:=(F.map λ f=>(3-f).toNat).sum
theorem Zxr {F:List Int}{i:Nat}(h:i<F.length)(h3:F.getD i 0<=2):Zs9 (F.set i (F.getD i 0+1))<Zs9 F:=by
 induction F generalizing i with
 | nil=>simp at h
 | cons f F ih =>
  cases i with
  | zero=>simp[Zs9] at *;omega
  | succ i =>
   have:=ih (i:=i) (by simpa using h) (by simpa using h3);simp[Zs9] at *;omega
theorem Zk4 {xs:List S.Item}{k:Nat}{x:S.Item}(hx:xs[k]?=some x):S.firstErr (xs.drop k)=if S.chkItem x≠0 then S.chkItem x else S.firstErr (xs.drop (k+1)):=by
 have hk:=(Yg.1 hx).1;have he:=(Yg.1 hx).2;rw[List.drop_eq_getElem_cons hk,he,S.firstErr]
theorem Zml {xs:List S.Item}{base:Int}(h:S.CheckRes xs base 0){i:Nat}{x:S.Item}(hx:xs[i]?=some x)(hn:S.named x=true):0<=S.stands xs x.label:=by
 rcases h with⟨_,h⟩|⟨_,_,h,h'⟩|⟨_,_,_,_,h⟩|⟨_,_,_,_,_,h⟩|⟨_,_,_,_,hm,_⟩
 .omega
 .omega
 .omega
 .omega
 .have:¬S.stands xs x.label<0:=λ hlt=>hm ⟨i,x,hx,hn,hlt⟩
  omega
theorem Z0x {xs:List S.Item}{base:Int}(h:S.CheckRes xs base 0):0<=base/\base<=67108864:=by
 rcases h with⟨_,h⟩|⟨h0,h1,_⟩|⟨h0,h1,_⟩|⟨h0,h1,_⟩|⟨h0,h1,_⟩
 .omega
 all_goals exact⟨h0,h1⟩
