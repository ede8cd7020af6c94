/- Parts. -/
import Derived.Test.YtldbnjajjfgipaaGreatDoorZYx
import Derived.WalkKit
import Derived.WalkSpells
import Derived.WalkLawsBesides
import Derived.Deep.QuietTactic
import Derived.BigQuiet
import Derived.LoopN
import Derived.Maps.AppendAt
import Derived.Lib.Hide
set_option linter.all false
open List renaming getElem?_eq_some_iff->Yg,map_cons->Ybt,map_toArray->Yc0,map_nil->Ydm
namespace Go.Proofs.YtldbnjajjfgipaaGreatDoor
open Go.RowKit
namespace S
structure Inst where
 op:Int
 d:Int
 a:Int
 b:Int
 imm:Int
def form (op:Int):Int :=
 if 1<=op/\op<=14 then 1 else if op=23 then 3 else if (15<=op/\op<=24)\/op=33 then 2
 else if 25<=op/\op<=31 then 4 else if op=32 then 5 else if op=34 then 6 else if op=35\/op=36 then 7 else 0
def least (op:Int):Int :=
 if op=32 then -1048576 else if (16<=op/\op<=21)\/op=23 then 0
 else if form op=2\/form op=4 then -32768 else 0
def most (op:Int):Int :=
 if op=32 then 1048575 else if (16<=op/\op<=18)\/op=23 then 65535 else if 19<=op/\op<=21 then 31
 else if form op=2\/form op=4 then 32767 else 0
def hasD (f:Int):Bool:=decide (f=1\/f=2\/f=3\/f=5\/f=6)
def hasA (f:Int):Bool:=decide (f=1\/f=2\/f=4\/f=7)
def hasB (f:Int):Bool:=decide (f=1\/f=4)
def bitsOf (f:Int):Int:=if f=5 then 21 else if 2<=f/\f<=4 then 16 else 0
def reg (is:Bool)(n:Int):Bool:=decide (n=0\/(is=true/\0<=n/\n<=31))
def good (x:Inst):Bool :=
 decide (form x.op≠0) && reg (hasD (form x.op)) x.d && reg (hasA (form x.op)) x.a && reg (hasB (form x.op)) x.b &&
  decide (least x.op<=x.imm) && decide (x.imm<=most x.op)
def chk (x:Inst):Int:=if good x=true then 0 else 11
def enc (x:Inst):Int :=
 if form x.op=1 then x.op*67108864+x.d*2097152+x.a*65536+x.b*2048
 else if form x.op=2 then x.op*67108864+x.d*2097152+x.a*65536+x.imm%65536
 else if form x.op=3 then x.op*67108864+x.d*2097152+x.imm
 else if form x.op=4 then x.op*67108864+x.a*2097152+x.b*65536+x.imm%65536
 else if form x.op=5 then x.op*67108864+x.d*2097152+x.imm%2097152
 else if form x.op=6 then x.op*67108864+x.d*2097152
 else x.op*67108864+x.a*2097152
def turned (op:Int):Int:=if op<26\/31<op then 0 else if op%2=0 then op+1 else op-1
end S
theorem Zc9 (op:Int):(S.form op=0/\(op<1\/36<op))\/(S.form op=1/\1<=op/\op<=14)\/(S.form op=2/\((15<=op/\op<=24/\op≠23)\/op=33))\/(S.form op=3/\op=23) \/
 (S.form op=4/\25<=op/\op<=31)\/(S.form op=5/\op=32)\/(S.form op=6/\op=34)\/(S.form op=7/\(op=35\/op=36)):=by
 grind [S.form]
theorem Zer {op d a b imm:Int}(hg:S.good ⟨op,d,a,b,imm⟩=true):1<=op/\op<=36/\0<=d/\d<=31/\0<=a/\a<=31/\0<=b/\b<=31 /\
 ((S.form op=1/\S.hasD (S.form op)=true/\S.hasA (S.form op)=true/\S.hasB (S.form op)=true/\S.bitsOf (S.form op)=0/\0<=imm/\imm<=0)\/(S.form op=2/\S.hasD (S.form op)=true/\S.hasA (S.form op)=true/\S.hasB (S.form op)=false/\S.bitsOf (S.form op)=16/\-32768<=imm/\imm<=65535)\/(S.form op=3/\S.hasD (S.form op)=true/\S.hasA (S.form op)=false/\S.hasB (S.form op)=false/\S.bitsOf (S.form op)=16/\0<=imm/\imm<=65535)\/(S.form op=4/\S.hasD (S.form op)=false/\S.hasA (S.form op)=true/\S.hasB (S.form op)=true/\S.bitsOf (S.form op)=16/\-32768<=imm/\imm<=32767)\/(S.form op=5/\S.hasD (S.form op)=true/\S.hasA (S.form op)=false/\S.hasB (S.form op)=false/\S.bitsOf (S.form op)=21/\-1048576<=imm/\imm<=1048575)\/(S.form op=6/\S.hasD (S.form op)=true/\S.hasA (S.form op)=false/\S.hasB (S.form op)=false/\S.bitsOf (S.form op)=0/\0<=imm/\imm<=0)\/(S.form op=7/\S.hasD (S.form op)=false/\S.hasA (S.form op)=true/\S.hasB (S.form op)=false/\S.bitsOf (S.form op)=0/\0<=imm/\imm<=0)):=by
 simp only[S.good,Bool.and_eq_true,decide_eq_true_eq,S.reg] at hg;obtain⟨⟨⟨⟨⟨h1,h2⟩,h3⟩,h4⟩,h5⟩,h6⟩:=hg;have hl:0<=d/\d<=31/\0<=a/\a<=31/\0<=b/\b<=31:=by omega
 rcases Zc9 op with⟨h,ho⟩|⟨h,ho⟩|⟨h,ho⟩|⟨h,ho⟩|⟨h,ho⟩|⟨h,ho⟩|⟨h,ho⟩|⟨h,ho⟩
 .exact absurd h h1
 all_goals
  refine⟨by omega,by omega,hl.1,hl.2.1,hl.2.2.1,hl.2.2.2.1,hl.2.2.2.2.1,hl.2.2.2.2.2,?_⟩;simp only[S.least,S.most,h] at h5 h6;simp[h,S.hasD,S.hasA,S.hasB,S.bitsOf];clear h1 h2 h3 h4 hl h
  grind
theorem Zs {k:IntKind}{a b:Int}(h:a=b):Ending.returned (.int k a)=.returned (.int k b):=by rw[h]
theorem Zf {a b:Bool}(h:a=b):Ending.returned (.bool a)=.returned (.bool b):=by rw[h]
theorem Zv5 {k l:IntKind}{a b x y:Int}(h:a=b)(g:x=y):Ending.returned (.tuple #[.int k a,.int l x])=.returned (.tuple #[.int k b,.int l y]):=by rw[h,g]
theorem Zlq {fn:Func}{t u v x:Tmp}(h:fn.results=#[.tmp t,.tmp u,.tmp v,.tmp x])(tmps:Array Value)(P:Program)(w:World) :
 (results fn tmps).run P w=.ok (.tuple #[tmps.getD t undef,tmps.getD u undef,tmps.getD v undef,tmps.getD x undef]) w:=by simp[results,h]
theorem below_drewN {B:Nat}{a w:World}(h:Below B a w)(n:Nat):Below B a (w.drewN n):=⟨h.os,h.tape,h.output,h.size,h.block⟩
theorem Zhf {W w1:World}(hb:Below W.heap.size W w1):(∀b o,b<W.heap.size->w1.cell? ⟨b,o,none⟩=W.cell? ⟨b,o,none⟩)/\(∀b o,b<W.heap.size->w1.frozen? ⟨b,o,none⟩=W.frozen? ⟨b,o,none⟩) :=
 ⟨λ b o h=>hb.cell (p:=⟨b,o,none⟩) h,λ b o h=>hb.frozen (p:=⟨b,o,none⟩) h⟩
theorem Zsu {P:Program}{c:Code}{Q:Exit->Act->World->Prop}{a:Act}{w:World}(I:World->Prop)(h:I w)(k:∀w',I w'->Code.wp P c Q a w'):Code.wp P c Q a w:=k w h
theorem Za1 {base:Nat}{a w w':World}{row:Option Nat}(h:Below base a w)(hg:w.grownBy w' row)(hB:base<=w.heap.size)(hr:∀k,row=some k->base<=k):Below base a w':=h.grown hg hB hr
theorem Zc {w w':World}{base:Nat}{e:TypeId}{size:Nat}{v:Value}{n:Nat}{xs:List Value}(h:w.ownsRow base e size v n xs)(hb:Below w.heap.size w w'):w'.ownsRow base e size v n xs:=by
 refine h.kept (row:=none) ⟨hb.os,hb.tape,hb.output,hb.size,λ k hk _=>hb.block k hk⟩ ?_
 cases v.ownBlock <;> simp
theorem Zn {w:World}{base base':Nat}{e:TypeId}{size:Nat}{v:Value}{n:Nat}{xs:List Value}(h:w.ownsRow base e size v n xs)(hb:base'<=base):w.ownsRow base' e size v n xs:=by
 refine⟨h.1,?_⟩;rcases h.2 with h|⟨g,cap,cur,h1,h2,h3⟩
 .exact .inl h
 .exact .inr ⟨g,cap,cur,h1,Nat.le_trans hb h2,h3⟩
theorem Za {w:World}{base:Nat}{e:TypeId}{size:Nat}{v:Value}{n:Nat}{xs:List Value}(h:w.ownsRow base e size v n xs):∃A c,v=.slice A n c:=by
 rcases h.2 with⟨rfl,rfl⟩|⟨g,cap,cur,rfl,_⟩
 .exact⟨_,_,rfl⟩
 .exact⟨_,_,rfl⟩
theorem Zae {w:World}{base:Nat}{e:TypeId}{size:Nat}{A:Option Addr}{c m:Nat}{n:Nat}{xs:List Value}(h:w.ownsRow base e size (.slice A m c) n xs)(hn:0<n) :
 ∃g,A=some ⟨g,0,none⟩/\base<=g/\g<w.heap.size/\n<=c/\(∀j,j<n*size->w.cell? ⟨g,j,none⟩=xs[j]?)/\(∀j,w.frozen? ⟨g,j,none⟩=false):=by
 have hlt:=h.lt;rcases h.2 with⟨h1,h2⟩|⟨g,cap,cur,h1,h2,h3,h4,h5,h6,h7⟩
 .omega
 .simp only[Value.slice.injEq] at h1
  obtain⟨rfl,rfl,rfl⟩:=h1;exact⟨g,rfl,h2,(hlt g rfl).2,h4,λ j hj=>h.cellAt j hj,λ j=>h.frozenAt j⟩
theorem Zaa (w:World)(cs:Array Value)(e:TypeId)(o:Nat):(w.alloc (.cells cs e)).cell? ⟨w.heap.size,o,none⟩=cs[o]?:=by
 simp only[World.cell?,heap_alloc_new];simp
theorem Zyu {w0:World}{cs:Array Value}{e:TypeId}(j:Nat)(u:Value)(h:cs.toList[j]?=some u):(w0.alloc (.cells cs e)).cell? ((⟨w0.heap.size,0,none⟩:Addr).add j)=some u:=by
 have hj:(⟨w0.heap.size,0,none⟩:Addr).add j=⟨w0.heap.size,j,none⟩:=by
  unfold Addr.add;by_cases h0:j=0
  .subst h0;rfl
  .rw[if_neg h0];simp
 rw[hj];simp only[World.cell?,heap_alloc_new]
 simpa using h
theorem Zda {P:Program}{o:Oper}{a:Act}{K:Act->World->Prop}{Q:Exit->Act->World->Prop}{w0 w:World}(s x:Operand)(t:TypeId)
 (ho:o.op=.call { callee:=.builtin .append,args:=#[s,x],argTypes:=#[t,t] })
 (base:Nat) (e:TypeId) {z:Value} {size bytes:Nat} (hinfo:(P.info? e).map (λ i=>(i.zero,i.size,i.bytes))=some (some z,size,bytes)) (ht:P.underlying t=some (.slice e))
 (hzs:z.cells.size=size) (hsz:0<size) (cs:Array Value)
 (v:Value) (n:Nat) (xs:List Value) (hs:a.eval s=v) (hown:w0.ownsRow base e size v n xs)
 (hw:w=w0.alloc (.cells cs e)) (hx:a.eval x=.slice (some ⟨w0.heap.size,0,none⟩) 1 1) (hl:cs.size=size) (h1:∀u∈cs.toList,u.oneCell'=true)
 (h63:n+1<=maxLen) (hbytes:(n+1)*bytes<=140737488355328) (hbase:base<=w0.heap.size)
 (h:∀v' w',w'.ownsRow base e size v' (n+1) (xs++cs.toList)->w0.grownBy w' v.ownBlock->Below base w0 w'->(v'.ownBlock=v.ownBlock\/v'.ownBlock=some (w0.heap.size+1))->K (a.put o.dst v') w') :
 o.wp P a w K Q:=by
 obtain⟨i,hi,hz,hsize,hby⟩:=info_parts hinfo;subst hw;obtain⟨v',w',hrun,h2,h3,_,h5⟩:=run_append_own_at (P:=P) (w0.alloc (.cells cs e)) base t o.type e i z size bytes ht hi hz hsize hby hzs hsz v n xs (hown.alloc _) ⟨w0.heap.size,0,none⟩ 1 1 cs.toList
  (by simp[hl]) (λ j u hu=>Zyu j u hu) h1 h63 hbytes (by simp;omega)
 unfold Oper.wp execOp;simp only[ho,resolve,invoke,builtin,Sem.run_bind,Sem.run_pure,Result.andThen_ok,Yc0,Ybt,Ydm,hs,hx,hrun];have hg:w0.grownBy w' v.ownBlock:=⟨h3.os,h3.tape,h3.output,Nat.le_trans (by simp) h3.size,λ k hk hne=>(h3.block k (by simp;omega) hne).trans (Below.heap_alloc _ _ _ hk)⟩
 refine h v' w' h2 hg ((Below.refl _ _).grown hg hbase (λ k hk=>(hown.lt k hk).1)) ?_
 simpa using h5
theorem Zk {P:Program}{ops:Array Oper}{rest:List Oper}{o:Oper}{a:Act}{Q:Exit->Act->World->Prop}{w0 w:World}(hgd:o.guard=none)(s x:Operand)(t:TypeId)
 (ho:o.op=.call { callee:=.builtin .append,args:=#[s,x],argTypes:=#[t,t] })
 (base:Nat) (e:TypeId) {z:Value} {size bytes:Nat} (hinfo:(P.info? e).map (λ i=>(i.zero,i.size,i.bytes))=some (some z,size,bytes)) (ht:P.underlying t=some (.slice e))
 (hzs:z.cells.size=size) (hsz:0<size) (cs:Array Value)
 (v:Value) (n:Nat) (xs:List Value) (hs:a.eval s=v) (hown:w0.ownsRow base e size v n xs)
 (hw:w=w0.alloc (.cells cs e)) (hx:a.eval x=.slice (some ⟨w0.heap.size,0,none⟩) 1 1) (hl:cs.size=size) (h1:∀u∈cs.toList,u.oneCell'=true)
 (h63:n+1<=maxLen) (hbytes:(n+1)*bytes<=140737488355328) (hbase:base<=w0.heap.size)
 (h:∀v' w',w'.ownsRow base e size v' (n+1) (xs++cs.toList)->w0.grownBy w' v.ownBlock->Below base w0 w'->(v'.ownBlock=v.ownBlock\/v'.ownBlock=some (w0.heap.size+1))->wpList P ops Q rest (a.put o.dst v') w') :
 wpList P ops Q (o::rest) a w :=
 wpList_plain hgd λ _ hK=>Zda s x t ho base e hinfo ht hzs hsz cs v n xs hs hown hw hx hl h1 h63 hbytes hbase λ v' w' h2 h3 h4 h5=>hK _ _ (h v' w' h2 h3 h4 h5)
def Reads (w:World)(B:Nat)(A:Option Addr)(xs:List Value):Prop :=
 0<xs.length->∃b off,A=some ⟨b,off,none⟩/\b<B/\∀i x,xs[i]?=some x->w.cell? ⟨b,off+i,none⟩=some x
theorem Reads.below {w w':World}{B:Nat}{A:Option Addr}{xs:List Value}(h:Reads w B A xs)(hb:Below B w w'):Reads w' B A xs:=λ hp=>by
 obtain⟨b,off,e,hbB,hc⟩:=h hp;exact⟨b,off,e,hbB,λ i x hx=>(hb.cell (p:=⟨b,off+i,none⟩) hbB).trans (hc i x hx)⟩
theorem Reads.of_own {w:World}{base:Nat}{e:TypeId}{A:Option Addr}{m c n:Nat}{xs:List Value}(h:w.ownsRow base e 1 (.slice A m c) n xs):Reads w w.heap.size A xs:=λ hp=>by
 have hl:xs.length=n:=by have:=h.1;simpa using this
 obtain⟨g,rfl,hg1,hg2,hg3,hg4,_⟩:=Zae h (by omega);refine⟨g,0,rfl,hg2,λ i x hx=>?_⟩;have hi:=(Yg.1 hx).1;have h1:=hg4 i (by omega);rw[Nat.zero_add,h1,hx]
theorem Addr.add_mk (b o j:Nat):(⟨b,o,none⟩:Addr).add j=⟨b,o+j,none⟩:=by
 unfold Addr.add;by_cases h:j=0
 .subst h;rfl
 .rw[if_neg h]
theorem Zbl {P:Program}(w:World)(base:Nat)(t ty e:TypeId)(i:TypeInfo)(size:Nat)(ht:P.underlying t=some (.slice e))(hi:P.info? e=some i)
 (v:Value) (n:Nat) (xs:List Value) (hown:w.ownsRow base e size v n xs) (c:Nat):(Builtin.append_ #[t,t] ty #[v,.slice none 0 c]).run P w=.ok v w:=by
 rcases hown.2 with⟨rfl,rfl⟩|⟨g,cap,cur,rfl,_,_,hnc,_⟩
 .simp[Builtin.append_,run_underlying ht,sizeOf,typeInfo,hi,Builtin.lenOf,Builtin.firstCells]
 .simp[Builtin.append_,run_underlying ht,sizeOf,typeInfo,hi,Builtin.lenOf,Builtin.firstCells,hnc,storeCells]
theorem Zps {P:Program}{o:Oper}{a:Act}{K:Act->World->Prop}{Q:Exit->Act->World->Prop}{w:World}(s x:Operand)(t:TypeId)
 (ho:o.op=.call { callee:=.builtin .append,args:=#[s,x],argTypes:=#[t,t] })
 (base:Nat) (e:TypeId) {z:Value} {bytes:Nat} (hinfo:(P.info? e).map (λ i=>(i.zero,i.size,i.bytes))=some (some z,1,bytes)) (ht:P.underlying t=some (.slice e))
 (hzs:z.cells.size=1) (v:Value) (n:Nat) (xs:List Value) (hs:a.eval s=v) (hown:w.ownsRow base e 1 v n xs)
 (B:Nat) (A:Option Addr) (m c:Nat) (news:List Value) (hx:a.eval x=.slice A m c) (hm:m=news.length) (hA:A=none->m=0) (hr:Reads w B A news) (h1:∀u∈news,u.oneCell'=true)
 (h63:n+m<=maxLen) (hbytes:(n+m)*bytes<=140737488355328) (hbase:base<=w.heap.size)
 (h:∀v' w',w'.ownsRow base e 1 v' (n+m) (xs++news)->w.grownBy w' v.ownBlock->Below base w w'->(v'.ownBlock=v.ownBlock\/v'.ownBlock=some w.heap.size)->K (a.put o.dst v') w') :
 o.wp P a w K Q:=by
 obtain⟨i,hi,hz,hsize,hby⟩:=info_parts hinfo;have hfin:∃v' w',(Builtin.append_ #[t,t] o.type #[v,.slice A m c]).run P w=.ok v' w'/\w'.ownsRow base e 1 v' (n+m) (xs++news)/\w.grownBy w' v.ownBlock/\(v'.ownBlock=v.ownBlock\/v'.ownBlock=some w.heap.size):=by
  rcases A with _|ad
  .have h0:=hA rfl
   subst h0;have hn:news=[]:=List.eq_nil_of_length_eq_zero hm.symm;subst hn;exact⟨v,w,Zbl w base t _ e i 1 ht hi v n xs hown c,by simpa using hown,World.grownBy.refl w _,.inl rfl⟩
  .have hcells:∀j u,news[j]?=some u->w.cell? (ad.add j)=some u:=by
    intro j u hu;have hlt:=(Yg.1 hu).1;obtain⟨b,off,he,hbB,hc⟩:=hr (by omega)
    cases he
    rw[Addr.add_mk];exact hc j u hu
   obtain⟨v',w',hrun,h2,h3,_,h5⟩:=run_append_own_at (P:=P) w base t o.type e i z 1 bytes ht hi hz hsize hby hzs (by decide) v n xs hown ad m c news (by rw[hm];simp) hcells h1 h63 hbytes hbase;exact⟨v',w',hrun,h2,h3,h5⟩
 obtain⟨v',w',hrun,h2,h3,h4⟩:=hfin;unfold Oper.wp execOp;simp only[ho,resolve,invoke,builtin,Sem.run_bind,Sem.run_pure,Result.andThen_ok,Yc0,Ybt,Ydm,hs,hx,hrun];exact h v' w' h2 h3 ((Below.refl _ _).grown h3 hbase (λ k hk=>(hown.lt k hk).1)) h4
theorem Za2 {P:Program}{ops:Array Oper}{rest:List Oper}{o:Oper}{a:Act}{Q:Exit->Act->World->Prop}{w:World}(hgd:o.guard=none)(s x:Operand)(t:TypeId)
 (ho:o.op=.call { callee:=.builtin .append,args:=#[s,x],argTypes:=#[t,t] })
 (base:Nat) (e:TypeId) {z:Value} {bytes:Nat} (hinfo:(P.info? e).map (λ i=>(i.zero,i.size,i.bytes))=some (some z,1,bytes)) (ht:P.underlying t=some (.slice e))
 (hzs:z.cells.size=1) (v:Value) (n:Nat) (xs:List Value) (hs:a.eval s=v) (hown:w.ownsRow base e 1 v n xs)
 (B:Nat) (A:Option Addr) (m c:Nat) (news:List Value) (hx:a.eval x=.slice A m c) (hm:m=news.length) (hA:A=none->m=0) (hr:Reads w B A news) (h1:∀u∈news,u.oneCell'=true)
 (h63:n+m<=maxLen) (hbytes:(n+m)*bytes<=140737488355328) (hbase:base<=w.heap.size)
 (h:∀v' w',w'.ownsRow base e 1 v' (n+m) (xs++news)->w.grownBy w' v.ownBlock->Below base w w'->(v'.ownBlock=v.ownBlock\/v'.ownBlock=some w.heap.size)->wpList P ops Q rest (a.put o.dst v') w') :
 wpList P ops Q (o::rest) a w :=
 wpList_plain hgd λ _ hK=>Zps s x t ho base e hinfo ht hzs v n xs hs hown B A m c news hx hm hA hr h1 h63 hbytes hbase λ v' w' h2 h3 h4 h5=>hK _ _ (h v' w' h2 h3 h4 h5)
