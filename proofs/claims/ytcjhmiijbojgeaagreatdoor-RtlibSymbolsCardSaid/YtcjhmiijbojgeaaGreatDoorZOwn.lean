/- Parts. -/
import Derived.Test.YtcjhmiijbojgeaaGreatDoorZYx
import Derived.WalkKit
import Derived.WalkSpells
import Derived.WalkLawsBesides
import Derived.Deep.QuietTactic
import Derived.BigQuiet
import Derived.LoopN
import Derived.Maps.AppendAt
import Derived.Lib.Hide
set_option linter.all false
open List renaming getElem?_eq_some_iff->Yg,map_cons->Ybr,map_toArray->Yc5,map_nil->Ydq
namespace Go.Proofs.YtcjhmiijbojgeaaGreatDoor
open Go.RowKit
theorem Zu {k:IntKind}{a b:Int}(h:a=b):Ending.returned (.int k a)=.returned (.int k b):=by rw[h]
theorem Zf {a b:Bool}(h:a=b):Ending.returned (.bool a)=.returned (.bool b):=by rw[h]
theorem Zyg {k l:IntKind}{a b x y:Int}(h:a=b)(g:x=y):Ending.returned (.tuple #[.int k a,.int l x])=.returned (.tuple #[.int k b,.int l y]):=by rw[h,g]
theorem Zmr {fn:Func}{t u v x:Tmp}(h:fn.results=#[.tmp t,.tmp u,.tmp v,.tmp x])(tmps:Array Value)(P:Program)(w:World) :
 (results fn tmps).run P w=.ok (.tuple #[tmps.getD t undef,tmps.getD u undef,tmps.getD v undef,tmps.getD x undef]) w:=by simp[results,h]
theorem below_drewN {B:Nat}{a w:World}(h:Below B a w)(n:Nat):Below B a (w.drewN n):=⟨h.os,h.tape,h.output,h.size,h.block⟩
theorem Zh9 {W w1:World}(a:Below W.heap.size W w1):(∀b o,b<W.heap.size->w1.cell? ⟨b,o,none⟩=W.cell? ⟨b,o,none⟩)/\(∀b o,b<W.heap.size->w1.frozen? ⟨b,o,none⟩=W.frozen? ⟨b,o,none⟩) :=
 ⟨λ b o h=>a.cell (p:=⟨b,o,none⟩) h,λ b o h=>a.frozen (p:=⟨b,o,none⟩) h⟩
theorem Zus {P:Program}{c:Code}{Q:Exit->Act->World->Prop}{a:Act}{w:World}(I:World->Prop)(h:I w)(k:∀w',I w'->Code.wp P c Q a w'):Code.wp P c Q a w:=k w h
theorem Zbe {base:Nat}{a w w':World}{row:Option Nat}(h:Below base a w)(hg:w.grownBy w' row)(c:base<=w.heap.size)(b:∀k,row=some k->base<=k):Below base a w':=h.grown hg c b
theorem Zc {w w':World}{base:Nat}{e:TypeId}{size:Nat}{v:Value}{n:Nat}{xs:List Value}(h:w.ownsRow base e size v n xs)(a:Below w.heap.size w w'):w'.ownsRow base e size v n xs:=by
 refine h.kept (row:=none) ⟨a.os,a.tape,a.output,a.size,λ k b _=>a.block k b⟩ ?_
 cases v.ownBlock <;> simp
theorem Zo {w:World}{base a:Nat}{e:TypeId}{size:Nat}{v:Value}{n:Nat}{xs:List Value}(h:w.ownsRow base e size v n xs)(f:a<=base):w.ownsRow a e size v n xs:=by
 refine⟨h.1,?_⟩;rcases h.2 with h|⟨g,cap,b,i,d,c⟩
 .exact .inl h
 .exact .inr ⟨g,cap,b,i,Nat.le_trans f d,c⟩
theorem Za {w:World}{base:Nat}{e:TypeId}{size:Nat}{v:Value}{n:Nat}{xs:List Value}(h:w.ownsRow base e size v n xs):∃A c,v=.slice A n c:=by
 rcases h.2 with⟨rfl,rfl⟩|⟨g,cap,a,rfl,_⟩
 .exact⟨_,_,rfl⟩
 .exact⟨_,_,rfl⟩
theorem Zan {w:World}{base:Nat}{e:TypeId}{size:Nat}{A:Option Addr}{c m:Nat}{n:Nat}{xs:List Value}(h:w.ownsRow base e size (.slice A m c) n xs)(hn:0<n) :
 ∃g,A=some ⟨g,0,none⟩/\base<=g/\g<w.heap.size/\n<=c/\(∀j,j<n*size->w.cell? ⟨g,j,none⟩=xs[j]?)/\(∀j,w.frozen? ⟨g,j,none⟩=false):=by
 have a:=h.lt;rcases h.2 with⟨b,d⟩|⟨g,cap,k,b,d,h3,f,h5,h6,h7⟩
 .omega
 .simp only[Value.slice.injEq] at b
  obtain⟨rfl,rfl,rfl⟩:=b;exact⟨g,rfl,d,(a g rfl).2,f,λ j i=>h.cellAt j i,λ j=>h.frozenAt j⟩
theorem Zac (w:World)(cs:Array Value)(e:TypeId)(o:Nat):(w.alloc (.cells cs e)).cell? ⟨w.heap.size,o,none⟩=cs[o]?:=by
 simp only[World.cell?,heap_alloc_new];simp
theorem Z1x {w0:World}{cs:Array Value}{e:TypeId}(j:Nat)(u:Value)(h:cs.toList[j]?=some u):(w0.alloc (.cells cs e)).cell? ((⟨w0.heap.size,0,none⟩:Addr).add j)=some u:=by
 have a:(⟨w0.heap.size,0,none⟩:Addr).add j=⟨w0.heap.size,j,none⟩:=by
  unfold Addr.add;by_cases h0:j=0
  .subst h0;rfl
  .rw[if_neg h0];simp
 rw[a];simp only[World.cell?,heap_alloc_new]
 simpa using h
theorem Zb3 {P:Program}{o:Oper}{a:Act}{K:Act->World->Prop}{Q:Exit->Act->World->Prop}{w0 w:World}(s x:Operand)(t:TypeId)
 (F:o.op=.call { callee:=.builtin .append,args:=#[s,x],argTypes:=#[t,t] })
 (base:Nat) (e:TypeId) {z:Value} {size bytes:Nat} (g:(P.info? e).map (λ i=>(i.zero,i.size,i.bytes))=some (some z,size,bytes)) (D:P.underlying t=some (.slice e))
 (A:z.cells.size=size) (hsz:0<size) (cs:Array Value)
 (v:Value) (n:Nat) (xs:List Value) (N:a.eval s=v) (c:w0.ownsRow base e size v n xs)
 (H:w=w0.alloc (.cells cs e)) (G:a.eval x=.slice (some ⟨w0.heap.size,0,none⟩) 1 1) (I:cs.size=size) (J:∀u∈cs.toList,u.oneCell'=true)
 (B:n+1<=maxLen) (b:(n+1)*bytes<=140737488355328) (d:base<=w0.heap.size)
 (h:∀l w',w'.ownsRow base e size l (n+1) (xs++cs.toList)->w0.grownBy w' v.ownBlock->Below base w0 w'->(l.ownBlock=v.ownBlock\/l.ownBlock=some (w0.heap.size+1))->K (a.put o.dst l) w') :
 o.wp P a w K Q:=by
 obtain⟨i,hi,L,f,r⟩:=info_parts g;subst H;obtain⟨l,w',m,E,p,_,C⟩:=run_append_own_at (P:=P) (w0.alloc (.cells cs e)) base t o.type e i z size bytes D hi L f r A hsz v n xs (c.alloc _) ⟨w0.heap.size,0,none⟩ 1 1 cs.toList
  (by simp[I]) (λ j u M=>Z1x j u M) J B b (by simp;omega)
 unfold Oper.wp execOp;simp only[F,resolve,invoke,builtin,Sem.run_bind,Sem.run_pure,Result.andThen_ok,Yc5,Ybr,Ydq,N,G,m];have hg:w0.grownBy w' v.ownBlock:=⟨p.os,p.tape,p.output,Nat.le_trans (by simp) p.size,λ k y q=>(p.block k (by simp;omega) q).trans (Below.heap_alloc _ _ _ y)⟩
 refine h l w' E hg ((Below.refl _ _).grown hg d (λ k y=>(c.lt k y).1)) ?_
 simpa using C
theorem Zl {P:Program}{ops:Array Oper}{rest:List Oper}{o:Oper}{a:Act}{Q:Exit->Act->World->Prop}{w0 w:World}(j:o.guard=none)(s x:Operand)(t:TypeId)
 (A:o.op=.call { callee:=.builtin .append,args:=#[s,x],argTypes:=#[t,t] })
 (base:Nat) (e:TypeId) {z:Value} {size bytes:Nat} (d:(P.info? e).map (λ i=>(i.zero,i.size,i.bytes))=some (some z,size,bytes)) (r:P.underlying t=some (.slice e))
 (k:z.cells.size=size) (hsz:0<size) (cs:Array Value)
 (v:Value) (n:Nat) (xs:List Value) (G:a.eval s=v) (g:w0.ownsRow base e size v n xs)
 (D:w=w0.alloc (.cells cs e)) (B:a.eval x=.slice (some ⟨w0.heap.size,0,none⟩) 1 1) (E:cs.size=size) (F:∀u∈cs.toList,u.oneCell'=true)
 (l:n+1<=maxLen) (b:(n+1)*bytes<=140737488355328) (c:base<=w0.heap.size)
 (h:∀f w',w'.ownsRow base e size f (n+1) (xs++cs.toList)->w0.grownBy w' v.ownBlock->Below base w0 w'->(f.ownBlock=v.ownBlock\/f.ownBlock=some (w0.heap.size+1))->wpList P ops Q rest (a.put o.dst f) w') :
 wpList P ops Q (o::rest) a w :=
 wpList_plain j λ _ q=>Zb3 s x t A base e d r k hsz cs v n xs G g D B E F l b c λ f w' y C p m=>q _ _ (h f w' y C p m)
def Reads (w:World)(B:Nat)(A:Option Addr)(xs:List Value):Prop :=
 0<xs.length->∃b off,A=some ⟨b,off,none⟩/\b<B/\∀i x,xs[i]?=some x->w.cell? ⟨b,off+i,none⟩=some x
theorem Reads.below {w w':World}{B:Nat}{A:Option Addr}{xs:List Value}(h:Reads w B A xs)(d:Below B w w'):Reads w' B A xs:=λ hp=>by
 obtain⟨b,off,e,a,c⟩:=h hp;exact⟨b,off,e,a,λ i x f=>(d.cell (p:=⟨b,off+i,none⟩) a).trans (c i x f)⟩
theorem Reads.of_own {w:World}{base:Nat}{e:TypeId}{A:Option Addr}{m c n:Nat}{xs:List Value}(h:w.ownsRow base e 1 (.slice A m c) n xs):Reads w w.heap.size A xs:=λ hp=>by
 have hl:xs.length=n:=by have:=h.1;simpa using this
 obtain⟨g,rfl,j,a,k,b,_⟩:=Zan h (by omega);refine⟨g,0,rfl,a,λ i x d=>?_⟩;have hi:=(Yg.1 d).1;have f:=b i (by omega);rw[Nat.zero_add,f,d]
theorem Addr.add_mk (b o j:Nat):(⟨b,o,none⟩:Addr).add j=⟨b,o+j,none⟩:=by
 unfold Addr.add;by_cases h:j=0
 .subst h;rfl
 .rw[if_neg h]
theorem Zb4 {P:Program}(w:World)(base:Nat)(t f e:TypeId)(i:TypeInfo)(size:Nat)(d:P.underlying t=some (.slice e))(hi:P.info? e=some i)
 (v:Value) (n:Nat) (xs:List Value) (a:w.ownsRow base e size v n xs) (c:Nat):(Builtin.append_ #[t,t] f #[v,.slice none 0 c]).run P w=.ok v w:=by
 rcases a.2 with⟨rfl,rfl⟩|⟨g,cap,h,rfl,_,_,b,_⟩
 .simp[Builtin.append_,run_underlying d,sizeOf,typeInfo,hi,Builtin.lenOf,Builtin.firstCells]
 .simp[Builtin.append_,run_underlying d,sizeOf,typeInfo,hi,Builtin.lenOf,Builtin.firstCells,b,storeCells]
theorem Zrt {P:Program}{o:Oper}{a:Act}{K:Act->World->Prop}{Q:Exit->Act->World->Prop}{w:World}(s x:Operand)(t:TypeId)
 (U:o.op=.call { callee:=.builtin .append,args:=#[s,x],argTypes:=#[t,t] })
 (base:Nat) (e:TypeId) {z:Value} {bytes:Nat} (y:(P.info? e).map (λ i=>(i.zero,i.size,i.bytes))=some (some z,1,bytes)) (I:P.underlying t=some (.slice e))
 (G:z.cells.size=1) (v:Value) (n:Nat) (xs:List Value) (hs:a.eval s=v) (f:w.ownsRow base e 1 v n xs)
 (B:Nat) (A:Option Addr) (m c:Nat) (d:List Value) (V:a.eval x=.slice A m c) (hm:m=d.length) (hA:A=none->m=0) (hr:Reads w B A d) (X:∀u∈d,u.oneCell'=true)
 (H:n+m<=maxLen) (q:(n+m)*bytes<=140737488355328) (l:base<=w.heap.size)
 (h:∀g w',w'.ownsRow base e 1 g (n+m) (xs++d)->w.grownBy w' v.ownBlock->Below base w w'->(g.ownBlock=v.ownBlock\/g.ownBlock=some w.heap.size)->K (a.put o.dst g) w') :
 o.wp P a w K Q:=by
 obtain⟨i,hi,hz,r,F⟩:=info_parts y;have C:∃g w',(Builtin.append_ #[t,t] o.type #[v,.slice A m c]).run P w=.ok g w'/\w'.ownsRow base e 1 g (n+m) (xs++d)/\w.grownBy w' v.ownBlock/\(g.ownBlock=v.ownBlock\/g.ownBlock=some w.heap.size):=by
  rcases A with _|J
  .have h0:=hA rfl
   subst h0;have Z:d=[]:=List.eq_nil_of_length_eq_zero hm.symm;subst Z;exact⟨v,w,Zb4 w base t _ e i 1 I hi v n xs f c,by simpa using f,World.grownBy.refl w _,.inl rfl⟩
  .have hcells:∀j u,d[j]?=some u->w.cell? (J.add j)=some u:=by
    intro j u L;have W:=(Yg.1 L).1;obtain⟨b,off,T,R,O⟩:=hr (by omega)
    cases T
    rw[Addr.add_mk];exact O j u L
   obtain⟨g,w',p,E,D,_,M⟩:=run_append_own_at (P:=P) w base t o.type e i z 1 bytes I hi hz r F G (by decide) v n xs f J m c d (by rw[hm];simp) hcells X H q l;exact⟨g,w',p,E,D,M⟩
 obtain⟨g,w',p,E,D,N⟩:=C;unfold Oper.wp execOp;simp only[U,resolve,invoke,builtin,Sem.run_bind,Sem.run_pure,Result.andThen_ok,Yc5,Ybr,Ydq,hs,V,p];exact h g w' E D ((Below.refl _ _).grown D l (λ k Y=>(f.lt k Y).1)) N
theorem Zbf {P:Program}{ops:Array Oper}{rest:List Oper}{o:Oper}{a:Act}{Q:Exit->Act->World->Prop}{w:World}(l:o.guard=none)(s x:Operand)(t:TypeId)
 (F:o.op=.call { callee:=.builtin .append,args:=#[s,x],argTypes:=#[t,t] })
 (base:Nat) (e:TypeId) {z:Value} {bytes:Nat} (g:(P.info? e).map (λ i=>(i.zero,i.size,i.bytes))=some (some z,1,bytes)) (D:P.underlying t=some (.slice e))
 (p:z.cells.size=1) (v:Value) (n:Nat) (xs:List Value) (K:a.eval s=v) (k:w.ownsRow base e 1 v n xs)
 (B:Nat) (A:Option Addr) (m c:Nat) (b:List Value) (G:a.eval x=.slice A m c) (hm:m=b.length) (hA:A=none->m=0) (J:Reads w B A b) (I:∀u∈b,u.oneCell'=true)
 (q:n+m<=maxLen) (d:(n+m)*bytes<=140737488355328) (f:base<=w.heap.size)
 (h:∀j w',w'.ownsRow base e 1 j (n+m) (xs++b)->w.grownBy w' v.ownBlock->Below base w w'->(j.ownBlock=v.ownBlock\/j.ownBlock=some w.heap.size)->wpList P ops Q rest (a.put o.dst j) w') :
 wpList P ops Q (o::rest) a w :=
 wpList_plain l λ _ C=>Zrt s x t F base e g D p v n xs K k B A m c b G hm hA J I q d f λ j w' E H y r=>C _ _ (h j w' E H y r)
