/- Parts. -/
import Derived.Test.YtldbnjajjfgipaaGreatDoorZIsaD
import Derived.Deep.RegionWith
import Derived.WideShapes
import Derived.Deep.DeepCutAuto
set_option linter.all false
set_option maxHeartbeats 2000000
open Go.Lib renaming hid->Ya
open Nat renaming le_refl->Yb,lt_of_lt_of_le->Y3,zero_add->Yac
open List renaming getElem?_eq_getElem->Yf,getElem?_eq_some_iff->Yg,mem_of_getElem?->Y0,getElem?_cons_zero->Ya5,flatMap_cons->Ybf,getElem_of_mem->Ycl
open Go.RowKit.Below renaming refl->Yh
namespace Go.Proofs.YtldbnjajjfgipaaGreatDoor
open S Go.Proofs.Tryz Go.RowKit
set_option maxRecDepth 100000
theorem Zh8 (k op d a b imm:Int)(lab:ByteArray)(c form:Int)(w:World)(h3:k=3->1<=form/\form<=3)(f:k=4->1<=form/\form<=2)(j:0<=c)(h:c<=4294967295) :
 Calls prog 269 #[.agg #[.int .i64 k,.int .i64 op,.int .i64 d,.int .i64 a,.int .i64 b,.int .i64 imm,.string lab,.int .u32 c],.int .i64 form] w
  λ e w'=>e=.returned (.int .i64 (S.size ⟨k,⟨op,d,a,b,imm⟩,lab,c⟩ form))/\Below w.heap.size w w':=by
 by_cases c3:k=3
 .obtain⟨f1,f2⟩:=h3 c3
  clear h3 f;subst c3;have hf:form=1\/form=2\/form=3:=by omega
  clear f1 f2;have g:∀w:World,(Instr.index 294 (.agg #[.int .i64 0,.int .i64 1,.int .i64 2,.int .i64 4]) (.int .i64 1)).run prog w=.ok (.int .i64 1) w:=λ _=>by kernel_rfl
  have i:∀w:World,(Instr.index 294 (.agg #[.int .i64 0,.int .i64 1,.int .i64 2,.int .i64 4]) (.int .i64 2)).run prog w=.ok (.int .i64 2) w:=λ _=>by kernel_rfl
  have iz:∀w:World,(Instr.index 294 (.agg #[.int .i64 0,.int .i64 1,.int .i64 2,.int .i64 4]) (.int .i64 3)).run prog w=.ok (.int .i64 4) w:=λ _=>by kernel_rfl
  rcases hf with rfl|rfl|rfl
  all_goals
   go_enter func269,ntmps269
   go_wp2
   go_ret
   exact⟨Z0 (by simp[S.size]),(Yh _ _).alloc (Yb _) _⟩
 .by_cases c4:k=4
  .obtain⟨f1,f2⟩:=f c4
   clear h3 f c3;subst c4;have hf:form=1\/form=2:=by omega
   clear f1 f2;have g:∀w:World,(Instr.index 295 (.agg #[.int .i64 0,.int .i64 1,.int .i64 3]) (.int .i64 1)).run prog w=.ok (.int .i64 1) w:=λ _=>by kernel_rfl
   have i:∀w:World,(Instr.index 295 (.agg #[.int .i64 0,.int .i64 1,.int .i64 3]) (.int .i64 2)).run prog w=.ok (.int .i64 3) w:=λ _=>by kernel_rfl
   rcases hf with rfl|rfl
   all_goals
    go_enter func269,ntmps269
    go_wp2
    go_ret
    exact⟨Z0 (by simp[S.size]),(Yh _ _).alloc (Yb _) _⟩
  .clear h3 f
   have d3:(k==3)=false:=by simp[c3]
   have d4:(k==4)=false:=by simp[c4]
   go_enter func269,ntmps269
   go_wp2
   all_goals
    go_ret
    exact⟨Z0 (by simp_all[S.size]),(Yh _ _).alloc (Yb _) _⟩
theorem Zod (k op d a b imm:Int)(lab:ByteArray)(c:Int)(w:World) :
 Calls prog 236 #[.agg #[.int .i64 k,.int .i64 op,.int .i64 d,.int .i64 a,.int .i64 b,.int .i64 imm,.string lab,.int .u32 c]] w
  λ e w'=>e=.returned (.bool (named ⟨k,⟨op,d,a,b,imm⟩,lab,c⟩))/\Below w.heap.size w w':=by
 go_enter func236,ntmps236
 go_wp2
 all_goals
  go_ret
  exact⟨Zk (by simp only[named];grind),(Yh _ _).alloc (Yb _) _⟩
theorem Zoe (k op d a b imm:Int)(lab:ByteArray)(f:Int)(w:World) :
 Calls prog 235 #[.agg #[.int .i64 k,.int .i64 op,.int .i64 d,.int .i64 a,.int .i64 b,.int .i64 imm,.string lab,.int .u32 f]] w
  λ e w'=>e=.returned (.int .i64 (chkItem ⟨k,⟨op,d,a,b,imm⟩,lab,f⟩))/\Below w.heap.size w w':=by
 by_cases c3:k=3
 .subst c3
  go_enter func235,ntmps235
  go_wp2
  refine Z1 (by kernel_rfl) (by kernel_rfl) ?_;have hE:=Zn (w.alloc (.cells #[.int .i64 3,.int .i64 op,.int .i64 d,.int .i64 a,.int .i64 b,.int .i64 imm,.string lab,.int .u32 f] 135))
  repeat (first
   | go_big_quiet_step ((first
    | (go_at_call 241;exact Zcm (asm_Turned _ _))
    | (go_at_call 245;exact Zc6 (Zco _ _ _ _ _ _)))))
  refine wpQuiet_nil ?_;rintro _ ⟨⟨w1,c⟩,rfl⟩
  go_wp2
  go_ret
  refine⟨Z0 ?_,((Yh _ _).alloc (Yb _) _).trans (c.mono (by simp))⟩;simp only[Zsg];simp[chkItem]
 .have d3:(k==3)=false:=by simp[c3]
  go_enter func235,ntmps235
  go_wp2_with (go_at_call 245;refine(Zco _ _ _ _ _ _).mono ?_;rintro e w' ⟨rfl,hb⟩)
  all_goals
   go_ret
   first
    | exact⟨Z0 (by first | (simp only[Zyp];grind [chkItem,chk]) | grind [chkItem,chk]),((Yh _ _).alloc (Yb _) _).trans (Below.mono ‹_› (by simp))⟩
    | exact⟨Z0 (by grind [chkItem,chk]),(Yh _ _).alloc (Yb _) _⟩
theorem Zqf {P:Program}{o:Oper}{a:Act}{K:Act->World->Prop}{Q:Exit->Act->World->Prop}{w:World}(s x:Operand)(t:TypeId)
 (Y:o.op=.call { callee:=.builtin .append,args:=#[s,x],argTypes:=#[t,t] })
 (base:Nat) (e:TypeId) {z:Value} {size bytes:Nat} (y:(P.info? e).map (λ i=>(i.zero,i.size,i.bytes))=some (some z,size,bytes)) (I:P.underlying t=some (.slice e))
 (G:z.cells.size=size) (E:0<size) (v:Value) (n:Nat) (xs:List Value) (O:a.eval s=v) (f:w.ownsRow base e size v n xs)
 (B:Nat) (A:Option Addr) (m c:Nat) (d:List Value) (hx:a.eval x=.slice A m c) (hm:d.length=m*size) (hA:A=none->m=0) (X:Reads w B A d) (h1:∀u∈d,u.oneCell'=true)
 (D:n+m<=maxLen) (q:(n+m)*bytes<=140737488355328) (l:base<=w.heap.size)
 (h:∀g w',w'.ownsRow base e size g (n+m) (xs++d)->w.grownBy w' v.ownBlock->Below base w w'->(g.ownBlock=v.ownBlock\/g.ownBlock=some w.heap.size)->K (a.put o.dst g) w') :
 o.wp P a w K Q:=by
 obtain⟨i,hi,R,r,F⟩:=info_parts y;have C:∃g w',(Builtin.append_ #[t,t] o.type #[v,.slice A m c]).run P w=.ok g w'/\w'.ownsRow base e size g (n+m) (xs++d)/\w.grownBy w' v.ownBlock/\(g.ownBlock=v.ownBlock\/g.ownBlock=some w.heap.size):=by
  rcases A with _|J
  .have h0:=hA rfl
   subst h0;have L:d=[]:=List.eq_nil_of_length_eq_zero (by rw[hm];simp);subst L;exact⟨v,w,Zce w base t _ e i size I hi v n xs f c,by simpa using f,World.grownBy.refl w _,.inl rfl⟩
  .have hcells:∀j u,d[j]?=some u->w.cell? (J.add j)=some u:=by
    intro j u H;have Z:=(Yg.1 H).1;obtain⟨b,off,T,V,U⟩:=X (by omega)
    cases T
    rw[Addr.add_mk];exact U j u H
   obtain⟨g,w',p,h2,h3,_,W⟩:=run_append_own_at (P:=P) w base t o.type e i z size bytes I hi R r F G E v n xs f J m c d hm hcells h1 D q l;exact⟨g,w',p,h2,h3,W⟩
 obtain⟨g,w',p,h2,h3,N⟩:=C;unfold Oper.wp execOp;simp only[Y,resolve,invoke,builtin,Sem.run_bind,Sem.run_pure,Result.andThen_ok,List.map_toArray,List.map_cons,List.map_nil,O,hx,p];exact h g w' h2 h3 ((Yh _ _).grown h3 l (λ k M=>(f.lt k M).1)) N
theorem Zac {P:Program}{ops:Array Oper}{rest:List Oper}{o:Oper}{a:Act}{Q:Exit->Act->World->Prop}{w:World}(p:o.guard=none)(s x:Operand)(t:TypeId)
 (G:o.op=.call { callee:=.builtin .append,args:=#[s,x],argTypes:=#[t,t] })
 (base:Nat) (e:TypeId) {z:Value} {size bytes:Nat} (g:(P.info? e).map (λ i=>(i.zero,i.size,i.bytes))=some (some z,size,bytes)) (y:P.underlying t=some (.slice e))
 (r:z.cells.size=size) (q:0<size) (v:Value) (n:Nat) (xs:List Value) (D:a.eval s=v) (k:w.ownsRow base e size v n xs)
 (B:Nat) (A:Option Addr) (m c:Nat) (b:List Value) (I:a.eval x=.slice A m c) (hm:b.length=m*size) (hA:A=none->m=0) (F:Reads w B A b) (h1:∀u∈b,u.oneCell'=true)
 (l:n+m<=maxLen) (d:(n+m)*bytes<=140737488355328) (f:base<=w.heap.size)
 (h:∀j w',w'.ownsRow base e size j (n+m) (xs++b)->w.grownBy w' v.ownBlock->Below base w w'->(j.ownBlock=v.ownBlock\/j.ownBlock=some w.heap.size)->wpList P ops Q rest (a.put o.dst j) w') :
 wpList P ops Q (o::rest) a w :=
 wpList_plain p λ _ H=>Zqf s x t G base e g y r q v n xs D k B A m c b I hm hA F h1 l d f λ j w' h2 h3 C E=>H _ _ (h j w' h2 h3 C E)
theorem Z5f {a b:ByteArray}(h:a=b):(a.toList==b.toList)=true:=by simp[h]
theorem Z5g {a b:ByteArray}(h:a≠b):(a.toList==b.toList)=false:=by
 rw[beq_eq_false_iff_ne];intro e;rw[ByteArray.toList_eq,ByteArray.toList_eq] at e;exact h (WideShapes.bytes_inj e)
theorem Zvv {a b:Int}(h:a=b):(a==b)=true:=by simp[h]
theorem Zcp {a b:Int}(h:a≠b):(a==b)=false:=by simp[h]
structure ItemAt (w:World)(b o:Nat)(x:S.Item):Prop where
 c0:w.cell? ⟨b,o,none⟩=some (.int .i64 x.kind)
 c1:w.cell? ⟨b,o+1,none⟩=some (.int .i64 x.inst.op)
 c2:w.cell? ⟨b,o+2,none⟩=some (.int .i64 x.inst.d)
 c3:w.cell? ⟨b,o+3,none⟩=some (.int .i64 x.inst.a)
 c4:w.cell? ⟨b,o+4,none⟩=some (.int .i64 x.inst.b)
 c5:w.cell? ⟨b,o+5,none⟩=some (.int .i64 x.inst.imm)
 c6:w.cell? ⟨b,o+6,none⟩=some (.string x.label)
 c7:w.cell? ⟨b,o+7,none⟩=some (.int .u32 x.word)
 w0:0<=x.word
 w1:x.word<=4294967295
def Items (w:World)(B:Nat)(A:Option Addr)(xs:List S.Item):Prop :=
 0<xs.length->∃b off,A=some ⟨b,off,none⟩/\b<B/\∀i x,xs[i]?=some x->ItemAt w b (off+i*8) x
theorem ItemAt.keep {w w':World}{b o:Nat}{x:S.Item}(h:ItemAt w b o x)(a:∀o,w'.cell? ⟨b,o,none⟩=w.cell? ⟨b,o,none⟩):ItemAt w' b o x :=
 ⟨(a _).trans h.c0,(a _).trans h.c1,(a _).trans h.c2,(a _).trans h.c3,(a _).trans h.c4,(a _).trans h.c5,(a _).trans h.c6,(a _).trans h.c7,h.w0,h.w1⟩
theorem Items.below {w w':World}{B:Nat}{A:Option Addr}{xs:List S.Item}(h:Items w B A xs)(c:Below B w w'):Items w' B A xs:=λ hp=>by
 obtain⟨b,off,e,a,d⟩:=h hp;exact⟨b,off,e,a,λ i x f=>(d i x f).keep λ o=>c.cell (p:=⟨b,o,none⟩) a⟩
theorem Items.words {w:World}{B:Nat}{A:Option Addr}{xs:List S.Item}(h:Items w B A xs):∀x∈xs,0<=x.word/\x.word<=4294967295:=λ x d=>by
 obtain⟨i,hi,rfl⟩:=Ycl d;obtain⟨b,off,e,c,a⟩:=h (by omega);have:=a i _ (Yf hi);exact⟨this.w0,this.w1⟩
theorem Items.more {w:World}{B B':Nat}{A:Option Addr}{xs:List S.Item}(h:Items w B A xs)(c:B<=B'):Items w B' A xs:=λ hp=>by
 obtain⟨b,off,e,a,d⟩:=h hp;exact⟨b,off,e,Y3 a c,d⟩
theorem Items.at_ {w:World}{B:Nat}{A:Option Addr}{xs:List S.Item}(h:Items w B A xs){k:Nat}(c:k<xs.length) :
 ∃b off x,A=some ⟨b,off,none⟩/\b<B/\xs[k]?=some x/\ItemAt w b (off+k*8) x:=by
 obtain⟨b,off,e,a,d⟩:=h (by omega);exact⟨b,off,xs[k],e,a,Yf c,d k _ (Yf c)⟩
def Zd (x:S.Item):List Value:=[.int .i64 x.kind,.int .i64 x.inst.op,.int .i64 x.inst.d,.int .i64 x.inst.a,.int .i64 x.inst.b,.int .i64 x.inst.imm,.string x.label,.int .u32 x.word]
theorem Zjd (L:List S.Item)(i:Nat)(x:S.Item)(h:L[i]?=some x)(j:Nat)(hj:j<8):(L.flatMap Zd)[i*8+j]?=(Zd x)[j]?:=by
 induction L generalizing i with
 | nil=>simp at h
 | cons q L ih =>
  cases i with
  | zero =>
   simp only[Ya5,Option.some.injEq] at h;subst h;rw[Ybf,List.getElem?_append_left (by simp[Zd];omega)];simp
  | succ i =>
   have h1:=ih i (by simpa using h);have a:(i+1)*8+j=(Zd q).length+(i*8+j):=by simp[Zd];omega
   rw[Ybf,a,List.getElem?_append_right (by omega),Nat.add_sub_cancel_left];exact h1
theorem Zek (xs:List S.Item):(xs.flatMap Zd).length=xs.length*8:=by
 induction xs with
 | nil=>rfl
 | cons x r ih=>rw[Ybf,List.length_append,ih];simp[Zd];omega
theorem Items.reads {w:World}{B:Nat}{A:Option Addr}{xs:List S.Item}(h:Items w B A xs):Reads w B A (xs.flatMap Zd):=λ hp=>by
 rw[Zek] at hp;obtain⟨b,off,e,f,l⟩:=h (by omega);refine⟨b,off,e,f,λ i v c=>?_⟩;have a:=(Yg.1 c).1;rw[Zek] at a;have g:i/8<xs.length:=by omega
 have d:xs[i/8]?=some xs[i/8]:=Yf g;have k:i/8*8+i%8=i:=by omega
 have h1:=Zjd xs (i/8) _ d (i%8) (by omega);rw[k,c] at h1;obtain⟨h0,j,h2,h3,h4,h5,h6,h7,_,_⟩:=l (i/8) _ d;have m:i%8=0\/i%8=1\/i%8=2\/i%8=3\/i%8=4\/i%8=5\/i%8=6\/i%8=7:=by omega
 have n:off+i=off+i/8*8+i%8:=by omega
 rw[n];rcases m with r|r|r|r|r|r|r|r
 all_goals
  rw[r] at h1⊢;simp only[Zd,Ya5,List.getElem?_cons_succ] at h1
  cases h1
  assumption
theorem Zof (xs:List S.Item):∀u∈xs.flatMap Zd,u.oneCell'=true:=by
 intro u b;obtain⟨x,_,a⟩:=List.mem_flatMap.1 b;simp only[Zd,List.mem_cons,List.not_mem_nil,or_false] at a;rcases a with rfl|rfl|rfl|rfl|rfl|rfl|rfl|rfl <;> rfl
theorem Items.of_own {w:World}{base:Nat}{e:TypeId}{A:Option Addr}{m c n:Nat}{xs:List S.Item}(h:w.ownsRow base e 8 (.slice A m c) n (xs.flatMap Zd))(l:∀x∈xs,0<=x.word/\x.word<=4294967295):Items w w.heap.size A xs:=λ hp=>by
 have o:(xs.flatMap Zd).length=n*8:=h.1;rw[Zek] at o;obtain⟨g,rfl,_,b,_,d,_⟩:=Z9 h (by omega);refine⟨g,0,rfl,b,λ i x f=>?_⟩;have hi:=(Yg.1 f).1;have a:∀j,j<8->w.cell? ⟨g,0+i*8+j,none⟩=(Zd x)[j]?:=by
  intro j k;rw[Yac,d _ (by omega),Zjd xs i x f j k]
 obtain⟨w0,w1⟩:=l x (Y0 f);exact⟨a 0 (by omega),a 1 (by omega),a 2 (by omega),a 3 (by omega),a 4 (by omega),a 5 (by omega),a 6 (by omega),a 7 (by omega),w0,w1⟩
theorem Zbb:(prog.info? 3).map (λ i=>(i.zero,i.size,i.bytes))=some (some (.int .i64 0),1,8):=by kernel_rfl
def Ints (w:World)(B:Nat)(A:Option Addr)(xs:List Int):Prop :=
 0<xs.length->∃b off,A=some ⟨b,off,none⟩/\b<B/\∀i x,xs[i]?=some x->w.cell? ⟨b,off+i,none⟩=some (.int .i64 x)
theorem Ints.below {w w':World}{B:Nat}{A:Option Addr}{xs:List Int}(h:Ints w B A xs)(c:Below B w w'):Ints w' B A xs:=λ hp=>by
 obtain⟨b,off,e,a,d⟩:=h hp;exact⟨b,off,e,a,λ i x f=>(c.cell (p:=⟨b,off+i,none⟩) a).trans (d i x f)⟩
theorem Ints.more {w:World}{B B':Nat}{A:Option Addr}{xs:List Int}(h:Ints w B A xs)(c:B<=B'):Ints w B' A xs:=λ hp=>by
 obtain⟨b,off,e,a,d⟩:=h hp;exact⟨b,off,e,Y3 a c,d⟩
theorem Ints.at_ {w:World}{B:Nat}{A:Option Addr}{xs:List Int}(h:Ints w B A xs){k:Nat}(d:k<xs.length) :
 ∃b off,A=some ⟨b,off,none⟩/\b<B/\w.cell? ⟨b,off+k,none⟩=some (.int .i64 (xs.getD k 0)):=by
 obtain⟨b,off,e,a,c⟩:=h (by omega);refine⟨b,off,e,a,c k _ ?_⟩;simp[d]
theorem Ints.two {w:World}{B:Nat}{A:Option Addr}{xs:List Int}(h:Ints w B A xs)(hp:0<xs.length) :
 ∃b off,A=some ⟨b,off,none⟩/\b<B/\∀i x,xs[i]?=some x->w.cell? ⟨b,off+i,none⟩=some (.int .i64 x):=h hp
theorem Ints.of_own {w:World}{base:Nat}{e:TypeId}{A:Option Addr}{m c n:Nat}{xs:List Int}(h:w.ownsRow base e 1 (.slice A m c) n (xs.map (Value.int .i64))):Ints w w.heap.size A xs:=λ hp=>by
 have hl:xs.length=n:=by have:=h.1;simpa using this
 obtain⟨g,rfl,j,a,f,b,_⟩:=Z9 h (by omega);refine⟨g,0,rfl,a,λ i x d=>?_⟩;have hi:=(Yg.1 d).1;have h1:=b i (by omega);rw[Yac,h1,List.getElem?_map,d];rfl
theorem Zaz:(prog.info? 135).map (λ i=>(i.zero,i.size,i.bytes))=some (some (.agg #[.int .i64 0,.int .i64 0,.int .i64 0,.int .i64 0,.int .i64 0,.int .i64 0,.string ByteArray.empty,.int .u32 0]),8,72):=by kernel_rfl
structure Z5h (w:World)(B b o:Nat)(x:S.Obj):Prop where
 c0:w.cell? ⟨b,o,none⟩=some (.string x.name)
 c1:∃A c,w.cell? ⟨b,o+1,none⟩=some (.slice A x.items.length c)/\Items w B A x.items
 nm:x.name.size<=maxLen
 lab:∀y∈x.items,y.label.size<=maxLen
def Objs (w:World)(B:Nat)(A:Option Addr)(os:List S.Obj):Prop :=
 0<os.length->∃b off,A=some ⟨b,off,none⟩/\b<B/\∀i x,os[i]?=some x->Z5h w B b (off+i*2) x
theorem Objs.below {w w':World}{B:Nat}{A:Option Addr}{os:List S.Obj}(h:Objs w B A os)(c:Below B w w'):Objs w' B A os:=λ hp=>by
 obtain⟨b,off,e,a,g⟩:=h hp;refine⟨b,off,e,a,λ i x k=>?_⟩;obtain⟨h0,⟨j,f,h1,h2⟩,h3,d⟩:=g i x k;exact⟨(c.cell (p:=⟨b,_,none⟩) a).trans h0,⟨j,f,(c.cell (p:=⟨b,_,none⟩) a).trans h1,h2.below c⟩,h3,d⟩
theorem Objs.more {w:World}{B B':Nat}{A:Option Addr}{os:List S.Obj}(h:Objs w B A os)(a:B<=B'):Objs w B' A os:=λ hp=>by
 obtain⟨b,off,e,g,f⟩:=h hp;refine⟨b,off,e,by omega,λ i x k=>?_⟩;obtain⟨h0,⟨j,d,h1,h2⟩,h3,c⟩:=f i x k;exact⟨h0,⟨j,d,h1,h2.more a⟩,h3,c⟩
theorem Objs.at_ {w:World}{B:Nat}{A:Option Addr}{os:List S.Obj}(h:Objs w B A os){k:Nat}(c:k<os.length) :
 ∃b off x,A=some ⟨b,off,none⟩/\b<B/\os[k]?=some x/\Z5h w B b (off+k*2) x:=by
 obtain⟨b,off,e,a,d⟩:=h (by omega);exact⟨b,off,os[k],e,a,Yf c,d k _ (Yf c)⟩
def seen (os:List S.Obj)(k:Nat)(s:ByteArray):Option Int:=if ∃j:Nat,j<k/\∃x:S.Obj,os[j]?=some x/\x.name=s then some 1 else none
def Zd4 (os:List S.Obj)(k:Nat):Int:=if ∃j:Nat,j<k/\∃x:S.Obj,os[j]?=some x/\badN x=true then 2 else 0
def Zzs (os:List S.Obj)(k:Nat):Prop:=∀i j:Nat,∀a b:S.Obj,i<k->j<i->os[i]?=some a->os[j]?=some b->a.name≠b.name
theorem Zvw (os:List S.Obj):seen os 0=λ _=>none:=by
 funext s
 unfold seen;rw[if_neg];rintro⟨j,hj,_⟩;omega
theorem Zvx {os:List S.Obj}{k:Nat}{x:S.Obj}(a:os[k]?=some x):seen os (k+1)=λ t=>if t=x.name then some 1 else seen os k t:=by
 funext t
 unfold seen;by_cases c:t=x.name
 .rw[if_pos c,if_pos ⟨k,by omega,x,a,c.symm⟩]
 .rw[if_neg c]
  congr 1
  rw[eq_iff_iff]
  constructor
  .rintro⟨j,hj,y,hy,e⟩
   by_cases h:j=k
   .subst h
    rw[a] at hy
    cases hy
    exact absurd e.symm c
   .exact⟨j,by omega,y,hy,e⟩
  .rintro⟨j,hj,y,hy,e⟩
   exact⟨j,by omega,y,hy,e⟩
theorem Zvy {os:List S.Obj}{k:Nat}{x:S.Obj}(m:os[k]?=some x)(c:seen os k x.name=none)(l:Zzs os k):Zzs os (k+1):=by
 intro i j a b hi f d g e;by_cases h:i=k
 .subst h
  rw[m] at d
  cases d
  unfold seen at c;rw[if_pos ⟨j,f,b,g,e.symm⟩] at c
  cases c
 .exact l i j a b (by omega) f d g e
theorem Zvz {os:List S.Obj}{k:Nat}{x:S.Obj}(d:os[k]?=some x){v:Int}(a:seen os k x.name=some v):v=1/\DupN os:=by
 unfold seen at a
 split at a
 .rename_i h
  obtain⟨j,b,y,c,e⟩:=h;exact⟨by cases a;rfl,k,j,x,y,b,d,c,e.symm⟩
 .cases a
theorem Zqg (os:List S.Obj):Zd4 os 0=0:=by
 unfold Zd4;rw[if_neg];rintro⟨j,hj,_⟩;omega
theorem Zqh {os:List S.Obj}{k:Nat}{x:S.Obj}(a:os[k]?=some x):Zd4 os (k+1)=if badN x=true then 2 else Zd4 os k:=by
 unfold Zd4;by_cases c:badN x=true
 .rw[if_pos c,if_pos ⟨k,by omega,x,a,c⟩]
 .rw[if_neg c]
  congr 1
  rw[eq_iff_iff]
  constructor
  .rintro⟨j,hj,y,hy,e⟩
   by_cases h:j=k
   .subst h
    rw[a] at hy
    cases hy
    exact absurd e c
   .exact⟨j,by omega,y,hy,e⟩
  .rintro⟨j,hj,y,hy,e⟩
   exact⟨j,by omega,y,hy,e⟩
theorem Zv0 {os:List S.Obj}(k:Zzs os os.length):NamesRes os (Zd4 os os.length):=by
 have d:¬DupN os:=by
  rintro⟨i,j,a,b,f,g,c,e⟩;exact k i j a b (Yg.1 g).1 f g c e
 unfold Zd4
 split
 .rename_i h
  obtain⟨j,_,x,m,c⟩:=h;exact .inr (.inl ⟨d,⟨x,Y0 m,c⟩,rfl⟩)
 .rename_i h
  refine .inr (.inr ⟨d,λ o l=>?_,rfl⟩);obtain⟨j,f,rfl⟩:=Ycl l;rw[Bool.eq_false_iff];intro c;exact h ⟨j,f,_,Yf f,c⟩
theorem Zzt {n:Int}(h:-9223372036854775808<=n/\n<=9223372036854775807):(Lit.int .i64 n).wf=true:=by
 simp[Lit.wf,IntKind.min,IntKind.max,IntKind.signed,IntKind.bits];omega
theorem Zdt {w w':World}{m b:Nat}(hg:w.grownBy w' (some m))(c:b<w.heap.size)(a:b≠m)(j:Nat):w'.cell? ⟨b,j,none⟩=w.cell? ⟨b,j,none⟩:=by
 simp only[World.cell?,hg.block b c (by simpa using a)]
theorem Zc7 (w:World)(cs:Array Value)(t:TypeId):(w.alloc (.cells cs t)).heap[w.heap.size]?=some (.cells cs t (0,0))/\Below w.heap.size w (w.alloc (.cells cs t))/\(w.alloc (.cells cs t)).heap.size=w.heap.size+1 :=
 ⟨heap_alloc_new _ _,(Yh _ _).alloc (Yb _) _,by simp⟩
theorem Zca {ops:Array Oper}{rest:List Oper}{o:Oper}{a:Act}{Q:Exit->Act->World->Prop}{w:World}(hg:o.guard=none)(g:o.dst=none)(b x v:Operand)(c:o.op=Op.mapUpdate 207 b x v)
 (m n:Nat) (f:ByteArray->Option Int) (hm:a.eval b=.map (some m)) (h:MapS w m n f) (d:n<1152921504606846976) (s:ByteArray) (q:Int) (l:a.eval x=.string s) (j:a.eval v=.int .i64 q) (i:s.size<=maxLen) (e:(Lit.int .i64 q).wf=true)
 (k:∀w',MapS w' m (if (f s).isSome then n else n+1) (λ t=>if t=s then some q else f t)->w.grownBy w' (some m)->wpList prog ops Q rest a w'):wpList prog ops Q (o::rest) a w:=by
 refine Zf8 hg b x v c m n f hm h d s q l j i e ?_;intro w' h1 h2;rw[g];exact k w' h1 h2
def Zv1 (os:List S.Obj)(w:World)(e:Ending)(w':World):Prop:=∃r,e=.returned (.int .i64 r)/\NamesRes os r/\Below w.heap.size w w'
theorem Zog (A:Option Addr)(c:Nat)(os:List S.Obj)(w:World)(hi:Objs w w.heap.size A os)(hl:os.length<=1048576) :
 Calls prog 121 #[.slice A os.length c] w (Zv1 os w):=by
 have Y:=@run_makeMap prog;go_enter func121,ntmps121
 go_wp2_with fail
 go_loopw [4,10] (λ ev i wr=>∃k:Nat,k<=os.length/\i=.int .i64 k/\ev=.int .i64 (Zd4 os k)/\MapS wr w.heap.size k (seen os k)/\Zzs os k/\Below w.heap.size w wr) (λ _ i _=>os.length-(intOf i).toNat)
 case atStart=>exact⟨0,by omega,rfl,by rw[Zqg],by rw[Zvw];exact MapS.made w,λ i j a b h=>by omega,(Yh _ _).alloc (Yb _) _⟩
 case round =>
  obtain⟨k,hk,rfl,rfl,P,N,z⟩:=hrel;have V:=P.lt;by_cases T:k<os.length
  .obtain⟨b,off,x,rfl,hb,hx,hc0,⟨Ai,ci,hc1,hI⟩,hn,_⟩:=(hi.below z).at_ T
   have O:=Ya hx;have X:=Ya N;clear hx N;obtain⟨nm,K⟩:=x;simp only at hc0 hc1 hn;have Z:b<wr.heap.size:=by omega
   obtain⟨U,R,W⟩:=Zc7 wr #[.string nm,.slice Ai K.length ci] 105;go_upto_region 6 with fail
   generalize wr.alloc (.cells #[.string nm,.slice Ai K.length ci] 105)=wX at *;have r:wX.cell? ⟨wr.heap.size,0,none⟩=some (.string nm):=by simp[World.cell?,U]
   have p:=P.below R;have s:=z.trans (R.mono (by omega));have q:wr.heap.size<wX.heap.size:=by omega
   have F:=p.look hn;clear U R W P hc0 hc1
   cases hs:seen os k nm with
   | some v =>
    obtain⟨rfl,t⟩:=Zvz O.out hs;have J:(seen os k nm).getD 0=1:=by rw[hs];rfl
    rw[J] at F;have M:=Ya hs;have L:=Ya t;clear hs t J;go_wp2_with (at_mapUpdate;refine Zca rfl rfl (.tmp 14) (.tmp 16) (.tmp 18) rfl w.heap.size k _ rfl p (by omega) nm 2 rfl rfl hn (Zzt (by omega)) ?_;intro g f d;have n:=f.look hn;have B:g.cell? ⟨wr.heap.size,0,none⟩=some (.string nm):=(Zdt d q (by omega) 0).trans r)
    go_ret
    exact⟨14,rfl,.inl ⟨L.out,rfl⟩,Zb1 s d (by omega) (λ _ h=>by cases h;exact Yb _)⟩
   | none =>
    have J:(seen os k nm).getD 0=0:=by rw[hs];rfl
    rw[J] at F;have H:=Zvy O.out hs X.out;have E:=Ya H;have M:=Ya hs;have C:=Ya (Zqh O.out);have D:=Ya (Zvx O.out);clear hs H J;have y:nm.toList=[]\/(nm.toList≠[]/\ownB nm=true)\/(nm.toList≠[]/\ownB nm=false):=by
     by_cases c1:nm.toList=[]
     .exact .inl c1
     .cases c2:ownB nm
      .exact .inr (.inr ⟨c1,rfl⟩)
      .exact .inr (.inl ⟨c1,rfl⟩)
    have G:=Ya y;clear y;rcases G.out with h0|⟨h0,h1⟩|⟨h0,h1⟩
    .skip
     go_wp2_with (at_mapUpdate;refine Zca rfl rfl (.tmp 14) (.tmp 16) (.tmp 18) rfl w.heap.size k _ rfl p (by omega) nm 1 rfl rfl hn (Zzt (by omega)) ?_;intro g f d;have n:=f.look hn;have B:g.cell? ⟨wr.heap.size,0,none⟩=some (.string nm):=(Zdt d q (by omega) 0).trans r)
     have l:MapS g w.heap.size (k+1) (seen os (k+1)):=by
      rw[D.out];have h:=f;rw[M.out] at h;exact h
     have m:Below w.heap.size w g:=Zb1 s d (by omega) (λ _ h=>by cases h;exact Yb _);have o:Zd4 os (k+1)=2:=by
      rw[C.out,if_pos (by simp[badN,<- ByteArray.toList_eq,h0])]
     exact⟨⟨k+1,by omega,by go_num,by rw[o],l,E.out,m⟩,by simp[intOf];omega⟩
    .have hE:(nm.toList==[])=false:=by simpa using h0
     have Q:nm.toList.isEmpty=false:=by simpa using h0
     go_wp2_with (at_mapUpdate;refine Zca rfl rfl (.tmp 14) (.tmp 16) (.tmp 18) rfl w.heap.size k _ rfl p (by omega) nm 1 rfl rfl hn (Zzt (by omega)) ?_;intro g f d;have n:=f.look hn;have B:g.cell? ⟨wr.heap.size,0,none⟩=some (.string nm):=(Zdt d q (by omega) 0).trans r)
     refine(Zak _ _ hn).mono ?_;rintro e w' ⟨rfl,rfl⟩;go_wp2_with fail
     have l:MapS g w.heap.size (k+1) (seen os (k+1)):=by
      rw[D.out];have h:=f;rw[M.out] at h;exact h
     have m:Below w.heap.size w g:=Zb1 s d (by omega) (λ _ h=>by cases h;exact Yb _);have o:Zd4 os (k+1)=2:=by
      rw[C.out,if_pos (by simp[badN,<- ByteArray.toList_eq,h0,h1])]
     exact⟨⟨k+1,by omega,by go_num,by rw[o],l,E.out,m⟩,by simp[intOf];omega⟩
    .have hE:(nm.toList==[])=false:=by simpa using h0
     have Q:nm.toList.isEmpty=false:=by simpa using h0
     go_wp2_with (at_mapUpdate;refine Zca rfl rfl (.tmp 14) (.tmp 16) (.tmp 18) rfl w.heap.size k _ rfl p (by omega) nm 1 rfl rfl hn (Zzt (by omega)) ?_;intro g f d;have n:=f.look hn;have B:g.cell? ⟨wr.heap.size,0,none⟩=some (.string nm):=(Zdt d q (by omega) 0).trans r)
     refine(Zak _ _ hn).mono ?_;rintro e w' ⟨rfl,rfl⟩;go_wp2_with fail
     have l:MapS g w.heap.size (k+1) (seen os (k+1)):=by
      rw[D.out];have h:=f;rw[M.out] at h;exact h
     have m:Below w.heap.size w g:=Zb1 s d (by omega) (λ _ h=>by cases h;exact Yb _);have o:Zd4 os (k+1)=Zd4 os k:=by
      rw[C.out,if_neg (by simp[badN,<- ByteArray.toList_eq,h0,h1])]
     exact⟨⟨k+1,by omega,by go_num,by rw[o],l,E.out,m⟩,by simp[intOf];omega⟩
  .have hke:k=os.length:=by omega
   subst hke;have u:=Zv0 N;have I:=Ya u;clear u N;go_wp2_with fail
   go_ret
   exact⟨_,rfl,I.out,z⟩
