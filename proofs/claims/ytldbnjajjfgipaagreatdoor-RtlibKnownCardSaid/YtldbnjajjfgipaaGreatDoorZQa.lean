/- Parts. -/
import Derived.Test.YtldbnjajjfgipaaGreatDoorZLinkS
import Derived.Maps.OwnOps
import Derived.Maps.OwnSet
import Derived.WideShapes
import Derived.Deep.MidRow
import Derived.Deep.LoopGhost
set_option linter.all false
open List renaming length_append->Yc,getElem?_eq_getElem->Ye,getElem?_eq_some_iff->Yg,length_cons->Yk,getElem?_append_left->Ym,getElem?_append_right->Yn,mem_cons->Yu,not_mem_nil->Yy,mem_of_getElem?->Y2,mem_cons_self->Y4,mem_cons_of_mem->Y5,getElem?_cons_zero->Yao,flatMap_cons->Yat,any_eq_true->Ybf
open Nat renaming le_refl->Yd,lt_of_lt_of_le->Yr,zero_add->Yw,add_zero->Ybb
open Bool renaming and_eq_true->Yq,or_eq_true->Ybp
open Go.Region renaming waitsFor->Yba,binds->Ybh
namespace Go.Proofs.YtldbnjajjfgipaaGreatDoor
open S Go.Proofs.Tryz Go.RowKit
theorem Zlr {P:Program}{ops:Array Oper}{rest:List Oper}{o:Oper}{a:Act}{Q:Exit->Act->World->Prop}{w:World}
 (hg:o.guard=none) (l c:Operand) (t:TypeId) (hop:o.op=Op.makeSlice t l c)
 (base:Nat) (e:TypeId) {z:Value} {bytes:Nat} (hinfo:(P.info? e).map (λ i=>(i.zero,i.size,i.bytes))=some (some z,1,bytes)) (h1:P.underlying t=some (.slice e)) (hz:z.cells=#[z])
 (kl kc:IntKind) (L C:Int) (n:Nat) (hl:a.eval l=.int kl L) (hc:a.eval c=.int kc C) (hL:L=(n:Int)) (hC:C=(n:Int)) (b2:bytes*n<=281474976710656) (b3:n<=maxLen) (b4:base<=w.heap.size)
 (hK:∀w',w'.ownsRow base e 1 (.slice (some ⟨w.heap.size,0,none⟩) n n) n (List.replicate n z)->Below w.heap.size w w'->wpList P ops Q rest (a.put o.dst (.slice (some ⟨w.heap.size,0,none⟩) n n)) w') :
 wpList P ops Q (o::rest) a w:=by
 obtain⟨i,hi,hzz,hsize,hby⟩:=info_parts hinfo;refine wpList_make_full w hg l c t hop base e i z 1 h1 hi hzz hsize kl kc L C n hl hc hL hC (by rw[hby];exact b2) b3 b4 λ w' ho hgr=>hK w' ?_ ((Below.refl _ _).grown hgr (Yd _) (by simp))
 rw[hz,Nat.mul_one,toList_madeCells_one] at ho;exact ho
theorem Znf {w:World}{base base':Nat}{e e':TypeId}{size size' n n':Nat}{v v':Value}{xs xs':List Value}(h:w.ownsRow base e size v n xs)(h':w.ownsRow base' e' size' v' n' xs')(hne:e≠e') :
 v.ownBlock=none\/v.ownBlock≠v'.ownBlock:=by
 rcases h.2 with⟨rfl,_⟩|⟨g,cap,cur,rfl,_,hg,_⟩
 .exact .inl rfl
 .right
  rcases h'.2 with⟨rfl,_⟩|⟨g',cap',cur',rfl,_,hg',_⟩
  .simp[Value.ownBlock]
  .intro he
   have:g=g':=by simpa[Value.ownBlock] using he
   subst this;rw[hg] at hg'
   injection hg' with hg'
   injection hg' with _ ht
   exact hne ht
theorem Zau {w w':World}{base base':Nat}{e e':TypeId}{size size' n n':Nat}{v v':Value}{xs xs':List Value}(h:w.ownsRow base e size v n xs)(h':w.ownsRow base' e' size' v' n' xs')(hne:e≠e')
 (hg:w.grownBy w' v'.ownBlock):w'.ownsRow base e size v n xs:=h.kept hg (Znf h h' hne)
theorem Zbs {w:World}{base:Nat}{e:TypeId}{size:Nat}{A:Option Addr}{m c n:Nat}{xs:List Value}(h:w.ownsRow base e size (.slice A m c) n xs)(hA:A=none):m=0:=by
 subst hA;rcases h.2 with⟨h1,_⟩|⟨g,cap,cur,h1,_⟩
 .simp only[Value.slice.injEq] at h1;exact h1.2.1
 .simp at h1
theorem Zka:Maps.Keyed prog 9:=Maps.string_keyed underlying9
theorem Zls (w:World):(zeroValue 3).run prog w=.ok (.int .i64 0) w:=by kernel_rfl
abbrev Zul (s:ByteArray):Lit:=.string s.data.toList
theorem Zv6 {a b:ByteArray}(h:Zul a=Zul b):a=b:=by
 simp only[Zul,Lit.string.injEq] at h;exact WideShapes.bytes_inj h
theorem Zng (s:ByteArray):WideAt.IsKeyLit (Zul s):=by first|trivial|simp[WideAt.IsKeyLit,Zul]
def MapS (w:World)(m n:Nat)(f:ByteArray->Option Int):Prop :=
 ∃D:DataW Unit,w.ownsMap prog 9 (plainElem prog 3) m (Maps.size D) D/\Maps.Tidy D/\Maps.size D<=n /\
  ∀s,Maps.has D (Zul s)=(f s).isSome/\D.atKey (Zul s) (.lit (.int .i64 0))=.lit (.int .i64 ((f s).getD 0))
theorem Zkb {w:World}{m n:Nat}{D:DataW Unit}(h:w.ownsMap prog 9 (plainElem prog 3) m n D):w.ownsMap prog 9 (plainElem prog 3) m (Maps.size D) D:=by
 obtain⟨es,clock,hb,F,hs,rfl⟩:=h;refine⟨es,clock,hb,F,?_,rfl⟩;rw[Maps.size_eq,length_sorted];simp
theorem MapS.made (w:World):MapS (w.alloc (.map #[] 0)) w.heap.size 0 (λ _=>none) :=
 ⟨.map [],World.ownsMap_made w _ _ _,Maps.tidy_empty,Yd _,λ s=>⟨rfl,rfl⟩⟩
theorem MapS.lt {w:World}{m n:Nat}{f:ByteArray->Option Int}(h:MapS w m n f):m<w.heap.size:=by
 obtain⟨D,h1,_⟩:=h;exact h1.lt
theorem MapS.kept {w w':World}{m n:Nat}{f:ByteArray->Option Int}{row:Option Nat}(h:MapS w m n f)(hg:w.grownBy w' row)(hne:some m≠row):MapS w' m n f:=by
 obtain⟨D,h1,h2⟩:=h;exact⟨D,h1.kept hg hne,h2⟩
theorem MapS.below {w w':World}{m n:Nat}{f:ByteArray->Option Int}(h:MapS w m n f)(hb:Below w.heap.size w w'):MapS w' m n f :=
 h.kept (row:=none) ⟨hb.os,hb.tape,hb.output,hb.size,λ k hk _=>hb.block k hk⟩ (by simp)
theorem MapS.mono {w:World}{m n n':Nat}{f:ByteArray->Option Int}(h:MapS w m n f)(hn:n<=n'):MapS w m n' f:=by
 obtain⟨D,h1,h2,h3,h4⟩:=h;exact⟨D,h1,h2,Nat.le_trans h3 hn,h4⟩
theorem MapS.look {w:World}{m n:Nat}{f:ByteArray->Option Int}(h:MapS w m n f){s:ByteArray}(hs:s.size<=maxLen) :
 (Instr.lookup 207 (.map (some m)) (.string s) false).run prog w=.ok (.int .i64 ((f s).getD 0)) w:=by
 obtain⟨D,h1,_,_,h4⟩:=h;obtain⟨c,hrun,hat,_⟩:=h1.lookup_int Zka underlying207 underlying3 (Zls w) (WideMaps.keyOf_string_mk underlying9 hs);rw[(h4 s).2] at hat;simp only[DataW.lit.injEq,Lit.int.injEq,true_and] at hat;rw[hrun,hat]
theorem MapS.lookOk {w:World}{m n:Nat}{f:ByteArray->Option Int}(h:MapS w m n f){s:ByteArray}(hs:s.size<=maxLen) :
 (Instr.lookup 207 (.map (some m)) (.string s) true).run prog w=.ok (.tuple #[.int .i64 ((f s).getD 0),.bool (f s).isSome]) w:=by
 obtain⟨D,h1,_,_,h4⟩:=h;obtain⟨v,ps,hrun,hv⟩:=h1.look_ok Zka underlying207 (Zls w) (zd:=.lit (.int .i64 0)) (zp:=[]) (plainElem_int underlying3 (by decide)) (WideMaps.keyOf_string_mk underlying9 hs);obtain⟨c,rfl,hc,_⟩:=plainElem_int_inv underlying3 hv;have hat:=congrArg Prod.fst hc;simp only[(h4 s).2] at hat;simp only[DataW.lit.injEq,Lit.int.injEq,true_and] at hat;rw[hrun,(h4 s).1,hat]
theorem Zes {ops:Array Oper}{rest:List Oper}{o:Oper}{a:Act}{Q:Exit->Act->World->Prop}{w:World}(hg:o.guard=none)(mo x v:Operand)(hop:o.op=Op.mapUpdate 207 mo x v)
 (m n:Nat) (f:ByteArray->Option Int) (hm:a.eval mo=.map (some m)) (h:MapS w m n f) (hn:n<1152921504606846976) (s:ByteArray) (q:Int) (hx:a.eval x=.string s) (hv:a.eval v=.int .i64 q) (hs:s.size<=maxLen) (hq:(Lit.int .i64 q).wf=true)
 (hK:∀w',MapS w' m (if (f s).isSome then n else n+1) (λ t=>if t=s then some q else f t)->w.grownBy w' (some m)->wpList prog ops Q rest (a.put o.dst undef) w'):wpList prog ops Q (o::rest) a w:=by
 obtain⟨D,h1,h2,h3,h4⟩:=h;refine wpList_mapUpdate_own w hg mo x v _ hop _ _ Zka underlying207 (plainElem prog 3) m _ D hm h1 (by simp only[maxLen];omega) _ _ (Zul s) hx hv (WideMaps.keyOf_string_mk underlying9 hs) (.lit (.int .i64 q)) [] (plainElem_int underlying3 hq) ?_;intro w' ho hgr;refine hK w' ⟨_,Zkb ho,h2.put (Zng s) _,?_,λ t=>?_⟩ hgr
 .rw[Maps.size_put h2,(h4 s).1]
  split <;> simp_all
 .by_cases e:t=s
  .subst e
   simp only[if_pos rfl];exact⟨Maps.has_put_same h2.isMap (Zng _) _,Maps.atKey_put_same h2.isMap (Zng _) _ _⟩
  .have hne:Zul t≠Zul s:=λ h=>e (Zv6 h)
   simp only[if_neg e];rw[Maps.has_put_other hne,Maps.atKey_put_other hne];exact h4 t
theorem Zbx {w w1:World}(h:∃x:Ext w,w1=x.val):Below w.heap.size w w1:=by
 obtain⟨x,rfl⟩:=h;exact x.property
theorem Zi {P:Program}{o:Oper}{a:Act}{K:Act->World->Prop}{Q:Exit->Act->World->Prop}{w:World}(s x:Operand)(t:TypeId)
 (ho:o.op=.call { callee:=.builtin .append,args:=#[s,x],argTypes:=#[t,t] })
 (base:Nat) (e:TypeId) {z:Value} {size bytes:Nat} (hinfo:(P.info? e).map (λ i=>(i.zero,i.size,i.bytes))=some (some z,size,bytes)) (ht:P.underlying t=some (.slice e))
 (hzs:z.cells.size=size) (hsz:0<size) (v:Value) (n:Nat) (xs:List Value) (hs:a.eval s=v) (hown:w.ownsRow base e size v n xs)
 (B:Nat) (A:Option Addr) (m c:Nat) (news:List Value) (hx:a.eval x=.slice A m c) (hm:news.length=m*size) (hA:A=none->m=0) (hr:Reads w B A news) (h1:∀u∈news,u.oneCell'=true)
 (h63:n+m<=maxLen) (hbytes:(n+m)*bytes<=140737488355328) (hbase:base<=w.heap.size)
 (h:∀v' w',w'.ownsRow base e size v' (n+m) (xs++news)->w.grownBy w' v.ownBlock->Below base w w'->(v'.ownBlock=v.ownBlock\/v'.ownBlock=some w.heap.size)->K (a.put o.dst v') w') :
 o.wp P a w K Q:=by
 obtain⟨i,hi,hz,hsize,hby⟩:=info_parts hinfo;have hfin:∃v' w',(Builtin.append_ #[t,t] o.type #[v,.slice A m c]).run P w=.ok v' w'/\w'.ownsRow base e size v' (n+m) (xs++news)/\w.grownBy w' v.ownBlock/\(v'.ownBlock=v.ownBlock\/v'.ownBlock=some w.heap.size):=by
  rcases A with _|ad
  .have h0:=hA rfl
   subst h0;have hn:news=[]:=List.eq_nil_of_length_eq_zero (by rw[hm];simp);subst hn;exact⟨v,w,Zbl w base t _ e i size ht hi v n xs hown c,by simpa using hown,World.grownBy.refl w _,.inl rfl⟩
  .have hcells:∀j u,news[j]?=some u->w.cell? (ad.add j)=some u:=by
    intro j u hu;have hlt:=(Yg.1 hu).1;obtain⟨b,off,he,hbB,hc⟩:=hr (by omega)
    cases he
    rw[Addr.add_mk];exact hc j u hu
   obtain⟨v',w',hrun,h2,h3,_,h5⟩:=run_append_own_at (P:=P) w base t o.type e i z size bytes ht hi hz hsize hby hzs hsz v n xs hown ad m c news hm hcells h1 h63 hbytes hbase;exact⟨v',w',hrun,h2,h3,h5⟩
 obtain⟨v',w',hrun,h2,h3,h4⟩:=hfin;unfold Oper.wp execOp;simp only[ho,resolve,invoke,builtin,Sem.run_bind,Sem.run_pure,Result.andThen_ok,List.map_toArray,List.map_cons,List.map_nil,hs,hx,hrun];exact h v' w' h2 h3 ((Below.refl _ _).grown h3 hbase (λ k hk=>(hown.lt k hk).1)) h4
theorem Zt {P:Program}{ops:Array Oper}{rest:List Oper}{o:Oper}{a:Act}{Q:Exit->Act->World->Prop}{w:World}(hgd:o.guard=none)(s x:Operand)(t:TypeId)
 (ho:o.op=.call { callee:=.builtin .append,args:=#[s,x],argTypes:=#[t,t] })
 (base:Nat) (e:TypeId) {z:Value} {size bytes:Nat} (hinfo:(P.info? e).map (λ i=>(i.zero,i.size,i.bytes))=some (some z,size,bytes)) (ht:P.underlying t=some (.slice e))
 (hzs:z.cells.size=size) (hsz:0<size) (v:Value) (n:Nat) (xs:List Value) (hs:a.eval s=v) (hown:w.ownsRow base e size v n xs)
 (B:Nat) (A:Option Addr) (m c:Nat) (news:List Value) (hx:a.eval x=.slice A m c) (hm:news.length=m*size) (hA:A=none->m=0) (hr:Reads w B A news) (h1:∀u∈news,u.oneCell'=true)
 (h63:n+m<=maxLen) (hbytes:(n+m)*bytes<=140737488355328) (hbase:base<=w.heap.size)
 (h:∀v' w',w'.ownsRow base e size v' (n+m) (xs++news)->w.grownBy w' v.ownBlock->Below base w w'->(v'.ownBlock=v.ownBlock\/v'.ownBlock=some w.heap.size)->wpList P ops Q rest (a.put o.dst v') w') :
 wpList P ops Q (o::rest) a w :=
 wpList_plain hgd λ _ hK=>Zi s x t ho base e hinfo ht hzs hsz v n xs hs hown B A m c news hx hm hA hr h1 h63 hbytes hbase λ v' w' h2 h3 h4 h5=>hK _ _ (h v' w' h2 h3 h4 h5)
theorem Z1c {a b:ByteArray}(h:a=b):(a.toList==b.toList)=true:=by simp[h]
theorem Z1d {a b:ByteArray}(h:a≠b):(a.toList==b.toList)=false:=by
 rw[beq_eq_false_iff_ne];intro e;rw[ByteArray.toList_eq,ByteArray.toList_eq] at e;exact h (WideShapes.bytes_inj e)
theorem Zsv {a b:Int}(h:a=b):(a==b)=true:=by simp[h]
theorem Zbm {a b:Int}(h:a≠b):(a==b)=false:=by simp[h]
structure ItemAt (w:World)(b o:Nat)(x:S.Item):Prop where
 c0:w.cell? ⟨b,o,none⟩=some (.int .i64 x.kind)
 c1:w.cell? ⟨b,o+1,none⟩=some (.int .i64 x.inst.op)
 c2:w.cell? ⟨b,o+2,none⟩=some (.int .i64 x.inst.d)
 c3:w.cell? ⟨b,o+3,none⟩=some (.int .i64 x.inst.a)
 c4:w.cell? ⟨b,o+4,none⟩=some (.int .i64 x.inst.b)
 c5:w.cell? ⟨b,o+5,none⟩=some (.int .i64 x.inst.imm)
 c6:w.cell? ⟨b,o+6,none⟩=some (.string x.label)
 c7:w.cell? ⟨b,o+7,none⟩=some (.int .u32 x.word)
 w0:0<=x.word
 w1:x.word<=4294967295
def Items (w:World)(B:Nat)(A:Option Addr)(xs:List S.Item):Prop :=
 0<xs.length->∃b off,A=some ⟨b,off,none⟩/\b<B/\∀i x,xs[i]?=some x->ItemAt w b (off+i*8) x
theorem ItemAt.keep {w w':World}{b o:Nat}{x:S.Item}(h:ItemAt w b o x)(hk:∀o,w'.cell? ⟨b,o,none⟩=w.cell? ⟨b,o,none⟩):ItemAt w' b o x :=
 ⟨(hk _).trans h.c0,(hk _).trans h.c1,(hk _).trans h.c2,(hk _).trans h.c3,(hk _).trans h.c4,(hk _).trans h.c5,(hk _).trans h.c6,(hk _).trans h.c7,h.w0,h.w1⟩
theorem Items.below {w w':World}{B:Nat}{A:Option Addr}{xs:List S.Item}(h:Items w B A xs)(hb:Below B w w'):Items w' B A xs:=λ hp=>by
 obtain⟨b,off,e,hbB,hc⟩:=h hp;exact⟨b,off,e,hbB,λ i x hx=>(hc i x hx).keep λ o=>hb.cell (p:=⟨b,o,none⟩) hbB⟩
theorem Items.words {w:World}{B:Nat}{A:Option Addr}{xs:List S.Item}(h:Items w B A xs):∀x∈xs,0<=x.word/\x.word<=4294967295:=λ x hx=>by
 obtain⟨i,hi,rfl⟩:=List.getElem_of_mem hx;obtain⟨b,off,e,hbB,hc⟩:=h (by omega);have:=hc i _ (Ye hi);exact⟨this.w0,this.w1⟩
theorem Items.more {w:World}{B B':Nat}{A:Option Addr}{xs:List S.Item}(h:Items w B A xs)(hB:B<=B'):Items w B' A xs:=λ hp=>by
 obtain⟨b,off,e,hbB,hc⟩:=h hp;exact⟨b,off,e,Yr hbB hB,hc⟩
theorem Items.at_ {w:World}{B:Nat}{A:Option Addr}{xs:List S.Item}(h:Items w B A xs){k:Nat}(hk:k<xs.length) :
 ∃b off x,A=some ⟨b,off,none⟩/\b<B/\xs[k]?=some x/\ItemAt w b (off+k*8) x:=by
 obtain⟨b,off,e,hbB,hc⟩:=h (by omega);exact⟨b,off,xs[k],e,hbB,Ye hk,hc k _ (Ye hk)⟩
def Zb (x:S.Item):List Value:=[.int .i64 x.kind,.int .i64 x.inst.op,.int .i64 x.inst.d,.int .i64 x.inst.a,.int .i64 x.inst.b,.int .i64 x.inst.imm,.string x.label,.int .u32 x.word]
theorem Zhg (L:List S.Item)(i:Nat)(x:S.Item)(h:L[i]?=some x)(j:Nat)(hj:j<8):(L.flatMap Zb)[i*8+j]?=(Zb x)[j]?:=by
 induction L generalizing i with
 | nil=>simp at h
 | cons q L ih =>
  cases i with
  | zero =>
   simp only[Yao,Option.some.injEq] at h;subst h;rw[Yat,Ym (by simp[Zb];omega)];simp
  | succ i =>
   have h1:=ih i (by simpa using h);have e1:(i+1)*8+j=(Zb q).length+(i*8+j):=by simp[Zb];omega
   rw[Yat,e1,Yn (by omega),Nat.add_sub_cancel_left];exact h1
theorem Zdb (xs:List S.Item):(xs.flatMap Zb).length=xs.length*8:=by
 induction xs with
 | nil=>rfl
 | cons x r ih=>rw[Yat,Yc,ih];simp[Zb];omega
theorem Items.reads {w:World}{B:Nat}{A:Option Addr}{xs:List S.Item}(h:Items w B A xs):Reads w B A (xs.flatMap Zb):=λ hp=>by
 rw[Zdb] at hp;obtain⟨b,off,e,hB,hc⟩:=h (by omega);refine⟨b,off,e,hB,λ i v hv=>?_⟩;have hlt:=(Yg.1 hv).1;rw[Zdb] at hlt;have hq:i/8<xs.length:=by omega
 have hx:xs[i/8]?=some xs[i/8]:=Ye hq;have ei:i/8*8+i%8=i:=by omega
 have h1:=Zhg xs (i/8) _ hx (i%8) (by omega);rw[ei,hv] at h1;obtain⟨h0,h1',h2,h3,h4,h5,h6,h7,_,_⟩:=hc (i/8) _ hx;have hr:i%8=0\/i%8=1\/i%8=2\/i%8=3\/i%8=4\/i%8=5\/i%8=6\/i%8=7:=by omega
 have eo:off+i=off+i/8*8+i%8:=by omega
 rw[eo];rcases hr with r|r|r|r|r|r|r|r
 all_goals
  rw[r] at h1⊢;simp only[Zb,Yao,List.getElem?_cons_succ] at h1
  cases h1
  assumption
theorem Zdc (xs:List S.Item):∀u∈xs.flatMap Zb,u.oneCell'=true:=by
 intro u hu;obtain⟨x,_,hx⟩:=List.mem_flatMap.1 hu;simp only[Zb,Yu,Yy,or_false] at hx;rcases hx with rfl|rfl|rfl|rfl|rfl|rfl|rfl|rfl <;> rfl
theorem Items.of_own {w:World}{base:Nat}{e:TypeId}{A:Option Addr}{m c n:Nat}{xs:List S.Item}(h:w.ownsRow base e 8 (.slice A m c) n (xs.flatMap Zb))(hw:∀x∈xs,0<=x.word/\x.word<=4294967295):Items w w.heap.size A xs:=λ hp=>by
 have hl:(xs.flatMap Zb).length=n*8:=h.1;rw[Zdb] at hl;obtain⟨g,rfl,_,hg2,_,hg4,_⟩:=Zae h (by omega);refine⟨g,0,rfl,hg2,λ i x hx=>?_⟩;have hi:=(Yg.1 hx).1;have hc:∀j,j<8->w.cell? ⟨g,0+i*8+j,none⟩=(Zb x)[j]?:=by
  intro j hj;rw[Yw,hg4 _ (by omega),Zhg xs i x hx j hj]
 obtain⟨w0,w1⟩:=hw x (Y2 hx);exact⟨hc 0 (by omega),hc 1 (by omega),hc 2 (by omega),hc 3 (by omega),hc 4 (by omega),hc 5 (by omega),hc 6 (by omega),hc 7 (by omega),w0,w1⟩
theorem Zkc:(prog.info? 3).map (λ i=>(i.zero,i.size,i.bytes))=some (some (.int .i64 0),1,8):=by kernel_rfl
def Ints (w:World)(B:Nat)(A:Option Addr)(xs:List Int):Prop :=
 0<xs.length->∃b off,A=some ⟨b,off,none⟩/\b<B/\∀i x,xs[i]?=some x->w.cell? ⟨b,off+i,none⟩=some (.int .i64 x)
theorem Ints.below {w w':World}{B:Nat}{A:Option Addr}{xs:List Int}(h:Ints w B A xs)(hb:Below B w w'):Ints w' B A xs:=λ hp=>by
 obtain⟨b,off,e,hbB,hc⟩:=h hp;exact⟨b,off,e,hbB,λ i x hx=>(hb.cell (p:=⟨b,off+i,none⟩) hbB).trans (hc i x hx)⟩
theorem Ints.more {w:World}{B B':Nat}{A:Option Addr}{xs:List Int}(h:Ints w B A xs)(hB:B<=B'):Ints w B' A xs:=λ hp=>by
 obtain⟨b,off,e,hbB,hc⟩:=h hp;exact⟨b,off,e,Yr hbB hB,hc⟩
theorem Ints.at_ {w:World}{B:Nat}{A:Option Addr}{xs:List Int}(h:Ints w B A xs){k:Nat}(hk:k<xs.length) :
 ∃b off,A=some ⟨b,off,none⟩/\b<B/\w.cell? ⟨b,off+k,none⟩=some (.int .i64 (xs.getD k 0)):=by
 obtain⟨b,off,e,hbB,hc⟩:=h (by omega);refine⟨b,off,e,hbB,hc k _ ?_⟩;simp[hk]
theorem Ints.two {w:World}{B:Nat}{A:Option Addr}{xs:List Int}(h:Ints w B A xs)(hp:0<xs.length) :
 ∃b off,A=some ⟨b,off,none⟩/\b<B/\∀i x,xs[i]?=some x->w.cell? ⟨b,off+i,none⟩=some (.int .i64 x):=h hp
theorem Ints.of_own {w:World}{base:Nat}{e:TypeId}{A:Option Addr}{m c n:Nat}{xs:List Int}(h:w.ownsRow base e 1 (.slice A m c) n (xs.map (Value.int .i64))):Ints w w.heap.size A xs:=λ hp=>by
 have hl:xs.length=n:=by have:=h.1;simpa using this
 obtain⟨g,rfl,hg1,hg2,hg3,hg4,_⟩:=Zae h (by omega);refine⟨g,0,rfl,hg2,λ i x hx=>?_⟩;have hi:=(Yg.1 hx).1;have h1:=hg4 i (by omega);rw[Yw,h1,List.getElem?_map,hx];rfl
theorem Zu:(prog.info? 135).map (λ i=>(i.zero,i.size,i.bytes))=some (some (.agg #[.int .i64 0,.int .i64 0,.int .i64 0,.int .i64 0,.int .i64 0,.int .i64 0,.string ByteArray.empty,.int .u32 0]),8,72):=by kernel_rfl
theorem Zaz {a:Int}(h0:0<=a)(h1:a<=4294967295):(BitVec.ofInt 32 a).toNat=a.toNat:=by
 rw[BitVec.toNat_ofInt];omega
theorem u32_and {a b:Int}(a0:0<=a)(a1:a<=4294967295)(b0:0<=b)(b1:b<=4294967295):bits .and .u32 a b=((a.toNat &&& b.toNat:Nat):Int):=by
 show IntKind.u32.wrap ((BitVec.ofInt 32 a &&& BitVec.ofInt 32 b).toNat:Int)=_
 rw[BitVec.toNat_and,Zaz a0 a1,Zaz b0 b1];exact Zcz _ (by omega) (by have:=Nat.and_lt_two_pow a.toNat (show b.toNat<2^32 by omega);omega)
theorem u32_or {a b:Int}(a0:0<=a)(a1:a<=4294967295)(b0:0<=b)(b1:b<=4294967295):bits .or .u32 a b=((a.toNat ||| b.toNat:Nat):Int):=by
 show IntKind.u32.wrap ((BitVec.ofInt 32 a ||| BitVec.ofInt 32 b).toNat:Int)=_
 rw[BitVec.toNat_or,Zaz a0 a1,Zaz b0 b1];exact Zcz _ (by omega) (by have:=Nat.or_lt_two_pow (show a.toNat<2^32 by omega) (show b.toNat<2^32 by omega);omega)
theorem u32_xor {a b:Int}(a0:0<=a)(a1:a<=4294967295)(b0:0<=b)(b1:b<=4294967295):bits .xor .u32 a b=((a.toNat ^^^ b.toNat:Nat):Int):=by
 show IntKind.u32.wrap ((BitVec.ofInt 32 a ^^^ BitVec.ofInt 32 b).toNat:Int)=_
 rw[BitVec.toNat_xor,Zaz a0 a1,Zaz b0 b1];exact Zcz _ (by omega) (by have:=Nat.xor_lt_two_pow (show a.toNat<2^32 by omega) (show b.toNat<2^32 by omega);omega)
theorem Zdo {a:Int}(a0:0<=a)(a1:a<=4294967295):IntKind.i32.wrap a=sgn a:=by
 unfold sgn;rw[IntKind.wrap_i32]
 split <;> omega
theorem Zet (x:Int):IntKind.u32.wrap x=u32m x:=by
 unfold u32m;rw[IntKind.wrap_u32]
theorem Zab (x:Int):0<=u32m x/\u32m x<=4294967295:=by unfold u32m;omega
namespace S
def toOf (xs:List Item)(F:List Int)(base:Int)(x:Item):Int:=if named x=true then addr xs F base (stands xs x.label).toNat else 0
def wordsAt (xs:List Item)(F:List Int)(base:Int)(i:Nat):List Int :=
 match xs[i]? with
 | none=>[]
 | some x=>wordsOf x (F.getD i 0) (addr xs F base i) (toOf xs F base x)
def outTo (xs:List Item)(F:List Int)(base:Int):Nat->List Int
 | 0=>[]
 | k+1=>outTo xs F base k++wordsAt xs F base k
def placeAt (xs:List Item)(F:List Int)(base:Int)(i:Nat):List (ByteArray×Int) :=
 match xs[i]? with
 | none=>[]
 | some x=>if x.kind=2 then [(x.label,addr xs F base i)] else []
def placesTo (xs:List Item)(F:List Int)(base:Int):Nat->List (ByteArray×Int)
 | 0=>[]
 | k+1=>placesTo xs F base k++placeAt xs F base k
end S
theorem Zcs {xs:List S.Item}(h:firstErr xs=0):∀x∈xs,1<=x.kind/\x.kind<=8:=by
 induction xs with
 | nil=>intro x hx;cases hx
 | cons y r ih =>
  intro x hx;rw[firstErr] at h;by_cases c:chkItem y=0
  .rw[if_neg (by simp[c])] at h
   rcases Yu.1 hx with rfl|hx
   .revert c;unfold chkItem;grind
   .exact ih h x hx
  .rw[if_pos c] at h
   exact absurd h c
theorem Zlt {x:S.Item}{form a t:Int}(hk:1<=x.kind/\x.kind<=8)(h3:x.kind=3->1<=form/\form<=3)(h4:x.kind=4->1<=form/\form<=2)(hw:0<=x.word) :
 ((S.wordsOf x form a t).length:Int)=if x.kind=2 then 0 else S.size x form:=by
 have hc:x.kind=1\/x.kind=2\/x.kind=3\/x.kind=4\/x.kind=5\/x.kind=6\/x.kind=7\/x.kind=8:=by omega
 rcases hc with h|h|h|h|h|h|h|h
 .simp[S.wordsOf,S.size,h]
 .simp[S.wordsOf,S.size,h]
 .have hf:form=1\/form=2\/form=3:=by have:=h3 h;omega
  rcases hf with rfl|rfl|rfl <;> simp[S.wordsOf,S.size,h]
 .have hf:form=1\/form=2:=by have:=h4 h;omega
  rcases hf with rfl|rfl <;> simp[S.wordsOf,S.size,h]
 .simp[S.wordsOf,S.size,h]
 .simp[S.wordsOf,S.size,h]
 .simp[S.wordsOf,S.size,h]
 .simp[S.wordsOf,S.size,h];omega
theorem Zaf {xs:List S.Item}{F:List Int}{base:Int}(hF:FormOk xs F)(hk:∀x∈xs,1<=x.kind/\x.kind<=8)(hw:∀x∈xs,0<=x.word/\x.word<=4294967295)(i:Nat) :
 ((S.wordsAt xs F base i).length:Int)=sizeAt xs F i:=by
 unfold S.wordsAt sizeAt
 cases hx:xs[i]? with
 | none=>simp
 | some x =>
  obtain⟨h3,h4,_⟩:=hF.2 i x hx;have hm:=Y2 hx;simp only;rw[Zlt (hk x hm) h3 h4 (hw x hm).1]
  split
  .rename_i c;simp[S.size,c]
  .rfl
theorem Zao {xs:List S.Item}{F:List Int}{base:Int}(hF:FormOk xs F)(hk:∀x∈xs,1<=x.kind/\x.kind<=8)(hw:∀x∈xs,0<=x.word/\x.word<=4294967295) :
 ∀i:Nat,((S.outTo xs F base i).length:Int)=S.addr xs F base i-base
 | 0=>by simp[S.outTo,S.addr]
 | i+1=>by
  have h1:=Zao (base:=base) hF hk hw i;have h2:=Zaf (base:=base) hF hk hw i;rw[S.outTo,Yc,S.addr];omega
theorem Zbn (xs:List S.Item)(F:List Int)(base:Int):∀i:Nat,(S.placesTo xs F base i).length<=i
 | 0=>by simp[S.placesTo]
 | i+1=>by
  have h1:=Zbn xs F base i;have h2:(S.placeAt xs F base i).length<=1:=by
   unfold S.placeAt
   split
   .simp
   .split <;> simp
  rw[S.placesTo,Yc];omega
theorem Zby {xs:List S.Item}{F:List Int}{base:Int}(hF:FormOk xs F)(hw:∀x∈xs,0<=x.word/\x.word<=4294967295){i n:Nat}(h:i<=n):S.addr xs F base i<=S.addr xs F base n:=by
 obtain⟨d,rfl⟩:∃d,n=i+d:=⟨n-i,by omega⟩
 exact Zgk hF hw i d
theorem Zhh {xs:List S.Item}{base:Int}(h:CheckRes xs base 0):firstErr xs=0:=by
 rcases h with⟨_,h⟩|⟨_,_,h,h'⟩|⟨_,_,h,_⟩|⟨_,_,h,_⟩|⟨_,_,h,_⟩
 .omega
 .omega
 all_goals exact h
theorem Zsy {xs:List S.Item}{F:List Int}{base:Int}(hF:FormOk xs F)(hw:∀x∈xs,0<=x.word/\x.word<=4294967295)(hb:0<=base)(hm:S.addr xs F base xs.length<=67108864)(x:S.Item) :
 0<=S.toOf xs F base x/\S.toOf xs F base x<=67108864:=by
 unfold S.toOf
 split
 .rcases Zag xs x.label with⟨e,_⟩|⟨j,y,e,hj,_⟩
  .rw[e]
   have:=(Zbv (base:=base) hF hw 0)
   have h2:=Zby (base:=base) hF hw (Nat.zero_le xs.length);have e0:(-1:Int).toNat=0:=rfl;rw[e0];omega
  .have hlt:=(Yg.1 hj).1
   rw[e,Int.toNat_natCast];have h1:=(Zbv (base:=base) hF hw j).1;have h2:=Zby (base:=base) hF hw (Nat.le_of_lt hlt);omega
 .omega
namespace S
inductive BE where
 | mk (op n:Int) (name:ByteArray) (kids:List BE)
inductive BS where
 | mk (op n:Int) (name:ByteArray) (exprs:List BE) (regs:List Int) (body els:List BS)
structure BR where
 name:ByteArray
 params:Int
 locals:Int
 behind:Bool
 body:List BS
namespace BE
def op:BE->Int | .mk o _ _ _=>o
def n:BE->Int | .mk _ n _ _=>n
def name:BE->ByteArray | .mk _ _ s _=>s
def kids:BE->List BE | .mk _ _ _ k=>k
end BE
namespace BS
def op:BS->Int | .mk o _ _ _ _ _ _=>o
def n:BS->Int | .mk _ n _ _ _ _ _=>n
def name:BS->ByteArray | .mk _ _ s _ _ _ _=>s
def exprs:BS->List BE | .mk _ _ _ e _ _ _=>e
def regs:BS->List Int | .mk _ _ _ _ r _ _=>r
def body:BS->List BS | .mk _ _ _ _ _ b _=>b
def els:BS->List BS | .mk _ _ _ _ _ _ e=>e
end BS
def visB (n:Int):Bool:=decide ((1<=n/\n<=10)\/n=26\/n=27\/n=29\/n=30)
def dotted (s:ByteArray):Bool:=s.data.toList.head?==some 46
def labB (s:ByteArray):Bool:=decide (s.size≠0) && !dotted s
def offB (n:Int):Bool:=decide (-32768<=n/\n<32768)
def numE (L:Int)(op n:Int):Bool :=
 if op=1 then decide (-2147483648<=n/\n<=4294967295) else if op=2 then decide (0<=n/\n<L) else if op=3 then visB n
 else if op=4 then decide (1<=n/\n<=14) else if op=5 then offB n else decide (n=0)
def kidsE (op:Int)(k:Nat):Nat:=if op=4\/op=7 then 2 else if op=5 then 1 else if op=6 then min k 4 else 0
def namedE (op:Int):Bool:=decide (op=6\/op=9)
def headE (L:Int)(op n:Int)(name:ByteArray)(k:Nat):Bool :=
 decide (1<=op/\op<=10) && numE L op n && decide (k=kidsE op k) && (namedE op==decide (name.size≠0)) && (!namedE op || labB name)
mutual
def formedE (L:Int):BE->Bool
 | .mk op n name kids=>headE L op n name kids.length && formedEs L kids
def formedEs (L:Int):List BE->Bool
 | []=>true
 | e::r=>formedE L e && formedEs L r
end
mutual
def needE:BE->Nat
 | .mk _ _ _ kids=>needEs kids 0
def needEs:List BE->Nat->Nat
 | [],_=>0
 | e::r,i=>max (i+max 1 (needE e)) (needEs r (i+1))
end
def risingB:List Int->Bool
 | []=>true
 | [a]=>visB a
 | a::b::r=>visB a && decide (a<b) && risingB (b::r)
def numS (L:Int)(op n:Int):Bool:=if op=1 then decide (0<=n/\n<L) else if op=2 then offB n else if op=9 then visB n else decide (n=0)
def exprsS (op:Int)(regs:Nat):Nat:=if op=2 then 2 else if op=5 then regs else if op=10 then 0 else 1
def namedS (op:Int):Bool:=decide (op=10)
def bodiesS (op:Int):Int:=if op=3 then 2 else if op=4 then 1 else 0
def shapedS (L:Int)(op n:Int)(name:ByteArray)(exprs:Nat)(regs:List Int)(body els:Nat):Bool :=
 decide (1<=op/\op<=11) && (decide (op=5) || decide (regs.length=0)) && risingB regs && (decide (1<=bodiesS op) || decide (body=0)) && (decide (2<=bodiesS op) || decide (els=0)) &&
  numS L op n && decide (exprs=exprsS op regs.length) && (namedS op==decide (name.size≠0)) && (!namedS op || labB name)
mutual
def chkS (L:Int):BS->Nat->Int
 | .mk op n name exprs regs body els,depth =>
  if !(shapedS L op n name exprs.length regs body.length els.length && formedEs L exprs) then 4
  else if 200<=depth\/14<needEs exprs 0 then 5
  else if chkSs L body (depth+1)≠0 then chkSs L body (depth+1) else chkSs L els (depth+1)
def chkSs (L:Int):List BS->Nat->Int
 | [],_=>0
 | s::r,depth=>if chkS L s depth≠0 then chkS L s depth else chkSs L r depth
end
def chkB (r:BR):Int :=
 if !labB r.name || decide (r.params<0) || decide (4<r.params) || decide (r.locals<r.params) || decide (200<r.locals) then 2 else chkSs r.locals r.body 0
def frameB (r:BR):Int:=if chkB r≠0 then 0 else r.locals+15
def bNo:ByteArray:=⟨#[]⟩
def bI (op d a b imm:Int):Item:=⟨1,⟨op,d,a,b,imm⟩,bNo,0⟩
def bL (s:ByteArray):Item:=⟨2,⟨0,0,0,0,0⟩,s,0⟩
def bJ (d:Int)(s:ByteArray):Item:=⟨4,⟨0,d,0,0,0⟩,s,0⟩
def bU (a:Int)(s:ByteArray):Item:=⟨3,⟨26,0,a,0,0⟩,s,0⟩
def bA (d:Int)(s:ByteArray):Item:=⟨5,⟨0,d,0,0,0⟩,s,0⟩
def bLab (n:Int):ByteArray:=⟨(46::itoa n).toArray⟩
def bLoad (fr d place:Int):Item:=bI 24 d 28 0 (place-fr)
def bStore (fr b place:Int):Item:=bI 25 0 28 b (place-fr)
def bMove (d a:Int):Item:=bI 15 d a 0 0
def bConst (d n:Int):List Item:=if -32768<=n/\n<32768 then [bI 15 d 0 0 n] else [bI 23 d 0 0 (n%4294967296/65536),bI 17 d d 0 (n%4294967296%65536)]
def bStores (fr L:Int):Nat->List Item
 | 0=>[]
 | k+1=>bStores fr L k++[bStore fr (11+k) (1+L+k)]
def bLoads (fr L:Int):Nat->List Item
 | 0=>[]
 | k+1=>bLoads fr L k++[bLoad fr (11+k) (1+L+k)]
def bArgs (at_:Nat):Nat->List Item
 | 0=>[]
 | k+1=>bArgs at_ k++[bMove (4+k) (11+at_+k)]
def bCall (fr L:Int)(name:ByteArray)(kids at_:Nat):List Item :=
 bStores fr L at_++bArgs at_ kids++[bJ 31 name]++bLoads fr L at_++[bMove (11+at_) 4]
def bOp (fr L:Int)(op n:Int)(name:ByteArray)(kids at_:Nat):List Item :=
 if op=1 then bConst (11+at_) n else if op=2 then [bLoad fr (11+at_) (1+n)] else if op=3 then [bMove (11+at_) n]
 else if op=4 then [bI n (11+at_) (11+at_) (12+at_) 0] else if op=5 then [bI 24 (11+at_) (11+at_) 0 n]
 else if op=6 then bCall fr L name kids at_
 else if op=7 then [bI 9 (11+at_) (11+at_) (12+at_) 0]++bConst (12+at_) 1++[bI 14 (11+at_) (11+at_) (12+at_) 0]
 else if op=8 then [bI 34 (11+at_) 0 0 0] else if op=9 then [bA (11+at_) name] else if op=10 then [bLoad fr (11+at_) 0] else []
mutual
def bExpr (fr L:Int):BE->Nat->List Item
 | .mk op n name kids,at_=>bExprs fr L kids at_++bOp fr L op n name kids.length at_
def bExprs (fr L:Int):List BE->Nat->List Item
 | [],_=>[]
 | e::r,at_=>bExpr fr L e at_++bExprs fr L r (at_+1)
end
def bTest (fr L:Int):List BE->List Item
 | []=>[]
 | e::_=>bExpr fr L e 0
def bPop (fr:Int):Item:=bI 15 28 28 0 (-fr)
def bBack (fr:Int)(behind:Bool):List Item :=
 [bPop fr,bI 24 31 28 0 0]++(if behind=true then [bI 24 25 31 0 0,bI 1 31 31 25 0,bI 33 0 31 0 1] else [bI 33 0 31 0 0])
def bRegs:List Int->Nat->List Item
 | [],_=>[]
 | n::r,i=>bMove n (11+i)::bRegs r (i+1)
mutual
def bStmt (fr L:Int)(behind:Bool):BS->Int->List Item×Int
 | .mk op n name exprs regs body els,l =>
  if op=4 then
   ([bL (bLab (l+1))]++bTest fr L exprs++[bU 11 (bLab (l+2))]++(bStmts fr L behind body (l+2)).1++[bJ 0 (bLab (l+1)),bL (bLab (l+2))],(bStmts fr L behind body (l+2)).2)
  else if op=3 then
   (bExprs fr L exprs 0++[bU 11 (bLab (l+1))]++(bStmts fr L behind body (l+2)).1++[bJ 0 (bLab (l+2)),bL (bLab (l+1))] ++
    (bStmts fr L behind els (bStmts fr L behind body (l+2)).2).1++[bL (bLab (l+2))],(bStmts fr L behind els (bStmts fr L behind body (l+2)).2).2)
  else
   (bExprs fr L exprs 0 ++
    (if op=1 then [bStore fr 11 (1+n)] else if op=2 then [bI 25 0 11 12 n] else if op=5 then bRegs regs 0++bBack fr behind else if op=7 then [bI 35 0 11 0 0] else if op=8 then [bI 36 0 11 0 0] else if op=9 then [bMove n 11] else if op=10 then [bPop fr,bJ 0 name] else if op=11 then [bPop fr,bI 33 0 11 0 0] else []),l)
def bStmts (fr L:Int)(behind:Bool):List BS->Int->List Item×Int
 | [],l=>([],l)
 | s::r,l=>((bStmt fr L behind s l).1++(bStmts fr L behind r (bStmt fr L behind s l).2).1,(bStmts fr L behind r (bStmt fr L behind s l).2).2)
end
def bParams:Nat->List Item
 | 0=>[]
 | k+1=>bParams k++[bI 25 0 28 (4+k) (1+k)]
def bHead (r:BR):List Item:=[bL r.name,bI 25 0 28 31 0]++bParams r.params.toNat++[bI 15 28 28 0 (frameB r)]
def bItems (r:BR):List Item:=bHead r++(bStmts (frameB r) r.locals r.behind r.body 0).1++bBack (frameB r) r.behind
end S
section
namespace S
inductive AV where
 | int (k:IntKind) (n:Int)
 | bool (b:Bool)
 | str (s:ByteArray)
 | fn (f:FuncId)
 | row (n:Nat) (cs:List AV)
 | agg (cs:List AV)
 | tup (vs:List AV)
 | box (id off:Nat)
 | ptr (cs:List AV) (off:Nat)
 | any
def AV.cell:AV->Bool
 | .int _ _ | .bool _ | .str _ | .fn _ | .row _ _=>true
 | _=>false
def AV.cells:AV->Option (List AV)
 | .agg cs=>some cs
 | .int k n=>some [.int k n]
 | .bool b=>some [.bool b]
 | .str s=>some [.str s]
 | .fn f=>some [.fn f]
 | .row n cs=>some [.row n cs]
 | _=>none
def AV.free:AV->Bool
 | .box _ _ | .ptr _ _ | .any=>false
 | _=>true
abbrev Tail:=Option (TypeId×Nat)
abbrev Ent:=TypeId×List AV
structure St where
 sl:Nat->Option AV
 tl:Nat->Tail
 hp:Nat->Option Ent
inductive Rd (α:Type) where
 | done (a:α)
 | fail
 | sl (t:Nat) (k:Option AV->Rd α)
 | tl (t:Nat) (k:Tail->Rd α)
 | hp (i:Nat) (k:Option Ent->Rd α)
namespace Rd
def bind {α β:Type}:Rd α->(α->Rd β)->Rd β
 | .done a,f=>f a
 | .fail,_=>.fail
 | .sl t k,f=>.sl t λ x=>(k x).bind f
 | .tl t k,f=>.tl t λ x=>(k x).bind f
 | .hp t k,f=>.hp t λ x=>(k x).bind f
def run {α:Type}:Rd α->St->Option (α×List Nat)
 | .done a,_=>some (a,[])
 | .fail,_=>none
 | .sl t k,s=>match (k (s.sl t)).run s with|some (a,l)=>some (a,(3*t)::l) | none=>none
 | .tl t k,s=>match (k (s.tl t)).run s with|some (a,l)=>some (a,(3*t+1)::l) | none=>none
 | .hp t k,s=>match (k (s.hp t)).run s with|some (a,l)=>some (a,(3*t+2)::l) | none=>none
def ofOpt {α:Type}:Option α->Rd α
 | some a=>.done a
 | none=>.fail
end Rd
structure Eff where
 dst:Option (Nat×AV×Tail)
 drop:Option Nat
 ent:Option (Nat×Ent)
def Eff.apply (e:Eff)(s:St):St where
 sl:=λ t=>match e.dst with
  | some (d,v,_)=>if t=d then some v else s.sl t
  | none=>s.sl t
 tl:=λ t=>match e.dst with
  | some (d,_,z)=>if t=d then z else if e.drop=some t then none else s.tl t
  | none=>if e.drop=some t then none else s.tl t
 hp:=λ i=>match e.ent with
  | some (k,x)=>if i=k then some x else s.hp i
  | none=>s.hp i
def Eff.writes (e:Eff):List Nat :=
 (match e.dst with|some (d,_,_)=>[3*d,3*d+1] | none=>[])++(match e.drop with|some t=>[3*t+1] | none=>[])++(match e.ent with|some (k,_)=>[3*k+2] | none=>[])
def same (r:Nat)(s s':St):Prop:=if r%3=0 then s.sl (r/3)=s'.sl (r/3) else if r%3=1 then s.tl (r/3)=s'.tl (r/3) else s.hp (r/3)=s'.hp (r/3)
end S
open S in
theorem Zog (t:Nat)(s s':St):same (3*t) s s'↔s.sl t=s'.sl t:=by
 unfold same;rw[if_pos (by omega),show 3*t/3=t by omega]
open S in
theorem Zoh (t:Nat)(s s':St):same (3*t+1) s s'↔s.tl t=s'.tl t:=by
 unfold same;rw[if_neg (by omega),if_pos (by omega),show(3*t+1)/3=t by omega]
open S in
theorem Zoi (t:Nat)(s s':St):same (3*t+2) s s'↔s.hp t=s'.hp t:=by
 unfold same;rw[if_neg (by omega),if_neg (by omega),show(3*t+2)/3=t by omega]
theorem S.same.refl (r:Nat)(s:S.St):S.same r s s:=by
 unfold S.same
 split
 .rfl
 .split <;> rfl
theorem S.same.trans {r:Nat}{a b c:S.St}(h:S.same r a b)(k:S.same r b c):S.same r a c:=by
 unfold S.same at *
 split at h
 .rw[if_pos (by assumption)] at k⊢;exact h.trans k
 .rw[if_neg (by assumption)] at k⊢
  split at h
  .rw[if_pos (by assumption)] at k⊢;exact h.trans k
  .rw[if_neg (by assumption)] at k⊢;exact h.trans k
theorem S.same.symm {r:Nat}{a b:S.St}(h:S.same r a b):S.same r b a:=by
 unfold S.same at *
 split at h
 .rw[if_pos (by assumption)];exact h.symm
 .rw[if_neg (by assumption)]
  split at h
  .rw[if_pos (by assumption)];exact h.symm
  .rw[if_neg (by assumption)];exact h.symm
theorem Zxh {s s':S.St}(h:∀r,S.same r s s'):s=s':=by
 obtain⟨a,b,c⟩:=s;obtain⟨a',b',c'⟩:=s';have h1:a=a':=funext λ t=>(Zog t _ _).1 (h _)
 have h2:b=b':=funext λ t=>(Zoh t _ _).1 (h _)
 have h3:c=c':=funext λ t=>(Zoi t _ _).1 (h _)
 rw[h1,h2,h3]
theorem Zhi (r:Nat):(∃t,r=3*t)\/(∃t,r=3*t+1)\/∃t,r=3*t+2:=by
 by_cases h:r%3=0
 .exact .inl ⟨r/3,by omega⟩
 .by_cases h1:r%3=1
  .exact .inr (.inl ⟨r/3,by omega⟩)
  .exact .inr (.inr ⟨r/3,by omega⟩)
open S in
theorem Zb6 {e:Eff}{r:Nat}(h:r ∉ e.writes)(s:St):same r (e.apply s) s:=by
 obtain⟨dst,drop,ent⟩:=e;unfold Eff.writes at h;simp only[List.mem_append,not_or] at h;obtain⟨⟨h1,h2⟩,h3⟩:=h;rcases Zhi r with⟨t,rfl⟩|⟨t,rfl⟩|⟨t,rfl⟩
 .rw[Zog]
  unfold Eff.apply;rcases dst with _|⟨d,v,z⟩
  .rfl
  .simp only[Yu,Yy,or_false,not_or] at h1⊢
   rw[if_neg (by omega)]
 .rw[Zoh]
  unfold Eff.apply;have hd:drop≠some t:=by
   rcases drop with _|d
   .simp
   .simp only[Yu,Yy,or_false] at h2
    intro e
    cases e
    exact h2 rfl
  rcases dst with _|⟨d,v,z⟩
  .simp only;rw[if_neg hd]
  .simp only[Yu,Yy,or_false,not_or] at h1⊢
   rw[if_neg (by omega),if_neg hd]
 .rw[Zoi]
  unfold Eff.apply;rcases ent with _|⟨k,x⟩
  .rfl
  .simp only[Yu,Yy,or_false] at h3⊢
   rw[if_neg (by omega)]
open S in
theorem Zlu {e:Eff}{r:Nat}(h:r∈e.writes)(s s':St):same r (e.apply s) (e.apply s'):=by
 obtain⟨dst,drop,ent⟩:=e;unfold Eff.writes at h;rcases Zhi r with⟨t,rfl⟩|⟨t,rfl⟩|⟨t,rfl⟩
 .rw[Zog]
  unfold Eff.apply;rcases dst with _|⟨d,v,z⟩
  .exfalso
   rcases drop with _|d <;> rcases ent with _|⟨k,x⟩ <;> simp at h <;> omega
  .by_cases c:t=d
   .simp only[c,if_true]
   .exfalso
    rcases drop with _|d <;> rcases ent with _|⟨k,x⟩ <;> simp at h <;> omega
 .rw[Zoh]
  unfold Eff.apply;rcases dst with _|⟨d,v,z⟩
  .by_cases c:drop=some t
   .simp only[c,if_true]
   .exfalso
    rcases drop with _|d <;> rcases ent with _|⟨k,x⟩ <;> simp at h c <;> omega
  .by_cases c0:t=d
   .simp only[c0,if_true]
   .by_cases c:drop=some t
    .simp only[c,if_true,if_neg c0]
    .exfalso
     rcases drop with _|d <;> rcases ent with _|⟨k,x⟩ <;> simp at h c <;> omega
 .rw[Zoi]
  unfold Eff.apply;rcases ent with _|⟨k,x⟩
  .exfalso
   rcases drop with _|d <;> rcases dst with _|⟨d,v,z⟩ <;> simp at h <;> omega
  .by_cases c:t=k
   .simp only[c,if_true]
   .exfalso
    rcases drop with _|d <;> rcases dst with _|⟨d,v,z⟩ <;> simp at h <;> omega
theorem Zpt {e:S.Eff}{r:Nat}{s s':S.St}(h:S.same r s s'):S.same r (e.apply s) (e.apply s'):=by
 by_cases c:r∈e.writes
 .exact Zlu c s s'
 .exact((Zb6 c s).trans h).trans (Zb6 c s').symm
theorem Zga {α:Type}:∀(m:S.Rd α) {s s':S.St} {x:α} {l:List Nat},m.run s=some (x,l)->(∀r∈l,S.same r s s')->m.run s'=some (x,l)
 | .done a,s,s',x,l,h,_=>by
  unfold S.Rd.run at h⊢;exact h
 | .fail,s,s',x,l,h,_=>by simp[S.Rd.run] at h
 | .sl t k,s,s',x,l,h,hs=>by
  unfold S.Rd.run at h⊢
  cases hk:(k (s.sl t)).run s with
  | none=>rw[hk] at h;simp at h
  | some p =>
   obtain⟨a,l'⟩:=p;rw[hk] at h;simp only[Option.some.injEq,Prod.mk.injEq] at h;obtain⟨rfl,rfl⟩:=h;have e:s.sl t=s'.sl t:=(Zog t s s').1 (hs _ Y4);have:=Zga (k (s.sl t)) hk (s':=s') λ r hr=>hs r (Y5 _ hr)
   rw[e] at this;rw[this]
 | .tl t k,s,s',x,l,h,hs=>by
  unfold S.Rd.run at h⊢
  cases hk:(k (s.tl t)).run s with
  | none=>rw[hk] at h;simp at h
  | some p =>
   obtain⟨a,l'⟩:=p;rw[hk] at h;simp only[Option.some.injEq,Prod.mk.injEq] at h;obtain⟨rfl,rfl⟩:=h;have e:s.tl t=s'.tl t:=(Zoh t s s').1 (hs _ Y4);have:=Zga (k (s.tl t)) hk (s':=s') λ r hr=>hs r (Y5 _ hr)
   rw[e] at this;rw[this]
 | .hp t k,s,s',x,l,h,hs=>by
  unfold S.Rd.run at h⊢
  cases hk:(k (s.hp t)).run s with
  | none=>rw[hk] at h;simp at h
  | some p =>
   obtain⟨a,l'⟩:=p;rw[hk] at h;simp only[Option.some.injEq,Prod.mk.injEq] at h;obtain⟨rfl,rfl⟩:=h;have e:s.hp t=s'.hp t:=(Zoi t s s').1 (hs _ Y4);have:=Zga (k (s.hp t)) hk (s':=s') λ r hr=>hs r (Y5 _ hr)
   rw[e] at this;rw[this]
theorem Zg {α β:Type}:∀(m:S.Rd α)(f:α->S.Rd β) {s:S.St} {y:β} {l:List Nat},(m.bind f).run s=some (y,l)->∃x l1 l2,m.run s=some (x,l1)/\(f x).run s=some (y,l2)
 | .done a,f,s,y,l,h=>⟨a,[],l,rfl,h⟩
 | .fail,f,s,y,l,h=>by simp[S.Rd.bind,S.Rd.run] at h
 | .sl t k,f,s,y,l,h=>by
  unfold S.Rd.bind S.Rd.run at h
  cases hk:((k (s.sl t)).bind f).run s with
  | none=>rw[hk] at h;simp at h
  | some p =>
   obtain⟨a,l'⟩:=p;rw[hk] at h;simp only[Option.some.injEq,Prod.mk.injEq] at h;obtain⟨rfl,rfl⟩:=h;obtain⟨x,l1,l2,h1,h2⟩:=Zg (k (s.sl t)) f hk;exact⟨x,_,l2,by rw[S.Rd.run,h1],h2⟩
 | .tl t k,f,s,y,l,h=>by
  unfold S.Rd.bind S.Rd.run at h
  cases hk:((k (s.tl t)).bind f).run s with
  | none=>rw[hk] at h;simp at h
  | some p =>
   obtain⟨a,l'⟩:=p;rw[hk] at h;simp only[Option.some.injEq,Prod.mk.injEq] at h;obtain⟨rfl,rfl⟩:=h;obtain⟨x,l1,l2,h1,h2⟩:=Zg (k (s.tl t)) f hk;exact⟨x,_,l2,by rw[S.Rd.run,h1],h2⟩
 | .hp t k,f,s,y,l,h=>by
  unfold S.Rd.bind S.Rd.run at h
  cases hk:((k (s.hp t)).bind f).run s with
  | none=>rw[hk] at h;simp at h
  | some p =>
   obtain⟨a,l'⟩:=p;rw[hk] at h;simp only[Option.some.injEq,Prod.mk.injEq] at h;obtain⟨rfl,rfl⟩:=h;obtain⟨x,l1,l2,h1,h2⟩:=Zg (k (s.hp t)) f hk;exact⟨x,_,l2,by rw[S.Rd.run,h1],h2⟩
theorem Z2 {α:Type}{o:Option α}{s:S.St}{y:α}{l:List Nat}(h:(S.Rd.ofOpt o).run s=some (y,l)):o=some y:=by
 cases o with
 | none=>simp[S.Rd.ofOpt,S.Rd.run] at h
 | some a=>simp[S.Rd.ofOpt,S.Rd.run] at h;rw[h.1]
namespace S
def stL (L:Nat->Bool):List (Eff×List Nat)->Nat->St->St
 | [],_,s=>s
 | (e,_)::r,i,s=>stL L r (i+1) (if L i=true then e.apply s else s)
end S
theorem Zeu {L L':Nat->Bool}{r:Nat}:∀(es:List (S.Eff×List Nat)) (i:Nat) (s s':S.St),S.same r s s'->(∀k e l,es[k]?=some (e,l)->r∈e.writes->L (i+k)=L' (i+k))->S.same r (S.stL L es i s) (S.stL L' es i s')
 | [],i,s,s',h,_=>h
 | (e,l)::es,i,s,s',h,hw=>by
  unfold S.stL;refine Zeu es (i+1) _ _ ?_ λ k e' l' hk hr=>?_
  .by_cases c:r∈e.writes
   .have:=hw 0 e l rfl c
    rw[Ybb] at this;rw[this]
    split
    .exact Zpt h
    .exact h
   .have h1:S.same r (if L i=true then e.apply s else s) s:=by
     split
     .exact Zb6 c s
     .exact S.same.refl _ _
    have h2:S.same r (if L' i=true then e.apply s' else s') s':=by
     split
     .exact Zb6 c s'
     .exact S.same.refl _ _
    exact(h1.trans h).trans h2.symm
  .have:=hw (k+1) e' l' (by simpa using hk) hr
   rw[show i+1+k=i+(k+1) by omega];exact this
theorem Zoj {L:Nat->Bool}{r:Nat}:∀(es:List (S.Eff×List Nat)) (i k:Nat) (s s':S.St) (e:S.Eff) (l:List Nat),es[k]?=some (e,l)->r∈e.writes->L (i+k)=true->(∀j e' l',k<j->es[j]?=some (e',l')->r∈e'.writes->L (i+j)=false)->S.same r (S.stL L es i s) (e.apply s')
 | [],i,k,s,s',e,l,hk,_,_,_=>by simp at hk
 | (e0,l0)::es,i,0,s,s',e,l,hk,hr,hL,hn=>by
  simp at hk;obtain⟨rfl,rfl⟩:=hk;unfold S.stL;rw[Ybb] at hL;rw[if_pos hL];have key:∀(es:List (S.Eff×List Nat)) (i:Nat) (s:S.St),(∀j e' l',es[j]?=some (e',l')->r∈e'.writes->L (i+j)=false)->S.same r (S.stL L es i s) s:=by
   intro es
   induction es with
   | nil=>intro i s _;exact S.same.refl _ _
   | cons p es ih =>
    obtain⟨e1,l1⟩:=p;intro i s h;unfold S.stL;refine(ih (i+1) _ λ j e' l' hj hr=>?_).trans ?_
    .have:=h (j+1) e' l' (by simpa using hj) hr
     rw[show i+1+j=i+(j+1) by omega];exact this
    .split
     .rename_i c
      refine Zb6 (λ hm=>?_) s;have:=h 0 e1 l1 rfl hm;rw[Ybb,c] at this
      cases this
     .exact S.same.refl _ _
  refine(key es (i+1) _ λ j e' l' hj hr'=>?_).trans (Zlu hr _ _);have:=hn (j+1) e' l' (by omega) (by simpa using hj) hr';rw[show i+1+j=i+(j+1) by omega];exact this
 | (e0,l0)::es,i,k+1,s,s',e,l,hk,hr,hL,hn=>by
  unfold S.stL;refine Zoj es (i+1) k _ s' e l (by simpa using hk) hr ?_ λ j e' l' hj hjk hr'=>?_
  .rw[show i+1+k=i+(k+1) by omega];exact hL
  .have:=hn (j+1) e' l' (by omega) (by simpa using hjk) hr'
   rw[show i+1+j=i+(j+1) by omega];exact this
namespace S
def befs:List Oper->List Nat->List Nat
 | [],acc=>acc
 | o::r,acc=>befs r (acc++[o.after.toList.foldl (λ m e=>if Ybh .any e then m ||| (2^e.on) ||| acc.getD e.on 0 else m) 0])
def meets (a b:List Nat):Bool:=a.any λ x=>b.any λ y=>Nat.beq x y
def apart1 (e:Eff)(rs:List Nat)(i:Nat):List (Eff×List Nat)->List Nat->Bool
 | (e',rs')::r,b::br=>(b.testBit i || (!meets e.writes (rs'++e'.writes) && !meets e'.writes rs)) && apart1 e rs i r br
 | _,_=>true
def apartB:List (Eff×List Nat)->List Nat->Nat->Bool
 | (e,rs)::r,_::br,i=>apart1 e rs i r br && apartB r br (i+1)
 | _,_,_=>true
end S
theorem Zhj {a b:List Nat}(h:S.meets a b=false){x:Nat}(hx:x∈a):x ∉ b:=λ hb=>by
 have h1:S.meets a b=true:=Ybf.2 ⟨x,hx,Ybf.2 ⟨x,hb,by rw[Nat.beq_eq]⟩⟩;rw[h] at h1
 cases h1
theorem Zlv {e:S.Eff}{rs:List Nat}{i:Nat}:∀(es:List (S.Eff×List Nat)) (bs:List Nat),S.apart1 e rs i es bs=true->∀(k:Nat)(e':S.Eff)(rs':List Nat)(b:Nat),es[k]?=some (e',rs')->bs[k]?=some b->b.testBit i=true\/(S.meets e.writes (rs'++e'.writes)=false/\S.meets e'.writes rs=false)
 | [],_,_,k,e',rs',b,hk,_=>by simp at hk
 | _::_,[],_,k,e',rs',b,_,hb=>by simp at hb
 | (e1,r1)::es,b1::bs,h,k,e',rs',b,hk,hb=>by
  simp only[S.apart1,Yq,Ybp,Bool.not_eq_true'] at h
  cases k with
  | zero =>
   simp at hk hb;obtain⟨rfl,rfl⟩:=hk;subst hb;exact h.1
  | succ k=>exact Zlv es bs h.2 k e' rs' b (by simpa using hk) (by simpa using hb)
theorem Zhk:∀(es:List (S.Eff×List Nat)) (bs:List Nat) (i:Nat),S.apartB es bs i=true->∀(j k:Nat)(e:S.Eff)(rs:List Nat)(e':S.Eff)(rs':List Nat)(b:Nat),j<k->es[j]?=some (e,rs)->es[k]?=some (e',rs')->bs[k]?=some b->b.testBit (i+j)=true\/(S.meets e.writes (rs'++e'.writes)=false/\S.meets e'.writes rs=false)
 | [],_,_,_,j,k,e,rs,e',rs',b,_,hj,_,_=>by simp at hj
 | _::_,[],_,_,j,k,e,rs,e',rs',b,_,_,_,hb=>by simp at hb
 | (e1,r1)::es,b1::bs,i,h,j,k,e,rs,e',rs',b,hjk,hj,hk,hb=>by
  simp only[S.apartB,Yq] at h;obtain⟨k,rfl⟩:∃k',k=k'+1:=⟨k-1,by omega⟩
  cases j with
  | zero =>
   simp at hj;obtain⟨rfl,rfl⟩:=hj;rw[Ybb];exact Zlv es bs h.1 k e' rs' b (by simpa using hk) (by simpa using hb)
  | succ j =>
   rw[show i+(j+1)=i+1+j by omega];exact Zhk es bs (i+1) h.2 j k e rs e' rs' b (by omega) (by simpa using hj) (by simpa using hk) (by simpa using hb)
theorem Zhl:∀(ops:List Oper)(acc:List Nat),(S.befs ops acc).length=acc.length+ops.length
 | [],acc=>rfl
 | o::r,acc=>by rw[S.befs,Zhl r,Yc,Yk,Yk,List.length_nil];omega
theorem Zhm {ops:Array Oper}{C:Nat->Nat->Prop}:∀(pre:List Oper)(rest:List Oper)(acc:List Nat),ops.toList=pre++rest->acc.length=pre.length ->
 (∀i b,acc[i]?=some b->∀j,b.testBit j=true->C i j) ->
 (∀i j,Yba .any ops i j=true->C i j)->(∀i j k,Yba .any ops i j=true->C j k->C i k)->∀i b,(S.befs rest acc)[i]?=some b->∀j,b.testBit j=true->C i j
 | pre,[],acc,_,_,h,_,_=>h
 | pre,o::r,acc,e,hl,h,h1,h2=>by
  rw[S.befs];refine Zhm (pre++[o]) r _ (by rw[e];simp) (by simp[hl]) (λ i b hi j hj=>?_) h1 h2;by_cases c:i<acc.length
  .rw[Ym c] at hi
   exact h i b hi j hj
  .rw[Yn (by omega)] at hi
   have hi0:i-acc.length=0:=by
    have:=(Yg.1 hi).1;simp at this;omega
   rw[hi0,Yao] at hi;have hi:=Option.some.inj hi;have hio:ops[i]?=some o:=by
    rw[<- Array.getElem?_toList,e,Yn (by omega)];have:i-pre.length=0:=by omega
    rw[this];rfl
   have key:∀(l:List Edge)(m:Nat),(∀e'∈l,Ybh .any e'=true->Yba .any ops i e'.on=true)->(∀j,m.testBit j=true->C i j) ->
    ∀j,(l.foldl (λ m e=>if Ybh .any e then m ||| (2^e.on) ||| acc.getD e.on 0 else m) m).testBit j=true->C i j:=by
    intro l
    induction l with
    | nil=>intro m _ hm;exact hm
    | cons e' l ih =>
     intro m hl hm;rw[List.foldl_cons];refine ih _ (λ x hx=>hl x (Y5 _ hx)) λ j hj=>?_
     split at hj
     .rename_i hb
      have hw:=hl e' Y4 hb;rw[Nat.testBit_or,Nat.testBit_or,Ybp,Ybp] at hj;rcases hj with(hj|hj) | hj
      .exact hm j hj
      .rw[Nat.testBit_two_pow] at hj
       have:e'.on=j:=by simpa using hj
       rw[<- this];exact h1 i e'.on hw
      .rw[List.getD_eq_getElem?_getD] at hj
       cases ha:acc[e'.on]? with
       | none=>rw[ha] at hj;simp at hj
       | some b' =>
        rw[ha] at hj;exact h2 i e'.on j hw (h e'.on b' ha j (by simpa using hj))
     .exact hm j hj
   subst hi;refine key o.after.toList 0 (λ e' he hb=>?_) (λ j hj=>by simp at hj) j hj;unfold Yba;rw[hio];simp only
   first|exact Ybf.2 ⟨e',he,by simp[hb]⟩ | (simp only[Array.any_eq_true'];exact⟨e',by simpa using he,by simp[hb]⟩)
theorem Zv7 {es:List (S.Eff×List Nat)}{bs:List Nat}(hA:S.apartB es bs 0=true)(hl:bs.length=es.length){L:Nat->Bool}(hcl:∀k b,bs[k]?=some b->L k=true->∀j,b.testBit j=true->L j=true)
 {i:Nat} {e:S.Eff} {rs:List Nat} (hi:es[i]?=some (e,rs)) (hun:L i=false) (hb:∀b,bs[i]?=some b->∀j,b.testBit j=true->L j=true) (s0:S.St) :
 (∀r∈rs,S.same r (S.stL (λ k=>decide (k<i)) es 0 s0) (S.stL L es 0 s0))/\S.stL (λ k=>if k=i then true else L k) es 0 s0=e.apply (S.stL L es 0 s0):=by
 have bits:∀k,k<es.length->∃b,bs[k]?=some b:=λ k hk=>⟨bs[k],Ye (by omega)⟩
 have hlt:∀{k:Nat} {x:S.Eff×List Nat},es[k]?=some x->k<es.length:=λ h=>(Yg.1 h).1
 have hbehind:∀k e' l',i<k->es[k]?=some (e',l')->L k=true->S.meets e.writes (l'++e'.writes)=false/\S.meets e'.writes rs=false:=λ k e' l' hik hk hL=>by
  obtain⟨b,hbk⟩:=bits k (hlt hk);rcases Zhk es bs 0 hA i k e rs e' l' b hik hi hk hbk with h|h
  .rw[Yw] at h
   have:=hcl k b hbk hL i h;rw[hun] at this
   cases this
  .exact h
 refine⟨λ r hr=>?_,Zxh λ r=>?_⟩
 .refine Zeu es 0 s0 s0 (S.same.refl _ _) λ k e' l' hk hw=>?_
  rw[Yw];rcases Nat.lt_trichotomy k i with h|h|h
  .rw[decide_eq_true h]
   obtain⟨b,hbi⟩:=bits i (hlt hi);rcases Zhk es bs 0 hA k i e' l' e rs b h hk hi hbi with h1|h1
   .rw[Yw] at h1
    exact(hb b hbi k h1).symm
   .exact absurd (List.mem_append_left _ hr) (Zhj h1.1 hw)
  .subst h
   rw[hun];exact decide_eq_false (Nat.lt_irrefl _)
  .rw[decide_eq_false (by omega)]
   cases hL:L k with
   | false=>rfl
   | true=>exact absurd hr (Zhj (hbehind k e' l' h hk hL).2 hw)
 .by_cases c:r∈e.writes
  .refine Zoj es 0 i s0 (S.stL L es 0 s0) e rs hi c (by rw[Yw,if_pos rfl]) λ j e' l' hj hjk hw=>?_
   rw[Yw,if_neg (by omega)]
   cases hL:L j with
   | false=>rfl
   | true=>exact absurd (List.mem_append_right _ hw) (Zhj (hbehind j e' l' hj hjk hL).1 c)
  .refine(Zeu es 0 s0 s0 (S.same.refl _ _) λ k e' l' hk hw=>?_).trans (Zb6 c _).symm
   rw[Yw]
   split
   .rename_i h
    subst h;rw[hi] at hk
    cases hk
    exact absurd hw c
   .rfl
end
