/- Parts. -/
import Derived.Test.YtfhiobkkdcdmiaaGreatDoorZIsaD
import Derived.Deep.RegionWith
import Derived.WideShapes
import Derived.Deep.DeepCutAuto
set_option linter.all false
set_option maxHeartbeats 2000000
open Go.Lib renaming hid->Ya
open Nat renaming le_refl->Yb,lt_of_lt_of_le->Yy,zero_add->Y9
open List renaming getElem?_eq_getElem->Yf,getElem?_eq_some_iff->Yg,mem_of_getElem?->Y1,getElem?_cons_zero->Ya0,flatMap_cons->Ybb,getElem_of_mem->Ych
open Go.RowKit.Below renaming refl->Yh
namespace Go.Proofs.YtfhiobkkdcdmiaaGreatDoor
open Go.RowKit
set_option maxRecDepth 100000
theorem Zhv (k op d a b imm:Int)(lab:ByteArray)(wd form:Int)(w:World)(h3:k=3->1<=form/\form<=3)(h4:k=4->1<=form/\form<=2)(hw0:0<=wd)(hw1:wd<=4294967295) :
 Calls Tryz.prog 218 #[.agg #[.int .i64 k,.int .i64 op,.int .i64 d,.int .i64 a,.int .i64 b,.int .i64 imm,.string lab,.int .u32 wd],.int .i64 form] w
  λ e w'=>e=.returned (.int .i64 (S.size ⟨k,⟨op,d,a,b,imm⟩,lab,wd⟩ form))/\Below w.heap.size w w':=by
 by_cases c3:k=3
 .obtain⟨f1,f2⟩:=h3 c3
  clear h3 h4;subst c3;have hf:form=1\/form=2\/form=3:=by omega
  clear f1 f2;have ix:∀w:World,(Instr.index 250 (.agg #[.int .i64 0,.int .i64 1,.int .i64 2,.int .i64 4]) (.int .i64 1)).run Tryz.prog w=.ok (.int .i64 1) w:=λ _=>by kernel_rfl
  have iy:∀w:World,(Instr.index 250 (.agg #[.int .i64 0,.int .i64 1,.int .i64 2,.int .i64 4]) (.int .i64 2)).run Tryz.prog w=.ok (.int .i64 2) w:=λ _=>by kernel_rfl
  have iz:∀w:World,(Instr.index 250 (.agg #[.int .i64 0,.int .i64 1,.int .i64 2,.int .i64 4]) (.int .i64 3)).run Tryz.prog w=.ok (.int .i64 4) w:=λ _=>by kernel_rfl
  rcases hf with rfl|rfl|rfl
  all_goals
   go_enter Tryz.func218,Tryz.ntmps218
   go_wp2
   go_ret
   exact⟨Z2 (by simp[S.size]),(Yh _ _).alloc (Yb _) _⟩
 .by_cases c4:k=4
  .obtain⟨f1,f2⟩:=h4 c4
   clear h3 h4 c3;subst c4;have hf:form=1\/form=2:=by omega
   clear f1 f2;have ix:∀w:World,(Instr.index 251 (.agg #[.int .i64 0,.int .i64 1,.int .i64 3]) (.int .i64 1)).run Tryz.prog w=.ok (.int .i64 1) w:=λ _=>by kernel_rfl
   have iy:∀w:World,(Instr.index 251 (.agg #[.int .i64 0,.int .i64 1,.int .i64 3]) (.int .i64 2)).run Tryz.prog w=.ok (.int .i64 3) w:=λ _=>by kernel_rfl
   rcases hf with rfl|rfl
   all_goals
    go_enter Tryz.func218,Tryz.ntmps218
    go_wp2
    go_ret
    exact⟨Z2 (by simp[S.size]),(Yh _ _).alloc (Yb _) _⟩
  .clear h3 h4
   have d3:(k==3)=false:=by simp[c3]
   have d4:(k==4)=false:=by simp[c4]
   go_enter Tryz.func218,Tryz.ntmps218
   go_wp2
   all_goals
    go_ret
    exact⟨Z2 (by simp_all[S.size]),(Yh _ _).alloc (Yb _) _⟩
theorem Znv (k op d a b imm:Int)(lab:ByteArray)(wd:Int)(w:World) :
 Calls Tryz.prog 192 #[.agg #[.int .i64 k,.int .i64 op,.int .i64 d,.int .i64 a,.int .i64 b,.int .i64 imm,.string lab,.int .u32 wd]] w
  λ e w'=>e=.returned (.bool (S.named ⟨k,⟨op,d,a,b,imm⟩,lab,wd⟩))/\Below w.heap.size w w':=by
 go_enter Tryz.func192,Tryz.ntmps192
 go_wp2
 all_goals
  go_ret
  exact⟨Zi (by simp only[S.named];grind),(Yh _ _).alloc (Yb _) _⟩
theorem Znw (k op d a b imm:Int)(lab:ByteArray)(wd:Int)(w:World) :
 Calls Tryz.prog 191 #[.agg #[.int .i64 k,.int .i64 op,.int .i64 d,.int .i64 a,.int .i64 b,.int .i64 imm,.string lab,.int .u32 wd]] w
  λ e w'=>e=.returned (.int .i64 (S.chkItem ⟨k,⟨op,d,a,b,imm⟩,lab,wd⟩))/\Below w.heap.size w w':=by
 by_cases c3:k=3
 .subst c3
  go_enter Tryz.func191,Tryz.ntmps191
  go_wp2
  refine Z9 (by kernel_rfl) (by kernel_rfl) ?_;have hE:=Zu (w.alloc (.cells #[.int .i64 3,.int .i64 op,.int .i64 d,.int .i64 a,.int .i64 b,.int .i64 imm,.string lab,.int .u32 wd] 74))
  repeat (first
   | go_big_quiet_step ((first
    | (go_at_call 197;exact Zdp (asm_Turned _ _))
    | (go_at_call 201;exact Ze8 (Zck _ _ _ _ _ _)))))
  refine wpQuiet_nil ?_;rintro _ ⟨⟨w1,hb1⟩,rfl⟩
  go_wp2
  go_ret
  refine⟨Z2 ?_,((Yh _ _).alloc (Yb _) _).trans (hb1.mono (by simp))⟩;simp only[Zrs];simp[S.chkItem]
 .have d3:(k==3)=false:=by simp[c3]
  go_enter Tryz.func191,Tryz.ntmps191
  go_wp2_with (go_at_call 201;refine(Zck _ _ _ _ _ _).mono ?_;rintro e w' ⟨rfl,hb⟩)
  all_goals
   go_ret
   first
    | exact⟨Z2 (by first | (simp only[Zxo];grind [S.chkItem,S.chk]) | grind [S.chkItem,S.chk]),((Yh _ _).alloc (Yb _) _).trans (Below.mono ‹_› (by simp))⟩
    | exact⟨Z2 (by grind [S.chkItem,S.chk]),(Yh _ _).alloc (Yb _) _⟩
theorem Zpw {P:Program}{o:Oper}{a:Act}{K:Act->World->Prop}{Q:Exit->Act->World->Prop}{w:World}(s x:Operand)(t:TypeId)
 (ho:o.op=.call { callee:=.builtin .append,args:=#[s,x],argTypes:=#[t,t] })
 (base:Nat) (e:TypeId) {z:Value} {size bytes:Nat} (hinfo:(P.info? e).map (λ i=>(i.zero,i.size,i.bytes))=some (some z,size,bytes)) (ht:P.underlying t=some (.slice e))
 (hzs:z.cells.size=size) (hsz:0<size) (v:Value) (n:Nat) (xs:List Value) (hs:a.eval s=v) (hown:w.ownsRow base e size v n xs)
 (B:Nat) (A:Option Addr) (m c:Nat) (news:List Value) (hx:a.eval x=.slice A m c) (hm:news.length=m*size) (hA:A=none->m=0) (hr:Reads w B A news) (h1:∀u∈news,u.oneCell'=true)
 (h63:n+m<=maxLen) (hbytes:(n+m)*bytes<=140737488355328) (hbase:base<=w.heap.size)
 (h:∀v' w',w'.ownsRow base e size v' (n+m) (xs++news)->w.grownBy w' v.ownBlock->Below base w w'->(v'.ownBlock=v.ownBlock\/v'.ownBlock=some w.heap.size)->K (a.put o.dst v') w') :
 o.wp P a w K Q:=by
 obtain⟨i,hi,hz,hsize,hby⟩:=info_parts hinfo;have hfin:∃v' w',(Builtin.append_ #[t,t] o.type #[v,.slice A m c]).run P w=.ok v' w'/\w'.ownsRow base e size v' (n+m) (xs++news)/\w.grownBy w' v.ownBlock/\(v'.ownBlock=v.ownBlock\/v'.ownBlock=some w.heap.size):=by
  rcases A with _|ad
  .have h0:=hA rfl
   subst h0;have hn:news=[]:=List.eq_nil_of_length_eq_zero (by rw[hm];simp);subst hn;exact⟨v,w,Zcc w base t _ e i size ht hi v n xs hown c,by simpa using hown,World.grownBy.refl w _,.inl rfl⟩
  .have hcells:∀j u,news[j]?=some u->w.cell? (ad.add j)=some u:=by
    intro j u hu;have hlt:=(Yg.1 hu).1;obtain⟨b,off,he,hbB,hc⟩:=hr (by omega)
    cases he
    rw[Addr.add_mk];exact hc j u hu
   obtain⟨v',w',hrun,h2,h3,_,h5⟩:=run_append_own_at (P:=P) w base t o.type e i z size bytes ht hi hz hsize hby hzs hsz v n xs hown ad m c news hm hcells h1 h63 hbytes hbase;exact⟨v',w',hrun,h2,h3,h5⟩
 obtain⟨v',w',hrun,h2,h3,h4⟩:=hfin;unfold Oper.wp execOp;simp only[ho,resolve,invoke,builtin,Sem.run_bind,Sem.run_pure,Result.andThen_ok,List.map_toArray,List.map_cons,List.map_nil,hs,hx,hrun];exact h v' w' h2 h3 ((Yh _ _).grown h3 hbase (λ k hk=>(hown.lt k hk).1)) h4
theorem Zad {P:Program}{ops:Array Oper}{rest:List Oper}{o:Oper}{a:Act}{Q:Exit->Act->World->Prop}{w:World}(hgd:o.guard=none)(s x:Operand)(t:TypeId)
 (ho:o.op=.call { callee:=.builtin .append,args:=#[s,x],argTypes:=#[t,t] })
 (base:Nat) (e:TypeId) {z:Value} {size bytes:Nat} (hinfo:(P.info? e).map (λ i=>(i.zero,i.size,i.bytes))=some (some z,size,bytes)) (ht:P.underlying t=some (.slice e))
 (hzs:z.cells.size=size) (hsz:0<size) (v:Value) (n:Nat) (xs:List Value) (hs:a.eval s=v) (hown:w.ownsRow base e size v n xs)
 (B:Nat) (A:Option Addr) (m c:Nat) (news:List Value) (hx:a.eval x=.slice A m c) (hm:news.length=m*size) (hA:A=none->m=0) (hr:Reads w B A news) (h1:∀u∈news,u.oneCell'=true)
 (h63:n+m<=maxLen) (hbytes:(n+m)*bytes<=140737488355328) (hbase:base<=w.heap.size)
 (h:∀v' w',w'.ownsRow base e size v' (n+m) (xs++news)->w.grownBy w' v.ownBlock->Below base w w'->(v'.ownBlock=v.ownBlock\/v'.ownBlock=some w.heap.size)->wpList P ops Q rest (a.put o.dst v') w') :
 wpList P ops Q (o::rest) a w :=
 wpList_plain hgd λ _ hK=>Zpw s x t ho base e hinfo ht hzs hsz v n xs hs hown B A m c news hx hm hA hr h1 h63 hbytes hbase λ v' w' h2 h3 h4 h5=>hK _ _ (h v' w' h2 h3 h4 h5)
theorem Z4m {a b:ByteArray}(h:a=b):(a.toList==b.toList)=true:=by simp[h]
theorem Z4n {a b:ByteArray}(h:a≠b):(a.toList==b.toList)=false:=by
 rw[beq_eq_false_iff_ne];intro e;rw[ByteArray.toList_eq,ByteArray.toList_eq] at e;exact h (WideShapes.bytes_inj e)
theorem Zvf {a b:Int}(h:a=b):(a==b)=true:=by simp[h]
theorem Zcm {a b:Int}(h:a≠b):(a==b)=false:=by simp[h]
structure ItemAt (w:World)(b o:Nat)(x:S.Item):Prop where
 c0:w.cell? ⟨b,o,none⟩=some (.int .i64 x.kind)
 c1:w.cell? ⟨b,o+1,none⟩=some (.int .i64 x.inst.op)
 c2:w.cell? ⟨b,o+2,none⟩=some (.int .i64 x.inst.d)
 c3:w.cell? ⟨b,o+3,none⟩=some (.int .i64 x.inst.a)
 c4:w.cell? ⟨b,o+4,none⟩=some (.int .i64 x.inst.b)
 c5:w.cell? ⟨b,o+5,none⟩=some (.int .i64 x.inst.imm)
 c6:w.cell? ⟨b,o+6,none⟩=some (.string x.label)
 c7:w.cell? ⟨b,o+7,none⟩=some (.int .u32 x.word)
 w0:0<=x.word
 w1:x.word<=4294967295
def Items (w:World)(B:Nat)(A:Option Addr)(xs:List S.Item):Prop :=
 0<xs.length->∃b off,A=some ⟨b,off,none⟩/\b<B/\∀i x,xs[i]?=some x->ItemAt w b (off+i*8) x
theorem ItemAt.keep {w w':World}{b o:Nat}{x:S.Item}(h:ItemAt w b o x)(hk:∀o,w'.cell? ⟨b,o,none⟩=w.cell? ⟨b,o,none⟩):ItemAt w' b o x :=
 ⟨(hk _).trans h.c0,(hk _).trans h.c1,(hk _).trans h.c2,(hk _).trans h.c3,(hk _).trans h.c4,(hk _).trans h.c5,(hk _).trans h.c6,(hk _).trans h.c7,h.w0,h.w1⟩
theorem Items.below {w w':World}{B:Nat}{A:Option Addr}{xs:List S.Item}(h:Items w B A xs)(hb:Below B w w'):Items w' B A xs:=λ hp=>by
 obtain⟨b,off,e,hbB,hc⟩:=h hp;exact⟨b,off,e,hbB,λ i x hx=>(hc i x hx).keep λ o=>hb.cell (p:=⟨b,o,none⟩) hbB⟩
theorem Items.words {w:World}{B:Nat}{A:Option Addr}{xs:List S.Item}(h:Items w B A xs):∀x∈xs,0<=x.word/\x.word<=4294967295:=λ x hx=>by
 obtain⟨i,hi,rfl⟩:=Ych hx;obtain⟨b,off,e,hbB,hc⟩:=h (by omega);have:=hc i _ (Yf hi);exact⟨this.w0,this.w1⟩
theorem Items.more {w:World}{B B':Nat}{A:Option Addr}{xs:List S.Item}(h:Items w B A xs)(hB:B<=B'):Items w B' A xs:=λ hp=>by
 obtain⟨b,off,e,hbB,hc⟩:=h hp;exact⟨b,off,e,Yy hbB hB,hc⟩
theorem Items.at_ {w:World}{B:Nat}{A:Option Addr}{xs:List S.Item}(h:Items w B A xs){k:Nat}(hk:k<xs.length) :
 ∃b off x,A=some ⟨b,off,none⟩/\b<B/\xs[k]?=some x/\ItemAt w b (off+k*8) x:=by
 obtain⟨b,off,e,hbB,hc⟩:=h (by omega);exact⟨b,off,xs[k],e,hbB,Yf hk,hc k _ (Yf hk)⟩
def Zc (x:S.Item):List Value:=[.int .i64 x.kind,.int .i64 x.inst.op,.int .i64 x.inst.d,.int .i64 x.inst.a,.int .i64 x.inst.b,.int .i64 x.inst.imm,.string x.label,.int .u32 x.word]
theorem Ziv (L:List S.Item)(i:Nat)(x:S.Item)(h:L[i]?=some x)(j:Nat)(hj:j<8):(L.flatMap Zc)[i*8+j]?=(Zc x)[j]?:=by
 induction L generalizing i with
 | nil=>simp at h
 | cons q L ih =>
  cases i with
  | zero =>
   simp only[Ya0,Option.some.injEq] at h;subst h;rw[Ybb,List.getElem?_append_left (by simp[Zc];omega)];simp
  | succ i =>
   have h1:=ih i (by simpa using h);have e1:(i+1)*8+j=(Zc q).length+(i*8+j):=by simp[Zc];omega
   rw[Ybb,e1,List.getElem?_append_right (by omega),Nat.add_sub_cancel_left];exact h1
theorem Zef (xs:List S.Item):(xs.flatMap Zc).length=xs.length*8:=by
 induction xs with
 | nil=>rfl
 | cons x r ih=>rw[Ybb,List.length_append,ih];simp[Zc];omega
theorem Items.reads {w:World}{B:Nat}{A:Option Addr}{xs:List S.Item}(h:Items w B A xs):Reads w B A (xs.flatMap Zc):=λ hp=>by
 rw[Zef] at hp;obtain⟨b,off,e,hB,hc⟩:=h (by omega);refine⟨b,off,e,hB,λ i v hv=>?_⟩;have hlt:=(Yg.1 hv).1;rw[Zef] at hlt;have hq:i/8<xs.length:=by omega
 have hx:xs[i/8]?=some xs[i/8]:=Yf hq;have ei:i/8*8+i%8=i:=by omega
 have h1:=Ziv xs (i/8) _ hx (i%8) (by omega);rw[ei,hv] at h1;obtain⟨h0,h1',h2,h3,h4,h5,h6,h7,_,_⟩:=hc (i/8) _ hx;have hr:i%8=0\/i%8=1\/i%8=2\/i%8=3\/i%8=4\/i%8=5\/i%8=6\/i%8=7:=by omega
 have eo:off+i=off+i/8*8+i%8:=by omega
 rw[eo];rcases hr with r|r|r|r|r|r|r|r
 all_goals
  rw[r] at h1⊢;simp only[Zc,Ya0,List.getElem?_cons_succ] at h1
  cases h1
  assumption
theorem Znx (xs:List S.Item):∀u∈xs.flatMap Zc,u.oneCell'=true:=by
 intro u hu;obtain⟨x,_,hx⟩:=List.mem_flatMap.1 hu;simp only[Zc,List.mem_cons,List.not_mem_nil,or_false] at hx;rcases hx with rfl|rfl|rfl|rfl|rfl|rfl|rfl|rfl <;> rfl
theorem Items.of_own {w:World}{base:Nat}{e:TypeId}{A:Option Addr}{m c n:Nat}{xs:List S.Item}(h:w.ownsRow base e 8 (.slice A m c) n (xs.flatMap Zc))(hw:∀x∈xs,0<=x.word/\x.word<=4294967295):Items w w.heap.size A xs:=λ hp=>by
 have hl:(xs.flatMap Zc).length=n*8:=h.1;rw[Zef] at hl;obtain⟨g,rfl,_,hg2,_,hg4,_⟩:=Z6 h (by omega);refine⟨g,0,rfl,hg2,λ i x hx=>?_⟩;have hi:=(Yg.1 hx).1;have hc:∀j,j<8->w.cell? ⟨g,0+i*8+j,none⟩=(Zc x)[j]?:=by
  intro j hj;rw[Y9,hg4 _ (by omega),Ziv xs i x hx j hj]
 obtain⟨w0,w1⟩:=hw x (Y1 hx);exact⟨hc 0 (by omega),hc 1 (by omega),hc 2 (by omega),hc 3 (by omega),hc 4 (by omega),hc 5 (by omega),hc 6 (by omega),hc 7 (by omega),w0,w1⟩
theorem Zf7:(Tryz.prog.info? 3).map (λ i=>(i.zero,i.size,i.bytes))=some (some (.int .i64 0),1,8):=by kernel_rfl
def Ints (w:World)(B:Nat)(A:Option Addr)(xs:List Int):Prop :=
 0<xs.length->∃b off,A=some ⟨b,off,none⟩/\b<B/\∀i x,xs[i]?=some x->w.cell? ⟨b,off+i,none⟩=some (.int .i64 x)
theorem Ints.below {w w':World}{B:Nat}{A:Option Addr}{xs:List Int}(h:Ints w B A xs)(hb:Below B w w'):Ints w' B A xs:=λ hp=>by
 obtain⟨b,off,e,hbB,hc⟩:=h hp;exact⟨b,off,e,hbB,λ i x hx=>(hb.cell (p:=⟨b,off+i,none⟩) hbB).trans (hc i x hx)⟩
theorem Ints.more {w:World}{B B':Nat}{A:Option Addr}{xs:List Int}(h:Ints w B A xs)(hB:B<=B'):Ints w B' A xs:=λ hp=>by
 obtain⟨b,off,e,hbB,hc⟩:=h hp;exact⟨b,off,e,Yy hbB hB,hc⟩
theorem Ints.at_ {w:World}{B:Nat}{A:Option Addr}{xs:List Int}(h:Ints w B A xs){k:Nat}(hk:k<xs.length) :
 ∃b off,A=some ⟨b,off,none⟩/\b<B/\w.cell? ⟨b,off+k,none⟩=some (.int .i64 (xs.getD k 0)):=by
 obtain⟨b,off,e,hbB,hc⟩:=h (by omega);refine⟨b,off,e,hbB,hc k _ ?_⟩;simp[hk]
theorem Ints.two {w:World}{B:Nat}{A:Option Addr}{xs:List Int}(h:Ints w B A xs)(hp:0<xs.length) :
 ∃b off,A=some ⟨b,off,none⟩/\b<B/\∀i x,xs[i]?=some x->w.cell? ⟨b,off+i,none⟩=some (.int .i64 x):=h hp
theorem Ints.of_own {w:World}{base:Nat}{e:TypeId}{A:Option Addr}{m c n:Nat}{xs:List Int}(h:w.ownsRow base e 1 (.slice A m c) n (xs.map (Value.int .i64))):Ints w w.heap.size A xs:=λ hp=>by
 have hl:xs.length=n:=by have:=h.1;simpa using this
 obtain⟨g,rfl,hg1,hg2,hg3,hg4,_⟩:=Z6 h (by omega);refine⟨g,0,rfl,hg2,λ i x hx=>?_⟩;have hi:=(Yg.1 hx).1;have h1:=hg4 i (by omega);rw[Y9,h1,List.getElem?_map,hx];rfl
theorem Za1:(Tryz.prog.info? 74).map (λ i=>(i.zero,i.size,i.bytes))=some (some (.agg #[.int .i64 0,.int .i64 0,.int .i64 0,.int .i64 0,.int .i64 0,.int .i64 0,.string ByteArray.empty,.int .u32 0]),8,72):=by kernel_rfl
structure Z4o (w:World)(B b o:Nat)(x:S.Obj):Prop where
 c0:w.cell? ⟨b,o,none⟩=some (.string x.name)
 c1:∃A c,w.cell? ⟨b,o+1,none⟩=some (.slice A x.items.length c)/\Items w B A x.items
 nm:x.name.size<=maxLen
 lab:∀y∈x.items,y.label.size<=maxLen
def Objs (w:World)(B:Nat)(A:Option Addr)(os:List S.Obj):Prop :=
 0<os.length->∃b off,A=some ⟨b,off,none⟩/\b<B/\∀i x,os[i]?=some x->Z4o w B b (off+i*2) x
theorem Objs.below {w w':World}{B:Nat}{A:Option Addr}{os:List S.Obj}(h:Objs w B A os)(hb:Below B w w'):Objs w' B A os:=λ hp=>by
 obtain⟨b,off,e,hbB,hc⟩:=h hp;refine⟨b,off,e,hbB,λ i x hx=>?_⟩;obtain⟨h0,⟨A',c',h1,h2⟩,h3,h4⟩:=hc i x hx;exact⟨(hb.cell (p:=⟨b,_,none⟩) hbB).trans h0,⟨A',c',(hb.cell (p:=⟨b,_,none⟩) hbB).trans h1,h2.below hb⟩,h3,h4⟩
theorem Objs.more {w:World}{B B':Nat}{A:Option Addr}{os:List S.Obj}(h:Objs w B A os)(hB:B<=B'):Objs w B' A os:=λ hp=>by
 obtain⟨b,off,e,hbB,hc⟩:=h hp;refine⟨b,off,e,by omega,λ i x hx=>?_⟩;obtain⟨h0,⟨A',c',h1,h2⟩,h3,h4⟩:=hc i x hx;exact⟨h0,⟨A',c',h1,h2.more hB⟩,h3,h4⟩
theorem Objs.at_ {w:World}{B:Nat}{A:Option Addr}{os:List S.Obj}(h:Objs w B A os){k:Nat}(hk:k<os.length) :
 ∃b off x,A=some ⟨b,off,none⟩/\b<B/\os[k]?=some x/\Z4o w B b (off+k*2) x:=by
 obtain⟨b,off,e,hbB,hc⟩:=h (by omega);exact⟨b,off,os[k],e,hbB,Yf hk,hc k _ (Yf hk)⟩
def seen (os:List S.Obj)(k:Nat)(s:ByteArray):Option Int:=if ∃j:Nat,j<k/\∃x:S.Obj,os[j]?=some x/\x.name=s then some 1 else none
def Zdy (os:List S.Obj)(k:Nat):Int:=if ∃j:Nat,j<k/\∃x:S.Obj,os[j]?=some x/\S.badN x=true then 2 else 0
def Zyt (os:List S.Obj)(k:Nat):Prop:=∀i j:Nat,∀a b:S.Obj,i<k->j<i->os[i]?=some a->os[j]?=some b->a.name≠b.name
theorem Zvg (os:List S.Obj):seen os 0=λ _=>none:=by
 funext s
 unfold seen;rw[if_neg];rintro⟨j,hj,_⟩;omega
theorem Zvh {os:List S.Obj}{k:Nat}{x:S.Obj}(hx:os[k]?=some x):seen os (k+1)=λ t=>if t=x.name then some 1 else seen os k t:=by
 funext t
 unfold seen;by_cases c:t=x.name
 .rw[if_pos c,if_pos ⟨k,by omega,x,hx,c.symm⟩]
 .rw[if_neg c]
  congr 1
  rw[eq_iff_iff]
  constructor
  .rintro⟨j,hj,y,hy,e⟩
   by_cases h:j=k
   .subst h
    rw[hx] at hy
    cases hy
    exact absurd e.symm c
   .exact⟨j,by omega,y,hy,e⟩
  .rintro⟨j,hj,y,hy,e⟩
   exact⟨j,by omega,y,hy,e⟩
theorem Zvi {os:List S.Obj}{k:Nat}{x:S.Obj}(hx:os[k]?=some x)(hs:seen os k x.name=none)(hd:Zyt os k):Zyt os (k+1):=by
 intro i j a b hi hj ha hb e;by_cases h:i=k
 .subst h
  rw[hx] at ha
  cases ha
  unfold seen at hs;rw[if_pos ⟨j,hj,b,hb,e.symm⟩] at hs
  cases hs
 .exact hd i j a b (by omega) hj ha hb e
theorem Zvj {os:List S.Obj}{k:Nat}{x:S.Obj}(hx:os[k]?=some x){v:Int}(hs:seen os k x.name=some v):v=1/\S.DupN os:=by
 unfold seen at hs
 split at hs
 .rename_i h
  obtain⟨j,hj,y,hy,e⟩:=h;exact⟨by cases hs;rfl,k,j,x,y,hj,hx,hy,e.symm⟩
 .cases hs
theorem Zpx (os:List S.Obj):Zdy os 0=0:=by
 unfold Zdy;rw[if_neg];rintro⟨j,hj,_⟩;omega
theorem Zpy {os:List S.Obj}{k:Nat}{x:S.Obj}(hx:os[k]?=some x):Zdy os (k+1)=if S.badN x=true then 2 else Zdy os k:=by
 unfold Zdy;by_cases c:S.badN x=true
 .rw[if_pos c,if_pos ⟨k,by omega,x,hx,c⟩]
 .rw[if_neg c]
  congr 1
  rw[eq_iff_iff]
  constructor
  .rintro⟨j,hj,y,hy,e⟩
   by_cases h:j=k
   .subst h
    rw[hx] at hy
    cases hy
    exact absurd e c
   .exact⟨j,by omega,y,hy,e⟩
  .rintro⟨j,hj,y,hy,e⟩
   exact⟨j,by omega,y,hy,e⟩
theorem Zvk {os:List S.Obj}(hd:Zyt os os.length):S.NamesRes os (Zdy os os.length):=by
 have hd':¬S.DupN os:=by
  rintro⟨i,j,a,b,hj,ha,hb,e⟩;exact hd i j a b (Yg.1 ha).1 hj ha hb e
 unfold Zdy
 split
 .rename_i h
  obtain⟨j,_,x,hx,hb⟩:=h;exact .inr (.inl ⟨hd',⟨x,Y1 hx,hb⟩,rfl⟩)
 .rename_i h
  refine .inr (.inr ⟨hd',λ o ho=>?_,rfl⟩);obtain⟨j,hj,rfl⟩:=Ych ho;rw[Bool.eq_false_iff];intro hb;exact h ⟨j,hj,_,Yf hj,hb⟩
theorem Zyu {n:Int}(h:-9223372036854775808<=n/\n<=9223372036854775807):(Lit.int .i64 n).wf=true:=by
 simp[Lit.wf,IntKind.min,IntKind.max,IntKind.signed,IntKind.bits];omega
theorem Zds {w w':World}{m b:Nat}(hg:w.grownBy w' (some m))(hlt:b<w.heap.size)(hne:b≠m)(j:Nat):w'.cell? ⟨b,j,none⟩=w.cell? ⟨b,j,none⟩:=by
 simp only[World.cell?,hg.block b hlt (by simpa using hne)]
theorem Zc7 (w:World)(cs:Array Value)(t:TypeId):(w.alloc (.cells cs t)).heap[w.heap.size]?=some (.cells cs t (0,0))/\Below w.heap.size w (w.alloc (.cells cs t))/\(w.alloc (.cells cs t)).heap.size=w.heap.size+1 :=
 ⟨heap_alloc_new _ _,(Yh _ _).alloc (Yb _) _,by simp⟩
theorem Zb8 {ops:Array Oper}{rest:List Oper}{o:Oper}{a:Act}{Q:Exit->Act->World->Prop}{w:World}(hg:o.guard=none)(hd:o.dst=none)(mo x v:Operand)(hop:o.op=Op.mapUpdate 179 mo x v)
 (m n:Nat) (f:ByteArray->Option Int) (hm:a.eval mo=.map (some m)) (h:MapS w m n f) (hn:n<1152921504606846976) (s:ByteArray) (q:Int) (hx:a.eval x=.string s) (hv:a.eval v=.int .i64 q) (hs:s.size<=maxLen) (hq:(Lit.int .i64 q).wf=true)
 (hK:∀w',MapS w' m (if (f s).isSome then n else n+1) (λ t=>if t=s then some q else f t)->w.grownBy w' (some m)->wpList Tryz.prog ops Q rest a w'):wpList Tryz.prog ops Q (o::rest) a w:=by
 refine Zf3 hg mo x v hop m n f hm h hn s q hx hv hs hq ?_;intro w' h1 h2;rw[hd];exact hK w' h1 h2
def Zvl (os:List S.Obj)(w:World)(e:Ending)(w':World):Prop:=∃r,e=.returned (.int .i64 r)/\S.NamesRes os r/\Below w.heap.size w w'
theorem Zny (A:Option Addr)(c:Nat)(os:List S.Obj)(w:World)(hi:Objs w w.heap.size A os)(hl:os.length<=1048576) :
 Calls Tryz.prog 104 #[.slice A os.length c] w (Zvl os w):=by
 have hmm:=@run_makeMap Tryz.prog;go_enter Tryz.func104,Tryz.ntmps104
 go_wp2_with fail
 go_loopw [4,10] (λ ev i wr=>∃k:Nat,k<=os.length/\i=.int .i64 k/\ev=.int .i64 (Zdy os k)/\MapS wr w.heap.size k (seen os k)/\Zyt os k/\Below w.heap.size w wr) (λ _ i _=>os.length-(intOf i).toNat)
 case atStart=>exact⟨0,by omega,rfl,by rw[Zpx],by rw[Zvg];exact MapS.made w,λ i j a b h=>by omega,(Yh _ _).alloc (Yb _) _⟩
 case round =>
  obtain⟨k,hk,rfl,rfl,hM,hd,hbk⟩:=hrel;have hzk:=hM.lt;by_cases hlt:k<os.length
  .obtain⟨b,off,x,rfl,hb,hx,hc0,⟨Ai,ci,hc1,hI⟩,hn,_⟩:=(hi.below hbk).at_ hlt
   have Hx:=Ya hx;have Hd:=Ya hd;clear hx hd;obtain⟨nm,its⟩:=x;simp only at hc0 hc1 hn;have hbr:b<wr.heap.size:=by omega
   obtain⟨x1,x2,x3⟩:=Zc7 wr #[.string nm,.slice Ai its.length ci] 70;go_upto_region 6 with fail
   generalize wr.alloc (.cells #[.string nm,.slice Ai its.length ci] 70)=wX at *;have hX0:wX.cell? ⟨wr.heap.size,0,none⟩=some (.string nm):=by simp[World.cell?,x1]
   have hMX:=hM.below x2;have hbX:=hbk.trans (x2.mono (by omega));have hzX:wr.heap.size<wX.heap.size:=by omega
   have hlk:=hMX.look hn;clear x1 x2 x3 hM hc0 hc1
   cases hs:seen os k nm with
   | some v =>
    obtain⟨rfl,hdup⟩:=Zvj Hx.out hs;have e1:(seen os k nm).getD 0=1:=by rw[hs];rfl
    rw[e1] at hlk;have Hs:=Ya hs;have Hdup:=Ya hdup;clear hs hdup e1;go_wp2_with (at_mapUpdate;refine Zb8 rfl rfl (.tmp 14) (.tmp 16) (.tmp 18) rfl w.heap.size k _ rfl hMX (by omega) nm 2 rfl rfl hn (Zyu (by omega)) ?_;intro w2 hM2 hg2;have hlk2:=hM2.look hn;have hc2:w2.cell? ⟨wr.heap.size,0,none⟩=some (.string nm):=(Zds hg2 hzX (by omega) 0).trans hX0)
    go_ret
    exact⟨14,rfl,.inl ⟨Hdup.out,rfl⟩,Zb1 hbX hg2 (by omega) (λ _ h=>by cases h;exact Yb _)⟩
   | none =>
    have e1:(seen os k nm).getD 0=0:=by rw[hs];rfl
    rw[e1] at hlk;have hnd:=Zvi Hx.out hs Hd.out;have Hnd:=Ya hnd;have Hs:=Ya hs;have Hbs:=Ya (Zpy Hx.out);have Hss:=Ya (Zvh Hx.out);clear hs hnd e1;have hway:nm.toList=[]\/(nm.toList≠[]/\S.ownB nm=true)\/(nm.toList≠[]/\S.ownB nm=false):=by
     by_cases c1:nm.toList=[]
     .exact .inl c1
     .cases c2:S.ownB nm
      .exact .inr (.inr ⟨c1,rfl⟩)
      .exact .inr (.inl ⟨c1,rfl⟩)
    have Hway:=Ya hway;clear hway;rcases Hway.out with h0|⟨h0,h1⟩|⟨h0,h1⟩
    .skip
     go_wp2_with (at_mapUpdate;refine Zb8 rfl rfl (.tmp 14) (.tmp 16) (.tmp 18) rfl w.heap.size k _ rfl hMX (by omega) nm 1 rfl rfl hn (Zyu (by omega)) ?_;intro w2 hM2 hg2;have hlk2:=hM2.look hn;have hc2:w2.cell? ⟨wr.heap.size,0,none⟩=some (.string nm):=(Zds hg2 hzX (by omega) 0).trans hX0)
     have hM3:MapS w2 w.heap.size (k+1) (seen os (k+1)):=by
      rw[Hss.out];have h:=hM2;rw[Hs.out] at h;exact h
     have hb2:Below w.heap.size w w2:=Zb1 hbX hg2 (by omega) (λ _ h=>by cases h;exact Yb _);have hav:Zdy os (k+1)=2:=by
      rw[Hbs.out,if_pos (by simp[S.badN,<- ByteArray.toList_eq,h0])]
     exact⟨⟨k+1,by omega,by go_num,by rw[hav],hM3,Hnd.out,hb2⟩,by simp[intOf];omega⟩
    .have hE:(nm.toList==[])=false:=by simpa using h0
     have hE2:nm.toList.isEmpty=false:=by simpa using h0
     go_wp2_with (at_mapUpdate;refine Zb8 rfl rfl (.tmp 14) (.tmp 16) (.tmp 18) rfl w.heap.size k _ rfl hMX (by omega) nm 1 rfl rfl hn (Zyu (by omega)) ?_;intro w2 hM2 hg2;have hlk2:=hM2.look hn;have hc2:w2.cell? ⟨wr.heap.size,0,none⟩=some (.string nm):=(Zds hg2 hzX (by omega) 0).trans hX0)
     refine(Zan _ _ hn).mono ?_;rintro e w' ⟨rfl,rfl⟩;go_wp2_with fail
     have hM3:MapS w2 w.heap.size (k+1) (seen os (k+1)):=by
      rw[Hss.out];have h:=hM2;rw[Hs.out] at h;exact h
     have hb2:Below w.heap.size w w2:=Zb1 hbX hg2 (by omega) (λ _ h=>by cases h;exact Yb _);have hav:Zdy os (k+1)=2:=by
      rw[Hbs.out,if_pos (by simp[S.badN,<- ByteArray.toList_eq,h0,h1])]
     exact⟨⟨k+1,by omega,by go_num,by rw[hav],hM3,Hnd.out,hb2⟩,by simp[intOf];omega⟩
    .have hE:(nm.toList==[])=false:=by simpa using h0
     have hE2:nm.toList.isEmpty=false:=by simpa using h0
     go_wp2_with (at_mapUpdate;refine Zb8 rfl rfl (.tmp 14) (.tmp 16) (.tmp 18) rfl w.heap.size k _ rfl hMX (by omega) nm 1 rfl rfl hn (Zyu (by omega)) ?_;intro w2 hM2 hg2;have hlk2:=hM2.look hn;have hc2:w2.cell? ⟨wr.heap.size,0,none⟩=some (.string nm):=(Zds hg2 hzX (by omega) 0).trans hX0)
     refine(Zan _ _ hn).mono ?_;rintro e w' ⟨rfl,rfl⟩;go_wp2_with fail
     have hM3:MapS w2 w.heap.size (k+1) (seen os (k+1)):=by
      rw[Hss.out];have h:=hM2;rw[Hs.out] at h;exact h
     have hb2:Below w.heap.size w w2:=Zb1 hbX hg2 (by omega) (λ _ h=>by cases h;exact Yb _);have hav:Zdy os (k+1)=Zdy os k:=by
      rw[Hbs.out,if_neg (by simp[S.badN,<- ByteArray.toList_eq,h0,h1])]
     exact⟨⟨k+1,by omega,by go_num,by rw[hav],hM3,Hnd.out,hb2⟩,by simp[intOf];omega⟩
  .have hke:k=os.length:=by omega
   subst hke;have hres:=Zvk hd;have Hres:=Ya hres;clear hres hd;go_wp2_with fail
   go_ret
   exact⟨_,rfl,Hres.out,hbk⟩
