/- Parts. -/
import Derived.Test.YtdeepoikgfaecaaGreatDoorZIsaD
import Derived.Deep.RegionWith
import Derived.WideShapes
import Derived.Deep.DeepCutAuto
set_option linter.all false
set_option maxHeartbeats 4000000
open Go.Lib renaming hid->Ya
open List renaming length_append->Yc,getElem?_eq_getElem->Yd,getElem?_eq_some_iff->Ye,getElem?_append_left->Yn,getElem?_append_right->Yo,mem_of_getElem?->Yr,length_map->Ys,getElem?_map->Y0,getElem_of_mem->Yaw,getElem?_cons_zero->Yax,flatMap_append->Ya7,flatMap_cons->Ybd,getElem?_take->Ybk
open Nat renaming le_refl->Yf,lt_of_lt_of_le->Yt,zero_add->Yae,add_sub_cancel_left->Yak
open Go.RowKit.Below renaming refl->Yj,trans->Ybh
open Go.World renaming ownsRow_nil->Yai,cell?->Yb1
namespace Go.Proofs.YtdeepoikgfaecaaGreatDoor
set_option maxRecDepth 100000
section
open Go.RowKit
theorem Zgk (k op d a b imm:Int)(lab:ByteArray)(wd form:Int)(w:World)(h3:k=3->1<=form/\form<=3)(h4:k=4->1<=form/\form<=2)(hw0:0<=wd)(hw1:wd<=4294967295) :
 Calls Tryz.prog 202 #[.agg #[.int .i64 k,.int .i64 op,.int .i64 d,.int .i64 a,.int .i64 b,.int .i64 imm,.string lab,.int .u32 wd],.int .i64 form] w
  fun e w'=>e=.returned (.int .i64 (S.size ⟨k,⟨op,d,a,b,imm⟩,lab,wd⟩ form))/\Below w.heap.size w w':=by
 by_cases c3:k=3
 ·obtain ⟨f1,f2⟩:=h3 c3
  clear h3 h4;subst c3;have hf:form=1\/form=2\/form=3:=by omega
  clear f1 f2;have ix:∀ w:World,(Instr.index 235 (.agg #[.int .i64 0,.int .i64 1,.int .i64 2,.int .i64 4]) (.int .i64 1)).run Tryz.prog w=.ok (.int .i64 1) w:=fun _=>by kernel_rfl
  have iy:∀ w:World,(Instr.index 235 (.agg #[.int .i64 0,.int .i64 1,.int .i64 2,.int .i64 4]) (.int .i64 2)).run Tryz.prog w=.ok (.int .i64 2) w:=fun _=>by kernel_rfl
  have iz:∀ w:World,(Instr.index 235 (.agg #[.int .i64 0,.int .i64 1,.int .i64 2,.int .i64 4]) (.int .i64 3)).run Tryz.prog w=.ok (.int .i64 4) w:=fun _=>by kernel_rfl
  rcases hf with rfl | rfl | rfl
  all_goals
   go_enter Tryz.func202,Tryz.ntmps202
   go_wp2
   go_ret
   exact ⟨Zw (by simp [S.size]),(Yj _ _).alloc (Yf _) _⟩
 ·by_cases c4:k=4
  ·obtain ⟨f1,f2⟩:=h4 c4
   clear h3 h4 c3;subst c4;have hf:form=1\/form=2:=by omega
   clear f1 f2;have ix:∀ w:World,(Instr.index 236 (.agg #[.int .i64 0,.int .i64 1,.int .i64 3]) (.int .i64 1)).run Tryz.prog w=.ok (.int .i64 1) w:=fun _=>by kernel_rfl
   have iy:∀ w:World,(Instr.index 236 (.agg #[.int .i64 0,.int .i64 1,.int .i64 3]) (.int .i64 2)).run Tryz.prog w=.ok (.int .i64 3) w:=fun _=>by kernel_rfl
   rcases hf with rfl | rfl
   all_goals
    go_enter Tryz.func202,Tryz.ntmps202
    go_wp2
    go_ret
    exact ⟨Zw (by simp [S.size]),(Yj _ _).alloc (Yf _) _⟩
  ·clear h3 h4
   have d3:(k==3)=false:=by simp [c3]
   have d4:(k==4)=false:=by simp [c4]
   go_enter Tryz.func202,Tryz.ntmps202
   go_wp2
   all_goals
    go_ret
    exact ⟨Zw (by simp_all [S.size]),(Yj _ _).alloc (Yf _) _⟩
theorem Zk5 (k op d a b imm:Int)(lab:ByteArray)(wd:Int)(w:World) :
 Calls Tryz.prog 176 #[.agg #[.int .i64 k,.int .i64 op,.int .i64 d,.int .i64 a,.int .i64 b,.int .i64 imm,.string lab,.int .u32 wd]] w
  fun e w'=>e=.returned (.bool (S.named ⟨k,⟨op,d,a,b,imm⟩,lab,wd⟩))/\Below w.heap.size w w':=by
 go_enter Tryz.func176,Tryz.ntmps176
 go_wp2
 all_goals
  go_ret
  exact ⟨Zf (by simp only [S.named];grind),(Yj _ _).alloc (Yf _) _⟩
theorem Zk6 (k op d a b imm:Int)(lab:ByteArray)(wd:Int)(w:World) :
 Calls Tryz.prog 175 #[.agg #[.int .i64 k,.int .i64 op,.int .i64 d,.int .i64 a,.int .i64 b,.int .i64 imm,.string lab,.int .u32 wd]] w
  fun e w'=>e=.returned (.int .i64 (S.chkItem ⟨k,⟨op,d,a,b,imm⟩,lab,wd⟩))/\Below w.heap.size w w':=by
 by_cases c3:k=3
 ·subst c3
  go_enter Tryz.func175,Tryz.ntmps175
  go_wp2
  refine Zs (by kernel_rfl) (by kernel_rfl) ?_;have hE:=Ze (w.alloc (.cells #[.int .i64 3,.int .i64 op,.int .i64 d,.int .i64 a,.int .i64 b,.int .i64 imm,.string lab,.int .u32 wd] 59))
  repeat (first
   | go_big_quiet_step ((first
    | (go_at_call 181;exact Zm (asm_Turned _ _))
    | (go_at_call 194;exact Zas (Zb8 _ _ _ _ _ _)))))
  refine wpQuiet_nil ?_;rintro _ ⟨⟨w1,hb1⟩,rfl⟩
  go_wp2
  go_ret
  refine ⟨Zw ?_,((Yj _ _).alloc (Yf _) _).trans (hb1.mono (by simp))⟩;simp only [Zp0];simp [S.chkItem]
 ·have d3:(k==3)=false:=by simp [c3]
  go_enter Tryz.func175,Tryz.ntmps175
  go_wp2_with (go_at_call 194;refine (Zb8 _ _ _ _ _ _).mono ?_;rintro e w' ⟨rfl,hb⟩)
  all_goals
   go_ret
   first
    | exact ⟨Zw (by first | (simp only [Zu3];grind [S.chkItem,S.chk]) | grind [S.chkItem,S.chk]),((Yj _ _).alloc (Yf _) _).trans (Below.mono ‹_› (by simp))⟩
    | exact ⟨Zw (by grind [S.chkItem,S.chk]),(Yj _ _).alloc (Yf _) _⟩
end
section
open Go.RowKit
theorem Zm9 {P:Program}{o:Oper}{a:Act}{K:Act->World->Prop}{Q:Exit->Act->World->Prop}{w:World}(s x:Operand)(t:TypeId)
 (ho:o.op=.call { callee:=.builtin .append,args:=#[s,x],argTypes:=#[t,t] })
 (base:Nat) (e:TypeId) {z:Value} {size bytes:Nat} (hinfo:(P.info? e).map (fun i=>(i.zero,i.size,i.bytes))=some (some z,size,bytes)) (ht:P.underlying t=some (.slice e))
 (hzs:z.cells.size=size) (hsz:0<size) (v:Value) (n:Nat) (xs:List Value) (hs:a.eval s=v) (hown:w.ownsRow base e size v n xs)
 (B:Nat) (A:Option Addr) (m c:Nat) (news:List Value) (hx:a.eval x=.slice A m c) (hm:news.length=m*size) (hA:A=none->m=0) (hr:Reads w B A news) (h1:∀ u∈news,u.oneCell'=true)
 (h63:n+m<=maxLen) (hbytes:(n+m)*bytes<=140737488355328) (hbase:base<=w.heap.size)
 (h:∀ v' w',w'.ownsRow base e size v' (n+m) (xs++news)->w.grownBy w' v.ownBlock->Below base w w'->(v'.ownBlock=v.ownBlock\/v'.ownBlock=some w.heap.size)->K (a.put o.dst v') w') :
 o.wp P a w K Q:=by
 obtain ⟨i,hi,hz,hsize,hby⟩:=info_parts hinfo;have hfin:∃ v' w',(Builtin.append_ #[t,t] o.type #[v,.slice A m c]).run P w=.ok v' w'/\w'.ownsRow base e size v' (n+m) (xs++news)/\w.grownBy w' v.ownBlock/\(v'.ownBlock=v.ownBlock\/v'.ownBlock=some w.heap.size):=by
  rcases A with _ | ad
  ·have h0:=hA rfl
   subst h0;have hn:news=[]:=List.eq_nil_of_length_eq_zero (by rw [hm];simp);subst hn;exact ⟨v,w,Zbz w base t _ e i size ht hi v n xs hown c,by simpa using hown,World.grownBy.refl w _,.inl rfl⟩
  ·have hcells:∀ j u,news[j]?=some u->w.cell? (ad.add j)=some u:=by
    intro j u hu;have hlt:=(Ye.1 hu).1;obtain ⟨b,off,he,hbB,hc⟩:=hr (by omega)
    cases he
    rw [Addr.add_mk];exact hc j u hu
   obtain ⟨v',w',hrun,h2,h3,_,h5⟩:=run_append_own_at (P:=P) w base t o.type e i z size bytes ht hi hz hsize hby hzs hsz v n xs hown ad m c news hm hcells h1 h63 hbytes hbase;exact ⟨v',w',hrun,h2,h3,h5⟩
 obtain ⟨v',w',hrun,h2,h3,h4⟩:=hfin;unfold Oper.wp execOp;simp only [ho,resolve,invoke,builtin,Sem.run_bind,Sem.run_pure,Result.andThen_ok,List.map_toArray,List.map_cons,List.map_nil,hs,hx,hrun];exact h v' w' h2 h3 ((Yj _ _).grown h3 hbase (fun k hk=>(hown.lt k hk).1)) h4
theorem Z7 {P:Program}{ops:Array Oper}{rest:List Oper}{o:Oper}{a:Act}{Q:Exit->Act->World->Prop}{w:World}(hgd:o.guard=none)(s x:Operand)(t:TypeId)
 (ho:o.op=.call { callee:=.builtin .append,args:=#[s,x],argTypes:=#[t,t] })
 (base:Nat) (e:TypeId) {z:Value} {size bytes:Nat} (hinfo:(P.info? e).map (fun i=>(i.zero,i.size,i.bytes))=some (some z,size,bytes)) (ht:P.underlying t=some (.slice e))
 (hzs:z.cells.size=size) (hsz:0<size) (v:Value) (n:Nat) (xs:List Value) (hs:a.eval s=v) (hown:w.ownsRow base e size v n xs)
 (B:Nat) (A:Option Addr) (m c:Nat) (news:List Value) (hx:a.eval x=.slice A m c) (hm:news.length=m*size) (hA:A=none->m=0) (hr:Reads w B A news) (h1:∀ u∈news,u.oneCell'=true)
 (h63:n+m<=maxLen) (hbytes:(n+m)*bytes<=140737488355328) (hbase:base<=w.heap.size)
 (h:∀ v' w',w'.ownsRow base e size v' (n+m) (xs++news)->w.grownBy w' v.ownBlock->Below base w w'->(v'.ownBlock=v.ownBlock\/v'.ownBlock=some w.heap.size)->wpList P ops Q rest (a.put o.dst v') w') :
 wpList P ops Q (o::rest) a w :=
 wpList_plain hgd fun _ hK=>Zm9 s x t ho base e hinfo ht hzs hsz v n xs hs hown B A m c news hx hm hA hr h1 h63 hbytes hbase fun v' w' h2 h3 h4 h5=>hK _ _ (h v' w' h2 h3 h4 h5)
end
section
open Go.RowKit
theorem Zze {a b:ByteArray}(h:a=b):(a.toList==b.toList)=true:=by simp [h]
theorem Zzf {a b:ByteArray}(h:a≠b):(a.toList==b.toList)=false:=by
 rw [beq_eq_false_iff_ne];intro e;rw [ByteArray.toList_eq,ByteArray.toList_eq] at e;exact h (WideShapes.bytes_inj e)
theorem Zrd {a b:Int}(h:a=b):(a==b)=true:=by simp [h]
theorem Zby {a b:Int}(h:a≠b):(a==b)=false:=by simp [h]
structure ItemAt (w:World)(b o:Nat)(x:S.Item):Prop where
 c0:w.cell? ⟨b,o,none⟩=some (.int .i64 x.kind)
 c1:w.cell? ⟨b,o+1,none⟩=some (.int .i64 x.inst.op)
 c2:w.cell? ⟨b,o+2,none⟩=some (.int .i64 x.inst.d)
 c3:w.cell? ⟨b,o+3,none⟩=some (.int .i64 x.inst.a)
 c4:w.cell? ⟨b,o+4,none⟩=some (.int .i64 x.inst.b)
 c5:w.cell? ⟨b,o+5,none⟩=some (.int .i64 x.inst.imm)
 c6:w.cell? ⟨b,o+6,none⟩=some (.string x.label)
 c7:w.cell? ⟨b,o+7,none⟩=some (.int .u32 x.word)
 w0:0<=x.word
 w1:x.word<=4294967295
def Items (w:World)(B:Nat)(A:Option Addr)(xs:List S.Item):Prop :=
 0<xs.length->∃ b off,A=some ⟨b,off,none⟩/\b<B/\∀ i x,xs[i]?=some x->ItemAt w b (off+i*8) x
theorem ItemAt.keep {w w':World}{b o:Nat}{x:S.Item}(h:ItemAt w b o x)(hk:∀ o,w'.cell? ⟨b,o,none⟩=w.cell? ⟨b,o,none⟩):ItemAt w' b o x :=
 ⟨(hk _).trans h.c0,(hk _).trans h.c1,(hk _).trans h.c2,(hk _).trans h.c3,(hk _).trans h.c4,(hk _).trans h.c5,(hk _).trans h.c6,(hk _).trans h.c7,h.w0,h.w1⟩
theorem Items.below {w w':World}{B:Nat}{A:Option Addr}{xs:List S.Item}(h:Items w B A xs)(hb:Below B w w'):Items w' B A xs:=fun hp=>by
 obtain ⟨b,off,e,hbB,hc⟩:=h hp;exact ⟨b,off,e,hbB,fun i x hx=>(hc i x hx).keep fun o=>hb.cell (p:=⟨b,o,none⟩) hbB⟩
theorem Items.words {w:World}{B:Nat}{A:Option Addr}{xs:List S.Item}(h:Items w B A xs):∀ x∈xs,0<=x.word/\x.word<=4294967295:=fun x hx=>by
 obtain ⟨i,hi,rfl⟩:=Yaw hx;obtain ⟨b,off,e,hbB,hc⟩:=h (by omega);have:=hc i _ (Yd hi);exact ⟨this.w0,this.w1⟩
theorem Items.more {w:World}{B B':Nat}{A:Option Addr}{xs:List S.Item}(h:Items w B A xs)(hB:B<=B'):Items w B' A xs:=fun hp=>by
 obtain ⟨b,off,e,hbB,hc⟩:=h hp;exact ⟨b,off,e,Yt hbB hB,hc⟩
theorem Items.at_ {w:World}{B:Nat}{A:Option Addr}{xs:List S.Item}(h:Items w B A xs){k:Nat}(hk:k<xs.length) :
 ∃ b off x,A=some ⟨b,off,none⟩/\b<B/\xs[k]?=some x/\ItemAt w b (off+k*8) x:=by
 obtain ⟨b,off,e,hbB,hc⟩:=h (by omega);exact ⟨b,off,xs[k],e,hbB,Yd hk,hc k _ (Yd hk)⟩
def Zb (x:S.Item):List Value:=[.int .i64 x.kind,.int .i64 x.inst.op,.int .i64 x.inst.d,.int .i64 x.inst.a,.int .i64 x.inst.b,.int .i64 x.inst.imm,.string x.label,.int .u32 x.word]
theorem Zg0 (L:List S.Item)(i:Nat)(x:S.Item)(h:L[i]?=some x)(j:Nat)(hj:j<8):(L.flatMap Zb)[i*8+j]?=(Zb x)[j]?:=by
 induction L generalizing i with
 | nil=>simp at h
 | cons q L ih =>
  cases i with
  | zero =>
   simp only [Yax,Option.some.injEq] at h;subst h;rw [Ybd,Yn (by simp [Zb];omega)];simp
  | succ i =>
   have h1:=ih i (by simpa using h);have e1:(i+1)*8+j=(Zb q).length+(i*8+j):=by simp [Zb];omega
   rw [Ybd,e1,Yo (by omega),Yak];exact h1
theorem Zdv (xs:List S.Item):(xs.flatMap Zb).length=xs.length*8:=by
 induction xs with
 | nil=>rfl
 | cons x r ih=>rw [Ybd,Yc,ih];simp [Zb];omega
theorem Items.reads {w:World}{B:Nat}{A:Option Addr}{xs:List S.Item}(h:Items w B A xs):Reads w B A (xs.flatMap Zb):=fun hp=>by
 rw [Zdv] at hp;obtain ⟨b,off,e,hB,hc⟩:=h (by omega);refine ⟨b,off,e,hB,fun i v hv=>?_⟩;have hlt:=(Ye.1 hv).1;rw [Zdv] at hlt;have hq:i/8<xs.length:=by omega
 have hx:xs[i/8]?=some xs[i/8]:=Yd hq;have ei:i/8*8+i%8=i:=by omega
 have h1:=Zg0 xs (i/8) _ hx (i%8) (by omega);rw [ei,hv] at h1;obtain ⟨h0,h1',h2,h3,h4,h5,h6,h7,_,_⟩:=hc (i/8) _ hx;have hr:i%8=0\/i%8=1\/i%8=2\/i%8=3\/i%8=4\/i%8=5\/i%8=6\/i%8=7:=by omega
 have eo:off+i=off+i/8*8+i%8:=by omega
 rw [eo];rcases hr with r | r | r | r | r | r | r | r
 all_goals
  rw [r] at h1 ⊢;simp only [Zb,Yax,List.getElem?_cons_succ] at h1
  cases h1
  assumption
theorem Zdw (xs:List S.Item):∀ u∈xs.flatMap Zb,u.oneCell'=true:=by
 intro u hu;obtain ⟨x,_,hx⟩:=List.mem_flatMap.1 hu;simp only [Zb,List.mem_cons,List.not_mem_nil,or_false] at hx;rcases hx with rfl | rfl | rfl | rfl | rfl | rfl | rfl | rfl <;> rfl
theorem Items.of_own {w:World}{base:Nat}{e:TypeId}{A:Option Addr}{m c n:Nat}{xs:List S.Item}(h:w.ownsRow base e 8 (.slice A m c) n (xs.flatMap Zb))(hw:∀ x∈xs,0<=x.word/\x.word<=4294967295):Items w w.heap.size A xs:=fun hp=>by
 have hl:(xs.flatMap Zb).length=n*8:=h.1;rw [Zdv] at hl;obtain ⟨g,rfl,_,hg2,_,hg4,_⟩:=Zau h (by omega);refine ⟨g,0,rfl,hg2,fun i x hx=>?_⟩;have hi:=(Ye.1 hx).1;have hc:∀ j,j<8->w.cell? ⟨g,0+i*8+j,none⟩=(Zb x)[j]?:=by
  intro j hj;rw [Yae,hg4 _ (by omega),Zg0 xs i x hx j hj]
 obtain ⟨w0,w1⟩:=hw x (Yr hx);exact ⟨hc 0 (by omega),hc 1 (by omega),hc 2 (by omega),hc 3 (by omega),hc 4 (by omega),hc 5 (by omega),hc 6 (by omega),hc 7 (by omega),w0,w1⟩
theorem Ze0:(Tryz.prog.info? 3).map (fun i=>(i.zero,i.size,i.bytes))=some (some (.int .i64 0),1,8):=by kernel_rfl
def Ints (w:World)(B:Nat)(A:Option Addr)(xs:List Int):Prop :=
 0<xs.length->∃ b off,A=some ⟨b,off,none⟩/\b<B/\∀ i x,xs[i]?=some x->w.cell? ⟨b,off+i,none⟩=some (.int .i64 x)
theorem Ints.below {w w':World}{B:Nat}{A:Option Addr}{xs:List Int}(h:Ints w B A xs)(hb:Below B w w'):Ints w' B A xs:=fun hp=>by
 obtain ⟨b,off,e,hbB,hc⟩:=h hp;exact ⟨b,off,e,hbB,fun i x hx=>(hb.cell (p:=⟨b,off+i,none⟩) hbB).trans (hc i x hx)⟩
theorem Ints.more {w:World}{B B':Nat}{A:Option Addr}{xs:List Int}(h:Ints w B A xs)(hB:B<=B'):Ints w B' A xs:=fun hp=>by
 obtain ⟨b,off,e,hbB,hc⟩:=h hp;exact ⟨b,off,e,Yt hbB hB,hc⟩
theorem Ints.two {w:World}{B:Nat}{A:Option Addr}{xs:List Int}(h:Ints w B A xs)(hp:0<xs.length) :
 ∃ b off,A=some ⟨b,off,none⟩/\b<B/\∀ i x,xs[i]?=some x->w.cell? ⟨b,off+i,none⟩=some (.int .i64 x):=h hp
theorem Zz:(Tryz.prog.info? 59).map (fun i=>(i.zero,i.size,i.bytes))=some (some (.agg #[.int .i64 0,.int .i64 0,.int .i64 0,.int .i64 0,.int .i64 0,.int .i64 0,.string ByteArray.empty,.int .u32 0]),8,72):=by kernel_rfl
end
section
open Go.RowKit
structure Zzg (w:World)(B b o:Nat)(x:S.Obj):Prop where
 c0:w.cell? ⟨b,o,none⟩=some (.string x.name)
 c1:∃ A c,w.cell? ⟨b,o+1,none⟩=some (.slice A x.items.length c)/\Items w B A x.items
 nm:x.name.size<=maxLen
 lab:∀ y∈x.items,y.label.size<=maxLen
def Objs (w:World)(B:Nat)(A:Option Addr)(os:List S.Obj):Prop :=
 0<os.length->∃ b off,A=some ⟨b,off,none⟩/\b<B/\∀ i x,os[i]?=some x->Zzg w B b (off+i*2) x
theorem Objs.below {w w':World}{B:Nat}{A:Option Addr}{os:List S.Obj}(h:Objs w B A os)(hb:Below B w w'):Objs w' B A os:=fun hp=>by
 obtain ⟨b,off,e,hbB,hc⟩:=h hp;refine ⟨b,off,e,hbB,fun i x hx=>?_⟩;obtain ⟨h0,⟨A',c',h1,h2⟩,h3,h4⟩:=hc i x hx;exact ⟨(hb.cell (p:=⟨b,_,none⟩) hbB).trans h0,⟨A',c',(hb.cell (p:=⟨b,_,none⟩) hbB).trans h1,h2.below hb⟩,h3,h4⟩
theorem Objs.more {w:World}{B B':Nat}{A:Option Addr}{os:List S.Obj}(h:Objs w B A os)(hB:B<=B'):Objs w B' A os:=fun hp=>by
 obtain ⟨b,off,e,hbB,hc⟩:=h hp;refine ⟨b,off,e,by omega,fun i x hx=>?_⟩;obtain ⟨h0,⟨A',c',h1,h2⟩,h3,h4⟩:=hc i x hx;exact ⟨h0,⟨A',c',h1,h2.more hB⟩,h3,h4⟩
theorem Objs.at_ {w:World}{B:Nat}{A:Option Addr}{os:List S.Obj}(h:Objs w B A os){k:Nat}(hk:k<os.length) :
 ∃ b off x,A=some ⟨b,off,none⟩/\b<B/\os[k]?=some x/\Zzg w B b (off+k*2) x:=by
 obtain ⟨b,off,e,hbB,hc⟩:=h (by omega);exact ⟨b,off,os[k],e,hbB,Yd hk,hc k _ (Yd hk)⟩
def seen (os:List S.Obj)(k:Nat)(s:ByteArray):Option Int:=if ∃ j:Nat,j<k/\∃ x:S.Obj,os[j]?=some x/\x.name=s then some 1 else none
def Zdp (os:List S.Obj)(k:Nat):Int:=if ∃ j:Nat,j<k/\∃ x:S.Obj,os[j]?=some x/\S.badN x=true then 2 else 0
def Zuv (os:List S.Obj)(k:Nat):Prop:=∀ i j:Nat,∀ a b:S.Obj,i<k->j<i->os[i]?=some a->os[j]?=some b->a.name≠b.name
theorem Zre (os:List S.Obj):seen os 0=fun _=>none:=by
 funext s
 unfold seen;rw [if_neg];rintro ⟨j,hj,_⟩;omega
theorem Zrf {os:List S.Obj}{k:Nat}{x:S.Obj}(hx:os[k]?=some x):seen os (k+1)=fun t=>if t=x.name then some 1 else seen os k t:=by
 funext t
 unfold seen;by_cases c:t=x.name
 ·rw [if_pos c,if_pos ⟨k,by omega,x,hx,c.symm⟩]
 ·rw [if_neg c]
  congr 1
  rw [eq_iff_iff]
  constructor
  ·rintro ⟨j,hj,y,hy,e⟩
   by_cases h:j=k
   ·subst h
    rw [hx] at hy
    cases hy
    exact absurd e.symm c
   ·exact ⟨j,by omega,y,hy,e⟩
  ·rintro ⟨j,hj,y,hy,e⟩
   exact ⟨j,by omega,y,hy,e⟩
theorem Zrg {os:List S.Obj}{k:Nat}{x:S.Obj}(hx:os[k]?=some x)(hs:seen os k x.name=none)(hd:Zuv os k):Zuv os (k+1):=by
 intro i j a b hi hj ha hb e;by_cases h:i=k
 ·subst h
  rw [hx] at ha
  cases ha
  unfold seen at hs;rw [if_pos ⟨j,hj,b,hb,e.symm⟩] at hs
  cases hs
 ·exact hd i j a b (by omega) hj ha hb e
theorem Zrh {os:List S.Obj}{k:Nat}{x:S.Obj}(hx:os[k]?=some x){v:Int}(hs:seen os k x.name=some v):v=1/\S.DupN os:=by
 unfold seen at hs
 split at hs
 ·rename_i h
  obtain ⟨j,hj,y,hy,e⟩:=h;exact ⟨by cases hs;rfl,k,j,x,y,hj,hx,hy,e.symm⟩
 ·cases hs
theorem Zna (os:List S.Obj):Zdp os 0=0:=by
 unfold Zdp;rw [if_neg];rintro ⟨j,hj,_⟩;omega
theorem Znb {os:List S.Obj}{k:Nat}{x:S.Obj}(hx:os[k]?=some x):Zdp os (k+1)=if S.badN x=true then 2 else Zdp os k:=by
 unfold Zdp;by_cases c:S.badN x=true
 ·rw [if_pos c,if_pos ⟨k,by omega,x,hx,c⟩]
 ·rw [if_neg c]
  congr 1
  rw [eq_iff_iff]
  constructor
  ·rintro ⟨j,hj,y,hy,e⟩
   by_cases h:j=k
   ·subst h
    rw [hx] at hy
    cases hy
    exact absurd e c
   ·exact ⟨j,by omega,y,hy,e⟩
  ·rintro ⟨j,hj,y,hy,e⟩
   exact ⟨j,by omega,y,hy,e⟩
theorem Zri {os:List S.Obj}(hd:Zuv os os.length):S.NamesRes os (Zdp os os.length):=by
 have hd':¬ S.DupN os:=by
  rintro ⟨i,j,a,b,hj,ha,hb,e⟩;exact hd i j a b (Ye.1 ha).1 hj ha hb e
 unfold Zdp
 split
 ·rename_i h
  obtain ⟨j,_,x,hx,hb⟩:=h;exact .inr (.inl ⟨hd',⟨x,Yr hx,hb⟩,rfl⟩)
 ·rename_i h
  refine .inr (.inr ⟨hd',fun o ho=>?_,rfl⟩);obtain ⟨j,hj,rfl⟩:=Yaw ho;rw [Bool.eq_false_iff];intro hb;exact h ⟨j,hj,_,Yd hj,hb⟩
theorem Zuw {n:Int}(h:-9223372036854775808<=n/\n<=9223372036854775807):(Lit.int .i64 n).wf=true:=by
 simp [Lit.wf,IntKind.min,IntKind.max,IntKind.signed,IntKind.bits];omega
theorem Zc8 {w w':World}{m b:Nat}(hg:w.grownBy w' (some m))(hlt:b<w.heap.size)(hne:b≠m)(j:Nat):w'.cell? ⟨b,j,none⟩=w.cell? ⟨b,j,none⟩:=by
 simp only [Yb1,hg.block b hlt (by simpa using hne)]
theorem Zfq (w:World)(cs:Array Value)(t:TypeId):(w.alloc (.cells cs t)).heap[w.heap.size]?=some (.cells cs t (0,0))/\Below w.heap.size w (w.alloc (.cells cs t))/\(w.alloc (.cells cs t)).heap.size=w.heap.size+1 :=
 ⟨heap_alloc_new _ _,(Yj _ _).alloc (Yf _) _,by simp⟩
theorem Zbp {ops:Array Oper}{rest:List Oper}{o:Oper}{a:Act}{Q:Exit->Act->World->Prop}{w:World}(hg:o.guard=none)(hd:o.dst=none)(mo x v:Operand)(hop:o.op=Op.mapUpdate 169 mo x v)
 (m n:Nat) (f:ByteArray->Option Int) (hm:a.eval mo=.map (some m)) (h:MapS w m n f) (hn:n<1152921504606846976) (s:ByteArray) (q:Int) (hx:a.eval x=.string s) (hv:a.eval v=.int .i64 q) (hs:s.size<=maxLen) (hq:(Lit.int .i64 q).wf=true)
 (hK:∀ w',MapS w' m (if (f s).isSome then n else n+1) (fun t=>if t=s then some q else f t)->w.grownBy w' (some m)->wpList Tryz.prog ops Q rest a w'):wpList Tryz.prog ops Q (o::rest) a w:=by
 refine Zfk hg mo x v hop m n f hm h hn s q hx hv hs hq ?_;intro w' h1 h2;rw [hd];exact hK w' h1 h2
def Zrj (os:List S.Obj)(w:World)(e:Ending)(w':World):Prop:=∃ r,e=.returned (.int .i64 r)/\S.NamesRes os r/\Below w.heap.size w w'
theorem Zk7 (A:Option Addr)(c:Nat)(os:List S.Obj)(w:World)(hi:Objs w w.heap.size A os)(hl:os.length<=1048576) :
 Calls Tryz.prog 119 #[.slice A os.length c] w (Zrj os w):=by
 have hmm:=@run_makeMap Tryz.prog;go_enter Tryz.func119,Tryz.ntmps119
 go_wp2_with fail
 go_loopw [4,10] (fun ev i wr=>∃ k:Nat,k<=os.length/\i=.int .i64 k/\ev=.int .i64 (Zdp os k)/\MapS wr w.heap.size k (seen os k)/\Zuv os k/\Below w.heap.size w wr) (fun _ i _=>os.length-(intOf i).toNat)
 case atStart=>exact ⟨0,by omega,rfl,by rw [Zna],by rw [Zre];exact MapS.made w,fun i j a b h=>by omega,(Yj _ _).alloc (Yf _) _⟩
 case round =>
  obtain ⟨k,hk,rfl,rfl,hM,hd,hbk⟩:=hrel;have hzk:=hM.lt;by_cases hlt:k<os.length
  ·obtain ⟨b,off,x,rfl,hb,hx,hc0,⟨Ai,ci,hc1,hI⟩,hn,_⟩:=(hi.below hbk).at_ hlt
   have Hx:=Ya hx;have Hd:=Ya hd;clear hx hd;obtain ⟨nm,its⟩:=x;simp only at hc0 hc1 hn;have hbr:b<wr.heap.size:=by omega
   obtain ⟨x1,x2,x3⟩:=Zfq wr #[.string nm,.slice Ai its.length ci] 55;go_upto_region 6 with fail
   generalize wr.alloc (.cells #[.string nm,.slice Ai its.length ci] 55)=wX at *;have hX0:wX.cell? ⟨wr.heap.size,0,none⟩=some (.string nm):=by simp [Yb1,x1]
   have hMX:=hM.below x2;have hbX:=hbk.trans (x2.mono (by omega));have hzX:wr.heap.size<wX.heap.size:=by omega
   have hlk:=hMX.look hn;clear x1 x2 x3 hM hc0 hc1
   cases hs:seen os k nm with
   | some v =>
    obtain ⟨rfl,hdup⟩:=Zrh Hx.out hs;have e1:(seen os k nm).getD 0=1:=by rw [hs];rfl
    rw [e1] at hlk;have Hs:=Ya hs;have Hdup:=Ya hdup;clear hs hdup e1;go_wp2_with (at_mapUpdate;refine Zbp rfl rfl (.tmp 14) (.tmp 16) (.tmp 18) rfl w.heap.size k _ rfl hMX (by omega) nm 2 rfl rfl hn (Zuw (by omega)) ?_;intro w2 hM2 hg2;have hlk2:=hM2.look hn;have hc2:w2.cell? ⟨wr.heap.size,0,none⟩=some (.string nm):=(Zc8 hg2 hzX (by omega) 0).trans hX0)
    go_ret
    exact ⟨14,rfl,.inl ⟨Hdup.out,rfl⟩,Zbh hbX hg2 (by omega) (fun _ h=>by cases h;exact Yf _)⟩
   | none =>
    have e1:(seen os k nm).getD 0=0:=by rw [hs];rfl
    rw [e1] at hlk;have hnd:=Zrg Hx.out hs Hd.out;have Hnd:=Ya hnd;have Hs:=Ya hs;have Hbs:=Ya (Znb Hx.out);have Hss:=Ya (Zrf Hx.out);clear hs hnd e1;have hway:nm.toList=[]\/(nm.toList≠[]/\S.ownB nm=true)\/(nm.toList≠[]/\S.ownB nm=false):=by
     by_cases c1:nm.toList=[]
     ·exact .inl c1
     ·cases c2:S.ownB nm
      ·exact .inr (.inr ⟨c1,rfl⟩)
      ·exact .inr (.inl ⟨c1,rfl⟩)
    have Hway:=Ya hway;clear hway;rcases Hway.out with h0 | ⟨h0,h1⟩ | ⟨h0,h1⟩
    ·skip
     go_wp2_with (at_mapUpdate;refine Zbp rfl rfl (.tmp 14) (.tmp 16) (.tmp 18) rfl w.heap.size k _ rfl hMX (by omega) nm 1 rfl rfl hn (Zuw (by omega)) ?_;intro w2 hM2 hg2;have hlk2:=hM2.look hn;have hc2:w2.cell? ⟨wr.heap.size,0,none⟩=some (.string nm):=(Zc8 hg2 hzX (by omega) 0).trans hX0)
     have hM3:MapS w2 w.heap.size (k+1) (seen os (k+1)):=by
      rw [Hss.out];have h:=hM2;rw [Hs.out] at h;exact h
     have hb2:Below w.heap.size w w2:=Zbh hbX hg2 (by omega) (fun _ h=>by cases h;exact Yf _);have hav:Zdp os (k+1)=2:=by
      rw [Hbs.out,if_pos (by simp [S.badN,<- ByteArray.toList_eq,h0])]
     exact ⟨⟨k+1,by omega,by go_num,by rw [hav],hM3,Hnd.out,hb2⟩,by simp [intOf];omega⟩
    ·have hE:(nm.toList==[])=false:=by simpa using h0
     have hE2:nm.toList.isEmpty=false:=by simpa using h0
     go_wp2_with (at_mapUpdate;refine Zbp rfl rfl (.tmp 14) (.tmp 16) (.tmp 18) rfl w.heap.size k _ rfl hMX (by omega) nm 1 rfl rfl hn (Zuw (by omega)) ?_;intro w2 hM2 hg2;have hlk2:=hM2.look hn;have hc2:w2.cell? ⟨wr.heap.size,0,none⟩=some (.string nm):=(Zc8 hg2 hzX (by omega) 0).trans hX0)
     refine (Zaj _ _ hn).mono ?_;rintro e w' ⟨rfl,rfl⟩;go_wp2_with fail
     have hM3:MapS w2 w.heap.size (k+1) (seen os (k+1)):=by
      rw [Hss.out];have h:=hM2;rw [Hs.out] at h;exact h
     have hb2:Below w.heap.size w w2:=Zbh hbX hg2 (by omega) (fun _ h=>by cases h;exact Yf _);have hav:Zdp os (k+1)=2:=by
      rw [Hbs.out,if_pos (by simp [S.badN,<- ByteArray.toList_eq,h0,h1])]
     exact ⟨⟨k+1,by omega,by go_num,by rw [hav],hM3,Hnd.out,hb2⟩,by simp [intOf];omega⟩
    ·have hE:(nm.toList==[])=false:=by simpa using h0
     have hE2:nm.toList.isEmpty=false:=by simpa using h0
     go_wp2_with (at_mapUpdate;refine Zbp rfl rfl (.tmp 14) (.tmp 16) (.tmp 18) rfl w.heap.size k _ rfl hMX (by omega) nm 1 rfl rfl hn (Zuw (by omega)) ?_;intro w2 hM2 hg2;have hlk2:=hM2.look hn;have hc2:w2.cell? ⟨wr.heap.size,0,none⟩=some (.string nm):=(Zc8 hg2 hzX (by omega) 0).trans hX0)
     refine (Zaj _ _ hn).mono ?_;rintro e w' ⟨rfl,rfl⟩;go_wp2_with fail
     have hM3:MapS w2 w.heap.size (k+1) (seen os (k+1)):=by
      rw [Hss.out];have h:=hM2;rw [Hs.out] at h;exact h
     have hb2:Below w.heap.size w w2:=Zbh hbX hg2 (by omega) (fun _ h=>by cases h;exact Yf _);have hav:Zdp os (k+1)=Zdp os k:=by
      rw [Hbs.out,if_neg (by simp [S.badN,<- ByteArray.toList_eq,h0,h1])]
     exact ⟨⟨k+1,by omega,by go_num,by rw [hav],hM3,Hnd.out,hb2⟩,by simp [intOf];omega⟩
  ·have hke:k=os.length:=by omega
   subst hke;have hres:=Zri hd;have Hres:=Ya hres;clear hres hd;go_wp2_with fail
   go_ret
   exact ⟨_,rfl,Hres.out,hbk⟩
end
section
open Go.RowKit
def Zrk (xs:List S.Item)(w:World)(e:Ending)(w':World):Prop :=
 ∃ v,e=.returned v/\w'.ownsRow w.heap.size 59 8 v xs.length (xs.flatMap Zb)/\Below w.heap.size w w'
theorem Znc (A:Option Addr)(c:Nat)(xs:List S.Item)(w:World)(hi:Items w w.heap.size A xs)(hl:xs.length<=1048576) :
 Calls Tryz.prog 151 #[.slice A xs.length c] w (Zrk xs w):=by
 have hn:=fun (w:World) (A:Option Addr) (n c n1 c1:Nat)=>Lib.run_eql_slice_nil (P:=Tryz.prog) w 53 59 A n c n1 c1 Tryz.underlying53
 cases A with
 | none =>
  go_enter Tryz.func151,Tryz.ntmps151
  have hx0:xs=[]:=by
   cases xs with
   | nil=>rfl
   | cons x r =>
    obtain ⟨b,off,e,_⟩:=hi (by simp)
    cases e
  subst hx0;go_wp2_with fail
  go_ret
  exact ⟨_,rfl,Yai _ _ _ _,Yj _ _⟩
 | some a =>
  have hr:=hi.reads.below ((Yj w.heap.size w).alloc (Yf _) (.cells #[] 59));go_enter Tryz.func151,Tryz.ntmps151
  go_wp2_with (at_builtin;refine Z7 rfl (.tmp 5) (.tmp 6) _ rfl w.heap.size 59 Zz Tryz.underlying53 rfl (by decide) _ 0 [] rfl (World.ownsRow_made w #[] 0 (Yf _) (by simp [maxLen]) (by simp)) w.heap.size (some a) xs.length c (xs.flatMap Zb) rfl (Zdv xs) (fun h=>by cases h) hr (Zdw xs) (by simp only [maxLen];omega) (by omega) (by simp) ?_;intro v' w1 ho1 hg1 hb1 hat1)
  go_ret
  simp only [Yae,List.nil_append] at ho1;exact ⟨_,rfl,ho1,((Yj _ _).alloc (Yf _) _).trans hb1⟩
end
section
open Go.RowKit
def Zgi (nm:ByteArray)(its:List S.Item)(q:Nat):List S.Item:=(its.take q).map (S.ownItem nm)++its.drop q
theorem Zpx (nm:ByteArray)(its:List S.Item):Zgi nm its 0=its:=by simp [Zgi]
theorem Zrl (nm:ByteArray)(its:List S.Item):Zgi nm its its.length=its.map (S.ownItem nm):=by simp [Zgi]
theorem Zov (nm:ByteArray)(its:List S.Item)(q:Nat)(h:q<its.length):(Zgi nm its q)[q]?=some its[q]:=by
 unfold Zgi;rw [Yo (by simp;omega)];simp [Nat.min_eq_left (Nat.le_of_lt h)]
theorem Zpy (nm:ByteArray)(its:List S.Item)(q:Nat)(h:q<its.length):(Zgi nm its q).set q (S.ownItem nm its[q])=Zgi nm its (q+1):=by
 apply List.ext_getElem?
 intro i;unfold Zgi;by_cases e:i=q
 ·subst e
  rw [List.getElem?_set_self (by simp;omega)];rw [Yn (by simp;omega)];simp [Ybk,h]
 ·rw [List.getElem?_set_ne (Ne.symm e)]
  by_cases l:i<q
  ·rw [Yn (by simp;omega),Yn (by simp;omega)]
   simp [Ybk,l,show i<q+1 by omega]
  ·rw [Yo (by simp;omega),Yo (by simp;omega)]
   simp only [Ys,List.length_take,List.getElem?_drop]
   congr 1
   omega
theorem Zux (L:List S.Item)(q:Nat)(x:S.Item)(s:ByteArray)(h:L[q]?=some x) :
 (L.flatMap Zb).set (q*8+6) (.string s)=(L.set q ⟨x.kind,x.inst,s,x.word⟩).flatMap Zb:=by
 induction L generalizing q with
 | nil=>simp at h
 | cons y r ih =>
  cases q with
  | zero =>
   simp only [Yax,Option.some.injEq] at h;subst h;simp [Zb]
  | succ q =>
   have h1:=ih q (by simpa using h);have e1:(q+1)*8+6=(Zb y).length+(q*8+6):=by simp [Zb];omega
   rw [Ybd,e1,List.set_append_right _ _ (by omega),Yak,h1,List.set_cons_succ,Ybd]
theorem Znd (nm:ByteArray)(its:List S.Item)(q:Nat)(h:q<its.length) :
 ((Zgi nm its q).flatMap Zb).set (q*8+6) (.string (S.owned nm its[q].label))=(Zgi nm its (q+1)).flatMap Zb:=by
 rw [Zux _ q _ _ (Zov nm its q h),<- Zpy nm its q h];rfl
end
section
open Go.RowKit
def Zuy (os:List S.Obj)(w:World)(e:Ending)(w':World):Prop :=
 ∃ v,e=.returned v/\w'.ownsRow w.heap.size 59 8 v (S.joined os).length ((S.joined os).flatMap Zb)/\Below w.heap.size w w'
theorem Zne {os:List S.Obj}{k:Nat}{x:S.Obj}(hx:os[k]?=some x):S.joined (os.take (k+1))=S.joined (os.take k)++S.itemsOf x:=by
 have hk:=(Ye.1 hx).1;have he:os[k]=x:=by
  have:=Yd hk;rw [hx] at this;exact (Option.some.inj this).symm
 rw [List.take_succ_eq_append_getElem hk,he];simp [S.joined]
theorem Zrm {os:List S.Obj}(k:Nat):(S.joined (os.take k)).length<=(S.joined os).length:=by
 have h:S.joined os=S.joined (os.take k)++S.joined (os.drop k):=by
  unfold S.joined;rw [<- Ya7,List.take_append_drop]
 rw [h,Yc];omega
theorem Znf (A:Option Addr)(c:Nat)(os:List S.Obj)(w:World)(hi:Objs w w.heap.size A os)(hl:os.length<=1048576)(ht:(S.joined os).length<=1048576)
 (hsz:∀ (k:Nat) (o:S.Obj),os[k]?=some o->∀ x∈o.items,o.name.size+x.label.size<=9223372036854775807) :
 Calls Tryz.prog 121 #[.slice A os.length c] w (Zuy os w):=by
 have Hsz:=Ya hsz;clear hsz;go_enter Tryz.func121,Tryz.ntmps121
 go_wp2_with fail
 go_loopw [3,10] (fun v i wr=>∃ k:Nat,k<=os.length/\i=.int .i64 k/\wr.ownsRow w.heap.size 59 8 v (S.joined (os.take k)).length ((S.joined (os.take k)).flatMap Zb)/\Below w.heap.size w wr) (fun _ i _=>os.length-(intOf i).toNat)
 case atStart=>exact ⟨0,by omega,rfl,by simp [S.joined];exact Yai _ _ _ _,Yj _ _⟩
 case round =>
  obtain ⟨k,hk,rfl,ho,hbk⟩:=hrel;by_cases hlt:k<os.length
  ·obtain ⟨b,off,x,rfl,hb,hx,hc0,⟨Ai,ci,hc1,hI⟩,hn,hlab⟩:=(hi.below hbk).at_ hlt
   have hzk:=hbk.size;have hbr:b<wr.heap.size:=by omega
   have hjk:=Ya (Zne hx);have hle:=Zrm (os:=os) (k+1);rw [hjk.out,Yc] at hle;have hil:x.items.length<=1048576:=by
    have:(S.itemsOf x).length=x.items.length:=by simp [S.itemsOf]
    omega
   have Hx:=Ya hx;have Hlab:=Ya hlab;clear hx hlab;obtain ⟨nm,its⟩:=x;simp only at hc0 hc1 hn hil hI;obtain ⟨x1,x2,x3⟩:=Zfq wr #[.string nm,.slice Ai its.length ci] 55;go_upto_region 5 with fail
   generalize wr.alloc (.cells #[.string nm,.slice Ai its.length ci] 55)=wX at *;have hX0:wX.cell? ⟨wr.heap.size,0,none⟩=some (.string nm):=by simp [Yb1,x1]
   have hX1:wX.cell? ⟨wr.heap.size,1,none⟩=some (.slice Ai its.length ci):=by simp [Yb1,x1]
   have hzX:wr.heap.size<wX.heap.size:=by omega
   have hoX:=Zc ho x2;have hbX:=hbk.trans (x2.mono (by omega));have hIX:=(hI.below (x2.mono (by omega))).more (B':=wX.heap.size) (by omega);clear x1 x2 x3 ho hc0 hc1 hI;go_wp2_with fail
   refine (Znc _ _ _ _ hIX hil).mono ?_;rintro e w1 ⟨v1,rfl,ho1,hb1⟩;have hz1:=hb1.size;have hX0':w1.cell? ⟨wr.heap.size,0,none⟩=some (.string nm):=(hb1.cell (p:=⟨wr.heap.size,0,none⟩) hzX).trans hX0;obtain ⟨A1,c1,rfl⟩:=Za ho1;clear hX0 hX1;go_wp2_with fail
   obtain ⟨wo,hwo⟩:∃ wo:World,wo=wr:=⟨_,rfl⟩
   subst hwo;go_loopw [19] (fun i wi=>∃ q:Nat,q<=its.length/\i=.int .i64 q/\wi.ownsRow wX.heap.size 59 8 (.slice A1 its.length c1) its.length ((Zgi nm its q).flatMap Zb)/\Below wX.heap.size wX wi) (fun i _=>its.length-(intOf i).toNat)
   case atStart=>exact ⟨0,by omega,rfl,by rw [Zpx];exact ho1,hb1⟩
   case round =>
    obtain ⟨q,hq,rfl,hoq,hbq⟩:=hrel;by_cases hql:q<its.length
    ·obtain ⟨g,rfl,hg1,hg2,hg3,hg4,hg5⟩:=Zau hoq (by omega)
     have hzi:=hbq.size;have hcl:wr.cell? ⟨g,q*8+6,none⟩=some (.string its[q].label):=by
      rw [hg4 _ (by omega),Zg0 _ q _ (Zov nm its q hql) 6 (by omega)];rfl
     have hcn:wr.cell? ⟨wo.heap.size,0,none⟩=some (.string nm):=by
      have h1:=hbq.cell (p:=⟨wo.heap.size,0,none⟩) hzX;have h2:=hb1.cell (p:=⟨wo.heap.size,0,none⟩) hzX;exact h1.trans (h2.symm.trans hX0')
     have hmem:its[q]∈its:=List.getElem_mem hql;have hls:=Hlab.out _ hmem;have hns:=Hsz.out _ _ Hx.out _ hmem;simp only at hns;have hfz:=hg5 (q*8+6);clear hg4 hg5;have hE:=Ze wr;have g1:wo.heap.size<wr.heap.size:=by omega
     go_upto_region 9 with fail
     refine Za9 12 1 [0,1,2,3,4,5,6,7,8,9,10,11] (by kernel_rfl) (by kernel_rfl) (fun _ _ _ _ _ h=>h) ?_
     repeat (first
      | (refine Zhx rfl ?_;go_big_quiet_step ((go_at_call 152;exact Zm (Zqq _ _ _ hls hns)))))
     refine wpQuiet_nil ?_;rintro w2 ⟨⟨w3,hb2⟩,rfl⟩;simp only [List.drop_succ_cons,List.drop_zero];have hcl2:w2.cell? ⟨g,q*8+6,none⟩=some (.string its[q].label):=(hb2.cell (p:=⟨g,q*8+6,none⟩) hg2).trans hcl;have hfz2:w2.frozen? ⟨g,q*8+6,none⟩=false:=(hb2.frozen (p:=⟨g,q*8+6,none⟩) hg2).trans hfz;have hoq2:=Zc hoq hb2;have hst:=hoq2.stored (q*8+6) (.string (S.owned nm its[q].label));rw [Znd nm its q hql] at hst;have Hst:=Ya hst;have hbq2:=hbq.trans (hb2.mono hzi);clear hE hst;go_wp2_with fail
     go_roundw
     case rel=>exact ⟨q+1,by omega,by go_num,Hst.out.1,hbq2.setCell (p:=⟨g,q*8+6,none⟩) hg1 _⟩
     case measure=>simp [intOf];omega
    ·have hqe:q=its.length:=by omega
     subst hqe;rw [Zrl] at hoq;have hzi:=hbq.size;have hoX2:=Zc hoX hbq;have hbw:=hbX.trans (hbq.mono (by omega));have hww:∀ x∈its.map (S.ownItem nm),0<=x.word/\x.word<=4294967295:=by
      intro x hx;obtain ⟨y,hy,rfl⟩:=List.mem_map.1 hx;exact hIX.words y hy
     have hrd:=(Items.of_own hoq hww).reads;have hA1:A1=none->its.length=0:=fun h=>Zcm hoq h
     have hfl:((its.map (S.ownItem nm)).flatMap Zb).length=its.length*8:=by rw [Zdv,Ys]
     have hlj:(S.joined (os.take k)).length+its.length<=1048576:=by
      have:(S.itemsOf ⟨nm,its⟩).length=its.length:=by simp [S.itemsOf]
      omega
     have hone:=Zdw (its.map (S.ownItem nm));have Hoq:=Ya hoq;clear hoq hoX hww;go_wp2_with (at_builtin;refine Z7 rfl (.tmp 35) (.tmp 36) _ rfl w.heap.size 59 Zz Tryz.underlying53 rfl (by decide) _ _ _ rfl hoX2 wr.heap.size A1 its.length c1 _ rfl hfl hA1 hrd hone (by simp only [maxLen];omega) (by omega) (by omega) ?_;intro v' w3 ho3 hg3 hb3 hat3)
     have hfin:w3.ownsRow w.heap.size 59 8 v' (S.joined (os.take (k+1))).length ((S.joined (os.take (k+1))).flatMap Zb):=by
      rw [hjk.out,Yc,Ya7];have e:(S.itemsOf ⟨nm,its⟩).length=its.length:=by simp [S.itemsOf]
      rw [e];exact ho3
     exact ⟨⟨k+1,by omega,by go_num,hfin,hbw.trans hb3⟩,by simp [intOf];omega⟩
  ·have hke:k=os.length:=by omega
   subst hke;rw [List.take_length] at ho;go_wp2_with fail
   go_ret
   exact ⟨_,rfl,ho,hbk⟩
end
section
open Go.RowKit
def Ze1 (xs:List S.Item)(F:List Int)(base:Int)(n:Nat):List Int:=(List.range n).map (S.addr xs F base)
theorem Zbu (xs:List S.Item)(F:List Int)(base:Int)(n k:Nat)(h:k<n):(Ze1 xs F base n).getD k 0=S.addr xs F base k:=by simp [Ze1,h]
theorem Zf3 (xs:List S.Item)(F:List Int)(base:Int)(n:Nat):(Ze1 xs F base n).length=n:=by simp [Ze1]
end
section
open Go.RowKit
def Zel (xs:List S.Item)(s:ByteArray):Option Int:=if S.stands xs s<0 then none else some (S.stands xs s)
structure Work (w:World)(B g gF gA m n:Nat)(A:Option Addr)(c:Nat)(xs:List S.Item)(base:Int)(F T:List Int)(f:ByteArray->Option Int):Prop where
 blk:w.heap[g]?=some (.cells #[.slice A xs.length c,.int .i64 base,.slice (some ⟨gF,0,none⟩) xs.length xs.length,.slice (some ⟨gA,0,none⟩) (xs.length+1) (xs.length+1),.map (some m)] 176 (0,0))
 forms:w.ownsRow B 3 1 (.slice (some ⟨gF,0,none⟩) xs.length xs.length) xs.length (F.map (Value.int .i64))
 ats:w.ownsRow B 3 1 (.slice (some ⟨gA,0,none⟩) (xs.length+1) (xs.length+1)) (xs.length+1) (T.map (Value.int .i64))
 labels:MapS w m n f
 hg:B<=g
 hF:B<=gF
 hA:B<=gA
 hm:B<=m
 ne1:gF≠gA
theorem Zf4 {w:World}{g:Nat}{o:Obj}(h:w.heap[g]?=some o):g<w.heap.size:=(Array.getElem?_eq_some_iff.1 h).1
theorem Zea {w:World}{g:Nat}{cs:Array Value}{t:TypeId}(h:w.heap[g]?=some (.cells cs t (0,0)))(j:Nat):w.cell? ⟨g,j,none⟩=cs[j]?:=by simp [Yb1,h]
theorem Work.below {w w':World}{B g gF gA m n:Nat}{A:Option Addr}{c:Nat}{xs:List S.Item}{base:Int}{F T:List Int}{f:ByteArray->Option Int}(h:Work w B g gF gA m n A c xs base F T f)
 (hb:Below w.heap.size w w'):Work w' B g gF gA m n A c xs base F T f :=
 ⟨(hb.block g (Zf4 h.blk)).trans h.blk,Zc h.forms hb,Zc h.ats hb,h.labels.below hb,h.hg,h.hF,h.hA,h.hm,h.ne1⟩
theorem Work.cells {w:World}{B g gF gA m n:Nat}{A:Option Addr}{c:Nat}{xs:List S.Item}{base:Int}{F T:List Int}{f:ByteArray->Option Int}(h:Work w B g gF gA m n A c xs base F T f) :
 w.cell? ⟨g,0,none⟩=some (.slice A xs.length c)/\w.cell? ⟨g,1,none⟩=some (.int .i64 base)/\w.cell? ⟨g,2,none⟩=some (.slice (some ⟨gF,0,none⟩) xs.length xs.length) /\
 w.cell? ⟨g,3,none⟩=some (.slice (some ⟨gA,0,none⟩) (xs.length+1) (xs.length+1))/\w.cell? ⟨g,4,none⟩=some (.map (some m)):=by
 refine ⟨?_,?_,?_,?_,?_⟩ <;> rw [Zea h.blk] <;> rfl
theorem Work.form {w:World}{B g gF gA m n:Nat}{A:Option Addr}{c:Nat}{xs:List S.Item}{base:Int}{F T:List Int}{f:ByteArray->Option Int}(h:Work w B g gF gA m n A c xs base F T f){k:Nat}(hk:k<xs.length) :
 w.cell? ⟨gF,k,none⟩=some (.int .i64 (F.getD k 0))/\w.frozen? ⟨gF,k,none⟩=false:=by
 have hl:F.length=xs.length:=by have:=h.forms.1;simpa using this
 obtain ⟨g',he,_,_,_,hc,hf⟩:=Zau h.forms (by omega)
 cases he
 refine ⟨?_,hf k⟩;rw [hc k (by omega),Y0];have:k<F.length:=by omega
 simp [this]
theorem Work.at_ {w:World}{B g gF gA m n:Nat}{A:Option Addr}{c:Nat}{xs:List S.Item}{base:Int}{F T:List Int}{f:ByteArray->Option Int}(h:Work w B g gF gA m n A c xs base F T f){k:Nat}(hk:k<=xs.length) :
 w.cell? ⟨gA,k,none⟩=some (.int .i64 (T.getD k 0))/\w.frozen? ⟨gA,k,none⟩=false:=by
 have hl:T.length=xs.length+1:=by have:=h.ats.1;simpa using this
 obtain ⟨g',he,_,_,_,hc,hf⟩:=Zau h.ats (by omega)
 cases he
 refine ⟨?_,hf k⟩;rw [hc k (by omega),Y0];have:k<T.length:=by omega
 simp [this]
theorem Work.lts {w:World}{B g gF gA m n:Nat}{A:Option Addr}{c:Nat}{xs:List S.Item}{base:Int}{F T:List Int}{f:ByteArray->Option Int}(h:Work w B g gF gA m n A c xs base F T f) :
 g<w.heap.size/\gF<w.heap.size/\gA<w.heap.size/\m<w.heap.size :=
 ⟨Zf4 h.blk,(h.forms.lt gF rfl).2,(h.ats.lt gA rfl).2,h.labels.lt⟩
theorem Zay (w:World){B g gF gA m n:Nat}{A:Option Addr}{c:Nat}{xs:List S.Item}{base:Int}{F T:List Int}{f:ByteArray->Option Int}(h:Work w B g gF gA m n A c xs base F T f)
 (s:ByteArray) (hs:s.size<=maxLen) (j:Nat) (hf:f s=some (j:Int)) (hj:j<=xs.length) (hl:xs.length<=1048576) (t:Int) (ht:T.getD j 0=t) :
 Calls Tryz.prog 179 #[.pointer (some ⟨g,0,none⟩),.string s] w fun e w'=>e=.returned (.int .i64 t)/\Below w.heap.size w w':=by
 obtain ⟨h0,h1,h2,h3,h4⟩:=h.cells;obtain ⟨l1,l2,l3,l4⟩:=h.lts;have hat:=(h.at_ hj).1;rw [ht] at hat;clear ht;have hlook:∀ x:Ext w,(Instr.lookup 169 (.map (some m)) (.string s) false).run Tryz.prog x.val=.ok (.int .i64 j) x.val:=fun x=>by
  have:=(h.labels.below x.property).look hs;rw [hf] at this;exact this
 clear h1 h2 hf;go_enter Tryz.func179,Tryz.ntmps179
 go_wp2_with fail
 refine Zs (by kernel_rfl) (by kernel_rfl) ?_;have hE:=Ze w
 repeat (first | go_big_quiet_step (fail))
 refine wpQuiet_nil ?_;rintro _ ⟨⟨w1,hb1⟩,rfl⟩;go_wp2_with fail
 go_ret
 exact ⟨rfl,hb1⟩
end
section
open Go.RowKit
theorem Zxq (n:Int):S.chk ⟨26,0,0,0,n⟩=if -32768<=n/\n<=32767 then 0 else 11:=by
 have hf:S.form 26=4:=by decide
 have hl:S.least 26=-32768/\S.most 26=32767:=by decide
 simp only [S.chk,S.good,hf,S.hasD,S.hasA,S.hasB,S.reg,hl.1,hl.2];simp
theorem Zrn (n:Int):S.chk ⟨32,0,0,0,n⟩=if -1048576<=n/\n<=1048575 then 0 else 11:=by
 have hf:S.form 32=5:=by decide
 have hl:S.least 32=-1048576/\S.most 32=1048575:=by decide
 simp only [S.chk,S.good,hf,S.hasD,S.hasA,S.hasB,S.reg,hl.1,hl.2];simp
theorem Work.grown {w w':World}{B g gF gA m n:Nat}{A:Option Addr}{c:Nat}{xs:List S.Item}{base:Int}{F T:List Int}{f:ByteArray->Option Int}(h:Work w B g gF gA m n A c xs base F T f)(k:Nat)(v:Int)
 (hw:w'=w.setCell ⟨gF,k,none⟩ (.int .i64 v)):Work w' B g gF gA m n A c xs base (F.set k v) T f/\Below B w w':=by
 subst hw;have hb:Below B w (w.setCell ⟨gF,k,none⟩ (.int .i64 v)):=(Yj _ _).setCell h.hF _;have hs:=h.forms.stored k (.int .i64 v);have hgF:g≠gF:=by
  rintro rfl;rcases h.forms.2 with ⟨he,_⟩ | ⟨g',cap,cur,he,_,hg,_⟩
  ·cases he
  ·cases he
   rw [h.blk] at hg
   injection hg with hg
   injection hg with _ ht
   exact absurd ht (by decide)
 have hmF:some m≠some gF:=by
  rintro he
  cases he
  obtain ⟨D,⟨es,clock,hm,_⟩,_⟩:=h.labels;rcases h.forms.2 with ⟨he,_⟩ | ⟨g',cap,cur,he,_,hg,_⟩
  ·cases he
  ·cases he
   rw [hm] at hg
   cases hg
 refine ⟨⟨?_,?_,h.ats.kept hs.2 (.inr ?_),h.labels.kept hs.2 hmF,h.hg,h.hF,h.hA,h.hm,h.ne1⟩,hb⟩
 ·rw [hs.2.block g (Zf4 h.blk) (by simpa using hgF)];exact h.blk
 ·rw [List.map_set];exact hs.1
 ·simp [Value.ownBlock];exact fun e=>h.ne1 e.symm
def Zk8 (w:World)(B g gF gA m n:Nat)(A:Option Addr)(c:Nat)(xs:List S.Item)(base:Int)(F F0:List Int)(i:Nat)(x:S.Item)(e:Ending)(w':World):Prop :=
 ∃ F',e=.returned (.bool (!(S.fit xs F0 base i x)))/\(F'=if S.fit xs F0 base i x=true then F else F.set i (F.getD i 0+1)) /\
  Work w' B g gF gA m n A c xs base F' (Ze1 xs F0 base (xs.length+1)) (Zel xs)/\Below B w w'
theorem Zro (w:World){B g gF gA m n:Nat}{A:Option Addr}{c:Nat}{xs:List S.Item}{base:Int}{F F0:List Int}(h:Work w B g gF gA m n A c xs base F (Ze1 xs F0 base (xs.length+1)) (Zel xs))(hi:Items w B A xs)(hB:B<=w.heap.size)
 (i:Nat) (x:S.Item) (hx:xs[i]?=some x) (hok:S.FormOk xs F0) (hsame:F.getD i 0=F0.getD i 0) (hst:S.named x=true->0<=S.stands xs x.label) (hls:x.label.size<=maxLen)
 (hl:xs.length<=1048576) (hb0:0<=base) (hb26:base<=67108864) (hw:∀ x∈xs,0<=x.word/\x.word<=4294967295) :
 Calls Tryz.prog 178 #[.pointer (some ⟨g,0,none⟩),.int .i64 i] w (Zk8 w B g gF gA m n A c xs base F F0 i x):=by
 have hlt:i<xs.length:=(Ye.1 hx).1;obtain ⟨k0,k1,k2,k3,k4⟩:=h.cells;obtain ⟨l1,l2,l3,l4⟩:=h.lts;obtain ⟨hcF,hfF⟩:=h.form hlt;have hcA:=(h.at_ (k:=i) (by omega)).1;obtain ⟨b,off,x',rfl,hb,hx',hc0,hc1,hc2,hc3,hc4,hc5,hc6,hc7,hw0,hw1⟩:=hi.at_ hlt;rw [hx] at hx'
 cases hx'
 have hbr:b<w.heap.size:=by omega
 obtain ⟨h3,h4,h5⟩:=hok.2 i x hx;rw [Zbu xs F0 base _ i (by omega)] at hcA;have hfit:S.fit xs F0 base i x=(if (x.kind≠3/\x.kind≠4)\/(x.kind=3/\F0.getD i 0=3)\/(x.kind=4/\F0.getD i 0=2) then true
  else if x.kind=3/\F0.getD i 0=1 then
   decide (-32768<=S.addr xs F0 base (S.stands xs x.label).toNat-S.addr xs F0 base (i+1)/\S.addr xs F0 base (S.stands xs x.label).toNat-S.addr xs F0 base (i+1)<=32767)
  else decide (-1048576<=S.addr xs F0 base (S.stands xs x.label).toNat-S.addr xs F0 base (i+1)/\S.addr xs F0 base (S.stands xs x.label).toNat-S.addr xs F0 base (i+1)<=1048575)):=rfl
 have hsucc:S.addr xs F0 base (i+1)=S.addr xs F0 base i+S.size x (F.getD i 0):=by rw [S.addr,hsame];simp [S.sizeAt,hx]
 obtain ⟨ha0,ha1⟩:=Zco (base:=base) hok hw i;have hw':=Ya hw;have hok':=Ya hok;rw [hsucc,<- hsame] at hfit;rw [<- hsame] at h3 h4 h5;clear hok hw hsucc hsame;generalize S.addr xs F0 base i=ti at *;generalize hfk:F.getD i 0=fk at *;have Hfk:=Ya hfk;clear hfk;by_cases k34:x.kind=3\/x.kind=4
 ·have hnm:S.named x=true:=by unfold S.named;grind
  have h0:=hst hnm;obtain ⟨j,hj,hjl⟩:∃ j:Nat,S.stands xs x.label=j/\j<xs.length:=by
   rcases Zap xs x.label with ⟨e,_⟩ | ⟨j,y,e,hj,_⟩
   ·omega
   ·exact ⟨j,e,(Ye.1 hj).1⟩
  have hlab:Zel xs x.label=some (j:Int):=by unfold Zel;rw [if_neg (by omega),hj]
  obtain ⟨hj0,hj1⟩:=Zco (base:=base) hok'.out hw'.out j;rw [hj,Int.toNat_natCast] at hfit;have htj:=Zbu xs F0 base (xs.length+1) j (by omega);have Hfit:=Ya hfit;have Htj:=Ya htj;have Hlab:=Ya hlab;have hcases:(x.kind=3/\fk=1)\/(x.kind=3/\fk=2)\/(x.kind=3/\fk=3)\/(x.kind=4/\fk=1)\/(x.kind=4/\fk=2):=by
   rcases k34 with k | k
   ·have:=h3 k;omega
   ·have:=h4 k;omega
  clear h3 h4 h5 k34 hfit htj hlab hj hst h0 hnm hx;generalize S.addr xs F0 base j=tj at *;obtain ⟨kind,⟨op,d,a,b',imm⟩,lab,wd⟩:=x;simp only at hc0 hc1 hc2 hc3 hc4 hc5 hc6 hc7 hw0 hw1 hcases hls;have hbA:Below w.heap.size w (w.alloc (.cells #[.int .i64 kind,.int .i64 op,.int .i64 d,.int .i64 a,.int .i64 b',.int .i64 imm,.string lab,.int .u32 wd] 59)):=(Yj _ _).alloc (Yf _) _;have hWA:=h.below hbA;have hfin:∀ w',Below w.heap.size w w'->S.fit xs F0 base i ⟨kind,⟨op,d,a,b',imm⟩,lab,wd⟩=true ->
   Zk8 w B g gF gA m n (some ⟨b,off,none⟩) c xs base F F0 i ⟨kind,⟨op,d,a,b',imm⟩,lab,wd⟩ (.returned (.bool false)) w' :=
   fun w' hb he=>⟨F,by rw [he];rfl,by rw [if_pos he],h.below hb,hb.mono hB⟩
  have Hfin:=Ya hfin;clear hfin;rcases hcases with ⟨rfl,rfl⟩ | ⟨rfl,rfl⟩ | ⟨rfl,rfl⟩ | ⟨rfl,rfl⟩ | ⟨rfl,rfl⟩
  rotate_left 2
  ·go_enter Tryz.func178,Tryz.ntmps178
   go_wp2_with fail
   go_ret
   exact Hfin.out _ hbA (by rw [Hfit.out];simp)
  rotate_left 1
  ·go_enter Tryz.func178,Tryz.ntmps178
   go_wp2_with fail
   go_ret
   exact Hfin.out _ hbA (by rw [Hfit.out];simp)
  ·have hsz:S.size ⟨3,⟨op,d,a,b',imm⟩,lab,wd⟩ 1=1:=by simp [S.size]
   have hchk:((-32768<=tj-ti-1/\tj-ti-1<=32767)/\S.chk ⟨26,0,0,0,tj-ti-1⟩=0/\S.fit xs F0 base i ⟨3,⟨op,d,a,b',imm⟩,lab,wd⟩=true) \/
    (¬ (-32768<=tj-ti-1/\tj-ti-1<=32767)/\S.chk ⟨26,0,0,0,tj-ti-1⟩=11/\S.fit xs F0 base i ⟨3,⟨op,d,a,b',imm⟩,lab,wd⟩=false):=by
    have e:tj-(ti+1)=tj-ti-1:=by omega
    rw [Hfit.out,hsz,Zxq,e];by_cases hr:-32768<=tj-ti-1/\tj-ti-1<=32767
    ·left;simp [hr]
    ·right;simp [hr]
   rcases hchk with ⟨hr,hc,hft⟩ | ⟨hr,hc,hft⟩
   all_goals
    have Hft:=Ya hft;clear hft hr;go_enter Tryz.func178,Tryz.ntmps178
    go_wp2_with fail
    refine Zs (by kernel_rfl) (by kernel_rfl) ?_;have hE:=Ze (w.alloc (.cells #[.int .i64 3,.int .i64 op,.int .i64 d,.int .i64 a,.int .i64 b',.int .i64 imm,.string lab,.int .u32 wd] 59))
    repeat (first
     | go_big_quiet_step ((first
      | (go_at_call 179;exact Zas (Zay _ (hWA.below (Subtype.property _)) lab hls j Hlab.out (by omega) hl tj Htj.out))
      | (go_at_call 202;exact Zas (Zgk _ _ _ _ _ _ _ _ _ _ (by omega) (by omega) hw0 hw1)))))
    refine wpQuiet_nil ?_;intro w1 hx1;have hb1:=Zcr hx1;clear hE hx1;have hb01:Below w.heap.size w w1:=hbA.trans (hb1.mono (by simp));obtain ⟨hq1,hq2⟩:=Zcf hb1;have hz1:w.heap.size+1<=w1.heap.size:=by simpa using hb1.size
    have hlt1:w.heap.size<w1.heap.size:=by omega
    have hX0:w1.cell? ⟨w.heap.size,0,none⟩=some (.int .i64 3):=by rw [hq1 _ _ (by simp)];exact Zal _ _ _ _
    have hW1:=h.below hb01;obtain ⟨p0,p1,p2,p3,p4⟩:=hW1.cells;obtain ⟨q1,q2⟩:=hW1.form hlt;rw [Hfk.out] at q1;obtain ⟨r1,r2,r3,r4⟩:=hW1.lts;clear hq1 hq2;go_wp2_with fail
    refine (Zb8 _ _ _ _ _ _).mono ?_;rintro e w3 ⟨rfl,hb3⟩;have hb03:Below w.heap.size w w3:=by
     refine Ybh ?_ (hb3.mono ?_)
     ·exact hb01.alloc (by omega) _
     ·simp;omega
    have hW3:=h.below hb03;obtain ⟨n0,n1,n2,n3,n4⟩:=hW3.cells;obtain ⟨hd1,hd2⟩:=hW3.form hlt;rw [Hfk.out] at hd1;obtain ⟨m1,m2,m3,m4⟩:=hW3.lts;clear n1 n3 n4
   ·go_wp2_with fail
    go_ret
    exact Hfin.out _ hb03 Hft.out
   ·go_wp2_with fail
    go_ret
    obtain ⟨hg1,hg2⟩:=hW3.grown i _ rfl;exact ⟨_,by rw [Hft.out];rfl,by rw [Hft.out,Hfk.out];rfl,hg1,(hb03.mono hB).trans hg2⟩
  ·have hsz:S.size ⟨3,⟨op,d,a,b',imm⟩,lab,wd⟩ 2=2:=by simp [S.size]
   have hchk:((-1048576<=tj-ti-2/\tj-ti-2<=1048575)/\S.chk ⟨32,0,0,0,tj-ti-2⟩=0/\S.fit xs F0 base i ⟨3,⟨op,d,a,b',imm⟩,lab,wd⟩=true) \/
    (¬ (-1048576<=tj-ti-2/\tj-ti-2<=1048575)/\S.chk ⟨32,0,0,0,tj-ti-2⟩=11/\S.fit xs F0 base i ⟨3,⟨op,d,a,b',imm⟩,lab,wd⟩=false):=by
    have e:tj-(ti+2)=tj-ti-2:=by omega
    rw [Hfit.out,hsz,Zrn,e];by_cases hr:-1048576<=tj-ti-2/\tj-ti-2<=1048575
    ·left;simp [hr]
    ·right;simp [hr]
   rcases hchk with ⟨hr,hc,hft⟩ | ⟨hr,hc,hft⟩
   all_goals
    have Hft:=Ya hft;clear hft hr;go_enter Tryz.func178,Tryz.ntmps178
    go_wp2_with fail
    refine Zs (by kernel_rfl) (by kernel_rfl) ?_;have hE:=Ze (w.alloc (.cells #[.int .i64 3,.int .i64 op,.int .i64 d,.int .i64 a,.int .i64 b',.int .i64 imm,.string lab,.int .u32 wd] 59))
    repeat (first
     | go_big_quiet_step ((first
      | (go_at_call 179;exact Zas (Zay _ (hWA.below (Subtype.property _)) lab hls j Hlab.out (by omega) hl tj Htj.out))
      | (go_at_call 202;exact Zas (Zgk _ _ _ _ _ _ _ _ _ _ (by omega) (by omega) hw0 hw1)))))
    refine wpQuiet_nil ?_;intro w1 hx1;have hb1:=Zcr hx1;clear hE hx1;have hb01:Below w.heap.size w w1:=hbA.trans (hb1.mono (by simp));obtain ⟨hq1,hq2⟩:=Zcf hb1;have hz1:w.heap.size+1<=w1.heap.size:=by simpa using hb1.size
    have hlt1:w.heap.size<w1.heap.size:=by omega
    have hX0:w1.cell? ⟨w.heap.size,0,none⟩=some (.int .i64 3):=by rw [hq1 _ _ (by simp)];exact Zal _ _ _ _
    have hW1:=h.below hb01;obtain ⟨p0,p1,p2,p3,p4⟩:=hW1.cells;obtain ⟨q1,q2⟩:=hW1.form hlt;rw [Hfk.out] at q1;obtain ⟨r1,r2,r3,r4⟩:=hW1.lts;clear hq1 hq2;go_wp2_with fail
    refine (Zb8 _ _ _ _ _ _).mono ?_;rintro e w3 ⟨rfl,hb3⟩;have hb03:Below w.heap.size w w3:=by
     refine Ybh ?_ (hb3.mono ?_)
     ·exact hb01.alloc (by omega) _
     ·simp;omega
    have hW3:=h.below hb03;obtain ⟨n0,n1,n2,n3,n4⟩:=hW3.cells;obtain ⟨hd1,hd2⟩:=hW3.form hlt;rw [Hfk.out] at hd1;obtain ⟨m1,m2,m3,m4⟩:=hW3.lts;clear n1 n3 n4
   ·go_wp2_with fail
    go_ret
    exact Hfin.out _ hb03 Hft.out
   ·go_wp2_with fail
    go_ret
    obtain ⟨hg1,hg2⟩:=hW3.grown i _ rfl;exact ⟨_,by rw [Hft.out];rfl,by rw [Hft.out,Hfk.out];rfl,hg1,(hb03.mono hB).trans hg2⟩
  ·have hsz:S.size ⟨4,⟨op,d,a,b',imm⟩,lab,wd⟩ 1=1:=by simp [S.size]
   have hchk:((-1048576<=tj-ti-1/\tj-ti-1<=1048575)/\S.chk ⟨32,0,0,0,tj-ti-1⟩=0/\S.fit xs F0 base i ⟨4,⟨op,d,a,b',imm⟩,lab,wd⟩=true) \/
    (¬ (-1048576<=tj-ti-1/\tj-ti-1<=1048575)/\S.chk ⟨32,0,0,0,tj-ti-1⟩=11/\S.fit xs F0 base i ⟨4,⟨op,d,a,b',imm⟩,lab,wd⟩=false):=by
    have e:tj-(ti+1)=tj-ti-1:=by omega
    rw [Hfit.out,hsz,Zrn,e];by_cases hr:-1048576<=tj-ti-1/\tj-ti-1<=1048575
    ·left;simp [hr]
    ·right;simp [hr]
   rcases hchk with ⟨hr,hc,hft⟩ | ⟨hr,hc,hft⟩
   all_goals
    have Hft:=Ya hft;clear hft hr;go_enter Tryz.func178,Tryz.ntmps178
    go_wp2_with fail
    refine Zs (by kernel_rfl) (by kernel_rfl) ?_;have hE:=Ze (w.alloc (.cells #[.int .i64 4,.int .i64 op,.int .i64 d,.int .i64 a,.int .i64 b',.int .i64 imm,.string lab,.int .u32 wd] 59))
    repeat (first
     | go_big_quiet_step ((first
      | (go_at_call 179;exact Zas (Zay _ (hWA.below (Subtype.property _)) lab hls j Hlab.out (by omega) hl tj Htj.out))
      | (go_at_call 202;exact Zas (Zgk _ _ _ _ _ _ _ _ _ _ (by omega) (by omega) hw0 hw1)))))
    refine wpQuiet_nil ?_;intro w1 hx1;have hb1:=Zcr hx1;clear hE hx1;have hb01:Below w.heap.size w w1:=hbA.trans (hb1.mono (by simp));obtain ⟨hq1,hq2⟩:=Zcf hb1;have hz1:w.heap.size+1<=w1.heap.size:=by simpa using hb1.size
    have hlt1:w.heap.size<w1.heap.size:=by omega
    have hX0:w1.cell? ⟨w.heap.size,0,none⟩=some (.int .i64 4):=by rw [hq1 _ _ (by simp)];exact Zal _ _ _ _
    have hW1:=h.below hb01;obtain ⟨p0,p1,p2,p3,p4⟩:=hW1.cells;obtain ⟨q1,q2⟩:=hW1.form hlt;rw [Hfk.out] at q1;obtain ⟨r1,r2,r3,r4⟩:=hW1.lts;clear hq1 hq2;go_wp2_with fail
    refine (Zb8 _ _ _ _ _ _).mono ?_;rintro e w3 ⟨rfl,hb3⟩;have hb03:Below w.heap.size w w3:=by
     refine Ybh ?_ (hb3.mono ?_)
     ·exact hb01.alloc (by omega) _
     ·simp;omega
    have hW3:=h.below hb03;obtain ⟨n0,n1,n2,n3,n4⟩:=hW3.cells;obtain ⟨hd1,hd2⟩:=hW3.form hlt;rw [Hfk.out] at hd1;obtain ⟨m1,m2,m3,m4⟩:=hW3.lts;clear n1 n3 n4
   ·go_wp2_with fail
    go_ret
    exact Hfin.out _ hb03 Hft.out
   ·go_wp2_with fail
    go_ret
    obtain ⟨hg1,hg2⟩:=hW3.grown i _ rfl;exact ⟨_,by rw [Hft.out];rfl,by rw [Hft.out,Hfk.out];rfl,hg1,(hb03.mono hB).trans hg2⟩
 ·have n3:(x.kind==3)=false:=Zby (by omega)
  have n4:(x.kind==4)=false:=Zby (by omega);have hft:S.fit xs F0 base i x=true:=by rw [hfit,if_pos (.inl (by omega))]
  have Hft:=Ya hft;clear hfit hft hst hx h3 h4 h5;obtain ⟨m3,m4⟩:x.kind≠3/\x.kind≠4:=by omega
  clear k34;obtain ⟨kind,⟨op,d,a,b',imm⟩,lab,wd⟩:=x;simp only at hc0 hc1 hc2 hc3 hc4 hc5 hc6 hc7 hw0 hw1 n3 n4 m3 m4;have hbA:Below w.heap.size w (w.alloc (.cells #[.int .i64 kind,.int .i64 op,.int .i64 d,.int .i64 a,.int .i64 b',.int .i64 imm,.string lab,.int .u32 wd] 59)):=(Yj _ _).alloc (Yf _) _;have hWA:=h.below hbA;go_enter Tryz.func178,Tryz.ntmps178
  go_wp2_with fail
  go_ret
  exact ⟨F,by rw [Hft.out];rfl,by rw [if_pos Hft.out],hWA,hbA.mono hB⟩
end
end Go.Proofs.YtdeepoikgfaecaaGreatDoor
