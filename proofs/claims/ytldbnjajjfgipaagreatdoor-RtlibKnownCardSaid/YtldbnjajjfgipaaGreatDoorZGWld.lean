/- Parts. -/
import Derived.Test.YtldbnjajjfgipaaGreatDoorZExtC
import Derived.BigQuiet
set_option linter.all false
set_option maxHeartbeats 2000000
open Go.Lib renaming hid->Ya
open Nat renaming le_refl->Yd,add_sub_cancel_left->Y7
open List renaming getElem?_eq_getElem->Ye,getElem?_eq_some_iff->Yg,getD_eq_getElem?_getD->Yh,getElem?_append_left->Ym,getElem?_append_right->Yn,length_map->Y3,getElem?_map->Yac,getElem?_set_ne->Ya9,getElem?_cons_succ->Ybj
namespace Go.Proofs.YtldbnjajjfgipaaGreatDoor
open S Go.Proofs.Tryz Go.RowKit
set_option maxRecDepth 100000
section
theorem Zk5:∀{os:List S.Obj} {j:Nat} {o:S.Obj},os[j]?=some o->∃A B,joined os=A++(o.items.map (ownItem o.name)++B)
 | [],j,o,h=>by cases h
 | x::r,0,o,h=>by
  cases h
  exact⟨[],joined r,rfl⟩
 | x::r,j+1,o,h=>by
  obtain⟨A,B,e⟩:=Zk5 (os:=r) (j:=j) h;refine⟨itemsOf x++A,B,?_⟩
  show itemsOf x++joined r=_
  rw[e,List.append_assoc]
section
variable {gw sw:List Int}{F:List Int}{size:Int}{b:Bool}
theorem Zxa {k:Nat}(a:k<gw.length):(hItems gw sw)[1+k]?=some (bW gw[k]):=by
 unfold hItems;rw[Nat.add_comm,Ybj,Ym (by rw[Y3];exact a),Yac,Ye a];rfl
theorem Zn7 {k:Nat}:(hItems gw sw)[1+gw.length+k]?=(bL kStatic::(sw.map bW++[bL kCode,bL kStub,bHalt,bL kMapped,bW 0,bHalt]))[k]?:=by
 unfold hItems;rw[show 1+gw.length+k=(gw.length+k)+1 from by omega,Ybj,Yn (by rw[Y3];omega),Y3,Y7]
theorem Zxb {k:Nat}(a:k<sw.length):(hItems gw sw)[2+gw.length+k]?=some (bW sw[k]):=by
 rw[show 2+gw.length+k=1+gw.length+(k+1) from by omega,Zn7,Ybj,Ym (by rw[Y3];exact a),Yac,Ye a];rfl
theorem Zk6 {k:Nat}:(hItems gw sw)[2+gw.length+sw.length+k]?=[bL kCode,bL kStub,bHalt,bL kMapped,bW 0,bHalt][k]?:=by
 rw[show 2+gw.length+sw.length+k=1+gw.length+((sw.length+k)+1) from by omega,Zn7,Ybj,Yn (by rw[Y3];omega),Y3,Y7]
end
end
theorem Zdj {w:World}{base:Nat}{e:TypeId}{size n c:Nat}{A:Option Addr}{xs:List Value}(h:w.ownsRow base e size (.slice A n c) n xs):A=none->n=0:=by
 intro hA;rcases h.2 with⟨_,h1⟩|⟨g,cap,d,a,_⟩
 .exact h1
 .rw[hA] at a
  cases a
theorem Zat {w:World}{base:Nat}{e:TypeId}{size n c:Nat}{A:Option Addr}{xs:List Value}(h:w.ownsRow base e size (.slice A n c) n xs):Reads w w.heap.size A xs:=λ hp=>by
 rcases h.2 with⟨_,h1⟩|⟨g,cap,f,j,hb,hg,_,_,_,l⟩
 .have:=h.1
  rw[h1,Nat.zero_mul] at this;omega
 .cases j
  refine⟨g,0,rfl,(Array.getElem?_eq_some_iff.1 hg).1,λ i x a=>?_⟩;rw[Zdp hg,Nat.zero_add];rw[<- l] at a;have d:i<n*size:=by
   have k:=(Yg.1 a).1;rw[List.length_take] at k;omega
  rw[List.getElem?_take_of_lt d,Array.getElem?_toList] at a;exact a
theorem Zjy {w:World}{base:Nat}{e:TypeId}{size n:Nat}{cs:Array Value}{xs:List Value}(d:base<=w.heap.size)(a:cs.size=n*size)(c:cs.toList=xs)(f:n<=maxLen):(w.alloc (.cells cs e)).ownsRow base e size (.slice (some ⟨w.heap.size,0,none⟩) n n) n xs :=
 ⟨by rw[<- c,Array.length_toList,a],.inr ⟨w.heap.size,n,cs,rfl,d,heap_alloc_new w _,Yd _,f,a,by rw[c,List.take_of_length_le];rw[<- c,Array.length_toList,a];exact Yd _⟩⟩
theorem Zrk (n:Int)(w:World)(h0:0<=n)(h1:n<=4294967295):Calls prog 134 #[.int .i64 n] w λ e w'=>e=.returned (.agg #[.int .i64 8,.int .i64 0,.int .i64 0,.int .i64 0,.int .i64 0,.int .i64 0,.string ⟨#[]⟩,.int .u32 n])/\Below w.heap.size w w':=by
 have a:n%4294967296=n:=by omega
 have hw:IntKind.u32.wrap n=n:=by
  first
   | exact IntWalk.u32_in n ⟨h0,by omega⟩
   | (unfold IntKind.wrap;simp;omega)
 go_enter func134,ntmps134
 go_wp2_with fail
 refine bodyPost_ret (v:=.agg #[.int .i64 8,.int .i64 0,.int .i64 0,.int .i64 0,.int .i64 0,.int .i64 0,.string ⟨#[]⟩,.int .u32 n]) (by simp[results,results134,go_sem,a]) rfl ⟨rfl,?_⟩;exact(Below.refl _ _).alloc (Yd _) _
theorem Zrl (A:Option Addr)(c:Nat)(l:List Int)(w:World)(u:Reads w w.heap.size A (l.map (Value.int .u32)))(J:l.length<=1000000) :
 Calls prog 135 #[.slice A l.length c] w λ e w'=>∃d a,e=.returned (.slice d l.length a)/\w'.ownsRow w.heap.size 135 8 (.slice d l.length a) l.length ((l.map bW).flatMap Zb)/\Below w.heap.size w w':=by
 obtain⟨N,m⟩:∃N:Nat,N=l.length:=⟨_,rfl⟩
 rw[<- m] at J⊢;have v:=Ya m;have G:=Ya u;clear m u;go_enter func135,ntmps135
 go_wp2_with fail
 go_loopw [3,4] (λ E n s=>∃k:Nat,k<=N/\n=.int .i64 k/\(∃d a,E=.slice d k a/\Hid (s.ownsRow w.heap.size 135 8 (.slice d k a) k (((l.take k).map bW).flatMap Zb)))/\Hid (Below w.heap.size w s)) (λ _ n _=>N-(intOf n).toNat)
 case atStart=>exact⟨0,by omega,rfl,⟨none,0,rfl,Ya (World.ownsRow_nil _ _ _ _)⟩,Ya (Below.refl _ _)⟩
 case round =>
  obtain⟨k,hk,rfl,⟨d,a,rfl,j⟩,h⟩:=hrel;by_cases o:k<N
  .have hkl:k<l.length:=by rw[<- v.out];exact o
   obtain⟨b,off,p,D,y⟩:=(G.out.below h.out) (by rw[Y3];omega)
   have B:=y k (.int .u32 l[k]) (by rw[Yac,Ye hkl];rfl);subst p;have g:=Ya (show l.take (k+1)=l.take k++[l[k]] from by rw[List.take_add_one,Ye hkl];rfl);have r:=h.out.size;obtain⟨x,t⟩:=Yx l[k];rw[<- t] at B g;clear y t hkl;go_wp2_with (at_builtin;refine Zk rfl (.tmp 11) (.tmp 17) _ rfl w.heap.size 135 Zu underlying103 rfl (by decide) (Zb (bW x)).toArray _ _ _ rfl j.out rfl rfl rfl (by simp[Value.oneCell',Zb]) (by simp only[maxLen];omega) (by omega) r ?_;intro v' w7 f z q _;obtain⟨C,H,rfl⟩:=Za f)
   go_roundw
   case rel =>
    refine⟨k+1,by omega,by go_num,⟨C,H,rfl,Ya ?_⟩,Ya (h.out.trans q)⟩;rw[g.out,List.map_append,List.flatMap_append]
    simpa using f
   case measure=>simp[intOf];omega
  .have hkN:k=N:=by omega
   subst hkN;have K:l.take k=l:=by rw[v.out,List.take_length]
   rw[K] at j;go_wp2_with fail
   go_ret
   exact⟨d,a,rfl,j.out,h.out⟩
section
section
variable {I:Img}(hI:I.Ok){i:Nat}(h0:I.i0<=i)(h1:i<I.i1)
include hI h0 h1
theorem Zyc {V:Vw}{s:ByteArray}{w:Int}(d:I.xs[i]?=some ⟨1,⟨36,0,0,0,0⟩,s,w⟩){m:Mach}(hm:On I m V (I.adr i)):Off I (m.steps_ 1) V (V.reg 0)/\(m.steps_ 1).place=I.adr i:=by
 obtain⟨g,hg,hn⟩:=Zx hI h0 h1 d;have e:=hm.reg 0 (by decide) (by decide) (by decide);have a:m.act ⟨36,0,0,0,0⟩=({ m with state:=1,code:=V.reg 0 },m.place,0):=by
  unfold Mach.act;simp only[e];rw[if_neg (by decide),if_neg (by decide),if_neg (by decide),if_neg (by decide),if_neg (by decide),if_neg (by decide),if_neg (by decide),if_neg (by decide),if_neg (by decide),if_neg (by decide)]
 obtain⟨h,f⟩:=Zr hI hm h0 h1 (j:=0) (y:=⟨36,0,0,0,0⟩) (by rw[g];rfl) (by simp) hg (by rw[a]);have c:=Zm4 hm.ok (x:=⟨36,0,0,0,0⟩) (Int.le_refl _);rw[a] at c;rw[Zb3,h,a];have l1:=Zcv hI h0;have l2:=Zcv hI (i:=i+1) (j:=I.i1) h1;have hp:=hm.place;exact⟨⟨placed c.1 c.2,rfl,rfl,hm.len,hm.code,⟨by show I.adr I.i0<=m.place;omega,by show m.place<I.adr I.i1;omega⟩,hm.reg,hm.mem,hm.inp,hm.out⟩,hp⟩
end
structure S.bt (I:Img)(m:Mach)(st:Vw):Prop where
 ok:m.Ok
 len:(m.mem.length:Int)=I.size
 code:I.In m.mem
 reg:∀j,visB j=true->m.rd j=st.reg j
 mem:∀a,0<=a->a<I.size->¬I.stk a->m.mv a=st.mem a
theorem Zrm {j:Int}(h:visB j=true):0<=j/\j<=31/\j≠25:=by
 unfold visB at h;have:=of_decide_eq_true h;omega
theorem Zve {I:Img}{m:Mach}{V st:Vw}{c:Int}(h:Off I m V c)(hm:Mt I V st):bt I m st :=
 ⟨h.ok,h.len,h.code,λ j f=>by
  obtain⟨h1,d,e⟩:=Zrm f;rw[h.reg j h1 d e];exact hm.vis j f,λ a h1 d e=>by rw[h.mem a h1 d];exact hm.mem a h1 d e⟩
end
theorem Zmz {m:Mach}{i v:Int}(h0:0<=i)(h1:i<m.mem.length):m.putV i v={ m with mem:=m.mem.set i.toNat v }:=by
 unfold Mach.putV;rw[if_pos ⟨h0,h1⟩]
theorem Za3 (m:Mach)(i v:Int):(m.putV i v).reg=m.reg/\(m.putV i v).place=m.place/\(m.putV i v).input=m.input/\(m.putV i v).out=m.out/\(m.putV i v).state=m.state/\(m.putV i v).steps=m.steps/\(m.putV i v).mem.length=m.mem.length:=by
 unfold Mach.putV
 split <;> simp
theorem Zrn {m:Mach}{i v a:Int}(h0:0<=i)(h1:i<m.mem.length)(ha:0<=a):(m.putV i v).mv a=if a=i then v else m.mv a:=by
 rw[Zmz h0 h1]
 show(m.mem.set i.toNat v).getD a.toNat 0=if a=i then v else m.mem.getD a.toNat 0
 by_cases c:a=i
 .subst c
  rw[if_pos rfl];have:a.toNat<m.mem.length:=by omega
  simp[this]
 .rw[if_neg c]
  have:¬i.toNat=a.toNat:=by omega
  simp only[Yh,Ya9 this]
theorem Zm0 (m:Mach)(i v j:Int):(m.putV i v).rd j=m.rd j:=by
 unfold Mach.rd;rw[(Za3 m i v).1]
theorem Za6 {m:Mach}{i v:Int}(h0:0<i)(h1:i<32):m.setV i v={ m with reg:=m.reg.set i.toNat v }:=by
 unfold Mach.setV Mach.put;rw[if_pos ⟨by omega,h1⟩,if_neg (by omega)]
theorem Zbh {m:Mach}(h:m.Ok){i v j:Int}(h0:0<i)(h1:i<32):(m.setV i v).rd j=if j=i then v else m.rd j:=by
 rw[Za6 h0 h1];have hr:=h.regs
 show(m.reg.set i.toNat v).getD j.toNat 0=if j=i then v else m.reg.getD j.toNat 0
 by_cases c:j=i
 .subst c
  rw[if_pos rfl];have:j.toNat<m.reg.length:=by omega
  simp[this]
 .rw[if_neg c]
  have:¬i.toNat=j.toNat:=by omega
  simp only[Yh,Ya9 this]
theorem Zcp {m:Mach}{i v a:Int}(h0:0<i)(h1:i<32):(m.setV i v).mv a=m.mv a:=by
 rw[Za6 h0 h1];rfl
theorem Zk7 {m:Mach}{i:Int}(h0:0<=i)(h1:i<32):m.regV i=m.rd i:=by
 unfold Mach.regV;rw[if_pos ⟨h0,h1⟩];rfl
theorem Z0m {m:Mach}{i:Int}(h0:0<=i)(h1:i<m.mem.length):m.memV i=m.mv i:=by
 unfold Mach.memV;rw[if_pos ⟨h0,h1⟩];rfl
theorem Zro {I:Img}(hI:I.Ok){mem:List Int}(h:I.In mem){p:Int}(hp:0<=p)(n:¬I.code p)(v:Int):I.In (mem.set p.toNat v):=λ k k0 d j w f=>by
 have a:=h k k0 d j w f;have l:=(Yg.1 f).1;have g:=Zaf (base:=0) (Zah hI) (Zcs (Zb4 hI)) hI.words k;have m:I.adr (k+1)=I.adr k+sizeAt I.xs I.F k:=rfl;have l1:=Zcv hI (i:=I.i0) (j:=k) k0;have l2:=Zcv hI (i:=k+1) (j:=I.i1) d;have l3:=Zlg hI k;have c:¬p.toNat=(I.adr k).toNat+j:=by
  intro e;exact n ⟨by omega,by omega⟩
 rw[<- a];simp only[Yh,Ya9 c]
theorem Zrp {m:Mach}(h:m.Ok){i v:Int}(a:0<=v/\v<=4294967295):(m.putV i v).Ok:=by
 unfold Mach.putV
 split
 .rename_i c
  refine⟨h.regs,h.word,h.zero,by simpa using h.mem,λ j=>?_,h.place0,h.place1,h.inp,h.outp,h.code0,h.code1⟩
  show 0<=(m.mem.set i.toNat v).getD j 0/\(m.mem.set i.toNat v).getD j 0<=4294967295
  by_cases e:i.toNat=j
  .subst e
   have:i.toNat<m.mem.length:=by omega
   simp[this];exact a
  .have:=h.memw j
   simp only[Yh,Ya9 e] at this⊢;exact this
 .exact h
theorem Zpb (n f a t:Int):wordsOf (bSp n) f a t=List.replicate n.toNat 0:=by
 have c:(bSp n).kind=8:=rfl;unfold wordsOf;rw[c,if_neg (by decide),if_neg (λ h=>absurd h.1 (by decide)),if_neg (λ h=>absurd h.1 (by decide)),if_neg (by decide),if_neg (λ h=>absurd h.1 (by decide)),if_neg (by decide),if_neg (by decide),if_neg (by decide),if_neg (by decide),if_pos rfl];rfl
theorem Zg0 (n f a t:Int):wordsOf (bW n) f a t=[n]:=by
 have c:(bW n).kind=6:=rfl;unfold wordsOf;rw[c,if_neg (by decide),if_neg (λ h=>absurd h.1 (by decide)),if_neg (λ h=>absurd h.1 (by decide)),if_neg (by decide),if_neg (λ h=>absurd h.1 (by decide)),if_neg (by decide),if_neg (by decide),if_pos rfl];rfl
def S.wM (L:List Int)(heap:Int)(inp:List Int):Mach :=
 ((((((((Zh9 L (L.length+heap).toNat inp).putV 1 heap).putV 2 L.length).putV 3 (L.length+heap/2)).putV 4 (heap/2)).putV 5 38).setV 26 L.length).setV 27 (L.length+heap/2)).setV 28 1056
