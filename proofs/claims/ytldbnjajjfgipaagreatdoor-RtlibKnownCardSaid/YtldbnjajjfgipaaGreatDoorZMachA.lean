/- Parts. -/
import Derived.Test.YtldbnjajjfgipaaGreatDoorRows
import Derived.Test.YtldbnjajjfgipaaGreatDoorZExtB
import Derived.ProofKit
import Derived.Carry
import Derived.Deep.DeepCutAuto
set_option linter.all false
set_option maxHeartbeats 4000000
open Go.Lib renaming hid->Ya
open List renaming length_append->Yc,getElem?_eq_getElem->Ye,getElem?_eq_some_iff->Yg,getD_eq_getElem?_getD->Yh,getElem?_append_left->Ym,getElem?_append_right->Yn,mem_of_getElem?->Y2,length_map->Y3,mem_append->Yaq,flatMap_cons->Yat,getElem?_set_ne->Ya9,getElem?_take->Ybe,flatMap_append->Ybg
open Nat renaming le_refl->Yd
open Go.RowKit.Below renaming refl->Yj
open Go.World renaming ownsRow_nil->Yak,cell?->Ybz
open Int renaming le_refl->Ya0,ediv_nonneg->Ycm,mul_nonneg->Ycu,ediv_le_self->Ycz
namespace Go.Proofs.YtldbnjajjfgipaaGreatDoor
open S Go.Proofs.Tryz Go.RowKit
set_option maxRecDepth 100000
section
open Go.ChangeShapes Go.WideShapes Go.ChangeAt Go.RowKit
theorem Tryz.own:ownKnob prog.godebug=none:=by kernel_rfl
section
variable {H:Type}{enc:TypeId×Value->H}{P:Program}
theorem Zj3 {f:Func}{s:ChangeSpec}{apart fresh handsOn again:Bool}{W W':World}{args:Array Value}{v:Value}{ds gs:List (DataW H)}{before pa pv:List MemPlace}
 (hW:DataW.Whole enc P f.params.toList s.vars apart W args.toList ds gs before)
 (hres:∀(b:Nat)(sp:Nat->Bool)(hd:Bool),DataW.TrodAll enc P W' b sp hd f.resultTypes.toList (v.resultList f.resultTypes.size) (s.fn H (ds++gs)).results [])
 (hargs:∀sp:Nat->Bool,(∀p∈before,sp p.block=true)->DataW.TrodAll enc P W' 0 sp true f.params.toList args.toList (s.fn H (ds++gs)).args pa)
 (hvars:∀sp:Nat->Bool,(∀p∈before,sp p.block=true)->DataW.TrodVars enc P W' sp s.vars (s.fn H (ds++gs)).vars pv)
 (hps:before=pa++pv) (hb:Below W.heap.size W W')
 (hok:∀(j:Nat)(t:TypeId)(r:Value),f.resultTypes[j]?=some t->(v.resultList f.resultTypes.size)[j]?=some r->Value.okWide P W' .any 0 t r) :
 s.post enc P f apart fresh handsOn again W args v W':=by
 have hlt:∀p∈before,p.block<W.heap.size:=λ p hp=>hW.lt p hp
 have hold:∀p∈before,(λ b=>decide (b<W.heap.size)) p.block=true:=λ p hp=>by simpa using hlt p hp
 refine⟨ds,gs,before,[],pa,pv,hW,hres _ _ _,hargs _ hold,hvars _ hold,World.keptBut_mono (λ p hp=>⟨hp,?_⟩) (hb.frame (·∈before)),λ _=>?_⟩
 .rw[hps,Yaq] at hp
  exact Or.inr hp
 .obtain⟨_,_,_,_,_,hz,hn⟩:=hW
  refine⟨hok,_,_,([]++pa)++pv,⟨[]++pa,pv,trodAll_append (hargs _ (λ _ _=>rfl)) (hres _ _ _),hvars _ (λ _ _=>rfl),rfl,?_,?_⟩,?_⟩
  .intro b off hp
   have hin:MemPlace.cell b off∈before:=by rw[hps];simpa using hp
   rw[hb.frozen (hlt _ hin)];exact hz b off hin
  .intro ha
   have:=hn ha;rw[hps] at this
   simpa using this
  .intro p hp _
   rw[hps]
   simpa using hp
end
end
section
theorem Zvl {a b:Int}(a0:0<=a)(a1:a<=4294967295)(b0:0<=b)(b1:b<=4294967295) :
 (0<=bits .and .u32 a b/\bits .and .u32 a b<=4294967295)/\(0<=bits .or .u32 a b/\bits .or .u32 a b<=4294967295)/\(0<=bits .xor .u32 a b/\bits .xor .u32 a b<=4294967295):=by
 have ha:a.toNat<2^32:=by omega
 have hb:b.toNat<2^32:=by omega
 refine⟨?_,?_,?_⟩
 .rw[u32_and a0 a1 b0 b1]
  have:=Nat.and_lt_two_pow a.toNat hb;omega
 .rw[u32_or a0 a1 b0 b1]
  have:=Nat.or_lt_two_pow ha hb;omega
 .rw[u32_xor a0 a1 b0 b1]
  have:=Nat.xor_lt_two_pow ha hb;omega
theorem Zxc {a b:Int}(a0:0<=a)(a1:a<=4294967295)(b0:0<=b):0<=a/b/\a/b<=4294967295:=by
 refine⟨Ycm a0 b0,?_⟩;have:=Ycz b a0;omega
theorem Z0t {a b:Int}(a0:0<=a)(a1:a<=4294967295)(b0:0<=b):0<=a%b/\a%b<=4294967295:=by
 by_cases h:b=0
 .subst h;simp;exact⟨a0,a1⟩
 .refine⟨Int.emod_nonneg a h,?_⟩
  have h1:=Int.emod_add_mul_ediv a b;have h2:0<=b*(a/b):=Ycu b0 (Ycm a0 b0);omega
theorem Z0u {a b:Int}(a0:0<=a)(a1:a<=4294967295)(b0:0<=b)(b1:b<=4294967295):0<=a*b/4294967296/\a*b/4294967296<=4294967295:=by
 have h1:0<=a*b:=Ycu a0 b0;have h2:a*b<=4294967295*4294967295:=Int.mul_le_mul a1 b1 b0 (by omega);omega
theorem Zrz {op a b:Int}(a0:0<=a)(a1:a<=4294967295)(b0:0<=b)(b1:b<=4294967295):0<=alu op a b/\alu op a b<=4294967295:=by
 obtain⟨h7,h8,h9⟩:=Zvl a0 a1 b0 b1;have h5:=Zxc a0 a1 b0;have h6:=Z0t a0 a1 b0;have h4:=Z0u a0 a1 b0 b1;have hpw:(0:Int)<=2^(b%32).toNat:=Int.le_of_lt (Int.pow_pos (by omega));have h11:=Zxc a0 a1 hpw;unfold alu;by_cases c1:op=1
 .rw[if_pos c1];exact Zab _
 rw[if_neg c1];by_cases c2:op=2
 .rw[if_pos c2];exact Zab _
 rw[if_neg c2];by_cases c3:op=3
 .rw[if_pos c3];exact Zab _
 rw[if_neg c3];by_cases c4:op=4
 .rw[if_pos c4];exact h4
 rw[if_neg c4];by_cases c5:op=5
 .rw[if_pos c5];exact h5
 rw[if_neg c5];by_cases c6:op=6
 .rw[if_pos c6];exact h6
 rw[if_neg c6];by_cases c7:op=7
 .rw[if_pos c7];exact h7
 rw[if_neg c7];by_cases c8:op=8
 .rw[if_pos c8];exact h8
 rw[if_neg c8];by_cases c9:op=9
 .rw[if_pos c9];exact h9
 rw[if_neg c9];by_cases c10:op=10
 .rw[if_pos c10];exact Zab _
 rw[if_neg c10];by_cases c11:op=11
 .rw[if_pos c11];exact h11
 rw[if_neg c11];by_cases c12:op=12
 .rw[if_pos c12];exact Zab _
 rw[if_neg c12];by_cases c13:op=13
 .rw[if_pos c13];unfold truth;split <;> decide
 rw[if_neg c13];unfold truth;split <;> decide
theorem Zih {m:S.Mach}(h:m.Ok){d v:Int}(hd:0<=d)(hv:0<=v/\v<=4294967295):(m.put d v).Ok:=by
 unfold S.Mach.put;by_cases h0:d=0
 .rw[if_pos h0];exact h
 .rw[if_neg h0]
  have hg:∀i,(m.reg.set d.toNat v).getD i 0=if d.toNat=i/\i<m.reg.length then v else m.reg.getD i 0:=λ i=>by
   by_cases e:d.toNat=i
   .subst e
    by_cases hl:d.toNat<m.reg.length <;> simp[hl]
   .simp[e]
  refine⟨by simpa using h.regs,λ i=>?_,?_,h.mem,h.memw,h.place0,h.place1,h.inp,h.outp,h.code0,h.code1⟩
  .show 0<=(m.reg.set d.toNat v).getD i 0/\(m.reg.set d.toNat v).getD i 0<=4294967295
   rw[hg];split
   .exact hv
   .exact h.word i
  .show(m.reg.set d.toNat v).getD 0 0=0
   rw[hg,if_neg (by omega)];exact h.zero
theorem placed {m:S.Mach}(h:m.Ok){p s:Int}(hp:0<=p/\p<=4294967295):({ m with place:=p,steps:=s }:S.Mach).Ok :=
 ⟨h.regs,h.word,h.zero,h.mem,h.memw,hp.1,hp.2,h.inp,h.outp,h.code0,h.code1⟩
theorem Z0v {m:S.Mach}(h:m.Ok)(i:Int):0<=m.rd i/\m.rd i<=4294967295:=h.word _
theorem Zm4 {m:S.Mach}(h:m.Ok){x:Inst}(hd:0<=x.d):(m.act x).1.Ok/\0<=(m.act x).2.1/\(m.act x).2.1<=4294967295:=by
 have hn:=Zab (m.place+1);have ha:=Z0v h x.a;have hb:=Z0v h x.b;have hi:=Zab x.imm;unfold S.Mach.act;simp only;by_cases h1:x.op<=14
 .rw[if_pos h1]
  by_cases h2:m.rd x.b=0/\(x.op=5\/x.op=6)
  .rw[if_pos h2];exact⟨h,Ya0 (0:Int),show(0:Int)<=4294967295 by decide⟩
  .rw[if_neg h2];exact⟨Zih h hd (Zrz ha.1 ha.2 hb.1 hb.2),hn⟩
 rw[if_neg h1];by_cases h2:x.op<=22
 .rw[if_pos h2];exact⟨Zih h hd (Zrz ha.1 ha.2 hi.1 hi.2),hn⟩
 rw[if_neg h2];by_cases h3:x.op=23
 .rw[if_pos h3];exact⟨Zih h hd (Zab _),hn⟩
 rw[if_neg h3];by_cases h4:x.op=24
 .rw[if_pos h4]
  by_cases h5:u32m (m.rd x.a+u32m x.imm)<m.mem.length
  .rw[if_pos h5];exact⟨Zih h hd (h.memw _),hn⟩
  .rw[if_neg h5];exact⟨h,Ya0 (0:Int),show(0:Int)<=4294967295 by decide⟩
 rw[if_neg h4];by_cases h5:x.op=25
 .rw[if_pos h5]
  by_cases h6:u32m (m.rd x.a+u32m x.imm)<m.mem.length
  .rw[if_pos h6]
   refine⟨⟨h.regs,h.word,h.zero,by simpa using h.mem,λ i=>?_,h.place0,h.place1,h.inp,h.outp,h.code0,h.code1⟩,hn⟩
   show 0<=(m.mem.set (u32m (m.rd x.a+u32m x.imm)).toNat (m.rd x.b)).getD i 0/\(m.mem.set (u32m (m.rd x.a+u32m x.imm)).toNat (m.rd x.b)).getD i 0<=4294967295
   generalize (u32m (m.rd x.a+u32m x.imm)).toNat=q;by_cases e:q=i
   .subst e
    by_cases hl:q<m.mem.length
    .simp[hl];exact hb
    .simp[hl]
   .have:=h.memw i
    simp only[Yh,Ya9 e] at this⊢;exact this
  .rw[if_neg h6];exact⟨h,Ya0 (0:Int),show(0:Int)<=4294967295 by decide⟩
 rw[if_neg h5];by_cases h6:x.op<=31
 .rw[if_pos h6]
  refine⟨h,?_⟩
  show 0<=(if goes x.op (m.rd x.a) (m.rd x.b)=true then _ else _)/\(if goes x.op (m.rd x.a) (m.rd x.b)=true then _ else _)<=_
  split
  .exact Zab _
  .exact hn
 rw[if_neg h6];by_cases h7:x.op=32
 .rw[if_pos h7];exact⟨Zih h hd hn,Zab _⟩
 rw[if_neg h7];by_cases h8:x.op=33
 .rw[if_pos h8];exact⟨Zih h hd hn,Zab _⟩
 rw[if_neg h8];by_cases h9:x.op=34
 .rw[if_pos h9]
  cases hin:m.input with
  | nil=>exact⟨Zih h hd (show(0:Int)<=4294967295/\(4294967295:Int)<=4294967295 by decide),hn⟩
  | cons y r =>
   have hy:=h.inp y (by rw[hin];simp);have hk:({ m with input:=r }:S.Mach).Ok:=⟨h.regs,h.word,h.zero,h.mem,h.memw,h.place0,h.place1,λ z hz=>h.inp z (by rw[hin];exact List.mem_cons_of_mem _ hz),h.outp,h.code0,h.code1⟩
   exact⟨Zih hk hd (show 0<=y/\y<=4294967295 by omega),hn⟩
 rw[if_neg h9];by_cases h10:x.op=35
 .rw[if_pos h10]
  refine⟨⟨h.regs,h.word,h.zero,h.mem,h.memw,h.place0,h.place1,h.inp,λ z hz=>?_,h.code0,h.code1⟩,hn⟩;rcases Yaq.1 hz with hz|hz
  .exact h.outp z hz
  .rw[List.mem_singleton] at hz;omega
 rw[if_neg h10];exact⟨⟨h.regs,h.word,h.zero,h.mem,h.memw,h.place0,h.place1,h.inp,h.outp,ha.1,ha.2⟩,h.place0,h.place1⟩
theorem Zbj (m:S.Mach)(a:Nat):∀b:Nat,m.steps_ (a+b)=(m.steps_ a).steps_ b
 | 0=>rfl
 | b+1=>by
  show(m.steps_ (a+b)).step=((m.steps_ a).steps_ b).step
  rw[Zbj m a b]
theorem Zb3 (m:S.Mach):m.steps_ 1=m.step:=rfl
theorem Zg5 {m:S.Mach}(h:m.state≠0):∀n:Nat,m.steps_ n=m
 | 0=>rfl
 | n+1=>by
  show(m.steps_ n).step=m
  rw[Zg5 h n];unfold S.Mach.step;rw[if_pos h]
namespace S
structure Img where
 xs:List Item
 F:List Int
 size:Int
 i0:Nat
 i1:Nat
 lo:Int
 hi:Int
namespace Img
def adr (I:Img)(i:Nat):Int:=addr I.xs I.F 0 i
def lab (I:Img)(s:ByteArray):Int:=I.adr (stands I.xs s).toNat
structure Ok (I:Img):Prop where
 res:FormsRes I.xs 0 0 I.F
 words:∀x∈I.xs,0<=x.word/\x.word<=4294967295
 i01:I.i0<=I.i1
 i1l:I.i1<=I.xs.length
 size:I.adr I.xs.length<I.size
 size2:I.size<=335544320
 lo0:0<=I.lo
 lohi:I.lo<=I.hi
 hisz:I.hi<=I.size
 apart:I.hi<=I.adr I.i0\/I.adr I.i1<=I.lo
def code (I:Img)(a:Int):Prop:=I.adr I.i0<=a/\a<I.adr I.i1
def stk (I:Img)(a:Int):Prop:=I.lo<=a/\a<I.hi
def In (I:Img)(mem:List Int):Prop:=∀i,I.i0<=i->i<I.i1->∀j w,(wordsAt I.xs I.F 0 i)[j]?=some w->mem.getD ((I.adr i).toNat+j) 0=w
end Img
end S
section
variable {I:S.Img}(hI:I.Ok)
include hI
theorem Zah:FormOk I.xs I.F:=by
 rcases hI.res with⟨h,_⟩|⟨h,_⟩|⟨_,_,h,_⟩
 .exact absurd rfl h
 .omega
 .exact h.1
theorem Zfc:Stable I.xs 0 I.F:=by
 rcases hI.res with⟨h,_⟩|⟨h,_⟩|⟨_,_,h,h2,_⟩
 .exact absurd rfl h
 .omega
 .exact h2
theorem Zle:CheckRes I.xs 0 0:=by
 rcases hI.res with⟨h,_⟩|⟨h,_⟩|⟨h,_⟩
 .exact absurd rfl h
 .omega
 .exact h
theorem Zlf:I.adr I.xs.length<=67108864:=by
 rcases hI.res with⟨h,_⟩|⟨h,_⟩|⟨_,_,_,_,h⟩
 .exact absurd rfl h
 .omega
 .exact h
theorem Zr0:¬Dup I.xs:=by
 rcases Zle hI with⟨_,h⟩|⟨_,_,h,h2⟩|⟨_,_,_,_,h⟩|⟨_,_,_,_,_,h⟩|⟨_,_,_,h,_⟩
 .omega
 .exact absurd h2.symm h
 .omega
 .omega
 .exact h
theorem Zb4:firstErr I.xs=0:=by
 rcases Zle hI with⟨_,h⟩|⟨_,_,h,h2⟩|⟨_,_,_,_,h⟩|⟨_,_,_,_,_,h⟩|⟨_,_,h,_,_⟩
 .omega
 .exact absurd h2.symm h
 .omega
 .omega
 .exact h
theorem Zcv {i j:Nat}(h:i<=j):I.adr i<=I.adr j:=Zby (Zah hI) hI.words h
theorem Zlg (i:Nat):0<=I.adr i:=(Zbv (Zah hI) hI.words i).1
theorem Zg6 {i:Nat}(h:i<=I.xs.length):I.adr i<=67108864:=Int.le_trans (Zcv hI h) (Zlf hI)
theorem Zg7 {i:Nat}{x:S.Item}(hx:I.xs[i]?=some x)(hk:x.kind=2):S.stands I.xs x.label=i:=by
 by_cases h:S.stands I.xs x.label=i
 .exact h
 .exact absurd ⟨i,x,hx,hk,h⟩ (Zr0 hI)
theorem Zyk {x:S.Item}{i:Nat}(hx:I.xs[i]?=some x):chkItem x=0:=by
 have h:=Zb4 hI;have hm:=Y2 hx;generalize I.xs=l at h hm;clear hx
 induction l with
 | nil=>cases hm
 | cons y r ih =>
  rw[firstErr] at h;by_cases c:chkItem y=0
  .rw[if_neg (by simp[c])] at h
   rcases List.mem_cons.1 hm with rfl|hm
   .exact c
   .exact ih h hm
  .rw[if_pos c] at h;exact absurd h c
theorem Zw {i:Nat}{x:S.Item}(hx:I.xs[i]?=some x):I.adr (i+1)=I.adr i+S.size x (I.F.getD i 0):=by
 show S.addr I.xs I.F 0 i+sizeAt I.xs I.F i=_
 unfold sizeAt;rw[hx];rfl
end
theorem Zr1 {m:S.Mach}{x:Inst}(hr:m.state=0)(hp:m.place<m.mem.length)(hw:m.mem.getD m.place.toNat 0=wordOf x)(hg:good x=true)(ht:(m.act x).2.2=0) :
 m.step={ (m.act x).1 with place:=(m.act x).2.1,steps:=m.steps+1 }:=by
 have e:wordOf x=S.enc x:=by unfold wordOf;rw[if_pos hg]
 obtain⟨h1,h2⟩:=Zqt hg;unfold S.Mach.step;rw[if_neg (by simp[hr]),if_neg (by omega),hw,e,h1,h2,if_neg (by simp),if_neg (by simp[ht])]
end
section
namespace S
structure Vw where
 reg:Int->Int
 mem:Int->Int
 inp:List Int
 out:List Int
namespace Vw
def set (V:Vw)(d v:Int):Vw:={ V with reg:=λ j=>if j=d then v else V.reg j }
def sto (V:Vw)(a v:Int):Vw:={ V with mem:=λ b=>if b=a then v else V.mem b }
end Vw
def inByte:List Int->Int
 | []=>4294967295
 | x::_=>x
def Mach.mv (m:Mach)(a:Int):Int:=m.mem.getD a.toNat 0
structure On (I:Img)(m:Mach)(V:Vw)(a:Int):Prop where
 ok:m.Ok
 run:m.state=0
 len:(m.mem.length:Int)=I.size
 code:I.In m.mem
 place:m.place=a
 reg:∀j,0<=j->j<=31->j≠25->m.rd j=V.reg j
 mem:∀b,0<=b->b<I.size->m.mv b=V.mem b
 inp:m.input=V.inp
 out:m.out=V.out
structure Off (I:Img)(m:Mach)(V:Vw)(code:Int):Prop where
 ok:m.Ok
 end_:m.state=1
 codeIs:m.code=code
 len:(m.mem.length:Int)=I.size
 code:I.In m.mem
 place:I.code m.place
 reg:∀j,0<=j->j<=31->j≠25->m.rd j=V.reg j
 mem:∀b,0<=b->b<I.size->m.mv b=V.mem b
 inp:m.input=V.inp
 out:m.out=V.out
def Go (I:Img)(V:Vw)(a:Int)(n:Nat)(V':Vw)(a':Int):Prop:=∀m,On I m V a->∃k,k<=n/\On I (m.steps_ k) V' a'
def GoH (I:Img)(V:Vw)(a:Int)(n:Nat)(V':Vw)(code:Int):Prop:=∀m,On I m V a->∃k,k<=n/\Off I (m.steps_ k) V' code
end S
theorem Zcq (I:S.Img)(V:S.Vw)(a:Int):S.Go I V a 0 V a:=λ m h=>⟨0,Yd _,h⟩
theorem S.Go.trans {I:S.Img}{V V' V2:S.Vw}{a b c:Int}{n k:Nat}(h:S.Go I V a n V' b)(h2:S.Go I V' b k V2 c):S.Go I V a (n+k) V2 c:=λ m hm=>by
 obtain⟨i,hi,h3⟩:=h m hm;obtain⟨j,hj,h4⟩:=h2 _ h3;exact⟨i+j,by omega,by rw[Zbj];exact h4⟩
theorem S.Go.halt {I:S.Img}{V V' V2:S.Vw}{a b c:Int}{n k:Nat}(h:S.Go I V a n V' b)(h2:S.GoH I V' b k V2 c):S.GoH I V a (n+k) V2 c:=λ m hm=>by
 obtain⟨i,hi,h3⟩:=h m hm;obtain⟨j,hj,h4⟩:=h2 _ h3;exact⟨i+j,by omega,by rw[Zbj];exact h4⟩
theorem S.Go.more {I:S.Img}{V V':S.Vw}{a b:Int}{n k:Nat}(h:S.Go I V a n V' b)(hk:n<=k):S.Go I V a k V' b:=λ m hm=>by
 obtain⟨i,hi,h3⟩:=h m hm;exact⟨i,by omega,h3⟩
theorem S.GoH.more {I:S.Img}{V V':S.Vw}{a b:Int}{n k:Nat}(h:S.GoH I V a n V' b)(hk:n<=k):S.GoH I V a k V' b:=λ m hm=>by
 obtain⟨i,hi,h3⟩:=h m hm;exact⟨i,by omega,h3⟩
theorem S.On.ext {I:S.Img}{m:S.Mach}{V V':S.Vw}{a:Int}(h:S.On I m V a)(hr:∀j,0<=j->j<=31->j≠25->V.reg j=V'.reg j)(hm:∀b,0<=b->b<I.size->V.mem b=V'.mem b)(hi:V.inp=V'.inp)(ho:V.out=V'.out):S.On I m V' a :=
 ⟨h.ok,h.run,h.len,h.code,h.place,λ j h0 h1 h2=>(h.reg j h0 h1 h2).trans (hr j h0 h1 h2),λ b h0 h1=>(h.mem b h0 h1).trans (hm b h0 h1),h.inp.trans hi,h.out.trans ho⟩
theorem S.Go.ext {I:S.Img}{V V' V2:S.Vw}{a b:Int}{n:Nat}(h:S.Go I V a n V' b)(hr:∀j,0<=j->j<=31->j≠25->V'.reg j=V2.reg j)(hm:∀b,0<=b->b<I.size->V'.mem b=V2.mem b)(hi:V'.inp=V2.inp)(ho:V'.out=V2.out):S.Go I V a n V2 b:=λ m h0=>by
 obtain⟨k,hk,h1⟩:=h m h0;exact⟨k,hk,h1.ext hr hm hi ho⟩
theorem S.On.rbd {I:S.Img}{m:S.Mach}{V:S.Vw}{a:Int}(h:S.On I m V a){j:Int}(h0:0<=j)(h1:j<=31)(h2:j≠25):0<=V.reg j/\V.reg j<=4294967295:=by
 rw[<- h.reg j h0 h1 h2];exact h.ok.word _
theorem S.On.zero {I:S.Img}{m:S.Mach}{V:S.Vw}{a:Int}(h:S.On I m V a):V.reg 0=0:=by
 rw[<- h.reg 0 (by decide) (by decide) (by decide)];exact h.ok.zero
theorem Zvm {I:S.Img}{V V':S.Vw}{a b:Int}{n:Nat}(h:∀m,S.On I m V a->S.Go I V a n V' b):S.Go I V a n V' b:=λ m hm=>h m hm m hm
section
variable {I:S.Img}(hI:I.Ok)
include hI
theorem Zr {m:S.Mach}{V:S.Vw}{a:Int}(h:S.On I m V a){i j:Nat}(h0:I.i0<=i)(h1:i<I.i1){y:Inst}(hj:(S.wordsAt I.xs I.F 0 i)[j]?=some (wordOf y))(ha:a=I.adr i+j)(hg:good y=true)(ht:(m.act y).2.2=0) :
 m.step={ (m.act y).1 with place:=(m.act y).2.1,steps:=m.steps+1 }/\u32m (m.place+1)=I.adr i+j+1:=by
 have hlt:=(Yg.1 hj).1;have hl:=Zaf (base:=0) (Zah hI) (Zcs (Zb4 hI)) hI.words i;have hn:I.adr (i+1)=I.adr i+sizeAt I.xs I.F i:=rfl;have h2:=Zg6 hI (i:=i+1) (by have:=hI.i1l;omega);have h3:=Zcv hI (i:=i+1) (j:=I.xs.length) (by have:=hI.i1l;omega);have h4:=hI.size;have h5:=Zlg hI i;have hp:=h.place;have hlen:=h.len;refine⟨Zr1 h.run (by omega) ?_ hg ht,?_⟩
 .have:=h.code i h0 h1 j _ hj
  rw[<- this,hp,ha]
  congr 1
  omega
 .unfold u32m
  omega
theorem Zg8 {m:S.Mach}{V:S.Vw}{a:Int}(h:S.On I m V a){y:Inst}{d v p:Int}(hd:0<d)(hd2:d<=31)(hs:m.step={ (m.act y).1 with place:=(m.act y).2.1,steps:=m.steps+1 })
 (hy:0<=y.d) (ha:m.act y=(m.put d v,p,0)):S.On I m.step (V.set d v) p:=by
 have hk:=Zm4 h.ok (x:=y) hy;rw[hs,ha];rw[ha] at hk;have e:m.put d v={ m with reg:=m.reg.set d.toNat v }:=by unfold S.Mach.put;rw[if_neg (by omega)]
 refine⟨placed hk.1 hk.2,by rw[e];exact h.run,by rw[e];exact h.len,by rw[e];exact h.code,rfl,λ j h0 h1 h2=>?_,by rw[e];exact h.mem,by rw[e];exact h.inp,by rw[e];exact h.out⟩;rw[e]
 show(m.reg.set d.toNat v).getD j.toNat 0=if j=d then v else V.reg j
 have hr:=h.ok.regs;by_cases c:j=d
 .subst c
  rw[if_pos rfl];have:j.toNat<m.reg.length:=by omega
  simp[this]
 .rw[if_neg c,<- h.reg j h0 h1 h2]
  have:¬d.toNat=j.toNat:=by omega
  show _=m.reg.getD j.toNat 0
  simp[this]
theorem Zc5 {m:S.Mach}{V:S.Vw}{a:Int}(h:S.On I m V a){y:Inst}{p:Int}(hs:m.step={ (m.act y).1 with place:=(m.act y).2.1,steps:=m.steps+1 })
 (hy:0<=y.d) (ha:m.act y=(m,p,0)):S.On I m.step V p:=by
 have hk:=Zm4 h.ok (x:=y) hy;rw[hs,ha];rw[ha] at hk;exact⟨placed hk.1 hk.2,h.run,h.len,h.code,rfl,h.reg,h.mem,h.inp,h.out⟩
section
variable {i:Nat}(h0:I.i0<=i)(h1:i<I.i1)
include h0 h1
theorem Zx {y:Inst}{s:ByteArray}{w:Int}(hx:I.xs[i]?=some ⟨1,y,s,w⟩):S.wordsAt I.xs I.F 0 i=[wordOf y]/\good y=true/\I.adr (i+1)=I.adr i+1:=by
 have hc:=Zyk hI hx;refine⟨?_,?_,?_⟩
 .unfold S.wordsAt
  rw[hx];rfl
 .by_cases g:good y=true
  .exact g
  .exfalso
   simp[chkItem,chk,g] at hc
 .rw[Zw hI hx]
  rfl
theorem Zob {V V':S.Vw}{y:Inst}{s:ByteArray}{w:Int}(hx:I.xs[i]?=some ⟨1,y,s,w⟩){d v:Int}(hd:0<d)(hd2:d<=31)(hy:0<=y.d)
 (ha:∀m,S.On I m V (I.adr i)->m.act y=(m.put d v,u32m (m.place+1),0)):S.Go I V (I.adr i) 1 (V.set d v) (I.adr (i+1)):=λ m hm=>by
 obtain⟨hw,hg,hn⟩:=Zx hI h0 h1 hx;have ha':=ha m hm;obtain⟨hs,hp⟩:=Zr hI hm h0 h1 (j:=0) (y:=y) (by rw[hw];rfl) (by simp) hg (by rw[ha']);refine⟨1,Yd _,?_⟩;have:=Zg8 hI hm hd hd2 hs hy ha';rw[hp] at this;rw[Zb3,hn]
 simpa using this
theorem Zr2 {V:S.Vw}{op d a b:Int}{s:ByteArray}{w:Int}(hx:I.xs[i]?=some ⟨1,⟨op,d,a,b,0⟩,s,w⟩)(ho:op<=14)(hd:0<d)(hd2:d<=31)
 (ha:0<=a/\a<=31/\a≠25) (hb:0<=b/\b<=31/\b≠25) (hz:V.reg b=0->op≠5/\op≠6) :
 S.Go I V (I.adr i) 1 (V.set d (alu op (V.reg a) (V.reg b))) (I.adr (i+1)):=by
 refine Zob (V':=V) hI h0 h1 hx hd hd2 (by show 0<=d;omega) λ m hm=>?_
 have e1:=hm.reg a ha.1 ha.2.1 ha.2.2;have e2:=hm.reg b hb.1 hb.2.1 hb.2.2;unfold S.Mach.act;simp only[e1,e2,if_pos ho];rw[if_neg (λ q=>by have:=hz q.1;omega)]
theorem Zxd {V:S.Vw}{op d a n:Int}{s:ByteArray}{w:Int}(hx:I.xs[i]?=some ⟨1,⟨op,d,a,0,n⟩,s,w⟩)(ho:15<=op/\op<=22)(hd:0<d)(hd2:d<=31)(ha:0<=a/\a<=31/\a≠25) :
 S.Go I V (I.adr i) 1 (V.set d (alu (like op) (V.reg a) (u32m n))) (I.adr (i+1)):=by
 refine Zob (V':=V) hI h0 h1 hx hd hd2 (by show 0<=d;omega) λ m hm=>?_
 have e1:=hm.reg a ha.1 ha.2.1 ha.2.2;unfold S.Mach.act;simp only[e1];rw[if_neg (by omega),if_pos ho.2]
theorem Zc6 {V:S.Vw}{d a n:Int}{s:ByteArray}{w:Int}(hx:I.xs[i]?=some ⟨1,⟨15,d,a,0,n⟩,s,w⟩)(hd:0<d)(hd2:d<=31)(ha:0<=a/\a<=31/\a≠25) :
 S.Go I V (I.adr i) 1 (V.set d (u32m (V.reg a+n))) (I.adr (i+1)):=by
 have h:=Zxd (V:=V) hI h0 h1 hx (by decide) hd hd2 ha;have e:alu (like 15) (V.reg a) (u32m n)=u32m (V.reg a+n):=by
  show u32m (V.reg a+u32m n)=_
  unfold u32m;omega
 rw[e] at h;exact h
theorem Zyl {V:S.Vw}{d a:Int}{s:ByteArray}{w:Int}(hx:I.xs[i]?=some ⟨1,⟨15,d,a,0,0⟩,s,w⟩)(hd:0<d)(hd2:d<=31)(ha:0<=a/\a<=31/\a≠25) :
 S.Go I V (I.adr i) 1 (V.set d (V.reg a)) (I.adr (i+1)):=Zvm λ m hm=>by
 have hb:=hm.rbd ha.1 ha.2.1 ha.2.2;have h:=Zc6 (V:=V) hI h0 h1 hx hd hd2 ha;have e:u32m (V.reg a+0)=V.reg a:=by unfold u32m;omega
 rw[e] at h;exact h
theorem Z0w {V:S.Vw}{d n:Int}{s:ByteArray}{w:Int}(hx:I.xs[i]?=some ⟨1,⟨23,d,0,0,n⟩,s,w⟩)(hd:0<d)(hd2:d<=31)(hn:0<=n/\n<=65535) :
 S.Go I V (I.adr i) 1 (V.set d (n*65536)) (I.adr (i+1)):=by
 refine Zob (V':=V) hI h0 h1 hx hd hd2 (by show 0<=d;omega) λ m hm=>?_
 have e:u32m (u32m n*65536)=n*65536:=by unfold u32m;omega
 unfold S.Mach.act;simp[e]
theorem Zym {V:S.Vw}{d a n p:Int}{s:ByteArray}{w:Int}(hx:I.xs[i]?=some ⟨1,⟨24,d,a,0,n⟩,s,w⟩)(hd:0<d)(hd2:d<=31)(ha:0<=a/\a<=31/\a≠25)
 (hp:p=u32m (V.reg a+n)) (hp2:p<I.size):S.Go I V (I.adr i) 1 (V.set d (V.mem p)) (I.adr (i+1)):=by
 have hp0:0<=p:=by rw[hp];exact(Zab _).1
 refine Zob (V':=V) hI h0 h1 hx hd hd2 (by show 0<=d;omega) λ m hm=>?_
 have e1:=hm.reg a ha.1 ha.2.1 ha.2.2;have e2:u32m (V.reg a+u32m n)=p:=by rw[hp];unfold u32m;omega
 have hl:=hm.len;have hv:=hm.mem p hp0 hp2;unfold S.Mach.mv at hv;unfold S.Mach.act;simp only[e1,e2];rw[if_neg (by decide),if_neg (by decide),if_neg (by decide),if_pos trivial,if_pos (by omega),hv]
theorem Zr3 {V:S.Vw}{a b n p:Int}{s:ByteArray}{w:Int}(hx:I.xs[i]?=some ⟨1,⟨25,0,a,b,n⟩,s,w⟩)(ha:0<=a/\a<=31/\a≠25)(hb:0<=b/\b<=31/\b≠25)
 (hp:p=u32m (V.reg a+n)) (hp2:p<I.size) (hc:¬I.code p):S.Go I V (I.adr i) 1 (V.sto p (V.reg b)) (I.adr (i+1)):=λ m hm=>by
 have hp0:0<=p:=by rw[hp];exact(Zab _).1
 obtain⟨hw,hg,hn⟩:=Zx hI h0 h1 hx;have e1:=hm.reg a ha.1 ha.2.1 ha.2.2;have e2:=hm.reg b hb.1 hb.2.1 hb.2.2;have e3:u32m (V.reg a+u32m n)=p:=by rw[hp];unfold u32m;omega
 have hl:=hm.len;have ha':m.act ⟨25,0,a,b,n⟩=({ m with mem:=m.mem.set p.toNat (V.reg b) },u32m (m.place+1),0):=by
  unfold S.Mach.act;simp only[e1,e2,e3];rw[if_neg (by decide),if_neg (by decide),if_neg (by decide),if_neg (by decide),if_pos trivial,if_pos (by omega)]
 obtain⟨hs,hp1⟩:=Zr hI hm h0 h1 (j:=0) (y:=⟨25,0,a,b,n⟩) (by rw[hw];rfl) (by simp) hg (by rw[ha']);have hk:=Zm4 hm.ok (x:=⟨25,0,a,b,n⟩) (Ya0 _);rw[ha'] at hk;refine⟨1,Yd _,?_⟩;rw[Zb3,hs,ha',hn];refine⟨placed hk.1 hk.2,hm.run,by simpa using hm.len,λ k k0 k1 j v hv=>?_,by show u32m (m.place+1)=_;rw[hp1];simp,hm.reg,λ q q0 q1=>?_,hm.inp,hm.out⟩
 .have hold:=hm.code k k0 k1 j v hv
  have hlt:=(Yg.1 hv).1;have hlen:=Zaf (base:=0) (Zah hI) (Zcs (Zb4 hI)) hI.words k;have hnx:I.adr (k+1)=I.adr k+sizeAt I.xs I.F k:=rfl;have l1:=Zcv hI (i:=I.i0) (j:=k) k0;have l2:=Zcv hI (i:=k+1) (j:=I.i1) k1;have l3:=Zlg hI k;have hne:¬p.toNat=(I.adr k).toNat+j:=by
   intro e;exact hc ⟨by omega,by omega⟩
  show(m.mem.set p.toNat (V.reg b)).getD _ 0=v
  rw[<- hold];simp only[Yh,Ya9 hne]
 .show(m.mem.set p.toNat (V.reg b)).getD q.toNat 0=if q=p then V.reg b else V.mem q
  by_cases c:q=p
  .subst c
   rw[if_pos rfl];have:q.toNat<m.mem.length:=by omega
   simp[this]
  .rw[if_neg c,<- hm.mem q q0 q1]
   have:¬p.toNat=q.toNat:=by omega
   show _=m.mem.getD q.toNat 0
   simp only[Yh,Ya9 this]
theorem Z25 {V:S.Vw}{d:Int}{s:ByteArray}{w:Int}(hx:I.xs[i]?=some ⟨1,⟨34,d,0,0,0⟩,s,w⟩)(hd:0<d)(hd2:d<=31) :
 S.Go I V (I.adr i) 1 (({ V with inp:=V.inp.tail }:S.Vw).set d (S.inByte V.inp)) (I.adr (i+1)):=λ m hm=>by
 obtain⟨hw,hg,hn⟩:=Zx hI h0 h1 hx;have hin:=hm.inp;obtain⟨v,hv⟩:=Yx (S.inByte V.inp);have ha':m.act ⟨34,d,0,0,0⟩=(({ m with input:=V.inp.tail }:S.Mach).put d v,u32m (m.place+1),0):=by
  unfold S.Mach.act;simp only[hin];rw[if_neg (by decide),if_neg (by decide),if_neg (by decide),if_neg (by decide),if_neg (by decide),if_neg (by decide),if_neg (by decide),if_neg (by decide),if_pos trivial,hv]
  cases hV:V.inp with
  | nil =>
   rw[hV] at hin;simp only[List.tail_nil];have:({ m with input:=[] }:S.Mach)=m:=by rw[<- hin]
   rw[this];rfl
  | cons x r=>rfl
 obtain⟨hs,hp1⟩:=Zr hI hm h0 h1 (j:=0) (y:=⟨34,d,0,0,0⟩) (by rw[hw];rfl) (by simp) hg (by rw[ha']);have hk:=Zm4 hm.ok (x:=⟨34,d,0,0,0⟩) (by show 0<=d;omega);rw[ha'] at hk;refine⟨1,Yd _,?_⟩;rw[Zb3,hs,ha',hn,<- hv];have e:({ m with input:=V.inp.tail }:S.Mach).put d v={ m with input:=V.inp.tail,reg:=m.reg.set d.toNat v }:=by unfold S.Mach.put;rw[if_neg (by omega)]
 refine⟨placed hk.1 hk.2,by rw[e];exact hm.run,by rw[e];exact hm.len,by rw[e];exact hm.code,by show u32m (m.place+1)=_;rw[hp1];simp,λ j j0 j1 j2=>?_,by rw[e];exact hm.mem,by rw[e];rfl,by rw[e];exact hm.out⟩;rw[e]
 show(m.reg.set d.toNat v).getD j.toNat 0=if j=d then v else V.reg j
 have hr:=hm.ok.regs;by_cases c:j=d
 .subst c
  rw[if_pos rfl];have:j.toNat<m.reg.length:=by omega
  simp[this]
 .rw[if_neg c,<- hm.reg j j0 j1 j2]
  have:¬d.toNat=j.toNat:=by omega
  show _=m.reg.getD j.toNat 0
  simp[this]
theorem Z0x {V:S.Vw}{a:Int}{s:ByteArray}{w:Int}(hx:I.xs[i]?=some ⟨1,⟨35,0,a,0,0⟩,s,w⟩)(ha:0<=a/\a<=31/\a≠25) :
 S.Go I V (I.adr i) 1 { V with out:=V.out++[V.reg a%256] } (I.adr (i+1)):=λ m hm=>by
 obtain⟨hw,hg,hn⟩:=Zx hI h0 h1 hx;have e1:=hm.reg a ha.1 ha.2.1 ha.2.2;have ha':m.act ⟨35,0,a,0,0⟩=({ m with out:=m.out++[V.reg a%256] },u32m (m.place+1),0):=by
  unfold S.Mach.act;simp only[e1];rw[if_neg (by decide),if_neg (by decide),if_neg (by decide),if_neg (by decide),if_neg (by decide),if_neg (by decide),if_neg (by decide),if_neg (by decide),if_neg (by decide),if_pos trivial]
 obtain⟨hs,hp1⟩:=Zr hI hm h0 h1 (j:=0) (y:=⟨35,0,a,0,0⟩) (by rw[hw];rfl) (by simp) hg (by rw[ha']);have hk:=Zm4 hm.ok (x:=⟨35,0,a,0,0⟩) (Ya0 _);rw[ha'] at hk;refine⟨1,Yd _,?_⟩;rw[Zb3,hs,ha',hn];exact⟨placed hk.1 hk.2,hm.run,hm.len,hm.code,by show u32m (m.place+1)=_;rw[hp1];simp,hm.reg,hm.mem,hm.inp,by show m.out++_=_;rw[hm.out]⟩
theorem Zyn {V:S.Vw}{a:Int}{s:ByteArray}{w:Int}(hx:I.xs[i]?=some ⟨1,⟨36,0,a,0,0⟩,s,w⟩)(ha:0<=a/\a<=31/\a≠25) :
 S.GoH I V (I.adr i) 1 V (V.reg a):=λ m hm=>by
 obtain⟨hw,hg,hn⟩:=Zx hI h0 h1 hx;have e1:=hm.reg a ha.1 ha.2.1 ha.2.2;have ha':m.act ⟨36,0,a,0,0⟩=({ m with state:=1,code:=V.reg a },m.place,0):=by
  unfold S.Mach.act;simp only[e1];rw[if_neg (by decide),if_neg (by decide),if_neg (by decide),if_neg (by decide),if_neg (by decide),if_neg (by decide),if_neg (by decide),if_neg (by decide),if_neg (by decide),if_neg (by decide)]
 obtain⟨hs,hp1⟩:=Zr hI hm h0 h1 (j:=0) (y:=⟨36,0,a,0,0⟩) (by rw[hw];rfl) (by simp) hg (by rw[ha']);have hk:=Zm4 hm.ok (x:=⟨36,0,a,0,0⟩) (Ya0 _);rw[ha'] at hk;refine⟨1,Yd _,?_⟩;rw[Zb3,hs,ha'];have l1:=Zcv hI h0;have l2:=Zcv hI (i:=i+1) (j:=I.i1) h1;have hp:=hm.place;exact⟨placed hk.1 hk.2,rfl,rfl,hm.len,hm.code,⟨by show I.adr I.i0<=m.place;omega,by show m.place<I.adr I.i1;omega⟩,hm.reg,hm.mem,hm.inp,hm.out⟩
theorem Zm5 {V:S.Vw}{a n:Int}{s:ByteArray}{w:Int}(hx:I.xs[i]?=some ⟨1,⟨33,0,a,0,n⟩,s,w⟩)(ha:0<=a/\a<=31/\a≠25) :
 S.Go I V (I.adr i) 1 V (u32m (V.reg a+n)):=λ m hm=>by
 obtain⟨hw,hg,hn⟩:=Zx hI h0 h1 hx;have e1:=hm.reg a ha.1 ha.2.1 ha.2.2;have e3:u32m (V.reg a+u32m n)=u32m (V.reg a+n):=by unfold u32m;omega
 have ha':m.act ⟨33,0,a,0,n⟩=(m,u32m (V.reg a+n),0):=by
  unfold S.Mach.act S.Mach.put;simp[e1,e3]
 obtain⟨hs,hp1⟩:=Zr hI hm h0 h1 (j:=0) (y:=⟨33,0,a,0,n⟩) (by rw[hw];rfl) (by simp) hg (by rw[ha']);exact⟨1,Yd _,Zc5 hI hm hs (Ya0 _) ha'⟩
theorem Zdl {V:S.Vw}{y:Inst}{s:ByteArray}{w:Int}(hx:I.xs[i]?=some ⟨2,y,s,w⟩):S.Go I V (I.adr i) 0 V (I.adr (i+1)):=by
 have e:I.adr (i+1)=I.adr i:=by
  rw[Zw hI hx];simp[S.size]
 rw[e];exact Zcq _ _ _
end
end
end
section
theorem Z4f {h l:Nat}(hl:l<65536):(h*65536) ||| l=h*65536+l:=by
 have:=Nat.two_pow_add_eq_or_of_lt (i:=16) (b:=l) (by omega) h;have e:2^16*h=h*65536:=by omega
 rw[e] at this;exact this.symm
theorem Zr4 {w:Int}(w0:0<=w)(w1:w<=4294967295):alu 8 (w/65536*65536) (w%65536)=w:=by
 show bits .or .u32 (w/65536*65536) (w%65536)=w
 rw[u32_or (by omega) (by omega) (by omega) (by omega)];have e3:(w/65536*65536).toNat=(w/65536).toNat*65536:=by omega
 rw[e3,Z4f (by omega)];omega
theorem Z0y {xs:List S.Item}{F:List Int}{base:Int}{i:Nat}{x:S.Item}(hk:x.kind=4)(hf:F.getD i 0=1)(h:fit xs F base i x=true) :
 -1048576<=S.addr xs F base (S.stands xs x.label).toNat-S.addr xs F base (i+1)/\S.addr xs F base (S.stands xs x.label).toNat-S.addr xs F base (i+1)<=1048575:=by
 unfold fit at h;rw[if_neg (by rw[hf,hk];decide),if_neg (λ q=>by rw[hk] at q;exact absurd q.1 (by decide))] at h;exact of_decide_eq_true h
theorem Z0z {xs:List S.Item}{F:List Int}{base:Int}{i:Nat}{x:S.Item}(hk:x.kind=3)(hf:F.getD i 0=2)(h:fit xs F base i x=true) :
 -1048576<=S.addr xs F base (S.stands xs x.label).toNat-S.addr xs F base (i+1)/\S.addr xs F base (S.stands xs x.label).toNat-S.addr xs F base (i+1)<=1048575:=by
 unfold fit at h;rw[if_neg (by rw[hf,hk];decide),if_neg (by rw[hf,hk];decide)] at h;exact of_decide_eq_true h
theorem Z00 {xs:List S.Item}{F:List Int}{base:Int}{i:Nat}{x:S.Item}(hk:x.kind=3)(hf:F.getD i 0=1)(h:fit xs F base i x=true) :
 -32768<=S.addr xs F base (S.stands xs x.label).toNat-S.addr xs F base (i+1)/\S.addr xs F base (S.stands xs x.label).toNat-S.addr xs F base (i+1)<=32767:=by
 unfold fit at h;rw[if_neg (by rw[hf,hk];decide),if_pos (by rw[hf,hk];decide)] at h;exact of_decide_eq_true h
theorem Zj4 {d n:Int}(hd:0<=d/\d<=31)(hn:-1048576<=n/\n<=1048575):good ⟨32,d,0,0,n⟩=true:=by
 have hf:form 32=5:=by decide
 have hl:least 32=-1048576/\most 32=1048575:=by decide
 simp[good,hf,hl.1,hl.2,S.reg,hasD,hasA,hasB];omega
theorem Zg9 {d a n:Int}(hd:0<=d/\d<=31)(ha:0<=a/\a<=31)(hn:-32768<=n/\n<=32767):good ⟨33,d,a,0,n⟩=true:=by
 have hf:form 33=2:=by decide
 have hl:least 33=-32768/\most 33=32767:=by decide
 simp[good,hf,hl.1,hl.2,S.reg,hasD,hasA,hasB];omega
theorem Zlh {d n:Int}(hd:0<=d/\d<=31)(hn:0<=n/\n<=65535):good ⟨23,d,0,0,n⟩=true:=by
 have hf:form 23=3:=by decide
 have hl:least 23=0/\most 23=65535:=by decide
 simp[good,hf,hl.1,hl.2,S.reg,hasD,hasA,hasB];omega
theorem Zli {d a n:Int}(hd:0<=d/\d<=31)(ha:0<=a/\a<=31)(hn:0<=n/\n<=65535):good ⟨17,d,a,0,n⟩=true:=by
 have hf:form 17=2:=by decide
 have hl:least 17=0/\most 17=65535:=by decide
 simp[good,hf,hl.1,hl.2,S.reg,hasD,hasA,hasB];omega
theorem Zm6 {op a b n:Int}(ho:op=26\/op=27)(ha:0<=a/\a<=31)(hb:0<=b/\b<=31)(hn:-32768<=n/\n<=32767):good ⟨op,0,a,b,n⟩=true:=by
 rcases ho with rfl|rfl
 .have hf:form 26=4:=by decide
  have hl:least 26=-32768/\most 26=32767:=by decide
  simp[good,hf,hl.1,hl.2,S.reg,hasD,hasA,hasB];omega
 .have hf:form 27=4:=by decide
  have hl:least 27=-32768/\most 27=32767:=by decide
  simp[good,hf,hl.1,hl.2,S.reg,hasD,hasA,hasB];omega
section
variable {I:S.Img}(hI:I.Ok)
include hI
theorem Zj5 {m:S.Mach}{V:S.Vw}{a:Int}(h:S.On I m V a){y:Inst}{v p:Int}(hs:m.step={ (m.act y).1 with place:=(m.act y).2.1,steps:=m.steps+1 })
 (hy:0<=y.d) (ha:m.act y=(m.put 25 v,p,0)):S.On I m.step V p/\m.step.rd 25=v:=by
 refine⟨(Zg8 hI h (by decide) (by decide) hs hy ha).ext (λ j _ _ h2=>?_) (λ _ _ _=>rfl) rfl rfl,?_⟩
 .show(if j=25 then v else V.reg j)=V.reg j
  rw[if_neg h2]
 .rw[hs,ha]
  have hr:=h.ok.regs
  show(m.reg.set 25 v).getD 25 0=v
  have:25<m.reg.length:=by omega
  simp[this]
variable {i:Nat}(h0:I.i0<=i)(h1:i<I.i1)
include h0 h1
theorem Zr5 {m:S.Mach}{V:S.Vw}{j:Nat}{tq:Int}(hm:S.On I m V (I.adr i+j))(ht0:0<=tq)(ht1:tq<=4294967295)
 (hj:(S.wordsAt I.xs I.F 0 i)[j]?=some (lui tq)) (hj1:(S.wordsAt I.xs I.F 0 i)[j+1]?=some (ori tq)) :
 S.On I (m.steps_ 2) V (I.adr i+(j+2:Nat))/\(m.steps_ 2).rd 25=tq:=by
 have hg1:good ⟨23,25,0,0,tq/65536⟩=true:=Zlh (by decide) (by omega);have hg2:good ⟨17,25,25,0,tq%65536⟩=true:=Zli (by decide) (by decide) (by omega);have a1:m.act ⟨23,25,0,0,tq/65536⟩=(m.put 25 (tq/65536*65536),u32m (m.place+1),0):=by
  have e:u32m (u32m (tq/65536)*65536)=tq/65536*65536:=by unfold u32m;omega
  unfold S.Mach.act;simp[e]
 obtain⟨s1,p1⟩:=Zr hI hm h0 h1 hj rfl hg1 (by rw[a1]);obtain⟨k1,r1⟩:=Zj5 hI hm s1 (show(0:Int)<=25 by decide) a1;rw[p1] at k1;have a2:m.step.act ⟨17,25,25,0,tq%65536⟩=(m.step.put 25 tq,u32m (m.step.place+1),0):=by
  have e:alu (like 17) (tq/65536*65536) (u32m (tq%65536))=tq:=by
   have e1:u32m (tq%65536)=tq%65536:=by unfold u32m;omega
   rw[e1];exact Zr4 ht0 ht1
  unfold S.Mach.act;simp only[r1,e];rw[if_neg (by decide),if_pos (by decide)]
 obtain⟨s2,p2⟩:=Zr hI k1 h0 h1 hj1 (by omega) hg2 (by rw[a2]);obtain⟨k2,r2⟩:=Zj5 hI k1 s2 (show(0:Int)<=25 by decide) a2;rw[p2] at k2;have e2:m.steps_ 2=m.step.step:=rfl;rw[e2];refine⟨?_,r2⟩;have e3:I.adr i+((j+1:Nat):Int)+1=I.adr i+((j+2:Nat):Int):=by omega
 rw[<- e3];exact k2
theorem Zoc {x:S.Item}(hx:I.xs[i]?=some x)(hn:named x=true):toOf I.xs I.F 0 x=I.lab x.label/\0<=I.lab x.label/\I.lab x.label<=67108864:=by
 have e:toOf I.xs I.F 0 x=I.lab x.label:=by unfold toOf;rw[if_pos hn];rfl
 have h:=Zsy (Zah hI) hI.words (Ya0 0) (Zlf hI) x;rw[e] at h;exact⟨e,h⟩
theorem Zj6 {V:S.Vw}{o a b n:Int}{s:ByteArray}{w:Int}(hx:I.xs[i]?=some ⟨4,⟨o,0,a,b,n⟩,s,w⟩):S.Go I V (I.adr i) 3 V (I.lab s):=λ m hm=>by
 obtain⟨hl,l0,l1⟩:toOf I.xs I.F 0 _=I.lab s/\0<=I.lab s/\I.lab s<=67108864:=Zoc hI h0 h1 hx rfl;have hsz:=Zw hI hx;have hfo:=((Zah hI).2 i _ hx).2.1 rfl;have hfit:=(Zfc hI).2 i _ hx;have hb:=Zg6 hI (i:=i+1) (by have:=hI.i1l;omega);have hb0:=Zlg hI i;have hw:S.wordsAt I.xs I.F 0 i=wordsOf ⟨4,⟨o,0,a,b,n⟩,s,w⟩ (I.F.getD i 0) (I.adr i) (I.lab s):=by
  unfold S.wordsAt;rw[hx]
  show wordsOf _ _ _ (toOf I.xs I.F 0 _)=_
  rw[hl];rfl
 rcases(show I.F.getD i 0=1\/I.F.getD i 0=2 by omega) with hf|hf
 .rw[hf] at hw hsz
  have hw':S.wordsAt I.xs I.F 0 i=[wordOf ⟨32,0,0,0,I.lab s-I.adr i-1⟩]:=hw;have hsz':I.adr (i+1)=I.adr i+1:=hsz;have hr:-1048576<=I.lab s-I.adr (i+1)/\I.lab s-I.adr (i+1)<=1048575:=Z0y rfl hf hfit;have hg:good ⟨32,0,0,0,I.lab s-I.adr i-1⟩=true:=Zj4 (by decide) (by omega);have ha:m.act ⟨32,0,0,0,I.lab s-I.adr i-1⟩=(m,u32m (u32m (m.place+1)+u32m (I.lab s-I.adr i-1)),0):=by
   unfold S.Mach.act S.Mach.put;simp
  obtain⟨s1,p1⟩:=Zr hI hm h0 h1 (j:=0) (by rw[hw'];rfl) (by simp) hg (by rw[ha]);have k1:=Zc5 hI hm s1 (Ya0 _) ha;refine⟨1,by decide,?_⟩;have e:u32m (u32m (m.place+1)+u32m (I.lab s-I.adr i-1))=I.lab s:=by
   rw[p1];unfold u32m;omega
  rw[e] at k1;exact k1
 .rw[hf] at hw
  have hw':S.wordsAt I.xs I.F 0 i=[lui (I.lab s),ori (I.lab s),wordOf ⟨33,0,25,0,0⟩]:=hw;obtain⟨k2,r2⟩:=Zr5 hI h0 h1 (j:=0) (tq:=I.lab s) (by simpa using hm) l0 (by omega) (by rw[hw'];rfl) (by rw[hw'];rfl);have ha:(m.steps_ 2).act ⟨33,0,25,0,0⟩=(m.steps_ 2,I.lab s,0):=by
   have e:u32m (I.lab s+u32m 0)=I.lab s:=by unfold u32m;omega
   unfold S.Mach.act S.Mach.put;simp only[r2,e];simp
  obtain⟨s1,p1⟩:=Zr hI k2 h0 h1 (j:=2) (by rw[hw'];rfl) rfl (Zg9 (by decide) (by decide) (by decide)) (by rw[ha]);exact⟨3,Yd _,Zc5 hI k2 s1 (Ya0 _) ha⟩
theorem Zvn {V:S.Vw}{o d a b n:Int}{s:ByteArray}{w:Int}(hx:I.xs[i]?=some ⟨4,⟨o,d,a,b,n⟩,s,w⟩)(hd:0<d)(hd2:d<=31):S.Go I V (I.adr i) 3 (V.set d (I.adr (i+1))) (I.lab s):=λ m hm=>by
 obtain⟨hl,l0,l1⟩:toOf I.xs I.F 0 _=I.lab s/\0<=I.lab s/\I.lab s<=67108864:=Zoc hI h0 h1 hx rfl;have hsz:=Zw hI hx;have hfo:=((Zah hI).2 i _ hx).2.1 rfl;have hfit:=(Zfc hI).2 i _ hx;have hb:=Zg6 hI (i:=i+1) (by have:=hI.i1l;omega);have hb0:=Zlg hI i;have hw:S.wordsAt I.xs I.F 0 i=wordsOf ⟨4,⟨o,d,a,b,n⟩,s,w⟩ (I.F.getD i 0) (I.adr i) (I.lab s):=by
  unfold S.wordsAt;rw[hx]
  show wordsOf _ _ _ (toOf I.xs I.F 0 _)=_
  rw[hl];rfl
 rcases(show I.F.getD i 0=1\/I.F.getD i 0=2 by omega) with hf|hf
 .rw[hf] at hw hsz
  have hw':S.wordsAt I.xs I.F 0 i=[wordOf ⟨32,d,0,0,I.lab s-I.adr i-1⟩]:=hw;have hsz':I.adr (i+1)=I.adr i+1:=hsz;have hr:-1048576<=I.lab s-I.adr (i+1)/\I.lab s-I.adr (i+1)<=1048575:=Z0y rfl hf hfit;have hg:good ⟨32,d,0,0,I.lab s-I.adr i-1⟩=true:=Zj4 (by omega) (by omega);have ha:m.act ⟨32,d,0,0,I.lab s-I.adr i-1⟩=(m.put d (u32m (m.place+1)),u32m (u32m (m.place+1)+u32m (I.lab s-I.adr i-1)),0):=by
   unfold S.Mach.act;simp
  obtain⟨s1,p1⟩:=Zr hI hm h0 h1 (j:=0) (by rw[hw'];rfl) (by simp) hg (by rw[ha]);have k1:=Zg8 hI hm hd hd2 s1 (by show 0<=d;omega) ha;refine⟨1,by decide,?_⟩;have e:u32m (u32m (m.place+1)+u32m (I.lab s-I.adr i-1))=I.lab s:=by
   rw[p1];unfold u32m;omega
  have e2:u32m (m.place+1)=I.adr (i+1):=by rw[p1,hsz'];simp
  rw[e,e2] at k1;exact k1
 .rw[hf] at hw hsz
  have hw':S.wordsAt I.xs I.F 0 i=[lui (I.lab s),ori (I.lab s),wordOf ⟨33,d,25,0,0⟩]:=hw;have hsz':I.adr (i+1)=I.adr i+3:=hsz;obtain⟨k2,r2⟩:=Zr5 hI h0 h1 (j:=0) (tq:=I.lab s) (by simpa using hm) l0 (by omega) (by rw[hw'];rfl) (by rw[hw'];rfl);have ha:(m.steps_ 2).act ⟨33,d,25,0,0⟩=((m.steps_ 2).put d (u32m ((m.steps_ 2).place+1)),I.lab s,0):=by
   have e:u32m (I.lab s+u32m 0)=I.lab s:=by unfold u32m;omega
   unfold S.Mach.act;simp only[r2,e];simp
  obtain⟨s1,p1⟩:=Zr hI k2 h0 h1 (j:=2) (by rw[hw'];rfl) rfl (Zg9 (by omega) (by decide) (by decide)) (by rw[ha]);have k1:=Zg8 hI k2 hd hd2 s1 (by show 0<=d;omega) ha;have e2:u32m ((m.steps_ 2).place+1)=I.adr (i+1):=by rw[p1,hsz'];omega
  rw[e2] at k1;exact⟨3,Yd _,k1⟩
theorem Zyo {V:S.Vw}{o d a b n:Int}{s:ByteArray}(hx:I.xs[i]?=some ⟨5,⟨o,d,a,b,n⟩,s,0⟩)(hd:0<d)(hd2:d<=31)(hd3:d≠25):S.Go I V (I.adr i) 2 (V.set d (I.lab s)) (I.adr (i+1)):=λ m hm=>by
 obtain⟨hl,l0,l1⟩:toOf I.xs I.F 0 _=I.lab s/\0<=I.lab s/\I.lab s<=67108864:=Zoc hI h0 h1 hx rfl;have hsz:I.adr (i+1)=I.adr i+2:=Zw hI hx;have hw':S.wordsAt I.xs I.F 0 i=[wordOf ⟨23,d,0,0,I.lab s/65536⟩,wordOf ⟨17,d,d,0,I.lab s%65536⟩]:=by
  unfold S.wordsAt;rw[hx]
  show wordsOf _ _ _ (toOf I.xs I.F 0 _)=_
  rw[hl]
  show [wordOf ⟨23,d,0,0,(I.lab s+0)%4294967296/65536⟩,wordOf ⟨17,d,d,0,(I.lab s+0)%4294967296%65536⟩]=_
  have e:(I.lab s+0)%4294967296=I.lab s:=by omega
  rw[e]
 have hg1:good ⟨23,d,0,0,I.lab s/65536⟩=true:=Zlh (by omega) (by omega);have hg2:good ⟨17,d,d,0,I.lab s%65536⟩=true:=Zli (by omega) (by omega) (by omega);have a1:m.act ⟨23,d,0,0,I.lab s/65536⟩=(m.put d (I.lab s/65536*65536),u32m (m.place+1),0):=by
  have e:u32m (u32m (I.lab s/65536)*65536)=I.lab s/65536*65536:=by unfold u32m;omega
  unfold S.Mach.act;simp[e]
 obtain⟨s1,p1⟩:=Zr hI hm h0 h1 (j:=0) (by rw[hw'];rfl) (by simp) hg1 (by rw[a1]);have k1:=Zg8 hI hm hd hd2 s1 (by show 0<=d;omega) a1;rw[p1] at k1;have r1:m.step.rd d=I.lab s/65536*65536:=by
  rw[k1.reg d (by omega) hd2 hd3]
  show(if d=d then _ else _)=_
  rw[if_pos rfl]
 have a2:m.step.act ⟨17,d,d,0,I.lab s%65536⟩=(m.step.put d (I.lab s),u32m (m.step.place+1),0):=by
  have e:alu (like 17) (I.lab s/65536*65536) (u32m (I.lab s%65536))=I.lab s:=by
   have e1:u32m (I.lab s%65536)=I.lab s%65536:=by unfold u32m;omega
   rw[e1];exact Zr4 l0 (by omega)
  unfold S.Mach.act;simp only[r1,e];rw[if_neg (by decide),if_pos (by decide)]
 obtain⟨s2,p2⟩:=Zr hI k1 h0 h1 (j:=1) (by rw[hw'];rfl) (by omega) hg2 (by rw[a2]);have k2:=Zg8 hI k1 hd hd2 s2 (by show 0<=d;omega) a2;refine⟨2,Yd _,?_⟩;have e3:u32m (m.step.place+1)=I.adr (i+1):=by rw[p2,hsz];omega
 rw[e3] at k2;refine k2.ext (λ j _ _ _=>?_) (λ _ _ _=>rfl) rfl rfl
 show(if j=d then _ else if j=d then _ else _)=if j=d then _ else _
 split <;> rfl
theorem Zlj {V:S.Vw}{d a n:Int}{s:ByteArray}{w:Int}(hx:I.xs[i]?=some ⟨3,⟨26,d,a,0,n⟩,s,w⟩)(ha:0<=a/\a<=31/\a≠25) :
 S.Go I V (I.adr i) 4 V (if V.reg a=0 then I.lab s else I.adr (i+1)):=λ m hm=>by
 obtain⟨hl,l0,l1⟩:toOf I.xs I.F 0 _=I.lab s/\0<=I.lab s/\I.lab s<=67108864:=Zoc hI h0 h1 hx rfl;have hsz:=Zw hI hx;have hfo:=((Zah hI).2 i _ hx).1 rfl;have hfit:=(Zfc hI).2 i _ hx;have hb:=Zg6 hI (i:=i+1) (by have:=hI.i1l;omega);have hb0:=Zlg hI i;have e1:=hm.reg a ha.1 ha.2.1 ha.2.2;have e0:m.rd 0=0:=hm.ok.zero;have hw:S.wordsAt I.xs I.F 0 i=wordsOf ⟨3,⟨26,d,a,0,n⟩,s,w⟩ (I.F.getD i 0) (I.adr i) (I.lab s):=by
  unfold S.wordsAt;rw[hx]
  show wordsOf _ _ _ (toOf I.xs I.F 0 _)=_
  rw[hl];rfl
 have hgo:∀m':S.Mach,m'.rd a=V.reg a->m'.rd 0=0->∀k:Int,(m'.act ⟨26,0,a,0,k⟩=(m',if V.reg a=0 then u32m (u32m (m'.place+1)+u32m k) else u32m (m'.place+1),0)) /\
  (m'.act ⟨27,0,a,0,k⟩=(m',if V.reg a=0 then u32m (m'.place+1) else u32m (u32m (m'.place+1)+u32m k),0)):=by
  intro m' r1 r0 k
  constructor
  .unfold S.Mach.act goes
   simp only[r1,r0];by_cases c:V.reg a=0 <;> simp[c]
  .unfold S.Mach.act goes
   simp only[r1,r0];by_cases c:V.reg a=0 <;> simp[c]
 rcases(show I.F.getD i 0=1\/I.F.getD i 0=2\/I.F.getD i 0=3 by omega) with hf|hf|hf
 .rw[hf] at hw hsz
  have hw':S.wordsAt I.xs I.F 0 i=[wordOf ⟨26,0,a,0,I.lab s-I.adr i-1⟩]:=hw;have hsz':I.adr (i+1)=I.adr i+1:=hsz;have hr:-32768<=I.lab s-I.adr (i+1)/\I.lab s-I.adr (i+1)<=32767:=Z00 rfl hf hfit;have hac:=(hgo m e1 e0 (I.lab s-I.adr i-1)).1;obtain⟨s1,p1⟩:=Zr hI hm h0 h1 (j:=0) (by rw[hw'];rfl) (by simp) (Zm6 (.inl rfl) ⟨ha.1,ha.2.1⟩ (by decide) (by omega)) (by rw[hac]);have k1:=Zc5 hI hm s1 (Ya0 _) hac;refine⟨1,by decide,?_⟩;have e:(if V.reg a=0 then u32m (u32m (m.place+1)+u32m (I.lab s-I.adr i-1)) else u32m (m.place+1))=if V.reg a=0 then I.lab s else I.adr (i+1):=by
   split
   .rw[p1];unfold u32m;omega
   .rw[p1,hsz'];simp
  rw[e] at k1;exact k1
 .rw[hf] at hw hsz
  have hw':S.wordsAt I.xs I.F 0 i=[wordOf ⟨27,0,a,0,1⟩,wordOf ⟨32,0,0,0,I.lab s-I.adr i-2⟩]:=hw;have hsz':I.adr (i+1)=I.adr i+2:=hsz;have hr:-1048576<=I.lab s-I.adr (i+1)/\I.lab s-I.adr (i+1)<=1048575:=Z0z rfl hf hfit;have hac:=(hgo m e1 e0 1).2;obtain⟨s1,p1⟩:=Zr hI hm h0 h1 (j:=0) (by rw[hw'];rfl) (by simp) (Zm6 (.inr rfl) ⟨ha.1,ha.2.1⟩ (by decide) (by omega)) (by rw[hac]);have k1:=Zc5 hI hm s1 (Ya0 _) hac;by_cases c:V.reg a=0
  .rw[if_pos c] at k1⊢
   rw[p1] at k1;have ha2:m.step.act ⟨32,0,0,0,I.lab s-I.adr i-2⟩=(m.step,u32m (u32m (m.step.place+1)+u32m (I.lab s-I.adr i-2)),0):=by
    unfold S.Mach.act S.Mach.put;simp
   obtain⟨s2,p2⟩:=Zr hI k1 h0 h1 (j:=1) (by rw[hw'];rfl) (by simp) (Zj4 (by decide) (by omega)) (by rw[ha2]);have k2:=Zc5 hI k1 s2 (Ya0 _) ha2;refine⟨2,by decide,?_⟩;have e:u32m (u32m (m.step.place+1)+u32m (I.lab s-I.adr i-2))=I.lab s:=by
    rw[p2];unfold u32m;omega
   rw[e] at k2;exact k2
  .rw[if_neg c] at k1⊢
   refine⟨1,by decide,?_⟩;have e:u32m (u32m (m.place+1)+u32m 1)=I.adr (i+1):=by
    rw[p1,hsz'];unfold u32m;omega
   rw[e] at k1;exact k1
 .rw[hf] at hw hsz
  have hw':S.wordsAt I.xs I.F 0 i=[wordOf ⟨27,0,a,0,3⟩,lui (I.lab s),ori (I.lab s),wordOf ⟨33,0,25,0,0⟩]:=hw;have hsz':I.adr (i+1)=I.adr i+4:=hsz;have hac:=(hgo m e1 e0 3).2;obtain⟨s1,p1⟩:=Zr hI hm h0 h1 (j:=0) (by rw[hw'];rfl) (by simp) (Zm6 (.inr rfl) ⟨ha.1,ha.2.1⟩ (by decide) (by omega)) (by rw[hac]);have k1:=Zc5 hI hm s1 (Ya0 _) hac;by_cases c:V.reg a=0
  .rw[if_pos c] at k1⊢
   rw[p1] at k1;obtain⟨k2,r2⟩:=Zr5 hI h0 h1 (m:=m.step) (j:=1) (tq:=I.lab s) (by simpa using k1) l0 (by omega) (by rw[hw'];rfl) (by rw[hw'];rfl);have ha2:(m.step.steps_ 2).act ⟨33,0,25,0,0⟩=(m.step.steps_ 2,I.lab s,0):=by
    have e:u32m (I.lab s+u32m 0)=I.lab s:=by unfold u32m;omega
    unfold S.Mach.act S.Mach.put;simp only[r2,e];simp
   obtain⟨s2,p2⟩:=Zr hI k2 h0 h1 (j:=3) (by rw[hw'];rfl) rfl (Zg9 (by decide) (by decide) (by decide)) (by rw[ha2]);have k3:=Zc5 hI k2 s2 (Ya0 _) ha2;refine⟨4,Yd _,?_⟩;have e4:m.steps_ 4=(m.step.steps_ 2).step:=by
    show m.steps_ (1+3)=_
    rw[Zbj];rfl
   rw[e4];exact k3
  .rw[if_neg c] at k1⊢
   refine⟨1,by decide,?_⟩;have e:u32m (u32m (m.place+1)+u32m 3)=I.adr (i+1):=by
    rw[p1,hsz'];unfold u32m;omega
   rw[e] at k1;exact k1
end
end
structure Z01 (w:World)(B b o:Nat)(x:S.Obj):Prop where
 c0:w.cell? ⟨b,o,none⟩=some (.string x.name)
 c1:∃A c,w.cell? ⟨b,o+1,none⟩=some (.slice A x.items.length c)/\Items w B A x.items
 nm:x.name.size<=maxLen
 lab:∀y∈x.items,y.label.size<=maxLen
def Objs (w:World)(B:Nat)(A:Option Addr)(os:List S.Obj):Prop :=
 0<os.length->∃b off,A=some ⟨b,off,none⟩/\b<B/\∀i x,os[i]?=some x->Z01 w B b (off+i*2) x
theorem Objs.below {w w':World}{B:Nat}{A:Option Addr}{os:List S.Obj}(h:Objs w B A os)(hb:Below B w w'):Objs w' B A os:=λ hp=>by
 obtain⟨b,off,e,hbB,hc⟩:=h hp;refine⟨b,off,e,hbB,λ i x hx=>?_⟩;obtain⟨h0,⟨A',c',h1,h2⟩,h3,h4⟩:=hc i x hx;exact⟨(hb.cell (p:=⟨b,_,none⟩) hbB).trans h0,⟨A',c',(hb.cell (p:=⟨b,_,none⟩) hbB).trans h1,h2.below hb⟩,h3,h4⟩
theorem Objs.more {w:World}{B B':Nat}{A:Option Addr}{os:List S.Obj}(h:Objs w B A os)(hB:B<=B'):Objs w B' A os:=λ hp=>by
 obtain⟨b,off,e,hbB,hc⟩:=h hp;refine⟨b,off,e,by omega,λ i x hx=>?_⟩;obtain⟨h0,⟨A',c',h1,h2⟩,h3,h4⟩:=hc i x hx;exact⟨h0,⟨A',c',h1,h2.more hB⟩,h3,h4⟩
theorem Objs.at_ {w:World}{B:Nat}{A:Option Addr}{os:List S.Obj}(h:Objs w B A os){k:Nat}(hk:k<os.length) :
 ∃b off x,A=some ⟨b,off,none⟩/\b<B/\os[k]?=some x/\Z01 w B b (off+k*2) x:=by
 obtain⟨b,off,e,hbB,hc⟩:=h (by omega);exact⟨b,off,os[k],e,hbB,Ye hk,hc k _ (Ye hk)⟩
def seen (os:List S.Obj)(k:Nat)(s:ByteArray):Option Int:=if ∃j:Nat,j<k/\∃x:S.Obj,os[j]?=some x/\x.name=s then some 1 else none
def Zcw (os:List S.Obj)(k:Nat):Int:=if ∃j:Nat,j<k/\∃x:S.Obj,os[j]?=some x/\badN x=true then 2 else 0
def Zvo (os:List S.Obj)(k:Nat):Prop:=∀i j:Nat,∀a b:S.Obj,i<k->j<i->os[i]?=some a->os[j]?=some b->a.name≠b.name
theorem Zr6 (os:List S.Obj):seen os 0=λ _=>none:=by
 funext s
 unfold seen;rw[if_neg];rintro⟨j,hj,_⟩;omega
theorem Zr7 {os:List S.Obj}{k:Nat}{x:S.Obj}(hx:os[k]?=some x):seen os (k+1)=λ t=>if t=x.name then some 1 else seen os k t:=by
 funext t
 unfold seen;by_cases c:t=x.name
 .rw[if_pos c,if_pos ⟨k,by omega,x,hx,c.symm⟩]
 .rw[if_neg c]
  congr 1
  rw[eq_iff_iff]
  constructor
  .rintro⟨j,hj,y,hy,e⟩
   by_cases h:j=k
   .subst h
    rw[hx] at hy
    cases hy
    exact absurd e.symm c
   .exact⟨j,by omega,y,hy,e⟩
  .rintro⟨j,hj,y,hy,e⟩
   exact⟨j,by omega,y,hy,e⟩
theorem Zr8 {os:List S.Obj}{k:Nat}{x:S.Obj}(hx:os[k]?=some x)(hs:seen os k x.name=none)(hd:Zvo os k):Zvo os (k+1):=by
 intro i j a b hi hj ha hb e;by_cases h:i=k
 .subst h
  rw[hx] at ha
  cases ha
  unfold seen at hs;rw[if_pos ⟨j,hj,b,hb,e.symm⟩] at hs
  cases hs
 .exact hd i j a b (by omega) hj ha hb e
theorem Zr9 {os:List S.Obj}{k:Nat}{x:S.Obj}(hx:os[k]?=some x){v:Int}(hs:seen os k x.name=some v):v=1/\DupN os:=by
 unfold seen at hs
 split at hs
 .rename_i h
  obtain⟨j,hj,y,hy,e⟩:=h;exact⟨by cases hs;rfl,k,j,x,y,hj,hx,hy,e.symm⟩
 .cases hs
theorem Zm7 (os:List S.Obj):Zcw os 0=0:=by
 unfold Zcw;rw[if_neg];rintro⟨j,hj,_⟩;omega
theorem Zm8 {os:List S.Obj}{k:Nat}{x:S.Obj}(hx:os[k]?=some x):Zcw os (k+1)=if badN x=true then 2 else Zcw os k:=by
 unfold Zcw;by_cases c:badN x=true
 .rw[if_pos c,if_pos ⟨k,by omega,x,hx,c⟩]
 .rw[if_neg c]
  congr 1
  rw[eq_iff_iff]
  constructor
  .rintro⟨j,hj,y,hy,e⟩
   by_cases h:j=k
   .subst h
    rw[hx] at hy
    cases hy
    exact absurd e c
   .exact⟨j,by omega,y,hy,e⟩
  .rintro⟨j,hj,y,hy,e⟩
   exact⟨j,by omega,y,hy,e⟩
theorem Zsa {os:List S.Obj}(hd:Zvo os os.length):NamesRes os (Zcw os os.length):=by
 have hd':¬DupN os:=by
  rintro⟨i,j,a,b,hj,ha,hb,e⟩;exact hd i j a b (Yg.1 ha).1 hj ha hb e
 unfold Zcw
 split
 .rename_i h
  obtain⟨j,_,x,hx,hb⟩:=h;exact .inr (.inl ⟨hd',⟨x,Y2 hx,hb⟩,rfl⟩)
 .rename_i h
  refine .inr (.inr ⟨hd',λ o ho=>?_,rfl⟩);obtain⟨j,hj,rfl⟩:=List.getElem_of_mem ho;rw[Bool.eq_false_iff];intro hb;exact h ⟨j,hj,_,Ye hj,hb⟩
theorem Zvp {n:Int}(h:-9223372036854775808<=n/\n<=9223372036854775807):(Lit.int .i64 n).wf=true:=by
 simp[Lit.wf,IntKind.min,IntKind.max,IntKind.signed,IntKind.bits];omega
theorem Zcr {w w':World}{m b:Nat}(hg:w.grownBy w' (some m))(hlt:b<w.heap.size)(hne:b≠m)(j:Nat):w'.cell? ⟨b,j,none⟩=w.cell? ⟨b,j,none⟩:=by
 simp only[Ybz,hg.block b hlt (by simpa using hne)]
theorem Zfd (w:World)(cs:Array Value)(t:TypeId):(w.alloc (.cells cs t)).heap[w.heap.size]?=some (.cells cs t (0,0))/\Below w.heap.size w (w.alloc (.cells cs t))/\(w.alloc (.cells cs t)).heap.size=w.heap.size+1 :=
 ⟨heap_alloc_new _ _,(Yj _ _).alloc (Yd _) _,by simp⟩
theorem Za9 {ops:Array Oper}{rest:List Oper}{o:Oper}{a:Act}{Q:Exit->Act->World->Prop}{w:World}(hg:o.guard=none)(hd:o.dst=none)(mo x v:Operand)(hop:o.op=Op.mapUpdate 207 mo x v)
 (m n:Nat) (f:ByteArray->Option Int) (hm:a.eval mo=.map (some m)) (h:MapS w m n f) (hn:n<1152921504606846976) (s:ByteArray) (q:Int) (hx:a.eval x=.string s) (hv:a.eval v=.int .i64 q) (hs:s.size<=maxLen) (hq:(Lit.int .i64 q).wf=true)
 (hK:∀w',MapS w' m (if (f s).isSome then n else n+1) (λ t=>if t=s then some q else f t)->w.grownBy w' (some m)->wpList prog ops Q rest a w'):wpList prog ops Q (o::rest) a w:=by
 refine Zes hg mo x v hop m n f hm h hn s q hx hv hs hq ?_;intro w' h1 h2;rw[hd];exact hK w' h1 h2
def Zsb (os:List S.Obj)(w:World)(e:Ending)(w':World):Prop:=∃r,e=.returned (.int .i64 r)/\NamesRes os r/\Below w.heap.size w w'
theorem Zlk (A:Option Addr)(c:Nat)(os:List S.Obj)(w:World)(hi:Objs w w.heap.size A os)(hl:os.length<=1048576) :
 Calls prog 121 #[.slice A os.length c] w (Zsb os w):=by
 have hmm:=@run_makeMap prog;go_enter func121,ntmps121
 go_wp2_with fail
 go_loopw [4,10] (λ ev i wr=>∃k:Nat,k<=os.length/\i=.int .i64 k/\ev=.int .i64 (Zcw os k)/\MapS wr w.heap.size k (seen os k)/\Zvo os k/\Below w.heap.size w wr) (λ _ i _=>os.length-(intOf i).toNat)
 case atStart=>exact⟨0,by omega,rfl,by rw[Zm7],by rw[Zr6];exact MapS.made w,λ i j a b h=>by omega,(Yj _ _).alloc (Yd _) _⟩
 case round =>
  obtain⟨k,hk,rfl,rfl,hM,hd,hbk⟩:=hrel;have hzk:=hM.lt;by_cases hlt:k<os.length
  .obtain⟨b,off,x,rfl,hb,hx,hc0,⟨Ai,ci,hc1,hI⟩,hn,_⟩:=(hi.below hbk).at_ hlt
   have Hx:=Ya hx;have Hd:=Ya hd;clear hx hd;obtain⟨nm,its⟩:=x;simp only at hc0 hc1 hn;have hbr:b<wr.heap.size:=by omega
   obtain⟨x1,x2,x3⟩:=Zfd wr #[.string nm,.slice Ai its.length ci] 105;go_upto_region 6 with fail
   generalize wr.alloc (.cells #[.string nm,.slice Ai its.length ci] 105)=wX at *;have hX0:wX.cell? ⟨wr.heap.size,0,none⟩=some (.string nm):=by simp[Ybz,x1]
   have hMX:=hM.below x2;have hbX:=hbk.trans (x2.mono (by omega));have hzX:wr.heap.size<wX.heap.size:=by omega
   have hlk:=hMX.look hn;clear x1 x2 x3 hM hc0 hc1
   cases hs:seen os k nm with
   | some v =>
    obtain⟨rfl,hdup⟩:=Zr9 Hx.out hs;have e1:(seen os k nm).getD 0=1:=by rw[hs];rfl
    rw[e1] at hlk;have Hs:=Ya hs;have Hdup:=Ya hdup;clear hs hdup e1;go_wp2_with (at_mapUpdate;refine Za9 rfl rfl (.tmp 14) (.tmp 16) (.tmp 18) rfl w.heap.size k _ rfl hMX (by omega) nm 2 rfl rfl hn (Zvp (by omega)) ?_;intro w2 hM2 hg2;have hlk2:=hM2.look hn;have hc2:w2.cell? ⟨wr.heap.size,0,none⟩=some (.string nm):=(Zcr hg2 hzX (by omega) 0).trans hX0)
    go_ret
    exact⟨14,rfl,.inl ⟨Hdup.out,rfl⟩,Za1 hbX hg2 (by omega) (λ _ h=>by cases h;exact Yd _)⟩
   | none =>
    have e1:(seen os k nm).getD 0=0:=by rw[hs];rfl
    rw[e1] at hlk;have hnd:=Zr8 Hx.out hs Hd.out;have Hnd:=Ya hnd;have Hs:=Ya hs;have Hbs:=Ya (Zm8 Hx.out);have Hss:=Ya (Zr7 Hx.out);clear hs hnd e1;have hway:nm.toList=[]\/(nm.toList≠[]/\ownB nm=true)\/(nm.toList≠[]/\ownB nm=false):=by
     by_cases c1:nm.toList=[]
     .exact .inl c1
     .cases c2:ownB nm
      .exact .inr (.inr ⟨c1,rfl⟩)
      .exact .inr (.inl ⟨c1,rfl⟩)
    have Hway:=Ya hway;clear hway;rcases Hway.out with h0|⟨h0,h1⟩|⟨h0,h1⟩
    .skip
     go_wp2_with (at_mapUpdate;refine Za9 rfl rfl (.tmp 14) (.tmp 16) (.tmp 18) rfl w.heap.size k _ rfl hMX (by omega) nm 1 rfl rfl hn (Zvp (by omega)) ?_;intro w2 hM2 hg2;have hlk2:=hM2.look hn;have hc2:w2.cell? ⟨wr.heap.size,0,none⟩=some (.string nm):=(Zcr hg2 hzX (by omega) 0).trans hX0)
     have hM3:MapS w2 w.heap.size (k+1) (seen os (k+1)):=by
      rw[Hss.out];have h:=hM2;rw[Hs.out] at h;exact h
     have hb2:Below w.heap.size w w2:=Za1 hbX hg2 (by omega) (λ _ h=>by cases h;exact Yd _);have hav:Zcw os (k+1)=2:=by
      rw[Hbs.out,if_pos (by simp[badN,<- ByteArray.toList_eq,h0])]
     exact⟨⟨k+1,by omega,by go_num,by rw[hav],hM3,Hnd.out,hb2⟩,by simp[intOf];omega⟩
    .have hE:(nm.toList==[])=false:=by simpa using h0
     have hE2:nm.toList.isEmpty=false:=by simpa using h0
     go_wp2_with (at_mapUpdate;refine Za9 rfl rfl (.tmp 14) (.tmp 16) (.tmp 18) rfl w.heap.size k _ rfl hMX (by omega) nm 1 rfl rfl hn (Zvp (by omega)) ?_;intro w2 hM2 hg2;have hlk2:=hM2.look hn;have hc2:w2.cell? ⟨wr.heap.size,0,none⟩=some (.string nm):=(Zcr hg2 hzX (by omega) 0).trans hX0)
     refine(Z9 _ _ hn).mono ?_;rintro e w' ⟨rfl,rfl⟩;go_wp2_with fail
     have hM3:MapS w2 w.heap.size (k+1) (seen os (k+1)):=by
      rw[Hss.out];have h:=hM2;rw[Hs.out] at h;exact h
     have hb2:Below w.heap.size w w2:=Za1 hbX hg2 (by omega) (λ _ h=>by cases h;exact Yd _);have hav:Zcw os (k+1)=2:=by
      rw[Hbs.out,if_pos (by simp[badN,<- ByteArray.toList_eq,h0,h1])]
     exact⟨⟨k+1,by omega,by go_num,by rw[hav],hM3,Hnd.out,hb2⟩,by simp[intOf];omega⟩
    .have hE:(nm.toList==[])=false:=by simpa using h0
     have hE2:nm.toList.isEmpty=false:=by simpa using h0
     go_wp2_with (at_mapUpdate;refine Za9 rfl rfl (.tmp 14) (.tmp 16) (.tmp 18) rfl w.heap.size k _ rfl hMX (by omega) nm 1 rfl rfl hn (Zvp (by omega)) ?_;intro w2 hM2 hg2;have hlk2:=hM2.look hn;have hc2:w2.cell? ⟨wr.heap.size,0,none⟩=some (.string nm):=(Zcr hg2 hzX (by omega) 0).trans hX0)
     refine(Z9 _ _ hn).mono ?_;rintro e w' ⟨rfl,rfl⟩;go_wp2_with fail
     have hM3:MapS w2 w.heap.size (k+1) (seen os (k+1)):=by
      rw[Hss.out];have h:=hM2;rw[Hs.out] at h;exact h
     have hb2:Below w.heap.size w w2:=Za1 hbX hg2 (by omega) (λ _ h=>by cases h;exact Yd _);have hav:Zcw os (k+1)=Zcw os k:=by
      rw[Hbs.out,if_neg (by simp[badN,<- ByteArray.toList_eq,h0,h1])]
     exact⟨⟨k+1,by omega,by go_num,by rw[hav],hM3,Hnd.out,hb2⟩,by simp[intOf];omega⟩
  .have hke:k=os.length:=by omega
   subst hke;have hres:=Zsa hd;have Hres:=Ya hres;clear hres hd;go_wp2_with fail
   go_ret
   exact⟨_,rfl,Hres.out,hbk⟩
def Zsc (xs:List S.Item)(w:World)(e:Ending)(w':World):Prop :=
 ∃v,e=.returned v/\w'.ownsRow w.heap.size 135 8 v xs.length (xs.flatMap Zb)/\Below w.heap.size w w'
theorem Zm9 (A:Option Addr)(c:Nat)(xs:List S.Item)(w:World)(hi:Items w w.heap.size A xs)(hl:xs.length<=1048576) :
 Calls prog 191 #[.slice A xs.length c] w (Zsc xs w):=by
 have hn:=λ(w:World) (A:Option Addr) (n c n1 c1:Nat)=>Lib.run_eql_slice_nil (P:=prog) w 103 135 A n c n1 c1 underlying103
 cases A with
 | none =>
  go_enter func191,ntmps191
  have hx0:xs=[]:=by
   cases xs with
   | nil=>rfl
   | cons x r =>
    obtain⟨b,off,e,_⟩:=hi (by simp)
    cases e
  subst hx0;go_wp2_with fail
  go_ret
  exact⟨_,rfl,Yak _ _ _ _,Yj _ _⟩
 | some a =>
  have hr:=hi.reads.below ((Yj w.heap.size w).alloc (Yd _) (.cells #[] 135));go_enter func191,ntmps191
  go_wp2_with (at_builtin;refine Zt rfl (.tmp 5) (.tmp 6) _ rfl w.heap.size 135 Zu underlying103 rfl (by decide) _ 0 [] rfl (World.ownsRow_made w #[] 0 (Yd _) (by simp[maxLen]) (by simp)) w.heap.size (some a) xs.length c (xs.flatMap Zb) rfl (Zdb xs) (λ h=>by cases h) hr (Zdc xs) (by simp only[maxLen];omega) (by omega) (by simp) ?_;intro v' w1 ho1 hg1 hb1 hat1)
  go_ret
  simp only[Nat.zero_add,List.nil_append] at ho1;exact⟨_,rfl,ho1,((Yj _ _).alloc (Yd _) _).trans hb1⟩
def Zfz (nm:ByteArray)(its:List S.Item)(q:Nat):List S.Item:=(its.take q).map (ownItem nm)++its.drop q
theorem Zpi (nm:ByteArray)(its:List S.Item):Zfz nm its 0=its:=by simp[Zfz]
theorem Zsd (nm:ByteArray)(its:List S.Item):Zfz nm its its.length=its.map (ownItem nm):=by simp[Zfz]
theorem Zod (nm:ByteArray)(its:List S.Item)(q:Nat)(h:q<its.length):(Zfz nm its q)[q]?=some its[q]:=by
 unfold Zfz;rw[Yn (by simp;omega)];simp[Nat.min_eq_left (Nat.le_of_lt h)]
theorem Zpj (nm:ByteArray)(its:List S.Item)(q:Nat)(h:q<its.length):(Zfz nm its q).set q (ownItem nm its[q])=Zfz nm its (q+1):=by
 apply List.ext_getElem?
 intro i;unfold Zfz;by_cases e:i=q
 .subst e
  rw[List.getElem?_set_self (by simp;omega)];rw[Ym (by simp;omega)];simp[Ybe,h]
 .rw[Ya9 (Ne.symm e)]
  by_cases l:i<q
  .rw[Ym (by simp;omega),Ym (by simp;omega)]
   simp[Ybe,l,show i<q+1 by omega]
  .rw[Yn (by simp;omega),Yn (by simp;omega)]
   simp only[Y3,List.length_take,List.getElem?_drop]
   congr 1
   omega
theorem Zvq (L:List S.Item)(q:Nat)(x:S.Item)(s:ByteArray)(h:L[q]?=some x) :
 (L.flatMap Zb).set (q*8+6) (.string s)=(L.set q ⟨x.kind,x.inst,s,x.word⟩).flatMap Zb:=by
 induction L generalizing q with
 | nil=>simp at h
 | cons y r ih =>
  cases q with
  | zero =>
   simp only[List.getElem?_cons_zero,Option.some.injEq] at h;subst h;simp[Zb]
  | succ q =>
   have h1:=ih q (by simpa using h);have e1:(q+1)*8+6=(Zb y).length+(q*8+6):=by simp[Zb];omega
   rw[Yat,e1,List.set_append_right _ _ (by omega),Nat.add_sub_cancel_left,h1,List.set_cons_succ,Yat]
theorem Zna (nm:ByteArray)(its:List S.Item)(q:Nat)(h:q<its.length) :
 ((Zfz nm its q).flatMap Zb).set (q*8+6) (.string (owned nm its[q].label))=(Zfz nm its (q+1)).flatMap Zb:=by
 rw[Zvq _ q _ _ (Zod nm its q h),<- Zpj nm its q h];rfl
def Zvr (os:List S.Obj)(w:World)(e:Ending)(w':World):Prop :=
 ∃v,e=.returned v/\w'.ownsRow w.heap.size 135 8 v (joined os).length ((joined os).flatMap Zb)/\Below w.heap.size w w'
theorem Znb {os:List S.Obj}{k:Nat}{x:S.Obj}(hx:os[k]?=some x):joined (os.take (k+1))=joined (os.take k)++itemsOf x:=by
 have hk:=(Yg.1 hx).1;have he:os[k]=x:=by
  have:=Ye hk;rw[hx] at this;exact(Option.some.inj this).symm
 rw[List.take_succ_eq_append_getElem hk,he];simp[joined]
theorem Zse {os:List S.Obj}(k:Nat):(joined (os.take k)).length<=(joined os).length:=by
 have h:joined os=joined (os.take k)++joined (os.drop k):=by
  unfold joined;rw[<- Ybg,List.take_append_drop]
 rw[h,Yc];omega
theorem Znc (A:Option Addr)(c:Nat)(os:List S.Obj)(w:World)(hi:Objs w w.heap.size A os)(hl:os.length<=1048576)(ht:(joined os).length<=1048576)
 (hsz:∀(k:Nat)(o:S.Obj),os[k]?=some o->∀x∈o.items,o.name.size+x.label.size<=9223372036854775807) :
 Calls prog 123 #[.slice A os.length c] w (Zvr os w):=by
 have Hsz:=Ya hsz;clear hsz;go_enter func123,ntmps123
 go_wp2_with fail
 go_loopw [3,10] (λ v i wr=>∃k:Nat,k<=os.length/\i=.int .i64 k/\wr.ownsRow w.heap.size 135 8 v (joined (os.take k)).length ((joined (os.take k)).flatMap Zb)/\Below w.heap.size w wr) (λ _ i _=>os.length-(intOf i).toNat)
 case atStart=>exact⟨0,by omega,rfl,by simp[joined];exact Yak _ _ _ _,Yj _ _⟩
 case round =>
  obtain⟨k,hk,rfl,ho,hbk⟩:=hrel;by_cases hlt:k<os.length
  .obtain⟨b,off,x,rfl,hb,hx,hc0,⟨Ai,ci,hc1,hI⟩,hn,hlab⟩:=(hi.below hbk).at_ hlt
   have hzk:=hbk.size;have hbr:b<wr.heap.size:=by omega
   have hjk:=Ya (Znb hx);have hle:=Zse (os:=os) (k+1);rw[hjk.out,Yc] at hle;have hil:x.items.length<=1048576:=by
    have:(itemsOf x).length=x.items.length:=by simp[itemsOf]
    omega
   have Hx:=Ya hx;have Hlab:=Ya hlab;clear hx hlab;obtain⟨nm,its⟩:=x;simp only at hc0 hc1 hn hil hI;obtain⟨x1,x2,x3⟩:=Zfd wr #[.string nm,.slice Ai its.length ci] 105;go_upto_region 5 with fail
   generalize wr.alloc (.cells #[.string nm,.slice Ai its.length ci] 105)=wX at *;have hX0:wX.cell? ⟨wr.heap.size,0,none⟩=some (.string nm):=by simp[Ybz,x1]
   have hX1:wX.cell? ⟨wr.heap.size,1,none⟩=some (.slice Ai its.length ci):=by simp[Ybz,x1]
   have hzX:wr.heap.size<wX.heap.size:=by omega
   have hoX:=Zc ho x2;have hbX:=hbk.trans (x2.mono (by omega));have hIX:=(hI.below (x2.mono (by omega))).more (B':=wX.heap.size) (by omega);clear x1 x2 x3 ho hc0 hc1 hI;go_wp2_with fail
   refine(Zm9 _ _ _ _ hIX hil).mono ?_;rintro e w1 ⟨v1,rfl,ho1,hb1⟩;have hz1:=hb1.size;have hX0':w1.cell? ⟨wr.heap.size,0,none⟩=some (.string nm):=(hb1.cell (p:=⟨wr.heap.size,0,none⟩) hzX).trans hX0;obtain⟨A1,c1,rfl⟩:=Za ho1;clear hX0 hX1;go_wp2_with fail
   obtain⟨wo,hwo⟩:∃wo:World,wo=wr:=⟨_,rfl⟩
   subst hwo;go_loopw [19] (λ i wi=>∃q:Nat,q<=its.length/\i=.int .i64 q/\wi.ownsRow wX.heap.size 135 8 (.slice A1 its.length c1) its.length ((Zfz nm its q).flatMap Zb)/\Below wX.heap.size wX wi) (λ i _=>its.length-(intOf i).toNat)
   case atStart=>exact⟨0,by omega,rfl,by rw[Zpi];exact ho1,hb1⟩
   case round =>
    obtain⟨q,hq,rfl,hoq,hbq⟩:=hrel;by_cases hql:q<its.length
    .obtain⟨g,rfl,hg1,hg2,hg3,hg4,hg5⟩:=Zae hoq (by omega)
     have hzi:=hbq.size;have hcl:wr.cell? ⟨g,q*8+6,none⟩=some (.string its[q].label):=by
      rw[hg4 _ (by omega),Zhg _ q _ (Zod nm its q hql) 6 (by omega)];rfl
     have hcn:wr.cell? ⟨wo.heap.size,0,none⟩=some (.string nm):=by
      have h1:=hbq.cell (p:=⟨wo.heap.size,0,none⟩) hzX;have h2:=hb1.cell (p:=⟨wo.heap.size,0,none⟩) hzX;exact h1.trans (h2.symm.trans hX0')
     have hmem:its[q]∈its:=List.getElem_mem hql;have hls:=Hlab.out _ hmem;have hns:=Hsz.out _ _ Hx.out _ hmem;simp only at hns;have hfz:=hg5 (q*8+6);clear hg4 hg5;have hE:=Zo wr;have g1:wo.heap.size<wr.heap.size:=by omega
     go_upto_region 9 with fail
     refine Zar 12 1 [0,1,2,3,4,5,6,7,8,9,10,11] (by kernel_rfl) (by kernel_rfl) (λ _ _ _ _ _ h=>h) ?_
     repeat (first
      | (refine Zgh rfl ?_;go_big_quiet_step ((go_at_call 192;exact Zcj (Zo8 _ _ _ hls hns)))))
     refine wpQuiet_nil ?_;rintro w2 ⟨⟨w3,hb2⟩,rfl⟩;simp only[List.drop_succ_cons,List.drop_zero];have hcl2:w2.cell? ⟨g,q*8+6,none⟩=some (.string its[q].label):=(hb2.cell (p:=⟨g,q*8+6,none⟩) hg2).trans hcl;have hfz2:w2.frozen? ⟨g,q*8+6,none⟩=false:=(hb2.frozen (p:=⟨g,q*8+6,none⟩) hg2).trans hfz;have hoq2:=Zc hoq hb2;have hst:=hoq2.stored (q*8+6) (.string (owned nm its[q].label));rw[Zna nm its q hql] at hst;have Hst:=Ya hst;have hbq2:=hbq.trans (hb2.mono hzi);clear hE hst;go_wp2_with fail
     go_roundw
     case rel=>exact⟨q+1,by omega,by go_num,Hst.out.1,hbq2.setCell (p:=⟨g,q*8+6,none⟩) hg1 _⟩
     case measure=>simp[intOf];omega
    .have hqe:q=its.length:=by omega
     subst hqe;rw[Zsd] at hoq;have hzi:=hbq.size;have hoX2:=Zc hoX hbq;have hbw:=hbX.trans (hbq.mono (by omega));have hww:∀x∈its.map (ownItem nm),0<=x.word/\x.word<=4294967295:=by
      intro x hx;obtain⟨y,hy,rfl⟩:=List.mem_map.1 hx;exact hIX.words y hy
     have hrd:=(Items.of_own hoq hww).reads;have hA1:A1=none->its.length=0:=λ h=>Zbs hoq h
     have hfl:((its.map (ownItem nm)).flatMap Zb).length=its.length*8:=by rw[Zdb,Y3]
     have hlj:(joined (os.take k)).length+its.length<=1048576:=by
      have:(itemsOf ⟨nm,its⟩).length=its.length:=by simp[itemsOf]
      omega
     have hone:=Zdc (its.map (ownItem nm));have Hoq:=Ya hoq;clear hoq hoX hww;go_wp2_with (at_builtin;refine Zt rfl (.tmp 35) (.tmp 36) _ rfl w.heap.size 135 Zu underlying103 rfl (by decide) _ _ _ rfl hoX2 wr.heap.size A1 its.length c1 _ rfl hfl hA1 hrd hone (by simp only[maxLen];omega) (by omega) (by omega) ?_;intro v' w3 ho3 hg3 hb3 hat3)
     have hfin:w3.ownsRow w.heap.size 135 8 v' (joined (os.take (k+1))).length ((joined (os.take (k+1))).flatMap Zb):=by
      rw[hjk.out,Yc,Ybg];have e:(itemsOf ⟨nm,its⟩).length=its.length:=by simp[itemsOf]
      rw[e];exact ho3
     exact⟨⟨k+1,by omega,by go_num,hfin,hbw.trans hb3⟩,by simp[intOf];omega⟩
  .have hke:k=os.length:=by omega
   subst hke;rw[List.take_length] at ho;go_wp2_with fail
   go_ret
   exact⟨_,rfl,ho,hbk⟩
theorem Zb5 (n:Int)(w:World):Calls prog 199 #[.int .i64 n] w λ e w'=>e=.returned (.int .u32 (u32m n))/\w=w':=by
 go_enter func199,ntmps199
 go_wp2
 go_ret
 refine⟨Zs ?_,rfl⟩;simp only[u32m,wrap32];omega
def tv (b:Bool):Int:=if b=true then 1 else 0
theorem Zj7 (p:Prop)[Decidable p]:tv (decide p)=truth p:=by simp[tv,truth]
theorem Zfe (b:Bool)(w:World):Calls prog 247 #[.bool b] w λ e w'=>e=.returned (.int .u32 (tv b))/\w=w':=by
 cases b
 all_goals
  go_enter func247,ntmps247
  go_wp2
  go_ret
  exact⟨rfl,rfl⟩
theorem Zll (op a b:Int)(w:World)(a0:0<=a)(a1:a<=4294967295)(b0:0<=b)(b1:b<=4294967295) :
 Calls prog 201 #[.int .i64 op,.int .u32 a,.int .u32 b] w λ e w'=>e=.returned (.bool (goes op a b))/\w=w':=by
 have ha:=Zdo a0 a1;have hb:=Zdo b0 b1;go_enter func201,ntmps201
 go_wp2
 all_goals
  go_ret
  refine⟨Zf ?_,rfl⟩
  first
   | grind [goes]
   | simp_all[goes]
theorem Zpk (a b:Int)(w:World)(a0:0<=a)(a1:a<=4294967295)(b0:0<=b)(b1:b<=4294967295) :
 Calls prog 246 #[.int .u32 a,.int .u32 b] w λ e w'=>e=.returned (.tuple #[.int .u32 (a*b/4294967296),.int .u32 (u32m (a*b))])/\w=w':=by
 have m0:0<=a*b:=Ycu a0 b0;have m1:a*b<=4294967295*4294967295:=Int.mul_le_mul a1 b1 b0 (by omega);go_enter func246,ntmps246
 go_wp2_with fail
 go_ret2
 exact⟨by simp[u32m],rfl⟩
theorem Z02 (op a b:Int)(w:World)(a0:0<=a)(a1:a<=4294967295)(b0:0<=b)(b1:b<=4294967295)(ho:1<=op/\op<=14)(hz:¬(b=0/\(op=5\/op=6))) :
 Calls prog 198 #[.int .i64 op,.int .u32 a,.int .u32 b] w λ e w'=>e=.returned (.tuple #[.int .u32 (alu op a b),.bool true])/\w=w':=by
 have hc:op=5\/op=6\/op=4\/op=13\/op=14\/op=1\/op=2\/op=3\/op=7\/op=8\/op=9\/op=10\/op=11\/op=12:=by omega
 have ha:=Zdo a0 a1;have hb:=Zdo b0 b1;have hsh:=Zad 5 b 32 31 rfl rfl (by omega) b0 (by omega);have hs0:0<=b%32:=by omega
 have hs1:b%32<=31:=by omega
 have Hz:=Ya hz;clear hz ho;rcases hc with rfl|rfl|rfl|rfl|rfl|rfl|rfl|rfl|rfl|rfl|rfl|rfl|rfl|rfl
 .have hbz:¬b=0:=by have:=Hz.out;omega
  have hbn:(b==0)=false:=by simpa using hbz
  have hb1':1<=b:=by omega
  have q0:0<=a/b:=Ycm a0 b0;have q1:a/b<=4294967295:=by
   have:=Ycz b a0;omega
  go_enter func198,ntmps198
  go_wp2_with fail
  go_ret2
  exact⟨by simp[alu],rfl⟩
 .have hbz:¬b=0:=by have:=Hz.out;omega
  have hbn:(b==0)=false:=by simpa using hbz
  have hb1':1<=b:=by omega
  go_enter func198,ntmps198
  go_wp2_with fail
  go_ret2
  exact⟨by simp[alu],rfl⟩
 .go_enter func198,ntmps198
  go_wp2_with fail
  refine(Zpk _ _ _ a0 a1 b0 b1).mono ?_;rintro e w' ⟨rfl,rfl⟩;go_wp2_with fail
  go_ret2
  exact⟨by simp[alu],rfl⟩
 .go_enter func198,ntmps198
  go_wp2_with fail
  refine(Zfe _ _).mono ?_;rintro e w' ⟨rfl,rfl⟩;go_wp2_with fail
  go_ret2
  exact⟨by simp[alu,Zj7],rfl⟩
 .go_enter func198,ntmps198
  go_wp2_with fail
  refine(Zfe _ _).mono ?_;rintro e w' ⟨rfl,rfl⟩;go_wp2_with fail
  go_ret2
  exact⟨by simp[alu,Zj7],rfl⟩
 all_goals
  go_enter func198,ntmps198
  go_wp2_with fail
  go_ret2
  exact⟨by simp[alu,u32m],rfl⟩
theorem Z03 (op a:Int)(w:World)(ho:op=5\/op=6) :
 Calls prog 198 #[.int .i64 op,.int .u32 a,.int .u32 0] w λ e w'=>e=.returned (.tuple #[.int .u32 0,.bool false])/\w=w':=by
 rcases ho with rfl|rfl
 all_goals
  go_enter func198,ntmps198
  go_wp2_with fail
  go_ret2
  exact⟨rfl,rfl⟩
theorem Z04 (op a b:Int)(w:World)(a0:0<=a)(a1:a<=4294967295)(b0:0<=b)(b1:b<=4294967295)(ho:15<=op/\op<=22) :
 Calls prog 198 #[.int .i64 op,.int .u32 a,.int .u32 b] w λ e w'=>e=.returned (.tuple #[.int .u32 (alu (like op) a b),.bool true])/\w=w':=by
 have hc:op=22\/op=15\/op=16\/op=17\/op=18\/op=19\/op=20\/op=21:=by omega
 have ha:=Zdo a0 a1;have hb:=Zdo b0 b1;have hsh:=Zad 5 b 32 31 rfl rfl (by omega) b0 (by omega);have hs0:0<=b%32:=by omega
 have hs1:b%32<=31:=by omega
 clear ho;rcases hc with rfl|rfl|rfl|rfl|rfl|rfl|rfl|rfl
 .go_enter func198,ntmps198
  go_wp2_with fail
  refine(Zfe _ _).mono ?_;rintro e w' ⟨rfl,rfl⟩;go_wp2_with fail
  go_ret2
  exact⟨by simp[alu,like,Zj7],rfl⟩
 all_goals
  go_enter func198,ntmps198
  go_wp2_with fail
  go_ret2
  exact⟨by simp[alu,like,u32m],rfl⟩
theorem Z05 (a b:Int)(w:World)(b0:0<=b)(b1:b<=4294967295) :
 Calls prog 198 #[.int .i64 23,.int .u32 a,.int .u32 b] w λ e w'=>e=.returned (.tuple #[.int .u32 (u32m (b*65536)),.bool true])/\w=w':=by
 go_enter func198,ntmps198
 go_wp2_with fail
 go_ret2
 exact⟨by simp[u32m],rfl⟩
