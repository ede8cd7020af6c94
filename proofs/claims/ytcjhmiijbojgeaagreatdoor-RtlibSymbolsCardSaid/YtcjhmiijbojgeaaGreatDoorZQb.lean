/- Parts. -/
import Derived.Test.YtcjhmiijbojgeaaGreatDoorZIsaD
import Derived.Test.YtcjhmiijbojgeaaGreatDoorZMachA
import Derived.Deep.RegionWith
import Derived.Deep.MidRow
import Derived.Deep.LoopGhost
set_option linter.all false
set_option maxHeartbeats 1000000
open Nat renaming le_refl->Yc,lt_of_lt_of_le->Ys,zero_add->Y2,add_zero->Ybe
open List renaming length_append->Yd,getElem?_eq_getElem->Ye,getElem?_eq_some_iff->Yg,getD_eq_getElem?_getD->Yh,length_cons->Yk,getElem?_append_left->Yn,getElem?_append_right->Yo,mem_cons->Yr,not_mem_nil->Yv,mem_cons_self->Yw,mem_cons_of_mem->Y0,eq_nil_of_length_eq_zero->Y4,cons_append->Y9,getElem?_map->Yaf,mem_append->Yag,take_zero->Yaj,take_succ_cons->Yaq,mem_singleton->Ya8,getElem?_set_ne->Ybd,any_eq_true->Ybl
open Go.RowKit.Below renaming refl->Yj,heap_setCell->Yal
open Bool renaming and_eq_true->Yq,or_eq_true->Ybt
open Go.Value renaming int->Yu
open Array renaming getElem?_eq_some_iff->Y3,toList_setIfInBounds->Yb1
open Int renaming le_refl->Yar,ediv_nonneg->Yci,mul_nonneg->Yc1
open Go.Region renaming waitsFor->Ybf,binds->Ybn
open Go.World renaming setCell->Ybk
namespace Go.Proofs.YtcjhmiijbojgeaaGreatDoor
open S Go.Proofs.Tryz Go.RowKit
set_option maxRecDepth 100000
namespace S
inductive BE where
 | mk (op n:Int) (name:ByteArray) (kids:List BE)
inductive BS where
 | mk (op n:Int) (name:ByteArray) (exprs:List BE) (regs:List Int) (body els:List BS)
structure BR where
 name:ByteArray
 params:Int
 locals:Int
 behind:Bool
 body:List BS
namespace BE
def op:BE->Int | .mk o _ _ _=>o
def n:BE->Int | .mk _ n _ _=>n
def name:BE->ByteArray | .mk _ _ s _=>s
def kids:BE->List BE | .mk _ _ _ k=>k
end BE
namespace BS
def op:BS->Int | .mk o _ _ _ _ _ _=>o
def n:BS->Int | .mk _ n _ _ _ _ _=>n
def name:BS->ByteArray | .mk _ _ s _ _ _ _=>s
def exprs:BS->List BE | .mk _ _ _ e _ _ _=>e
def regs:BS->List Int | .mk _ _ _ _ r _ _=>r
def body:BS->List BS | .mk _ _ _ _ _ b _=>b
def els:BS->List BS | .mk _ _ _ _ _ _ e=>e
end BS
def visB (n:Int):Bool:=decide ((1<=n/\n<=10)\/n=26\/n=27\/n=29\/n=30)
def dotted (s:ByteArray):Bool:=s.data.toList.head?==some 46
def labB (s:ByteArray):Bool:=decide (s.size≠0) && !dotted s
def offB (n:Int):Bool:=decide (-32768<=n/\n<32768)
def numE (L:Int)(op n:Int):Bool :=
 if op=1 then decide (-2147483648<=n/\n<=4294967295) else if op=2 then decide (0<=n/\n<L) else if op=3 then visB n
 else if op=4 then decide (1<=n/\n<=14) else if op=5 then offB n else decide (n=0)
def kidsE (op:Int)(k:Nat):Nat:=if op=4\/op=7 then 2 else if op=5 then 1 else if op=6 then min k 4 else 0
def namedE (op:Int):Bool:=decide (op=6\/op=9)
def headE (L:Int)(op n:Int)(name:ByteArray)(k:Nat):Bool :=
 decide (1<=op/\op<=10) && numE L op n && decide (k=kidsE op k) && (namedE op==decide (name.size≠0)) && (!namedE op || labB name)
mutual
def formedE (L:Int):BE->Bool
 | .mk op n name kids=>headE L op n name kids.length && formedEs L kids
def formedEs (L:Int):List BE->Bool
 | []=>true
 | e::r=>formedE L e && formedEs L r
end
mutual
def needE:BE->Nat
 | .mk _ _ _ kids=>needEs kids 0
def needEs:List BE->Nat->Nat
 | [],_=>0
 | e::r,i=>max (i+max 1 (needE e)) (needEs r (i+1))
end
def risingB:List Int->Bool
 | []=>true
 | [a]=>visB a
 | a::b::r=>visB a && decide (a<b) && risingB (b::r)
def numS (L:Int)(op n:Int):Bool:=if op=1 then decide (0<=n/\n<L) else if op=2 then offB n else if op=9 then visB n else decide (n=0)
def exprsS (op:Int)(regs:Nat):Nat:=if op=2 then 2 else if op=5 then regs else if op=10 then 0 else 1
def namedS (op:Int):Bool:=decide (op=10)
def bodiesS (op:Int):Int:=if op=3 then 2 else if op=4 then 1 else 0
def shapedS (L:Int)(op n:Int)(name:ByteArray)(exprs:Nat)(regs:List Int)(body els:Nat):Bool :=
 decide (1<=op/\op<=11) && (decide (op=5) || decide (regs.length=0)) && risingB regs && (decide (1<=bodiesS op) || decide (body=0)) && (decide (2<=bodiesS op) || decide (els=0)) &&
  numS L op n && decide (exprs=exprsS op regs.length) && (namedS op==decide (name.size≠0)) && (!namedS op || labB name)
mutual
def chkS (L:Int):BS->Nat->Int
 | .mk op n name exprs regs body els,depth =>
  if !(shapedS L op n name exprs.length regs body.length els.length && formedEs L exprs) then 4
  else if 200<=depth\/14<needEs exprs 0 then 5
  else if chkSs L body (depth+1)≠0 then chkSs L body (depth+1) else chkSs L els (depth+1)
def chkSs (L:Int):List BS->Nat->Int
 | [],_=>0
 | s::r,depth=>if chkS L s depth≠0 then chkS L s depth else chkSs L r depth
end
def chkB (r:BR):Int :=
 if !labB r.name || decide (r.params<0) || decide (4<r.params) || decide (r.locals<r.params) || decide (200<r.locals) then 2 else chkSs r.locals r.body 0
def frameB (r:BR):Int:=if chkB r≠0 then 0 else r.locals+15
def bNo:ByteArray:=⟨#[]⟩
def bI (op d a b imm:Int):Item:=⟨1,⟨op,d,a,b,imm⟩,bNo,0⟩
def bL (s:ByteArray):Item:=⟨2,⟨0,0,0,0,0⟩,s,0⟩
def bJ (d:Int)(s:ByteArray):Item:=⟨4,⟨0,d,0,0,0⟩,s,0⟩
def bU (a:Int)(s:ByteArray):Item:=⟨3,⟨26,0,a,0,0⟩,s,0⟩
def bA (d:Int)(s:ByteArray):Item:=⟨5,⟨0,d,0,0,0⟩,s,0⟩
def bLab (n:Int):ByteArray:=⟨(46::itoa n).toArray⟩
def bLoad (fr d place:Int):Item:=bI 24 d 28 0 (place-fr)
def bStore (fr b place:Int):Item:=bI 25 0 28 b (place-fr)
def bMove (d a:Int):Item:=bI 15 d a 0 0
def bConst (d n:Int):List Item:=if -32768<=n/\n<32768 then [bI 15 d 0 0 n] else [bI 23 d 0 0 (n%4294967296/65536),bI 17 d d 0 (n%4294967296%65536)]
def bStores (fr L:Int):Nat->List Item
 | 0=>[]
 | k+1=>bStores fr L k++[bStore fr (11+k) (1+L+k)]
def bLoads (fr L:Int):Nat->List Item
 | 0=>[]
 | k+1=>bLoads fr L k++[bLoad fr (11+k) (1+L+k)]
def bArgs (at_:Nat):Nat->List Item
 | 0=>[]
 | k+1=>bArgs at_ k++[bMove (4+k) (11+at_+k)]
def bCall (fr L:Int)(name:ByteArray)(kids at_:Nat):List Item :=
 bStores fr L at_++bArgs at_ kids++[bJ 31 name]++bLoads fr L at_++[bMove (11+at_) 4]
def bOp (fr L:Int)(op n:Int)(name:ByteArray)(kids at_:Nat):List Item :=
 if op=1 then bConst (11+at_) n else if op=2 then [bLoad fr (11+at_) (1+n)] else if op=3 then [bMove (11+at_) n]
 else if op=4 then [bI n (11+at_) (11+at_) (12+at_) 0] else if op=5 then [bI 24 (11+at_) (11+at_) 0 n]
 else if op=6 then bCall fr L name kids at_
 else if op=7 then [bI 9 (11+at_) (11+at_) (12+at_) 0]++bConst (12+at_) 1++[bI 14 (11+at_) (11+at_) (12+at_) 0]
 else if op=8 then [bI 34 (11+at_) 0 0 0] else if op=9 then [bA (11+at_) name] else if op=10 then [bLoad fr (11+at_) 0] else []
mutual
def bExpr (fr L:Int):BE->Nat->List Item
 | .mk op n name kids,at_=>bExprs fr L kids at_++bOp fr L op n name kids.length at_
def bExprs (fr L:Int):List BE->Nat->List Item
 | [],_=>[]
 | e::r,at_=>bExpr fr L e at_++bExprs fr L r (at_+1)
end
def bTest (fr L:Int):List BE->List Item
 | []=>[]
 | e::_=>bExpr fr L e 0
def bPop (fr:Int):Item:=bI 15 28 28 0 (-fr)
def bBack (fr:Int)(behind:Bool):List Item :=
 [bPop fr,bI 24 31 28 0 0]++(if behind=true then [bI 24 25 31 0 0,bI 1 31 31 25 0,bI 33 0 31 0 1] else [bI 33 0 31 0 0])
def bRegs:List Int->Nat->List Item
 | [],_=>[]
 | n::r,i=>bMove n (11+i)::bRegs r (i+1)
mutual
def bStmt (fr L:Int)(behind:Bool):BS->Int->List Item×Int
 | .mk op n name exprs regs body els,l =>
  if op=4 then
   ([bL (bLab (l+1))]++bTest fr L exprs++[bU 11 (bLab (l+2))]++(bStmts fr L behind body (l+2)).1++[bJ 0 (bLab (l+1)),bL (bLab (l+2))],(bStmts fr L behind body (l+2)).2)
  else if op=3 then
   (bExprs fr L exprs 0++[bU 11 (bLab (l+1))]++(bStmts fr L behind body (l+2)).1++[bJ 0 (bLab (l+2)),bL (bLab (l+1))] ++
    (bStmts fr L behind els (bStmts fr L behind body (l+2)).2).1++[bL (bLab (l+2))],(bStmts fr L behind els (bStmts fr L behind body (l+2)).2).2)
  else
   (bExprs fr L exprs 0 ++
    (if op=1 then [bStore fr 11 (1+n)] else if op=2 then [bI 25 0 11 12 n] else if op=5 then bRegs regs 0++bBack fr behind else if op=7 then [bI 35 0 11 0 0] else if op=8 then [bI 36 0 11 0 0] else if op=9 then [bMove n 11] else if op=10 then [bPop fr,bJ 0 name] else if op=11 then [bPop fr,bI 33 0 11 0 0] else []),l)
def bStmts (fr L:Int)(behind:Bool):List BS->Int->List Item×Int
 | [],l=>([],l)
 | s::r,l=>((bStmt fr L behind s l).1++(bStmts fr L behind r (bStmt fr L behind s l).2).1,(bStmts fr L behind r (bStmt fr L behind s l).2).2)
end
def bParams:Nat->List Item
 | 0=>[]
 | k+1=>bParams k++[bI 25 0 28 (4+k) (1+k)]
def bHead (r:BR):List Item:=[bL r.name,bI 25 0 28 31 0]++bParams r.params.toNat++[bI 15 28 28 0 (frameB r)]
def bItems (r:BR):List Item:=bHead r++(bStmts (frameB r) r.locals r.behind r.body 0).1++bBack (frameB r) r.behind
end S
section
theorem Zyi {a b:Int}(a0:0<=a)(d:a<=4294967295)(e:0<=b)(g:b<=4294967295) :
 (0<=bits .and .u32 a b/\bits .and .u32 a b<=4294967295)/\(0<=bits .or .u32 a b/\bits .or .u32 a b<=4294967295)/\(0<=bits .xor .u32 a b/\bits .xor .u32 a b<=4294967295):=by
 have h:a.toNat<2^32:=by omega
 have f:b.toNat<2^32:=by omega
 refine⟨?_,?_,?_⟩
 .rw[u32_and a0 d e g]
  have:=Nat.and_lt_two_pow a.toNat f;omega
 .rw[u32_or a0 d e g]
  have:=Nat.or_lt_two_pow h f;omega
 .rw[u32_xor a0 d e g]
  have:=Nat.xor_lt_two_pow h f;omega
theorem Z0m {a b:Int}(a0:0<=a)(a1:a<=4294967295)(d:0<=b):0<=a/b/\a/b<=4294967295:=by
 refine⟨Yci a0 d,?_⟩;have:=Int.ediv_le_self b a0;omega
theorem Z4u {a b:Int}(a0:0<=a)(e:a<=4294967295)(d:0<=b):0<=a%b/\a%b<=4294967295:=by
 by_cases h:b=0
 .subst h;simp;exact⟨a0,e⟩
 .refine⟨Int.emod_nonneg a h,?_⟩
  have h1:=Int.emod_add_mul_ediv a b;have h2:0<=b*(a/b):=Yc1 d (Yci a0 d);omega
theorem Z4v {a b:Int}(a0:0<=a)(e:a<=4294967295)(d:0<=b)(f:b<=4294967295):0<=a*b/4294967296/\a*b/4294967296<=4294967295:=by
 have h1:0<=a*b:=Yc1 a0 d;have h2:a*b<=4294967295*4294967295:=Int.mul_le_mul e f d (by omega);omega
theorem Zux {op a b:Int}(a0:0<=a)(f:a<=4294967295)(j:0<=b)(o:b<=4294967295):0<=alu op a b/\alu op a b<=4294967295:=by
 obtain⟨x,v,u⟩:=Zyi a0 f j o;have r:=Z0m a0 f j;have t:=Z4u a0 f j;have s:=Z4v a0 f j o;have l:(0:Int)<=2^(b%32).toNat:=Int.le_of_lt (Int.pow_pos (by omega));have k:=Z0m a0 f l;unfold alu;by_cases c1:op=1
 .rw[if_pos c1];exact Zad _
 rw[if_neg c1];by_cases c2:op=2
 .rw[if_pos c2];exact Zad _
 rw[if_neg c2];by_cases c3:op=3
 .rw[if_pos c3];exact Zad _
 rw[if_neg c3];by_cases c4:op=4
 .rw[if_pos c4];exact s
 rw[if_neg c4];by_cases c5:op=5
 .rw[if_pos c5];exact r
 rw[if_neg c5];by_cases c6:op=6
 .rw[if_pos c6];exact t
 rw[if_neg c6];by_cases c7:op=7
 .rw[if_pos c7];exact x
 rw[if_neg c7];by_cases n:op=8
 .rw[if_pos n];exact v
 rw[if_neg n];by_cases q:op=9
 .rw[if_pos q];exact u
 rw[if_neg q];by_cases e:op=10
 .rw[if_pos e];exact Zad _
 rw[if_neg e];by_cases d:op=11
 .rw[if_pos d];exact k
 rw[if_neg d];by_cases g:op=12
 .rw[if_pos g];exact Zad _
 rw[if_neg g];by_cases h:op=13
 .rw[if_pos h];unfold truth;split <;> decide
 rw[if_neg h];unfold truth;split <;> decide
theorem Zjo {m:S.Mach}(h:m.Ok){d v:Int}(hd:0<=d)(a:0<=v/\v<=4294967295):(m.put d v).Ok:=by
 unfold S.Mach.put;by_cases h0:d=0
 .rw[if_pos h0];exact h
 .rw[if_neg h0]
  have hg:∀i,(m.reg.set d.toNat v).getD i 0=if d.toNat=i/\i<m.reg.length then v else m.reg.getD i 0:=λ i=>by
   by_cases e:d.toNat=i
   .subst e
    by_cases b:d.toNat<m.reg.length <;> simp[b]
   .simp[e]
  refine⟨by simpa using h.regs,λ i=>?_,?_,h.mem,h.memw,h.place0,h.place1,h.inp,h.outp,h.code0,h.code1⟩
  .show 0<=(m.reg.set d.toNat v).getD i 0/\(m.reg.set d.toNat v).getD i 0<=4294967295
   rw[hg];split
   .exact a
   .exact h.word i
  .show(m.reg.set d.toNat v).getD 0 0=0
   rw[hg,if_neg (by omega)];exact h.zero
theorem placed {m:S.Mach}(h:m.Ok){p s:Int}(hp:0<=p/\p<=4294967295):({ m with place:=p,steps:=s }:S.Mach).Ok :=
 ⟨h.regs,h.word,h.zero,h.mem,h.memw,hp.1,hp.2,h.inp,h.outp,h.code0,h.code1⟩
theorem Z4w {m:S.Mach}(h:m.Ok)(i:Int):0<=m.rd i/\m.rd i<=4294967295:=h.word _
theorem Zox {m:S.Mach}(h:m.Ok){x:Inst}(hd:0<=x.d):(m.act x).1.Ok/\0<=(m.act x).2.1/\(m.act x).2.1<=4294967295:=by
 have f:=Zad (m.place+1);have j:=Z4w h x.a;have s:=Z4w h x.b;have hi:=Zad x.imm;unfold S.Mach.act;simp only;by_cases h1:x.op<=14
 .rw[if_pos h1]
  by_cases n:m.rd x.b=0/\(x.op=5\/x.op=6)
  .rw[if_pos n];exact⟨h,Yar (0:Int),show(0:Int)<=4294967295 by decide⟩
  .rw[if_neg n];exact⟨Zjo h hd (Zux j.1 j.2 s.1 s.2),f⟩
 rw[if_neg h1];by_cases n:x.op<=22
 .rw[if_pos n];exact⟨Zjo h hd (Zux j.1 j.2 hi.1 hi.2),f⟩
 rw[if_neg n];by_cases C:x.op=23
 .rw[if_pos C];exact⟨Zjo h hd (Zad _),f⟩
 rw[if_neg C];by_cases t:x.op=24
 .rw[if_pos t]
  by_cases k:u32m (m.rd x.a+u32m x.imm)<m.mem.length
  .rw[if_pos k];exact⟨Zjo h hd (h.memw _),f⟩
  .rw[if_neg k];exact⟨h,Yar (0:Int),show(0:Int)<=4294967295 by decide⟩
 rw[if_neg t];by_cases k:x.op=25
 .rw[if_pos k]
  by_cases l:u32m (m.rd x.a+u32m x.imm)<m.mem.length
  .rw[if_pos l]
   refine⟨⟨h.regs,h.word,h.zero,by simpa using h.mem,λ i=>?_,h.place0,h.place1,h.inp,h.outp,h.code0,h.code1⟩,f⟩
   show 0<=(m.mem.set (u32m (m.rd x.a+u32m x.imm)).toNat (m.rd x.b)).getD i 0/\(m.mem.set (u32m (m.rd x.a+u32m x.imm)).toNat (m.rd x.b)).getD i 0<=4294967295
   generalize (u32m (m.rd x.a+u32m x.imm)).toNat=q;by_cases e:q=i
   .subst e
    by_cases E:q<m.mem.length
    .simp[E];exact s
    .simp[E]
   .have:=h.memw i
    simp only[Yh,Ybd e] at this⊢;exact this
  .rw[if_neg l];exact⟨h,Yar (0:Int),show(0:Int)<=4294967295 by decide⟩
 rw[if_neg k];by_cases l:x.op<=31
 .rw[if_pos l]
  refine⟨h,?_⟩
  show 0<=(if goes x.op (m.rd x.a) (m.rd x.b)=true then _ else _)/\(if goes x.op (m.rd x.a) (m.rd x.b)=true then _ else _)<=_
  split
  .exact Zad _
  .exact f
 rw[if_neg l];by_cases D:x.op=32
 .rw[if_pos D];exact⟨Zjo h hd f,Zad _⟩
 rw[if_neg D];by_cases v:x.op=33
 .rw[if_pos v];exact⟨Zjo h hd f,Zad _⟩
 rw[if_neg v];by_cases u:x.op=34
 .rw[if_pos u]
  cases hin:m.input with
  | nil=>exact⟨Zjo h hd (show(0:Int)<=4294967295/\(4294967295:Int)<=4294967295 by decide),f⟩
  | cons y r =>
   have hy:=h.inp y (by rw[hin];simp);have F:({ m with input:=r }:S.Mach).Ok:=⟨h.regs,h.word,h.zero,h.mem,h.memw,h.place0,h.place1,λ z g=>h.inp z (by rw[hin];exact Y0 _ g),h.outp,h.code0,h.code1⟩
   exact⟨Zjo F hd (show 0<=y/\y<=4294967295 by omega),f⟩
 rw[if_neg u];by_cases o:x.op=35
 .rw[if_pos o]
  refine⟨⟨h.regs,h.word,h.zero,h.mem,h.memw,h.place0,h.place1,h.inp,λ z g=>?_,h.code0,h.code1⟩,f⟩;rcases Yag.1 g with g|g
  .exact h.outp z g
  .rw[Ya8] at g;omega
 rw[if_neg o];exact⟨⟨h.regs,h.word,h.zero,h.mem,h.memw,h.place0,h.place1,h.inp,h.outp,j.1,j.2⟩,h.place0,h.place1⟩
theorem Za4 (m:S.Mach)(a:Nat):∀b:Nat,m.steps_ (a+b)=(m.steps_ a).steps_ b
 | 0=>rfl
 | b+1=>by
  show(m.steps_ (a+b)).step=((m.steps_ a).steps_ b).step
  rw[Za4 m a b]
theorem Zcx (m:S.Mach):m.steps_ 1=m.step:=rfl
theorem Ze4 {m:S.Mach}(h:m.state≠0):∀n:Nat,m.steps_ n=m
 | 0=>rfl
 | n+1=>by
  show(m.steps_ n).step=m
  rw[Ze4 h n];unfold S.Mach.step;rw[if_pos h]
namespace S
structure Img where
 xs:List Item
 F:List Int
 size:Int
 i0:Nat
 i1:Nat
 lo:Int
 hi:Int
namespace Img
def adr (I:Img)(i:Nat):Int:=addr I.xs I.F 0 i
def lab (I:Img)(s:ByteArray):Int:=I.adr (stands I.xs s).toNat
structure Ok (I:Img):Prop where
 res:FormsRes I.xs 0 0 I.F
 words:∀x∈I.xs,0<=x.word/\x.word<=4294967295
 i01:I.i0<=I.i1
 i1l:I.i1<=I.xs.length
 size:I.adr I.xs.length<I.size
 size2:I.size<=335544320
 lo0:0<=I.lo
 lohi:I.lo<=I.hi
 hisz:I.hi<=I.size
 apart:I.hi<=I.adr I.i0\/I.adr I.i1<=I.lo
def code (I:Img)(a:Int):Prop:=I.adr I.i0<=a/\a<I.adr I.i1
def stk (I:Img)(a:Int):Prop:=I.lo<=a/\a<I.hi
def In (I:Img)(mem:List Int):Prop:=∀i,I.i0<=i->i<I.i1->∀j w,(wordsAt I.xs I.F 0 i)[j]?=some w->mem.getD ((I.adr i).toNat+j) 0=w
end Img
end S
section
variable {I:S.Img}(hI:I.Ok)
include hI
theorem Zak:FormOk I.xs I.F:=by
 rcases hI.res with⟨h,_⟩|⟨h,_⟩|⟨_,_,h,_⟩
 .exact absurd rfl h
 .omega
 .exact h.1
theorem Zga:Stable I.xs 0 I.F:=by
 rcases hI.res with⟨h,_⟩|⟨h,_⟩|⟨_,_,h,a,_⟩
 .exact absurd rfl h
 .omega
 .exact a
theorem Zmu:CheckRes I.xs 0 0:=by
 rcases hI.res with⟨h,_⟩|⟨h,_⟩|⟨h,_⟩
 .exact absurd rfl h
 .omega
 .exact h
theorem Zmv:I.adr I.xs.length<=67108864:=by
 rcases hI.res with⟨h,_⟩|⟨h,_⟩|⟨_,_,_,_,h⟩
 .exact absurd rfl h
 .omega
 .exact h
theorem Zuy:¬Dup I.xs:=by
 rcases Zmu hI with⟨_,h⟩|⟨_,_,h,a⟩|⟨_,_,_,_,h⟩|⟨_,_,_,_,_,h⟩|⟨_,_,_,h,_⟩
 .omega
 .exact absurd a.symm h
 .omega
 .omega
 .exact h
theorem Zcy:firstErr I.xs=0:=by
 rcases Zmu hI with⟨_,h⟩|⟨_,_,h,a⟩|⟨_,_,_,_,h⟩|⟨_,_,_,_,_,h⟩|⟨_,_,h,_,_⟩
 .omega
 .exact absurd a.symm h
 .omega
 .omega
 .exact h
theorem Zci {i j:Nat}(h:i<=j):I.adr i<=I.adr j:=Zco (Zak hI) hI.words h
theorem Zmw (i:Nat):0<=I.adr i:=(Zcm (Zak hI) hI.words i).1
theorem Zib {i:Nat}(h:i<=I.xs.length):I.adr i<=67108864:=Int.le_trans (Zci hI h) (Zmv hI)
theorem Zic {i:Nat}{x:S.Item}(b:I.xs[i]?=some x)(a:x.kind=2):S.stands I.xs x.label=i:=by
 by_cases h:S.stands I.xs x.label=i
 .exact h
 .exact absurd ⟨i,x,b,a,h⟩ (Zuy hI)
theorem Z12 {x:S.Item}{i:Nat}(a:I.xs[i]?=some x):chkItem x=0:=by
 have h:=Zcy hI;have hm:=List.mem_of_getElem? a;generalize I.xs=l at h hm;clear a
 induction l with
 | nil=>cases hm
 | cons y r ih =>
  rw[firstErr] at h;by_cases c:chkItem y=0
  .rw[if_neg (by simp[c])] at h
   rcases Yr.1 hm with rfl|hm
   .exact c
   .exact ih h hm
  .rw[if_pos c] at h;exact absurd h c
theorem Zx {i:Nat}{x:S.Item}(a:I.xs[i]?=some x):I.adr (i+1)=I.adr i+S.size x (I.F.getD i 0):=by
 show S.addr I.xs I.F 0 i+sizeAt I.xs I.F i=_
 unfold sizeAt;rw[a];rfl
end
theorem Zuz {m:S.Mach}{x:Inst}(a:m.state=0)(hp:m.place<m.mem.length)(f:m.mem.getD m.place.toNat 0=wordOf x)(hg:good x=true)(b:(m.act x).2.2=0) :
 m.step={ (m.act x).1 with place:=(m.act x).2.1,steps:=m.steps+1 }:=by
 have e:wordOf x=enc x:=by unfold wordOf;rw[if_pos hg]
 obtain⟨h1,d⟩:=Zut hg;unfold S.Mach.step;rw[if_neg (by simp[a]),if_neg (by omega),f,e,h1,d,if_neg (by simp),if_neg (by simp[b])]
end
section
namespace S
structure Vw where
 reg:Int->Int
 mem:Int->Int
 inp:List Int
 out:List Int
namespace Vw
def set (V:Vw)(d v:Int):Vw:={ V with reg:=λ j=>if j=d then v else V.reg j }
def sto (V:Vw)(a v:Int):Vw:={ V with mem:=λ b=>if b=a then v else V.mem b }
end Vw
def inByte:List Int->Int
 | []=>4294967295
 | x::_=>x
def Mach.mv (m:Mach)(a:Int):Int:=m.mem.getD a.toNat 0
structure On (I:Img)(m:Mach)(V:Vw)(a:Int):Prop where
 ok:m.Ok
 run:m.state=0
 len:(m.mem.length:Int)=I.size
 code:I.In m.mem
 place:m.place=a
 reg:∀j,0<=j->j<=31->j≠25->m.rd j=V.reg j
 mem:∀b,0<=b->b<I.size->m.mv b=V.mem b
 inp:m.input=V.inp
 out:m.out=V.out
structure Off (I:Img)(m:Mach)(V:Vw)(code:Int):Prop where
 ok:m.Ok
 end_:m.state=1
 codeIs:m.code=code
 len:(m.mem.length:Int)=I.size
 code:I.In m.mem
 place:I.code m.place
 reg:∀j,0<=j->j<=31->j≠25->m.rd j=V.reg j
 mem:∀b,0<=b->b<I.size->m.mv b=V.mem b
 inp:m.input=V.inp
 out:m.out=V.out
def Go (I:Img)(V:Vw)(a:Int)(n:Nat)(V':Vw)(a':Int):Prop:=∀m,On I m V a->∃k,k<=n/\On I (m.steps_ k) V' a'
def GoH (I:Img)(V:Vw)(a:Int)(n:Nat)(V':Vw)(code:Int):Prop:=∀m,On I m V a->∃k,k<=n/\Off I (m.steps_ k) V' code
end S
theorem Zdh (I:S.Img)(V:S.Vw)(a:Int):S.Go I V a 0 V a:=λ m h=>⟨0,Yc _,h⟩
theorem S.Go.trans {I:S.Img}{V V' d:S.Vw}{a b c:Int}{n k:Nat}(h:S.Go I V a n V' b)(f:S.Go I V' b k d c):S.Go I V a (n+k) d c:=λ m hm=>by
 obtain⟨i,hi,g⟩:=h m hm;obtain⟨j,hj,e⟩:=f _ g;exact⟨i+j,by omega,by rw[Za4];exact e⟩
theorem S.Go.halt {I:S.Img}{V V' d:S.Vw}{a b c:Int}{n k:Nat}(h:S.Go I V a n V' b)(f:S.GoH I V' b k d c):S.GoH I V a (n+k) d c:=λ m hm=>by
 obtain⟨i,hi,g⟩:=h m hm;obtain⟨j,hj,e⟩:=f _ g;exact⟨i+j,by omega,by rw[Za4];exact e⟩
theorem S.Go.more {I:S.Img}{V V':S.Vw}{a b:Int}{n k:Nat}(h:S.Go I V a n V' b)(hk:n<=k):S.Go I V a k V' b:=λ m hm=>by
 obtain⟨i,hi,d⟩:=h m hm;exact⟨i,by omega,d⟩
theorem S.GoH.more {I:S.Img}{V V':S.Vw}{a b:Int}{n k:Nat}(h:S.GoH I V a n V' b)(hk:n<=k):S.GoH I V a k V' b:=λ m hm=>by
 obtain⟨i,hi,d⟩:=h m hm;exact⟨i,by omega,d⟩
theorem S.On.ext {I:S.Img}{m:S.Mach}{V V':S.Vw}{a:Int}(h:S.On I m V a)(e:∀j,0<=j->j<=31->j≠25->V.reg j=V'.reg j)(hm:∀b,0<=b->b<I.size->V.mem b=V'.mem b)(hi:V.inp=V'.inp)(f:V.out=V'.out):S.On I m V' a :=
 ⟨h.ok,h.run,h.len,h.code,h.place,λ j h0 h1 d=>(h.reg j h0 h1 d).trans (e j h0 h1 d),λ b h0 h1=>(h.mem b h0 h1).trans (hm b h0 h1),h.inp.trans hi,h.out.trans f⟩
theorem S.Go.ext {I:S.Img}{V V' d:S.Vw}{a b:Int}{n:Nat}(h:S.Go I V a n V' b)(e:∀j,0<=j->j<=31->j≠25->V'.reg j=d.reg j)(hm:∀b,0<=b->b<I.size->V'.mem b=d.mem b)(hi:V'.inp=d.inp)(g:V'.out=d.out):S.Go I V a n d b:=λ m h0=>by
 obtain⟨k,f,h1⟩:=h m h0;exact⟨k,f,h1.ext e hm hi g⟩
theorem S.On.rbd {I:S.Img}{m:S.Mach}{V:S.Vw}{a:Int}(h:S.On I m V a){j:Int}(h0:0<=j)(h1:j<=31)(b:j≠25):0<=V.reg j/\V.reg j<=4294967295:=by
 rw[<- h.reg j h0 h1 b];exact h.ok.word _
theorem S.On.zero {I:S.Img}{m:S.Mach}{V:S.Vw}{a:Int}(h:S.On I m V a):V.reg 0=0:=by
 rw[<- h.reg 0 (by decide) (by decide) (by decide)];exact h.ok.zero
theorem Zyj {I:S.Img}{V V':S.Vw}{a b:Int}{n:Nat}(h:∀m,S.On I m V a->S.Go I V a n V' b):S.Go I V a n V' b:=λ m hm=>h m hm m hm
section
variable {I:S.Img}(hI:I.Ok)
include hI
theorem Zt {m:S.Mach}{V:S.Vw}{a:Int}(h:S.On I m V a){i j:Nat}(h0:I.i0<=i)(h1:i<I.i1){y:Inst}(d:(S.wordsAt I.xs I.F 0 i)[j]?=some (wordOf y))(f:a=I.adr i+j)(hg:good y=true)(e:(m.act y).2.2=0) :
 m.step={ (m.act y).1 with place:=(m.act y).2.1,steps:=m.steps+1 }/\u32m (m.place+1)=I.adr i+j+1:=by
 have g:=(Yg.1 d).1;have hl:=Zag (base:=0) (Zak hI) (Zdg (Zcy hI)) hI.words i;have hn:I.adr (i+1)=I.adr i+sizeAt I.xs I.F i:=rfl;have h2:=Zib hI (i:=i+1) (by have:=hI.i1l;omega);have h3:=Zci hI (i:=i+1) (j:=I.xs.length) (by have:=hI.i1l;omega);have h4:=hI.size;have h5:=Zmw hI i;have hp:=h.place;have b:=h.len;refine⟨Zuz h.run (by omega) ?_ hg e,?_⟩
 .have:=h.code i h0 h1 j _ d
  rw[<- this,hp,f]
  congr 1
  omega
 .unfold u32m
  omega
theorem Zid {m:S.Mach}{V:S.Vw}{a:Int}(h:S.On I m V a){y:Inst}{d v p:Int}(hd:0<d)(l:d<=31)(n:m.step={ (m.act y).1 with place:=(m.act y).2.1,steps:=m.steps+1 })
 (k:0<=y.d) (f:m.act y=(m.put d v,p,0)):S.On I m.step (V.set d v) p:=by
 have b:=Zox h.ok (x:=y) k;rw[n,f];rw[f] at b;have e:m.put d v={ m with reg:=m.reg.set d.toNat v }:=by unfold S.Mach.put;rw[if_neg (by omega)]
 refine⟨placed b.1 b.2,by rw[e];exact h.run,by rw[e];exact h.len,by rw[e];exact h.code,rfl,λ j h0 h1 g=>?_,by rw[e];exact h.mem,by rw[e];exact h.inp,by rw[e];exact h.out⟩;rw[e]
 show(m.reg.set d.toNat v).getD j.toNat 0=if j=d then v else V.reg j
 have hr:=h.ok.regs;by_cases c:j=d
 .subst c
  rw[if_pos rfl];have:j.toNat<m.reg.length:=by omega
  simp[this]
 .rw[if_neg c,<- h.reg j h0 h1 g]
  have:¬d.toNat=j.toNat:=by omega
  show _=m.reg.getD j.toNat 0
  simp[this]
theorem Zd1 {m:S.Mach}{V:S.Vw}{a:Int}(h:S.On I m V a){y:Inst}{p:Int}(f:m.step={ (m.act y).1 with place:=(m.act y).2.1,steps:=m.steps+1 })
 (g:0<=y.d) (e:m.act y=(m,p,0)):S.On I m.step V p:=by
 have b:=Zox h.ok (x:=y) g;rw[f,e];rw[e] at b;exact⟨placed b.1 b.2,h.run,h.len,h.code,rfl,h.reg,h.mem,h.inp,h.out⟩
section
variable {i:Nat}(h0:I.i0<=i)(h1:i<I.i1)
include h0 h1
theorem Zy {y:Inst}{s:ByteArray}{w:Int}(a:I.xs[i]?=some ⟨1,y,s,w⟩):S.wordsAt I.xs I.F 0 i=[wordOf y]/\good y=true/\I.adr (i+1)=I.adr i+1:=by
 have b:=Z12 hI a;refine⟨?_,?_,?_⟩
 .unfold S.wordsAt
  rw[a];rfl
 .by_cases g:good y=true
  .exact g
  .exfalso
   simp[chkItem,chk,g] at b
 .rw[Zx hI a]
  rfl
theorem Zp7 {V V':S.Vw}{y:Inst}{s:ByteArray}{w:Int}(e:I.xs[i]?=some ⟨1,y,s,w⟩){d v:Int}(hd:0<d)(b:d<=31)(k:0<=y.d)
 (f:∀m,S.On I m V (I.adr i)->m.act y=(m.put d v,u32m (m.place+1),0)):S.Go I V (I.adr i) 1 (V.set d v) (I.adr (i+1)):=λ m hm=>by
 obtain⟨g,hg,h⟩:=Zy hI h0 h1 e;have a:=f m hm;obtain⟨l,hp⟩:=Zt hI hm h0 h1 (j:=0) (y:=y) (by rw[g];rfl) (by simp) hg (by rw[a]);refine⟨1,Yc _,?_⟩;have:=Zid hI hm hd b l k a;rw[hp] at this;rw[Zcx,h]
 simpa using this
theorem Zu0 {V:S.Vw}{op d a b:Int}{s:ByteArray}{w:Int}(h:I.xs[i]?=some ⟨1,⟨op,d,a,b,0⟩,s,w⟩)(j:op<=14)(hd:0<d)(g:d<=31)
 (e:0<=a/\a<=31/\a≠25) (f:0<=b/\b<=31/\b≠25) (l:V.reg b=0->op≠5/\op≠6) :
 S.Go I V (I.adr i) 1 (V.set d (alu op (V.reg a) (V.reg b))) (I.adr (i+1)):=by
 refine Zp7 (V':=V) hI h0 h1 h hd g (by show 0<=d;omega) λ m hm=>?_
 have n:=hm.reg a e.1 e.2.1 e.2.2;have k:=hm.reg b f.1 f.2.1 f.2.2;unfold S.Mach.act;simp only[n,k,if_pos j];rw[if_neg (λ q=>by have:=l q.1;omega)]
theorem Z0n {V:S.Vw}{op d a n:Int}{s:ByteArray}{w:Int}(g:I.xs[i]?=some ⟨1,⟨op,d,a,0,n⟩,s,w⟩)(h:15<=op/\op<=22)(hd:0<d)(b:d<=31)(e:0<=a/\a<=31/\a≠25) :
 S.Go I V (I.adr i) 1 (V.set d (alu (like op) (V.reg a) (u32m n))) (I.adr (i+1)):=by
 refine Zp7 (V':=V) hI h0 h1 g hd b (by show 0<=d;omega) λ m hm=>?_
 have f:=hm.reg a e.1 e.2.1 e.2.2;unfold S.Mach.act;simp only[f];rw[if_neg (by omega),if_pos h.2]
theorem Zd2 {V:S.Vw}{d a n:Int}{s:ByteArray}{w:Int}(f:I.xs[i]?=some ⟨1,⟨15,d,a,0,n⟩,s,w⟩)(hd:0<d)(b:d<=31)(g:0<=a/\a<=31/\a≠25) :
 S.Go I V (I.adr i) 1 (V.set d (u32m (V.reg a+n))) (I.adr (i+1)):=by
 have h:=Z0n (V:=V) hI h0 h1 f (by decide) hd b g;have e:alu (like 15) (V.reg a) (u32m n)=u32m (V.reg a+n):=by
  show u32m (V.reg a+u32m n)=_
  unfold u32m;omega
 rw[e] at h;exact h
theorem Z13 {V:S.Vw}{d a:Int}{s:ByteArray}{w:Int}(g:I.xs[i]?=some ⟨1,⟨15,d,a,0,0⟩,s,w⟩)(hd:0<d)(f:d<=31)(b:0<=a/\a<=31/\a≠25) :
 S.Go I V (I.adr i) 1 (V.set d (V.reg a)) (I.adr (i+1)):=Zyj λ m hm=>by
 have hb:=hm.rbd b.1 b.2.1 b.2.2;have h:=Zd2 (V:=V) hI h0 h1 g hd f b;have e:u32m (V.reg a+0)=V.reg a:=by unfold u32m;omega
 rw[e] at h;exact h
theorem Z4x {V:S.Vw}{d n:Int}{s:ByteArray}{w:Int}(b:I.xs[i]?=some ⟨1,⟨23,d,0,0,n⟩,s,w⟩)(hd:0<d)(a:d<=31)(hn:0<=n/\n<=65535) :
 S.Go I V (I.adr i) 1 (V.set d (n*65536)) (I.adr (i+1)):=by
 refine Zp7 (V':=V) hI h0 h1 b hd a (by show 0<=d;omega) λ m hm=>?_
 have e:u32m (u32m n*65536)=n*65536:=by unfold u32m;omega
 unfold S.Mach.act;simp[e]
theorem Z14 {V:S.Vw}{d a n p:Int}{s:ByteArray}{w:Int}(j:I.xs[i]?=some ⟨1,⟨24,d,a,0,n⟩,s,w⟩)(hd:0<d)(g:d<=31)(f:0<=a/\a<=31/\a≠25)
 (hp:p=u32m (V.reg a+n)) (e:p<I.size):S.Go I V (I.adr i) 1 (V.set d (V.mem p)) (I.adr (i+1)):=by
 have b:0<=p:=by rw[hp];exact(Zad _).1
 refine Zp7 (V':=V) hI h0 h1 j hd g (by show 0<=d;omega) λ m hm=>?_
 have l:=hm.reg a f.1 f.2.1 f.2.2;have k:u32m (V.reg a+u32m n)=p:=by rw[hp];unfold u32m;omega
 have hl:=hm.len;have h:=hm.mem p b e;unfold S.Mach.mv at h;unfold S.Mach.act;simp only[l,k];rw[if_neg (by decide),if_neg (by decide),if_neg (by decide),if_pos trivial,if_pos (by omega),h]
theorem Zu1 {V:S.Vw}{a b n p:Int}{s:ByteArray}{w:Int}(H:I.xs[i]?=some ⟨1,⟨25,0,a,b,n⟩,s,w⟩)(h:0<=a/\a<=31/\a≠25)(l:0<=b/\b<=31/\b≠25)
 (hp:p=u32m (V.reg a+n)) (E:p<I.size) (D:¬I.code p):S.Go I V (I.adr i) 1 (V.sto p (V.reg b)) (I.adr (i+1)):=λ m hm=>by
 have C:0<=p:=by rw[hp];exact(Zad _).1
 obtain⟨L,hg,M⟩:=Zy hI h0 h1 H;have N:=hm.reg a h.1 h.2.1 h.2.2;have J:=hm.reg b l.1 l.2.1 l.2.2;have G:u32m (V.reg a+u32m n)=p:=by rw[hp];unfold u32m;omega
 have hl:=hm.len;have d:m.act ⟨25,0,a,b,n⟩=({ m with mem:=m.mem.set p.toNat (V.reg b) },u32m (m.place+1),0):=by
  unfold S.Mach.act;simp only[N,J,G];rw[if_neg (by decide),if_neg (by decide),if_neg (by decide),if_neg (by decide),if_pos trivial,if_pos (by omega)]
 obtain⟨O,f⟩:=Zt hI hm h0 h1 (j:=0) (y:=⟨25,0,a,b,n⟩) (by rw[L];rfl) (by simp) hg (by rw[d]);have o:=Zox hm.ok (x:=⟨25,0,a,b,n⟩) (Yar _);rw[d] at o;refine⟨1,Yc _,?_⟩;rw[Zcx,O,d,M];refine⟨placed o.1 o.2,hm.run,by simpa using hm.len,λ k k0 t j v u=>?_,by show u32m (m.place+1)=_;rw[f];simp,hm.reg,λ q P z=>?_,hm.inp,hm.out⟩
 .have hold:=hm.code k k0 t j v u
  have K:=(Yg.1 u).1;have r:=Zag (base:=0) (Zak hI) (Zdg (Zcy hI)) hI.words k;have Q:I.adr (k+1)=I.adr k+sizeAt I.xs I.F k:=rfl;have l1:=Zci hI (i:=I.i0) (j:=k) k0;have l2:=Zci hI (i:=k+1) (j:=I.i1) t;have l3:=Zmw hI k;have g:¬p.toNat=(I.adr k).toNat+j:=by
   intro e;exact D ⟨by omega,by omega⟩
  show(m.mem.set p.toNat (V.reg b)).getD _ 0=v
  rw[<- hold];simp only[Yh,Ybd g]
 .show(m.mem.set p.toNat (V.reg b)).getD q.toNat 0=if q=p then V.reg b else V.mem q
  by_cases c:q=p
  .subst c
   rw[if_pos rfl];have:q.toNat<m.mem.length:=by omega
   simp[this]
  .rw[if_neg c,<- hm.mem q P z]
   have:¬p.toNat=q.toNat:=by omega
   show _=m.mem.getD q.toNat 0
   simp only[Yh,Ybd this]
theorem Z7h {V:S.Vw}{d:Int}{s:ByteArray}{w:Int}(k:I.xs[i]?=some ⟨1,⟨34,d,0,0,0⟩,s,w⟩)(hd:0<d)(t:d<=31) :
 S.Go I V (I.adr i) 1 (({ V with inp:=V.inp.tail }:S.Vw).set d (S.inByte V.inp)) (I.adr (i+1)):=λ m hm=>by
 obtain⟨o,hg,q⟩:=Zy hI h0 h1 k;have b:=hm.inp;obtain⟨v,h⟩:=Yx (S.inByte V.inp);have a:m.act ⟨34,d,0,0,0⟩=(({ m with input:=V.inp.tail }:S.Mach).put d v,u32m (m.place+1),0):=by
  unfold S.Mach.act;simp only[b];rw[if_neg (by decide),if_neg (by decide),if_neg (by decide),if_neg (by decide),if_neg (by decide),if_neg (by decide),if_neg (by decide),if_neg (by decide),if_pos trivial,h]
  cases hV:V.inp with
  | nil =>
   rw[hV] at b;simp only[List.tail_nil];have:({ m with input:=[] }:S.Mach)=m:=by rw[<- b]
   rw[this];rfl
  | cons x r=>rfl
 obtain⟨u,f⟩:=Zt hI hm h0 h1 (j:=0) (y:=⟨34,d,0,0,0⟩) (by rw[o];rfl) (by simp) hg (by rw[a]);have g:=Zox hm.ok (x:=⟨34,d,0,0,0⟩) (by show 0<=d;omega);rw[a] at g;refine⟨1,Yc _,?_⟩;rw[Zcx,u,a,q,<- h];have e:({ m with input:=V.inp.tail }:S.Mach).put d v={ m with input:=V.inp.tail,reg:=m.reg.set d.toNat v }:=by unfold S.Mach.put;rw[if_neg (by omega)]
 refine⟨placed g.1 g.2,by rw[e];exact hm.run,by rw[e];exact hm.len,by rw[e];exact hm.code,by show u32m (m.place+1)=_;rw[f];simp,λ j l z n=>?_,by rw[e];exact hm.mem,by rw[e];rfl,by rw[e];exact hm.out⟩;rw[e]
 show(m.reg.set d.toNat v).getD j.toNat 0=if j=d then v else V.reg j
 have hr:=hm.ok.regs;by_cases c:j=d
 .subst c
  rw[if_pos rfl];have:j.toNat<m.reg.length:=by omega
  simp[this]
 .rw[if_neg c,<- hm.reg j l z n]
  have:¬d.toNat=j.toNat:=by omega
  show _=m.reg.getD j.toNat 0
  simp[this]
theorem Z4y {V:S.Vw}{a:Int}{s:ByteArray}{w:Int}(g:I.xs[i]?=some ⟨1,⟨35,0,a,0,0⟩,s,w⟩)(e:0<=a/\a<=31/\a≠25) :
 S.Go I V (I.adr i) 1 { V with out:=V.out++[V.reg a%256] } (I.adr (i+1)):=λ m hm=>by
 obtain⟨h,hg,k⟩:=Zy hI h0 h1 g;have l:=hm.reg a e.1 e.2.1 e.2.2;have b:m.act ⟨35,0,a,0,0⟩=({ m with out:=m.out++[V.reg a%256] },u32m (m.place+1),0):=by
  unfold S.Mach.act;simp only[l];rw[if_neg (by decide),if_neg (by decide),if_neg (by decide),if_neg (by decide),if_neg (by decide),if_neg (by decide),if_neg (by decide),if_neg (by decide),if_neg (by decide),if_pos trivial]
 obtain⟨n,d⟩:=Zt hI hm h0 h1 (j:=0) (y:=⟨35,0,a,0,0⟩) (by rw[h];rfl) (by simp) hg (by rw[b]);have f:=Zox hm.ok (x:=⟨35,0,a,0,0⟩) (Yar _);rw[b] at f;refine⟨1,Yc _,?_⟩;rw[Zcx,n,b,k];exact⟨placed f.1 f.2,hm.run,hm.len,hm.code,by show u32m (m.place+1)=_;rw[d];simp,hm.reg,hm.mem,hm.inp,by show m.out++_=_;rw[hm.out]⟩
theorem Z15 {V:S.Vw}{a:Int}{s:ByteArray}{w:Int}(g:I.xs[i]?=some ⟨1,⟨36,0,a,0,0⟩,s,w⟩)(d:0<=a/\a<=31/\a≠25) :
 S.GoH I V (I.adr i) 1 V (V.reg a):=λ m hm=>by
 obtain⟨h,hg,hn⟩:=Zy hI h0 h1 g;have k:=hm.reg a d.1 d.2.1 d.2.2;have b:m.act ⟨36,0,a,0,0⟩=({ m with state:=1,code:=V.reg a },m.place,0):=by
  unfold S.Mach.act;simp only[k];rw[if_neg (by decide),if_neg (by decide),if_neg (by decide),if_neg (by decide),if_neg (by decide),if_neg (by decide),if_neg (by decide),if_neg (by decide),if_neg (by decide),if_neg (by decide)]
 obtain⟨l,f⟩:=Zt hI hm h0 h1 (j:=0) (y:=⟨36,0,a,0,0⟩) (by rw[h];rfl) (by simp) hg (by rw[b]);have e:=Zox hm.ok (x:=⟨36,0,a,0,0⟩) (Yar _);rw[b] at e;refine⟨1,Yc _,?_⟩;rw[Zcx,l,b];have l1:=Zci hI h0;have l2:=Zci hI (i:=i+1) (j:=I.i1) h1;have hp:=hm.place;exact⟨placed e.1 e.2,rfl,rfl,hm.len,hm.code,⟨by show I.adr I.i0<=m.place;omega,by show m.place<I.adr I.i1;omega⟩,hm.reg,hm.mem,hm.inp,hm.out⟩
theorem Zoy {V:S.Vw}{a n:Int}{s:ByteArray}{w:Int}(g:I.xs[i]?=some ⟨1,⟨33,0,a,0,n⟩,s,w⟩)(d:0<=a/\a<=31/\a≠25) :
 S.Go I V (I.adr i) 1 V (u32m (V.reg a+n)):=λ m hm=>by
 obtain⟨h,hg,hn⟩:=Zy hI h0 h1 g;have k:=hm.reg a d.1 d.2.1 d.2.2;have f:u32m (V.reg a+u32m n)=u32m (V.reg a+n):=by unfold u32m;omega
 have b:m.act ⟨33,0,a,0,n⟩=(m,u32m (V.reg a+n),0):=by
  unfold S.Mach.act S.Mach.put;simp[k,f]
 obtain⟨l,e⟩:=Zt hI hm h0 h1 (j:=0) (y:=⟨33,0,a,0,n⟩) (by rw[h];rfl) (by simp) hg (by rw[b]);exact⟨1,Yc _,Zd1 hI hm l (Yar _) b⟩
theorem Zeg {V:S.Vw}{y:Inst}{s:ByteArray}{w:Int}(a:I.xs[i]?=some ⟨2,y,s,w⟩):S.Go I V (I.adr i) 0 V (I.adr (i+1)):=by
 have e:I.adr (i+1)=I.adr i:=by
  rw[Zx hI a];simp[S.size]
 rw[e];exact Zdh _ _ _
end
end
end
section
theorem Z85 {h l:Nat}(hl:l<65536):(h*65536) ||| l=h*65536+l:=by
 have:=Nat.two_pow_add_eq_or_of_lt (i:=16) (b:=l) (by omega) h;have e:2^16*h=h*65536:=by omega
 rw[e] at this;exact this.symm
theorem Zu2 {w:Int}(w0:0<=w)(w1:w<=4294967295):alu 8 (w/65536*65536) (w%65536)=w:=by
 show bits .or .u32 (w/65536*65536) (w%65536)=w
 rw[u32_or (by omega) (by omega) (by omega) (by omega)];have a:(w/65536*65536).toNat=(w/65536).toNat*65536:=by omega
 rw[a,Z85 (by omega)];omega
theorem Z4z {xs:List S.Item}{F:List Int}{base:Int}{i:Nat}{x:S.Item}(a:x.kind=4)(hf:F.getD i 0=1)(h:fit xs F base i x=true) :
 -1048576<=S.addr xs F base (S.stands xs x.label).toNat-S.addr xs F base (i+1)/\S.addr xs F base (S.stands xs x.label).toNat-S.addr xs F base (i+1)<=1048575:=by
 unfold fit at h;rw[if_neg (by rw[hf,a];decide),if_neg (λ q=>by rw[a] at q;exact absurd q.1 (by decide))] at h;exact of_decide_eq_true h
theorem Z40 {xs:List S.Item}{F:List Int}{base:Int}{i:Nat}{x:S.Item}(a:x.kind=3)(hf:F.getD i 0=2)(h:fit xs F base i x=true) :
 -1048576<=S.addr xs F base (S.stands xs x.label).toNat-S.addr xs F base (i+1)/\S.addr xs F base (S.stands xs x.label).toNat-S.addr xs F base (i+1)<=1048575:=by
 unfold fit at h;rw[if_neg (by rw[hf,a];decide),if_neg (by rw[hf,a];decide)] at h;exact of_decide_eq_true h
theorem Z41 {xs:List S.Item}{F:List Int}{base:Int}{i:Nat}{x:S.Item}(a:x.kind=3)(hf:F.getD i 0=1)(h:fit xs F base i x=true) :
 -32768<=S.addr xs F base (S.stands xs x.label).toNat-S.addr xs F base (i+1)/\S.addr xs F base (S.stands xs x.label).toNat-S.addr xs F base (i+1)<=32767:=by
 unfold fit at h;rw[if_neg (by rw[hf,a];decide),if_pos (by rw[hf,a];decide)] at h;exact of_decide_eq_true h
theorem Zlf {d n:Int}(hd:0<=d/\d<=31)(hn:-1048576<=n/\n<=1048575):good ⟨32,d,0,0,n⟩=true:=by
 have hf:S.form 32=5:=by decide
 have a:least 32=-1048576/\most 32=1048575:=by decide
 simp[good,hf,a.1,a.2,S.reg,hasD,hasA,hasB];omega
theorem Zie {d a n:Int}(hd:0<=d/\d<=31)(ha:0<=a/\a<=31)(hn:-32768<=n/\n<=32767):good ⟨33,d,a,0,n⟩=true:=by
 have hf:S.form 33=2:=by decide
 have b:least 33=-32768/\most 33=32767:=by decide
 simp[good,hf,b.1,b.2,S.reg,hasD,hasA,hasB];omega
theorem Zmx {d n:Int}(hd:0<=d/\d<=31)(hn:0<=n/\n<=65535):good ⟨23,d,0,0,n⟩=true:=by
 have hf:S.form 23=3:=by decide
 have a:least 23=0/\most 23=65535:=by decide
 simp[good,hf,a.1,a.2,S.reg,hasD,hasA,hasB];omega
theorem Zmy {d a n:Int}(hd:0<=d/\d<=31)(ha:0<=a/\a<=31)(hn:0<=n/\n<=65535):good ⟨17,d,a,0,n⟩=true:=by
 have hf:S.form 17=2:=by decide
 have b:least 17=0/\most 17=65535:=by decide
 simp[good,hf,b.1,b.2,S.reg,hasD,hasA,hasB];omega
theorem Zoz {op a b n:Int}(e:op=26\/op=27)(ha:0<=a/\a<=31)(hb:0<=b/\b<=31)(hn:-32768<=n/\n<=32767):good ⟨op,0,a,b,n⟩=true:=by
 rcases e with rfl|rfl
 .have hf:S.form 26=4:=by decide
  have d:least 26=-32768/\most 26=32767:=by decide
  simp[good,hf,d.1,d.2,S.reg,hasD,hasA,hasB];omega
 .have hf:S.form 27=4:=by decide
  have d:least 27=-32768/\most 27=32767:=by decide
  simp[good,hf,d.1,d.2,S.reg,hasD,hasA,hasB];omega
section
variable {I:S.Img}(hI:I.Ok)
include hI
theorem Zlg {m:S.Mach}{V:S.Vw}{a:Int}(h:S.On I m V a){y:Inst}{v p:Int}(b:m.step={ (m.act y).1 with place:=(m.act y).2.1,steps:=m.steps+1 })
 (g:0<=y.d) (e:m.act y=(m.put 25 v,p,0)):S.On I m.step V p/\m.step.rd 25=v:=by
 refine⟨(Zid hI h (by decide) (by decide) b g e).ext (λ j _ _ f=>?_) (λ _ _ _=>rfl) rfl rfl,?_⟩
 .show(if j=25 then v else V.reg j)=V.reg j
  rw[if_neg f]
 .rw[b,e]
  have hr:=h.ok.regs
  show(m.reg.set 25 v).getD 25 0=v
  have:25<m.reg.length:=by omega
  simp[this]
variable {i:Nat}(h0:I.i0<=i)(h1:i<I.i1)
include h0 h1
theorem Zu3 {m:S.Mach}{V:S.Vw}{j:Nat}{tq:Int}(hm:S.On I m V (I.adr i+j))(a:0<=tq)(f:tq<=4294967295)
 (t:(S.wordsAt I.xs I.F 0 i)[j]?=some (lui tq)) (b:(S.wordsAt I.xs I.F 0 i)[j+1]?=some (ori tq)) :
 S.On I (m.steps_ 2) V (I.adr i+(j+2:Nat))/\(m.steps_ 2).rd 25=tq:=by
 have g:good ⟨23,25,0,0,tq/65536⟩=true:=Zmx (by decide) (by omega);have d:good ⟨17,25,25,0,tq%65536⟩=true:=Zmy (by decide) (by decide) (by omega);have k:m.act ⟨23,25,0,0,tq/65536⟩=(m.put 25 (tq/65536*65536),u32m (m.place+1),0):=by
  have e:u32m (u32m (tq/65536)*65536)=tq/65536*65536:=by unfold u32m;omega
  unfold S.Mach.act;simp[e]
 obtain⟨s1,p1⟩:=Zt hI hm h0 h1 t rfl g (by rw[k]);obtain⟨h,n⟩:=Zlg hI hm s1 (show(0:Int)<=25 by decide) k;rw[p1] at h;have l:m.step.act ⟨17,25,25,0,tq%65536⟩=(m.step.put 25 tq,u32m (m.step.place+1),0):=by
  have e:alu (like 17) (tq/65536*65536) (u32m (tq%65536))=tq:=by
   have u:u32m (tq%65536)=tq%65536:=by unfold u32m;omega
   rw[u];exact Zu2 a f
  unfold S.Mach.act;simp only[n,e];rw[if_neg (by decide),if_pos (by decide)]
 obtain⟨s,p2⟩:=Zt hI h h0 h1 b (by omega) d (by rw[l]);obtain⟨k2,q⟩:=Zlg hI h s (show(0:Int)<=25 by decide) l;rw[p2] at k2;have r:m.steps_ 2=m.step.step:=rfl;rw[r];refine⟨?_,q⟩;have o:I.adr i+((j+1:Nat):Int)+1=I.adr i+((j+2:Nat):Int):=by omega
 rw[<- o];exact k2
theorem Zp8 {x:S.Item}(hx:I.xs[i]?=some x)(a:named x=true):toOf I.xs I.F 0 x=I.lab x.label/\0<=I.lab x.label/\I.lab x.label<=67108864:=by
 have e:toOf I.xs I.F 0 x=I.lab x.label:=by unfold toOf;rw[if_pos a];rfl
 have h:=Zuw (Zak hI) hI.words (Yar 0) (Zmv hI) x;rw[e] at h;exact⟨e,h⟩
theorem Zlh {V:S.Vw}{o a b n:Int}{s:ByteArray}{w:Int}(f:I.xs[i]?=some ⟨4,⟨o,0,a,b,n⟩,s,w⟩):S.Go I V (I.adr i) 3 V (I.lab s):=λ m hm=>by
 obtain⟨v,l0,l1⟩:toOf I.xs I.F 0 _=I.lab s/\0<=I.lab s/\I.lab s<=67108864:=Zp8 hI h0 h1 f rfl;have hsz:=Zx hI f;have u:=((Zak hI).2 i _ f).2.1 rfl;have g:=(Zga hI).2 i _ f;have hb:=Zib hI (i:=i+1) (by have:=hI.i1l;omega);have t:=Zmw hI i;have k:S.wordsAt I.xs I.F 0 i=wordsOf ⟨4,⟨o,0,a,b,n⟩,s,w⟩ (I.F.getD i 0) (I.adr i) (I.lab s):=by
  unfold S.wordsAt;rw[f]
  show wordsOf _ _ _ (toOf I.xs I.F 0 _)=_
  rw[v];rfl
 rcases(show I.F.getD i 0=1\/I.F.getD i 0=2 by omega) with hf|hf
 .rw[hf] at k hsz
  have d:S.wordsAt I.xs I.F 0 i=[wordOf ⟨32,0,0,0,I.lab s-I.adr i-1⟩]:=k;have l:I.adr (i+1)=I.adr i+1:=hsz;have hr:-1048576<=I.lab s-I.adr (i+1)/\I.lab s-I.adr (i+1)<=1048575:=Z4z rfl hf g;have hg:good ⟨32,0,0,0,I.lab s-I.adr i-1⟩=true:=Zlf (by decide) (by omega);have h:m.act ⟨32,0,0,0,I.lab s-I.adr i-1⟩=(m,u32m (u32m (m.place+1)+u32m (I.lab s-I.adr i-1)),0):=by
   unfold S.Mach.act S.Mach.put;simp
  obtain⟨s1,p1⟩:=Zt hI hm h0 h1 (j:=0) (by rw[d];rfl) (by simp) hg (by rw[h]);have q:=Zd1 hI hm s1 (Yar _) h;refine⟨1,by decide,?_⟩;have e:u32m (u32m (m.place+1)+u32m (I.lab s-I.adr i-1))=I.lab s:=by
   rw[p1];unfold u32m;omega
  rw[e] at q;exact q
 .rw[hf] at k
  have d:S.wordsAt I.xs I.F 0 i=[lui (I.lab s),ori (I.lab s),wordOf ⟨33,0,25,0,0⟩]:=k;obtain⟨k2,r⟩:=Zu3 hI h0 h1 (j:=0) (tq:=I.lab s) (by simpa using hm) l0 (by omega) (by rw[d];rfl) (by rw[d];rfl);have h:(m.steps_ 2).act ⟨33,0,25,0,0⟩=(m.steps_ 2,I.lab s,0):=by
   have e:u32m (I.lab s+u32m 0)=I.lab s:=by unfold u32m;omega
   unfold S.Mach.act S.Mach.put;simp only[r,e];simp
  obtain⟨s1,p1⟩:=Zt hI k2 h0 h1 (j:=2) (by rw[d];rfl) rfl (Zie (by decide) (by decide) (by decide)) (by rw[h]);exact⟨3,Yc _,Zd1 hI k2 s1 (Yar _) h⟩
theorem Zyk {V:S.Vw}{o d a b n:Int}{s:ByteArray}{w:Int}(h:I.xs[i]?=some ⟨4,⟨o,d,a,b,n⟩,s,w⟩)(hd:0<d)(r:d<=31):S.Go I V (I.adr i) 3 (V.set d (I.adr (i+1))) (I.lab s):=λ m hm=>by
 obtain⟨z,l0,l1⟩:toOf I.xs I.F 0 _=I.lab s/\0<=I.lab s/\I.lab s<=67108864:=Zp8 hI h0 h1 h rfl;have hsz:=Zx hI h;have y:=((Zak hI).2 i _ h).2.1 rfl;have k:=(Zga hI).2 i _ h;have hb:=Zib hI (i:=i+1) (by have:=hI.i1l;omega);have v:=Zmw hI i;have t:S.wordsAt I.xs I.F 0 i=wordsOf ⟨4,⟨o,d,a,b,n⟩,s,w⟩ (I.F.getD i 0) (I.adr i) (I.lab s):=by
  unfold S.wordsAt;rw[h]
  show wordsOf _ _ _ (toOf I.xs I.F 0 _)=_
  rw[z];rfl
 rcases(show I.F.getD i 0=1\/I.F.getD i 0=2 by omega) with hf|hf
 .rw[hf] at t hsz
  have g:S.wordsAt I.xs I.F 0 i=[wordOf ⟨32,d,0,0,I.lab s-I.adr i-1⟩]:=t;have f:I.adr (i+1)=I.adr i+1:=hsz;have hr:-1048576<=I.lab s-I.adr (i+1)/\I.lab s-I.adr (i+1)<=1048575:=Z4z rfl hf k;have hg:good ⟨32,d,0,0,I.lab s-I.adr i-1⟩=true:=Zlf (by omega) (by omega);have l:m.act ⟨32,d,0,0,I.lab s-I.adr i-1⟩=(m.put d (u32m (m.place+1)),u32m (u32m (m.place+1)+u32m (I.lab s-I.adr i-1)),0):=by
   unfold S.Mach.act;simp
  obtain⟨s1,p1⟩:=Zt hI hm h0 h1 (j:=0) (by rw[g];rfl) (by simp) hg (by rw[l]);have q:=Zid hI hm hd r s1 (by show 0<=d;omega) l;refine⟨1,by decide,?_⟩;have e:u32m (u32m (m.place+1)+u32m (I.lab s-I.adr i-1))=I.lab s:=by
   rw[p1];unfold u32m;omega
  have u:u32m (m.place+1)=I.adr (i+1):=by rw[p1,f];simp
  rw[e,u] at q;exact q
 .rw[hf] at t hsz
  have g:S.wordsAt I.xs I.F 0 i=[lui (I.lab s),ori (I.lab s),wordOf ⟨33,d,25,0,0⟩]:=t;have f:I.adr (i+1)=I.adr i+3:=hsz;obtain⟨k2,x⟩:=Zu3 hI h0 h1 (j:=0) (tq:=I.lab s) (by simpa using hm) l0 (by omega) (by rw[g];rfl) (by rw[g];rfl);have l:(m.steps_ 2).act ⟨33,d,25,0,0⟩=((m.steps_ 2).put d (u32m ((m.steps_ 2).place+1)),I.lab s,0):=by
   have e:u32m (I.lab s+u32m 0)=I.lab s:=by unfold u32m;omega
   unfold S.Mach.act;simp only[x,e];simp
  obtain⟨s1,p1⟩:=Zt hI k2 h0 h1 (j:=2) (by rw[g];rfl) rfl (Zie (by omega) (by decide) (by decide)) (by rw[l]);have q:=Zid hI k2 hd r s1 (by show 0<=d;omega) l;have u:u32m ((m.steps_ 2).place+1)=I.adr (i+1):=by rw[p1,f];omega
  rw[u] at q;exact⟨3,Yc _,q⟩
theorem Z16 {V:S.Vw}{o d a b n:Int}{s:ByteArray}(l:I.xs[i]?=some ⟨5,⟨o,d,a,b,n⟩,s,0⟩)(hd:0<d)(f:d<=31)(q:d≠25):S.Go I V (I.adr i) 2 (V.set d (I.lab s)) (I.adr (i+1)):=λ m hm=>by
 obtain⟨C,l0,l1⟩:toOf I.xs I.F 0 _=I.lab s/\0<=I.lab s/\I.lab s<=67108864:=Zp8 hI h0 h1 l rfl;have hsz:I.adr (i+1)=I.adr i+2:=Zx hI l;have g:S.wordsAt I.xs I.F 0 i=[wordOf ⟨23,d,0,0,I.lab s/65536⟩,wordOf ⟨17,d,d,0,I.lab s%65536⟩]:=by
  unfold S.wordsAt;rw[l]
  show wordsOf _ _ _ (toOf I.xs I.F 0 _)=_
  rw[C]
  show [wordOf ⟨23,d,0,0,(I.lab s+0)%4294967296/65536⟩,wordOf ⟨17,d,d,0,(I.lab s+0)%4294967296%65536⟩]=_
  have e:(I.lab s+0)%4294967296=I.lab s:=by omega
  rw[e]
 have r:good ⟨23,d,0,0,I.lab s/65536⟩=true:=Zmx (by omega) (by omega);have k:good ⟨17,d,d,0,I.lab s%65536⟩=true:=Zmy (by omega) (by omega) (by omega);have t:m.act ⟨23,d,0,0,I.lab s/65536⟩=(m.put d (I.lab s/65536*65536),u32m (m.place+1),0):=by
  have e:u32m (u32m (I.lab s/65536)*65536)=I.lab s/65536*65536:=by unfold u32m;omega
  unfold S.Mach.act;simp[e]
 obtain⟨s1,p1⟩:=Zt hI hm h0 h1 (j:=0) (by rw[g];rfl) (by simp) r (by rw[t]);have h:=Zid hI hm hd f s1 (by show 0<=d;omega) t;rw[p1] at h;have v:m.step.rd d=I.lab s/65536*65536:=by
  rw[h.reg d (by omega) f q]
  show(if d=d then _ else _)=_
  rw[if_pos rfl]
 have u:m.step.act ⟨17,d,d,0,I.lab s%65536⟩=(m.step.put d (I.lab s),u32m (m.step.place+1),0):=by
  have e:alu (like 17) (I.lab s/65536*65536) (u32m (I.lab s%65536))=I.lab s:=by
   have z:u32m (I.lab s%65536)=I.lab s%65536:=by unfold u32m;omega
   rw[z];exact Zu2 l0 (by omega)
  unfold S.Mach.act;simp only[v,e];rw[if_neg (by decide),if_pos (by decide)]
 obtain⟨y,p2⟩:=Zt hI h h0 h1 (j:=1) (by rw[g];rfl) (by omega) k (by rw[u]);have k2:=Zid hI h hd f y (by show 0<=d;omega) u;refine⟨2,Yc _,?_⟩;have x:u32m (m.step.place+1)=I.adr (i+1):=by rw[p2,hsz];omega
 rw[x] at k2;refine k2.ext (λ j _ _ _=>?_) (λ _ _ _=>rfl) rfl rfl
 show(if j=d then _ else if j=d then _ else _)=if j=d then _ else _
 split <;> rfl
theorem Zmz {V:S.Vw}{d a n:Int}{s:ByteArray}{w:Int}(v:I.xs[i]?=some ⟨3,⟨26,d,a,0,n⟩,s,w⟩)(q:0<=a/\a<=31/\a≠25) :
 S.Go I V (I.adr i) 4 V (if V.reg a=0 then I.lab s else I.adr (i+1)):=λ m hm=>by
 obtain⟨M,l0,l1⟩:toOf I.xs I.F 0 _=I.lab s/\0<=I.lab s/\I.lab s<=67108864:=Zp8 hI h0 h1 v rfl;have hsz:=Zx hI v;have L:=((Zak hI).2 i _ v).1 rfl;have r:=(Zga hI).2 i _ v;have hb:=Zib hI (i:=i+1) (by have:=hI.i1l;omega);have J:=Zmw hI i;have z:=hm.reg a q.1 q.2.1 q.2.2;have x:m.rd 0=0:=hm.ok.zero;have u:S.wordsAt I.xs I.F 0 i=wordsOf ⟨3,⟨26,d,a,0,n⟩,s,w⟩ (I.F.getD i 0) (I.adr i) (I.lab s):=by
  unfold S.wordsAt;rw[v]
  show wordsOf _ _ _ (toOf I.xs I.F 0 _)=_
  rw[M];rfl
 have t:∀l:S.Mach,l.rd a=V.reg a->l.rd 0=0->∀k:Int,(l.act ⟨26,0,a,0,k⟩=(l,if V.reg a=0 then u32m (u32m (l.place+1)+u32m k) else u32m (l.place+1),0)) /\
  (l.act ⟨27,0,a,0,k⟩=(l,if V.reg a=0 then u32m (l.place+1) else u32m (u32m (l.place+1)+u32m k),0)):=by
  intro l C D k
  constructor
  .unfold S.Mach.act goes
   simp only[C,D];by_cases c:V.reg a=0 <;> simp[c]
  .unfold S.Mach.act goes
   simp only[C,D];by_cases c:V.reg a=0 <;> simp[c]
 rcases(show I.F.getD i 0=1\/I.F.getD i 0=2\/I.F.getD i 0=3 by omega) with hf|hf|hf
 .rw[hf] at u hsz
  have b:S.wordsAt I.xs I.F 0 i=[wordOf ⟨26,0,a,0,I.lab s-I.adr i-1⟩]:=u;have f:I.adr (i+1)=I.adr i+1:=hsz;have K:-32768<=I.lab s-I.adr (i+1)/\I.lab s-I.adr (i+1)<=32767:=Z41 rfl hf r;have h:=(t m z x (I.lab s-I.adr i-1)).1;obtain⟨s1,p1⟩:=Zt hI hm h0 h1 (j:=0) (by rw[b];rfl) (by simp) (Zoz (.inl rfl) ⟨q.1,q.2.1⟩ (by decide) (by omega)) (by rw[h]);have g:=Zd1 hI hm s1 (Yar _) h;refine⟨1,by decide,?_⟩;have e:(if V.reg a=0 then u32m (u32m (m.place+1)+u32m (I.lab s-I.adr i-1)) else u32m (m.place+1))=if V.reg a=0 then I.lab s else I.adr (i+1):=by
   split
   .rw[p1];unfold u32m;omega
   .rw[p1,f];simp
  rw[e] at g;exact g
 .rw[hf] at u hsz
  have b:S.wordsAt I.xs I.F 0 i=[wordOf ⟨27,0,a,0,1⟩,wordOf ⟨32,0,0,0,I.lab s-I.adr i-2⟩]:=u;have f:I.adr (i+1)=I.adr i+2:=hsz;have K:-1048576<=I.lab s-I.adr (i+1)/\I.lab s-I.adr (i+1)<=1048575:=Z40 rfl hf r;have h:=(t m z x 1).2;obtain⟨s1,p1⟩:=Zt hI hm h0 h1 (j:=0) (by rw[b];rfl) (by simp) (Zoz (.inr rfl) ⟨q.1,q.2.1⟩ (by decide) (by omega)) (by rw[h]);have g:=Zd1 hI hm s1 (Yar _) h;by_cases c:V.reg a=0
  .rw[if_pos c] at g⊢
   rw[p1] at g;have o:m.step.act ⟨32,0,0,0,I.lab s-I.adr i-2⟩=(m.step,u32m (u32m (m.step.place+1)+u32m (I.lab s-I.adr i-2)),0):=by
    unfold S.Mach.act S.Mach.put;simp
   obtain⟨y,p2⟩:=Zt hI g h0 h1 (j:=1) (by rw[b];rfl) (by simp) (Zlf (by decide) (by omega)) (by rw[o]);have k2:=Zd1 hI g y (Yar _) o;refine⟨2,by decide,?_⟩;have e:u32m (u32m (m.step.place+1)+u32m (I.lab s-I.adr i-2))=I.lab s:=by
    rw[p2];unfold u32m;omega
   rw[e] at k2;exact k2
  .rw[if_neg c] at g⊢
   refine⟨1,by decide,?_⟩;have e:u32m (u32m (m.place+1)+u32m 1)=I.adr (i+1):=by
    rw[p1,f];unfold u32m;omega
   rw[e] at g;exact g
 .rw[hf] at u hsz
  have b:S.wordsAt I.xs I.F 0 i=[wordOf ⟨27,0,a,0,3⟩,lui (I.lab s),ori (I.lab s),wordOf ⟨33,0,25,0,0⟩]:=u;have f:I.adr (i+1)=I.adr i+4:=hsz;have h:=(t m z x 3).2;obtain⟨s1,p1⟩:=Zt hI hm h0 h1 (j:=0) (by rw[b];rfl) (by simp) (Zoz (.inr rfl) ⟨q.1,q.2.1⟩ (by decide) (by omega)) (by rw[h]);have g:=Zd1 hI hm s1 (Yar _) h;by_cases c:V.reg a=0
  .rw[if_pos c] at g⊢
   rw[p1] at g;obtain⟨k2,H⟩:=Zu3 hI h0 h1 (m:=m.step) (j:=1) (tq:=I.lab s) (by simpa using g) l0 (by omega) (by rw[b];rfl) (by rw[b];rfl);have o:(m.step.steps_ 2).act ⟨33,0,25,0,0⟩=(m.step.steps_ 2,I.lab s,0):=by
    have e:u32m (I.lab s+u32m 0)=I.lab s:=by unfold u32m;omega
    unfold S.Mach.act S.Mach.put;simp only[H,e];simp
   obtain⟨y,p2⟩:=Zt hI k2 h0 h1 (j:=3) (by rw[b];rfl) rfl (Zie (by decide) (by decide) (by decide)) (by rw[o]);have E:=Zd1 hI k2 y (Yar _) o;refine⟨4,Yc _,?_⟩;have G:m.steps_ 4=(m.step.steps_ 2).step:=by
    show m.steps_ (1+3)=_
    rw[Za4];rfl
   rw[G];exact E
  .rw[if_neg c] at g⊢
   refine⟨1,by decide,?_⟩;have e:u32m (u32m (m.place+1)+u32m 3)=I.adr (i+1):=by
    rw[p1,f];unfold u32m;omega
   rw[e] at g;exact g
end
end
theorem Zyl (s:ByteArray)(h:0<s.size):ownB s=(s[0]==46):=by
 unfold ownB;have e:s.data.toList.head?=some s[0]:=by
  rw[List.head?_eq_getElem?,Ye (by simpa using h)];rfl
 rw[e];rfl
theorem Zu4 (s:ByteArray)(h:s.size=0):ownB s=false:=by
 unfold ownB;have e:s.data.toList=[]:=Y4 (by simpa using h);rw[e];rfl
theorem Z17 (s:ByteArray)(h:0<s.size):((s.extract 0 1).toList==[46])=ownB s:=by
 rw[Zyl s h];have e:(s.extract 0 1).toList=[s[0]]:=by
  rw[ByteArray.toList_eq,ByteArray.data_extract]
  apply List.ext_getElem
  .simp;omega
  .intro i h1 h2
   simp at h2;subst h2;simp;rfl
 rw[e];simp
theorem Zjp (s:ByteArray)(w:World)(a:s.size<=maxLen) :
 Calls prog 194 #[.string s,.string ⟨#[46]⟩] w λ e w'=>e=.returned (.bool (ownB s))/\w=w':=by
 unfold maxLen at a;by_cases h:0<s.size
 .go_enter func194,ntmps194
  go_wp2_with fail
  go_ret
  exact⟨Zf (Z17 s h),rfl⟩
 .go_enter func194,ntmps194
  go_wp2_with fail
  go_ret
  exact⟨Zf (Zu4 s (by omega)).symm,rfl⟩
theorem Zaa (s:ByteArray)(w:World)(a:s.size<=maxLen) :
 Calls prog 170 #[.string s,.string ⟨#[46]⟩] w λ e w'=>e=.returned (.bool (ownB s))/\w=w':=by
 go_enter func170,ntmps170
 go_wp2_with fail
 refine(Zjp _ _ a).mono ?_;rintro e w' ⟨rfl,rfl⟩;go_wp2_with fail
 go_ret
 exact⟨rfl,rfl⟩
theorem Zru (n s:ByteArray)(w:World)(a:s.size<=maxLen)(b:n.size+s.size<=9223372036854775807) :
 Calls prog 174 #[.string n,.string s] w λ e w'=>e=.returned (.string (owned n s))/\w=w':=by
 cases ho:ownB s
 .have H:=Lib.hid ho
  clear ho;go_enter func174,ntmps174
  go_wp2_with fail
  refine(Zaa _ _ a).mono ?_;rintro e w' ⟨rfl,rfl⟩;rw[H.out];go_wp2_with fail
  go_ret
  exact⟨by simp[owned,H.out],rfl⟩
 .have H:=Lib.hid ho
  clear ho;go_enter func174,ntmps174
  go_wp2_with fail
  refine(Zaa _ _ a).mono ?_;rintro e w' ⟨rfl,rfl⟩;rw[H.out];go_wp2_with fail
  go_ret
  exact⟨by simp[owned,H.out],rfl⟩
theorem Zhb (k op d a b imm:Int)(lab:ByteArray)(wd form:Int)(w:World)(g:k=3->1<=form/\form<=3)(f:k=4->1<=form/\form<=2)(j:0<=wd)(l:wd<=4294967295) :
 Calls prog 215 #[.agg #[.int .i64 k,.int .i64 op,.int .i64 d,.int .i64 a,.int .i64 b,.int .i64 imm,.string lab,.int .u32 wd],.int .i64 form] w
  λ e w'=>e=.returned (.int .i64 (S.size ⟨k,⟨op,d,a,b,imm⟩,lab,wd⟩ form))/\Below w.heap.size w w':=by
 by_cases c3:k=3
 .obtain⟨f1,f2⟩:=g c3
  clear g f;subst c3;have hf:form=1\/form=2\/form=3:=by omega
  clear f1 f2;have ix:∀w:World,(Instr.index 255 (.agg #[.int .i64 0,.int .i64 1,.int .i64 2,.int .i64 4]) (.int .i64 1)).run prog w=.ok (.int .i64 1) w:=λ _=>by kernel_rfl
  have h:∀w:World,(Instr.index 255 (.agg #[.int .i64 0,.int .i64 1,.int .i64 2,.int .i64 4]) (.int .i64 2)).run prog w=.ok (.int .i64 2) w:=λ _=>by kernel_rfl
  have iz:∀w:World,(Instr.index 255 (.agg #[.int .i64 0,.int .i64 1,.int .i64 2,.int .i64 4]) (.int .i64 3)).run prog w=.ok (.int .i64 4) w:=λ _=>by kernel_rfl
  rcases hf with rfl|rfl|rfl
  all_goals
   go_enter func215,ntmps215
   go_wp2
   go_ret
   exact⟨Zu (by simp[S.size]),(Yj _ _).alloc (Yc _) _⟩
 .by_cases c4:k=4
  .obtain⟨f1,f2⟩:=f c4
   clear g f c3;subst c4;have hf:form=1\/form=2:=by omega
   clear f1 f2;have ix:∀w:World,(Instr.index 256 (.agg #[.int .i64 0,.int .i64 1,.int .i64 3]) (.int .i64 1)).run prog w=.ok (.int .i64 1) w:=λ _=>by kernel_rfl
   have h:∀w:World,(Instr.index 256 (.agg #[.int .i64 0,.int .i64 1,.int .i64 3]) (.int .i64 2)).run prog w=.ok (.int .i64 3) w:=λ _=>by kernel_rfl
   rcases hf with rfl|rfl
   all_goals
    go_enter func215,ntmps215
    go_wp2
    go_ret
    exact⟨Zu (by simp[S.size]),(Yj _ _).alloc (Yc _) _⟩
  .clear g f
   have d3:(k==3)=false:=by simp[c3]
   have d4:(k==4)=false:=by simp[c4]
   go_enter func215,ntmps215
   go_wp2
   all_goals
    go_ret
    exact⟨Zu (by simp_all[S.size]),(Yj _ _).alloc (Yc _) _⟩
theorem Zm0 (k op d a b imm:Int)(lab:ByteArray)(wd:Int)(w:World) :
 Calls prog 196 #[.agg #[.int .i64 k,.int .i64 op,.int .i64 d,.int .i64 a,.int .i64 b,.int .i64 imm,.string lab,.int .u32 wd]] w
  λ e w'=>e=.returned (.bool (named ⟨k,⟨op,d,a,b,imm⟩,lab,wd⟩))/\Below w.heap.size w w':=by
 go_enter func196,ntmps196
 go_wp2
 all_goals
  go_ret
  exact⟨Zf (by simp only[named];grind),(Yj _ _).alloc (Yc _) _⟩
theorem Zm1 (k op d a b imm:Int)(lab:ByteArray)(wd:Int)(w:World) :
 Calls prog 195 #[.agg #[.int .i64 k,.int .i64 op,.int .i64 d,.int .i64 a,.int .i64 b,.int .i64 imm,.string lab,.int .u32 wd]] w
  λ e w'=>e=.returned (.int .i64 (chkItem ⟨k,⟨op,d,a,b,imm⟩,lab,wd⟩))/\Below w.heap.size w w':=by
 by_cases c3:k=3
 .subst c3
  go_enter func195,ntmps195
  go_wp2
  refine Zq (by kernel_rfl) (by kernel_rfl) ?_;have hE:=Zk (w.alloc (.cells #[.int .i64 3,.int .i64 op,.int .i64 d,.int .i64 a,.int .i64 b,.int .i64 imm,.string lab,.int .u32 wd] 79))
  repeat (first
   | go_big_quiet_step ((first
    | (go_at_call 201;exact Zb0 (asm_Turned _ _))
    | (go_at_call 188;exact Zdm (Zbz _ _ _ _ _ _)))))
  refine wpQuiet_nil ?_;rintro _ ⟨⟨w1,f⟩,rfl⟩
  go_wp2
  go_ret
  refine⟨Zu ?_,((Yj _ _).alloc (Yc _) _).trans (f.mono (by simp))⟩;simp only[Zq4];simp[chkItem]
 .have d3:(k==3)=false:=by simp[c3]
  go_enter func195,ntmps195
  go_wp2_with (go_at_call 188;refine(Zbz _ _ _ _ _ _).mono ?_;rintro e w' ⟨rfl,hb⟩)
  all_goals
   go_ret
   first
    | exact⟨Zu (by first | (simp only[Zxj];grind [chkItem,chk]) | grind [chkItem,chk]),((Yj _ _).alloc (Yc _) _).trans (Below.mono ‹_› (by simp))⟩
    | exact⟨Zu (by grind [chkItem,chk]),(Yj _ _).alloc (Yc _) _⟩
theorem Zi {P:Program}{o:Oper}{a:Act}{K:Act->World->Prop}{Q:Exit->Act->World->Prop}{w:World}(s x:Operand)(t:TypeId)
 (W:o.op=.call { callee:=.builtin .append,args:=#[s,x],argTypes:=#[t,t] })
 (base:Nat) (e:TypeId) {z:Value} {size bytes:Nat} (C:(P.info? e).map (λ i=>(i.zero,i.size,i.bytes))=some (some z,size,bytes)) (L:P.underlying t=some (.slice e))
 (H:z.cells.size=size) (hsz:0<size) (v:Value) (n:Nat) (xs:List Value) (hs:a.eval s=v) (f:w.ownsRow base e size v n xs)
 (B:Nat) (A:Option Addr) (m c:Nat) (d:List Value) (X:a.eval x=.slice A m c) (hm:d.length=m*size) (hA:A=none->m=0) (hr:Reads w B A d) (h1:∀u∈d,u.oneCell'=true)
 (J:n+m<=maxLen) (r:(n+m)*bytes<=140737488355328) (l:base<=w.heap.size)
 (h:∀g w',w'.ownsRow base e size g (n+m) (xs++d)->w.grownBy w' v.ownBlock->Below base w w'->(g.ownBlock=v.ownBlock\/g.ownBlock=some w.heap.size)->K (a.put o.dst g) w') :
 o.wp P a w K Q:=by
 obtain⟨i,hi,hz,y,G⟩:=info_parts C;have D:∃g w',(Builtin.append_ #[t,t] o.type #[v,.slice A m c]).run P w=.ok g w'/\w'.ownsRow base e size g (n+m) (xs++d)/\w.grownBy w' v.ownBlock/\(g.ownBlock=v.ownBlock\/g.ownBlock=some w.heap.size):=by
  rcases A with _|M
  .have h0:=hA rfl
   subst h0;have hn:d=[]:=Y4 (by rw[hm];simp);subst hn;exact⟨v,w,Zb4 w base t _ e i size L hi v n xs f c,by simpa using f,World.grownBy.refl w _,.inl rfl⟩
  .have hcells:∀j u,d[j]?=some u->w.cell? (M.add j)=some u:=by
    intro j u N;have Y:=(Yg.1 N).1;obtain⟨b,off,V,U,T⟩:=hr (by omega)
    cases V
    rw[Addr.add_mk];exact T j u N
   obtain⟨g,w',q,F,E,_,O⟩:=run_append_own_at (P:=P) w base t o.type e i z size bytes L hi hz y G H hsz v n xs f M m c d hm hcells h1 J r l;exact⟨g,w',q,F,E,O⟩
 obtain⟨g,w',q,F,E,R⟩:=D;unfold Oper.wp execOp;simp only[W,resolve,invoke,builtin,Sem.run_bind,Sem.run_pure,Result.andThen_ok,List.map_toArray,List.map_cons,List.map_nil,hs,X,q];exact h g w' F E ((Yj _ _).grown E l (λ k Z=>(f.lt k Z).1)) R
theorem Zs {P:Program}{ops:Array Oper}{rest:List Oper}{o:Oper}{a:Act}{Q:Exit->Act->World->Prop}{w:World}(l:o.guard=none)(s x:Operand)(t:TypeId)
 (G:o.op=.call { callee:=.builtin .append,args:=#[s,x],argTypes:=#[t,t] })
 (base:Nat) (e:TypeId) {z:Value} {size bytes:Nat} (g:(P.info? e).map (λ i=>(i.zero,i.size,i.bytes))=some (some z,size,bytes)) (E:P.underlying t=some (.slice e))
 (q:z.cells.size=size) (hsz:0<size) (v:Value) (n:Nat) (xs:List Value) (L:a.eval s=v) (k:w.ownsRow base e size v n xs)
 (B:Nat) (A:Option Addr) (m c:Nat) (b:List Value) (H:a.eval x=.slice A m c) (hm:b.length=m*size) (hA:A=none->m=0) (K:Reads w B A b) (h1:∀u∈b,u.oneCell'=true)
 (r:n+m<=maxLen) (d:(n+m)*bytes<=140737488355328) (f:base<=w.heap.size)
 (h:∀j w',w'.ownsRow base e size j (n+m) (xs++b)->w.grownBy w' v.ownBlock->Below base w w'->(j.ownBlock=v.ownBlock\/j.ownBlock=some w.heap.size)->wpList P ops Q rest (a.put o.dst j) w') :
 wpList P ops Q (o::rest) a w :=
 wpList_plain l λ _ D=>Zi s x t G base e g E q hsz v n xs L k B A m c b H hm hA K h1 r d f λ j w' F J C y=>D _ _ (h j w' F J C y)
section
structure Only (F:Nat->Prop)(w w':World):Prop where
 os:w'.os=w.os
 tape:w'.tape=w.tape
 output:w'.output=w.output
 size:w.heap.size<=w'.heap.size
 block:∀k,k<w.heap.size->¬F k->w'.heap[k]?=w.heap[k]?
theorem Only.refl (F:Nat->Prop)(w:World):Only F w w:=⟨rfl,rfl,rfl,Yc _,λ _ _ _=>rfl⟩
theorem Only.trans {F G:Nat->Prop}{a b c:World}(h:Only F a b)(k:Only G b c)(e:∀i,i<a.heap.size->G i->F i):Only F a c :=
 ⟨k.os.trans h.os,k.tape.trans h.tape,k.output.trans h.output,Nat.le_trans h.size k.size,λ i hi d=>(k.block i (Ys hi h.size) (λ hg=>d (e i hi hg))).trans (h.block i hi d)⟩
theorem Only.of_below {F:Nat->Prop}{w w':World}(h:Below w.heap.size w w'):Only F w w':=⟨h.os,h.tape,h.output,h.size,λ k a _=>h.block k a⟩
theorem Only.setCell {F:Nat->Prop}(w:World){p:Addr}(hp:F p.block)(u:Value):Only F w (w.setCell p u) :=
 ⟨rfl,rfl,rfl,by simp[Ybk],λ k _ a=>Yal _ _ _ _ (λ e=>a (e ▸ hp))⟩
theorem Only.of_grown {F:Nat->Prop}{w w':World}{row:Option Nat}(hg:w.grownBy w' row)(a:∀k,row=some k->F k):Only F w w' :=
 ⟨hg.os,hg.tape,hg.output,hg.size,λ k b d=>hg.block k b (λ e=>d (a k e.symm))⟩
theorem Only.below {F:Nat->Prop}{w w':World}{B:Nat}(h:Only F w w')(hB:B<=w.heap.size)(hF:∀k,F k->B<=k):Below B w w' :=
 ⟨h.os,h.tape,h.output,h.size,λ k hk=>h.block k (by omega) (λ hf=>by have:=hF k hf;omega)⟩
theorem Only.weaken {F G:Nat->Prop}{w w':World}(h:Only F w w')(a:∀k,k<w.heap.size->F k->G k):Only G w w' :=
 ⟨h.os,h.tape,h.output,h.size,λ k b d=>h.block k b (λ hf=>d (a k b hf))⟩
theorem Zae {w w':World}{base:Nat}{e:TypeId}{size:Nat}{v:Value}{n:Nat}{xs:List Value}(h:w.ownsRow base e size v n xs)(l:∀k,v.ownBlock=some k->w'.heap[k]?=w.heap[k]?):w'.ownsRow base e size v n xs:=by
 refine⟨h.1,?_⟩;rcases h.2 with f|⟨g,cap,a,rfl,j,d,b⟩
 .exact .inl f
 .exact .inr ⟨g,cap,a,rfl,j,by rw[l g rfl];exact d,b⟩
def Zer (m:S.Mach)(vm:Value)(A:Option Addr)(l c rd:Nat)(vo:Value):List Value :=
 m.reg.map (Yu .u32)++[vm,.int .u32 m.place,.slice A l c,.int .i64 rd,vo,.int .i64 m.state,.int .u32 m.code,.int .i64 m.trap,.int .i64 m.steps]
structure MAt (w:World)(B p:Nat)(vm vo:Value)(A:Option Addr)(c:Nat)(inp:List Int)(rd:Nat)(m:S.Mach):Prop where
 ok:m.Ok
 low:B<=p
 blk:∃cs,w.heap[p]?=some (.cells cs 55 (0,0))/\cs.toList=Zer m vm A inp.length c rd vo
 mem:w.ownsRow B 31 1 vm m.mem.length (m.mem.map (Yu .u32))
 out:w.ownsRow B 5 1 vo m.out.length (m.out.map (Yu .u8))
 rin:Reads w w.heap.size A (inp.map (Yu .u8))
 left:m.input=inp.drop rd
 rdle:rd<=inp.length
 inl:inp.length<=4611686018427387904
 low0:m.mem.length<=4611686018427387904
 la:∀b o s,A=some ⟨b,o,s⟩->b<w.heap.size
 d1:∀b o s,A=some ⟨b,o,s⟩->b≠p/\vm.ownBlock≠some b/\vo.ownBlock≠some b
 d2:vm.ownBlock≠some p/\vo.ownBlock≠some p
def Zal (p:Nat)(vm vo:Value)(k:Nat):Prop:=k=p\/vm.ownBlock=some k\/vo.ownBlock=some k
theorem Reads.same {w w':World}{A:Option Addr}{xs:List Value}(h:Reads w w.heap.size A xs)(hz:w.heap.size<=w'.heap.size)(j:∀b o s,A=some ⟨b,o,s⟩->w'.heap[b]?=w.heap[b]?):Reads w' w'.heap.size A xs:=λ hp=>by
 obtain⟨b,off,e,f,d⟩:=h hp;exact⟨b,off,e,by omega,λ i x g=>(World.cell?_of_block (w:=w) (a:=⟨b,off+i,none⟩) (j b off none e)).trans (d i x g)⟩
section
variable {w w':World}{B p:Nat}{vm vo:Value}{A:Option Addr}{c:Nat}{inp:List Int}{rd:Nat}{m:S.Mach}
theorem MAt.cell (h:MAt w B p vm vo A c inp rd m)(k:Nat):w.cell? ⟨p,k,none⟩=(Zer m vm A inp.length c rd vo)[k]?:=by
 obtain⟨cs,h1,a⟩:=h.blk;rw[cell_of_row w p k cs _ (0,0) h1,<- a];simp
theorem MAt.fz (h:MAt w B p vm vo A c inp rd m)(k:Nat):w.frozen? ⟨p,k,none⟩=false:=by
 obtain⟨cs,h1,h2⟩:=h.blk;exact frozen_of_row w p k cs _ h1
theorem MAt.lt (h:MAt w B p vm vo A c inp rd m):p<w.heap.size:=by
 obtain⟨cs,h1,h2⟩:=h.blk;exact(Y3.1 h1).1
theorem Zrv (h:m.Ok)(l:Nat){k:Nat}(a:k<32):(Zer m vm A l c rd vo)[k]?=some (.int .u32 (m.reg.getD k 0)):=by
 unfold Zer;rw[Yn (by simp[h.regs];exact a),Yaf];have:k<m.reg.length:=by rw[h.regs];exact a
 simp[this]
theorem Zu5 (h:m.Ok)(l:Nat)(k:Nat):(Zer m vm A l c rd vo)[32+k]?=([vm,.int .u32 m.place,.slice A l c,.int .i64 rd,vo,.int .i64 m.state,.int .u32 m.code,.int .i64 m.trap,.int .i64 m.steps]:List Value)[k]?:=by
 unfold Zer;rw[Yo (by simp[h.regs])];simp[h.regs]
theorem MAt.reg (h:MAt w B p vm vo A c inp rd m){k:Nat}(a:k<32):w.cell? ⟨p,k,none⟩=some (.int .u32 (m.reg.getD k 0)):=(h.cell k).trans (Zrv h.ok _ a)
theorem MAt.hi (h:MAt w B p vm vo A c inp rd m)(k:Nat):w.cell? ⟨p,32+k,none⟩=([vm,.int .u32 m.place,.slice A inp.length c,.int .i64 rd,vo,.int .i64 m.state,.int .u32 m.code,.int .i64 m.trap,.int .i64 m.steps]:List Value)[k]?:=(h.cell _).trans (Zu5 h.ok _ k)
theorem MAt.cells (h:MAt w B p vm vo A c inp rd m):w.cell? ⟨p,32,none⟩=some vm/\w.cell? ⟨p,33,none⟩=some (.int .u32 m.place)/\w.cell? ⟨p,34,none⟩=some (.slice A inp.length c)/\w.cell? ⟨p,35,none⟩=some (.int .i64 rd) /\
 w.cell? ⟨p,36,none⟩=some vo/\w.cell? ⟨p,37,none⟩=some (.int .i64 m.state)/\w.cell? ⟨p,38,none⟩=some (.int .u32 m.code)/\w.cell? ⟨p,39,none⟩=some (.int .i64 m.trap)/\w.cell? ⟨p,40,none⟩=some (.int .i64 m.steps) :=
 ⟨h.hi 0,h.hi 1,h.hi 2,h.hi 3,h.hi 4,h.hi 5,h.hi 6,h.hi 7,h.hi 8⟩
theorem MAt.memv (h:MAt w B p vm vo A c inp rd m):∃g cap,vm=.slice (some ⟨g,0,none⟩) m.mem.length cap/\g<w.heap.size/\(∀i,i<m.mem.length->w.cell? ⟨g,i,none⟩=some (.int .u32 (m.mem.getD i 0)))/\∀i,w.frozen? ⟨g,i,none⟩=false:=by
 have hm:=h.ok.mem;rcases h.mem.2 with⟨_,h2⟩|⟨g,cap,a,rfl,h3,b,h5,h6,h7,h8⟩
 .omega
 .refine⟨g,cap,rfl,(Y3.1 b).1,λ i hi=>?_,λ i=>h.mem.frozenAt i⟩
  rw[h.mem.cellAt i (by omega),Yaf];simp[hi]
theorem MAt.keep (h:MAt w B p vm vo A c inp rd m)(f:w.heap.size<=w'.heap.size)(a:∀k,(Zal p vm vo k\/∃o s,A=some ⟨k,o,s⟩)->w'.heap[k]?=w.heap[k]?):MAt w' B p vm vo A c inp rd m:=by
 refine⟨h.ok,h.low,?_,?_,?_,?_,h.left,h.rdle,h.inl,h.low0,λ b o s e=>Ys (h.la b o s e) f,h.d1,h.d2⟩
 .obtain⟨cs,h1,h2⟩:=h.blk
  exact⟨cs,by rw[a p (.inl (.inl rfl))];exact h1,h2⟩
 .exact Zae h.mem λ k d=>a k (.inl (.inr (.inl d)))
 .exact Zae h.out λ k d=>a k (.inl (.inr (.inr d)))
 .exact h.rin.same f λ b o s e=>a b (.inr ⟨o,s,e⟩)
theorem MAt.foot_lt (h:MAt w B p vm vo A c inp rd m){k:Nat}(a:Zal p vm vo k):B<=k/\k<w.heap.size:=by
 rcases a with rfl|a|a
 .exact⟨h.low,h.lt⟩
 .exact h.mem.lt k a
 .exact h.out.lt k a
theorem MAt.below (h:MAt w B p vm vo A c inp rd m)(b:Below w.heap.size w w'):MAt w' B p vm vo A c inp rd m:=by
 refine h.keep b.size λ k a=>b.block k ?_
 rcases a with a|⟨o,s,e⟩
 .exact(h.foot_lt a).2
 .exact h.la k o s e
theorem Zo0 (h:MAt w B p vm vo A c inp rd m):vm.ownBlock=none\/vm.ownBlock≠vo.ownBlock:=Zow h.mem h.out (by decide)
theorem MAt.mem_ne (h:MAt w B p vm vo A c inp rd m){k:Nat}(a:vm.ownBlock=some k):k≠p/\vo.ownBlock≠some k:=by
 refine⟨λ e=>h.d2.1 (e ▸ a),λ e=>?_⟩;rcases Zo0 h with h1|h1
 .rw[h1] at a;cases a
 .exact h1 (a.trans e.symm)
theorem MAt.stored (h:MAt w B p vm vo A c inp rd m)(k:Nat)(u:Value){g:S.Mach}{d:Nat}(q:g.Ok)(f:g.mem=m.mem)(l:g.out=m.out)(v:g.input=inp.drop d)(t:d<=inp.length)
 (r:Zer g vm A inp.length c d vo=(Zer m vm A inp.length c rd vo).set k u):MAt (w.setCell ⟨p,k,none⟩ u) B p vm vo A c inp d g:=by
 have a:∀j,j≠p->(w.setCell ⟨p,k,none⟩ u).heap[j]?=w.heap[j]?:=λ j n=>Yal _ _ _ _ n
 refine⟨q,h.low,?_,?_,?_,?_,v,t,h.inl,by rw[f];exact h.low0,λ b o s e=>by have:=h.la b o s e;simpa[Ybk] using this,h.d1,h.d2⟩
 .obtain⟨cs,h1,h2⟩:=h.blk
  refine⟨cs.setIfInBounds k u,heap_setCell_same w p k cs _ u h1,?_⟩;rw[Yb1,h2,r]
 .rw[f]
  exact Zae h.mem λ j n=>a j λ e=>h.d2.1 (e ▸ n)
 .rw[l]
  exact Zae h.out λ j n=>a j λ e=>h.d2.2 (e ▸ n)
 .exact h.rin.same (by simp[Ybk]) λ b o s e=>a b (h.d1 b o s e).1
end
end
section
section
variable {w w':World}{B p:Nat}{vm vo:Value}{A:Option Addr}{c:Nat}{inp:List Int}{rd:Nat}{m:S.Mach}
theorem MAt.drewN (h:MAt w B p vm vo A c inp rd m)(n:Nat):MAt (w.drewN n) B p vm vo A c inp rd m:=h.keep (Yc _) λ _ _=>rfl
theorem MAt.drew (h:MAt w B p vm vo A c inp rd m):MAt w.drew B p vm vo A c inp rd m:=h.keep (Yc _) λ _ _=>rfl
theorem Only.drew {F:Nat->Prop}(w:World):Only F w w.drew:=⟨rfl,rfl,rfl,Yc _,λ _ _ _=>rfl⟩
theorem Only.drewN {F:Nat->Prop}(w:World)(n:Nat):Only F w (w.drewN n):=⟨rfl,rfl,rfl,Yc _,λ _ _ _=>rfl⟩
theorem Zli {l:List Int}{i j:Nat}{v:Int}:(l.set i v).getD j 0=if i=j/\j<l.length then v else l.getD j 0:=by
 simp only[Yh,List.getElem?_set];by_cases h:i=j
 .subst h
  by_cases a:i<l.length
  .simp[a]
  .simp[a]
 .simp[h]
theorem Z42 (h:m.Ok){d v:Int}(hd:0<=d)(a:0<=v/\v<=4294967295):(m.put d v).Ok:=by
 unfold S.Mach.put;by_cases e:d=0
 .rw[if_pos e];exact h
 .rw[if_neg e]
  refine⟨by simpa using h.regs,λ i=>?_,?_,h.mem,h.memw,h.place0,h.place1,h.inp,h.outp,h.code0,h.code1⟩
  .show 0<=(m.reg.set d.toNat v).getD i 0/\(m.reg.set d.toNat v).getD i 0<=4294967295
   rw[Zli]
   split
   .exact a
   .exact h.word i
  .show(m.reg.set d.toNat v).getD 0 0=0
   rw[Zli,if_neg (by omega)];exact h.zero
theorem MAt.put (h:MAt w B p vm vo A c inp rd m){d v:Int}(h0:0<d)(h1:d<32)(b:0<=v/\v<=4294967295):MAt (w.setCell ⟨p,d.toNat,none⟩ (.int .u32 v)) B p vm vo A c inp rd (m.put d v):=by
 have a:=Z42 h.ok (d:=d) (by omega) b;have e:m.put d v={ m with reg:=m.reg.set d.toNat v }:=by unfold S.Mach.put;rw[if_neg (by omega)]
 rw[e] at a⊢;refine h.stored d.toNat _ a rfl rfl h.left h.rdle ?_;unfold Zer;rw[List.set_append_left _ _ (by simp[h.ok.regs];omega),List.map_set]
theorem Z43 (l:List Int)(a:l.length=32)(k:Nat)(t:List Value)(u:Value):(l.map (Yu .u32)++t).set (32+k) u=l.map (Yu .u32)++t.set k u:=by
 rw[List.set_append_right _ _ (by simp[a])];simp[a]
theorem Z0o (h:m.Ok)(l k:Nat)(u:Value):m.reg.map (Yu .u32)++([vm,.int .u32 m.place,.slice A l c,.int .i64 rd,vo,.int .i64 m.state,.int .u32 m.code,.int .i64 m.trap,.int .i64 m.steps]:List Value).set k u=(Zer m vm A l c rd vo).set (32+k) u :=
 (Z43 m.reg h.regs k _ u).symm
theorem MAt.fell (h:MAt w B p vm vo A c inp rd m)(t:Int):MAt ((w.setCell ⟨p,37,none⟩ (.int .i64 2)).setCell ⟨p,39,none⟩ (.int .i64 t)) B p vm vo A c inp rd (m.fell t):=by
 have a:({ m with state:=2 }:S.Mach).Ok:=⟨h.ok.regs,h.ok.word,h.ok.zero,h.ok.mem,h.ok.memw,h.ok.place0,h.ok.place1,h.ok.inp,h.ok.outp,h.ok.code0,h.ok.code1⟩
 have h1:MAt (w.setCell ⟨p,37,none⟩ (.int .i64 2)) B p vm vo A c inp rd { m with state:=2 }:=h.stored 37 _ a rfl rfl h.left h.rdle (Z0o h.ok _ 5 _);exact h1.stored 39 _ ⟨h.ok.regs,h.ok.word,h.ok.zero,h.ok.mem,h.ok.memw,h.ok.place0,h.ok.place1,h.ok.inp,h.ok.outp,h.ok.code0,h.ok.code1⟩ rfl rfl h.left h.rdle (Z0o a _ 7 _)
theorem MAt.halted (h:MAt w B p vm vo A c inp rd m){a:Int}(d:0<=a/\a<=4294967295):MAt ((w.setCell ⟨p,37,none⟩ (.int .i64 1)).setCell ⟨p,38,none⟩ (.int .u32 a)) B p vm vo A c inp rd { m with state:=1,code:=a }:=by
 have b:({ m with state:=1 }:S.Mach).Ok:=⟨h.ok.regs,h.ok.word,h.ok.zero,h.ok.mem,h.ok.memw,h.ok.place0,h.ok.place1,h.ok.inp,h.ok.outp,h.ok.code0,h.ok.code1⟩
 have h1:MAt (w.setCell ⟨p,37,none⟩ (.int .i64 1)) B p vm vo A c inp rd { m with state:=1 }:=h.stored 37 _ b rfl rfl h.left h.rdle (Z0o h.ok _ 5 _);exact h1.stored 38 _ ⟨h.ok.regs,h.ok.word,h.ok.zero,h.ok.mem,h.ok.memw,h.ok.place0,h.ok.place1,h.ok.inp,h.ok.outp,d.1,d.2⟩ rfl rfl h.left h.rdle (Z0o b _ 6 _)
theorem MAt.went (h:MAt w B p vm vo A c inp rd m){tq:Int}(a:0<=tq/\tq<=4294967295):MAt (w.setCell ⟨p,33,none⟩ (.int .u32 tq)) B p vm vo A c inp rd { m with place:=tq } :=
 h.stored 33 _ ⟨h.ok.regs,h.ok.word,h.ok.zero,h.ok.mem,h.ok.memw,a.1,a.2,h.ok.inp,h.ok.outp,h.ok.code0,h.ok.code1⟩ rfl rfl h.left h.rdle (Z0o h.ok _ 1 _)
theorem MAt.stepped (h:MAt w B p vm vo A c inp rd m)(n:Int):MAt (w.setCell ⟨p,40,none⟩ (.int .i64 n)) B p vm vo A c inp rd { m with steps:=n } :=
 h.stored 40 _ ⟨h.ok.regs,h.ok.word,h.ok.zero,h.ok.mem,h.ok.memw,h.ok.place0,h.ok.place1,h.ok.inp,h.ok.outp,h.ok.code0,h.ok.code1⟩ rfl rfl h.left h.rdle (Z0o h.ok _ 8 _)
theorem MAt.readOn (h:MAt w B p vm vo A c inp rd m){x:Int}{r:List Int}(d:m.input=x::r):MAt (w.setCell ⟨p,35,none⟩ (.int .i64 ((rd:Int)+1))) B p vm vo A c inp (rd+1) { m with input:=r }:=by
 have b:=h.left;rw[d] at b;have a:rd<inp.length:=by
  refine Nat.lt_of_not_le λ e=>?_
  rw[List.drop_eq_nil_of_le e] at b
  cases b
 rw[List.drop_eq_getElem_cons a] at b;refine h.stored 35 _ ⟨h.ok.regs,h.ok.word,h.ok.zero,h.ok.mem,h.ok.memw,h.ok.place0,h.ok.place1,λ y f=>h.ok.inp y (by rw[d];exact Y0 _ f),h.ok.outp,h.ok.code0,h.ok.code1⟩ rfl rfl (List.cons.inj b).2 a ?_;exact Z0o h.ok _ 3 _
theorem MAt.sw (h:MAt w B p vm vo A c inp rd m){g cap i:Nat}(t:vm=.slice (some ⟨g,0,none⟩) m.mem.length cap){b:Int}(r:0<=b/\b<=4294967295)(hi:i<m.mem.length) :
 MAt (w.setCell ⟨g,i,none⟩ (.int .u32 b)) B p vm vo A c inp rd { m with mem:=m.mem.set i b }:=by
 subst t;obtain⟨n,l⟩:=h.mem_ne (k:=g) rfl;obtain⟨s1,s2⟩:=h.mem.stored i (.int .u32 b);have a:∀j,j≠g->(w.setCell ⟨g,i,none⟩ (.int .u32 b)).heap[j]?=w.heap[j]?:=λ j d=>Yal _ _ _ _ d
 refine⟨⟨h.ok.regs,h.ok.word,h.ok.zero,by simpa using h.ok.mem,λ j=>?_,h.ok.place0,h.ok.place1,h.ok.inp,h.ok.outp,h.ok.code0,h.ok.code1⟩,h.low,?_,?_,?_,?_,h.left,h.rdle,h.inl,by simpa using h.low0,λ b o s e=>by have:=h.la b o s e;simpa[Ybk] using this,h.d1,h.d2⟩
 .show 0<=(m.mem.set i b).getD j 0/\(m.mem.set i b).getD j 0<=4294967295
  rw[Zli]
  split
  .exact r
  .exact h.ok.memw j
 .obtain⟨cs,h1,h2⟩:=h.blk
  exact⟨cs,by rw[a p (Ne.symm n)];exact h1,h2⟩
 .simp only[List.length_set,List.map_set]
  exact s1
 .exact Zae h.out λ j d=>a j λ e=>l (e ▸ d)
 .exact h.rin.same (by simp[Ybk]) λ f o s e=>a f λ q=>(h.d1 f o s e).2.1 (by rw[q];rfl)
theorem MAt.told (h:MAt w B p vm vo A c inp rd m){a:Value}{x:Int}(E:0<=x/\x<=255)(F:w'.ownsRow B 5 1 a (m.out.length+1) (m.out.map (Yu .u8)++[.int .u8 x]))(hg:w.grownBy w' vo.ownBlock)
 (z:a.ownBlock=vo.ownBlock\/∃k,w.heap.size<=k/\a.ownBlock=some k) :
 MAt (w'.setCell ⟨p,36,none⟩ a) B p vm a A c inp rd { m with out:=m.out++[x] }:=by
 have d:∀j,j<w.heap.size->vo.ownBlock≠some j->w'.heap[j]?=w.heap[j]?:=λ j l H=>hg.block j l (λ e=>H e.symm)
 have g:∀j,j≠p->(w'.setCell ⟨p,36,none⟩ a).heap[j]?=w'.heap[j]?:=λ j l=>Yal _ _ _ _ l
 have u:=h.lt;have f:a.ownBlock≠some p:=by
  rcases z with e|⟨k,G,e⟩
  .rw[e];exact h.d2.2
  .rw[e];intro q;cases q;omega
 refine⟨⟨h.ok.regs,h.ok.word,h.ok.zero,h.ok.mem,h.ok.memw,h.ok.place0,h.ok.place1,h.ok.inp,λ y n=>?_,h.ok.code0,h.ok.code1⟩,h.low,?_,?_,?_,?_,h.left,h.rdle,h.inl,h.low0,λ b o s e=>by have h1:=h.la b o s e;have v:=hg.size;simp only[Ybk];simp;omega,λ b o s e=>?_,h.d2.1,f⟩
 .rcases Yag.1 n with n|n
  .exact h.ok.outp y n
  .rw[Ya8.1 n];exact E
 .obtain⟨cs,h1,v⟩:=h.blk
  have t:w'.heap[p]?=some (.cells cs 55 (0,0)):=by rw[d p u h.d2.2];exact h1
  refine⟨cs.setIfInBounds 36 a,heap_setCell_same w' p 36 cs _ a t,?_⟩;rw[Yb1,v];exact(Z0o h.ok _ 4 _).symm
 .refine Zae h.mem λ j l=>?_
  obtain⟨D,C⟩:=h.mem_ne l;rw[g j D];exact d j (h.mem.lt j l).2 C
 .show(w'.setCell ⟨p,36,none⟩ a).ownsRow B 5 1 a (m.out++[x]).length ((m.out++[x]).map (Yu .u8))
  rw[Yd,List.map_append];exact ownsRow_setCell_other F f _
 .exact h.rin.same (by have:=hg.size;simpa[Ybk] using this) λ b o s e=>by
   obtain⟨d1,d2,d3⟩:=h.d1 b o s e;rw[g b d1];exact d b (h.la b o s e) d3
 .obtain⟨d1,d2,d3⟩:=h.d1 b o s e
  refine⟨d1,d2,?_⟩;rcases z with r|⟨k,G,r⟩
  .rw[r];exact d3
  .rw[r]
   intro q
   cases q
   have:=h.la b o s e;omega
end
end
section
namespace S
inductive AV where
 | int (k:IntKind) (n:Int)
 | bool (b:Bool)
 | str (s:ByteArray)
 | fn (f:FuncId)
 | row (n:Nat) (cs:List AV)
 | agg (cs:List AV)
 | tup (vs:List AV)
 | box (id off:Nat)
 | ptr (cs:List AV) (off:Nat)
 | any
def AV.cell:AV->Bool
 | .int _ _ | .bool _ | .str _ | .fn _ | .row _ _=>true
 | _=>false
def AV.cells:AV->Option (List AV)
 | .agg cs=>some cs
 | .int k n=>some [.int k n]
 | .bool b=>some [.bool b]
 | .str s=>some [.str s]
 | .fn f=>some [.fn f]
 | .row n cs=>some [.row n cs]
 | _=>none
def AV.free:AV->Bool
 | .box _ _ | .ptr _ _ | .any=>false
 | _=>true
abbrev Tail:=Option (TypeId×Nat)
abbrev Ent:=TypeId×List AV
structure St where
 sl:Nat->Option AV
 tl:Nat->Tail
 hp:Nat->Option Ent
inductive Rd (α:Type) where
 | done (a:α)
 | fail
 | sl (t:Nat) (k:Option AV->Rd α)
 | tl (t:Nat) (k:Tail->Rd α)
 | hp (i:Nat) (k:Option Ent->Rd α)
namespace Rd
def bind {α β:Type}:Rd α->(α->Rd β)->Rd β
 | .done a,f=>f a
 | .fail,_=>.fail
 | .sl t k,f=>.sl t λ x=>(k x).bind f
 | .tl t k,f=>.tl t λ x=>(k x).bind f
 | .hp t k,f=>.hp t λ x=>(k x).bind f
def run {α:Type}:Rd α->St->Option (α×List Nat)
 | .done a,_=>some (a,[])
 | .fail,_=>none
 | .sl t k,s=>match (k (s.sl t)).run s with|some (a,l)=>some (a,(3*t)::l) | none=>none
 | .tl t k,s=>match (k (s.tl t)).run s with|some (a,l)=>some (a,(3*t+1)::l) | none=>none
 | .hp t k,s=>match (k (s.hp t)).run s with|some (a,l)=>some (a,(3*t+2)::l) | none=>none
def ofOpt {α:Type}:Option α->Rd α
 | some a=>.done a
 | none=>.fail
end Rd
structure Eff where
 dst:Option (Nat×AV×Tail)
 drop:Option Nat
 ent:Option (Nat×Ent)
def Eff.apply (e:Eff)(s:St):St where
 sl:=λ t=>match e.dst with
  | some (d,v,_)=>if t=d then some v else s.sl t
  | none=>s.sl t
 tl:=λ t=>match e.dst with
  | some (d,_,z)=>if t=d then z else if e.drop=some t then none else s.tl t
  | none=>if e.drop=some t then none else s.tl t
 hp:=λ i=>match e.ent with
  | some (k,x)=>if i=k then some x else s.hp i
  | none=>s.hp i
def Eff.writes (e:Eff):List Nat :=
 (match e.dst with|some (d,_,_)=>[3*d,3*d+1] | none=>[])++(match e.drop with|some t=>[3*t+1] | none=>[])++(match e.ent with|some (k,_)=>[3*k+2] | none=>[])
def same (r:Nat)(s s':St):Prop:=if r%3=0 then s.sl (r/3)=s'.sl (r/3) else if r%3=1 then s.tl (r/3)=s'.tl (r/3) else s.hp (r/3)=s'.hp (r/3)
end S
open S in
theorem Zp9 (t:Nat)(s s':St):same (3*t) s s'↔s.sl t=s'.sl t:=by
 unfold same;rw[if_pos (by omega),show 3*t/3=t by omega]
open S in
theorem Zqa (t:Nat)(s s':St):same (3*t+1) s s'↔s.tl t=s'.tl t:=by
 unfold same;rw[if_neg (by omega),if_pos (by omega),show(3*t+1)/3=t by omega]
open S in
theorem Zqb (t:Nat)(s s':St):same (3*t+2) s s'↔s.hp t=s'.hp t:=by
 unfold same;rw[if_neg (by omega),if_neg (by omega),show(3*t+2)/3=t by omega]
theorem S.same.refl (r:Nat)(s:S.St):S.same r s s:=by
 unfold S.same
 split
 .rfl
 .split <;> rfl
theorem S.same.trans {r:Nat}{a b c:S.St}(h:S.same r a b)(k:S.same r b c):S.same r a c:=by
 unfold S.same at *
 split at h
 .rw[if_pos (by assumption)] at k⊢;exact h.trans k
 .rw[if_neg (by assumption)] at k⊢
  split at h
  .rw[if_pos (by assumption)] at k⊢;exact h.trans k
  .rw[if_neg (by assumption)] at k⊢;exact h.trans k
theorem S.same.symm {r:Nat}{a b:S.St}(h:S.same r a b):S.same r b a:=by
 unfold S.same at *
 split at h
 .rw[if_pos (by assumption)];exact h.symm
 .rw[if_neg (by assumption)]
  split at h
  .rw[if_pos (by assumption)];exact h.symm
  .rw[if_neg (by assumption)];exact h.symm
theorem Z0p {s s':S.St}(h:∀r,S.same r s s'):s=s':=by
 obtain⟨a,b,c⟩:=s;obtain⟨g,e,j⟩:=s';have h1:a=g:=funext λ t=>(Zp9 t _ _).1 (h _)
 have f:b=e:=funext λ t=>(Zqa t _ _).1 (h _)
 have d:c=j:=funext λ t=>(Zqb t _ _).1 (h _)
 rw[h1,f,d]
theorem Zif (r:Nat):(∃t,r=3*t)\/(∃t,r=3*t+1)\/∃t,r=3*t+2:=by
 by_cases h:r%3=0
 .exact .inl ⟨r/3,by omega⟩
 .by_cases h1:r%3=1
  .exact .inr (.inl ⟨r/3,by omega⟩)
  .exact .inr (.inr ⟨r/3,by omega⟩)
open S in
theorem Zcz {e:Eff}{r:Nat}(h:r ∉ e.writes)(s:St):same r (e.apply s) s:=by
 obtain⟨dst,drop,ent⟩:=e;unfold Eff.writes at h;simp only[Yag,not_or] at h;obtain⟨⟨h1,a⟩,b⟩:=h;rcases Zif r with⟨t,rfl⟩|⟨t,rfl⟩|⟨t,rfl⟩
 .rw[Zp9]
  unfold Eff.apply;rcases dst with _|⟨d,v,z⟩
  .rfl
  .simp only[Yr,Yv,or_false,not_or] at h1⊢
   rw[if_neg (by omega)]
 .rw[Zqa]
  unfold Eff.apply;have hd:drop≠some t:=by
   rcases drop with _|d
   .simp
   .simp only[Yr,Yv,or_false] at a
    intro e
    cases e
    exact a rfl
  rcases dst with _|⟨d,v,z⟩
  .simp only;rw[if_neg hd]
  .simp only[Yr,Yv,or_false,not_or] at h1⊢
   rw[if_neg (by omega),if_neg hd]
 .rw[Zqb]
  unfold Eff.apply;rcases ent with _|⟨k,x⟩
  .rfl
  .simp only[Yr,Yv,or_false] at b⊢
   rw[if_neg (by omega)]
open S in
theorem Zm2 {e:Eff}{r:Nat}(h:r∈e.writes)(s s':St):same r (e.apply s) (e.apply s'):=by
 obtain⟨dst,drop,ent⟩:=e;unfold Eff.writes at h;rcases Zif r with⟨t,rfl⟩|⟨t,rfl⟩|⟨t,rfl⟩
 .rw[Zp9]
  unfold Eff.apply;rcases dst with _|⟨d,v,z⟩
  .exfalso
   rcases drop with _|d <;> rcases ent with _|⟨k,x⟩ <;> simp at h <;> omega
  .by_cases c:t=d
   .simp only[c,if_true]
   .exfalso
    rcases drop with _|d <;> rcases ent with _|⟨k,x⟩ <;> simp at h <;> omega
 .rw[Zqa]
  unfold Eff.apply;rcases dst with _|⟨d,v,z⟩
  .by_cases c:drop=some t
   .simp only[c,if_true]
   .exfalso
    rcases drop with _|d <;> rcases ent with _|⟨k,x⟩ <;> simp at h c <;> omega
  .by_cases c0:t=d
   .simp only[c0,if_true]
   .by_cases c:drop=some t
    .simp only[c,if_true,if_neg c0]
    .exfalso
     rcases drop with _|d <;> rcases ent with _|⟨k,x⟩ <;> simp at h c <;> omega
 .rw[Zqb]
  unfold Eff.apply;rcases ent with _|⟨k,x⟩
  .exfalso
   rcases drop with _|d <;> rcases dst with _|⟨d,v,z⟩ <;> simp at h <;> omega
  .by_cases c:t=k
   .simp only[c,if_true]
   .exfalso
    rcases drop with _|d <;> rcases dst with _|⟨d,v,z⟩ <;> simp at h <;> omega
theorem Zrw {e:S.Eff}{r:Nat}{s s':S.St}(h:S.same r s s'):S.same r (e.apply s) (e.apply s'):=by
 by_cases c:r∈e.writes
 .exact Zm2 c s s'
 .exact((Zcz c s).trans h).trans (Zcz c s').symm
theorem Zhc {α:Type}:∀(m:S.Rd α) {s s':S.St} {x:α} {l:List Nat},m.run s=some (x,l)->(∀r∈l,S.same r s s')->m.run s'=some (x,l)
 | .done a,s,s',x,l,h,_=>by
  unfold S.Rd.run at h⊢;exact h
 | .fail,s,s',x,l,h,_=>by simp[S.Rd.run] at h
 | .sl t k,s,s',x,l,h,hs=>by
  unfold S.Rd.run at h⊢
  cases hk:(k (s.sl t)).run s with
  | none=>rw[hk] at h;simp at h
  | some p =>
   obtain⟨a,d⟩:=p;rw[hk] at h;simp only[Option.some.injEq,Prod.mk.injEq] at h;obtain⟨rfl,rfl⟩:=h;have e:s.sl t=s'.sl t:=(Zp9 t s s').1 (hs _ Yw);have:=Zhc (k (s.sl t)) hk (s':=s') λ r b=>hs r (Y0 _ b)
   rw[e] at this;rw[this]
 | .tl t k,s,s',x,l,h,hs=>by
  unfold S.Rd.run at h⊢
  cases hk:(k (s.tl t)).run s with
  | none=>rw[hk] at h;simp at h
  | some p =>
   obtain⟨a,d⟩:=p;rw[hk] at h;simp only[Option.some.injEq,Prod.mk.injEq] at h;obtain⟨rfl,rfl⟩:=h;have e:s.tl t=s'.tl t:=(Zqa t s s').1 (hs _ Yw);have:=Zhc (k (s.tl t)) hk (s':=s') λ r b=>hs r (Y0 _ b)
   rw[e] at this;rw[this]
 | .hp t k,s,s',x,l,h,hs=>by
  unfold S.Rd.run at h⊢
  cases hk:(k (s.hp t)).run s with
  | none=>rw[hk] at h;simp at h
  | some p =>
   obtain⟨a,d⟩:=p;rw[hk] at h;simp only[Option.some.injEq,Prod.mk.injEq] at h;obtain⟨rfl,rfl⟩:=h;have e:s.hp t=s'.hp t:=(Zqb t s s').1 (hs _ Yw);have:=Zhc (k (s.hp t)) hk (s':=s') λ r b=>hs r (Y0 _ b)
   rw[e] at this;rw[this]
theorem Zh {α β:Type}:∀(m:S.Rd α)(f:α->S.Rd β) {s:S.St} {y:β} {l:List Nat},(m.bind f).run s=some (y,l)->∃x l1 l2,m.run s=some (x,l1)/\(f x).run s=some (y,l2)
 | .done a,f,s,y,l,h=>⟨a,[],l,rfl,h⟩
 | .fail,f,s,y,l,h=>by simp[S.Rd.bind,S.Rd.run] at h
 | .sl t k,f,s,y,l,h=>by
  unfold S.Rd.bind S.Rd.run at h
  cases hk:((k (s.sl t)).bind f).run s with
  | none=>rw[hk] at h;simp at h
  | some p =>
   obtain⟨a,d⟩:=p;rw[hk] at h;simp only[Option.some.injEq,Prod.mk.injEq] at h;obtain⟨rfl,rfl⟩:=h;obtain⟨x,l1,l2,h1,b⟩:=Zh (k (s.sl t)) f hk;exact⟨x,_,l2,by rw[S.Rd.run,h1],b⟩
 | .tl t k,f,s,y,l,h=>by
  unfold S.Rd.bind S.Rd.run at h
  cases hk:((k (s.tl t)).bind f).run s with
  | none=>rw[hk] at h;simp at h
  | some p =>
   obtain⟨a,d⟩:=p;rw[hk] at h;simp only[Option.some.injEq,Prod.mk.injEq] at h;obtain⟨rfl,rfl⟩:=h;obtain⟨x,l1,l2,h1,b⟩:=Zh (k (s.tl t)) f hk;exact⟨x,_,l2,by rw[S.Rd.run,h1],b⟩
 | .hp t k,f,s,y,l,h=>by
  unfold S.Rd.bind S.Rd.run at h
  cases hk:((k (s.hp t)).bind f).run s with
  | none=>rw[hk] at h;simp at h
  | some p =>
   obtain⟨a,d⟩:=p;rw[hk] at h;simp only[Option.some.injEq,Prod.mk.injEq] at h;obtain⟨rfl,rfl⟩:=h;obtain⟨x,l1,l2,h1,b⟩:=Zh (k (s.hp t)) f hk;exact⟨x,_,l2,by rw[S.Rd.run,h1],b⟩
theorem Z5 {α:Type}{o:Option α}{s:S.St}{y:α}{l:List Nat}(h:(S.Rd.ofOpt o).run s=some (y,l)):o=some y:=by
 cases o with
 | none=>simp[S.Rd.ofOpt,S.Rd.run] at h
 | some a=>simp[S.Rd.ofOpt,S.Rd.run] at h;rw[h.1]
namespace S
def stL (L:Nat->Bool):List (Eff×List Nat)->Nat->St->St
 | [],_,s=>s
 | (e,_)::r,i,s=>stL L r (i+1) (if L i=true then e.apply s else s)
end S
theorem Zfk {L b:Nat->Bool}{r:Nat}:∀(a:List (S.Eff×List Nat)) (i:Nat) (s s':S.St),S.same r s s'->(∀k e l,a[k]?=some (e,l)->r∈e.writes->L (i+k)=b (i+k))->S.same r (S.stL L a i s) (S.stL b a i s')
 | [],i,s,s',h,_=>h
 | (e,l)::a,i,s,s',h,hw=>by
  unfold S.stL;refine Zfk a (i+1) _ _ ?_ λ k n g j d=>?_
  .by_cases c:r∈e.writes
   .have:=hw 0 e l rfl c
    rw[Ybe] at this;rw[this]
    split
    .exact Zrw h
    .exact h
   .have h1:S.same r (if L i=true then e.apply s else s) s:=by
     split
     .exact Zcz c s
     .exact S.same.refl _ _
    have f:S.same r (if b i=true then e.apply s' else s') s':=by
     split
     .exact Zcz c s'
     .exact S.same.refl _ _
    exact(h1.trans h).trans f.symm
  .have:=hw (k+1) n g (by simpa using j) d
   rw[show i+1+k=i+(k+1) by omega];exact this
theorem Zqc {L:Nat->Bool}{r:Nat}:∀(a:List (S.Eff×List Nat)) (i k:Nat) (s s':S.St) (e:S.Eff) (l:List Nat),a[k]?=some (e,l)->r∈e.writes->L (i+k)=true->(∀j b d,k<j->a[j]?=some (b,d)->r∈b.writes->L (i+j)=false)->S.same r (S.stL L a i s) (e.apply s')
 | [],i,k,s,s',e,l,hk,_,_,_=>by simp at hk
 | (e0,l0)::a,i,0,s,s',e,l,hk,g,hL,hn=>by
  simp at hk;obtain⟨rfl,rfl⟩:=hk;unfold S.stL;rw[Ybe] at hL;rw[if_pos hL];have o:∀(a:List (S.Eff×List Nat)) (i:Nat) (s:S.St),(∀j b d,a[j]?=some (b,d)->r∈b.writes->L (i+j)=false)->S.same r (S.stL L a i s) s:=by
   intro a
   induction a with
   | nil=>intro i s _;exact S.same.refl _ _
   | cons p a ih =>
    obtain⟨t,l1⟩:=p;intro i s h;unfold S.stL;refine(ih (i+1) _ λ j b d n g=>?_).trans ?_
    .have:=h (j+1) b d (by simpa using n) g
     rw[show i+1+j=i+(j+1) by omega];exact this
    .split
     .rename_i c
      refine Zcz (λ hm=>?_) s;have:=h 0 t l1 rfl hm;rw[Ybe,c] at this
      cases this
     .exact S.same.refl _ _
  refine(o a (i+1) _ λ j b d n f=>?_).trans (Zm2 g _ _);have:=hn (j+1) b d (by omega) (by simpa using n) f;rw[show i+1+j=i+(j+1) by omega];exact this
 | (e0,l0)::a,i,k+1,s,s',e,l,hk,g,hL,hn=>by
  unfold S.stL;refine Zqc a (i+1) k _ s' e l (by simpa using hk) g ?_ λ j b d n q f=>?_
  .rw[show i+1+k=i+(k+1) by omega];exact hL
  .have:=hn (j+1) b d (by omega) (by simpa using q) f
   rw[show i+1+j=i+(j+1) by omega];exact this
namespace S
def befs:List Oper->List Nat->List Nat
 | [],acc=>acc
 | o::r,acc=>befs r (acc++[o.after.toList.foldl (λ m e=>if Ybn .any e then m ||| (2^e.on) ||| acc.getD e.on 0 else m) 0])
def meets (a b:List Nat):Bool:=a.any λ x=>b.any λ y=>Nat.beq x y
def apart1 (e:Eff)(rs:List Nat)(i:Nat):List (Eff×List Nat)->List Nat->Bool
 | (e',rs')::r,b::br=>(b.testBit i || (!meets e.writes (rs'++e'.writes) && !meets e'.writes rs)) && apart1 e rs i r br
 | _,_=>true
def apartB:List (Eff×List Nat)->List Nat->Nat->Bool
 | (e,rs)::r,_::br,i=>apart1 e rs i r br && apartB r br (i+1)
 | _,_,_=>true
end S
theorem Zig {a b:List Nat}(h:S.meets a b=false){x:Nat}(e:x∈a):x ∉ b:=λ d=>by
 have h1:S.meets a b=true:=Ybl.2 ⟨x,e,Ybl.2 ⟨x,d,by rw[Nat.beq_eq]⟩⟩;rw[h] at h1
 cases h1
theorem Zm3 {e:S.Eff}{rs:List Nat}{i:Nat}:∀(g:List (S.Eff×List Nat)) (f:List Nat),S.apart1 e rs i g f=true->∀(k:Nat)(d:S.Eff)(a:List Nat)(b:Nat),g[k]?=some (d,a)->f[k]?=some b->b.testBit i=true\/(S.meets e.writes (a++d.writes)=false/\S.meets d.writes rs=false)
 | [],_,_,k,d,a,b,hk,_=>by simp at hk
 | _::_,[],_,k,d,a,b,_,hb=>by simp at hb
 | (e1,r1)::g,b1::f,h,k,d,a,b,hk,hb=>by
  simp only[S.apart1,Yq,Ybt,Bool.not_eq_true'] at h
  cases k with
  | zero =>
   simp at hk hb;obtain⟨rfl,rfl⟩:=hk;subst hb;exact h.1
  | succ k=>exact Zm3 g f h.2 k d a b (by simpa using hk) (by simpa using hb)
theorem Zih:∀(f:List (S.Eff×List Nat)) (g:List Nat) (i:Nat),S.apartB f g i=true->∀(j k:Nat)(e:S.Eff)(rs:List Nat)(d:S.Eff)(a:List Nat)(b:Nat),j<k->f[j]?=some (e,rs)->f[k]?=some (d,a)->g[k]?=some b->b.testBit (i+j)=true\/(S.meets e.writes (a++d.writes)=false/\S.meets d.writes rs=false)
 | [],_,_,_,j,k,e,rs,d,a,b,_,hj,_,_=>by simp at hj
 | _::_,[],_,_,j,k,e,rs,d,a,b,_,_,_,hb=>by simp at hb
 | (e1,r1)::f,b1::g,i,h,j,k,e,rs,d,a,b,hjk,hj,hk,hb=>by
  simp only[S.apartB,Yq] at h;obtain⟨k,rfl⟩:∃l,k=l+1:=⟨k-1,by omega⟩
  cases j with
  | zero =>
   simp at hj;obtain⟨rfl,rfl⟩:=hj;rw[Ybe];exact Zm3 f g h.1 k d a b (by simpa using hk) (by simpa using hb)
  | succ j =>
   rw[show i+(j+1)=i+1+j by omega];exact Zih f g (i+1) h.2 j k e rs d a b (by omega) (by simpa using hj) (by simpa using hk) (by simpa using hb)
theorem Zii:∀(ops:List Oper)(a:List Nat),(S.befs ops a).length=a.length+ops.length
 | [],a=>rfl
 | o::r,a=>by rw[S.befs,Zii r,Yd,Yk,Yk,List.length_nil];omega
theorem Zij {ops:Array Oper}{C:Nat->Nat->Prop}:∀(f:List Oper)(rest:List Oper)(d:List Nat),ops.toList=f++rest->d.length=f.length ->
 (∀i b,d[i]?=some b->∀j,b.testBit j=true->C i j) ->
 (∀i j,Ybf .any ops i j=true->C i j)->(∀i j k,Ybf .any ops i j=true->C j k->C i k)->∀i b,(S.befs rest d)[i]?=some b->∀j,b.testBit j=true->C i j
 | f,[],d,_,_,h,_,_=>h
 | f,o::r,d,e,q,h,h1,h2=>by
  rw[S.befs];refine Zij (f++[o]) r _ (by rw[e];simp) (by simp[q]) (λ i b hi j a=>?_) h1 h2;by_cases c:i<d.length
  .rw[Yn c] at hi
   exact h i b hi j a
  .rw[Yo (by omega)] at hi
   have s:i-d.length=0:=by
    have:=(Yg.1 hi).1;simp at this;omega
   rw[s,List.getElem?_cons_zero] at hi;have hi:=Option.some.inj hi;have u:ops[i]?=some o:=by
    rw[<- Array.getElem?_toList,e,Yo (by omega)];have:i-f.length=0:=by omega
    rw[this];rfl
   have t:∀(l:List Edge)(m:Nat),(∀g∈l,Ybn .any g=true->Ybf .any ops i g.on=true)->(∀j,m.testBit j=true->C i j) ->
    ∀j,(l.foldl (λ m e=>if Ybn .any e then m ||| (2^e.on) ||| d.getD e.on 0 else m) m).testBit j=true->C i j:=by
    intro l
    induction l with
    | nil=>intro m _ hm;exact hm
    | cons g l ih =>
     intro m q hm;rw[List.foldl_cons];refine ih _ (λ x z=>q x (Y0 _ z)) λ j a=>?_
     split at a
     .rename_i n
      have v:=q g Yw n;rw[Nat.testBit_or,Nat.testBit_or,Ybt,Ybt] at a;rcases a with(a|a) | a
      .exact hm j a
      .rw[Nat.testBit_two_pow] at a
       have:g.on=j:=by simpa using a
       rw[<- this];exact h1 i g.on v
      .rw[Yh] at a
       cases ha:d[g.on]? with
       | none=>rw[ha] at a;simp at a
       | some b' =>
        rw[ha] at a;exact h2 i g.on j v (h g.on b' ha j (by simpa using a))
     .exact hm j a
   subst hi;refine t o.after.toList 0 (λ g y n=>?_) (λ j a=>by simp at a) j a;unfold Ybf;rw[u];simp only
   first|exact Ybl.2 ⟨g,y,by simp[n]⟩ | (simp only[Array.any_eq_true'];exact⟨g,by simpa using y,by simp[n]⟩)
theorem Zym {d:List (S.Eff×List Nat)}{n:List Nat}(hA:S.apartB d n 0=true)(hl:n.length=d.length){L:Nat->Bool}(y:∀k b,n[k]?=some b->L k=true->∀j,b.testBit j=true->L j=true)
 {i:Nat} {e:S.Eff} {rs:List Nat} (hi:d[i]?=some (e,rs)) (q:L i=false) (E:∀b,n[i]?=some b->∀j,b.testBit j=true->L j=true) (s0:S.St) :
 (∀r∈rs,S.same r (S.stL (λ k=>decide (k<i)) d 0 s0) (S.stL L d 0 s0))/\S.stL (λ k=>if k=i then true else L k) d 0 s0=e.apply (S.stL L d 0 s0):=by
 have bits:∀k,k<d.length->∃b,n[k]?=some b:=λ k l=>⟨n[k],Ye (by omega)⟩
 have u:∀{k:Nat} {x:S.Eff×List Nat},d[k]?=some x->k<d.length:=λ h=>(Yg.1 h).1
 have a:∀k f g,i<k->d[k]?=some (f,g)->L k=true->S.meets e.writes (g++f.writes)=false/\S.meets f.writes rs=false:=λ k f g z l s=>by
  obtain⟨b,t⟩:=bits k (u l);rcases Zih d n 0 hA i k e rs f g b z hi l t with h|h
  .rw[Y2] at h
   have:=y k b t s i h;rw[q] at this
   cases this
  .exact h
 refine⟨λ r D=>?_,Z0p λ r=>?_⟩
 .refine Zfk d 0 s0 s0 (S.same.refl _ _) λ k f g l o=>?_
  rw[Y2];rcases Nat.lt_trichotomy k i with h|h|h
  .rw[decide_eq_true h]
   obtain⟨b,v⟩:=bits i (u hi);rcases Zih d n 0 hA k i f g e rs b h l hi v with h1|h1
   .rw[Y2] at h1
    exact(E b v k h1).symm
   .exact absurd (List.mem_append_left _ D) (Zig h1.1 o)
  .subst h
   rw[q];exact decide_eq_false (Nat.lt_irrefl _)
  .rw[decide_eq_false (by omega)]
   cases s:L k with
   | false=>rfl
   | true=>exact absurd D (Zig (a k f g h l s).2 o)
 .by_cases c:r∈e.writes
  .refine Zqc d 0 i s0 (S.stL L d 0 s0) e rs hi c (by rw[Y2,if_pos rfl]) λ j f g F C o=>?_
   rw[Y2,if_neg (by omega)]
   cases s:L j with
   | false=>rfl
   | true=>exact absurd (List.mem_append_right _ o) (Zig (a j f g F C s).1 c)
  .refine(Zfk d 0 s0 s0 (S.same.refl _ _) λ k f g l o=>?_).trans (Zcz c _).symm
   rw[Y2]
   split
   .rename_i h
    subst h;rw[hi] at l
    cases l
    exact absurd o c
   .rfl
end
abbrev Zn:=Nat->Option Nat
mutual
def RepV (H:Zn)(w:World):S.AV->Value->Prop
 | .int k n,v=>v=.int k n
 | .bool b,v=>v=.bool b
 | .str s,v=>v=.string s
 | .fn f,v=>v=.func (.func f) #[] #[]
 | .row n cs,v=>∃A c,v=.slice A n c/\(n=0->cs=[])/\(A=none->n=0)/\(cs=[]\/∃b o h,A=some ⟨b,o,none⟩/\H b=some h/\o+cs.length<=h/\RepC H w cs b o)
 | .agg cs,v=>∃vs:List Value,v=.agg vs.toArray/\RepL H w cs vs
 | .tup xs,v=>∃vs:List Value,v=.tuple vs.toArray/\RepT H w xs vs
 | .box _ _,_=>False
 | .ptr cs off,v=>∃b o h,v=.pointer (some ⟨b,o+off,none⟩)/\H b=some h/\o+cs.length<=h/\RepC H w cs b o
 | .any,_=>True
def RepL (H:Zn)(w:World):List S.AV->List Value->Prop
 | [],vs=>vs=[]
 | x::r,vs=>∃v rs,vs=v::rs/\x.cell=true/\RepV H w x v/\RepL H w r rs
def RepT (H:Zn)(w:World):List S.AV->List Value->Prop
 | [],vs=>vs=[]
 | x::r,vs=>∃v rs,vs=v::rs/\RepV H w x v/\RepT H w r rs
def RepC (H:Zn)(w:World):List S.AV->Nat->Nat->Prop
 | [],_,_=>True
 | x::r,b,o=>x.cell=true/\(∃v,w.cell? ⟨b,o,none⟩=some v/\RepV H w x v)/\RepC H w r b (o+1)
end
def Stay (H:Zn)(w:World)(H':Zn)(w':World):Prop:=∀b h,H b=some h->∃h',H' b=some h'/\h<=h'/\∀o,o<h->w'.cell? ⟨b,o,none⟩=w.cell? ⟨b,o,none⟩
theorem Stay.refl (H:Zn)(w:World):Stay H w H w:=λ b h e=>⟨h,e,Yc _,λ _ _=>rfl⟩
mutual
theorem RepV.stay {H s:Zn}{w w':World}(f:Stay H w s w'):∀(x:S.AV)(v:Value),RepV H w x v->RepV s w' x v
 | .int _ _,v,h | .bool _,v,h | .str _,v,h | .fn _,v,h=>by
  rw[RepV] at h⊢;exact h
 | .row n cs,v,h=>by
  rw[RepV] at h⊢;obtain⟨A,c,e,h0,h1,j⟩:=h;refine⟨A,c,e,h0,h1,?_⟩;rcases j with j|⟨b,o,k,hA,l,r,g⟩
  .exact .inl j
  .obtain⟨q,d,t,a⟩:=f b k l
   exact .inr ⟨b,o,q,hA,d,by omega,RepC.stay f cs b o k r a g⟩
 | .agg cs,v,h=>by
  rw[RepV] at h⊢;obtain⟨vs,e,h⟩:=h;exact⟨vs,e,RepL.stay f cs vs h⟩
 | .tup xs,v,h=>by
  rw[RepV] at h⊢;obtain⟨vs,e,h⟩:=h;exact⟨vs,e,RepT.stay f xs vs h⟩
 | .box _ _,v,h=>by
  rw[RepV] at h;exact h.elim
 | .ptr cs off,v,h=>by
  rw[RepV] at h⊢;obtain⟨b,o,k,e,l,r,g⟩:=h;obtain⟨q,d,t,a⟩:=f b k l;exact⟨b,o,q,e,d,by omega,RepC.stay f cs b o k r a g⟩
 | .any,v,h=>by
  rw[RepV]
  trivial
theorem RepL.stay {H a:Zn}{w w':World}(b:Stay H w a w'):∀(xs:List S.AV)(vs:List Value),RepL H w xs vs->RepL a w' xs vs
 | [],vs,h=>by
  rw[RepL] at h⊢;exact h
 | x::r,vs,h=>by
  rw[RepL] at h⊢;obtain⟨v,rs,e,d,h1,f⟩:=h;exact⟨v,rs,e,d,RepV.stay b x v h1,RepL.stay b r rs f⟩
theorem RepT.stay {H a:Zn}{w w':World}(b:Stay H w a w'):∀(xs:List S.AV)(vs:List Value),RepT H w xs vs->RepT a w' xs vs
 | [],vs,h=>by
  rw[RepT] at h⊢;exact h
 | x::r,vs,h=>by
  rw[RepT] at h⊢;obtain⟨v,rs,e,h1,d⟩:=h;exact⟨v,rs,e,RepV.stay b x v h1,RepT.stay b r rs d⟩
theorem RepC.stay {H a:Zn}{w w':World}(d:Stay H w a w'):∀(xs:List S.AV)(b o k:Nat),o+xs.length<=k->(∀o,o<k->w'.cell? ⟨b,o,none⟩=w.cell? ⟨b,o,none⟩)->RepC H w xs b o->RepC a w' xs b o
 | [],b,o,k,_,_,h=>by
  rw[RepC]
  trivial
 | x::r,b,o,k,hk,hcell,h=>by
  rw[RepC] at h⊢;obtain⟨e,⟨v,g,h1⟩,f⟩:=h;rw[Yk] at hk;exact⟨e,⟨v,by rw[hcell o (by omega)];exact g,RepV.stay d x v h1⟩,RepC.stay d r b (o+1) k (by omega) hcell f⟩
end
theorem RepL.length {H:Zn}{w:World}:∀{xs:List S.AV} {vs:List Value},RepL H w xs vs->vs.length=xs.length
 | [],vs,h=>by rw[RepL] at h;subst h;rfl
 | x::r,vs,h=>by
  rw[RepL] at h;obtain⟨v,rs,rfl,_,_,a⟩:=h;rw[Yk,Yk,RepL.length a]
theorem RepL.append {H:Zn}{w:World}:∀{xs ys:List S.AV} {vs a:List Value},RepL H w xs vs->RepL H w ys a->RepL H w (xs++ys) (vs++a)
 | [],ys,vs,a,h,k=>by rw[RepL] at h;subst h;exact k
 | x::r,ys,vs,a,h,k=>by
  rw[RepL] at h;obtain⟨v,rs,rfl,b,h1,d⟩:=h;rw[Y9,Y9,RepL];exact⟨v,rs++a,rfl,b,h1,RepL.append d k⟩
theorem RepL.take {H:Zn}{w:World}:∀{xs:List S.AV} {vs:List Value} (n:Nat),RepL H w xs vs->RepL H w (xs.take n) (vs.take n)
 | xs,vs,0,h=>by rw[Yaj,Yaj,RepL]
 | [],vs,n+1,h=>by rw[RepL] at h;subst h;rw[List.take_nil,RepL,List.take_nil]
 | x::r,vs,n+1,h=>by
  rw[RepL] at h;obtain⟨v,rs,rfl,a,h1,b⟩:=h;rw[Yaq,Yaq,RepL];exact⟨v,_,rfl,a,h1,RepL.take n b⟩
theorem RepL.drop {H:Zn}{w:World}:∀{xs:List S.AV} {vs:List Value} (n:Nat),RepL H w xs vs->RepL H w (xs.drop n) (vs.drop n)
 | xs,vs,0,h=>h
 | [],vs,n+1,h=>by rw[RepL] at h;subst h;rw[List.drop_nil,RepL,List.drop_nil]
 | x::r,vs,n+1,h=>by
  rw[RepL] at h;obtain⟨v,rs,rfl,hc,h1,a⟩:=h;exact RepL.drop n a
theorem RepL.at_ {H:Zn}{w:World}:∀{xs:List S.AV} {vs:List Value} {i:Nat} {x:S.AV},RepL H w xs vs->xs[i]?=some x->∃v,vs[i]?=some v/\x.cell=true/\RepV H w x v
 | [],vs,i,x,h,hi=>by simp at hi
 | y::r,vs,0,x,h,hi=>by
  rw[RepL] at h;obtain⟨v,rs,rfl,a,h1,b⟩:=h;simp at hi;subst hi;exact⟨v,rfl,a,h1⟩
 | y::r,vs,i+1,x,h,hi=>by
  rw[RepL] at h;obtain⟨v,rs,rfl,a,h1,b⟩:=h;obtain⟨u,e,d⟩:=RepL.at_ b (by simpa using hi);exact⟨u,by simpa using e,d⟩
theorem RepT.at_ {H:Zn}{w:World}:∀{xs:List S.AV} {vs:List Value} {i:Nat} {x:S.AV},RepT H w xs vs->xs[i]?=some x->∃v,vs[i]?=some v/\RepV H w x v
 | [],vs,i,x,h,hi=>by simp at hi
 | y::r,vs,0,x,h,hi=>by
  rw[RepT] at h;obtain⟨v,rs,rfl,h1,a⟩:=h;simp at hi;subst hi;exact⟨v,rfl,h1⟩
 | y::r,vs,i+1,x,h,hi=>by
  rw[RepT] at h;obtain⟨v,rs,rfl,h1,a⟩:=h;obtain⟨u,d,b⟩:=RepT.at_ a (by simpa using hi);exact⟨u,by simpa using d,b⟩
theorem RepT.length {H:Zn}{w:World}:∀{xs:List S.AV} {vs:List Value},RepT H w xs vs->vs.length=xs.length
 | [],vs,h=>by rw[RepT] at h;subst h;rfl
 | x::r,vs,h=>by
  rw[RepT] at h;obtain⟨v,rs,rfl,_,a⟩:=h;rw[Yk,Yk,RepT.length a]
theorem Zu6 {H:Zn}{w:World}{x:S.AV}{v:Value}(a:x.cell=true)(h:RepV H w x v):v.oneCell'=true/\v.cells=#[v]:=by
 cases x <;> simp[S.AV.cell] at a
 case int=>rw[RepV] at h;subst h;exact⟨rfl,rfl⟩
 case bool=>rw[RepV] at h;subst h;exact⟨rfl,rfl⟩
 case str=>rw[RepV] at h;subst h;exact⟨rfl,rfl⟩
 case fn=>rw[RepV] at h;subst h;exact⟨rfl,rfl⟩
 case row =>
  rw[RepV] at h;obtain⟨A,c,rfl,_⟩:=h;exact⟨rfl,rfl⟩
theorem RepL.one {H:Zn}{w:World}:∀{xs:List S.AV} {vs:List Value},RepL H w xs vs->∀v∈vs,v.oneCell'=true
 | [],vs,h,v,a=>by rw[RepL] at h;subst h;cases a
 | x::r,vs,h,v,a=>by
  rw[RepL] at h;obtain⟨u,rs,rfl,b,h1,d⟩:=h;rcases Yr.1 a with rfl|a
  .exact(Zu6 b h1).1
  .exact RepL.one d v a
theorem Zik {H:Zn}{w:World}{x:S.AV}{v:Value}{cs:List S.AV}(h:RepV H w x v)(a:x.cells=some cs):∃vs,v.cells=vs.toArray/\RepL H w cs vs:=by
 have one:x.cell=true->some [x]=some cs->∃vs,v.cells=vs.toArray/\RepL H w cs vs:=λ h1 b=>by
  cases b
  refine⟨[v],by rw[(Zu6 h1 h).2],?_⟩;rw[RepL];exact⟨v,[],rfl,h1,h,by rw[RepL]⟩
 cases x <;> simp only[S.AV.cells] at a
 case int=>exact one rfl a
 case bool=>exact one rfl a
 case str=>exact one rfl a
 case fn=>exact one rfl a
 case row=>exact one rfl a
 case agg cs' =>
  cases a
  rw[RepV] at h;obtain⟨vs,rfl,h⟩:=h;exact⟨vs,rfl,h⟩
 all_goals cases a
theorem Zc0 {H:Zn}{w:World}:∀{xs:List S.AV} {b o:Nat},RepC H w xs b o->∃vs,RepL H w xs vs/\w.rangeAt b o vs
 | [],b,o,_=>⟨[],by rw[RepL],λ j v h=>by simp at h⟩
 | x::r,b,o,h=>by
  rw[RepC] at h;obtain⟨d,⟨v,k,h1⟩,f⟩:=h;obtain⟨vs,e,g⟩:=Zc0 f;refine⟨v::vs,by rw[RepL];exact⟨v,vs,rfl,d,h1,e⟩,λ j u a=>?_⟩
  cases j with
  | zero=>simp at a;subst a;exact k
  | succ j=>rw[show o+(j+1)=o+1+j by omega];exact g j u (by simpa using a)
theorem Zil {H:Zn}{w:World}:∀{xs:List S.AV} {vs:List Value} {b o:Nat},RepL H w xs vs->w.rangeAt b o vs->RepC H w xs b o
 | [],vs,b,o,_,_=>by rw[RepC];trivial
 | x::r,vs,b,o,h,hr=>by
  rw[RepL] at h;obtain⟨v,rs,rfl,a,h1,d⟩:=h;rw[RepC];refine⟨a,⟨v,hr 0 v rfl,h1⟩,Zil d λ j u e=>?_⟩;rw[show o+1+j=o+(j+1) by omega];exact hr (j+1) u (by simpa using e)
