/- Parts. -/
import Derived.Test.YtcjhmiijbojgeaaGreatDoorZQd
import Derived.BigRegion
import Derived.Deep.RegionWith
set_option linter.all false
set_option maxHeartbeats 8000000
open Go.Lib renaming hid->Ya
open Int renaming toNat_natCast->Ya7,le_trans->Ybx,ediv_nonneg->Yci,ediv_le_self->Ycs
namespace Go.Proofs.YtcjhmiijbojgeaaGreatDoor
open S Go.Proofs.Tryz Go.RowKit
set_option maxRecDepth 100000
theorem Zf9 (w:World)(cs:Array Value)(t:TypeId):(w.alloc (.cells cs t)).heap[w.heap.size]?=some (.cells cs t (0,0))/\Below w.heap.size w (w.alloc (.cells cs t))/\(w.alloc (.cells cs t)).heap.size=w.heap.size+1 :=
 ⟨heap_alloc_new _ _,(Below.refl _ _).alloc (Nat.le_refl _) _,by simp⟩
theorem Z2 {w:World}{g:Nat}{cs:Array Value}{t:TypeId}(h:w.heap[g]?=some (.cells cs t (0,0)))(j:Nat):w.cell? ⟨g,j,none⟩=cs[j]?:=by simp[World.cell?,h]
theorem Only.cell {F:Nat->Prop}{w w':World}(h:Only F w w'){b:Nat}(d:b<w.heap.size)(e:¬F b)(o:Nat):w'.cell? ⟨b,o,none⟩=w.cell? ⟨b,o,none⟩:=World.cell?_of_block (w:=w) (a:=⟨b,o,none⟩) (h.block b d e)
theorem Zos (op:BinOp){a b:Int}(n:Nat)(h:bits op .u32 a b=(n:Int))(hn:n<4294967296):0<=bits op .u32 a b/\bits op .u32 a b<=4294967295:=by rw[h];omega
theorem Z0k {op a b:Int}(a0:0<=a)(f:a<=4294967295)(d:0<=b)(l:b<=4294967295)(z:¬(b=0/\(op=5\/op=6))):0<=alu op a b/\alu op a b<=4294967295:=by
 have C:a.toNat<2^32:=by have:(2:Nat)^32=4294967296:=rfl;omega
 have q:b.toNat<2^32:=by have:(2:Nat)^32=4294967296:=rfl;omega
 have e:(2:Nat)^32=4294967296:=rfl;unfold alu;by_cases y:op=1
 .rw[if_pos y];exact Zad _
 rw[if_neg y];by_cases u:op=2
 .rw[if_pos u];exact Zad _
 rw[if_neg u];by_cases v:op=3
 .rw[if_pos v];exact Zad _
 rw[if_neg v];by_cases r:op=4
 .rw[if_pos r]
  have hm:a*b<=4294967295*4294967295:=Int.mul_le_mul f l d (by omega);have hp:0<=a*b:=Int.mul_nonneg a0 d;omega
 rw[if_neg r];by_cases n:op=5
 .rw[if_pos n]
  have x:0<b:=by
   rcases Int.lt_or_eq_of_le d with h|h
   .exact h
   .exact absurd ⟨h.symm,.inl n⟩ z
  exact⟨Yci a0 d,Ybx (Ycs b a0) f⟩
 rw[if_neg n];by_cases o:op=6
 .rw[if_pos o]
  have x:0<b:=by
   rcases Int.lt_or_eq_of_le d with h|h
   .exact h
   .exact absurd ⟨h.symm,.inr o⟩ z
  have:=Int.emod_lt_of_pos a x;exact⟨Int.emod_nonneg a (by omega),by omega⟩
 rw[if_neg o];by_cases D:op=7
 .rw[if_pos D];exact Zos _ _ (u32_and a0 f d l) (by rw[<- e];exact Nat.and_lt_two_pow _ q)
 rw[if_neg D];by_cases t:op=8
 .rw[if_pos t];exact Zos _ _ (u32_or a0 f d l) (by rw[<- e];exact Nat.or_lt_two_pow C q)
 rw[if_neg t];by_cases s:op=9
 .rw[if_pos s];exact Zos _ _ (u32_xor a0 f d l) (by rw[<- e];exact Nat.xor_lt_two_pow C q)
 rw[if_neg s];by_cases k:op=10
 .rw[if_pos k];exact Zad _
 rw[if_neg k];by_cases j:op=11
 .rw[if_pos j]
  have hp:(0:Int)<=2^(b%32).toNat:=Int.le_of_lt (Int.pow_pos (by omega));exact⟨Yci a0 hp,Ybx (Ycs _ a0) f⟩
 rw[if_neg j];by_cases i:op=12
 .rw[if_pos i];exact Zad _
 rw[if_neg i];by_cases g:op=13
 .rw[if_pos g];unfold truth;split <;> omega
 rw[if_neg g];unfold truth;split <;> omega
theorem Zx6:(prog.info? 5).map (λ i=>(i.zero,i.size,i.bytes))=some (some (.int .u8 0),1,1):=by kernel_rfl
theorem Zle {a b:Int}(h:¬a=b):(a==b)=false:=by simp[h]
section
variable {w w':World}{B p:Nat}{vm vo:Value}{A:Option Addr}{c:Nat}{inp:List Int}{rd:Nat}{m:Mach}
def Z0l (w:World)(B p:Nat)(vm vo:Value)(A:Option Addr)(c:Nat)(inp:List Int)(r:Mach×Int×Int)(e:Ending)(w':World):Prop :=
 e=.returned (.tuple #[.int .u32 r.2.1,.int .i64 r.2.2])/\∃vo' rd',MAt w' B p vm vo' A c inp rd' r.1/\Only (Zal p vm vo) w w'/\(vo'.ownBlock=vo.ownBlock\/∃k,w.heap.size<=k/\vo'.ownBlock=some k)
theorem Zdn (h:Only (·=p) w w'):Only (Zal p vm vo) w w':=h.weaken λ k _ e=>.inl e
theorem Zb2 {r:Mach×Int×Int}{b:Mach}{d trap:Int}{a:Nat}(e:r=(b,d,trap))(h:MAt w' B p vm vo A c inp a b)(f:Only (Zal p vm vo) w w'):Z0l w B p vm vo A c inp r (.returned (.tuple #[.int .u32 d,.int .i64 trap])) w':=by
 subst e;exact⟨rfl,vo,a,h,f,.inl rfl⟩
theorem Z1t (op d a b imm:Int)(h:MAt w B p vm vo A c inp rd m)(ho:1<=op/\op<=36)(hd:0<=d/\d<32)(ha:0<=a/\a<32)(hb:0<=b/\b<32)(f1:m.out.length<=1000000000) :
 Calls prog 88 #[.pointer (some ⟨p,0,none⟩),.agg #[.int .i64 op,.int .i64 d,.int .i64 a,.int .i64 b,.int .i64 imm]] w (Z0l w B p vm vo A c inp (m.act ⟨op,d,a,b,imm⟩)):=by
 obtain⟨s,rfl⟩:∃k:Nat,a=k:=⟨a.toNat,by omega⟩
 obtain⟨nb,rfl⟩:∃k:Nat,b=k:=⟨b.toNat,by omega⟩
 have c9:s<32:=by omega
 have d5:nb<32:=by omega
 have a9:m.act ⟨op,d,s,nb,imm⟩=m.act ⟨op,d,s,nb,imm⟩:=rfl;go_enter func88,ntmps88
 go_upto_region 1 with fail
 obtain⟨x1,x2,x3⟩:=Zf9 w #[.int .i64 op,.int .i64 d,.int .i64 s,.int .i64 nb,.int .i64 imm] 77;generalize w.alloc (.cells #[.int .i64 op,.int .i64 d,.int .i64 s,.int .i64 nb,.int .i64 imm] 77)=wb at *;have q0:wb.cell? ⟨w.heap.size,0,none⟩=some (.int .i64 op):=by rw[Z2 x1];rfl
 have q1:wb.cell? ⟨w.heap.size,1,none⟩=some (.int .i64 d):=by rw[Z2 x1];rfl
 have q2:wb.cell? ⟨w.heap.size,2,none⟩=some (.int .i64 s):=by rw[Z2 x1];rfl
 have q3:wb.cell? ⟨w.heap.size,3,none⟩=some (.int .i64 nb):=by rw[Z2 x1];rfl
 have q4:wb.cell? ⟨w.heap.size,4,none⟩=some (.int .i64 imm):=by rw[Z2 x1];rfl
 have hM:=h.below x2;have gb:w.heap.size<wb.heap.size:=by omega
 have hO:Only (Zal p vm vo) w wb:=Only.of_below x2;have U:¬Zal p vm vo w.heap.size:=λ hf=>by have:=(h.foot_lt hf).2;omega
 have r1:=hM.reg c9;have r2:=hM.reg d5;have d3:=h.ok.word s;have d4:=h.ok.word nb;have e5:=h.ok.place0;have d6:=h.ok.place1;have a2:=hM.lt;obtain⟨_,a8,_⟩:=hM.cells;have Q:=Zfj (m.place+1);have o:Hid (m.rd s=m.reg.getD s 0/\m.rd nb=m.reg.getD nb 0):=Ya ⟨by simp[Mach.rd],by simp[Mach.rd]⟩;clear x1 x2 x3 a9;generalize m.reg.getD s 0=av at *;generalize m.reg.getD nb 0=bv at *;obtain⟨a0,I⟩:=d3;obtain⟨b0,b1⟩:=d4;go_wp2_with fail
 go_quiet (fail)
 go_upto_region 2 with fail
 have i:=hM.drewN nq;have n:=hO.trans (Only.drewN (F:=Zal p vm vo) wb nq) (λ _ _ h=>h);have J:w.heap.size<(wb.drewN nq).heap.size:=gb;have e4:(wb.drewN nq).cell? ⟨w.heap.size,0,none⟩=some (.int .i64 op):=q0;have R:(wb.drewN nq).cell? ⟨w.heap.size,1,none⟩=some (.int .i64 d):=q1;have b4:(wb.drewN nq).cell? ⟨w.heap.size,4,none⟩=some (.int .i64 imm):=q4;generalize wb.drewN nq=w1 at *;clear q0 q1 q2 q3 q4 r1 r2 hM hO gb a8 Q;have a2:=i.lt;have c8:=Zad (m.place+1);have c7:=Zad imm;obtain⟨i0,i1⟩:=c7;obtain⟨u0,u1⟩:=c8;go_upto_region 4 with fail
 have Z:(op<=14/\bv=0/\(op=5\/op=6))\/(op<=14/\¬(bv=0/\(op=5\/op=6)))\/(15<=op/\op<=22)\/op=23\/op=24\/op=25\/(26<=op/\op<=31)\/op=32\/op=33\/op=34\/op=35\/op=36:=by omega
 rcases Z with⟨u,k2,k3⟩|⟨u,k2⟩|⟨u,k2⟩|u|u|u|⟨u,k2⟩|u|u|u|u|u
 .have f:=Ya (show m.act ⟨op,d,s,nb,imm⟩=(m,0,4) by
   simp only[Mach.act,o.out.2,if_pos u,if_pos (And.intro k2 k3)])
  subst k2;go_wp2_with fail
  refine(Z4m _ _ _ k3).mono ?_;rintro e z ⟨rfl,rfl⟩;go_wp2_with fail
  go_ret2
  exact Zb2 f.out i n
 .have f:=Ya (show m.act ⟨op,d,s,nb,imm⟩=(m.put d (alu op av bv),u32m (m.place+1),0) by
   simp only[Mach.act,o.out.1,o.out.2,if_pos u,if_neg k2])
  have G:=Z0k (op:=op) a0 I b0 b1 k2;have K2:=Ya k2;clear k2;go_wp2_with fail
  refine(Z4l _ _ _ _ a0 I b0 b1 ⟨ho.1,u⟩ K2.out).mono ?_;rintro e z ⟨rfl,rfl⟩;go_wp2_with fail
  refine(Zbs _ _ i hd.1 hd.2 G).mono ?_;rintro e N ⟨rfl,q,l⟩;go_wp2_with fail
  go_ret2
  exact Zb2 f.out q (n.trans (Zdn l) (λ _ _ h=>h))
 .have n14:¬op<=14:=by omega
  have e6:op<=23:=by omega
  have f:=Ya (show m.act ⟨op,d,s,nb,imm⟩=(m.put d (alu (like op) av (u32m imm)),u32m (m.place+1),0) by
   simp only[Mach.act,o.out.1,if_neg n14,if_pos k2])
  have G:=Z0k (op:=like op) (a:=av) (b:=u32m imm) a0 I i0 i1 (by unfold like;split <;> omega);go_wp2_with fail
  refine(Zcw _ _).mono ?_;rintro e z ⟨rfl,rfl⟩;go_wp2_with fail
  refine(Z4n _ _ _ _ a0 I i0 i1 ⟨u,k2⟩).mono ?_;rintro e z ⟨rfl,rfl⟩;go_wp2_with fail
  refine(Zbs _ _ i hd.1 hd.2 G).mono ?_;rintro e N ⟨rfl,q,l⟩;go_wp2_with fail
  go_ret2
  exact Zb2 f.out q (n.trans (Zdn l) (λ _ _ h=>h))
 .subst u
  have f:=Ya (show m.act ⟨23,d,s,nb,imm⟩=(m.put d (u32m (u32m imm*65536)),u32m (m.place+1),0) by
   simp[Mach.act])
  have G:=Zad (u32m imm*65536);go_wp2_with fail
  refine(Zcw _ _).mono ?_;rintro e z ⟨rfl,rfl⟩;go_wp2_with fail
  refine(Z4o _ _ _ i0 i1).mono ?_;rintro e z ⟨rfl,rfl⟩;go_wp2_with fail
  refine(Zbs _ _ i hd.1 hd.2 G).mono ?_;rintro e N ⟨rfl,q,l⟩;go_wp2_with fail
  go_ret2
  exact Zb2 f.out q (n.trans (Zdn l) (λ _ _ h=>h))
 .subst u
  have X:=Zad (av+u32m imm);by_cases j:u32m (av+u32m imm)<m.mem.length
  .have f:=Ya (show m.act ⟨24,d,s,nb,imm⟩=(m.put d (m.mem.getD (u32m (av+u32m imm)).toNat 0),u32m (m.place+1),0) by
    simp[Mach.act,o.out.1,j])
   obtain⟨t,T⟩:∃t:Nat,u32m (av+u32m imm)=t:=⟨(u32m (av+u32m imm)).toNat,by omega⟩
   have y:decide (u32m (av+u32m imm)<m.mem.length)=true:=by simpa using j
   have P:t<m.mem.length:=by omega
   rw[T,Ya7] at f;have Ht:=Ya T;go_wp2_with fail
   refine(Zfq _ _ i ⟨a0,I⟩).mono ?_;rintro e z ⟨rfl,C,rfl⟩;rw[y];rw[Ht.out];have v:=i.drewN C;have D:=n.trans (Only.drewN (F:=Zal p vm vo) w1 C) (λ _ _ h=>h);have R:(w1.drewN C).cell? ⟨w.heap.size,1,none⟩=some (.int .i64 d):=R;have c2:w.heap.size<(w1.drewN C).heap.size:=J;clear j y T X;generalize w1.drewN C=z at *;obtain⟨g,cap,E,hg,M,_⟩:=v.memv;have b9:=M t P;have d1:=h.ok.memw t;obtain⟨W,_⟩:=v.cells;rw[E] at W;have a4:=v.lt;clear M;generalize m.mem.getD t 0=mv at *;go_wp2_with fail
   have hE:=Zk z;refine Za2 10 1 [0,1,2,3,4,5,6,7,8,9] (by kernel_rfl) (by kernel_rfl) (λ _ _ _ _ _ h=>h) ?_
   repeat (first
    | (refine Zh4 rfl ?_;go_big_quiet_step (fail)))
   refine wpQuiet_nil ?_;rintro _ ⟨⟨w4,a7⟩,rfl⟩;simp only[List.drop_succ_cons,List.drop_zero];clear hE;have c0:=v.below a7;go_wp2_with fail
   refine(Zbs _ _ c0 hd.1 hd.2 d1).mono ?_;rintro e N ⟨rfl,q,l⟩;go_wp2_with fail
   go_ret2
   exact Zb2 f.out q ((D.trans (Only.of_below a7) (λ _ _ h=>h)).trans (Zdn l) (λ _ _ h=>h))
  .have f:=Ya (show m.act ⟨24,d,s,nb,imm⟩=(m,0,2) by
    simp[Mach.act,o.out.1,j])
   have y:decide (u32m (av+u32m imm)<m.mem.length)=false:=by simpa using j
   go_wp2_with fail
   refine(Zfq _ _ i ⟨a0,I⟩).mono ?_;rintro e z ⟨rfl,C,rfl⟩;rw[y];clear j y;go_wp2_with fail
   go_ret2
   exact Zb2 f.out (i.drewN C) (n.trans (Only.drewN (F:=Zal p vm vo) w1 C) (λ _ _ h=>h))
 .subst u
  have X:=Zad (av+u32m imm);by_cases j:u32m (av+u32m imm)<m.mem.length
  .have f:=Ya (show m.act ⟨25,d,s,nb,imm⟩=({ m with mem:=m.mem.set (u32m (av+u32m imm)).toNat bv },u32m (m.place+1),0) by
    simp[Mach.act,o.out.1,o.out.2,j])
   obtain⟨t,T⟩:∃t:Nat,u32m (av+u32m imm)=t:=⟨(u32m (av+u32m imm)).toNat,by omega⟩
   have y:decide (u32m (av+u32m imm)<m.mem.length)=true:=by simpa using j
   have P:t<m.mem.length:=by omega
   rw[T,Ya7] at f;have Ht:=Ya T;go_wp2_with fail
   refine(Zfq _ _ i ⟨a0,I⟩).mono ?_;rintro e z ⟨rfl,C,rfl⟩;rw[y];rw[Ht.out];have v:=i.drewN C;have D:=n.trans (Only.drewN (F:=Zal p vm vo) w1 C) (λ _ _ h=>h);clear j y T X;generalize w1.drewN C=z at *;obtain⟨g,cap,E,hg,M,b7⟩:=v.memv;have b9:=M t P;have e0:=b7 t;have hS:=v.sw E ⟨b0,b1⟩ P;obtain⟨W,_⟩:=v.cells;have c6:=Ya E;rw[E] at W;have a4:=v.lt;have HS:=Ya hS;clear M hS E b7;go_wp2_with fail
   go_ret2
   exact Zb2 f.out HS.out (D.trans (Only.setCell _ (show Zal p vm vo g from .inr (.inl (by rw[c6.out];rfl))) _) (λ _ _ h=>h))
  .have f:=Ya (show m.act ⟨25,d,s,nb,imm⟩=(m,0,2) by
    simp[Mach.act,o.out.1,j])
   have y:decide (u32m (av+u32m imm)<m.mem.length)=false:=by simpa using j
   go_wp2_with fail
   refine(Zfq _ _ i ⟨a0,I⟩).mono ?_;rintro e z ⟨rfl,C,rfl⟩;rw[y];clear j y;go_wp2_with fail
   go_ret2
   exact Zb2 f.out (i.drewN C) (n.trans (Only.drewN (F:=Zal p vm vo) w1 C) (λ _ _ h=>h))
 .have n14:¬op<=14:=by omega
  have b2:¬op<=22:=by omega
  have e1:¬op<=23:=by omega
  have O:¬op=23:=by omega
  have K:¬op=24:=by omega
  have H:¬op=25:=by omega
  have d24:=Zle K;have d25:=Zle H
  cases hg:goes op av bv
  .have f:=Ya (show m.act ⟨op,d,s,nb,imm⟩=(m,u32m (m.place+1),0) by
    simp[Mach.act,o.out.1,o.out.2,n14,b2,O,K,H,k2,hg])
   have Hg:=Ya hg;clear hg O K H;go_wp2_with fail
   refine(Zmp _ _ _ _ a0 I b0 b1).mono ?_;rintro e z ⟨rfl,rfl⟩;rw[Hg.out];go_wp2_with fail
   go_ret2
   exact Zb2 f.out i n
  .have f:=Ya (show m.act ⟨op,d,s,nb,imm⟩=(m,u32m (u32m (m.place+1)+u32m imm),0) by
    simp[Mach.act,o.out.1,o.out.2,n14,b2,O,K,H,k2,hg])
   have Hg:=Ya hg;have Q:=Zfj (u32m (m.place+1)+u32m imm);clear hg O K H;go_wp2_with fail
   refine(Zmp _ _ _ _ a0 I b0 b1).mono ?_;rintro e z ⟨rfl,rfl⟩;rw[Hg.out];go_wp2_with fail
   refine(Zcw _ _).mono ?_;rintro e z ⟨rfl,rfl⟩;go_wp2_with fail
   go_ret2
   exact Zb2 f.out i n
 .subst u
  have f:=Ya (show m.act ⟨32,d,s,nb,imm⟩=(m.put d (u32m (m.place+1)),u32m (u32m (m.place+1)+u32m imm),0) by
   simp[Mach.act])
  have Q:=Zfj (u32m (m.place+1)+u32m imm);go_wp2_with fail
  refine(Zbs _ _ i hd.1 hd.2 ⟨u0,u1⟩).mono ?_;rintro e N ⟨rfl,q,l⟩;have q4:=(l.cell J (λ e=>U (.inl e)) 4).trans b4;have b8:w.heap.size<N.heap.size:=by have:=l.size;omega
  go_wp2_with fail
  refine(Zcw _ _).mono ?_;rintro e z ⟨rfl,rfl⟩;go_wp2_with fail
  go_ret2
  exact Zb2 f.out q (n.trans (Zdn l) (λ _ _ h=>h))
 .subst u
  have f:=Ya (show m.act ⟨33,d,s,nb,imm⟩=(m.put d (u32m (m.place+1)),u32m (av+u32m imm),0) by
   simp[Mach.act,o.out.1])
  have Q:=Zfj (av+u32m imm);go_wp2_with fail
  refine(Zbs _ _ i hd.1 hd.2 ⟨u0,u1⟩).mono ?_;rintro e N ⟨rfl,q,l⟩;have q4:=(l.cell J (λ e=>U (.inl e)) 4).trans b4;have b8:w.heap.size<N.heap.size:=by have:=l.size;omega
  go_wp2_with fail
  refine(Zcw _ _).mono ?_;rintro e z ⟨rfl,rfl⟩;go_wp2_with fail
  go_ret2
  exact Zb2 f.out q (n.trans (Zdn l) (λ _ _ h=>h))
 .subst u
  cases j:m.input with
  | nil =>
   have f:=Ya (show m.act ⟨34,d,s,nb,imm⟩=(m.put d 4294967295,u32m (m.place+1),0) by
    simp[Mach.act,j])
   have Y:=Ya j;clear j;have V:=i.drew;have a5:=n.trans (Only.drew (F:=Zal p vm vo) w1) (λ _ _ h=>h);have c1:(0:Int)<=4294967295/\(4294967295:Int)<=4294967295:=by decide
   go_upto_region 32 with fail
   go_region_with (first
    | (go_at_call 162;refine(Zjq V Y.out).mono ?_;rintro e z ⟨rfl,C,rfl⟩)
    | (go_at_call 25;refine(Zbs _ _ (i.drewN _) hd.1 hd.2 c1).mono ?_;rintro e N ⟨rfl,q,l⟩))
   all_goals
    go_wp2_with fail
    go_ret2
    exact Zb2 f.out q ((n.trans (Only.drewN (F:=Zal p vm vo) w1 _) (λ _ _ h=>h)).trans (Zdn l) (λ _ _ h=>h))
  | cons x r =>
   have f:=Ya (show m.act ⟨34,d,s,nb,imm⟩=(({ m with input:=r }:Mach).put d x,u32m (m.place+1),0) by
    simp[Mach.act,j])
   have Y:=Ya j;have c3:0<=x/\x<=4294967295:=by have:=h.ok.inp x (by rw[j];exact List.mem_cons_self ..);omega
   clear j;have V:=i.drew;have a5:=n.trans (Only.drew (F:=Zal p vm vo) w1) (λ _ _ h=>h);go_upto_region 32 with fail
   go_region_with (first
    | (go_at_call 162;refine(Zjr V Y.out).mono ?_;rintro e z ⟨rfl,v,D⟩;have d8:z.cell? ⟨w.heap.size,1,none⟩=some (.int .i64 d):=(D.cell (show w.heap.size<w1.drew.heap.size from J) (λ e=>U (.inl e)) 1).trans R;have c2:w.heap.size<z.heap.size:=Nat.lt_of_lt_of_le J D.size)
    | (go_at_call 25;refine(Zbs _ _ v hd.1 hd.2 c3).mono ?_;rintro e N ⟨rfl,q,l⟩))
   all_goals
    go_wp2_with fail
    go_ret2
    exact Zb2 f.out q ((a5.trans (Zdn D) (λ _ _ h=>h)).trans (Zdn l) (λ _ _ h=>h))
 .subst u
  have f:=Ya (show m.act ⟨35,d,s,nb,imm⟩=({ m with out:=m.out++[av%256] },u32m (m.place+1),0) by
   simp[Mach.act,o.out.1])
  have f0:IntKind.u8.wrap av=av%256:=by simp[IntKind.wrap,IntKind.signed,IntKind.bits]
  have d0:0<=av%256/\av%256<=255:=by omega
  have a6:=i.out;obtain⟨_,_,_,_,c4,_⟩:=i.cells;have f36:=i.fz 36;have d7:=i.low;have b5:=i.d2.2;generalize av%256=xv at *;go_wp2_with (at_builtin;go_loud (refine Zl rfl (.tmp 181) (.tmp 184) _ rfl B 5 Zx6 underlying52 rfl (by decide) #[.int .u8 xv] _ _ _ rfl a6 rfl rfl rfl (by simp[Value.oneCell']) (by simp only[maxLen];omega) (by omega) (by omega) ?_);intro v' w5 b3 L d9 b6;obtain⟨A5,c5,rfl⟩:=Za b3;go_loud (have e7:w5.cell? ⟨p,36,none⟩=some vo:=(World.cell?_of_block (w:=w1) (a:=⟨p,36,none⟩) (L.block p a2 (λ e=>b5 e.symm))).trans c4);go_loud (have e9:w5.frozen? ⟨p,36,none⟩=false:=(World.frozen?_of_block (w:=w1) (a:=⟨p,36,none⟩) (L.block p a2 (λ e=>b5 e.symm))).trans f36);go_loud (have e3:p<w5.heap.size:=by have:=L.size;omega))
  go_ret2
  have a3:(Value.slice A5 (m.out.length+1) c5).ownBlock=vo.ownBlock\/∃k,w1.heap.size<=k/\(Value.slice A5 (m.out.length+1) c5).ownBlock=some k:=by
   rcases b6 with e|e
   .exact .inl e
   .exact .inr ⟨_,by omega,e⟩
  have hT:=i.told d0 b3 L a3;rw[f.out];refine⟨rfl,_,rd,hT,n.trans ((Only.of_grown (F:=Zal p vm vo) L (λ k e=>.inr (.inr e))).trans (Only.setCell (F:=Zal p vm vo) _ (.inl rfl) _) (λ _ _ h=>h)) (λ _ _ h=>h),?_⟩;rcases a3 with e|⟨k,hk,e⟩
  .exact .inl e
  .exact .inr ⟨k,by have:=n.size;omega,e⟩
 .subst u
  have f:=Ya (show m.act ⟨36,d,s,nb,imm⟩=({ m with state:=1,code:=av },m.place,0) by
   simp[Mach.act,o.out.1])
  have hH:=i.halted (a:=av) ⟨a0,I⟩;have HH:=Ya hH;obtain⟨_,a8,_,_,_,e8,e2,_,_⟩:=i.cells;have f37:=i.fz 37;have f38:=i.fz 38;clear hH;go_wp2_with fail
  go_ret2
  exact Zb2 f.out HH.out (n.trans ((Only.setCell (F:=Zal p vm vo) _ (.inl rfl) _).trans (Only.setCell (F:=Zal p vm vo) _ (.inl rfl) _) (λ _ _ h=>h)) (λ _ _ h=>h))
end
