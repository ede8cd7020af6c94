/- Parts. -/
import Derived.Test.YtcjhmiijbojgeaaGreatDoorZExtB
import Derived.Test.YtcjhmiijbojgeaaGreatDoorZMachP
import Derived.Test.YtcjhmiijbojgeaaGreatDoorZIsaE
set_option linter.all false
set_option maxHeartbeats 8000000
open Go.Lib renaming hid->Ya
open Nat renaming le_refl->Yc
open List renaming getElem?_eq_some_iff->Yg,replicate->Y6
open Go.RowKit.Below renaming refl->Yj
namespace Go.Proofs.YtcjhmiijbojgeaaGreatDoor
open S Go.Proofs.Tryz Go.RowKit
set_option maxRecDepth 100000
structure Tab (xs:List S.Item)(k:Nat)(f:ByteArray->Option Int)(tw:Bool):Prop where
 has:∀s,(f s).isSome=true↔∃(j:Nat)(x:S.Item),j<k/\xs[j]?=some x/\x.kind=2/\x.label=s
 val:tw=false->∀s v,f s=some v->v=stands xs s
 dup:tw=true↔∃(j:Nat)(x:S.Item),j<k/\xs[j]?=some x/\x.kind=2/\stands xs x.label≠j
theorem Tab.start (xs:List S.Item):Tab xs 0 (λ _=>none) false :=
 ⟨λ s=>by simp,λ _ s v h=>by simp at h,by simp⟩
theorem Tab.other {xs:List S.Item}{k:Nat}{f:ByteArray->Option Int}{d:Bool}(h:Tab xs k f d){x:S.Item}(b:xs[k]?=some x)(a:x.kind≠2):Tab xs (k+1) f d:=by
 refine⟨λ s=>(h.has s).trans ?_,h.val,h.dup.trans ?_⟩
 .constructor
  .rintro⟨j,y,h1,h2⟩;exact⟨j,y,by omega,h2⟩
  .rintro⟨j,y,h1,h2,h3,h4⟩
   have:j≠k:=by rintro rfl;rw[b] at h2;cases h2;exact a h3
   exact⟨j,y,by omega,h2,h3,h4⟩
 .constructor
  .rintro⟨j,y,h1,h2⟩;exact⟨j,y,by omega,h2⟩
  .rintro⟨j,y,h1,h2,h3,h4⟩
   have:j≠k:=by rintro rfl;rw[b] at h2;cases h2;exact a h3
   exact⟨j,y,by omega,h2,h3,h4⟩
theorem Tab.label {xs:List S.Item}{k:Nat}{f:ByteArray->Option Int}{u:Bool}(h:Tab xs k f u){x:S.Item}(g:xs[k]?=some x)(q:x.kind=2) :
 Tab xs (k+1) (λ t=>if t=x.label then some (k:Int) else f t) (u || (f x.label).isSome):=by
 have d:(f x.label).isSome=false↔stands xs x.label=k:=by
  rw[<- Bool.not_eq_true,h.has];rcases Zaj xs x.label with⟨_,a⟩|⟨j,y,l,a,n,b,r⟩
  .exact absurd ⟨q,rfl⟩ (a k x g)
  .constructor
   .intro hn
    rcases Nat.lt_trichotomy j k with o|o|o
    .exact absurd ⟨j,y,o,a,n,b⟩ hn
    .rw[l,o]
    .exact absurd ⟨q,rfl⟩ (r k x o g)
   .rintro hs ⟨i,z,h6,h7,h8,h9⟩
    have:j=k:=by rw[l] at hs;omega
    subst this;exact r i z h6 h7 ⟨h8,h9⟩
 refine⟨λ s=>?_,?_,?_⟩
 .by_cases e:s=x.label
  .simp only[e,if_true]
   constructor
   .intro _;exact⟨k,x,by omega,g,q,rfl⟩
   .intro _;rfl
  .simp only[e,if_false]
   rw[h.has]
   constructor
   .rintro⟨j,y,l,a⟩;exact⟨j,y,by omega,a⟩
   .rintro⟨j,y,l,a,n,b⟩
    have:j≠k:=by rintro rfl;rw[g] at a;cases a;exact e b.symm
    exact⟨j,y,by omega,a,n,b⟩
 .intro ht s v hv
  rw[Bool.or_eq_false_iff] at ht;by_cases e:s=x.label
  .simp only[e,if_true] at hv
   cases hv
   rw[e,d.1 ht.2]
  .simp only[e,if_false] at hv
   exact h.val ht.1 s v hv
 .rw[Bool.or_eq_true,h.dup]
  constructor
  .rintro(⟨j,y,l,a⟩|hs)
   .exact⟨j,y,by omega,a⟩
   .refine⟨k,x,by omega,g,q,λ e=>?_⟩
    rw[<- d,hs] at e
    cases e
  .rintro⟨j,y,l,a,n,b⟩
   by_cases e:j=k
   .right
    subst e;rw[g] at a;cases a
    cases hb:(f x.label).isSome with
    | true=>rfl
    | false=>exact absurd (d.1 hb) b
   .left;exact⟨j,y,by omega,a,n,b⟩
theorem Tab.done {xs:List S.Item}{f:ByteArray->Option Int}(h:Tab xs xs.length f false):f=Zen xs/\¬Dup xs:=by
 constructor
 .funext s
  unfold Zen;rcases Zaj xs s with⟨d,a⟩|⟨j,y,d,a,k,l,h5⟩
  .rw[d,if_pos (by omega)]
   cases hf:f s with
   | none=>rfl
   | some v =>
    obtain⟨j,x,_,e,g,n⟩:=(h.has s).1 (by rw[hf];rfl);exact absurd ⟨g,n⟩ (a j x e)
  .rw[d,if_neg (by omega)]
   have b:=(h.has s).2 ⟨j,y,(Yg.1 a).1,a,k,l⟩
   cases hf:f s with
   | none=>rw[hf] at b;cases b
   | some v=>rw[h.val rfl s v hf,d]
 .rintro⟨i,x,e,g,b⟩
  have:=h.dup.2 ⟨i,x,(Yg.1 e).1,e,g,b⟩
  cases this
theorem Tab.twice {xs:List S.Item}{f:ByteArray->Option Int}(h:Tab xs xs.length f true):Dup xs:=by
 obtain⟨j,x,_,d,b,a⟩:=h.dup.1 rfl;exact⟨j,x,d,b,a⟩
theorem Tab.shut {xs:List S.Item}{f:ByteArray->Option Int}(h:Tab xs xs.length f false){k:Nat}{x:S.Item}(b:xs[k]?=some x)(a:x.kind=2):stands xs x.label=k:=by
 by_cases e:stands xs x.label=k
 .exact e
 .exact absurd ⟨k,x,b,a,e⟩ h.done.2
section
theorem Z4p {n:Int}(h:decE n=0):1<=(dec n).op/\(dec n).op<=36/\0<=(dec n).d/\(dec n).d<=31/\0<=(dec n).a/\(dec n).a<=31/\0<=(dec n).b/\(dec n).b<=31:=by
 have f:decB n=true:=by
  unfold decE at h
  split at h
  .assumption
  .omega
 have hg:good (raw n)=true:=by
  unfold decB at f;simp only[Bool.and_eq_true] at f;exact f.1
 have e:dec n=raw n:=by unfold dec;rw[if_pos f]
 rw[e];obtain⟨q,l,o,i,g,j,r,k,_⟩:=Zfa (op:=(raw n).op) (d:=(raw n).d) (a:=(raw n).a) (b:=(raw n).b) (imm:=(raw n).imm) hg;exact⟨q,l,o,i,g,j,r,k⟩
theorem Zg9 (m:Mach)(op d a b imm:Int):m.act ⟨op,d,a,b,imm⟩=(m,0,4)\/m.act ⟨op,d,a,b,imm⟩=(m,0,2)\/(∃v,m.act ⟨op,d,a,b,imm⟩=(m.put d v,u32m (m.place+1),0))\/(∃l,m.act ⟨op,d,a,b,imm⟩=({ m with mem:=l },u32m (m.place+1),0)) \/
 (∃x,m.act ⟨op,d,a,b,imm⟩=(m,u32m x,0))\/(∃v x,m.act ⟨op,d,a,b,imm⟩=(m.put d v,u32m x,0))\/(∃v r,m.act ⟨op,d,a,b,imm⟩=(({ m with input:=r }:Mach).put d v,u32m (m.place+1),0)) \/
 (∃o,m.act ⟨op,d,a,b,imm⟩=({ m with out:=o },u32m (m.place+1),0)/\o.length=m.out.length+1)\/(∃v,m.act ⟨op,d,a,b,imm⟩=({ m with state:=1,code:=v },m.place,0)):=by
 unfold Mach.act;simp only;by_cases s:op<=14
 .rw[if_pos s]
  by_cases g:m.rd b=0/\(op=5\/op=6)
  .rw[if_pos g];exact .inl rfl
  .rw[if_neg g];exact .inr (.inr (.inl ⟨_,rfl⟩))
 rw[if_neg s];by_cases g:op<=22
 .rw[if_pos g];exact .inr (.inr (.inl ⟨_,rfl⟩))
 rw[if_neg g];by_cases q:op=23
 .rw[if_pos q];exact .inr (.inr (.inl ⟨_,rfl⟩))
 rw[if_neg q];by_cases j:op=24
 .rw[if_pos j]
  by_cases e:u32m (m.rd a+u32m imm)<m.mem.length
  .rw[if_pos e];exact .inr (.inr (.inl ⟨_,rfl⟩))
  .rw[if_neg e];exact .inr (.inl rfl)
 rw[if_neg j];by_cases e:op=25
 .rw[if_pos e]
  by_cases f:u32m (m.rd a+u32m imm)<m.mem.length
  .rw[if_pos f];exact .inr (.inr (.inr (.inl ⟨_,rfl⟩)))
  .rw[if_neg f];exact .inr (.inl rfl)
 rw[if_neg e];by_cases f:op<=31
 .rw[if_pos f]
  by_cases h:goes op (m.rd a) (m.rd b)=true
  .rw[if_pos h];exact .inr (.inr (.inr (.inr (.inl ⟨_,rfl⟩))))
  .rw[if_neg h];exact .inr (.inr (.inr (.inr (.inl ⟨_,rfl⟩))))
 rw[if_neg f];by_cases h:op=32
 .rw[if_pos h];exact .inr (.inr (.inr (.inr (.inr (.inl ⟨_,_,rfl⟩)))))
 rw[if_neg h];by_cases n:op=33
 .rw[if_pos n];exact .inr (.inr (.inr (.inr (.inr (.inl ⟨_,_,rfl⟩)))))
 rw[if_neg n];by_cases k:op=34
 .rw[if_pos k]
  cases hi:m.input with
  | nil=>exact .inr (.inr (.inl ⟨_,rfl⟩))
  | cons x r=>exact .inr (.inr (.inr (.inr (.inr (.inr (.inl ⟨_,_,rfl⟩))))))
 rw[if_neg k];by_cases i:op=35
 .rw[if_pos i];exact .inr (.inr (.inr (.inr (.inr (.inr (.inr (.inl ⟨_,rfl,by simp⟩)))))))
 rw[if_neg i];exact .inr (.inr (.inr (.inr (.inr (.inr (.inr (.inr ⟨_,rfl⟩)))))))
theorem Zuj (m:Mach)(d v:Int):(m.put d v).steps=m.steps:=by unfold Mach.put;split <;> rfl
theorem Z4q {m:Mach}(h:m.Ok){op d a b imm:Int}:0<=(m.act ⟨op,d,a,b,imm⟩).2.1/\(m.act ⟨op,d,a,b,imm⟩).2.1<=4294967295:=by
 rcases Zg9 m op d a b imm with e|e|⟨v,e⟩|⟨l,e⟩|⟨x,e⟩|⟨v,x,e⟩|⟨v,r,e⟩|⟨o,e,eo⟩|⟨v,e⟩
 all_goals rw[e]
 .simp
 .simp
 all_goals first|exact Zad _|exact⟨h.place0,h.place1⟩
theorem Zuk (m:Mach)(op d a b imm:Int):(m.act ⟨op,d,a,b,imm⟩).1.steps=m.steps:=by
 rcases Zg9 m op d a b imm with e|e|⟨v,e⟩|⟨l,e⟩|⟨x,e⟩|⟨v,x,e⟩|⟨v,r,e⟩|⟨o,e,eo⟩|⟨v,e⟩
 all_goals rw[e]
 all_goals first|rfl|exact Zuj _ _ _
theorem Zx7 (m:Mach)(op d a b imm:Int)(h:(m.act ⟨op,d,a,b,imm⟩).2.2≠0):(m.act ⟨op,d,a,b,imm⟩).1=m:=by
 rcases Zg9 m op d a b imm with e|e|⟨v,e⟩|⟨l,e⟩|⟨x,e⟩|⟨v,x,e⟩|⟨v,r,e⟩|⟨o,e,eo⟩|⟨v,e⟩
 all_goals rw[e] at h⊢
 all_goals exact absurd rfl h
theorem Z1u (m:Mach)(d v:Int):(m.put d v).out=m.out:=by unfold Mach.put;split <;> rfl
theorem Z1v (m:Mach)(op d a b imm:Int):(m.act ⟨op,d,a,b,imm⟩).1.out.length<=m.out.length+1:=by
 rcases Zg9 m op d a b imm with e|e|⟨v,e⟩|⟨l,e⟩|⟨x,e⟩|⟨v,x,e⟩|⟨v,r,e⟩|⟨o,e,eo⟩|⟨v,e⟩
 all_goals rw[e]
 all_goals simp only[Z1u]
 all_goals omega
theorem Zul (m:Mach):m.step.out.length<=m.out.length+1/\m.steps<=m.step.steps/\m.step.steps<=m.steps+1:=by
 unfold Mach.step;by_cases h:m.state≠0
 .rw[if_pos h];omega
 rw[if_neg h];by_cases g:(m.mem.length:Int)<=m.place
 .rw[if_pos g];simp only[Mach.fell];omega
 rw[if_neg g];by_cases e:decE (m.mem.getD m.place.toNat 0)≠0
 .rw[if_pos e];simp only[Mach.fell];omega
 rw[if_neg e];by_cases f:(m.act (dec (m.mem.getD m.place.toNat 0))).2.2≠0
 .rw[if_pos f];simp only[Mach.fell];omega
 rw[if_neg f];have:=Z1v m (dec (m.mem.getD m.place.toNat 0)).op (dec (m.mem.getD m.place.toNat 0)).d (dec (m.mem.getD m.place.toNat 0)).a (dec (m.mem.getD m.place.toNat 0)).b (dec (m.mem.getD m.place.toNat 0)).imm;exact⟨this,by show m.steps<=m.steps+1;omega,Int.le_refl _⟩
theorem Zka (m:Mach):∀k:Nat,(m.steps_ k).out.length<=m.out.length+k/\m.steps<=(m.steps_ k).steps/\(m.steps_ k).steps<=m.steps+k
 | 0=>by simp[Mach.steps_]
 | k+1=>by
  obtain⟨h1,h2,h3⟩:=Zka m k;obtain⟨g1,g2,g3⟩:=Zul (m.steps_ k)
  show(m.steps_ k).step.out.length<=_/\_<=(m.steps_ k).step.steps/\(m.steps_ k).step.steps<=_
  omega
theorem Zum {m:Mach}(h:m.state≠0):m.step=m:=by unfold Mach.step;rw[if_pos h]
theorem Zkb {m:Mach}{k:Nat}(h:(m.steps_ k).state≠0):∀j:Nat,m.steps_ (k+j)=m.steps_ k
 | 0=>rfl
 | j+1=>by
  have:=Zkb h j
  show(m.steps_ (k+j)).step=_
  rw[this,Zum h]
theorem Z84 {w:World}{b:Nat}{cs:Array Value}{t:TypeId}(h:w.heap[b]?=some (.cells cs t (0,0)))(d:cs.size=5)(f g j i e:Value){w':World}
 (q:w'=(((((w.setCell ⟨b,0,none⟩ f).setCell ⟨b,1,none⟩ g).setCell ⟨b,2,none⟩ j).setCell ⟨b,3,none⟩ i).setCell ⟨b,4,none⟩ e)) :
 b<w'.heap.size/\(w'.cell? ⟨b,0,none⟩=some f/\w'.cell? ⟨b,1,none⟩=some g/\w'.cell? ⟨b,2,none⟩=some j/\w'.cell? ⟨b,3,none⟩=some i/\w'.cell? ⟨b,4,none⟩=some e)/\Below b w w':=by
 subst q;have o:=heap_setCell_same w b 0 cs t f h;have l:=heap_setCell_same _ b 1 _ t g o;have n:=heap_setCell_same _ b 2 _ t j l;have k:=heap_setCell_same _ b 3 _ t i n;have a:=heap_setCell_same _ b 4 _ t e k;refine⟨(Array.getElem?_eq_some_iff.1 a).1,⟨?_,?_,?_,?_,?_⟩,?_⟩
 .rw[Z2 a];simp[d]
 .rw[Z2 a];simp[d]
 .rw[Z2 a];simp[d]
 .rw[Z2 a];simp[d]
 .rw[Z2 a];simp[d]
 .exact((((((Yj b w).setCell (p:=⟨b,0,none⟩) (Yc _) _).setCell (p:=⟨b,1,none⟩) (Yc _) _).setCell (p:=⟨b,2,none⟩) (Yc _) _).setCell (p:=⟨b,3,none⟩) (Yc _) _).setCell (p:=⟨b,4,none⟩) (Yc _) _)
theorem Z4r (w:World)(t:TypeId)(d g b f e:Value){w':World}(i:w'=w.alloc (.cells #[d,g,b,f,e] t)) :
 w.heap.size<w'.heap.size/\(w'.cell? ⟨w.heap.size,0,none⟩=some d/\w'.cell? ⟨w.heap.size,1,none⟩=some g/\w'.cell? ⟨w.heap.size,2,none⟩=some b/\w'.cell? ⟨w.heap.size,3,none⟩=some f/\w'.cell? ⟨w.heap.size,4,none⟩=some e)/\Below w.heap.size w w':=by
 subst i;obtain⟨a,h,x3⟩:=Zf9 w #[d,g,b,f,e] t;exact⟨by omega,⟨by rw[Z2 a];rfl,by rw[Z2 a];rfl,by rw[Z2 a];rfl,by rw[Z2 a];rfl,by rw[Z2 a];rfl⟩,h⟩
theorem Zrr {w1 a w':World}{t:TypeId}{d h e g f:Value}(j:Below w1.drew.heap.size w1.drew a)(n:w'=a.alloc (.cells #[d,h,e,g,f] t)) :
 a.heap.size<w'.heap.size/\(w'.cell? ⟨a.heap.size,0,none⟩=some d/\w'.cell? ⟨a.heap.size,1,none⟩=some h/\w'.cell? ⟨a.heap.size,2,none⟩=some e/\w'.cell? ⟨a.heap.size,3,none⟩=some g/\w'.cell? ⟨a.heap.size,4,none⟩=some f)/\Below w1.heap.size w1 w':=by
 obtain⟨l,k,i⟩:=Z4r a t d h e g f n;have b:Below w1.heap.size w1.drew a:=j;exact⟨l,k,(((Yj _ _).drew).trans b).trans (i.mono b.size)⟩
theorem Zot {w1 a w':World}{t:TypeId}{z b h d f e:Value}(g:Below (w1.alloc (.cells #[z,z,z,z,z] t)).drew.heap.size (w1.alloc (.cells #[z,z,z,z,z] t)).drew a)
 (o:w'=(((((a.setCell ⟨w1.heap.size,0,none⟩ b).setCell ⟨w1.heap.size,1,none⟩ h).setCell ⟨w1.heap.size,2,none⟩ d).setCell ⟨w1.heap.size,3,none⟩ f).setCell ⟨w1.heap.size,4,none⟩ e)) :
 w1.heap.size<w'.heap.size/\(w'.cell? ⟨w1.heap.size,0,none⟩=some b/\w'.cell? ⟨w1.heap.size,1,none⟩=some h/\w'.cell? ⟨w1.heap.size,2,none⟩=some d/\w'.cell? ⟨w1.heap.size,3,none⟩=some f/\w'.cell? ⟨w1.heap.size,4,none⟩=some e)/\Below w1.heap.size w1 w':=by
 have q:(w1.alloc (.cells #[z,z,z,z,z] t)).heap.size=w1.heap.size+1:=by simp
 have i:Below (w1.heap.size+1) (w1.alloc (.cells #[z,z,z,z,z] t)) a:=by
  rw[<- q];exact((Yj _ _).drew).trans g
 have n:a.heap[w1.heap.size]?=some (.cells #[z,z,z,z,z] t (0,0)):=(i.block w1.heap.size (Nat.lt_succ_self _)).trans (heap_alloc_new w1 (.cells #[z,z,z,z,z] t));obtain⟨l,k,j⟩:=Z84 n rfl b h d f e o;exact⟨l,k,(((Yj w1.heap.size w1).alloc (Yc w1.heap.size) _).trans (i.mono (Nat.le_succ _))).trans j⟩
section
variable {w w':World}{B p:Nat}{vm vo:Value}{A:Option Addr}{c:Nat}{inp:List Int}{rd:Nat}{m:Mach}
def Zx8 (w:World)(B p:Nat)(vm vo:Value)(A:Option Addr)(c:Nat)(inp:List Int)(m':Mach)(e:Ending)(w':World):Prop :=
 e=.returned (.int .i64 m'.state)/\∃vo' rd',MAt w' B p vm vo' A c inp rd' m'/\Only (Zal p vm vo) w w'/\(vo'.ownBlock=vo.ownBlock\/∃k,w.heap.size<=k/\vo'.ownBlock=some k)
theorem Zun (h:MAt w B p vm vo A c inp rd m)(b7:m.out.length<=1000000000)(e0:0<=m.steps/\m.steps<=1000000000) :
 Calls prog 47 #[.pointer (some ⟨p,0,none⟩)] w (Zx8 w B p vm vo A c inp m.step):=by
 have b9:=h.lt;have a3:=h.ok.place0;have a9:=h.ok.place1;have d8:=h.low0;obtain⟨g,cap,y,hg,G,d9⟩:=h.memv;obtain⟨z,E,_,_,_,b0,_,_,_⟩:=h.cells;by_cases H:m.state=0
 rotate_left
 .have d1:(m.state != 0)=true:=by simpa using H
  have f:=Ya (show m.step=m by unfold Mach.step;rw[if_pos H]);clear H G;go_enter func47,ntmps47
  go_wp2_with fail
  refine(Zab h).mono ?_;rintro e X ⟨rfl,rfl⟩;go_wp2_with fail
  go_ret
  rw[f.out];exact⟨rfl,vo,rd,h,Only.refl _ _,.inl rfl⟩
 .have d1:(m.state != 0)=false:=by simp[H]
  have Hs:=Ya H;have b3:IntKind.u64.wrap m.place=m.place:=by simp[IntKind.wrap,IntKind.signed,IntKind.bits];omega
  have c9:IntKind.u64.wrap (m.mem.length:Int)=m.mem.length:=by simp[IntKind.wrap,IntKind.signed,IntKind.bits];omega
  have d6:=Ya y;have V:=Ya G;rw[y] at z;clear H y G;by_cases C:(m.mem.length:Int)<=m.place
  .have f:=Ya (show m.step=m.fell 3 by unfold Mach.step;rw[if_neg (by simp[Hs.out]),if_pos C])
   go_enter func47,ntmps47
   go_wp2_with fail
   refine(Zab h).mono ?_;rintro e X ⟨rfl,rfl⟩;go_wp2_with fail
   go_quiet (fail)
   go_wp2_with fail
   refine(Zip 3 (h.drewN _)).mono ?_;rintro e w3 ⟨rfl,i,u⟩;go_wp2_with fail
   go_ret
   rw[f.out];exact⟨rfl,vo,rd,i,(Only.drewN _ _).trans (Zdn u) (λ _ _ h=>h),.inl rfl⟩
  .obtain⟨t,ht⟩:∃t:Nat,m.place=t:=⟨m.place.toNat,by omega⟩
   have U:t<m.mem.length:=by omega
   have b4:=Ya (show decide (m.mem.length<=t)=false by simpa using U);have l:=V.out t U;have b6:=h.ok.memw t;have Y:Hid (m.mem.getD m.place.toNat 0=m.mem.getD t 0/\¬(m.mem.length:Int)<=m.place):=Ya ⟨by rw[ht,Int.toNat_natCast],C⟩;have Ht:=Ya ht;rw[ht] at E b3 C;clear ht a3 a9 V;generalize m.mem.getD t 0=mw at *;obtain⟨b8,a8⟩:=b6;go_enter func47,ntmps47
   go_wp2_with fail
   refine(Zab h).mono ?_;rintro e X ⟨rfl,rfl⟩;go_wp2_with fail
   go_quiet (fail)
   go_upto_region 7 with fail
   have a0:=h.drewN nq;have b5:=Only.drewN (F:=Zal p vm vo) w nq;have c2:(w.drewN nq).cell? ⟨p,32,none⟩=some (.slice (some ⟨g,0,none⟩) m.mem.length cap):=z;have c3:(w.drewN nq).cell? ⟨p,33,none⟩=some (.int .u32 t):=E;have c4:(w.drewN nq).cell? ⟨g,t,none⟩=some (.int .u32 mw):=l;have c1:p<(w.drewN nq).heap.size:=b9;have d5:g<(w.drewN nq).heap.size:=hg;have d3:w.heap.size<=(w.drewN nq).heap.size:=Yc _;generalize w.drewN nq=w1 at *;clear z E l b0;rw[b4.out]
   go_cut [3,4] from 36 to 49 (λ v3 v4 wc=>∃nb,v3=.pointer (some ⟨nb,0,none⟩)/\v4=.int .i64 (decE mw)/\nb<wc.heap.size/\(wc.cell? ⟨nb,0,none⟩=some (.int .i64 (dec mw).op)/\wc.cell? ⟨nb,1,none⟩=some (.int .i64 (dec mw).d)/\wc.cell? ⟨nb,2,none⟩=some (.int .i64 (dec mw).a)/\wc.cell? ⟨nb,3,none⟩=some (.int .i64 (dec mw).b)/\wc.cell? ⟨nb,4,none⟩=some (.int .i64 (dec mw).imm))/\Below w1.heap.size w1 wc)
   case first =>
    go_region_with (go_at_call 87;refine(Zrn _ _ b8 a8).mono ?_;rintro e X ⟨rfl,v⟩;obtain⟨e1,c6⟩:=Zh9 v;have d0:=v.size)
    all_goals
     simp only[List.getElem_toArray,List.getElem_cons_succ,List.getElem_cons_zero,Act.put,List.setIfInBounds_toArray,List.set_cons_succ,List.set_cons_zero];go_wp2_with fail
     go_meet
     first
      | (refine⟨X.heap.size,by kernel_rfl,by kernel_rfl,?_⟩;with_reducible exact Zrr v rfl)
      | (refine⟨w1.heap.size,by kernel_rfl,by kernel_rfl,?_⟩;with_reducible exact Zot v rfl)
      | skip
   case rest =>
    obtain⟨nb,rfl,rfl,e3,⟨q0,q1,q2,q3,q4⟩,M⟩:=hcut;have T:=a0.below M;have D:=b5.trans (Only.of_below (F:=Zal p vm vo) M) (λ _ _ h=>h);by_cases j:decE mw=0
    .obtain⟨o1,o2,d1,d2,a1,a2,b1,b2⟩:=Z4p j
     have q:Hid (m.step=if (m.act (dec mw)).2.2≠0 then m.fell (m.act (dec mw)).2.2 else { (m.act (dec mw)).1 with place:=(m.act (dec mw)).2.1,steps:=m.steps+1 }):=Ya (by
      unfold Mach.step;rw[if_neg (by simp[Hs.out]),if_neg (by have:=Y.out.2;omega),Y.out.1,if_neg (by simp[j])])
     generalize hdw:dec mw=dw at *;obtain⟨op,Q,L,P,imm⟩:=dw;simp only at o1 o2 d1 d2 a1 a2 b1 b2 q0 q1 q2 q3 q4;rw[j];have I:=Z1t op Q L P imm T ⟨o1,o2⟩ ⟨d1,by omega⟩ ⟨a1,by omega⟩ ⟨b1,by omega⟩ b7;have K:=Z4q (op:=op) (d:=Q) (a:=L) (b:=P) (imm:=imm) h.ok;have N:=Zuk m op Q L P imm;have l:=Zx7 m op Q L P imm;generalize m.act ⟨op,Q,L,P,imm⟩=r at *;obtain⟨m2,tt,Z⟩:=r;simp only at K N l q;have O:=Ya I;clear I j hdw;go_wp2_with fail
     refine O.out.mono ?_;rintro e w3 ⟨rfl,o,R,i,u,a5⟩;have x:=D.trans u (λ _ _ h=>h);have s:o.ownBlock=vo.ownBlock\/∃k,w.heap.size<=k/\o.ownBlock=some k:=by
      rcases a5 with e|⟨k,hk,e⟩
      .exact .inl e
      .exact .inr ⟨k,by have:=D.size;omega,e⟩
     have d4:∀k,k<w.heap.size->o.ownBlock=some k->vo.ownBlock=some k:=by
      intro k hk e;rcases s with e2|⟨k2,c8,e2⟩
      .rw[<- e2];exact e
      .rw[e2] at e;cases e;omega
     clear O;simp only;by_cases n:Z=0
     .subst n
      have f:=Ya (show m.step={ m2 with place:=tt,steps:=m.steps+1 } by rw[q.out,if_neg (by simp)]);have W:=i.went K;have f33:=i.fz 33;obtain⟨_,c7,_,_,_,_,_,_,_⟩:=i.cells;have f40:=W.fz 40;obtain⟨_,_,_,_,_,c5,_,_,a7⟩:=W.cells;have c0:=i.lt;have hS:=W.stepped (m.steps+1);obtain⟨_,_,_,_,_,d7,_,_,_⟩:=hS.cells;simp only[N] at a7;have HS:=Ya hS;clear hS W;go_wp2_with fail
      go_ret
      rw[f.out];exact⟨rfl,o,R,HS.out,x.trans ((Only.setCell (F:=Zal p vm vo) _ (.inl rfl) _).trans (Only.setCell (F:=Zal p vm vo) _ (.inl rfl) _) (λ _ _ h=>h)) (λ _ _ h=>h),s⟩
     .have dT:(Z != 0)=true:=by simpa using n
      have f:=Ya (show m.step=m.fell Z by rw[q.out,if_pos n]);have a4:m2=m:=l n;clear n;go_wp2_with fail
      refine(Zip Z i).mono ?_;rintro e w4 ⟨rfl,J,a6⟩;go_wp2_with fail
      go_ret
      rw[f.out];rw[a4] at J;exact⟨rfl,o,R,J,x.trans (Zdn a6) (λ _ _ h=>h),s⟩
    .have dE:=Zle j
     have f:=Ya (show m.step=m.fell 1 by
      unfold Mach.step;rw[if_neg (by simp[Hs.out]),if_neg (by have:=Y.out.2;omega),Y.out.1,if_pos j])
     clear j;go_wp2_with fail
     refine(Zip 1 T).mono ?_;rintro e w3 ⟨rfl,i,u⟩;go_wp2_with fail
     go_ret
     rw[f.out];exact⟨rfl,vo,rd,i,D.trans (Zdn u) (λ _ _ h=>h),.inl rfl⟩
end
end
section
section
variable {w w':World}{B p:Nat}{vm vo:Value}{A:Option Addr}{c:Nat}{inp:List Int}{rd:Nat}{m:Mach}
namespace S.Mach
def regV (m:Mach)(i:Int):Int:=if 0<=i/\i<32 then m.reg.getD i.toNat 0 else 0
def memV (m:Mach)(i:Int):Int:=if 0<=i/\i<m.mem.length then m.mem.getD i.toNat 0 else 0
def memB (m:Mach)(i:Int):Bool:=decide (0<=i/\i<m.mem.length)
end S.Mach
theorem Zrs (h:MAt w B p vm vo A c inp rd m):Calls prog 29 #[.pointer (some ⟨p,0,none⟩)] w λ e w'=>e=.returned (.int .u32 m.place)/\w=w':=by
 obtain⟨_,cc,_,_,_,_,_,_,_⟩:=h.cells;have a:=h.lt;go_enter func29,ntmps29
 go_wp2_with fail
 refine(Zab h).mono ?_;rintro e w2 ⟨rfl,rfl⟩;go_wp2_with fail
 go_ret
 exact⟨rfl,rfl⟩
theorem Zuo (h:MAt w B p vm vo A c inp rd m):Calls prog 30 #[.pointer (some ⟨p,0,none⟩)] w λ e w'=>e=.returned (.int .u32 m.code)/\w=w':=by
 obtain⟨_,_,_,_,_,_,cc,_,_⟩:=h.cells;have a:=h.lt;go_enter func30,ntmps30
 go_wp2_with fail
 refine(Zab h).mono ?_;rintro e w2 ⟨rfl,rfl⟩;go_wp2_with fail
 go_ret
 exact⟨rfl,rfl⟩
theorem Zx9 (i:Int)(h:MAt w B p vm vo A c inp rd m):Calls prog 7 #[.pointer (some ⟨p,0,none⟩),.int .i64 i] w λ e w'=>e=.returned (.int .u32 (m.regV i))/\w=w':=by
 have b:=h.lt;by_cases h0:i<0
 .have Hv:=Ya (show m.regV i=0 by unfold Mach.regV;rw[if_neg (by omega)])
  go_enter func7,ntmps7
  go_wp2_with fail
  refine(Zab h).mono ?_;rintro e a ⟨rfl,rfl⟩;go_wp2_with fail
  go_ret
  exact⟨by rw[Hv.out];rfl,rfl⟩
 .by_cases h1:32<=i
  .have Hv:=Ya (show m.regV i=0 by unfold Mach.regV;rw[if_neg (by omega)])
   go_enter func7,ntmps7
   go_wp2_with fail
   refine(Zab h).mono ?_;rintro e a ⟨rfl,rfl⟩;go_wp2_with fail
   go_ret
   exact⟨by rw[Hv.out];rfl,rfl⟩
  .obtain⟨k,rfl⟩:∃k:Nat,i=k:=⟨i.toNat,by omega⟩
   have d:k<32:=by omega
   have hr:=h.reg d;have Hv:=Ya (show m.regV k=m.reg.getD k 0 by unfold Mach.regV;rw[if_pos (by omega)];rfl);generalize m.reg.getD k 0=rv at *;go_enter func7,ntmps7
   go_wp2_with fail
   refine(Zab h).mono ?_;rintro e a ⟨rfl,rfl⟩;go_wp2_with fail
   go_ret
   exact⟨by rw[Hv.out];rfl,rfl⟩
theorem Zya (i:Int)(h:MAt w B p vm vo A c inp rd m):Calls prog 31 #[.pointer (some ⟨p,0,none⟩),.int .i64 i] w λ e w'=>e=.returned (.tuple #[.int .u32 (m.memV i),.bool (m.memB i)])/\∃n,w'=w.drewN n:=by
 have r:=h.lt;have q:=h.low0;obtain⟨g,cap,d,hg,a,j⟩:=h.memv;obtain⟨f,_⟩:=h.cells;rw[d] at f;have l:=Ya a;clear d a j;by_cases h0:i<0
 .have Hv:=Ya (show m.memV i=0 by unfold Mach.memV;rw[if_neg (by omega)])
  have b:=Ya (show m.memB i=false by unfold Mach.memB;rw[decide_eq_false_iff_not];omega);go_enter func31,ntmps31
  go_wp2_with fail
  refine(Zab h).mono ?_;rintro e o ⟨rfl,rfl⟩;go_wp2_with fail
  go_ret2
  exact⟨by rw[Hv.out,b.out];rfl,0,rfl⟩
 .by_cases h1:(m.mem.length:Int)<=i
  .have Hv:=Ya (show m.memV i=0 by unfold Mach.memV;rw[if_neg (by omega)])
   have b:=Ya (show m.memB i=false by unfold Mach.memB;rw[decide_eq_false_iff_not];omega);go_enter func31,ntmps31
   go_wp2_with fail
   refine(Zab h).mono ?_;rintro e o ⟨rfl,rfl⟩;go_wp2_with fail
   go_ret2
   exact⟨by rw[Hv.out,b.out];rfl,0,rfl⟩
  .obtain⟨k,rfl⟩:∃k:Nat,i=k:=⟨i.toNat,by omega⟩
   have s:k<m.mem.length:=by omega
   have hr:=l.out k s;have Hv:=Ya (show m.memV k=m.mem.getD k 0 by unfold Mach.memV;rw[if_pos (by omega)];rfl);have b:=Ya (show m.memB k=true by unfold Mach.memB;rw[decide_eq_true_eq];omega);generalize m.mem.getD k 0=rv at *;go_enter func31,ntmps31
   go_wp2_with fail
   refine(Zab h).mono ?_;rintro e o ⟨rfl,rfl⟩;go_wp2_with fail
   go_ret2
   exact⟨by rw[Hv.out,b.out];rfl,0,rfl⟩
theorem Zyb:(prog.info? 5).map (λ i=>(i.zero,i.size,i.bytes))=some (some (.int .u8 0),1,1):=by kernel_rfl
theorem Zup:(prog.info? 31).map (λ i=>(i.zero,i.size,i.bytes))=some (some (.int .u32 0),1,4):=by kernel_rfl
theorem Zh7 (A:Option Addr)(c:Nat)(L:List Int)(w:World)(o:Reads w w.heap.size A (L.map (Value.int .u8)))(hl:L.length<=1000000000) :
 Calls prog 94 #[.slice A L.length c] w λ e w'=>∃l k,e=.returned (.slice l L.length k)/\w'.ownsRow w.heap.size 5 1 (.slice l L.length k) L.length (L.map (Value.int .u8))/\Below w.heap.size w w':=by
 have hn:=λ(w:World) (A:Option Addr) (n c q c1:Nat)=>Lib.run_eql_slice_nil (P:=prog) w 52 5 A n c q c1 underlying52
 cases A with
 | none =>
  go_enter func94,ntmps94
  have i:L=[]:=by
   cases L with
   | nil=>rfl
   | cons x r =>
    obtain⟨b,off,e,_⟩:=o (by simp)
    cases e
  subst i;go_wp2_with fail
  go_ret
  exact⟨_,_,rfl,World.ownsRow_nil _ _ _ _,Yj _ _⟩
 | some a =>
  have f:=o.below ((Yj w.heap.size w).alloc (Yc _) (.cells #[] 5));go_enter func94,ntmps94
  go_wp2_with (at_builtin;refine Zs rfl (.tmp 5) (.tmp 6) _ rfl w.heap.size 5 Zyb underlying52 rfl (by decide) _ 0 [] rfl (World.ownsRow_made w #[] 0 (Yc _) (by simp[maxLen]) (by simp)) w.heap.size (some a) L.length c (L.map (Value.int .u8)) rfl (by simp) (λ h=>by cases h) f (by simp[Value.oneCell']) (by simp only[maxLen];omega) (by omega) (by simp) ?_;intro v' w1 d s g j;obtain⟨t,c1,rfl⟩:=Za d)
  go_ret
  simp only[Nat.zero_add,List.nil_append] at d;exact⟨t,c1,by simp,d,((Yj _ _).alloc (Yc _) _).trans g⟩
def RunAt (w:World)(B p:Nat)(vm vo:Value)(A:Option Addr)(c:Nat)(inp:List Int)(m':Mach)(w':World):Prop :=
 ∃vo' rd',MAt w' B p vm vo' A c inp rd' m'/\Only (Zal p vm vo) w w'/\(vo'.ownBlock=vo.ownBlock\/∃k,w.heap.size<=k/\vo'.ownBlock=some k)
theorem RunAt.next {w w1 g:World}{m1 m2:Mach}{a:Value}{b:Nat}(h1:MAt w1 B p vm a A c inp b m1)(h:Only (Zal p vm vo) w w1)(j:a.ownBlock=vo.ownBlock\/∃k,w.heap.size<=k/\a.ownBlock=some k)(o:RunAt w1 B p vm a A c inp m2 g):RunAt w B p vm vo A c inp m2 g:=by
 obtain⟨d,f,n,k2,l⟩:=o;have hz:=h.size;refine⟨d,f,n,h.trans k2 (λ i hi hf=>?_),?_⟩
 .rcases hf with e|e|e
  .exact .inl e
  .exact .inr (.inl e)
  .rcases j with e2|⟨k,hk,e2⟩
   .exact .inr (.inr (e2 ▸ e))
   .rw[e2] at e;cases e;omega
 .rcases l with e|⟨k,hk,e⟩
  .rw[e];exact j
  .exact .inr ⟨k,by omega,e⟩
theorem Zuq {m:Mach}(h:MAt w B p vm vo A c inp rd m)(b:m.out.length<=1000000000)(a:0<=m.steps/\m.steps<=1000000000) :
 Calls prog 47 #[.pointer (some ⟨p,0,none⟩)] w λ e w'=>e=.returned (.int .i64 m.step.state)/\RunAt w B p vm vo A c inp m.step w':=Zun h b a
theorem Zyc (fuel:Int)(h:MAt w B p vm vo A c inp rd m)(O:m.out.length<=500000000)(P:0<=m.steps/\m.steps<=500000000)(hf:fuel<=100000000) :
 Calls prog 28 #[.pointer (some ⟨p,0,none⟩),.int .i64 fuel] w λ e w'=>e=.returned (.int .i64 (m.steps_ fuel.toNat).state)/\RunAt w B p vm vo A c inp (m.steps_ fuel.toNat) w':=by
 have M:=h.lt;have b:∃d:Nat,fuel.toNat=d/\d<=100000000/\((fuel<0/\d=0)\/(¬fuel<0/\fuel=d)):=⟨fuel.toNat,rfl,by omega,by omega⟩
 obtain⟨d,l,N,b⟩:=b;rw[l];clear l hf;go_enter func28,ntmps28
 go_wp2_with fail
 refine(Zab h).mono ?_;rintro e w2 ⟨rfl,rfl⟩;go_upto_region 3 with fail
 go_cut [9,10] from 8 to 10 (λ K z wc=>K=.int .i64 d/\z=.int .i64 0/\wc=w)
 case first =>
  rcases b with⟨h0,rfl⟩|⟨h0,rfl⟩
  .go_wp2_with fail
   all_goals
    go_meet
    exact⟨by first|rfl | (congr 2;omega),rfl,rfl⟩
  .go_wp2_with fail
   all_goals
    go_meet
    exact⟨by first|rfl | (congr 2;omega),rfl,rfl⟩
 case rest =>
 obtain⟨rfl,rfl,rfl⟩:=hcut;clear b;go_wp2_with fail
 go_loopw [10] (λ i wr=>∃k:Nat,k<=d/\i=.int .i64 k/\RunAt wc B p vm vo A c inp (m.steps_ k) wr) (λ i _=>d-(intOf i).toNat)
 case atStart=>exact⟨0,by omega,rfl,vo,rd,h,Only.refl _ _,.inl rfl⟩
 case round =>
  obtain⟨k,hk,rfl,G⟩:=hrel;obtain⟨y,t,f,o,n⟩:=G;have hg:=Zka m k;have D:=f.cells;obtain⟨_,_,_,_,_,H,_⟩:=D;have I:=f.lt;by_cases F:k<d
  .go_wp2_with fail
   refine(Zuq f (by omega) (by omega)).mono ?_;rintro e L ⟨rfl,r⟩;have q:RunAt wc B p vm vo A c inp (m.steps_ (k+1)) L:=RunAt.next f o n r;by_cases s:(m.steps_ k).step.state=0
   .have d0:((m.steps_ k).step.state != 0)=false:=by simp[s]
    clear s;go_wp2_with fail
    go_roundw
    case rel=>exact⟨k+1,by omega,by go_num,q⟩
    case measure=>simp[intOf];omega
   .have d0:((m.steps_ k).step.state != 0)=true:=by simpa using s
    have a:=Zkb (m:=m) (k:=k+1) s (d-(k+1));rw[show k+1+(d-(k+1))=d by omega] at a;have j:=Ya a;obtain⟨v,C,g,u,x⟩:=q;obtain⟨_,_,_,_,_,E,_⟩:=g.cells;have J:=g.lt;clear s a r;go_wp2_with fail
    go_ret
    rw[j.out];exact⟨rfl,v,C,g,u,x⟩
  .have hke:k=d:=by omega
   subst hke;go_wp2_with fail
   go_ret
   exact⟨rfl,y,t,f,o,n⟩
end
end
section
section
variable {w w':World}{B p:Nat}{vm vo:Value}{A:Option Addr}{c:Nat}{inp:List Int}{rd:Nat}{m:Mach}
namespace S.Mach
def setV (m:Mach)(i v:Int):Mach:=if 0<=i/\i<32 then m.put i v else m
def putV (m:Mach)(i v:Int):Mach:=if 0<=i/\i<m.mem.length then { m with mem:=m.mem.set i.toNat v } else m
def goV (m:Mach)(v:Int):Mach:=if m.state≠0 then m else { m with place:=v }
end S.Mach
theorem Zyd (i v:Int)(h:MAt w B p vm vo A c inp rd m)(j:0<=v/\v<=4294967295):Calls prog 10 #[.pointer (some ⟨p,0,none⟩),.int .i64 i,.int .u32 v] w
 λ e w'=>e=.returned (.int .i64 (if 0<=i/\i<32 then 0 else 2))/\MAt w' B p vm vo A c inp rd (m.setV i v)/\Only (·=p) w w':=by
 have g:=h.lt;have f:=Ya h;by_cases h0:i<0
 .have Hc:=Ya (show ¬(0<=i/\i<32) by omega)
  go_enter func10,ntmps10
  go_wp2_with fail
  refine(Zab h).mono ?_;rintro e d ⟨rfl,rfl⟩;go_wp2_with fail
  go_ret
  simp only[Mach.setV,if_neg Hc.out];exact⟨rfl,f.out,Only.refl _ _⟩
 .by_cases h1:32<=i
  .have Hc:=Ya (show ¬(0<=i/\i<32) by omega)
   go_enter func10,ntmps10
   go_wp2_with fail
   refine(Zab h).mono ?_;rintro e d ⟨rfl,rfl⟩;go_wp2_with fail
   go_ret
   simp only[Mach.setV,if_neg Hc.out];exact⟨rfl,f.out,Only.refl _ _⟩
  .have Hc:=Ya (show 0<=i/\i<32 by omega)
   go_enter func10,ntmps10
   go_wp2_with fail
   refine(Zab h).mono ?_;rintro e d ⟨rfl,rfl⟩;go_wp2_with fail
   refine(Zbs _ _ h (by omega) (by omega) j).mono ?_;rintro e w3 ⟨rfl,a,b⟩;go_wp2_with fail
   go_ret
   simp only[Mach.setV,if_pos Hc.out];exact⟨rfl,a,b⟩
theorem Zye (i v:Int)(h:MAt w B p vm vo A c inp rd m)(y:0<=v/\v<=4294967295):Calls prog 11 #[.pointer (some ⟨p,0,none⟩),.int .i64 i,.int .u32 v] w
 λ e w'=>e=.returned (.int .i64 (if 0<=i/\i<m.mem.length then 0 else 2))/\MAt w' B p vm vo A c inp rd (m.putV i v)/\Only (Zal p vm vo) w w':=by
 have x:=h.lt;have q:=Ya h;have s:=h.low0;obtain⟨g,cap,a,hg,b,l⟩:=h.memv;obtain⟨j,_⟩:=h.cells;rw[a] at j;have f:=Ya a;have n:=Ya b;clear a b;by_cases h0:i<0
 .have d:=Ya (show ¬(0<=i/\i<m.mem.length) by omega)
  go_enter func11,ntmps11
  go_wp2_with fail
  refine(Zab h).mono ?_;rintro e o ⟨rfl,rfl⟩;go_wp2_with fail
  go_ret
  simp only[Mach.putV,if_neg d.out];exact⟨rfl,q.out,Only.refl _ _⟩
 .by_cases h1:(m.mem.length:Int)<=i
  .have d:=Ya (show ¬(0<=i/\i<m.mem.length) by omega)
   go_enter func11,ntmps11
   go_wp2_with fail
   refine(Zab h).mono ?_;rintro e o ⟨rfl,rfl⟩;go_wp2_with fail
   go_ret
   simp only[Mach.putV,if_neg d.out];exact⟨rfl,q.out,Only.refl _ _⟩
  .obtain⟨k,rfl⟩:∃k:Nat,i=k:=⟨i.toNat,by omega⟩
   have r:k<m.mem.length:=by omega
   have d:=Ya (show 0<=(k:Int)/\(k:Int)<m.mem.length by omega);have u:=n.out k r;have t:=l k;have z:=Ya (h.sw f.out y r);go_enter func11,ntmps11
   go_wp2_with fail
   refine(Zab h).mono ?_;rintro e o ⟨rfl,rfl⟩;go_wp2_with fail
   go_ret
   simp only[Mach.putV,if_pos d.out,Int.toNat_natCast];exact⟨rfl,z.out,Only.setCell _ (show Zal p vm vo g from .inr (.inl (by rw[f.out];rfl))) _⟩
theorem Z1w (v:Int)(h:MAt w B p vm vo A c inp rd m)(i:0<=v/\v<=4294967295):Calls prog 27 #[.pointer (some ⟨p,0,none⟩),.int .u32 v] w
 λ e w'=>e=.returned (.int .i64 (if m.state≠0 then 2 else 0))/\MAt w' B p vm vo A c inp rd (m.goV v)/\Only (·=p) w w':=by
 have f:=h.lt;have j:=Ya h;obtain⟨_,g,_,_,_,d,_⟩:=h.cells;have f33:=h.fz 33;by_cases a:m.state=0
 .have d0:(m.state != 0)=false:=by simp[a]
  have b:=Ya a;have k:=Ya (h.went i);clear a;go_enter func27,ntmps27
  go_wp2_with fail
  refine(Zab h).mono ?_;rintro e l ⟨rfl,rfl⟩;go_wp2_with fail
  go_ret
  simp only[Mach.goV,if_neg (show ¬m.state≠0 from λ q=>q b.out)];exact⟨rfl,k.out,Only.setCell (F:=(·=p)) _ rfl _⟩
 .have d0:(m.state != 0)=true:=by simpa using a
  have b:=Ya a;clear a;go_enter func27,ntmps27
  go_wp2_with fail
  refine(Zab h).mono ?_;rintro e l ⟨rfl,rfl⟩;go_wp2_with fail
  go_ret
  simp only[Mach.goV,if_pos (show m.state≠0 from b.out)];exact⟨rfl,j.out,Only.refl _ _⟩
end
end
def Zkc (words:List Int)(size:Nat)(input:List Int):Mach:=⟨Y6 32 0,words++Y6 (size-words.length) 0,0,input,[],0,0,0,0⟩
def Zh8 (n:Nat)(size:Int):Prop:=1<=size/\size<=335544320/\(n:Int)<=size
theorem Zha (n i:Nat):(Y6 n (0:Int)).getD i 0=0:=by
 by_cases h:i<n <;> simp[h]
theorem Zur {words:List Int}{size:Nat}{input:List Int}(hs:1<=size)(hl:words.length<=size)(a:∀x∈words,0<=x/\x<=4294967295)(hi:∀x∈input,0<=x/\x<=255):(Zkc words size input).Ok:=by
 refine⟨by simp[Zkc],λ i=>?_,?_,?_,λ i=>?_,Int.le_refl _,show(0:Int)<=4294967295 by decide,hi,λ x b=>by simp[Zkc] at b,Int.le_refl _,show(0:Int)<=4294967295 by decide⟩
 .show 0<=(Y6 32 (0:Int)).getD i 0/\(Y6 32 (0:Int)).getD i 0<=4294967295
  rw[Zha];decide
 .show(Y6 32 (0:Int)).getD 0 0=0
  rw[Zha]
 .simp[Zkc];omega
 .show 0<=(words++Y6 (size-words.length) 0).getD i 0/\(words++Y6 (size-words.length) 0).getD i 0<=4294967295
  by_cases h:i<words.length
  .have e:(words++Y6 (size-words.length) 0).getD i 0=words[i]:=by simp[List.getElem?_append_left h,List.getElem?_eq_getElem h]
   rw[e];exact a _ (List.getElem_mem _)
  .have e:(words++Y6 (size-words.length) (0:Int)).getD i 0=(Y6 (size-words.length) (0:Int)).getD (i-words.length) 0:=by
    simp only[List.getD_eq_getElem?_getD];rw[List.getElem?_append_right (by omega)]
   rw[e,Zha]
   decide
