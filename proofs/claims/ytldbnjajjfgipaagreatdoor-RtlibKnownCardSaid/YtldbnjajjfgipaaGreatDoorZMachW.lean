/- Parts. -/
import Derived.Test.YtldbnjajjfgipaaGreatDoorZMachP
import Derived.Test.YtldbnjajjfgipaaGreatDoorZIsaE
set_option linter.all false
set_option maxHeartbeats 8000000
open Go.Lib renaming hid->Ya
open Nat renaming le_refl->Yd
open Go.RowKit.Below renaming refl->Yj
open List renaming length_cons->Yk,replicate->Y1
open Bool renaming and_eq_true->Yq
namespace Go.Proofs.YtldbnjajjfgipaaGreatDoor
open S Go.Proofs.Tryz Go.RowKit
set_option maxRecDepth 100000
namespace S
def isU (c:Int):Bool:=decide (0<=c) && decide (c<=1114111) && (decide (c<55296) || decide (c>57343))
def bytesU (c:Int):List Int :=
 if c<128 then [c]
 else if c<2048 then [192+c/64,128+c%64]
 else if c<65536 then [224+c/4096,128+c/64%64,128+c%64]
 else [240+c/262144,128+c/4096%64,128+c/64%64,128+c%64]
def fstU (n:Nat)(f:Int):Int:=if n=2 then f%32 else if n=3 then f%16 else if n=4 then f%8 else f
def foldU (n:Int)(l:List Int):Int:=l.foldl (λ n x=>64*n+x%64) n
def toldU (l:List Int):Int:=foldU (fstU l.length (l.getD 0 0)) l.tail
def tryU (l:List Int)(n:Nat):Bool:=decide (n<=l.length) && isU (toldU (l.take n)) && decide (bytesU (toldU (l.take n))=l.take n)
def getU (l:List Int):Option (Int×Nat) :=
 if tryU l 1=true then some (toldU (l.take 1),1) else if tryU l 2=true then some (toldU (l.take 2),2)
 else if tryU l 3=true then some (toldU (l.take 3),3) else if tryU l 4=true then some (toldU (l.take 4),4) else none
def allU:Nat->List Int->Option (List Int)
 | _,[]=>some []
 | 0,_::_=>none
 | f+1,x::l=>match getU (x::l) with
  | some y=>match allU f ((x::l).drop y.2) with
   | some r=>some (y.1::r)
   | none=>none
  | none=>none
def codesU (l:List Int):Option (List Int):=allU l.length l
def wordU (c:Int):Int:=16*c+2
def charsU (l:List Int):List Int:=match codesU l with
 | some r=>r.map wordU
 | none=>[]
end S
theorem Zeq {l:List Int}{c:Int}{n:Nat}(h:S.getU l=some (c,n)):1<=n/\n<=4/\n<=l.length/\S.isU c=true/\S.bytesU c=l.take n:=by
 have key:∀n:Nat,S.tryU l n=true->n<=l.length/\S.isU (S.toldU (l.take n))=true/\S.bytesU (S.toldU (l.take n))=l.take n:=λ n h=>by
  unfold S.tryU at h;simp only[Yq,decide_eq_true_eq] at h;exact⟨h.1.1,h.1.2,h.2⟩
 unfold S.getU at h
 repeat' split at h
 .cases h;exact⟨by decide,by decide,key _ (by assumption)⟩
 .cases h;exact⟨by decide,by decide,key _ (by assumption)⟩
 .cases h;exact⟨by decide,by decide,key _ (by assumption)⟩
 .cases h;exact⟨by decide,by decide,key _ (by assumption)⟩
 .cases h
theorem Zc7:∀(f:Nat)(l r:List Int),S.allU f l=some r->l=r.flatMap S.bytesU/\(∀c∈r,S.isU c=true)/\r.length<=l.length
 | _,[],r,h=>by
  unfold S.allU at h
  cases h
  exact⟨rfl,λ c hc=>(by cases hc),by simp⟩
 | 0,x::l,r,h=>by
  unfold S.allU at h
  cases h
 | f+1,x::l,r,h=>by
  unfold S.allU at h
  split at h
  .rename_i y hy
   obtain⟨c,n⟩:=y
   split at h
   .rename_i q hq
    cases h
    obtain⟨g1,g2,g3,g4,g5⟩:=Zeq hy;obtain⟨k1,k2,k3⟩:=Zc7 f _ _ hq;refine⟨?_,λ d hd=>?_,?_⟩
    .rw[List.flatMap_cons,<- k1]
     show _=S.bytesU c++_
     rw[g5,List.take_append_drop]
    .rcases List.mem_cons.1 hd with rfl|hd
     .exact g4
     .exact k2 d hd
    .rw[List.length_drop] at k3
     rw[Yk];simp only at k3;omega
   .cases h
  .cases h
theorem Zoe {c:Int}(h:S.isU c=true):0<=c/\c<=1114111:=by
 unfold S.isU at h;simp only[Yq,decide_eq_true_eq] at h;exact h.1
theorem Zlm:∀(f g:Nat)(l:List Int),l.length<=f->l.length<=g->S.allU f l=S.allU g l
 | 0,g,[],_,_=>by cases g <;> rfl
 | f+1,g,[],_,_=>by cases g <;> rfl
 | 0,_,x::l,h,_=>by simp at h
 | f+1,0,x::l,_,h=>by simp at h
 | f+1,g+1,x::l,h1,h2=>by
  rw[S.allU,S.allU]
  split
  .rename_i y hy
   obtain⟨c,n⟩:=y;have hg:=Zeq hy;rw[Yk] at h1 h2;rw[Zlm f g ((x::l).drop n) (by rw[List.length_drop,Yk];omega) (by rw[List.length_drop,Yk];omega)]
  .rfl
theorem Zhb {x:Int}{l:List Int}:S.codesU (x::l)=match S.getU (x::l) with
 | some y=>match S.codesU ((x::l).drop y.2) with
  | some r=>some (y.1::r)
  | none=>none
 | none=>none:=by
 unfold S.codesU;rw[Yk,S.allU]
 split
 .rename_i y hy
  obtain⟨c,n⟩:=y;have hg:=Zeq hy;simp only;rw[Zlm l.length ((x::l).drop n).length ((x::l).drop n) (by rw[List.length_drop,Yk];omega) (Yd _)]
 .rfl
theorem Zsf (l:List Int):∀x∈S.charsU l,0<=x/\x<=17825778/\x%16=2:=λ x hx=>by
 unfold S.charsU at hx
 split at hx
 .rename_i r hr
  obtain⟨c,hc,rfl⟩:=List.mem_map.1 hx;have:=Zoe ((Zc7 _ _ _ hr).2.1 c hc);unfold S.wordU;omega
 .cases hx
theorem Zpl (l:List Int):(S.charsU l).length<=l.length:=by
 unfold S.charsU
 split
 .rename_i r hr
  rw[List.length_map];exact(Zc7 _ _ _ hr).2.2
 .simp
section
theorem Z06 {n:Int}(h:decE n=0):1<=(dec n).op/\(dec n).op<=36/\0<=(dec n).d/\(dec n).d<=31/\0<=(dec n).a/\(dec n).a<=31/\0<=(dec n).b/\(dec n).b<=31:=by
 have hB:decB n=true:=by
  unfold decE at h
  split at h
  .assumption
  .omega
 have hg:good (raw n)=true:=by
  unfold decB at hB;simp only[Yq] at hB;exact hB.1
 have e:dec n=raw n:=by unfold dec;rw[if_pos hB]
 rw[e];obtain⟨h1,h2,h3,h4,h5,h6,h7,h8,_⟩:=Zer (op:=(raw n).op) (d:=(raw n).d) (a:=(raw n).a) (b:=(raw n).b) (imm:=(raw n).imm) hg;exact⟨h1,h2,h3,h4,h5,h6,h7,h8⟩
theorem Zf8 (m:Mach)(op d a b imm:Int):m.act ⟨op,d,a,b,imm⟩=(m,0,4)\/m.act ⟨op,d,a,b,imm⟩=(m,0,2)\/(∃v,m.act ⟨op,d,a,b,imm⟩=(m.put d v,u32m (m.place+1),0))\/(∃l,m.act ⟨op,d,a,b,imm⟩=({ m with mem:=l },u32m (m.place+1),0)) \/
 (∃x,m.act ⟨op,d,a,b,imm⟩=(m,u32m x,0))\/(∃v x,m.act ⟨op,d,a,b,imm⟩=(m.put d v,u32m x,0))\/(∃v r,m.act ⟨op,d,a,b,imm⟩=(({ m with input:=r }:Mach).put d v,u32m (m.place+1),0)) \/
 (∃o,m.act ⟨op,d,a,b,imm⟩=({ m with out:=o },u32m (m.place+1),0)/\o.length=m.out.length+1)\/(∃v,m.act ⟨op,d,a,b,imm⟩=({ m with state:=1,code:=v },m.place,0)):=by
 unfold Mach.act;simp only;by_cases h1:op<=14
 .rw[if_pos h1]
  by_cases h2:m.rd b=0/\(op=5\/op=6)
  .rw[if_pos h2];exact .inl rfl
  .rw[if_neg h2];exact .inr (.inr (.inl ⟨_,rfl⟩))
 rw[if_neg h1];by_cases h2:op<=22
 .rw[if_pos h2];exact .inr (.inr (.inl ⟨_,rfl⟩))
 rw[if_neg h2];by_cases h3:op=23
 .rw[if_pos h3];exact .inr (.inr (.inl ⟨_,rfl⟩))
 rw[if_neg h3];by_cases h4:op=24
 .rw[if_pos h4]
  by_cases h5:u32m (m.rd a+u32m imm)<m.mem.length
  .rw[if_pos h5];exact .inr (.inr (.inl ⟨_,rfl⟩))
  .rw[if_neg h5];exact .inr (.inl rfl)
 rw[if_neg h4];by_cases h5:op=25
 .rw[if_pos h5]
  by_cases h6:u32m (m.rd a+u32m imm)<m.mem.length
  .rw[if_pos h6];exact .inr (.inr (.inr (.inl ⟨_,rfl⟩)))
  .rw[if_neg h6];exact .inr (.inl rfl)
 rw[if_neg h5];by_cases h6:op<=31
 .rw[if_pos h6]
  by_cases h7:goes op (m.rd a) (m.rd b)=true
  .rw[if_pos h7];exact .inr (.inr (.inr (.inr (.inl ⟨_,rfl⟩))))
  .rw[if_neg h7];exact .inr (.inr (.inr (.inr (.inl ⟨_,rfl⟩))))
 rw[if_neg h6];by_cases h7:op=32
 .rw[if_pos h7];exact .inr (.inr (.inr (.inr (.inr (.inl ⟨_,_,rfl⟩)))))
 rw[if_neg h7];by_cases h8:op=33
 .rw[if_pos h8];exact .inr (.inr (.inr (.inr (.inr (.inl ⟨_,_,rfl⟩)))))
 rw[if_neg h8];by_cases h9:op=34
 .rw[if_pos h9]
  cases hi:m.input with
  | nil=>exact .inr (.inr (.inl ⟨_,rfl⟩))
  | cons x r=>exact .inr (.inr (.inr (.inr (.inr (.inr (.inl ⟨_,_,rfl⟩))))))
 rw[if_neg h9];by_cases h10:op=35
 .rw[if_pos h10];exact .inr (.inr (.inr (.inr (.inr (.inr (.inr (.inl ⟨_,rfl,by simp⟩)))))))
 rw[if_neg h10];exact .inr (.inr (.inr (.inr (.inr (.inr (.inr (.inr ⟨_,rfl⟩)))))))
theorem Zsg (m:Mach)(d v:Int):(m.put d v).steps=m.steps:=by unfold Mach.put;split <;> rfl
theorem Z07 {m:Mach}(h:m.Ok){op d a b imm:Int}:0<=(m.act ⟨op,d,a,b,imm⟩).2.1/\(m.act ⟨op,d,a,b,imm⟩).2.1<=4294967295:=by
 rcases Zf8 m op d a b imm with e|e|⟨v,e⟩|⟨l,e⟩|⟨x,e⟩|⟨v,x,e⟩|⟨v,r,e⟩|⟨o,e,eo⟩|⟨v,e⟩
 all_goals rw[e]
 .simp
 .simp
 all_goals first|exact Zab _|exact⟨h.place0,h.place1⟩
theorem Zsh (m:Mach)(op d a b imm:Int):(m.act ⟨op,d,a,b,imm⟩).1.steps=m.steps:=by
 rcases Zf8 m op d a b imm with e|e|⟨v,e⟩|⟨l,e⟩|⟨x,e⟩|⟨v,x,e⟩|⟨v,r,e⟩|⟨o,e,eo⟩|⟨v,e⟩
 all_goals rw[e]
 all_goals first|rfl|exact Zsg _ _ _
theorem Zvt (m:Mach)(op d a b imm:Int)(h:(m.act ⟨op,d,a,b,imm⟩).2.2≠0):(m.act ⟨op,d,a,b,imm⟩).1=m:=by
 rcases Zf8 m op d a b imm with e|e|⟨v,e⟩|⟨l,e⟩|⟨x,e⟩|⟨v,x,e⟩|⟨v,r,e⟩|⟨o,e,eo⟩|⟨v,e⟩
 all_goals rw[e] at h⊢
 all_goals exact absurd rfl h
theorem Zyr (m:Mach)(d v:Int):(m.put d v).out=m.out:=by unfold Mach.put;split <;> rfl
theorem Zys (m:Mach)(op d a b imm:Int):(m.act ⟨op,d,a,b,imm⟩).1.out.length<=m.out.length+1:=by
 rcases Zf8 m op d a b imm with e|e|⟨v,e⟩|⟨l,e⟩|⟨x,e⟩|⟨v,x,e⟩|⟨v,r,e⟩|⟨o,e,eo⟩|⟨v,e⟩
 all_goals rw[e]
 all_goals simp only[Zyr]
 all_goals omega
theorem Zsi (m:Mach):m.step.out.length<=m.out.length+1/\m.steps<=m.step.steps/\m.step.steps<=m.steps+1:=by
 unfold Mach.step;by_cases h1:m.state≠0
 .rw[if_pos h1];omega
 rw[if_neg h1];by_cases h2:(m.mem.length:Int)<=m.place
 .rw[if_pos h2];simp only[Mach.fell];omega
 rw[if_neg h2];by_cases h3:decE (m.mem.getD m.place.toNat 0)≠0
 .rw[if_pos h3];simp only[Mach.fell];omega
 rw[if_neg h3];by_cases h4:(m.act (dec (m.mem.getD m.place.toNat 0))).2.2≠0
 .rw[if_pos h4];simp only[Mach.fell];omega
 rw[if_neg h4];have:=Zys m (dec (m.mem.getD m.place.toNat 0)).op (dec (m.mem.getD m.place.toNat 0)).d (dec (m.mem.getD m.place.toNat 0)).a (dec (m.mem.getD m.place.toNat 0)).b (dec (m.mem.getD m.place.toNat 0)).imm;exact⟨this,by show m.steps<=m.steps+1;omega,Int.le_refl _⟩
theorem Zi1 (m:Mach):∀k:Nat,(m.steps_ k).out.length<=m.out.length+k/\m.steps<=(m.steps_ k).steps/\(m.steps_ k).steps<=m.steps+k
 | 0=>by simp[Mach.steps_]
 | k+1=>by
  obtain⟨h1,h2,h3⟩:=Zi1 m k;obtain⟨g1,g2,g3⟩:=Zsi (m.steps_ k)
  show(m.steps_ k).step.out.length<=_/\_<=(m.steps_ k).step.steps/\(m.steps_ k).step.steps<=_
  omega
theorem Zsj {m:Mach}(h:m.state≠0):m.step=m:=by unfold Mach.step;rw[if_pos h]
theorem Zi2 {m:Mach}{k:Nat}(h:(m.steps_ k).state≠0):∀j:Nat,m.steps_ (k+j)=m.steps_ k
 | 0=>rfl
 | j+1=>by
  have:=Zi2 h j
  show(m.steps_ (k+j)).step=_
  rw[this,Zsj h]
theorem Z4g {w:World}{b:Nat}{cs:Array Value}{t:TypeId}(h:w.heap[b]?=some (.cells cs t (0,0)))(hs:cs.size=5)(v0 v1 v2 v3 v4:Value){w':World}
 (he:w'=(((((w.setCell ⟨b,0,none⟩ v0).setCell ⟨b,1,none⟩ v1).setCell ⟨b,2,none⟩ v2).setCell ⟨b,3,none⟩ v3).setCell ⟨b,4,none⟩ v4)) :
 b<w'.heap.size/\(w'.cell? ⟨b,0,none⟩=some v0/\w'.cell? ⟨b,1,none⟩=some v1/\w'.cell? ⟨b,2,none⟩=some v2/\w'.cell? ⟨b,3,none⟩=some v3/\w'.cell? ⟨b,4,none⟩=some v4)/\Below b w w':=by
 subst he;have h1:=heap_setCell_same w b 0 cs t v0 h;have h2:=heap_setCell_same _ b 1 _ t v1 h1;have h3:=heap_setCell_same _ b 2 _ t v2 h2;have h4:=heap_setCell_same _ b 3 _ t v3 h3;have h5:=heap_setCell_same _ b 4 _ t v4 h4;refine⟨(Array.getElem?_eq_some_iff.1 h5).1,⟨?_,?_,?_,?_,?_⟩,?_⟩
 .rw[Z0 h5];simp[hs]
 .rw[Z0 h5];simp[hs]
 .rw[Z0 h5];simp[hs]
 .rw[Z0 h5];simp[hs]
 .rw[Z0 h5];simp[hs]
 .exact((((((Yj b w).setCell (p:=⟨b,0,none⟩) (Yd _) _).setCell (p:=⟨b,1,none⟩) (Yd _) _).setCell (p:=⟨b,2,none⟩) (Yd _) _).setCell (p:=⟨b,3,none⟩) (Yd _) _).setCell (p:=⟨b,4,none⟩) (Yd _) _)
theorem Z08 (w:World)(t:TypeId)(v0 v1 v2 v3 v4:Value){w':World}(he:w'=w.alloc (.cells #[v0,v1,v2,v3,v4] t)) :
 w.heap.size<w'.heap.size/\(w'.cell? ⟨w.heap.size,0,none⟩=some v0/\w'.cell? ⟨w.heap.size,1,none⟩=some v1/\w'.cell? ⟨w.heap.size,2,none⟩=some v2/\w'.cell? ⟨w.heap.size,3,none⟩=some v3/\w'.cell? ⟨w.heap.size,4,none⟩=some v4)/\Below w.heap.size w w':=by
 subst he;obtain⟨x1,x2,x3⟩:=Zff w #[v0,v1,v2,v3,v4] t;exact⟨by omega,⟨by rw[Z0 x1];rfl,by rw[Z0 x1];rfl,by rw[Z0 x1];rfl,by rw[Z0 x1];rfl,by rw[Z0 x1];rfl⟩,x2⟩
theorem Zpm {w1 w2 w':World}{t:TypeId}{v0 v1 v2 v3 v4:Value}(hb:Below w1.drew.heap.size w1.drew w2)(he:w'=w2.alloc (.cells #[v0,v1,v2,v3,v4] t)) :
 w2.heap.size<w'.heap.size/\(w'.cell? ⟨w2.heap.size,0,none⟩=some v0/\w'.cell? ⟨w2.heap.size,1,none⟩=some v1/\w'.cell? ⟨w2.heap.size,2,none⟩=some v2/\w'.cell? ⟨w2.heap.size,3,none⟩=some v3/\w'.cell? ⟨w2.heap.size,4,none⟩=some v4)/\Below w1.heap.size w1 w':=by
 obtain⟨h1,h2,h3⟩:=Z08 w2 t v0 v1 v2 v3 v4 he;have hb':Below w1.heap.size w1.drew w2:=hb;exact⟨h1,h2,(((Yj _ _).drew).trans hb').trans (h3.mono hb'.size)⟩
theorem Zne {w1 w2 w':World}{t:TypeId}{z v0 v1 v2 v3 v4:Value}(hb0:Below (w1.alloc (.cells #[z,z,z,z,z] t)).drew.heap.size (w1.alloc (.cells #[z,z,z,z,z] t)).drew w2)
 (he:w'=(((((w2.setCell ⟨w1.heap.size,0,none⟩ v0).setCell ⟨w1.heap.size,1,none⟩ v1).setCell ⟨w1.heap.size,2,none⟩ v2).setCell ⟨w1.heap.size,3,none⟩ v3).setCell ⟨w1.heap.size,4,none⟩ v4)) :
 w1.heap.size<w'.heap.size/\(w'.cell? ⟨w1.heap.size,0,none⟩=some v0/\w'.cell? ⟨w1.heap.size,1,none⟩=some v1/\w'.cell? ⟨w1.heap.size,2,none⟩=some v2/\w'.cell? ⟨w1.heap.size,3,none⟩=some v3/\w'.cell? ⟨w1.heap.size,4,none⟩=some v4)/\Below w1.heap.size w1 w':=by
 have hz:(w1.alloc (.cells #[z,z,z,z,z] t)).heap.size=w1.heap.size+1:=by simp
 have hb:Below (w1.heap.size+1) (w1.alloc (.cells #[z,z,z,z,z] t)) w2:=by
  rw[<- hz];exact((Yj _ _).drew).trans hb0
 have hk:w2.heap[w1.heap.size]?=some (.cells #[z,z,z,z,z] t (0,0)):=(hb.block w1.heap.size (Nat.lt_succ_self _)).trans (heap_alloc_new w1 (.cells #[z,z,z,z,z] t));obtain⟨h1,h2,h3⟩:=Z4g hk rfl v0 v1 v2 v3 v4 he;exact⟨h1,h2,(((Yj w1.heap.size w1).alloc (Yd w1.heap.size) _).trans (hb.mono (Nat.le_succ _))).trans h3⟩
section
variable {w w':World}{B p:Nat}{vm vo:Value}{A:Option Addr}{c:Nat}{inp:List Int}{rd:Nat}{m:Mach}
def Zvu (w:World)(B p:Nat)(vm vo:Value)(A:Option Addr)(c:Nat)(inp:List Int)(m':Mach)(e:Ending)(w':World):Prop :=
 e=.returned (.int .i64 m'.state)/\∃vo' rd',MAt w' B p vm vo' A c inp rd' m'/\Only (Zai p vm vo) w w'/\(vo'.ownBlock=vo.ownBlock\/∃k,w.heap.size<=k/\vo'.ownBlock=some k)
theorem Zsk (h:MAt w B p vm vo A c inp rd m)(hol:m.out.length<=1000000000)(hst:0<=m.steps/\m.steps<=1000000000) :
 Calls prog 58 #[.pointer (some ⟨p,0,none⟩)] w (Zvu w B p vm vo A c inp m.step):=by
 have hpw:=h.lt;have hp0:=h.ok.place0;have hp1:=h.ok.place1;have hl0:=h.low0;obtain⟨g,cap,hvm,hg,hmc,hfz⟩:=h.memv;obtain⟨c32,c33,_,_,_,c37,_,_,_⟩:=h.cells;by_cases hs:m.state=0
 rotate_left
 .have d1:(m.state != 0)=true:=by simpa using hs
  have Hst:=Ya (show m.step=m by unfold Mach.step;rw[if_pos hs]);clear hs hmc;go_enter func58,ntmps58
  go_wp2_with fail
  refine(Z7 h).mono ?_;rintro e w2 ⟨rfl,rfl⟩;go_wp2_with fail
  go_ret
  rw[Hst.out];exact⟨rfl,vo,rd,h,Only.refl _ _,.inl rfl⟩
 .have d1:(m.state != 0)=false:=by simp[hs]
  have Hs:=Ya hs;have hw1:IntKind.u64.wrap m.place=m.place:=by simp[IntKind.wrap,IntKind.signed,IntKind.bits];omega
  have hw2:IntKind.u64.wrap (m.mem.length:Int)=m.mem.length:=by simp[IntKind.wrap,IntKind.signed,IntKind.bits];omega
  have Hvm:=Ya hvm;have Hmc:=Ya hmc;rw[hvm] at c32;clear hs hvm hmc;by_cases hpl:(m.mem.length:Int)<=m.place
  .have Hst:=Ya (show m.step=m.fell 3 by unfold Mach.step;rw[if_neg (by simp[Hs.out]),if_pos hpl])
   go_enter func58,ntmps58
   go_wp2_with fail
   refine(Z7 h).mono ?_;rintro e w2 ⟨rfl,rfl⟩;go_wp2_with fail
   go_quiet (fail)
   go_wp2_with fail
   refine(Zha 3 (h.drewN _)).mono ?_;rintro e w3 ⟨rfl,hM3,hO3⟩;go_wp2_with fail
   go_ret
   rw[Hst.out];exact⟨rfl,vo,rd,hM3,(Only.drewN _ _).trans (Zcx hO3) (λ _ _ h=>h),.inl rfl⟩
  .obtain⟨t,ht⟩:∃t:Nat,m.place=t:=⟨m.place.toNat,by omega⟩
   have htl:t<m.mem.length:=by omega
   have Hdl:=Ya (show decide (m.mem.length<=t)=false by simpa using htl);have hmt:=Hmc.out t htl;have hmw:=h.ok.memw t;have HE:Hid (m.mem.getD m.place.toNat 0=m.mem.getD t 0/\¬(m.mem.length:Int)<=m.place):=Ya ⟨by rw[ht,Int.toNat_natCast],hpl⟩;have Ht:=Ya ht;rw[ht] at c33 hw1 hpl;clear ht hp0 hp1 Hmc;generalize m.mem.getD t 0=mw at *;obtain⟨mw0,mw1⟩:=hmw;go_enter func58,ntmps58
   go_wp2_with fail
   refine(Z7 h).mono ?_;rintro e w2 ⟨rfl,rfl⟩;go_wp2_with fail
   go_quiet (fail)
   go_upto_region 7 with fail
   have hM1:=h.drewN nq;have hO1:=Only.drewN (F:=Zai p vm vo) w nq;have c32':(w.drewN nq).cell? ⟨p,32,none⟩=some (.slice (some ⟨g,0,none⟩) m.mem.length cap):=c32;have c33':(w.drewN nq).cell? ⟨p,33,none⟩=some (.int .u32 t):=c33;have hmt':(w.drewN nq).cell? ⟨g,t,none⟩=some (.int .u32 mw):=hmt;have hpw':p<(w.drewN nq).heap.size:=hpw;have hg':g<(w.drewN nq).heap.size:=hg;have hz1:w.heap.size<=(w.drewN nq).heap.size:=Yd _;generalize w.drewN nq=w1 at *;clear c32 c33 hmt c37;rw[Hdl.out]
   go_cut [3,4] from 36 to 49 (λ v3 v4 wc=>∃nb,v3=.pointer (some ⟨nb,0,none⟩)/\v4=.int .i64 (decE mw)/\nb<wc.heap.size/\(wc.cell? ⟨nb,0,none⟩=some (.int .i64 (dec mw).op)/\wc.cell? ⟨nb,1,none⟩=some (.int .i64 (dec mw).d)/\wc.cell? ⟨nb,2,none⟩=some (.int .i64 (dec mw).a)/\wc.cell? ⟨nb,3,none⟩=some (.int .i64 (dec mw).b)/\wc.cell? ⟨nb,4,none⟩=some (.int .i64 (dec mw).imm))/\Below w1.heap.size w1 wc)
   case first =>
    go_region_with (go_at_call 125;refine(Zpd _ _ mw0 mw1).mono ?_;rintro e w2 ⟨rfl,hb2⟩;obtain⟨hq1,hq2⟩:=Zhf hb2;have hz2:=hb2.size)
    all_goals
     simp only[List.getElem_toArray,List.getElem_cons_succ,List.getElem_cons_zero,Act.put,List.setIfInBounds_toArray,List.set_cons_succ,List.set_cons_zero];go_wp2_with fail
     go_meet
     first
      | (refine⟨w2.heap.size,by kernel_rfl,by kernel_rfl,?_⟩;with_reducible exact Zpm hb2 rfl)
      | (refine⟨w1.heap.size,by kernel_rfl,by kernel_rfl,?_⟩;with_reducible exact Zne hb2 rfl)
      | skip
   case rest =>
    obtain⟨nb,rfl,rfl,hnb,⟨q0,q1,q2,q3,q4⟩,hbc⟩:=hcut;have hM2:=hM1.below hbc;have hO2:=hO1.trans (Only.of_below (F:=Zai p vm vo) hbc) (λ _ _ h=>h);by_cases hE0:decE mw=0
    .obtain⟨o1,o2,d1,d2,a1,a2,b1,b2⟩:=Z06 hE0
     have Hst0:Hid (m.step=if (m.act (dec mw)).2.2≠0 then m.fell (m.act (dec mw)).2.2 else { (m.act (dec mw)).1 with place:=(m.act (dec mw)).2.1,steps:=m.steps+1 }):=Ya (by
      unfold Mach.step;rw[if_neg (by simp[Hs.out]),if_neg (by have:=HE.out.2;omega),HE.out.1,if_neg (by simp[hE0])])
     generalize hdw:dec mw=dw at *;obtain⟨op,dd,da,db,imm⟩:=dw;simp only at o1 o2 d1 d2 a1 a2 b1 b2 q0 q1 q2 q3 q4;rw[hE0];have hdo:=Zyq op dd da db imm hM2 ⟨o1,o2⟩ ⟨d1,by omega⟩ ⟨a1,by omega⟩ ⟨b1,by omega⟩ hol;have hto:=Z07 (op:=op) (d:=dd) (a:=da) (b:=db) (imm:=imm) h.ok;have hks:=Zsh m op dd da db imm;have hmt:=Zvt m op dd da db imm;generalize m.act ⟨op,dd,da,db,imm⟩=r at *;obtain⟨m2,tt,tr⟩:=r;simp only at hto hks hmt Hst0;have Hdo:=Ya hdo;clear hdo hE0 hdw;go_wp2_with fail
     refine Hdo.out.mono ?_;rintro e w3 ⟨rfl,vo',rd',hM3,hO3,hv3⟩;have hO13:=hO2.trans hO3 (λ _ _ h=>h);have hv3':vo'.ownBlock=vo.ownBlock\/∃k,w.heap.size<=k/\vo'.ownBlock=some k:=by
      rcases hv3 with e|⟨k,hk,e⟩
      .exact .inl e
      .exact .inr ⟨k,by have:=hO2.size;omega,e⟩
     have hvf:∀k,k<w.heap.size->vo'.ownBlock=some k->vo.ownBlock=some k:=by
      intro k hk e;rcases hv3' with e2|⟨k2,hk2,e2⟩
      .rw[<- e2];exact e
      .rw[e2] at e;cases e;omega
     clear Hdo;simp only;by_cases htr:tr=0
     .subst htr
      have Hst:=Ya (show m.step={ m2 with place:=tt,steps:=m.steps+1 } by rw[Hst0.out,if_neg (by simp)]);have hW:=hM3.went hto;have f33:=hM3.fz 33;obtain⟨_,e33,_,_,_,_,_,_,_⟩:=hM3.cells;have f40:=hW.fz 40;obtain⟨_,_,_,_,_,e37,_,_,e40⟩:=hW.cells;have hpw3:=hM3.lt;have hS:=hW.stepped (m.steps+1);obtain⟨_,_,_,_,_,g37,_,_,_⟩:=hS.cells;simp only[hks] at e40;have HS:=Ya hS;clear hS hW;go_wp2_with fail
      go_ret
      rw[Hst.out];exact⟨rfl,vo',rd',HS.out,hO13.trans ((Only.setCell (F:=Zai p vm vo) _ (.inl rfl) _).trans (Only.setCell (F:=Zai p vm vo) _ (.inl rfl) _) (λ _ _ h=>h)) (λ _ _ h=>h),hv3'⟩
     .have dT:(tr != 0)=true:=by simpa using htr
      have Hst:=Ya (show m.step=m.fell tr by rw[Hst0.out,if_pos htr]);have hm2:m2=m:=hmt htr;clear htr;go_wp2_with fail
      refine(Zha tr hM3).mono ?_;rintro e w4 ⟨rfl,hM4,hO4⟩;go_wp2_with fail
      go_ret
      rw[Hst.out];rw[hm2] at hM4;exact⟨rfl,vo',rd',hM4,hO13.trans (Zcx hO4) (λ _ _ h=>h),hv3'⟩
    .have dE:=Zj8 hE0
     have Hst:=Ya (show m.step=m.fell 1 by
      unfold Mach.step;rw[if_neg (by simp[Hs.out]),if_neg (by have:=HE.out.2;omega),HE.out.1,if_pos hE0])
     clear hE0;go_wp2_with fail
     refine(Zha 1 hM2).mono ?_;rintro e w3 ⟨rfl,hM3,hO3⟩;go_wp2_with fail
     go_ret
     rw[Hst.out];exact⟨rfl,vo,rd,hM3,hO2.trans (Zcx hO3) (λ _ _ h=>h),.inl rfl⟩
end
end
section
section
variable {w w':World}{B p:Nat}{vm vo:Value}{A:Option Addr}{c:Nat}{inp:List Int}{rd:Nat}{m:Mach}
namespace S.Mach
def regV (m:Mach)(i:Int):Int:=if 0<=i/\i<32 then m.reg.getD i.toNat 0 else 0
def memV (m:Mach)(i:Int):Int:=if 0<=i/\i<m.mem.length then m.mem.getD i.toNat 0 else 0
def memB (m:Mach)(i:Int):Bool:=decide (0<=i/\i<m.mem.length)
end S.Mach
theorem Zpn (h:MAt w B p vm vo A c inp rd m):Calls prog 24 #[.pointer (some ⟨p,0,none⟩)] w λ e w'=>e=.returned (.int .u32 m.place)/\w=w':=by
 obtain⟨_,cc,_,_,_,_,_,_,_⟩:=h.cells;have hlt:=h.lt;go_enter func24,ntmps24
 go_wp2_with fail
 refine(Z7 h).mono ?_;rintro e w2 ⟨rfl,rfl⟩;go_wp2_with fail
 go_ret
 exact⟨rfl,rfl⟩
theorem Zsl (h:MAt w B p vm vo A c inp rd m):Calls prog 25 #[.pointer (some ⟨p,0,none⟩)] w λ e w'=>e=.returned (.int .u32 m.code)/\w=w':=by
 obtain⟨_,_,_,_,_,_,cc,_,_⟩:=h.cells;have hlt:=h.lt;go_enter func25,ntmps25
 go_wp2_with fail
 refine(Z7 h).mono ?_;rintro e w2 ⟨rfl,rfl⟩;go_wp2_with fail
 go_ret
 exact⟨rfl,rfl⟩
theorem Zvv (i:Int)(h:MAt w B p vm vo A c inp rd m):Calls prog 9 #[.pointer (some ⟨p,0,none⟩),.int .i64 i] w λ e w'=>e=.returned (.int .u32 (m.regV i))/\w=w':=by
 have hlt:=h.lt;by_cases h0:i<0
 .have Hv:=Ya (show m.regV i=0 by unfold Mach.regV;rw[if_neg (by omega)])
  go_enter func9,ntmps9
  go_wp2_with fail
  refine(Z7 h).mono ?_;rintro e w2 ⟨rfl,rfl⟩;go_wp2_with fail
  go_ret
  exact⟨by rw[Hv.out];rfl,rfl⟩
 .by_cases h1:32<=i
  .have Hv:=Ya (show m.regV i=0 by unfold Mach.regV;rw[if_neg (by omega)])
   go_enter func9,ntmps9
   go_wp2_with fail
   refine(Z7 h).mono ?_;rintro e w2 ⟨rfl,rfl⟩;go_wp2_with fail
   go_ret
   exact⟨by rw[Hv.out];rfl,rfl⟩
  .obtain⟨k,rfl⟩:∃k:Nat,i=k:=⟨i.toNat,by omega⟩
   have hk:k<32:=by omega
   have hr:=h.reg hk;have Hv:=Ya (show m.regV k=m.reg.getD k 0 by unfold Mach.regV;rw[if_pos (by omega)];rfl);generalize m.reg.getD k 0=rv at *;go_enter func9,ntmps9
   go_wp2_with fail
   refine(Z7 h).mono ?_;rintro e w2 ⟨rfl,rfl⟩;go_wp2_with fail
   go_ret
   exact⟨by rw[Hv.out];rfl,rfl⟩
theorem Zvw (i:Int)(h:MAt w B p vm vo A c inp rd m):Calls prog 30 #[.pointer (some ⟨p,0,none⟩),.int .i64 i] w λ e w'=>e=.returned (.tuple #[.int .u32 (m.memV i),.bool (m.memB i)])/\∃n,w'=w.drewN n:=by
 have hlt:=h.lt;have hl0:=h.low0;obtain⟨g,cap,hvm,hg,hmc,hfz⟩:=h.memv;obtain⟨c32,_⟩:=h.cells;rw[hvm] at c32;have Hmc:=Ya hmc;clear hvm hmc hfz;by_cases h0:i<0
 .have Hv:=Ya (show m.memV i=0 by unfold Mach.memV;rw[if_neg (by omega)])
  have Hb:=Ya (show m.memB i=false by unfold Mach.memB;rw[decide_eq_false_iff_not];omega);go_enter func30,ntmps30
  go_wp2_with fail
  refine(Z7 h).mono ?_;rintro e w2 ⟨rfl,rfl⟩;go_wp2_with fail
  go_ret2
  exact⟨by rw[Hv.out,Hb.out];rfl,0,rfl⟩
 .by_cases h1:(m.mem.length:Int)<=i
  .have Hv:=Ya (show m.memV i=0 by unfold Mach.memV;rw[if_neg (by omega)])
   have Hb:=Ya (show m.memB i=false by unfold Mach.memB;rw[decide_eq_false_iff_not];omega);go_enter func30,ntmps30
   go_wp2_with fail
   refine(Z7 h).mono ?_;rintro e w2 ⟨rfl,rfl⟩;go_wp2_with fail
   go_ret2
   exact⟨by rw[Hv.out,Hb.out];rfl,0,rfl⟩
  .obtain⟨k,rfl⟩:∃k:Nat,i=k:=⟨i.toNat,by omega⟩
   have hk:k<m.mem.length:=by omega
   have hr:=Hmc.out k hk;have Hv:=Ya (show m.memV k=m.mem.getD k 0 by unfold Mach.memV;rw[if_pos (by omega)];rfl);have Hb:=Ya (show m.memB k=true by unfold Mach.memB;rw[decide_eq_true_eq];omega);generalize m.mem.getD k 0=rv at *;go_enter func30,ntmps30
   go_wp2_with fail
   refine(Z7 h).mono ?_;rintro e w2 ⟨rfl,rfl⟩;go_wp2_with fail
   go_ret2
   exact⟨by rw[Hv.out,Hb.out];rfl,0,rfl⟩
theorem Zvx:(prog.info? 5).map (λ i=>(i.zero,i.size,i.bytes))=some (some (.int .u8 0),1,1):=by kernel_rfl
theorem Zsm:(prog.info? 31).map (λ i=>(i.zero,i.size,i.bytes))=some (some (.int .u32 0),1,4):=by kernel_rfl
theorem Zee (A:Option Addr)(c:Nat)(L:List Int)(w:World)(hr:Reads w w.heap.size A (L.map (Value.int .u8)))(hl:L.length<=1000000000) :
 Calls prog 44 #[.slice A L.length c] w λ e w'=>∃A' c',e=.returned (.slice A' L.length c')/\w'.ownsRow w.heap.size 5 1 (.slice A' L.length c') L.length (L.map (Value.int .u8))/\Below w.heap.size w w':=by
 have hn:=λ(w:World) (A:Option Addr) (n c n1 c1:Nat)=>Lib.run_eql_slice_nil (P:=prog) w 46 5 A n c n1 c1 underlying46
 cases A with
 | none =>
  go_enter func44,ntmps44
  have hx0:L=[]:=by
   cases L with
   | nil=>rfl
   | cons x r =>
    obtain⟨b,off,e,_⟩:=hr (by simp)
    cases e
  subst hx0;go_wp2_with fail
  go_ret
  exact⟨_,_,rfl,World.ownsRow_nil _ _ _ _,Yj _ _⟩
 | some a =>
  have hr':=hr.below ((Yj w.heap.size w).alloc (Yd _) (.cells #[] 5));go_enter func44,ntmps44
  go_wp2_with (at_builtin;refine Zt rfl (.tmp 5) (.tmp 6) _ rfl w.heap.size 5 Zvx underlying46 rfl (by decide) _ 0 [] rfl (World.ownsRow_made w #[] 0 (Yd _) (by simp[maxLen]) (by simp)) w.heap.size (some a) L.length c (L.map (Value.int .u8)) rfl (by simp) (λ h=>by cases h) hr' (by simp[Value.oneCell']) (by simp only[maxLen];omega) (by omega) (by simp) ?_;intro v' w1 ho1 hg1 hb1 hat1;obtain⟨A1,c1,rfl⟩:=Za ho1)
  go_ret
  simp only[Nat.zero_add,List.nil_append] at ho1;exact⟨A1,c1,by simp,ho1,((Yj _ _).alloc (Yd _) _).trans hb1⟩
theorem Zvy (h:MAt w B p vm vo A c inp rd m)(hol:m.out.length<=1000000):Calls prog 17 #[.pointer (some ⟨p,0,none⟩)] w
 λ e w'=>∃A' c',e=.returned (.slice A' m.out.length c')/\w'.ownsRow w.heap.size 5 1 (.slice A' m.out.length c') m.out.length (m.out.map (Value.int .u8))/\Below w.heap.size w w':=by
 have hlt:=h.lt;have ho:=h.out;obtain⟨_,_,_,_,c36,_⟩:=h.cells;obtain⟨Ao,co,rfl⟩:=Za ho;have hr:=Reads.of_own ho;go_enter func17,ntmps17
 go_wp2_with fail
 refine(Z7 h).mono ?_;rintro e w2 ⟨rfl,rfl⟩;go_wp2_with fail
 refine(Zee _ _ _ _ hr (by omega)).mono ?_;rintro e w2 ⟨A',c',rfl,h1,h2⟩;go_wp2_with fail
 go_ret
 exact⟨A',c',rfl,h1,h2⟩
def RunAt (w:World)(B p:Nat)(vm vo:Value)(A:Option Addr)(c:Nat)(inp:List Int)(m':Mach)(w':World):Prop :=
 ∃vo' rd',MAt w' B p vm vo' A c inp rd' m'/\Only (Zai p vm vo) w w'/\(vo'.ownBlock=vo.ownBlock\/∃k,w.heap.size<=k/\vo'.ownBlock=some k)
theorem RunAt.next {w w1 w2:World}{m1 m2:Mach}{vo1:Value}{rd1:Nat}(h1:MAt w1 B p vm vo1 A c inp rd1 m1)(h2:Only (Zai p vm vo) w w1)(h3:vo1.ownBlock=vo.ownBlock\/∃k,w.heap.size<=k/\vo1.ownBlock=some k)(hs:RunAt w1 B p vm vo1 A c inp m2 w2):RunAt w B p vm vo A c inp m2 w2:=by
 obtain⟨vo2,rd2,k1,k2,k3⟩:=hs;have hz:=h2.size;refine⟨vo2,rd2,k1,h2.trans k2 (λ i hi hf=>?_),?_⟩
 .rcases hf with e|e|e
  .exact .inl e
  .exact .inr (.inl e)
  .rcases h3 with e2|⟨k,hk,e2⟩
   .exact .inr (.inr (e2 ▸ e))
   .rw[e2] at e;cases e;omega
 .rcases k3 with e|⟨k,hk,e⟩
  .rw[e];exact h3
  .exact .inr ⟨k,by omega,e⟩
theorem Zsn {m:Mach}(h:MAt w B p vm vo A c inp rd m)(hol:m.out.length<=1000000000)(hst:0<=m.steps/\m.steps<=1000000000) :
 Calls prog 58 #[.pointer (some ⟨p,0,none⟩)] w λ e w'=>e=.returned (.int .i64 m.step.state)/\RunAt w B p vm vo A c inp m.step w':=Zsk h hol hst
theorem Zvz (fuel:Int)(h:MAt w B p vm vo A c inp rd m)(hol:m.out.length<=500000000)(hst:0<=m.steps/\m.steps<=500000000)(hf:fuel<=100000000) :
 Calls prog 23 #[.pointer (some ⟨p,0,none⟩),.int .i64 fuel] w λ e w'=>e=.returned (.int .i64 (m.steps_ fuel.toNat).state)/\RunAt w B p vm vo A c inp (m.steps_ fuel.toNat) w':=by
 have hlt:=h.lt;have hway:∃nf:Nat,fuel.toNat=nf/\nf<=100000000/\((fuel<0/\nf=0)\/(¬fuel<0/\fuel=nf)):=⟨fuel.toNat,rfl,by omega,by omega⟩
 obtain⟨nf,hnt,hnf,hway⟩:=hway;rw[hnt];clear hnt hf;go_enter func23,ntmps23
 go_wp2_with fail
 refine(Z7 h).mono ?_;rintro e w2 ⟨rfl,rfl⟩;go_upto_region 3 with fail
 go_cut [9,10] from 8 to 10 (λ v9 v10 wc=>v9=.int .i64 nf/\v10=.int .i64 0/\wc=w)
 case first =>
  rcases hway with⟨h0,rfl⟩|⟨h0,rfl⟩
  .go_wp2_with fail
   all_goals
    go_meet
    exact⟨by first|rfl | (congr 2;omega),rfl,rfl⟩
  .go_wp2_with fail
   all_goals
    go_meet
    exact⟨by first|rfl | (congr 2;omega),rfl,rfl⟩
 case rest =>
 obtain⟨rfl,rfl,rfl⟩:=hcut;clear hway;go_wp2_with fail
 go_loopw [10] (λ i wr=>∃k:Nat,k<=nf/\i=.int .i64 k/\RunAt wc B p vm vo A c inp (m.steps_ k) wr) (λ i _=>nf-(intOf i).toNat)
 case atStart=>exact⟨0,by omega,rfl,vo,rd,h,Only.refl _ _,.inl rfl⟩
 case round =>
  obtain⟨k,hk,rfl,hR⟩:=hrel;obtain⟨vo1,rd1,hM1,hO1,hv1⟩:=hR;have hg:=Zi1 m k;have hcs:=hM1.cells;obtain⟨_,_,_,_,_,c37,_⟩:=hcs;have hp1:=hM1.lt;by_cases hlt2:k<nf
  .go_wp2_with fail
   refine(Zsn hM1 (by omega) (by omega)).mono ?_;rintro e w3 ⟨rfl,hR3⟩;have hR':RunAt wc B p vm vo A c inp (m.steps_ (k+1)) w3:=RunAt.next hM1 hO1 hv1 hR3;by_cases hs:(m.steps_ k).step.state=0
   .have d0:((m.steps_ k).step.state != 0)=false:=by simp[hs]
    clear hs;go_wp2_with fail
    go_roundw
    case rel=>exact⟨k+1,by omega,by go_num,hR'⟩
    case measure=>simp[intOf];omega
   .have d0:((m.steps_ k).step.state != 0)=true:=by simpa using hs
    have hstop:=Zi2 (m:=m) (k:=k+1) hs (nf-(k+1));rw[show k+1+(nf-(k+1))=nf by omega] at hstop;have Hstop:=Ya hstop;obtain⟨vo2,rd2,hM2,hO2,hv2⟩:=hR';obtain⟨_,_,_,_,_,c37',_⟩:=hM2.cells;have hp2:=hM2.lt;clear hs hstop hR3;go_wp2_with fail
    go_ret
    rw[Hstop.out];exact⟨rfl,vo2,rd2,hM2,hO2,hv2⟩
  .have hke:k=nf:=by omega
   subst hke;go_wp2_with fail
   go_ret
   exact⟨rfl,vo1,rd1,hM1,hO1,hv1⟩
end
end
section
section
variable {w w':World}{B p:Nat}{vm vo:Value}{A:Option Addr}{c:Nat}{inp:List Int}{rd:Nat}{m:Mach}
namespace S.Mach
def setV (m:Mach)(i v:Int):Mach:=if 0<=i/\i<32 then m.put i v else m
def putV (m:Mach)(i v:Int):Mach:=if 0<=i/\i<m.mem.length then { m with mem:=m.mem.set i.toNat v } else m
def goV (m:Mach)(v:Int):Mach:=if m.state≠0 then m else { m with place:=v }
end S.Mach
theorem Zv0 (i v:Int)(h:MAt w B p vm vo A c inp rd m)(hv:0<=v/\v<=4294967295):Calls prog 12 #[.pointer (some ⟨p,0,none⟩),.int .i64 i,.int .u32 v] w
 λ e w'=>e=.returned (.int .i64 (if 0<=i/\i<32 then 0 else 2))/\MAt w' B p vm vo A c inp rd (m.setV i v)/\Only (·=p) w w':=by
 have hlt:=h.lt;have HM:=Ya h;by_cases h0:i<0
 .have Hc:=Ya (show ¬(0<=i/\i<32) by omega)
  go_enter func12,ntmps12
  go_wp2_with fail
  refine(Z7 h).mono ?_;rintro e w2 ⟨rfl,rfl⟩;go_wp2_with fail
  go_ret
  simp only[Mach.setV,if_neg Hc.out];exact⟨rfl,HM.out,Only.refl _ _⟩
 .by_cases h1:32<=i
  .have Hc:=Ya (show ¬(0<=i/\i<32) by omega)
   go_enter func12,ntmps12
   go_wp2_with fail
   refine(Z7 h).mono ?_;rintro e w2 ⟨rfl,rfl⟩;go_wp2_with fail
   go_ret
   simp only[Mach.setV,if_neg Hc.out];exact⟨rfl,HM.out,Only.refl _ _⟩
  .have Hc:=Ya (show 0<=i/\i<32 by omega)
   go_enter func12,ntmps12
   go_wp2_with fail
   refine(Z7 h).mono ?_;rintro e w2 ⟨rfl,rfl⟩;go_wp2_with fail
   refine(Zbb _ _ h (by omega) (by omega) hv).mono ?_;rintro e w3 ⟨rfl,hM3,hO3⟩;go_wp2_with fail
   go_ret
   simp only[Mach.setV,if_pos Hc.out];exact⟨rfl,hM3,hO3⟩
theorem Zv1 (i v:Int)(h:MAt w B p vm vo A c inp rd m)(hv:0<=v/\v<=4294967295):Calls prog 13 #[.pointer (some ⟨p,0,none⟩),.int .i64 i,.int .u32 v] w
 λ e w'=>e=.returned (.int .i64 (if 0<=i/\i<m.mem.length then 0 else 2))/\MAt w' B p vm vo A c inp rd (m.putV i v)/\Only (Zai p vm vo) w w':=by
 have hlt:=h.lt;have HM:=Ya h;have hl0:=h.low0;obtain⟨g,cap,hvm,hg,hmc,hfz⟩:=h.memv;obtain⟨c32,_⟩:=h.cells;rw[hvm] at c32;have Hvm:=Ya hvm;have Hmc:=Ya hmc;clear hvm hmc;by_cases h0:i<0
 .have Hc:=Ya (show ¬(0<=i/\i<m.mem.length) by omega)
  go_enter func13,ntmps13
  go_wp2_with fail
  refine(Z7 h).mono ?_;rintro e w2 ⟨rfl,rfl⟩;go_wp2_with fail
  go_ret
  simp only[Mach.putV,if_neg Hc.out];exact⟨rfl,HM.out,Only.refl _ _⟩
 .by_cases h1:(m.mem.length:Int)<=i
  .have Hc:=Ya (show ¬(0<=i/\i<m.mem.length) by omega)
   go_enter func13,ntmps13
   go_wp2_with fail
   refine(Z7 h).mono ?_;rintro e w2 ⟨rfl,rfl⟩;go_wp2_with fail
   go_ret
   simp only[Mach.putV,if_neg Hc.out];exact⟨rfl,HM.out,Only.refl _ _⟩
  .obtain⟨k,rfl⟩:∃k:Nat,i=k:=⟨i.toNat,by omega⟩
   have hk:k<m.mem.length:=by omega
   have Hc:=Ya (show 0<=(k:Int)/\(k:Int)<m.mem.length by omega);have hmt:=Hmc.out k hk;have hft:=hfz k;have HS:=Ya (h.sw Hvm.out hv hk);go_enter func13,ntmps13
   go_wp2_with fail
   refine(Z7 h).mono ?_;rintro e w2 ⟨rfl,rfl⟩;go_wp2_with fail
   go_ret
   simp only[Mach.putV,if_pos Hc.out,Int.toNat_natCast];exact⟨rfl,HS.out,Only.setCell _ (show Zai p vm vo g from .inr (.inl (by rw[Hvm.out];rfl))) _⟩
theorem Zyt (v:Int)(h:MAt w B p vm vo A c inp rd m)(hv:0<=v/\v<=4294967295):Calls prog 43 #[.pointer (some ⟨p,0,none⟩),.int .u32 v] w
 λ e w'=>e=.returned (.int .i64 (if m.state≠0 then 2 else 0))/\MAt w' B p vm vo A c inp rd (m.goV v)/\Only (·=p) w w':=by
 have hlt:=h.lt;have HM:=Ya h;obtain⟨_,c33,_,_,_,c37,_⟩:=h.cells;have f33:=h.fz 33;by_cases hs:m.state=0
 .have d0:(m.state != 0)=false:=by simp[hs]
  have Hs:=Ya hs;have HW:=Ya (h.went hv);clear hs;go_enter func43,ntmps43
  go_wp2_with fail
  refine(Z7 h).mono ?_;rintro e w2 ⟨rfl,rfl⟩;go_wp2_with fail
  go_ret
  simp only[Mach.goV,if_neg (show ¬m.state≠0 from λ q=>q Hs.out)];exact⟨rfl,HW.out,Only.setCell (F:=(·=p)) _ rfl _⟩
 .have d0:(m.state != 0)=true:=by simpa using hs
  have Hs:=Ya hs;clear hs;go_enter func43,ntmps43
  go_wp2_with fail
  refine(Z7 h).mono ?_;rintro e w2 ⟨rfl,rfl⟩;go_wp2_with fail
  go_ret
  simp only[Mach.goV,if_pos (show m.state≠0 from Hs.out)];exact⟨rfl,HM.out,Only.refl _ _⟩
end
end
def Zh9 (words:List Int)(size:Nat)(input:List Int):Mach:=⟨Y1 32 0,words++Y1 (size-words.length) 0,0,input,[],0,0,0,0⟩
def Zhc (n:Nat)(size:Int):Prop:=1<=size/\size<=335544320/\(n:Int)<=size
theorem Zf9 (n i:Nat):(Y1 n (0:Int)).getD i 0=0:=by
 by_cases h:i<n <;> simp[h]
theorem Zso {words:List Int}{size:Nat}{input:List Int}(hs:1<=size)(hl:words.length<=size)(hw:∀x∈words,0<=x/\x<=4294967295)(hi:∀x∈input,0<=x/\x<=255):(Zh9 words size input).Ok:=by
 refine⟨by simp[Zh9],λ i=>?_,?_,?_,λ i=>?_,Int.le_refl _,show(0:Int)<=4294967295 by decide,hi,λ x hx=>by simp[Zh9] at hx,Int.le_refl _,show(0:Int)<=4294967295 by decide⟩
 .show 0<=(Y1 32 (0:Int)).getD i 0/\(Y1 32 (0:Int)).getD i 0<=4294967295
  rw[Zf9];decide
 .show(Y1 32 (0:Int)).getD 0 0=0
  rw[Zf9]
 .simp[Zh9];omega
 .show 0<=(words++Y1 (size-words.length) 0).getD i 0/\(words++Y1 (size-words.length) 0).getD i 0<=4294967295
  by_cases h:i<words.length
  .have e:(words++Y1 (size-words.length) 0).getD i 0=words[i]:=by simp[List.getElem?_append_left h,List.getElem?_eq_getElem h]
   rw[e];exact hw _ (List.getElem_mem _)
  .have e:(words++Y1 (size-words.length) (0:Int)).getD i 0=(Y1 (size-words.length) (0:Int)).getD (i-words.length) 0:=by
    simp only[List.getD_eq_getElem?_getD];rw[List.getElem?_append_right (by omega)]
   rw[e,Zf9]
   decide
