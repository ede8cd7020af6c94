/- Parts. -/
import Derived.Test.YtfhiobkkdcdmiaaGreatDoorZMachP
import Derived.Test.YtfhiobkkdcdmiaaGreatDoorZIsaE
import Derived.Laws.CopyOwn
set_option linter.all false
set_option maxHeartbeats 8000000
open Go.Lib renaming hid->Ya
open Nat renaming le_refl->Yb,zero_add->Y9
open List renaming getD_eq_getElem?_getD->Ye,getElem?_eq_getElem->Yf,getElem?_append_left->Ym,getElem?_append_right->Yo,replicate->Ys,length_map->Yac,nil_append->Yaj,take_zero->Ya2,getElem_mem->Ya7,setIfInBounds_toArray->Ycs,getElem_toArray->Ycv,set_cons_succ->Ycx,set_cons_zero->Ycz,getElem_cons_succ->Yc2,getElem_cons_zero->Yc3
open Go.RowKit.Below renaming refl->Yh
open Go.Value renaming int->Yr,oneCell'->Y6
open Int renaming le_refl->Y7,toNat_natCast->Yah
namespace Go.Proofs.YtfhiobkkdcdmiaaGreatDoor
open Go.RowKit
set_option maxRecDepth 100000
section
theorem Z3r {n:Int}(h:S.decE n=0):1<=(S.dec n).op/\(S.dec n).op<=36/\0<=(S.dec n).d/\(S.dec n).d<=31/\0<=(S.dec n).a/\(S.dec n).a<=31/\0<=(S.dec n).b/\(S.dec n).b<=31:=by
 have hB:S.decB n=true:=by
  unfold S.decE at h
  split at h
  .assumption
  .omega
 have hg:S.good (S.raw n)=true:=by
  unfold S.decB at hB;simp only[Bool.and_eq_true] at hB;exact hB.1
 have e:S.dec n=S.raw n:=by unfold S.dec;rw[if_pos hB]
 rw[e];obtain⟨h1,h2,h3,h4,h5,h6,h7,h8,_⟩:=Zfm (op:=(S.raw n).op) (d:=(S.raw n).d) (a:=(S.raw n).a) (b:=(S.raw n).b) (imm:=(S.raw n).imm) hg;exact⟨h1,h2,h3,h4,h5,h6,h7,h8⟩
theorem Zhs (m:S.Mach)(op d a b imm:Int):m.act ⟨op,d,a,b,imm⟩=(m,0,4)\/m.act ⟨op,d,a,b,imm⟩=(m,0,2)\/(∃v,m.act ⟨op,d,a,b,imm⟩=(m.put d v,S.u32m (m.place+1),0))\/(∃l,m.act ⟨op,d,a,b,imm⟩=({ m with mem:=l },S.u32m (m.place+1),0)) \/
 (∃x,m.act ⟨op,d,a,b,imm⟩=(m,S.u32m x,0))\/(∃v x,m.act ⟨op,d,a,b,imm⟩=(m.put d v,S.u32m x,0))\/(∃v r,m.act ⟨op,d,a,b,imm⟩=(({ m with input:=r }:S.Mach).put d v,S.u32m (m.place+1),0)) \/
 (∃o,m.act ⟨op,d,a,b,imm⟩=({ m with out:=o },S.u32m (m.place+1),0)/\o.length=m.out.length+1)\/(∃v,m.act ⟨op,d,a,b,imm⟩=({ m with state:=1,code:=v },m.place,0)):=by
 unfold S.Mach.act;simp only;by_cases h1:op<=14
 .rw[if_pos h1]
  by_cases h2:m.rd b=0/\(op=5\/op=6)
  .rw[if_pos h2];exact .inl rfl
  .rw[if_neg h2];exact .inr (.inr (.inl ⟨_,rfl⟩))
 rw[if_neg h1];by_cases h2:op<=22
 .rw[if_pos h2];exact .inr (.inr (.inl ⟨_,rfl⟩))
 rw[if_neg h2];by_cases h3:op=23
 .rw[if_pos h3];exact .inr (.inr (.inl ⟨_,rfl⟩))
 rw[if_neg h3];by_cases h4:op=24
 .rw[if_pos h4]
  by_cases h5:S.u32m (m.rd a+S.u32m imm)<m.mem.length
  .rw[if_pos h5];exact .inr (.inr (.inl ⟨_,rfl⟩))
  .rw[if_neg h5];exact .inr (.inl rfl)
 rw[if_neg h4];by_cases h5:op=25
 .rw[if_pos h5]
  by_cases h6:S.u32m (m.rd a+S.u32m imm)<m.mem.length
  .rw[if_pos h6];exact .inr (.inr (.inr (.inl ⟨_,rfl⟩)))
  .rw[if_neg h6];exact .inr (.inl rfl)
 rw[if_neg h5];by_cases h6:op<=31
 .rw[if_pos h6]
  by_cases h7:S.goes op (m.rd a) (m.rd b)=true
  .rw[if_pos h7];exact .inr (.inr (.inr (.inr (.inl ⟨_,rfl⟩))))
  .rw[if_neg h7];exact .inr (.inr (.inr (.inr (.inl ⟨_,rfl⟩))))
 rw[if_neg h6];by_cases h7:op=32
 .rw[if_pos h7];exact .inr (.inr (.inr (.inr (.inr (.inl ⟨_,_,rfl⟩)))))
 rw[if_neg h7];by_cases h8:op=33
 .rw[if_pos h8];exact .inr (.inr (.inr (.inr (.inr (.inl ⟨_,_,rfl⟩)))))
 rw[if_neg h8];by_cases h9:op=34
 .rw[if_pos h9]
  cases hi:m.input with
  | nil=>exact .inr (.inr (.inl ⟨_,rfl⟩))
  | cons x r=>exact .inr (.inr (.inr (.inr (.inr (.inr (.inl ⟨_,_,rfl⟩))))))
 rw[if_neg h9];by_cases h10:op=35
 .rw[if_pos h10];exact .inr (.inr (.inr (.inr (.inr (.inr (.inr (.inl ⟨_,rfl,by simp⟩)))))))
 rw[if_neg h10];exact .inr (.inr (.inr (.inr (.inr (.inr (.inr (.inr ⟨_,rfl⟩)))))))
theorem Zt7 (m:S.Mach)(d v:Int):(m.put d v).steps=m.steps:=by unfold S.Mach.put;split <;> rfl
theorem Z3s {m:S.Mach}(h:m.Ok){op d a b imm:Int}:0<=(m.act ⟨op,d,a,b,imm⟩).2.1/\(m.act ⟨op,d,a,b,imm⟩).2.1<=4294967295:=by
 rcases Zhs m op d a b imm with e|e|⟨v,e⟩|⟨l,e⟩|⟨x,e⟩|⟨v,x,e⟩|⟨v,r,e⟩|⟨o,e,eo⟩|⟨v,e⟩
 all_goals rw[e]
 .simp
 .simp
 all_goals first|exact Zav _|exact⟨h.place0,h.place1⟩
theorem Zt8 (m:S.Mach)(op d a b imm:Int):(m.act ⟨op,d,a,b,imm⟩).1.steps=m.steps:=by
 rcases Zhs m op d a b imm with e|e|⟨v,e⟩|⟨l,e⟩|⟨x,e⟩|⟨v,x,e⟩|⟨v,r,e⟩|⟨o,e,eo⟩|⟨v,e⟩
 all_goals rw[e]
 all_goals first|rfl|exact Zt7 _ _ _
theorem Zx8 (m:S.Mach)(op d a b imm:Int)(h:(m.act ⟨op,d,a,b,imm⟩).2.2≠0):(m.act ⟨op,d,a,b,imm⟩).1=m:=by
 rcases Zhs m op d a b imm with e|e|⟨v,e⟩|⟨l,e⟩|⟨x,e⟩|⟨v,x,e⟩|⟨v,r,e⟩|⟨o,e,eo⟩|⟨v,e⟩
 all_goals rw[e] at h⊢
 all_goals exact absurd rfl h
theorem Z1b (m:S.Mach)(d v:Int):(m.put d v).out=m.out:=by unfold S.Mach.put;split <;> rfl
theorem Z1c (m:S.Mach)(op d a b imm:Int):(m.act ⟨op,d,a,b,imm⟩).1.out.length<=m.out.length+1:=by
 rcases Zhs m op d a b imm with e|e|⟨v,e⟩|⟨l,e⟩|⟨x,e⟩|⟨v,x,e⟩|⟨v,r,e⟩|⟨o,e,eo⟩|⟨v,e⟩
 all_goals rw[e]
 all_goals simp only[Z1b]
 all_goals omega
theorem Zt9 (m:S.Mach):m.step.out.length<=m.out.length+1/\m.steps<=m.step.steps/\m.step.steps<=m.steps+1:=by
 unfold S.Mach.step;by_cases h1:m.state≠0
 .rw[if_pos h1];omega
 rw[if_neg h1];by_cases h2:(m.mem.length:Int)<=m.place
 .rw[if_pos h2];simp only[S.Mach.fell];omega
 rw[if_neg h2];by_cases h3:S.decE (m.mem.getD m.place.toNat 0)≠0
 .rw[if_pos h3];simp only[S.Mach.fell];omega
 rw[if_neg h3];by_cases h4:(m.act (S.dec (m.mem.getD m.place.toNat 0))).2.2≠0
 .rw[if_pos h4];simp only[S.Mach.fell];omega
 rw[if_neg h4];have:=Z1c m (S.dec (m.mem.getD m.place.toNat 0)).op (S.dec (m.mem.getD m.place.toNat 0)).d (S.dec (m.mem.getD m.place.toNat 0)).a (S.dec (m.mem.getD m.place.toNat 0)).b (S.dec (m.mem.getD m.place.toNat 0)).imm;exact⟨this,by show m.steps<=m.steps+1;omega,Y7 _⟩
theorem Zki (m:S.Mach):∀k:Nat,(m.steps_ k).out.length<=m.out.length+k/\m.steps<=(m.steps_ k).steps/\(m.steps_ k).steps<=m.steps+k
 | 0=>by simp[S.Mach.steps_]
 | k+1=>by
  obtain⟨h1,h2,h3⟩:=Zki m k;obtain⟨g1,g2,g3⟩:=Zt9 (m.steps_ k)
  show(m.steps_ k).step.out.length<=_/\_<=(m.steps_ k).step.steps/\(m.steps_ k).step.steps<=_
  omega
theorem Zua {m:S.Mach}(h:m.state≠0):m.step=m:=by unfold S.Mach.step;rw[if_pos h]
theorem Zkj {m:S.Mach}{k:Nat}(h:(m.steps_ k).state≠0):∀j:Nat,m.steps_ (k+j)=m.steps_ k
 | 0=>rfl
 | j+1=>by
  have:=Zkj h j
  show(m.steps_ (k+j)).step=_
  rw[this,Zua h]
theorem Z65 {w:World}{b:Nat}{cs:Array Value}{t:TypeId}(h:w.heap[b]?=some (.cells cs t (0,0)))(hs:cs.size=5)(v0 v1 v2 v3 v4:Value){w':World}
 (he:w'=(((((w.setCell ⟨b,0,none⟩ v0).setCell ⟨b,1,none⟩ v1).setCell ⟨b,2,none⟩ v2).setCell ⟨b,3,none⟩ v3).setCell ⟨b,4,none⟩ v4)) :
 b<w'.heap.size/\(w'.cell? ⟨b,0,none⟩=some v0/\w'.cell? ⟨b,1,none⟩=some v1/\w'.cell? ⟨b,2,none⟩=some v2/\w'.cell? ⟨b,3,none⟩=some v3/\w'.cell? ⟨b,4,none⟩=some v4)/\Below b w w':=by
 subst he;have h1:=heap_setCell_same w b 0 cs t v0 h;have h2:=heap_setCell_same _ b 1 _ t v1 h1;have h3:=heap_setCell_same _ b 2 _ t v2 h2;have h4:=heap_setCell_same _ b 3 _ t v3 h3;have h5:=heap_setCell_same _ b 4 _ t v4 h4;refine⟨(Array.getElem?_eq_some_iff.1 h5).1,⟨?_,?_,?_,?_,?_⟩,?_⟩
 .rw[Zae h5];simp[hs]
 .rw[Zae h5];simp[hs]
 .rw[Zae h5];simp[hs]
 .rw[Zae h5];simp[hs]
 .rw[Zae h5];simp[hs]
 .exact((((((Yh b w).setCell (p:=⟨b,0,none⟩) (Yb _) _).setCell (p:=⟨b,1,none⟩) (Yb _) _).setCell (p:=⟨b,2,none⟩) (Yb _) _).setCell (p:=⟨b,3,none⟩) (Yb _) _).setCell (p:=⟨b,4,none⟩) (Yb _) _)
theorem Z3t (w:World)(t:TypeId)(v0 v1 v2 v3 v4:Value){w':World}(he:w'=w.alloc (.cells #[v0,v1,v2,v3,v4] t)) :
 w.heap.size<w'.heap.size/\(w'.cell? ⟨w.heap.size,0,none⟩=some v0/\w'.cell? ⟨w.heap.size,1,none⟩=some v1/\w'.cell? ⟨w.heap.size,2,none⟩=some v2/\w'.cell? ⟨w.heap.size,3,none⟩=some v3/\w'.cell? ⟨w.heap.size,4,none⟩=some v4)/\Below w.heap.size w w':=by
 subst he;obtain⟨x1,x2,x3⟩:=Zgy w #[v0,v1,v2,v3,v4] t;exact⟨by omega,⟨by rw[Zae x1];rfl,by rw[Zae x1];rfl,by rw[Zae x1];rfl,by rw[Zae x1];rfl,by rw[Zae x1];rfl⟩,x2⟩
theorem Zr5 {w1 w2 w':World}{t:TypeId}{v0 v1 v2 v3 v4:Value}(hb:Below w1.drew.heap.size w1.drew w2)(he:w'=w2.alloc (.cells #[v0,v1,v2,v3,v4] t)) :
 w2.heap.size<w'.heap.size/\(w'.cell? ⟨w2.heap.size,0,none⟩=some v0/\w'.cell? ⟨w2.heap.size,1,none⟩=some v1/\w'.cell? ⟨w2.heap.size,2,none⟩=some v2/\w'.cell? ⟨w2.heap.size,3,none⟩=some v3/\w'.cell? ⟨w2.heap.size,4,none⟩=some v4)/\Below w1.heap.size w1 w':=by
 obtain⟨h1,h2,h3⟩:=Z3t w2 t v0 v1 v2 v3 v4 he;have hb':Below w1.heap.size w1.drew w2:=hb;exact⟨h1,h2,(((Yh _ _).drew).trans hb').trans (h3.mono hb'.size)⟩
theorem Zpj {w1 w2 w':World}{t:TypeId}{z v0 v1 v2 v3 v4:Value}(hb0:Below (w1.alloc (.cells #[z,z,z,z,z] t)).drew.heap.size (w1.alloc (.cells #[z,z,z,z,z] t)).drew w2)
 (he:w'=(((((w2.setCell ⟨w1.heap.size,0,none⟩ v0).setCell ⟨w1.heap.size,1,none⟩ v1).setCell ⟨w1.heap.size,2,none⟩ v2).setCell ⟨w1.heap.size,3,none⟩ v3).setCell ⟨w1.heap.size,4,none⟩ v4)) :
 w1.heap.size<w'.heap.size/\(w'.cell? ⟨w1.heap.size,0,none⟩=some v0/\w'.cell? ⟨w1.heap.size,1,none⟩=some v1/\w'.cell? ⟨w1.heap.size,2,none⟩=some v2/\w'.cell? ⟨w1.heap.size,3,none⟩=some v3/\w'.cell? ⟨w1.heap.size,4,none⟩=some v4)/\Below w1.heap.size w1 w':=by
 have hz:(w1.alloc (.cells #[z,z,z,z,z] t)).heap.size=w1.heap.size+1:=by simp
 have hb:Below (w1.heap.size+1) (w1.alloc (.cells #[z,z,z,z,z] t)) w2:=by
  rw[<- hz];exact((Yh _ _).drew).trans hb0
 have hk:w2.heap[w1.heap.size]?=some (.cells #[z,z,z,z,z] t (0,0)):=(hb.block w1.heap.size (Nat.lt_succ_self _)).trans (heap_alloc_new w1 (.cells #[z,z,z,z,z] t));obtain⟨h1,h2,h3⟩:=Z65 hk rfl v0 v1 v2 v3 v4 he;exact⟨h1,h2,(((Yh w1.heap.size w1).alloc (Yb w1.heap.size) _).trans (hb.mono (Nat.le_succ _))).trans h3⟩
section
variable {w w':World}{B p:Nat}{vm vo:Value}{A:Option Addr}{c:Nat}{inp:List Int}{rd:Nat}{m:S.Mach}
def Zx9 (w:World)(B p:Nat)(vm vo:Value)(A:Option Addr)(c:Nat)(inp:List Int)(m':S.Mach)(e:Ending)(w':World):Prop :=
 e=.returned (.int .i64 m'.state)/\∃vo' rd',MAt w' B p vm vo' A c inp rd' m'/\Only (Za2 p vm vo) w w'/\(vo'.ownBlock=vo.ownBlock\/∃k,w.heap.size<=k/\vo'.ownBlock=some k)
theorem Zub (h:MAt w B p vm vo A c inp rd m)(hol:m.out.length<=1000000000)(hst:0<=m.steps/\m.steps<=1000000000) :
 Calls Tryz.prog 43 #[.pointer (some ⟨p,0,none⟩)] w (Zx9 w B p vm vo A c inp m.step):=by
 have hpw:=h.lt;have hp0:=h.ok.place0;have hp1:=h.ok.place1;have hl0:=h.low0;obtain⟨g,cap,hvm,hg,hmc,hfz⟩:=h.memv;obtain⟨c32,c33,_,_,_,c37,_,_,_⟩:=h.cells;by_cases hs:m.state=0
 rotate_left
 .have d1:(m.state != 0)=true:=by simpa using hs
  have Hst:=Ya (show m.step=m by unfold S.Mach.step;rw[if_pos hs]);clear hs hmc;go_enter Tryz.func43,Tryz.ntmps43
  go_wp2_with fail
  refine(Zao h).mono ?_;rintro e w2 ⟨rfl,rfl⟩;go_wp2_with fail
  go_ret
  rw[Hst.out];exact⟨rfl,vo,rd,h,Only.refl _ _,.inl rfl⟩
 .have d1:(m.state != 0)=false:=by simp[hs]
  have Hs:=Ya hs;have hw1:IntKind.u64.wrap m.place=m.place:=by simp[IntKind.wrap,IntKind.signed,IntKind.bits];omega
  have hw2:IntKind.u64.wrap (m.mem.length:Int)=m.mem.length:=by simp[IntKind.wrap,IntKind.signed,IntKind.bits];omega
  have Hvm:=Ya hvm;have Hmc:=Ya hmc;rw[hvm] at c32;clear hs hvm hmc;by_cases hpl:(m.mem.length:Int)<=m.place
  .have Hst:=Ya (show m.step=m.fell 3 by unfold S.Mach.step;rw[if_neg (by simp[Hs.out]),if_pos hpl])
   go_enter Tryz.func43,Tryz.ntmps43
   go_wp2_with fail
   refine(Zao h).mono ?_;rintro e w2 ⟨rfl,rfl⟩;go_wp2_with fail
   go_quiet (fail)
   go_wp2_with fail
   refine(Ziy 3 (h.drewN _)).mono ?_;rintro e w3 ⟨rfl,hM3,hO3⟩;go_wp2_with fail
   go_ret
   rw[Hst.out];exact⟨rfl,vo,rd,hM3,(Only.drewN _ _).trans (Zdz hO3) (λ _ _ h=>h),.inl rfl⟩
  .obtain⟨t,ht⟩:∃t:Nat,m.place=t:=⟨m.place.toNat,by omega⟩
   have htl:t<m.mem.length:=by omega
   have Hdl:=Ya (show decide (m.mem.length<=t)=false by simpa using htl);have hmt:=Hmc.out t htl;have hmw:=h.ok.memw t;have HE:Hid (m.mem.getD m.place.toNat 0=m.mem.getD t 0/\¬(m.mem.length:Int)<=m.place):=Ya ⟨by rw[ht,Yah],hpl⟩;have Ht:=Ya ht;rw[ht] at c33 hw1 hpl;clear ht hp0 hp1 Hmc;generalize m.mem.getD t 0=mw at *;obtain⟨mw0,mw1⟩:=hmw;go_enter Tryz.func43,Tryz.ntmps43
   go_wp2_with fail
   refine(Zao h).mono ?_;rintro e w2 ⟨rfl,rfl⟩;go_wp2_with fail
   go_quiet (fail)
   go_upto_region 7 with fail
   have hM1:=h.drewN nq;have hO1:=Only.drewN (F:=Za2 p vm vo) w nq;have c32':(w.drewN nq).cell? ⟨p,32,none⟩=some (.slice (some ⟨g,0,none⟩) m.mem.length cap):=c32;have c33':(w.drewN nq).cell? ⟨p,33,none⟩=some (.int .u32 t):=c33;have hmt':(w.drewN nq).cell? ⟨g,t,none⟩=some (.int .u32 mw):=hmt;have hpw':p<(w.drewN nq).heap.size:=hpw;have hg':g<(w.drewN nq).heap.size:=hg;have hz1:w.heap.size<=(w.drewN nq).heap.size:=Yb _;generalize w.drewN nq=w1 at *;clear c32 c33 hmt c37;rw[Hdl.out]
   go_cut [3,4] from 36 to 49 (λ v3 v4 wc=>∃nb,v3=.pointer (some ⟨nb,0,none⟩)/\v4=.int .i64 (S.decE mw)/\nb<wc.heap.size/\(wc.cell? ⟨nb,0,none⟩=some (.int .i64 (S.dec mw).op)/\wc.cell? ⟨nb,1,none⟩=some (.int .i64 (S.dec mw).d)/\wc.cell? ⟨nb,2,none⟩=some (.int .i64 (S.dec mw).a)/\wc.cell? ⟨nb,3,none⟩=some (.int .i64 (S.dec mw).b)/\wc.cell? ⟨nb,4,none⟩=some (.int .i64 (S.dec mw).imm))/\Below w1.heap.size w1 wc)
   case first =>
    go_region_with (go_at_call 109;refine(Zsh _ _ mw0 mw1).mono ?_;rintro e w2 ⟨rfl,hb2⟩;obtain⟨hq1,hq2⟩:=Zcr hb2;have hz2:=hb2.size)
    all_goals
     simp only[Ycv,Yc2,Yc3,Act.put,Ycs,Ycx,Ycz];go_wp2_with fail
     go_meet
     first
      | (refine⟨w2.heap.size,by kernel_rfl,by kernel_rfl,?_⟩;with_reducible exact Zr5 hb2 rfl)
      | (refine⟨w1.heap.size,by kernel_rfl,by kernel_rfl,?_⟩;with_reducible exact Zpj hb2 rfl)
      | skip
   case rest =>
    obtain⟨nb,rfl,rfl,hnb,⟨q0,q1,q2,q3,q4⟩,hbc⟩:=hcut;have hM2:=hM1.below hbc;have hO2:=hO1.trans (Only.of_below (F:=Za2 p vm vo) hbc) (λ _ _ h=>h);by_cases hE0:S.decE mw=0
    .obtain⟨o1,o2,d1,d2,a1,a2,b1,b2⟩:=Z3r hE0
     have Hst0:Hid (m.step=if (m.act (S.dec mw)).2.2≠0 then m.fell (m.act (S.dec mw)).2.2 else { (m.act (S.dec mw)).1 with place:=(m.act (S.dec mw)).2.1,steps:=m.steps+1 }):=Ya (by
      unfold S.Mach.step;rw[if_neg (by simp[Hs.out]),if_neg (by have:=HE.out.2;omega),HE.out.1,if_neg (by simp[hE0])])
     generalize hdw:S.dec mw=dw at *;obtain⟨op,dd,da,db,imm⟩:=dw;simp only at o1 o2 d1 d2 a1 a2 b1 b2 q0 q1 q2 q3 q4;rw[hE0];have hdo:=Z13 op dd da db imm hM2 ⟨o1,o2⟩ ⟨d1,by omega⟩ ⟨a1,by omega⟩ ⟨b1,by omega⟩ hol;have hto:=Z3s (op:=op) (d:=dd) (a:=da) (b:=db) (imm:=imm) h.ok;have hks:=Zt8 m op dd da db imm;have hmt:=Zx8 m op dd da db imm;generalize m.act ⟨op,dd,da,db,imm⟩=r at *;obtain⟨m2,tt,tr⟩:=r;simp only at hto hks hmt Hst0;have Hdo:=Ya hdo;clear hdo hE0 hdw;go_wp2_with fail
     refine Hdo.out.mono ?_;rintro e w3 ⟨rfl,vo',rd',hM3,hO3,hv3⟩;have hO13:=hO2.trans hO3 (λ _ _ h=>h);have hv3':vo'.ownBlock=vo.ownBlock\/∃k,w.heap.size<=k/\vo'.ownBlock=some k:=by
      rcases hv3 with e|⟨k,hk,e⟩
      .exact .inl e
      .exact .inr ⟨k,by have:=hO2.size;omega,e⟩
     have hvf:∀k,k<w.heap.size->vo'.ownBlock=some k->vo.ownBlock=some k:=by
      intro k hk e;rcases hv3' with e2|⟨k2,hk2,e2⟩
      .rw[<- e2];exact e
      .rw[e2] at e;cases e;omega
     clear Hdo;simp only;by_cases htr:tr=0
     .subst htr
      have Hst:=Ya (show m.step={ m2 with place:=tt,steps:=m.steps+1 } by rw[Hst0.out,if_neg (by simp)]);have hW:=hM3.went hto;have f33:=hM3.fz 33;obtain⟨_,e33,_,_,_,_,_,_,_⟩:=hM3.cells;have f40:=hW.fz 40;obtain⟨_,_,_,_,_,e37,_,_,e40⟩:=hW.cells;have hpw3:=hM3.lt;have hS:=hW.stepped (m.steps+1);obtain⟨_,_,_,_,_,g37,_,_,_⟩:=hS.cells;simp only[hks] at e40;have HS:=Ya hS;clear hS hW;go_wp2_with fail
      go_ret
      rw[Hst.out];exact⟨rfl,vo',rd',HS.out,hO13.trans ((Only.setCell (F:=Za2 p vm vo) _ (.inl rfl) _).trans (Only.setCell (F:=Za2 p vm vo) _ (.inl rfl) _) (λ _ _ h=>h)) (λ _ _ h=>h),hv3'⟩
     .have dT:(tr != 0)=true:=by simpa using htr
      have Hst:=Ya (show m.step=m.fell tr by rw[Hst0.out,if_pos htr]);have hm2:m2=m:=hmt htr;clear htr;go_wp2_with fail
      refine(Ziy tr hM3).mono ?_;rintro e w4 ⟨rfl,hM4,hO4⟩;go_wp2_with fail
      go_ret
      rw[Hst.out];rw[hm2] at hM4;exact⟨rfl,vo',rd',hM4,hO13.trans (Zdz hO4) (λ _ _ h=>h),hv3'⟩
    .have dE:=Zl4 hE0
     have Hst:=Ya (show m.step=m.fell 1 by
      unfold S.Mach.step;rw[if_neg (by simp[Hs.out]),if_neg (by have:=HE.out.2;omega),HE.out.1,if_pos hE0])
     clear hE0;go_wp2_with fail
     refine(Ziy 1 hM2).mono ?_;rintro e w3 ⟨rfl,hM3,hO3⟩;go_wp2_with fail
     go_ret
     rw[Hst.out];exact⟨rfl,vo,rd,hM3,hO2.trans (Zdz hO3) (λ _ _ h=>h),.inl rfl⟩
end
end
section
section
variable {w w':World}{B p:Nat}{vm vo:Value}{A:Option Addr}{c:Nat}{inp:List Int}{rd:Nat}{m:S.Mach}
namespace S.Mach
def regV (m:S.Mach)(i:Int):Int:=if 0<=i/\i<32 then m.reg.getD i.toNat 0 else 0
def memV (m:S.Mach)(i:Int):Int:=if 0<=i/\i<m.mem.length then m.mem.getD i.toNat 0 else 0
def memB (m:S.Mach)(i:Int):Bool:=decide (0<=i/\i<m.mem.length)
end S.Mach
theorem Zr6 (h:MAt w B p vm vo A c inp rd m):Calls Tryz.prog 15 #[.pointer (some ⟨p,0,none⟩)] w λ e w'=>e=.returned (.int .u32 m.place)/\w=w':=by
 obtain⟨_,cc,_,_,_,_,_,_,_⟩:=h.cells;have hlt:=h.lt;go_enter Tryz.func15,Tryz.ntmps15
 go_wp2_with fail
 refine(Zao h).mono ?_;rintro e w2 ⟨rfl,rfl⟩;go_wp2_with fail
 go_ret
 exact⟨rfl,rfl⟩
theorem Zuc (h:MAt w B p vm vo A c inp rd m):Calls Tryz.prog 16 #[.pointer (some ⟨p,0,none⟩)] w λ e w'=>e=.returned (.int .u32 m.code)/\w=w':=by
 obtain⟨_,_,_,_,_,_,cc,_,_⟩:=h.cells;have hlt:=h.lt;go_enter Tryz.func16,Tryz.ntmps16
 go_wp2_with fail
 refine(Zao h).mono ?_;rintro e w2 ⟨rfl,rfl⟩;go_wp2_with fail
 go_ret
 exact⟨rfl,rfl⟩
theorem Zya (i:Int)(h:MAt w B p vm vo A c inp rd m):Calls Tryz.prog 18 #[.pointer (some ⟨p,0,none⟩),.int .i64 i] w λ e w'=>e=.returned (.int .u32 (m.regV i))/\w=w':=by
 have hlt:=h.lt;by_cases h0:i<0
 .have Hv:=Ya (show m.regV i=0 by unfold S.Mach.regV;rw[if_neg (by omega)])
  go_enter Tryz.func18,Tryz.ntmps18
  go_wp2_with fail
  refine(Zao h).mono ?_;rintro e w2 ⟨rfl,rfl⟩;go_wp2_with fail
  go_ret
  exact⟨by rw[Hv.out];rfl,rfl⟩
 .by_cases h1:32<=i
  .have Hv:=Ya (show m.regV i=0 by unfold S.Mach.regV;rw[if_neg (by omega)])
   go_enter Tryz.func18,Tryz.ntmps18
   go_wp2_with fail
   refine(Zao h).mono ?_;rintro e w2 ⟨rfl,rfl⟩;go_wp2_with fail
   go_ret
   exact⟨by rw[Hv.out];rfl,rfl⟩
  .obtain⟨k,rfl⟩:∃k:Nat,i=k:=⟨i.toNat,by omega⟩
   have hk:k<32:=by omega
   have hr:=h.reg hk;have Hv:=Ya (show m.regV k=m.reg.getD k 0 by unfold S.Mach.regV;rw[if_pos (by omega)];rfl);generalize m.reg.getD k 0=rv at *;go_enter Tryz.func18,Tryz.ntmps18
   go_wp2_with fail
   refine(Zao h).mono ?_;rintro e w2 ⟨rfl,rfl⟩;go_wp2_with fail
   go_ret
   exact⟨by rw[Hv.out];rfl,rfl⟩
theorem Zyb (i:Int)(h:MAt w B p vm vo A c inp rd m):Calls Tryz.prog 22 #[.pointer (some ⟨p,0,none⟩),.int .i64 i] w λ e w'=>e=.returned (.tuple #[.int .u32 (m.memV i),.bool (m.memB i)])/\∃n,w'=w.drewN n:=by
 have hlt:=h.lt;have hl0:=h.low0;obtain⟨g,cap,hvm,hg,hmc,hfz⟩:=h.memv;obtain⟨c32,_⟩:=h.cells;rw[hvm] at c32;have Hmc:=Ya hmc;clear hvm hmc hfz;by_cases h0:i<0
 .have Hv:=Ya (show m.memV i=0 by unfold S.Mach.memV;rw[if_neg (by omega)])
  have Hb:=Ya (show m.memB i=false by unfold S.Mach.memB;rw[decide_eq_false_iff_not];omega);go_enter Tryz.func22,Tryz.ntmps22
  go_wp2_with fail
  refine(Zao h).mono ?_;rintro e w2 ⟨rfl,rfl⟩;go_wp2_with fail
  go_ret2
  exact⟨by rw[Hv.out,Hb.out];rfl,0,rfl⟩
 .by_cases h1:(m.mem.length:Int)<=i
  .have Hv:=Ya (show m.memV i=0 by unfold S.Mach.memV;rw[if_neg (by omega)])
   have Hb:=Ya (show m.memB i=false by unfold S.Mach.memB;rw[decide_eq_false_iff_not];omega);go_enter Tryz.func22,Tryz.ntmps22
   go_wp2_with fail
   refine(Zao h).mono ?_;rintro e w2 ⟨rfl,rfl⟩;go_wp2_with fail
   go_ret2
   exact⟨by rw[Hv.out,Hb.out];rfl,0,rfl⟩
  .obtain⟨k,rfl⟩:∃k:Nat,i=k:=⟨i.toNat,by omega⟩
   have hk:k<m.mem.length:=by omega
   have hr:=Hmc.out k hk;have Hv:=Ya (show m.memV k=m.mem.getD k 0 by unfold S.Mach.memV;rw[if_pos (by omega)];rfl);have Hb:=Ya (show m.memB k=true by unfold S.Mach.memB;rw[decide_eq_true_eq];omega);generalize m.mem.getD k 0=rv at *;go_enter Tryz.func22,Tryz.ntmps22
   go_wp2_with fail
   refine(Zao h).mono ?_;rintro e w2 ⟨rfl,rfl⟩;go_wp2_with fail
   go_ret2
   exact⟨by rw[Hv.out,Hb.out];rfl,0,rfl⟩
theorem Zyc:(Tryz.prog.info? 5).map (λ i=>(i.zero,i.size,i.bytes))=some (some (.int .u8 0),1,1):=by kernel_rfl
theorem Zud:(Tryz.prog.info? 37).map (λ i=>(i.zero,i.size,i.bytes))=some (some (.int .u32 0),1,4):=by kernel_rfl
theorem Zij (A:Option Addr)(c:Nat)(L:List Int)(w:World)(hr:Reads w w.heap.size A (L.map (Yr .u8)))(hl:L.length<=1000000000) :
 Calls Tryz.prog 107 #[.slice A L.length c] w λ e w'=>∃A' c',e=.returned (.slice A' L.length c')/\w'.ownsRow w.heap.size 5 1 (.slice A' L.length c') L.length (L.map (Yr .u8))/\Below w.heap.size w w':=by
 have hn:=λ(w:World) (A:Option Addr) (n c n1 c1:Nat)=>Lib.run_eql_slice_nil (P:=Tryz.prog) w 95 5 A n c n1 c1 Tryz.underlying95
 cases A with
 | none =>
  go_enter Tryz.func107,Tryz.ntmps107
  have hx0:L=[]:=by
   cases L with
   | nil=>rfl
   | cons x r =>
    obtain⟨b,off,e,_⟩:=hr (by simp)
    cases e
  subst hx0;go_wp2_with fail
  go_ret
  exact⟨_,_,rfl,World.ownsRow_nil _ _ _ _,Yh _ _⟩
 | some a =>
  have hr':=hr.below ((Yh w.heap.size w).alloc (Yb _) (.cells #[] 5));go_enter Tryz.func107,Tryz.ntmps107
  go_wp2_with (at_builtin;refine Zad rfl (.tmp 5) (.tmp 6) _ rfl w.heap.size 5 Zyc Tryz.underlying95 rfl (by decide) _ 0 [] rfl (World.ownsRow_made w #[] 0 (Yb _) (by simp[maxLen]) (by simp)) w.heap.size (some a) L.length c (L.map (Yr .u8)) rfl (by simp) (λ h=>by cases h) hr' (by simp[Y6]) (by simp only[maxLen];omega) (by omega) (by simp) ?_;intro v' w1 ho1 hg1 hb1 hat1;obtain⟨A1,c1,rfl⟩:=Zb ho1)
  go_ret
  simp only[Y9,Yaj] at ho1;exact⟨A1,c1,by simp,ho1,((Yh _ _).alloc (Yb _) _).trans hb1⟩
def RunAt (w:World)(B p:Nat)(vm vo:Value)(A:Option Addr)(c:Nat)(inp:List Int)(m':S.Mach)(w':World):Prop :=
 ∃vo' rd',MAt w' B p vm vo' A c inp rd' m'/\Only (Za2 p vm vo) w w'/\(vo'.ownBlock=vo.ownBlock\/∃k,w.heap.size<=k/\vo'.ownBlock=some k)
theorem RunAt.next {w w1 w2:World}{m1 m2:S.Mach}{vo1:Value}{rd1:Nat}(h1:MAt w1 B p vm vo1 A c inp rd1 m1)(h2:Only (Za2 p vm vo) w w1)(h3:vo1.ownBlock=vo.ownBlock\/∃k,w.heap.size<=k/\vo1.ownBlock=some k)(hs:RunAt w1 B p vm vo1 A c inp m2 w2):RunAt w B p vm vo A c inp m2 w2:=by
 obtain⟨vo2,rd2,k1,k2,k3⟩:=hs;have hz:=h2.size;refine⟨vo2,rd2,k1,h2.trans k2 (λ i hi hf=>?_),?_⟩
 .rcases hf with e|e|e
  .exact .inl e
  .exact .inr (.inl e)
  .rcases h3 with e2|⟨k,hk,e2⟩
   .exact .inr (.inr (e2 ▸ e))
   .rw[e2] at e;cases e;omega
 .rcases k3 with e|⟨k,hk,e⟩
  .rw[e];exact h3
  .exact .inr ⟨k,by omega,e⟩
theorem Zue {m:S.Mach}(h:MAt w B p vm vo A c inp rd m)(hol:m.out.length<=1000000000)(hst:0<=m.steps/\m.steps<=1000000000) :
 Calls Tryz.prog 43 #[.pointer (some ⟨p,0,none⟩)] w λ e w'=>e=.returned (.int .i64 m.step.state)/\RunAt w B p vm vo A c inp m.step w':=Zub h hol hst
theorem Zyd (fuel:Int)(h:MAt w B p vm vo A c inp rd m)(hol:m.out.length<=500000000)(hst:0<=m.steps/\m.steps<=500000000)(hf:fuel<=100000000) :
 Calls Tryz.prog 14 #[.pointer (some ⟨p,0,none⟩),.int .i64 fuel] w λ e w'=>e=.returned (.int .i64 (m.steps_ fuel.toNat).state)/\RunAt w B p vm vo A c inp (m.steps_ fuel.toNat) w':=by
 have hlt:=h.lt;have hway:∃nf:Nat,fuel.toNat=nf/\nf<=100000000/\((fuel<0/\nf=0)\/(¬fuel<0/\fuel=nf)):=⟨fuel.toNat,rfl,by omega,by omega⟩
 obtain⟨nf,hnt,hnf,hway⟩:=hway;rw[hnt];clear hnt hf;go_enter Tryz.func14,Tryz.ntmps14
 go_wp2_with fail
 refine(Zao h).mono ?_;rintro e w2 ⟨rfl,rfl⟩;go_upto_region 3 with fail
 go_cut [9,10] from 8 to 10 (λ v9 v10 wc=>v9=.int .i64 nf/\v10=.int .i64 0/\wc=w)
 case first =>
  rcases hway with⟨h0,rfl⟩|⟨h0,rfl⟩
  .go_wp2_with fail
   all_goals
    go_meet
    exact⟨by first|rfl | (congr 2;omega),rfl,rfl⟩
  .go_wp2_with fail
   all_goals
    go_meet
    exact⟨by first|rfl | (congr 2;omega),rfl,rfl⟩
 case rest =>
 obtain⟨rfl,rfl,rfl⟩:=hcut;clear hway;go_wp2_with fail
 go_loopw [10] (λ i wr=>∃k:Nat,k<=nf/\i=.int .i64 k/\RunAt wc B p vm vo A c inp (m.steps_ k) wr) (λ i _=>nf-(intOf i).toNat)
 case atStart=>exact⟨0,by omega,rfl,vo,rd,h,Only.refl _ _,.inl rfl⟩
 case round =>
  obtain⟨k,hk,rfl,hR⟩:=hrel;obtain⟨vo1,rd1,hM1,hO1,hv1⟩:=hR;have hg:=Zki m k;have hcs:=hM1.cells;obtain⟨_,_,_,_,_,c37,_⟩:=hcs;have hp1:=hM1.lt;by_cases hlt2:k<nf
  .go_wp2_with fail
   refine(Zue hM1 (by omega) (by omega)).mono ?_;rintro e w3 ⟨rfl,hR3⟩;have hR':RunAt wc B p vm vo A c inp (m.steps_ (k+1)) w3:=RunAt.next hM1 hO1 hv1 hR3;by_cases hs:(m.steps_ k).step.state=0
   .have d0:((m.steps_ k).step.state != 0)=false:=by simp[hs]
    clear hs;go_wp2_with fail
    go_roundw
    case rel=>exact⟨k+1,by omega,by go_num,hR'⟩
    case measure=>simp[intOf];omega
   .have d0:((m.steps_ k).step.state != 0)=true:=by simpa using hs
    have hstop:=Zkj (m:=m) (k:=k+1) hs (nf-(k+1));rw[show k+1+(nf-(k+1))=nf by omega] at hstop;have Hstop:=Ya hstop;obtain⟨vo2,rd2,hM2,hO2,hv2⟩:=hR';obtain⟨_,_,_,_,_,c37',_⟩:=hM2.cells;have hp2:=hM2.lt;clear hs hstop hR3;go_wp2_with fail
    go_ret
    rw[Hstop.out];exact⟨rfl,vo2,rd2,hM2,hO2,hv2⟩
  .have hke:k=nf:=by omega
   subst hke;go_wp2_with fail
   go_ret
   exact⟨rfl,vo1,rd1,hM1,hO1,hv1⟩
end
end
section
section
variable {w w':World}{B p:Nat}{vm vo:Value}{A:Option Addr}{c:Nat}{inp:List Int}{rd:Nat}{m:S.Mach}
namespace S.Mach
def setV (m:S.Mach)(i v:Int):S.Mach:=if 0<=i/\i<32 then m.put i v else m
def putV (m:S.Mach)(i v:Int):S.Mach:=if 0<=i/\i<m.mem.length then { m with mem:=m.mem.set i.toNat v } else m
def goV (m:S.Mach)(v:Int):S.Mach:=if m.state≠0 then m else { m with place:=v }
end S.Mach
theorem Zqs (i v:Int)(h:MAt w B p vm vo A c inp rd m)(hv:0<=v/\v<=4294967295):Calls Tryz.prog 13 #[.pointer (some ⟨p,0,none⟩),.int .i64 i,.int .u32 v] w
 λ e w'=>e=.returned (.int .i64 (if 0<=i/\i<32 then 0 else 2))/\MAt w' B p vm vo A c inp rd (m.setV i v)/\Only (·=p) w w':=by
 have hlt:=h.lt;have HM:=Ya h;by_cases h0:i<0
 .have Hc:=Ya (show ¬(0<=i/\i<32) by omega)
  go_enter Tryz.func13,Tryz.ntmps13
  go_wp2_with fail
  refine(Zao h).mono ?_;rintro e w2 ⟨rfl,rfl⟩;go_wp2_with fail
  go_ret
  simp only[S.Mach.setV,if_neg Hc.out];exact⟨rfl,HM.out,Only.refl _ _⟩
 .by_cases h1:32<=i
  .have Hc:=Ya (show ¬(0<=i/\i<32) by omega)
   go_enter Tryz.func13,Tryz.ntmps13
   go_wp2_with fail
   refine(Zao h).mono ?_;rintro e w2 ⟨rfl,rfl⟩;go_wp2_with fail
   go_ret
   simp only[S.Mach.setV,if_neg Hc.out];exact⟨rfl,HM.out,Only.refl _ _⟩
  .have Hc:=Ya (show 0<=i/\i<32 by omega)
   go_enter Tryz.func13,Tryz.ntmps13
   go_wp2_with fail
   refine(Zao h).mono ?_;rintro e w2 ⟨rfl,rfl⟩;go_wp2_with fail
   refine(Zb9 _ _ h (by omega) (by omega) hv).mono ?_;rintro e w3 ⟨rfl,hM3,hO3⟩;go_wp2_with fail
   go_ret
   simp only[S.Mach.setV,if_pos Hc.out];exact⟨rfl,hM3,hO3⟩
theorem Zqt (i v:Int)(h:MAt w B p vm vo A c inp rd m)(hv:0<=v/\v<=4294967295):Calls Tryz.prog 12 #[.pointer (some ⟨p,0,none⟩),.int .i64 i,.int .u32 v] w
 λ e w'=>e=.returned (.int .i64 (if 0<=i/\i<m.mem.length then 0 else 2))/\MAt w' B p vm vo A c inp rd (m.putV i v)/\Only (Za2 p vm vo) w w':=by
 have hlt:=h.lt;have HM:=Ya h;have hl0:=h.low0;obtain⟨g,cap,hvm,hg,hmc,hfz⟩:=h.memv;obtain⟨c32,_⟩:=h.cells;rw[hvm] at c32;have Hvm:=Ya hvm;have Hmc:=Ya hmc;clear hvm hmc;by_cases h0:i<0
 .have Hc:=Ya (show ¬(0<=i/\i<m.mem.length) by omega)
  go_enter Tryz.func12,Tryz.ntmps12
  go_wp2_with fail
  refine(Zao h).mono ?_;rintro e w2 ⟨rfl,rfl⟩;go_wp2_with fail
  go_ret
  simp only[S.Mach.putV,if_neg Hc.out];exact⟨rfl,HM.out,Only.refl _ _⟩
 .by_cases h1:(m.mem.length:Int)<=i
  .have Hc:=Ya (show ¬(0<=i/\i<m.mem.length) by omega)
   go_enter Tryz.func12,Tryz.ntmps12
   go_wp2_with fail
   refine(Zao h).mono ?_;rintro e w2 ⟨rfl,rfl⟩;go_wp2_with fail
   go_ret
   simp only[S.Mach.putV,if_neg Hc.out];exact⟨rfl,HM.out,Only.refl _ _⟩
  .obtain⟨k,rfl⟩:∃k:Nat,i=k:=⟨i.toNat,by omega⟩
   have hk:k<m.mem.length:=by omega
   have Hc:=Ya (show 0<=(k:Int)/\(k:Int)<m.mem.length by omega);have hmt:=Hmc.out k hk;have hft:=hfz k;have HS:=Ya (h.sw Hvm.out hv hk);go_enter Tryz.func12,Tryz.ntmps12
   go_wp2_with fail
   refine(Zao h).mono ?_;rintro e w2 ⟨rfl,rfl⟩;go_wp2_with fail
   go_ret
   simp only[S.Mach.putV,if_pos Hc.out,Yah];exact⟨rfl,HS.out,Only.setCell _ (show Za2 p vm vo g from .inr (.inl (by rw[Hvm.out];rfl))) _⟩
theorem Z1d (v:Int)(h:MAt w B p vm vo A c inp rd m)(hv:0<=v/\v<=4294967295):Calls Tryz.prog 40 #[.pointer (some ⟨p,0,none⟩),.int .u32 v] w
 λ e w'=>e=.returned (.int .i64 (if m.state≠0 then 2 else 0))/\MAt w' B p vm vo A c inp rd (m.goV v)/\Only (·=p) w w':=by
 have hlt:=h.lt;have HM:=Ya h;obtain⟨_,c33,_,_,_,c37,_⟩:=h.cells;have f33:=h.fz 33;by_cases hs:m.state=0
 .have d0:(m.state != 0)=false:=by simp[hs]
  have Hs:=Ya hs;have HW:=Ya (h.went hv);clear hs;go_enter Tryz.func40,Tryz.ntmps40
  go_wp2_with fail
  refine(Zao h).mono ?_;rintro e w2 ⟨rfl,rfl⟩;go_wp2_with fail
  go_ret
  simp only[S.Mach.goV,if_neg (show ¬m.state≠0 from λ q=>q Hs.out)];exact⟨rfl,HW.out,Only.setCell (F:=(·=p)) _ rfl _⟩
 .have d0:(m.state != 0)=true:=by simpa using hs
  have Hs:=Ya hs;clear hs;go_enter Tryz.func40,Tryz.ntmps40
  go_wp2_with fail
  refine(Zao h).mono ?_;rintro e w2 ⟨rfl,rfl⟩;go_wp2_with fail
  go_ret
  simp only[S.Mach.goV,if_pos (show m.state≠0 from Hs.out)];exact⟨rfl,HM.out,Only.refl _ _⟩
end
end
def Zkk (words:List Int)(size:Nat)(input:List Int):S.Mach:=⟨Ys 32 0,words++Ys (size-words.length) 0,0,input,[],0,0,0,0⟩
def Zik (n:Nat)(size:Int):Prop:=1<=size/\size<=335544320/\(n:Int)<=size
theorem Zfx (n i:Nat):(Ys n (0:Int)).getD i 0=0:=by
 by_cases h:i<n <;> simp[h]
theorem Zuf {words:List Int}{size:Nat}{input:List Int}(hs:1<=size)(hl:words.length<=size)(hw:∀x∈words,0<=x/\x<=4294967295)(hi:∀x∈input,0<=x/\x<=255):(Zkk words size input).Ok:=by
 refine⟨by simp[Zkk],λ i=>?_,?_,?_,λ i=>?_,Y7 _,show(0:Int)<=4294967295 by decide,hi,λ x hx=>by simp[Zkk] at hx,Y7 _,show(0:Int)<=4294967295 by decide⟩
 .show 0<=(Ys 32 (0:Int)).getD i 0/\(Ys 32 (0:Int)).getD i 0<=4294967295
  rw[Zfx];decide
 .show(Ys 32 (0:Int)).getD 0 0=0
  rw[Zfx]
 .simp[Zkk];omega
 .show 0<=(words++Ys (size-words.length) 0).getD i 0/\(words++Ys (size-words.length) 0).getD i 0<=4294967295
  by_cases h:i<words.length
  .have e:(words++Ys (size-words.length) 0).getD i 0=words[i]:=by simp[Ym h,Yf h]
   rw[e];exact hw _ (Ya7 _)
  .have e:(words++Ys (size-words.length) (0:Int)).getD i 0=(Ys (size-words.length) (0:Int)).getD (i-words.length) 0:=by
    simp only[Ye];rw[Yo (by omega)]
   rw[e,Zfx]
   decide
theorem Reads.moreM {w:World}{B B':Nat}{A:Option Addr}{xs:List Value}(h:Reads w B A xs)(hB:B<=B'):Reads w B' A xs:=λ hp=>by
 obtain⟨b,off,e,hb,hc⟩:=h hp;exact⟨b,off,e,by omega,hc⟩
theorem MAt.copied {w:World}{B p:Nat}{vm vo:Value}{A:Option Addr}{c:Nat}{inp:List Int}{rd:Nat}{m:S.Mach}(h:MAt w B p vm vo A c inp rd m){g cap:Nat}(hv:vm=.slice (some ⟨g,0,none⟩) m.mem.length cap){cur:Array Value}(hg:w.heap[g]?=some (.cells cur 37 (0,0)))
 {L:List Int} (hL:L.length<=m.mem.length) (hw:∀x∈L,0<=x/\x<=4294967295) :
 MAt (w.setRow g (cur.toList.take 0++(L.map (Yr .u32)++cur.toList.drop (0+(L.map (Yr .u32)).length))).toArray) B p vm vo A c inp rd { m with mem:=L++m.mem.drop L.length }:=by
 obtain⟨n1,n2⟩:=h.mem_ne (k:=g) (by rw[hv];rfl);have hsame:∀j,j≠g->(w.setRow g (cur.toList.take 0++(L.map (Yr .u32)++cur.toList.drop (0+(L.map (Yr .u32)).length))).toArray).heap[j]?=w.heap[j]?:=λ j hj=>setRow_other w g j _ hj
 refine⟨⟨h.ok.regs,h.ok.word,h.ok.zero,by have:=h.ok.mem;simp;omega,λ j=>?_,h.ok.place0,h.ok.place1,h.ok.inp,h.ok.outp,h.ok.code0,h.ok.code1⟩,h.low,?_,?_,?_,?_,h.left,h.rdle,h.inl,by have:=h.low0;simp;omega,λ b o s e=>by have:=h.la b o s e;simpa using this,h.d1,h.d2⟩
 .show 0<=(L++m.mem.drop L.length).getD j 0/\(L++m.mem.drop L.length).getD j 0<=4294967295
  by_cases hj:j<L.length
  .have e:(L++m.mem.drop L.length).getD j 0=L[j]:=by simp[Ym hj,Yf hj]
   rw[e];exact hw _ (Ya7 _)
  .have e:(L++m.mem.drop L.length).getD j 0=m.mem.getD j 0:=by
    simp only[Ye];rw[Yo (by omega),List.getElem?_drop,show L.length+(j-L.length)=j by omega]
   rw[e];exact h.ok.memw j
 .obtain⟨cs,h1,h2⟩:=h.blk
  exact⟨cs,by rw[hsame p (Ne.symm n1)];exact h1,h2⟩
 .rcases h.mem.2 with⟨e,_⟩|⟨g',cap',cur',e,h3,h4,h5,h6,h7,h8⟩
  .rw[hv] at e;cases e
  .rw[hv] at e
   injection e with e1 e2 e3
   injection e1 with e1
   injection e1 with e1
   subst e1 e3;rw[hg] at h4
   injection h4 with h4
   injection h4 with h4 _ _
   subst h4;have hl:(L++m.mem.drop L.length).length=m.mem.length:=by simp;omega
   refine⟨by simp,.inr ⟨g,cap,_,by rw[hv,hl],h3,setRow_heap w g cur _ _ _ hg,by rw[hl];exact h5,h6,?_,?_⟩⟩
   .simp;omega
   .simp only[Ya2,Yaj,Nat.mul_one] at h8⊢
    rw[hl,List.take_append,List.take_of_length_le (by simp;omega),List.map_append,List.map_drop,<- h8,Yac,Y9,List.drop_take]
 .exact Zaw h.out λ j hj=>hsame j λ e=>n2 (e ▸ hj)
 .exact h.rin.same (by simp) λ b' o s e=>hsame b' λ e2=>(h.d1 b' o s e).2.1 (by rw[e2,hv];rfl)
theorem Z3u {w wz:World}{n g c:Nat}{A:Option Addr}{I:List Int}(hn:1<=n)(hn2:n<=335544320)(hI:∀x∈I,0<=x/\x<=255)(hil:I.length<=1000000)(hb:Below w.heap.size w wz)
 (hg:wz.ownsRow w.heap.size 37 1 (.slice (some ⟨g,0,none⟩) n n) n (Ys n (Yr .u32 0))) (hA:wz.ownsRow w.heap.size 5 1 (.slice A I.length c) I.length (I.map (Yr .u8))) :
 MAt (wz.alloc (.cells #[.int .u32 0,.int .u32 0,.int .u32 0,.int .u32 0,.int .u32 0,.int .u32 0,.int .u32 0,.int .u32 0,.int .u32 0,.int .u32 0,.int .u32 0,.int .u32 0,.int .u32 0,.int .u32 0,.int .u32 0,.int .u32 0,.int .u32 0,.int .u32 0,.int .u32 0,.int .u32 0,.int .u32 0,.int .u32 0,.int .u32 0,.int .u32 0,.int .u32 0,.int .u32 0,.int .u32 0,.int .u32 0,.int .u32 0,.int .u32 0,.int .u32 0,.int .u32 0,.slice (some ⟨g,0,none⟩) n n,.int .u32 0,.slice A I.length c,.int .i64 0,.slice none 0 0,.int .i64 0,.int .u32 0,.int .i64 0,.int .i64 0] 97)) w.heap.size wz.heap.size (.slice (some ⟨g,0,none⟩) n n) (.slice none 0 0) A c I 0 (Zkk [] n I)/\Below w.heap.size w (wz.alloc (.cells #[.int .u32 0,.int .u32 0,.int .u32 0,.int .u32 0,.int .u32 0,.int .u32 0,.int .u32 0,.int .u32 0,.int .u32 0,.int .u32 0,.int .u32 0,.int .u32 0,.int .u32 0,.int .u32 0,.int .u32 0,.int .u32 0,.int .u32 0,.int .u32 0,.int .u32 0,.int .u32 0,.int .u32 0,.int .u32 0,.int .u32 0,.int .u32 0,.int .u32 0,.int .u32 0,.int .u32 0,.int .u32 0,.int .u32 0,.int .u32 0,.int .u32 0,.int .u32 0,.slice (some ⟨g,0,none⟩) n n,.int .u32 0,.slice A I.length c,.int .i64 0,.slice none 0 0,.int .i64 0,.int .u32 0,.int .i64 0,.int .i64 0] 97))/\(∀b o s,A=some ⟨b,o,s⟩->w.heap.size<=b):=by
 obtain⟨x1,x2,x3⟩:=Zgy wz #[.int .u32 0,.int .u32 0,.int .u32 0,.int .u32 0,.int .u32 0,.int .u32 0,.int .u32 0,.int .u32 0,.int .u32 0,.int .u32 0,.int .u32 0,.int .u32 0,.int .u32 0,.int .u32 0,.int .u32 0,.int .u32 0,.int .u32 0,.int .u32 0,.int .u32 0,.int .u32 0,.int .u32 0,.int .u32 0,.int .u32 0,.int .u32 0,.int .u32 0,.int .u32 0,.int .u32 0,.int .u32 0,.int .u32 0,.int .u32 0,.int .u32 0,.int .u32 0,.slice (some ⟨g,0,none⟩) n n,.int .u32 0,.slice A I.length c,.int .i64 0,.slice none 0 0,.int .i64 0,.int .u32 0,.int .i64 0,.int .i64 0] 97;have hgl:=hg.lt g rfl;have hAl:∀b o s,A=some ⟨b,o,s⟩->w.heap.size<=b/\b<wz.heap.size:=λ b o s e=>hA.lt b (by rw[e];rfl)
 have hmem:(Zkk [] n I).mem=Ys n 0:=by simp[Zkk]
 have hne:=Zps hA hg (by decide);refine⟨⟨Zuf hn (by simp) (λ x hx=>by cases hx) hI,hb.size,⟨_,x1,rfl⟩,?_,World.ownsRow_nil _ _ _ _,?_,by simp[Zkk],Nat.zero_le _,by omega,by rw[hmem];simp;omega,λ b o s e=>by have:=hAl b o s e;omega,λ b o s e=>?_,?_⟩,hb.trans (x2.mono hb.size),λ b o s e=>(hAl b o s e).1⟩
 .rw[hmem,List.map_replicate,List.length_replicate]
  exact Zd hg x2
 .exact Reads.of_own (Zd hA x2)
 .have h1:=hAl b o s e
  refine⟨by omega,λ q=>?_,λ q=>by cases q⟩;have q2:g=b:=by injection q
  subst q2;rcases hne with q|q
  .rw[e] at q;cases q
  .exact q (by rw[e];rfl)
 .refine⟨λ q=>?_,λ q=>by cases q⟩
  have q2:g=wz.heap.size:=by injection q
  omega
theorem Zm2:(Tryz.prog.info? 37).map (·.size)=some 1:=by kernel_rfl
theorem Zkl (n:Nat):(madeCells (Yr .u32 0).cells (n*1)).toList=Ys n (Yr .u32 0):=by
 rw[Nat.mul_one];exact toList_madeCells_one _ n
def Zqu (w:World)(n:Nat)(size:Int)(I:List Int)(m:S.Mach)(e:Ending)(w':World):Prop :=
 (¬Zik n size/\e=.returned (.tuple #[.pointer none,.int .i64 2])/\w=w') \/
 (Zik n size/\∃p vm A c,e=.returned (.tuple #[.pointer (some ⟨p,0,none⟩),.int .i64 0])/\MAt w' w.heap.size p vm (.slice none 0 0) A c I 0 m/\Below w.heap.size w w'/\∀b o s,A=some ⟨b,o,s⟩->w.heap.size<=b)
theorem Zye (Aw Ai:Option Addr)(cw ci:Nat)(L I:List Int)(size:Int)(w:World)(hL:Reads w w.heap.size Aw (L.map (Yr .u32)))(hI:Reads w w.heap.size Ai (I.map (Yr .u8)))(hl:L.length<=300000000)(hil:I.length<=1000000)
 (hLw:∀x∈L,0<=x/\x<=4294967295) (hIw:∀x∈I,0<=x/\x<=255) :
 Calls Tryz.prog 38 #[.slice Aw L.length cw,.int .i64 size,.slice Ai I.length ci] w (Zqu w L.length size I (Zkk L size.toNat I)):=by
 have HLw:=Ya hLw;have HIw:=Ya hIw;clear hLw hIw;by_cases h1:size<1
 .have Hn:=Ya (show ¬Zik L.length size from λ q=>by have:=q.1;omega)
  go_enter Tryz.func38,Tryz.ntmps38
  go_wp2_with fail
  go_ret2
  exact .inl ⟨Hn.out,rfl,rfl⟩
 by_cases h2:335544320<size
 .have Hn:=Ya (show ¬Zik L.length size from λ q=>by have:=q.2.1;omega)
  go_enter Tryz.func38,Tryz.ntmps38
  go_wp2_with fail
  go_ret2
  exact .inl ⟨Hn.out,rfl,rfl⟩
 by_cases h3:size<L.length
 .have Hn:=Ya (show ¬Zik L.length size from λ q=>by have:=q.2.2;omega)
  go_enter Tryz.func38,Tryz.ntmps38
  go_wp2_with fail
  go_ret2
  exact .inl ⟨Hn.out,rfl,rfl⟩
 obtain⟨n,rfl⟩:∃n:Nat,size=n:=⟨size.toNat,by omega⟩
 have Hok:=Ya (show Zik L.length n from⟨by omega,by omega,by omega⟩);have HL:=Ya hL;have hn1:1<=n:=by omega
 have hn2:n<=335544320:=by omega
 have hnL:L.length<=n:=by omega
 go_enter Tryz.func38,Tryz.ntmps38
 go_upto_region 3 with fail
 go_cut [8] (λ v8 wc=>∃p g A c,v8=.pointer (some ⟨p,0,none⟩)/\MAt wc w.heap.size p (.slice (some ⟨g,0,none⟩) n n) (.slice none 0 0) A c I 0 (Zkk [] n I)/\Below w.heap.size w wc/\∀b o s,A=some ⟨b,o,s⟩->w.heap.size<=b)
 case first =>
  have hId:Below w.heap.size w w.drew:=(Yh _ _).drew;obtain⟨ti,hti,htz,hts,htb⟩:=info_parts (Zud)
  go_region_with (first
   | (go_at_call 107;refine(Zij Ai ci I w.drew hI (by omega)).mono ?_;rintro e w2 ⟨A2,c2,rfl,ho2,hb2⟩)
   | (go_at_call 107;have hb3:Below w.heap.size w w3:=hId.grown hg3 (Yb _) (λ k e=>by cases e);refine(Zij Ai ci I w3 ((hI.below hb3).moreM hb3.size) (by omega)).mono ?_;rintro e w5 ⟨A5,c5,rfl,ho5,hb5⟩)
   | (obtain⟨w3,hrun,ho3,hg3⟩:=run_make_full (P:=Tryz.prog) w2 w2.heap.size 51 37 ti _ 1 Tryz.underlying51 hti htz hts .i64 .i64 n (by rw[htb];omega) (by simp only[maxLen];omega) (Yb _);simp only[hrun];clear htb)
   | (obtain⟨w3,hrun,ho3,hg3⟩:=run_make_full (P:=Tryz.prog) w.drew w.drew.heap.size 51 37 ti _ 1 Tryz.underlying51 hti htz hts .i64 .i64 n (by rw[htb];omega) (by simp only[maxLen];omega) (Yb _);simp only[hrun];clear htb))
  .simp only[Ycv,Yc2,Yc3,Act.put,Ycs,Ycx,Ycz]
   have hb3:Below w.heap.size w w3:=hId.grown hg3 (Yb _) (λ k e=>by cases e);have hbz:Below w.heap.size w w5:=hb3.trans (hb5.mono hb3.size);have hrow:w5.ownsRow w.heap.size 37 1 (.slice (some ⟨w.heap.size,0,none⟩) n n) n (Ys n (Yr .u32 0)):=by
    have h:=Zd ho3 hb5
    rwa[Zkl] at h
   have hZ:=Ya (Z3u (w:=w) hn1 hn2 HIw.out hil hbz hrow (Z5 ho5 hb3.size));clear hrun ho3 hg3 ho5 hb5 hb3 hbz hrow;go_wp2_with fail
   go_meet
   refine⟨w5.heap.size,w.heap.size,A5,c5,by kernel_rfl,?_⟩
   with_reducible exact hZ.out
  .simp only[Ycv,Yc2,Yc3,Act.put,Ycs,Ycx,Ycz]
   have hb2':Below w.heap.size w w2:=hId.trans hb2;have hb3:Below w.heap.size w w3:=hb2'.grown hg3 hb2'.size (λ k e=>by cases e);have hrow:w3.ownsRow w.heap.size 37 1 (.slice (some ⟨w2.heap.size,0,none⟩) n n) n (Ys n (Yr .u32 0)):=by
    have h:=Z5 ho3 hb2'.size
    rwa[Zkl] at h
   have hin:w3.ownsRow w.heap.size 5 1 (.slice A2 I.length c2) I.length (I.map (Yr .u8)):=Zaw (Z5 ho2 (Yb _)) λ k hk=>hg3.block k (ho2.lt k hk).2 (λ e=>by cases e)
   have hZ:=Ya (Z3u (w:=w) hn1 hn2 HIw.out hil hb3 hrow hin);clear hrun ho3 hg3 ho2 hb2 hb2' hb3 hrow hin;go_wp2_with fail
   go_meet
   refine⟨w3.heap.size,w2.heap.size,A2,c2,by kernel_rfl,?_⟩
   with_reducible exact hZ.out
 case rest =>
 obtain⟨p,g,A2,c2,rfl,hM,hbc,hA2⟩:=hcut;have hmem:(Zkk [] n I).mem.length=n:=by simp[Zkk]
 obtain⟨c32,_⟩:=hM.cells;have hpw:=hM.lt;have hmw:=hM.mem;rw[hmem] at hmw;obtain⟨cur,hgr,hcs⟩:∃cur,wc.heap[g]?=some (.cells cur 37 (0,0))/\n<=cur.size:=by
  rcases hmw.2 with⟨e,_⟩|⟨g',cap',cur',e,h3,h4,h5,h6,h7,h8⟩
  .cases e
  .injection e with e1 e2 e3
   injection e1 with e1
   injection e1 with e1
   subst e1;exact⟨cur',h4,by omega⟩
 have hLc:=HL.out.below hbc;have HM:=Ya hM;have HLc:=Ya hLc;have hend:Zkk L n I={ Zkk [] n I with mem:=L++(Zkk [] n I).mem.drop L.length }:=by
  simp[Zkk]
 have Hend:=Ya hend;have Hb:=Ya hbc;have HA2:=Ya hA2;clear hM hLc hmw hend hbc hA2;by_cases hz:L.length=0
 .have hnil:L=[]:=List.eq_nil_of_length_eq_zero hz
  subst hnil;go_wp2_with (refine wpList_copy_nothing (o:=⟨some 32,_,_,_,_,_⟩) rfl (.tmp 30) (.tmp 31) _ _ rfl 37 Tryz.underlying51 Zm2 (some ⟨g,0,none⟩) Aw n n 0 cw rfl rfl (by simp) ?_)
  go_ret2
  refine .inr ⟨Hok.out,p,.slice (some ⟨g,0,none⟩) n n,A2,c2,rfl,?_,Hb.out,HA2.out⟩;exact HM.out
 .obtain⟨bL,oL,e,hbL,hcL⟩:=HLc.out (by simp;omega)
  subst e;have HcL:=Ya hcL;have Hcp:=Ya (HM.out.copied (g:=g) (cap:=n) (by rw[hmem]) hgr (L:=L) (by rw[hmem];exact hnL) HLw.out);have Hgl:=Ya (HM.out.foot_lt (show Za2 p (.slice (some ⟨g,0,none⟩) n n) (.slice none 0 0) g from .inr (.inl rfl))).1;clear hcL;go_wp2_with (refine wpList_copy_own (o:=⟨some 32,_,_,_,_,_⟩) rfl (.tmp 30) (.tmp 31) _ _ rfl 37 Tryz.underlying51 Zm2 g 0 n n ⟨bL,oL,none⟩ L.length cw rfl rfl cur 37 hgr (L.map (Yr .u32)) (by rw[Yac];exact(Nat.min_eq_left hnL).symm) (λ j v hj=>(by rw[Addr.add_mk];exact HcL.out j v hj)) (by rw[Yac];omega) (by simp[Y6]) ?_)
  go_ret2
  refine .inr ⟨Hok.out,p,.slice (some ⟨g,0,none⟩) n n,A2,c2,rfl,?_,?_,HA2.out⟩
  .rw[Hend.out]
   have hc:=Hcp.out;rw[Ya2,Yaj,Y9,Yac] at hc;exact hc
  .exact below_setRow Hb.out Hgl.out _
namespace S
def kStart:ByteArray:=⟨#[115,116,97,114,116]⟩
def kAfter:ByteArray:=⟨#[97,102,116,101,114]⟩
def bW (w:Int):Item:=⟨6,⟨0,0,0,0,0⟩,bNo,w⟩
def viewOf (m:Mach):Vw:=⟨m.rd,m.mv,m.input,m.out⟩
end S
section
namespace S
def eC (n:Int):BE:=.mk 1 n bNo []
def eL (n:Int):BE:=.mk 2 n bNo []
def eR (n:Int):BE:=.mk 3 n bNo []
def eB (op:Int)(a b:BE):BE:=.mk 4 op bNo [a,b]
def eM (a:BE)(n:Int):BE:=.mk 5 n bNo [a]
def eF (name:ByteArray)(l:List BE):BE:=.mk 6 0 name l
def eQ (a b:BE):BE:=.mk 7 0 bNo [a,b]
def eA (name:ByteArray):BE:=.mk 9 0 name []
def eK:BE:=.mk 10 0 bNo []
def sAs (n:Int)(e:BE):BS:=.mk 1 n bNo [e] [] [] []
def sPut (a:BE)(n:Int)(e:BE):BS:=.mk 2 n bNo [a,e] [] [] []
def sIf (e:BE)(b l:List BS):BS:=.mk 3 0 bNo [e] [] b l
def sWh (e:BE)(b:List BS):BS:=.mk 4 0 bNo [e] [] b []
def sRet (regs:List Int)(l:List BE):BS:=.mk 5 0 bNo l regs [] []
def sDo (e:BE):BS:=.mk 6 0 bNo [e] [] [] []
def sHlt (e:BE):BS:=.mk 8 0 bNo [e] [] [] []
def sSet (n:Int)(e:BE):BS:=.mk 9 n bNo [e] [] [] []
def Z66 (name:ByteArray):BS:=.mk 10 0 name [] [] [] []
def sGo (e:BE):BS:=.mk 11 0 bNo [e] [] [] []
def sBk (e:BE):BS:=sRet [4] [e]
end S
section
variable {I:S.Img}{dep lk:Int}{env:List Int}{at_:Nat}{st:S.Vw}{c:Nat}{Q:Int->S.Vw->Nat->Prop}{H:Int->S.Vw->Nat->Prop}
theorem Zfy (op n:Int)(nm:ByteArray)(l:List S.BE):S.wpE I dep lk env (.mk op n nm l) at_ st c Q H=S.wpEs I dep lk env l at_ st c (λ vs st1 c1=>S.wpOp I dep lk op n nm at_ env vs st1 c1 Q H) H:=by rw[S.wpE]
theorem Z5n (n:Int):S.wpE I dep lk env (S.eC n) at_ st c Q H=Q (n%4294967296) st (c+2):=by
 rw[S.eC,Zfy,S.wpEs,S.wpOp,if_pos rfl]
theorem Z5o (n:Int):S.wpE I dep lk env (S.eL n) at_ st c Q H=Q (env.getD n.toNat 0) st (c+1):=by
 rw[S.eL,Zfy,S.wpEs,S.wpOp,if_neg (by decide),if_pos rfl]
theorem Z5p (n:Int):S.wpE I dep lk env (S.eR n) at_ st c Q H=Q (st.reg n) st (c+1):=by
 rw[S.eR,Zfy,S.wpEs,S.wpOp,if_neg (by decide),if_neg (by decide),if_pos rfl]
theorem Z5q (op:Int)(a b:S.BE):S.wpE I dep lk env (S.eB op a b) at_ st c Q H =
 S.wpE I dep lk env a at_ st c (λ v st1 c1=>S.wpE I dep lk env b (at_+1) st1 c1 (λ u st2 c2=>(u=0->op≠5/\op≠6)/\Q (S.alu op v u) st2 (c2+1)) H) H:=by
 rw[S.eB,Zfy,S.wpEs];refine congrArg (λ q=>S.wpE I dep lk env a at_ st c q H) (funext λ v=>funext λ st1=>funext λ c1=>?_);rw[S.wpEs];refine congrArg (λ q=>S.wpE I dep lk env b (at_+1) st1 c1 q H) (funext λ u=>funext λ st2=>funext λ c2=>?_);rw[S.wpEs,S.wpOp,if_neg (by decide),if_neg (by decide),if_neg (by decide),if_pos rfl];rfl
theorem Z5r (a:S.BE)(n:Int):S.wpE I dep lk env (S.eM a n) at_ st c Q H =
 S.wpE I dep lk env a at_ st c (λ v st1 c1=>S.u32m (v+n)<I.size/\¬I.stk (S.u32m (v+n))/\Q (st1.mem (S.u32m (v+n))) st1 (c1+1)) H:=by
 rw[S.eM,Zfy,S.wpEs];refine congrArg (λ q=>S.wpE I dep lk env a at_ st c q H) (funext λ v=>funext λ st1=>funext λ c1=>?_);rw[S.wpEs,S.wpOp,if_neg (by decide),if_neg (by decide),if_neg (by decide),if_neg (by decide),if_pos rfl];rfl
def S.bi (I:S.Img)(dep:Int)(name:ByteArray)(at_:Nat)(vs:List Int)(st:S.Vw)(c:Nat)(Q H:Int->S.Vw->Nat->Prop):Prop :=
 ∃d R,S.Real I name false (st.args vs) d R/\d<=dep/\∀ret o k,R ret o k->(match o with
  | .ret st2=>Q (st2.reg 4) st2 (c+2*at_+vs.length+4+k)
  | .halt code st2=>H code st2 (c+2*at_+vs.length+4+k)
  | .left _ _=>False)
theorem Zpk (nm:ByteArray)(l:List S.BE):S.wpE I dep lk env (S.eF nm l) at_ st c Q H=S.wpEs I dep lk env l at_ st c (λ vs st1 c1=>S.bi I dep nm at_ vs st1 c1 Q H) H:=by
 rw[S.eF,Zfy];refine congrArg (λ q=>S.wpEs I dep lk env l at_ st c q H) (funext λ v=>funext λ st1=>funext λ c1=>?_);rw[S.wpOp,if_neg (by decide),if_neg (by decide),if_neg (by decide),if_neg (by decide),if_neg (by decide),if_pos rfl];rfl
theorem Z3v (nm:ByteArray)(a:S.BE):S.wpE I dep lk env (S.eF nm [a]) at_ st c Q H=S.wpE I dep lk env a at_ st c (λ v st1 c1=>S.bi I dep nm at_ [v] st1 c1 Q H) H:=by
 rw[Zpk,S.wpEs];refine congrArg (λ q=>S.wpE I dep lk env a at_ st c q H) (funext λ v=>funext λ st1=>funext λ c1=>?_);rw[S.wpEs]
theorem Z5s (a b:S.BE):S.wpE I dep lk env (S.eQ a b) at_ st c Q H =
 S.wpE I dep lk env a at_ st c (λ v st1 c1=>S.wpE I dep lk env b (at_+1) st1 c1 (λ u st2 c2=>Q (if v=u then 1 else 0) st2 (c2+3)) H) H:=by
 rw[S.eQ,Zfy,S.wpEs];refine congrArg (λ q=>S.wpE I dep lk env a at_ st c q H) (funext λ v=>funext λ st1=>funext λ c1=>?_);rw[S.wpEs];refine congrArg (λ q=>S.wpE I dep lk env b (at_+1) st1 c1 q H) (funext λ u=>funext λ st2=>funext λ c2=>?_);rw[S.wpEs,S.wpOp,if_neg (by decide),if_neg (by decide),if_neg (by decide),if_neg (by decide),if_neg (by decide),if_neg (by decide),if_pos rfl];rfl
theorem Z5t:S.wpE I dep lk env S.eK at_ st c Q H=Q lk st (c+1):=by
 rw[S.eK,Zfy,S.wpEs,S.wpOp,if_neg (by decide),if_neg (by decide),if_neg (by decide),if_neg (by decide),if_neg (by decide),if_neg (by decide),if_neg (by decide),if_neg (by decide),if_neg (by decide),if_pos rfl]
end
section
variable {I:S.Img}{dep lk:Int}{behind:Bool}{env:List Int}{st:S.Vw}{c:Nat}{Q:List Int->S.Vw->Nat->Prop}{R:S.BO->Nat->Prop}
theorem Zg8 {a:S.BE}{at_:Nat}{T:List Int->S.Vw->Nat->Prop}{H:Int->S.Vw->Nat->Prop}:S.wpEs I dep lk env [a] at_ st c T H=S.wpE I dep lk env a at_ st c (λ v st1 c1=>T [v] st1 c1) H:=by
 rw[S.wpEs];refine congrArg (λ q=>S.wpE I dep lk env a at_ st c q H) (funext λ v=>funext λ st1=>funext λ c1=>?_);rw[S.wpEs]
theorem Z3w {a b:S.BE}{at_:Nat}{T:List Int->S.Vw->Nat->Prop}{H:Int->S.Vw->Nat->Prop}:S.wpEs I dep lk env [a,b] at_ st c T H =
 S.wpE I dep lk env a at_ st c (λ v st1 c1=>S.wpE I dep lk env b (at_+1) st1 c1 (λ u st2 c2=>T [v,u] st2 c2) H) H:=by
 rw[S.wpEs];refine congrArg (λ q=>S.wpE I dep lk env a at_ st c q H) (funext λ v=>funext λ st1=>funext λ c1=>?_);rw[Zg8]
theorem Zug:S.wpSs I dep lk behind [] env st c Q R=Q env st c:=by rw[S.wpSs]
theorem Zbs (s:S.BS)(r:List S.BS):S.wpSs I dep lk behind (s::r) env st c Q R=S.wpS I dep lk behind s env st c (λ Zz0 st1 c1=>S.wpSs I dep lk behind r Zz0 st1 c1 Q R) R:=by rw[S.wpSs]
theorem Zuh (n:Int)(e:S.BE):S.wpS I dep lk behind (S.sAs n e) env st c Q R=S.wpE I dep lk env e 0 st c (λ v st1 c1=>Q (env.set n.toNat v) st1 (c1+1)) (λ code st c=>R (.halt code st) c):=by
 rw[S.sAs,S.wpS,if_neg (by decide),Zg8];refine congrArg (λ q=>S.wpE I dep lk env e 0 st c q _) (funext λ v=>funext λ st1=>funext λ c1=>?_);rw[if_pos rfl];rfl
theorem Zpl (a:S.BE)(n:Int)(e:S.BE):S.wpS I dep lk behind (S.sPut a n e) env st c Q R =
 S.wpE I dep lk env a 0 st c (λ p st1 c1=>S.wpE I dep lk env e 1 st1 c1 (λ v st2 c2=>S.u32m (p+n)<I.size/\¬I.stk (S.u32m (p+n))/\¬I.code (S.u32m (p+n))/\Q env (st2.sto (S.u32m (p+n)) v) (c2+1)) (λ code st c=>R (.halt code st) c)) (λ code st c=>R (.halt code st) c):=by
 rw[S.sPut,S.wpS,if_neg (by decide),Z3w];refine congrArg (λ q=>S.wpE I dep lk env a 0 st c q _) (funext λ p=>funext λ st1=>funext λ c1=>?_);refine congrArg (λ q=>S.wpE I dep lk env e 1 st1 c1 q _) (funext λ v=>funext λ st2=>funext λ c2=>?_);rw[if_neg (by decide),if_pos rfl];rfl
theorem Zui (e:S.BE)(b l:List S.BS):S.wpS I dep lk behind (S.sIf e b l) env st c Q R =
 S.wpE I dep lk env e 0 st c (λ v st1 c1=>if v=0 then S.wpSs I dep lk behind l env st1 (c1+4) Q R else S.wpSs I dep lk behind b env st1 (c1+4) (λ Zjx st2 c2=>Q Zjx st2 (c2+3)) R) (λ code st c=>R (.halt code st) c):=by
 rw[S.sIf,S.wpS,if_neg (by decide),Zg8];refine congrArg (λ q=>S.wpE I dep lk env e 0 st c q _) (funext λ v=>funext λ st1=>funext λ c1=>?_);rw[if_neg (by decide),if_neg (by decide),if_pos rfl];rfl
theorem Zzt (e:S.BE)(b:List S.BS):S.wpS I dep lk behind (S.sWh e b) env st c Q R =
 ∃J:List Int->S.Vw->Nat->Nat->Prop,(∃k,J env st c k)/\∀env st c k,J env st c k ->
  S.wpE I dep lk env e 0 st c (λ v st1 c1=>if v=0 then Q env st1 (c1+4) else S.wpSs I dep lk behind b env st1 (c1+4) (λ Zjx st2 c2=>∃k2,k2<k/\J Zjx st2 (c2+3) k2) R) (λ code st c=>R (.halt code st) c):=by
 rw[S.sWh,S.wpS,if_pos rfl];simp only[Zg8];rfl
theorem Z1e (regs:List Int)(l:List S.BE):S.wpS I dep lk behind (S.sRet regs l) env st c Q R=S.wpEs I dep lk env l 0 st c (λ vs st1 c1=>R (.ret (st1.regs regs vs)) (c1+regs.length+(if behind=true then 5 else 3))) (λ code st c=>R (.halt code st) c):=by
 rw[S.sRet,S.wpS,if_neg (by decide)];refine congrArg (λ q=>S.wpEs I dep lk env l 0 st c q _) (funext λ v=>funext λ st1=>funext λ c1=>?_);rw[if_neg (by decide),if_neg (by decide),if_neg (by decide),if_pos rfl]
theorem Zuj (e:S.BE):S.wpS I dep lk behind (S.sBk e) env st c Q R=S.wpE I dep lk env e 0 st c (λ v st1 c1=>R (.ret (st1.set 4 v)) (c1+1+(if behind=true then 5 else 3))) (λ code st c=>R (.halt code st) c):=by
 rw[S.sBk,Z1e,Zg8];rfl
theorem Zzu (e:S.BE):S.wpS I dep lk behind (S.sDo e) env st c Q R=S.wpE I dep lk env e 0 st c (λ v st1 c1=>Q env st1 c1) (λ code st c=>R (.halt code st) c):=by
 rw[S.sDo,S.wpS,if_neg (by decide),Zg8];refine congrArg (λ q=>S.wpE I dep lk env e 0 st c q _) (funext λ v=>funext λ st1=>funext λ c1=>?_);rw[if_neg (by decide),if_neg (by decide),if_neg (by decide),if_neg (by decide),if_pos rfl]
theorem Z1f (e:S.BE):S.wpS I dep lk behind (S.sHlt e) env st c Q R=S.wpE I dep lk env e 0 st c (λ v st1 c1=>R (.halt v st1) (c1+1)) (λ code st c=>R (.halt code st) c):=by
 rw[S.sHlt,S.wpS,if_neg (by decide),Zg8];refine congrArg (λ q=>S.wpE I dep lk env e 0 st c q _) (funext λ v=>funext λ st1=>funext λ c1=>?_);rw[if_neg (by decide),if_neg (by decide),if_neg (by decide),if_neg (by decide),if_neg (by decide),if_neg (by decide),if_pos rfl];rfl
theorem Zuk (n:Int)(e:S.BE):S.wpS I dep lk behind (S.sSet n e) env st c Q R=S.wpE I dep lk env e 0 st c (λ v st1 c1=>Q env (st1.set n v) (c1+1)) (λ code st c=>R (.halt code st) c):=by
 rw[S.sSet,S.wpS,if_neg (by decide),Zg8];refine congrArg (λ q=>S.wpE I dep lk env e 0 st c q _) (funext λ v=>funext λ st1=>funext λ c1=>?_);rw[if_neg (by decide),if_neg (by decide),if_neg (by decide),if_neg (by decide),if_neg (by decide),if_neg (by decide),if_neg (by decide),if_pos rfl];rfl
end
end
