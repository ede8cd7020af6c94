/- Parts. -/
import Derived.Test.YtfhiobkkdcdmiaaGreatDoorZMachM
import Derived.Deep.DeepCutAuto
import Derived.BigRegion
import Derived.Deep.RegionWith
set_option linter.all false
set_option maxHeartbeats 8000000
open Go.Lib renaming hid->Ya
open Nat renaming le_refl->Yb,lt_of_not_le->Ycl
open Go.Value renaming int->Yr,slice->Ybr
open List renaming mem_cons_self->Yu,drop_eq_getElem_cons->Ybn
open Int renaming toNat_natCast->Yah,mul_nonneg->Yat,ediv_nonneg->Yb5,ediv_le_self->Yck,le_trans->Ydw
open Go.World renaming cell?_of_block->Yax,setCell->Ybt
open Go.IntKind renaming signed->Yb0,bits->Ycg,wrap->Yc8
namespace Go.Proofs.YtfhiobkkdcdmiaaGreatDoor
open Go.RowKit
set_option maxRecDepth 100000
theorem Zc9 (n:Int)(w:World):Calls Tryz.prog 170 #[.int .i64 n] w λ e w'=>e=.returned (.int .u32 (S.u32m n))/\w=w':=by
 go_enter Tryz.func170,Tryz.ntmps170
 go_wp2
 go_ret
 refine⟨Z2 ?_,rfl⟩;simp only[S.u32m,wrap32];omega
def tv (b:Bool):Int:=if b=true then 1 else 0
theorem Zl2 (p:Prop)[Decidable p]:tv (decide p)=S.truth p:=by simp[tv,S.truth]
theorem Zgx (b:Bool)(w:World):Calls Tryz.prog 202 #[.bool b] w λ e w'=>e=.returned (.int .u32 (tv b))/\w=w':=by
 cases b
 all_goals
  go_enter Tryz.func202,Tryz.ntmps202
  go_wp2
  go_ret
  exact⟨rfl,rfl⟩
theorem Zn4 (op a b:Int)(w:World)(a0:0<=a)(a1:a<=4294967295)(b0:0<=b)(b1:b<=4294967295) :
 Calls Tryz.prog 172 #[.int .i64 op,.int .u32 a,.int .u32 b] w λ e w'=>e=.returned (.bool (S.goes op a b))/\w=w':=by
 have ha:=Zel a0 a1;have hb:=Zel b0 b1;go_enter Tryz.func172,Tryz.ntmps172
 go_wp2
 all_goals
  go_ret
  refine⟨Zi ?_,rfl⟩
  first
   | grind [S.goes]
   | simp_all[S.goes]
theorem Zso (a b:Int)(w:World)(a0:0<=a)(a1:a<=4294967295)(b0:0<=b)(b1:b<=4294967295) :
 Calls Tryz.prog 179 #[.int .u32 a,.int .u32 b] w λ e w'=>e=.returned (.tuple #[.int .u32 (a*b/4294967296),.int .u32 (S.u32m (a*b))])/\w=w':=by
 have m0:0<=a*b:=Yat a0 b0;have m1:a*b<=4294967295*4294967295:=Int.mul_le_mul a1 b1 b0 (by omega);go_enter Tryz.func179,Tryz.ntmps179
 go_wp2_with fail
 go_ret2
 exact⟨by simp[S.u32m],rfl⟩
theorem Z4r (op a b:Int)(w:World)(a0:0<=a)(a1:a<=4294967295)(b0:0<=b)(b1:b<=4294967295)(ho:1<=op/\op<=14)(hz:¬(b=0/\(op=5\/op=6))) :
 Calls Tryz.prog 169 #[.int .i64 op,.int .u32 a,.int .u32 b] w λ e w'=>e=.returned (.tuple #[.int .u32 (S.alu op a b),.bool true])/\w=w':=by
 have hc:op=5\/op=6\/op=4\/op=13\/op=14\/op=1\/op=2\/op=3\/op=7\/op=8\/op=9\/op=10\/op=11\/op=12:=by omega
 have ha:=Zel a0 a1;have hb:=Zel b0 b1;have hsh:=Z0 5 b 32 31 rfl rfl (by omega) b0 (by omega);have hs0:0<=b%32:=by omega
 have hs1:b%32<=31:=by omega
 have Hz:=Ya hz;clear hz ho;rcases hc with rfl|rfl|rfl|rfl|rfl|rfl|rfl|rfl|rfl|rfl|rfl|rfl|rfl|rfl
 .have hbz:¬b=0:=by have:=Hz.out;omega
  have hbn:(b==0)=false:=by simpa using hbz
  have hb1':1<=b:=by omega
  have q0:0<=a/b:=Yb5 a0 b0;have q1:a/b<=4294967295:=by
   have:=Yck b a0;omega
  go_enter Tryz.func169,Tryz.ntmps169
  go_wp2_with fail
  go_ret2
  exact⟨by simp[S.alu],rfl⟩
 .have hbz:¬b=0:=by have:=Hz.out;omega
  have hbn:(b==0)=false:=by simpa using hbz
  have hb1':1<=b:=by omega
  go_enter Tryz.func169,Tryz.ntmps169
  go_wp2_with fail
  go_ret2
  exact⟨by simp[S.alu],rfl⟩
 .go_enter Tryz.func169,Tryz.ntmps169
  go_wp2_with fail
  refine(Zso _ _ _ a0 a1 b0 b1).mono ?_;rintro e w' ⟨rfl,rfl⟩;go_wp2_with fail
  go_ret2
  exact⟨by simp[S.alu],rfl⟩
 .go_enter Tryz.func169,Tryz.ntmps169
  go_wp2_with fail
  refine(Zgx _ _).mono ?_;rintro e w' ⟨rfl,rfl⟩;go_wp2_with fail
  go_ret2
  exact⟨by simp[S.alu,Zl2],rfl⟩
 .go_enter Tryz.func169,Tryz.ntmps169
  go_wp2_with fail
  refine(Zgx _ _).mono ?_;rintro e w' ⟨rfl,rfl⟩;go_wp2_with fail
  go_ret2
  exact⟨by simp[S.alu,Zl2],rfl⟩
 all_goals
  go_enter Tryz.func169,Tryz.ntmps169
  go_wp2_with fail
  go_ret2
  exact⟨by simp[S.alu,S.u32m],rfl⟩
theorem Z4s (op a:Int)(w:World)(ho:op=5\/op=6) :
 Calls Tryz.prog 169 #[.int .i64 op,.int .u32 a,.int .u32 0] w λ e w'=>e=.returned (.tuple #[.int .u32 0,.bool false])/\w=w':=by
 rcases ho with rfl|rfl
 all_goals
  go_enter Tryz.func169,Tryz.ntmps169
  go_wp2_with fail
  go_ret2
  exact⟨rfl,rfl⟩
theorem Z4t (op a b:Int)(w:World)(a0:0<=a)(a1:a<=4294967295)(b0:0<=b)(b1:b<=4294967295)(ho:15<=op/\op<=22) :
 Calls Tryz.prog 169 #[.int .i64 op,.int .u32 a,.int .u32 b] w λ e w'=>e=.returned (.tuple #[.int .u32 (S.alu (S.like op) a b),.bool true])/\w=w':=by
 have hc:op=22\/op=15\/op=16\/op=17\/op=18\/op=19\/op=20\/op=21:=by omega
 have ha:=Zel a0 a1;have hb:=Zel b0 b1;have hsh:=Z0 5 b 32 31 rfl rfl (by omega) b0 (by omega);have hs0:0<=b%32:=by omega
 have hs1:b%32<=31:=by omega
 clear ho;rcases hc with rfl|rfl|rfl|rfl|rfl|rfl|rfl|rfl
 .go_enter Tryz.func169,Tryz.ntmps169
  go_wp2_with fail
  refine(Zgx _ _).mono ?_;rintro e w' ⟨rfl,rfl⟩;go_wp2_with fail
  go_ret2
  exact⟨by simp[S.alu,S.like,Zl2],rfl⟩
 all_goals
  go_enter Tryz.func169,Tryz.ntmps169
  go_wp2_with fail
  go_ret2
  exact⟨by simp[S.alu,S.like,S.u32m],rfl⟩
theorem Z4u (a b:Int)(w:World)(b0:0<=b)(b1:b<=4294967295) :
 Calls Tryz.prog 169 #[.int .i64 23,.int .u32 a,.int .u32 b] w λ e w'=>e=.returned (.tuple #[.int .u32 (S.u32m (b*65536)),.bool true])/\w=w':=by
 go_enter Tryz.func169,Tryz.ntmps169
 go_wp2_with fail
 go_ret2
 exact⟨by simp[S.u32m],rfl⟩
section
section
variable {w w':World}{B p:Nat}{vm vo:Value}{A:Option Addr}{c:Nat}{inp:List Int}{rd:Nat}{m:S.Mach}
theorem MAt.drewN (h:MAt w B p vm vo A c inp rd m)(n:Nat):MAt (w.drewN n) B p vm vo A c inp rd m:=h.keep (Yb _) λ _ _=>rfl
theorem MAt.drew (h:MAt w B p vm vo A c inp rd m):MAt w.drew B p vm vo A c inp rd m:=h.keep (Yb _) λ _ _=>rfl
theorem Only.drew {F:Nat->Prop}(w:World):Only F w w.drew:=⟨rfl,rfl,rfl,Yb _,λ _ _ _=>rfl⟩
theorem Only.drewN {F:Nat->Prop}(w:World)(n:Nat):Only F w (w.drewN n):=⟨rfl,rfl,rfl,Yb _,λ _ _ _=>rfl⟩
theorem Zl3 {l:List Int}{i j:Nat}{v:Int}:(l.set i v).getD j 0=if i=j/\j<l.length then v else l.getD j 0:=by
 simp only[List.getD_eq_getElem?_getD,List.getElem?_set];by_cases h:i=j
 .subst h
  by_cases h2:i<l.length
  .simp[h2]
  .simp[h2]
 .simp[h]
theorem Z4v (h:m.Ok){d v:Int}(hd:0<=d)(hv:0<=v/\v<=4294967295):(m.put d v).Ok:=by
 unfold S.Mach.put;by_cases e:d=0
 .rw[if_pos e];exact h
 .rw[if_neg e]
  refine⟨by simpa using h.regs,λ i=>?_,?_,h.mem,h.memw,h.place0,h.place1,h.inp,h.outp,h.code0,h.code1⟩
  .show 0<=(m.reg.set d.toNat v).getD i 0/\(m.reg.set d.toNat v).getD i 0<=4294967295
   rw[Zl3]
   split
   .exact hv
   .exact h.word i
  .show(m.reg.set d.toNat v).getD 0 0=0
   rw[Zl3,if_neg (by omega)];exact h.zero
theorem MAt.put (h:MAt w B p vm vo A c inp rd m){d v:Int}(h0:0<d)(h1:d<32)(hv:0<=v/\v<=4294967295):MAt (w.setCell ⟨p,d.toNat,none⟩ (.int .u32 v)) B p vm vo A c inp rd (m.put d v):=by
 have hok:=Z4v h.ok (d:=d) (by omega) hv;have e:m.put d v={ m with reg:=m.reg.set d.toNat v }:=by unfold S.Mach.put;rw[if_neg (by omega)]
 rw[e] at hok⊢;refine h.stored d.toNat _ hok rfl rfl h.left h.rdle ?_;unfold Ze9;rw[List.set_append_left _ _ (by simp[h.ok.regs];omega),List.map_set]
theorem Z4w (l:List Int)(hl:l.length=32)(k:Nat)(t:List Value)(u:Value):(l.map (Yr .u32)++t).set (32+k) u=l.map (Yr .u32)++t.set k u:=by
 rw[List.set_append_right _ _ (by simp[hl])];simp[hl]
theorem Zz5 (h:m.Ok)(l k:Nat)(u:Value):m.reg.map (Yr .u32)++([vm,.int .u32 m.place,.slice A l c,.int .i64 rd,vo,.int .i64 m.state,.int .u32 m.code,.int .i64 m.trap,.int .i64 m.steps]:List Value).set k u=(Ze9 m vm A l c rd vo).set (32+k) u :=
 (Z4w m.reg h.regs k _ u).symm
theorem MAt.fell (h:MAt w B p vm vo A c inp rd m)(t:Int):MAt ((w.setCell ⟨p,37,none⟩ (.int .i64 2)).setCell ⟨p,39,none⟩ (.int .i64 t)) B p vm vo A c inp rd (m.fell t):=by
 have ok1:({ m with state:=2 }:S.Mach).Ok:=⟨h.ok.regs,h.ok.word,h.ok.zero,h.ok.mem,h.ok.memw,h.ok.place0,h.ok.place1,h.ok.inp,h.ok.outp,h.ok.code0,h.ok.code1⟩
 have h1:MAt (w.setCell ⟨p,37,none⟩ (.int .i64 2)) B p vm vo A c inp rd { m with state:=2 }:=h.stored 37 _ ok1 rfl rfl h.left h.rdle (Zz5 h.ok _ 5 _);exact h1.stored 39 _ ⟨h.ok.regs,h.ok.word,h.ok.zero,h.ok.mem,h.ok.memw,h.ok.place0,h.ok.place1,h.ok.inp,h.ok.outp,h.ok.code0,h.ok.code1⟩ rfl rfl h.left h.rdle (Zz5 ok1 _ 7 _)
theorem MAt.halted (h:MAt w B p vm vo A c inp rd m){a:Int}(ha:0<=a/\a<=4294967295):MAt ((w.setCell ⟨p,37,none⟩ (.int .i64 1)).setCell ⟨p,38,none⟩ (.int .u32 a)) B p vm vo A c inp rd { m with state:=1,code:=a }:=by
 have ok1:({ m with state:=1 }:S.Mach).Ok:=⟨h.ok.regs,h.ok.word,h.ok.zero,h.ok.mem,h.ok.memw,h.ok.place0,h.ok.place1,h.ok.inp,h.ok.outp,h.ok.code0,h.ok.code1⟩
 have h1:MAt (w.setCell ⟨p,37,none⟩ (.int .i64 1)) B p vm vo A c inp rd { m with state:=1 }:=h.stored 37 _ ok1 rfl rfl h.left h.rdle (Zz5 h.ok _ 5 _);exact h1.stored 38 _ ⟨h.ok.regs,h.ok.word,h.ok.zero,h.ok.mem,h.ok.memw,h.ok.place0,h.ok.place1,h.ok.inp,h.ok.outp,ha.1,ha.2⟩ rfl rfl h.left h.rdle (Zz5 ok1 _ 6 _)
theorem MAt.went (h:MAt w B p vm vo A c inp rd m){tq:Int}(ht:0<=tq/\tq<=4294967295):MAt (w.setCell ⟨p,33,none⟩ (.int .u32 tq)) B p vm vo A c inp rd { m with place:=tq } :=
 h.stored 33 _ ⟨h.ok.regs,h.ok.word,h.ok.zero,h.ok.mem,h.ok.memw,ht.1,ht.2,h.ok.inp,h.ok.outp,h.ok.code0,h.ok.code1⟩ rfl rfl h.left h.rdle (Zz5 h.ok _ 1 _)
theorem MAt.stepped (h:MAt w B p vm vo A c inp rd m)(n:Int):MAt (w.setCell ⟨p,40,none⟩ (.int .i64 n)) B p vm vo A c inp rd { m with steps:=n } :=
 h.stored 40 _ ⟨h.ok.regs,h.ok.word,h.ok.zero,h.ok.mem,h.ok.memw,h.ok.place0,h.ok.place1,h.ok.inp,h.ok.outp,h.ok.code0,h.ok.code1⟩ rfl rfl h.left h.rdle (Zz5 h.ok _ 8 _)
theorem MAt.readOn (h:MAt w B p vm vo A c inp rd m){x:Int}{r:List Int}(hx:m.input=x::r):MAt (w.setCell ⟨p,35,none⟩ (.int .i64 ((rd:Int)+1))) B p vm vo A c inp (rd+1) { m with input:=r }:=by
 have hl:=h.left;rw[hx] at hl;have hlt:rd<inp.length:=by
  refine Ycl λ hc=>?_
  rw[List.drop_eq_nil_of_le hc] at hl
  cases hl
 rw[Ybn hlt] at hl;refine h.stored 35 _ ⟨h.ok.regs,h.ok.word,h.ok.zero,h.ok.mem,h.ok.memw,h.ok.place0,h.ok.place1,λ y hy=>h.ok.inp y (by rw[hx];exact List.mem_cons_of_mem _ hy),h.ok.outp,h.ok.code0,h.ok.code1⟩ rfl rfl (List.cons.inj hl).2 hlt ?_;exact Zz5 h.ok _ 3 _
theorem MAt.sw (h:MAt w B p vm vo A c inp rd m){g cap i:Nat}(hv:vm=.slice (some ⟨g,0,none⟩) m.mem.length cap){b:Int}(hb:0<=b/\b<=4294967295)(hi:i<m.mem.length) :
 MAt (w.setCell ⟨g,i,none⟩ (.int .u32 b)) B p vm vo A c inp rd { m with mem:=m.mem.set i b }:=by
 subst hv;obtain⟨n1,n2⟩:=h.mem_ne (k:=g) rfl;obtain⟨s1,s2⟩:=h.mem.stored i (.int .u32 b);have hsame:∀j,j≠g->(w.setCell ⟨g,i,none⟩ (.int .u32 b)).heap[j]?=w.heap[j]?:=λ j hj=>Below.heap_setCell _ _ _ _ hj
 refine⟨⟨h.ok.regs,h.ok.word,h.ok.zero,by simpa using h.ok.mem,λ j=>?_,h.ok.place0,h.ok.place1,h.ok.inp,h.ok.outp,h.ok.code0,h.ok.code1⟩,h.low,?_,?_,?_,?_,h.left,h.rdle,h.inl,by simpa using h.low0,λ b o s e=>by have:=h.la b o s e;simpa[Ybt] using this,h.d1,h.d2⟩
 .show 0<=(m.mem.set i b).getD j 0/\(m.mem.set i b).getD j 0<=4294967295
  rw[Zl3]
  split
  .exact hb
  .exact h.ok.memw j
 .obtain⟨cs,h1,h2⟩:=h.blk
  exact⟨cs,by rw[hsame p (Ne.symm n1)];exact h1,h2⟩
 .simp only[List.length_set,List.map_set]
  exact s1
 .exact Zaw h.out λ j hj=>hsame j λ e=>n2 (e ▸ hj)
 .exact h.rin.same (by simp[Ybt]) λ b' o s e=>hsame b' λ e2=>(h.d1 b' o s e).2.1 (by rw[e2];rfl)
theorem MAt.told (h:MAt w B p vm vo A c inp rd m){vo':Value}{x:Int}(hx:0<=x/\x<=255)(ho:w'.ownsRow B 5 1 vo' (m.out.length+1) (m.out.map (Yr .u8)++[.int .u8 x]))(hg:w.grownBy w' vo.ownBlock)
 (hb:vo'.ownBlock=vo.ownBlock\/∃k,w.heap.size<=k/\vo'.ownBlock=some k) :
 MAt (w'.setCell ⟨p,36,none⟩ vo') B p vm vo' A c inp rd { m with out:=m.out++[x] }:=by
 have hkeep:∀j,j<w.heap.size->vo.ownBlock≠some j->w'.heap[j]?=w.heap[j]?:=λ j hj hn=>hg.block j hj (λ e=>hn e.symm)
 have hset:∀j,j≠p->(w'.setCell ⟨p,36,none⟩ vo').heap[j]?=w'.heap[j]?:=λ j hj=>Below.heap_setCell _ _ _ _ hj
 have hlt:=h.lt;have hvop:vo'.ownBlock≠some p:=by
  rcases hb with e|⟨k,hk,e⟩
  .rw[e];exact h.d2.2
  .rw[e];intro q;cases q;omega
 refine⟨⟨h.ok.regs,h.ok.word,h.ok.zero,h.ok.mem,h.ok.memw,h.ok.place0,h.ok.place1,h.ok.inp,λ y hy=>?_,h.ok.code0,h.ok.code1⟩,h.low,?_,?_,?_,?_,h.left,h.rdle,h.inl,h.low0,λ b o s e=>by have h1:=h.la b o s e;have h2:=hg.size;simp only[Ybt];simp;omega,λ b o s e=>?_,h.d2.1,hvop⟩
 .rcases List.mem_append.1 hy with hy|hy
  .exact h.ok.outp y hy
  .rw[List.mem_singleton.1 hy];exact hx
 .obtain⟨cs,h1,h2⟩:=h.blk
  have h1':w'.heap[p]?=some (.cells cs 97 (0,0)):=by rw[hkeep p hlt h.d2.2];exact h1
  refine⟨cs.setIfInBounds 36 vo',heap_setCell_same w' p 36 cs _ vo' h1',?_⟩;rw[Array.toList_setIfInBounds,h2];exact(Zz5 h.ok _ 4 _).symm
 .refine Zaw h.mem λ j hj=>?_
  obtain⟨n1,n2⟩:=h.mem_ne hj;rw[hset j n1];exact hkeep j (h.mem.lt j hj).2 n2
 .show(w'.setCell ⟨p,36,none⟩ vo').ownsRow B 5 1 vo' (m.out++[x]).length ((m.out++[x]).map (Yr .u8))
  rw[List.length_append,List.map_append];exact ownsRow_setCell_other ho hvop _
 .exact h.rin.same (by have:=hg.size;simpa[Ybt] using this) λ b o s e=>by
   obtain⟨d1,d2,d3⟩:=h.d1 b o s e;rw[hset b d1];exact hkeep b (h.la b o s e) d3
 .obtain⟨d1,d2,d3⟩:=h.d1 b o s e
  refine⟨d1,d2,?_⟩;rcases hb with e2|⟨k,hk,e2⟩
  .rw[e2];exact d3
  .rw[e2]
   intro q
   cases q
   have:=h.la b o s e;omega
end
end
section
section
variable {w w':World}{B p:Nat}{vm vo:Value}{A:Option Addr}{c:Nat}{inp:List Int}{rd:Nat}{m:S.Mach}
theorem Zao (h:MAt w B p vm vo A c inp rd m):Calls Tryz.prog 41 #[.pointer (some ⟨p,0,none⟩)] w λ e w'=>e=.returned (.bool true)/\w=w':=by
 obtain⟨g,cap,rfl,hg,_,_⟩:=h.memv;obtain⟨c32,_⟩:=h.cells;have hm:=h.ok.mem;have hlt:=h.lt;go_enter Tryz.func41,Tryz.ntmps41
 go_wp2_with fail
 go_ret
 exact⟨rfl,rfl⟩
theorem Zb9 (d v:Int)(h:MAt w B p vm vo A c inp rd m)(h0:0<=d)(h1:d<32)(hv:0<=v/\v<=4294967295):Calls Tryz.prog 42 #[.pointer (some ⟨p,0,none⟩),.int .i64 d,.int .u32 v] w
 λ e w'=>e=.returned (.tuple #[])/\MAt w' B p vm vo A c inp rd (m.put d v)/\Only (·=p) w w':=by
 have hlt:=h.lt;by_cases hd:d=0
 .have d1:(d != 0)=false:=by simp[hd]
  go_enter Tryz.func42,Tryz.ntmps42
  go_wp2_with fail
  refine bodyPost_end (v:=.tuple #[]) (by simp[results,Tryz.results42,go_sem]) rfl ⟨rfl,?_,Only.refl _ _⟩;rw[S.Mach.put,if_pos hd];exact h
 .have d1:(d != 0)=true:=by simpa using hd
  have hp:=h.put (show 0<d by omega) h1 hv;obtain⟨k,rfl⟩:∃k:Nat,d=k:=⟨d.toNat,by omega⟩
  have hk:k<32:=by omega
  have hf:=h.fz k;have hc:=h.reg hk;have Hp:=Ya hp;clear hp hd;go_enter Tryz.func42,Tryz.ntmps42
  go_wp2_with fail
  refine bodyPost_end (v:=.tuple #[]) (by simp[results,Tryz.results42,go_sem]) rfl ⟨rfl,?_,?_⟩
  .exact Hp.out
  .exact Only.setCell (F:=(·=p)) _ rfl _
theorem Ziy (t:Int)(h:MAt w B p vm vo A c inp rd m):Calls Tryz.prog 108 #[.pointer (some ⟨p,0,none⟩),.int .i64 t] w
 λ e w'=>e=.returned (.int .i64 2)/\MAt w' B p vm vo A c inp rd (m.fell t)/\Only (·=p) w w':=by
 have hp:=h.fell t;have hf:=h.fz 37;have hf':=h.fz 39;obtain⟨_,_,_,_,_,c37,_,c39,_⟩:=h.cells;have Hp:=Ya hp;have hlt:=h.lt;clear hp;go_enter Tryz.func108,Tryz.ntmps108
 go_wp2_with fail
 go_ret
 refine⟨rfl,Hp.out,?_⟩;exact(Only.setCell (F:=(·=p)) _ rfl _).trans (Only.setCell (F:=(·=p)) _ rfl _) (λ _ _ h=>h)
theorem Zf8 (a imm:Int)(h:MAt w B p vm vo A c inp rd m)(a0:0<=a/\a<=4294967295):Calls Tryz.prog 171 #[.pointer (some ⟨p,0,none⟩),.int .u32 a,.int .i64 imm] w
 λ e w'=>e=.returned (.tuple #[.int .u32 (S.u32m (a+S.u32m imm)),.bool (decide (S.u32m (a+S.u32m imm)<m.mem.length))])/\∃n,w'=w.drewN n:=by
 obtain⟨g,cap,rfl,hg,_,_⟩:=h.memv;obtain⟨c32,_⟩:=h.cells;have hm:=h.ok.mem;have hlt:=h.lt;have hl:=h.low0;have hw:=Zfn (a+S.u32m imm);have hu:=Zav (a+S.u32m imm);go_enter Tryz.func171,Tryz.ntmps171
 go_wp2_with fail
 refine(Zc9 _ _).mono ?_;rintro e w' ⟨rfl,rfl⟩;generalize hU:S.u32m (a+S.u32m imm)=U at *;obtain⟨u0,u1⟩:=hu;have hw1:IntKind.u64.wrap U=U:=by simp[Yc8,Yb0,Ycg];omega
 have hw2:IntKind.u64.wrap (m.mem.length:Int)=m.mem.length:=by simp[Yc8,Yb0,Ycg];omega
 go_wp2_with fail
 go_quiet (fail)
 go_wp2_with fail
 go_ret2
 exact⟨by rw[hU];rfl,_,rfl⟩
theorem Zj0 (h:MAt w B p vm vo A c inp rd m)(hi:m.input=[]):Calls Tryz.prog 173 #[.pointer (some ⟨p,0,none⟩)] w
 λ e w'=>e=.returned (.int .u32 4294967295)/\∃n,w'=w.drewN n:=by
 obtain⟨_,_,c34,c35,_⟩:=h.cells;have hl:=h.left;have hr:=h.rdle;have hz:=h.inl;rw[hi] at hl;have he:rd=inp.length:=by
  have:=congrArg List.length hl;simp at this;omega
 have hd:((rd:Int)==inp.length)=true:=by simp[he]
 have hlt:=h.lt;clear hl hi he;go_enter Tryz.func173,Tryz.ntmps173
 go_wp2_with fail
 go_quiet (fail)
 go_wp2_with fail
 go_ret
 exact⟨rfl,_,rfl⟩
theorem Zj1 (h:MAt w B p vm vo A c inp rd m){x:Int}{r:List Int}(hi:m.input=x::r):Calls Tryz.prog 173 #[.pointer (some ⟨p,0,none⟩)] w
 λ e w'=>e=.returned (.int .u32 x)/\MAt w' B p vm vo A c inp (rd+1) { m with input:=r }/\Only (·=p) w w':=by
 obtain⟨_,_,c34,c35,_⟩:=h.cells;have hl:=h.left;have hz:=h.inl;have hN:=h.readOn hi;have HN:=Ya hN;rw[hi] at hl;have hlt:rd<inp.length:=by
  refine Ycl λ hc=>?_
  rw[List.drop_eq_nil_of_le hc] at hl
  cases hl
 rw[Ybn hlt] at hl;have hx:(inp.map (Yr .u8))[rd]?=some (.int .u8 x):=by
  rw[List.getElem?_map,List.getElem?_eq_getElem hlt,(List.cons.inj hl).1];rfl
 have hxb:0<=x/\x<=255:=h.ok.inp x (by rw[hi];exact Yu ..);obtain⟨b,off,e,hb,hc⟩:=h.rin (by simp;omega);have hcx:=hc rd _ hx;have hdb:=h.d1 b off none e;subst e;have hd:((rd:Int)==inp.length)=false:=by simp;omega
 have hf:=h.fz 35;have hpl:=h.lt;have hbp:=hdb.1;obtain⟨x0,x1⟩:=hxb;have hw1:IntKind.u32.wrap x=x:=by simp[Yc8,Yb0,Ycg];omega
 have hs1:((rd:Int)+1-1)=rd:=by omega
 have Hi:=Ya hi;clear hl hi hN HN hc hx hdb;go_enter Tryz.func173,Tryz.ntmps173
 go_wp2_with fail
 go_quiet (fail)
 go_upto_region 4 with fail
 have hN:=(h.drewN nq).readOn Hi.out;obtain⟨_,_,n34,n35,_⟩:=hN.cells;have hcx':((w.drewN nq).setCell ⟨p,35,none⟩ (.int .i64 ((rd:Int)+1))).cell? ⟨b,off+rd,none⟩=some (.int .u8 x):=by
  rw[<- hcx];exact Yax (w:=w) (a:=⟨b,off+rd,none⟩) (Below.heap_setCell _ _ _ _ hbp)
 have hO:Only (·=p) w ((w.drewN nq).setCell ⟨p,35,none⟩ (.int .i64 ((rd:Int)+1))):=(Only.drewN w nq).trans (Only.setCell (F:=(·=p)) _ rfl _) (λ _ _ h=>h);have HN:=Ya hN;generalize (w.drewN nq).setCell ⟨p,35,none⟩ (.int .i64 ((rd:Int)+1))=w1 at *;clear hN;go_wp2_with fail
 go_quiet (fail)
 go_wp2_with fail
 go_ret
 exact⟨rfl,HN.out.drewN _,hO.trans (Only.drewN _ _) (λ _ _ h=>h)⟩
end
end
section
theorem Zgy (w:World)(cs:Array Value)(t:TypeId):(w.alloc (.cells cs t)).heap[w.heap.size]?=some (.cells cs t (0,0))/\Below w.heap.size w (w.alloc (.cells cs t))/\(w.alloc (.cells cs t)).heap.size=w.heap.size+1 :=
 ⟨heap_alloc_new _ _,(Below.refl _ _).alloc (Yb _) _,by simp⟩
theorem Zae {w:World}{g:Nat}{cs:Array Value}{t:TypeId}(h:w.heap[g]?=some (.cells cs t (0,0)))(j:Nat):w.cell? ⟨g,j,none⟩=cs[j]?:=by simp[World.cell?,h]
theorem Only.cell {F:Nat->Prop}{w w':World}(h:Only F w w'){b:Nat}(hb:b<w.heap.size)(hn:¬F b)(o:Nat):w'.cell? ⟨b,o,none⟩=w.cell? ⟨b,o,none⟩:=Yax (w:=w) (a:=⟨b,o,none⟩) (h.block b hb hn)
theorem Zp1 (op:BinOp){a b:Int}(n:Nat)(h:bits op .u32 a b=(n:Int))(hn:n<4294967296):0<=bits op .u32 a b/\bits op .u32 a b<=4294967295:=by rw[h];omega
theorem Zz6 {op a b:Int}(a0:0<=a)(a1:a<=4294967295)(b0:0<=b)(b1:b<=4294967295)(hz:¬(b=0/\(op=5\/op=6))):0<=S.alu op a b/\S.alu op a b<=4294967295:=by
 have ta:a.toNat<2^32:=by have:(2:Nat)^32=4294967296:=rfl;omega
 have tb:b.toNat<2^32:=by have:(2:Nat)^32=4294967296:=rfl;omega
 have p32:(2:Nat)^32=4294967296:=rfl;unfold S.alu;by_cases h1:op=1
 .rw[if_pos h1];exact Zav _
 rw[if_neg h1];by_cases h2:op=2
 .rw[if_pos h2];exact Zav _
 rw[if_neg h2];by_cases h3:op=3
 .rw[if_pos h3];exact Zav _
 rw[if_neg h3];by_cases h4:op=4
 .rw[if_pos h4]
  have hm:a*b<=4294967295*4294967295:=Int.mul_le_mul a1 b1 b0 (by omega);have hp:0<=a*b:=Yat a0 b0;omega
 rw[if_neg h4];by_cases h5:op=5
 .rw[if_pos h5]
  have hb:0<b:=by
   rcases Int.lt_or_eq_of_le b0 with h|h
   .exact h
   .exact absurd ⟨h.symm,.inl h5⟩ hz
  exact⟨Yb5 a0 b0,Ydw (Yck b a0) a1⟩
 rw[if_neg h5];by_cases h6:op=6
 .rw[if_pos h6]
  have hb:0<b:=by
   rcases Int.lt_or_eq_of_le b0 with h|h
   .exact h
   .exact absurd ⟨h.symm,.inr h6⟩ hz
  have:=Int.emod_lt_of_pos a hb;exact⟨Int.emod_nonneg a (by omega),by omega⟩
 rw[if_neg h6];by_cases h7:op=7
 .rw[if_pos h7];exact Zp1 _ _ (u32_and a0 a1 b0 b1) (by rw[<- p32];exact Nat.and_lt_two_pow _ tb)
 rw[if_neg h7];by_cases h8:op=8
 .rw[if_pos h8];exact Zp1 _ _ (u32_or a0 a1 b0 b1) (by rw[<- p32];exact Nat.or_lt_two_pow ta tb)
 rw[if_neg h8];by_cases h9:op=9
 .rw[if_pos h9];exact Zp1 _ _ (u32_xor a0 a1 b0 b1) (by rw[<- p32];exact Nat.xor_lt_two_pow ta tb)
 rw[if_neg h9];by_cases h10:op=10
 .rw[if_pos h10];exact Zav _
 rw[if_neg h10];by_cases h11:op=11
 .rw[if_pos h11]
  have hp:(0:Int)<=2^(b%32).toNat:=Int.le_of_lt (Int.pow_pos (by omega));exact⟨Yb5 a0 hp,Ydw (Yck _ a0) a1⟩
 rw[if_neg h11];by_cases h12:op=12
 .rw[if_pos h12];exact Zav _
 rw[if_neg h12];by_cases h13:op=13
 .rw[if_pos h13];unfold S.truth;split <;> omega
 rw[if_neg h13];unfold S.truth;split <;> omega
theorem Zyv:(Tryz.prog.info? 5).map (λ i=>(i.zero,i.size,i.bytes))=some (some (.int .u8 0),1,1):=by kernel_rfl
theorem Zl4 {a b:Int}(h:¬a=b):(a==b)=false:=by simp[h]
section
variable {w w':World}{B p:Nat}{vm vo:Value}{A:Option Addr}{c:Nat}{inp:List Int}{rd:Nat}{m:S.Mach}
def Zz7 (w:World)(B p:Nat)(vm vo:Value)(A:Option Addr)(c:Nat)(inp:List Int)(r:S.Mach×Int×Int)(e:Ending)(w':World):Prop :=
 e=.returned (.tuple #[.int .u32 r.2.1,.int .i64 r.2.2])/\∃vo' rd',MAt w' B p vm vo' A c inp rd' r.1/\Only (Za2 p vm vo) w w'/\(vo'.ownBlock=vo.ownBlock\/∃k,w.heap.size<=k/\vo'.ownBlock=some k)
theorem Zdz (h:Only (·=p) w w'):Only (Za2 p vm vo) w w':=h.weaken λ k _ e=>.inl e
theorem Zcn {r:S.Mach×Int×Int}{m':S.Mach}{tt trap:Int}{rd':Nat}(hr:r=(m',tt,trap))(h:MAt w' B p vm vo A c inp rd' m')(ho:Only (Za2 p vm vo) w w'):Zz7 w B p vm vo A c inp r (.returned (.tuple #[.int .u32 tt,.int .i64 trap])) w':=by
 subst hr;exact⟨rfl,vo,rd',h,ho,.inl rfl⟩
theorem Z13 (op d a b imm:Int)(h:MAt w B p vm vo A c inp rd m)(ho:1<=op/\op<=36)(hd:0<=d/\d<32)(ha:0<=a/\a<32)(hb:0<=b/\b<32)(hol:m.out.length<=1000000000) :
 Calls Tryz.prog 110 #[.pointer (some ⟨p,0,none⟩),.agg #[.int .i64 op,.int .i64 d,.int .i64 a,.int .i64 b,.int .i64 imm]] w (Zz7 w B p vm vo A c inp (m.act ⟨op,d,a,b,imm⟩)):=by
 obtain⟨na,rfl⟩:∃k:Nat,a=k:=⟨a.toNat,by omega⟩
 obtain⟨nb,rfl⟩:∃k:Nat,b=k:=⟨b.toNat,by omega⟩
 have hna:na<32:=by omega
 have hnb:nb<32:=by omega
 have hact:m.act ⟨op,d,na,nb,imm⟩=m.act ⟨op,d,na,nb,imm⟩:=rfl;go_enter Tryz.func110,Tryz.ntmps110
 go_upto_region 1 with fail
 obtain⟨x1,x2,x3⟩:=Zgy w #[.int .i64 op,.int .i64 d,.int .i64 na,.int .i64 nb,.int .i64 imm] 72;generalize w.alloc (.cells #[.int .i64 op,.int .i64 d,.int .i64 na,.int .i64 nb,.int .i64 imm] 72)=wb at *;have q0:wb.cell? ⟨w.heap.size,0,none⟩=some (.int .i64 op):=by rw[Zae x1];rfl
 have q1:wb.cell? ⟨w.heap.size,1,none⟩=some (.int .i64 d):=by rw[Zae x1];rfl
 have q2:wb.cell? ⟨w.heap.size,2,none⟩=some (.int .i64 na):=by rw[Zae x1];rfl
 have q3:wb.cell? ⟨w.heap.size,3,none⟩=some (.int .i64 nb):=by rw[Zae x1];rfl
 have q4:wb.cell? ⟨w.heap.size,4,none⟩=some (.int .i64 imm):=by rw[Zae x1];rfl
 have hM:=h.below x2;have gb:w.heap.size<wb.heap.size:=by omega
 have hO:Only (Za2 p vm vo) w wb:=Only.of_below x2;have hnf:¬Za2 p vm vo w.heap.size:=λ hf=>by have:=(h.foot_lt hf).2;omega
 have r1:=hM.reg hna;have r2:=hM.reg hnb;have hav:=h.ok.word na;have hbv:=h.ok.word nb;have hpl:=h.ok.place0;have hpl':=h.ok.place1;have hpw:=hM.lt;obtain⟨_,c33,_⟩:=hM.cells;have hwr:=Zfn (m.place+1);have Hrd:Hid (m.rd na=m.reg.getD na 0/\m.rd nb=m.reg.getD nb 0):=Ya ⟨by simp[S.Mach.rd],by simp[S.Mach.rd]⟩;clear x1 x2 x3 hact;generalize m.reg.getD na 0=av at *;generalize m.reg.getD nb 0=bv at *;obtain⟨a0,a1⟩:=hav;obtain⟨b0,b1⟩:=hbv;go_wp2_with fail
 go_quiet (fail)
 go_upto_region 2 with fail
 have hM1:=hM.drewN nq;have hO1:=hO.trans (Only.drewN (F:=Za2 p vm vo) wb nq) (λ _ _ h=>h);have gb1:w.heap.size<(wb.drewN nq).heap.size:=gb;have q0':(wb.drewN nq).cell? ⟨w.heap.size,0,none⟩=some (.int .i64 op):=q0;have q1':(wb.drewN nq).cell? ⟨w.heap.size,1,none⟩=some (.int .i64 d):=q1;have q4':(wb.drewN nq).cell? ⟨w.heap.size,4,none⟩=some (.int .i64 imm):=q4;generalize wb.drewN nq=w1 at *;clear q0 q1 q2 q3 q4 r1 r2 hM hO gb c33 hwr;have hpw:=hM1.lt;have hub:=Zav (m.place+1);have hib:=Zav imm;obtain⟨i0,i1⟩:=hib;obtain⟨u0,u1⟩:=hub;go_upto_region 4 with fail
 have hcase:(op<=14/\bv=0/\(op=5\/op=6))\/(op<=14/\¬(bv=0/\(op=5\/op=6)))\/(15<=op/\op<=22)\/op=23\/op=24\/op=25\/(26<=op/\op<=31)\/op=32\/op=33\/op=34\/op=35\/op=36:=by omega
 rcases hcase with⟨k1,k2,k3⟩|⟨k1,k2⟩|⟨k1,k2⟩|k1|k1|k1|⟨k1,k2⟩|k1|k1|k1|k1|k1
 .have Hact:=Ya (show m.act ⟨op,d,na,nb,imm⟩=(m,0,4) by
   simp only[S.Mach.act,Hrd.out.2,if_pos k1,if_pos (And.intro k2 k3)])
  subst k2;go_wp2_with fail
  refine(Z4s _ _ _ k3).mono ?_;rintro e w2 ⟨rfl,rfl⟩;go_wp2_with fail
  go_ret2
  exact Zcn Hact.out hM1 hO1
 .have Hact:=Ya (show m.act ⟨op,d,na,nb,imm⟩=(m.put d (S.alu op av bv),S.u32m (m.place+1),0) by
   simp only[S.Mach.act,Hrd.out.1,Hrd.out.2,if_pos k1,if_neg k2])
  have hab:=Zz6 (op:=op) a0 a1 b0 b1 k2;have K2:=Ya k2;clear k2;go_wp2_with fail
  refine(Z4r _ _ _ _ a0 a1 b0 b1 ⟨ho.1,k1⟩ K2.out).mono ?_;rintro e w2 ⟨rfl,rfl⟩;go_wp2_with fail
  refine(Zb9 _ _ hM1 hd.1 hd.2 hab).mono ?_;rintro e w3 ⟨rfl,hM3,hO3⟩;go_wp2_with fail
  go_ret2
  exact Zcn Hact.out hM3 (hO1.trans (Zdz hO3) (λ _ _ h=>h))
 .have n14:¬op<=14:=by omega
  have p23:op<=23:=by omega
  have Hact:=Ya (show m.act ⟨op,d,na,nb,imm⟩=(m.put d (S.alu (S.like op) av (S.u32m imm)),S.u32m (m.place+1),0) by
   simp only[S.Mach.act,Hrd.out.1,if_neg n14,if_pos k2])
  have hab:=Zz6 (op:=S.like op) (a:=av) (b:=S.u32m imm) a0 a1 i0 i1 (by unfold S.like;split <;> omega);go_wp2_with fail
  refine(Zc9 _ _).mono ?_;rintro e w2 ⟨rfl,rfl⟩;go_wp2_with fail
  refine(Z4t _ _ _ _ a0 a1 i0 i1 ⟨k1,k2⟩).mono ?_;rintro e w2 ⟨rfl,rfl⟩;go_wp2_with fail
  refine(Zb9 _ _ hM1 hd.1 hd.2 hab).mono ?_;rintro e w3 ⟨rfl,hM3,hO3⟩;go_wp2_with fail
  go_ret2
  exact Zcn Hact.out hM3 (hO1.trans (Zdz hO3) (λ _ _ h=>h))
 .subst k1
  have Hact:=Ya (show m.act ⟨23,d,na,nb,imm⟩=(m.put d (S.u32m (S.u32m imm*65536)),S.u32m (m.place+1),0) by
   simp[S.Mach.act])
  have hab:=Zav (S.u32m imm*65536);go_wp2_with fail
  refine(Zc9 _ _).mono ?_;rintro e w2 ⟨rfl,rfl⟩;go_wp2_with fail
  refine(Z4u _ _ _ i0 i1).mono ?_;rintro e w2 ⟨rfl,rfl⟩;go_wp2_with fail
  refine(Zb9 _ _ hM1 hd.1 hd.2 hab).mono ?_;rintro e w3 ⟨rfl,hM3,hO3⟩;go_wp2_with fail
  go_ret2
  exact Zcn Hact.out hM3 (hO1.trans (Zdz hO3) (λ _ _ h=>h))
 .subst k1
  have hAt:=Zav (av+S.u32m imm);by_cases hin:S.u32m (av+S.u32m imm)<m.mem.length
  .have Hact:=Ya (show m.act ⟨24,d,na,nb,imm⟩=(m.put d (m.mem.getD (S.u32m (av+S.u32m imm)).toNat 0),S.u32m (m.place+1),0) by
    simp[S.Mach.act,Hrd.out.1,hin])
   obtain⟨t,ht⟩:∃t:Nat,S.u32m (av+S.u32m imm)=t:=⟨(S.u32m (av+S.u32m imm)).toNat,by omega⟩
   have hdt:decide (S.u32m (av+S.u32m imm)<m.mem.length)=true:=by simpa using hin
   have htl:t<m.mem.length:=by omega
   rw[ht,Yah] at Hact;have Ht:=Ya ht;go_wp2_with fail
   refine(Zf8 _ _ hM1 ⟨a0,a1⟩).mono ?_;rintro e w2 ⟨rfl,n2,rfl⟩;rw[hdt];rw[Ht.out];have hM2:=hM1.drewN n2;have hO2:=hO1.trans (Only.drewN (F:=Za2 p vm vo) w1 n2) (λ _ _ h=>h);have q1':(w1.drewN n2).cell? ⟨w.heap.size,1,none⟩=some (.int .i64 d):=q1';have gb2:w.heap.size<(w1.drewN n2).heap.size:=gb1;clear hin hdt ht hAt;generalize w1.drewN n2=w2 at *;obtain⟨g,cap,hvm,hg,hmc,_⟩:=hM2.memv;have hmt:=hmc t htl;have hmw:=h.ok.memw t;obtain⟨c32,_⟩:=hM2.cells;rw[hvm] at c32;have hpw2:=hM2.lt;clear hmc;generalize m.mem.getD t 0=mv at *;go_wp2_with fail
   have hE:=Zu w2;refine Zbv 10 1 [0,1,2,3,4,5,6,7,8,9] (by kernel_rfl) (by kernel_rfl) (λ _ _ _ _ _ h=>h) ?_
   repeat (first
    | (refine Zis rfl ?_;go_big_quiet_step (fail)))
   refine wpQuiet_nil ?_;rintro _ ⟨⟨w4,hb4⟩,rfl⟩;simp only[List.drop_succ_cons,List.drop_zero];clear hE;have hM4:=hM2.below hb4;go_wp2_with fail
   refine(Zb9 _ _ hM4 hd.1 hd.2 hmw).mono ?_;rintro e w3 ⟨rfl,hM3,hO3⟩;go_wp2_with fail
   go_ret2
   exact Zcn Hact.out hM3 ((hO2.trans (Only.of_below hb4) (λ _ _ h=>h)).trans (Zdz hO3) (λ _ _ h=>h))
  .have Hact:=Ya (show m.act ⟨24,d,na,nb,imm⟩=(m,0,2) by
    simp[S.Mach.act,Hrd.out.1,hin])
   have hdt:decide (S.u32m (av+S.u32m imm)<m.mem.length)=false:=by simpa using hin
   go_wp2_with fail
   refine(Zf8 _ _ hM1 ⟨a0,a1⟩).mono ?_;rintro e w2 ⟨rfl,n2,rfl⟩;rw[hdt];clear hin hdt;go_wp2_with fail
   go_ret2
   exact Zcn Hact.out (hM1.drewN n2) (hO1.trans (Only.drewN (F:=Za2 p vm vo) w1 n2) (λ _ _ h=>h))
 .subst k1
  have hAt:=Zav (av+S.u32m imm);by_cases hin:S.u32m (av+S.u32m imm)<m.mem.length
  .have Hact:=Ya (show m.act ⟨25,d,na,nb,imm⟩=({ m with mem:=m.mem.set (S.u32m (av+S.u32m imm)).toNat bv },S.u32m (m.place+1),0) by
    simp[S.Mach.act,Hrd.out.1,Hrd.out.2,hin])
   obtain⟨t,ht⟩:∃t:Nat,S.u32m (av+S.u32m imm)=t:=⟨(S.u32m (av+S.u32m imm)).toNat,by omega⟩
   have hdt:decide (S.u32m (av+S.u32m imm)<m.mem.length)=true:=by simpa using hin
   have htl:t<m.mem.length:=by omega
   rw[ht,Yah] at Hact;have Ht:=Ya ht;go_wp2_with fail
   refine(Zf8 _ _ hM1 ⟨a0,a1⟩).mono ?_;rintro e w2 ⟨rfl,n2,rfl⟩;rw[hdt];rw[Ht.out];have hM2:=hM1.drewN n2;have hO2:=hO1.trans (Only.drewN (F:=Za2 p vm vo) w1 n2) (λ _ _ h=>h);clear hin hdt ht hAt;generalize w1.drewN n2=w2 at *;obtain⟨g,cap,hvm,hg,hmc,hfz⟩:=hM2.memv;have hmt:=hmc t htl;have hft:=hfz t;have hS:=hM2.sw hvm ⟨b0,b1⟩ htl;obtain⟨c32,_⟩:=hM2.cells;have Hvm:=Ya hvm;rw[hvm] at c32;have hpw2:=hM2.lt;have HS:=Ya hS;clear hmc hS hvm hfz;go_wp2_with fail
   go_ret2
   exact Zcn Hact.out HS.out (hO2.trans (Only.setCell _ (show Za2 p vm vo g from .inr (.inl (by rw[Hvm.out];rfl))) _) (λ _ _ h=>h))
  .have Hact:=Ya (show m.act ⟨25,d,na,nb,imm⟩=(m,0,2) by
    simp[S.Mach.act,Hrd.out.1,hin])
   have hdt:decide (S.u32m (av+S.u32m imm)<m.mem.length)=false:=by simpa using hin
   go_wp2_with fail
   refine(Zf8 _ _ hM1 ⟨a0,a1⟩).mono ?_;rintro e w2 ⟨rfl,n2,rfl⟩;rw[hdt];clear hin hdt;go_wp2_with fail
   go_ret2
   exact Zcn Hact.out (hM1.drewN n2) (hO1.trans (Only.drewN (F:=Za2 p vm vo) w1 n2) (λ _ _ h=>h))
 .have n14:¬op<=14:=by omega
  have n22:¬op<=22:=by omega
  have n23:¬op<=23:=by omega
  have e23:¬op=23:=by omega
  have e24:¬op=24:=by omega
  have e25:¬op=25:=by omega
  have d24:=Zl4 e24;have d25:=Zl4 e25
  cases hg:S.goes op av bv
  .have Hact:=Ya (show m.act ⟨op,d,na,nb,imm⟩=(m,S.u32m (m.place+1),0) by
    simp[S.Mach.act,Hrd.out.1,Hrd.out.2,n14,n22,e23,e24,e25,k2,hg])
   have Hg:=Ya hg;clear hg e23 e24 e25;go_wp2_with fail
   refine(Zn4 _ _ _ _ a0 a1 b0 b1).mono ?_;rintro e w2 ⟨rfl,rfl⟩;rw[Hg.out];go_wp2_with fail
   go_ret2
   exact Zcn Hact.out hM1 hO1
  .have Hact:=Ya (show m.act ⟨op,d,na,nb,imm⟩=(m,S.u32m (S.u32m (m.place+1)+S.u32m imm),0) by
    simp[S.Mach.act,Hrd.out.1,Hrd.out.2,n14,n22,e23,e24,e25,k2,hg])
   have Hg:=Ya hg;have hwr:=Zfn (S.u32m (m.place+1)+S.u32m imm);clear hg e23 e24 e25;go_wp2_with fail
   refine(Zn4 _ _ _ _ a0 a1 b0 b1).mono ?_;rintro e w2 ⟨rfl,rfl⟩;rw[Hg.out];go_wp2_with fail
   refine(Zc9 _ _).mono ?_;rintro e w2 ⟨rfl,rfl⟩;go_wp2_with fail
   go_ret2
   exact Zcn Hact.out hM1 hO1
 .subst k1
  have Hact:=Ya (show m.act ⟨32,d,na,nb,imm⟩=(m.put d (S.u32m (m.place+1)),S.u32m (S.u32m (m.place+1)+S.u32m imm),0) by
   simp[S.Mach.act])
  have hwr:=Zfn (S.u32m (m.place+1)+S.u32m imm);go_wp2_with fail
  refine(Zb9 _ _ hM1 hd.1 hd.2 ⟨u0,u1⟩).mono ?_;rintro e w3 ⟨rfl,hM3,hO3⟩;have q4:=(hO3.cell gb1 (λ e=>hnf (.inl e)) 4).trans q4';have gb3:w.heap.size<w3.heap.size:=by have:=hO3.size;omega
  go_wp2_with fail
  refine(Zc9 _ _).mono ?_;rintro e w2 ⟨rfl,rfl⟩;go_wp2_with fail
  go_ret2
  exact Zcn Hact.out hM3 (hO1.trans (Zdz hO3) (λ _ _ h=>h))
 .subst k1
  have Hact:=Ya (show m.act ⟨33,d,na,nb,imm⟩=(m.put d (S.u32m (m.place+1)),S.u32m (av+S.u32m imm),0) by
   simp[S.Mach.act,Hrd.out.1])
  have hwr:=Zfn (av+S.u32m imm);go_wp2_with fail
  refine(Zb9 _ _ hM1 hd.1 hd.2 ⟨u0,u1⟩).mono ?_;rintro e w3 ⟨rfl,hM3,hO3⟩;have q4:=(hO3.cell gb1 (λ e=>hnf (.inl e)) 4).trans q4';have gb3:w.heap.size<w3.heap.size:=by have:=hO3.size;omega
  go_wp2_with fail
  refine(Zc9 _ _).mono ?_;rintro e w2 ⟨rfl,rfl⟩;go_wp2_with fail
  go_ret2
  exact Zcn Hact.out hM3 (hO1.trans (Zdz hO3) (λ _ _ h=>h))
 .subst k1
  cases hin:m.input with
  | nil =>
   have Hact:=Ya (show m.act ⟨34,d,na,nb,imm⟩=(m.put d 4294967295,S.u32m (m.place+1),0) by
    simp[S.Mach.act,hin])
   have Hin:=Ya hin;clear hin;have hMd:=hM1.drew;have hOd:=hO1.trans (Only.drew (F:=Za2 p vm vo) w1) (λ _ _ h=>h);have hff:(0:Int)<=4294967295/\(4294967295:Int)<=4294967295:=by decide
   go_upto_region 32 with fail
   go_region_with (first
    | (go_at_call 173;refine(Zj0 hMd Hin.out).mono ?_;rintro e w2 ⟨rfl,n2,rfl⟩)
    | (go_at_call 42;refine(Zb9 _ _ (hM1.drewN _) hd.1 hd.2 hff).mono ?_;rintro e w3 ⟨rfl,hM3,hO3⟩))
   all_goals
    go_wp2_with fail
    go_ret2
    exact Zcn Hact.out hM3 ((hO1.trans (Only.drewN (F:=Za2 p vm vo) w1 _) (λ _ _ h=>h)).trans (Zdz hO3) (λ _ _ h=>h))
  | cons x r =>
   have Hact:=Ya (show m.act ⟨34,d,na,nb,imm⟩=(({ m with input:=r }:S.Mach).put d x,S.u32m (m.place+1),0) by
    simp[S.Mach.act,hin])
   have Hin:=Ya hin;have hxr:0<=x/\x<=4294967295:=by have:=h.ok.inp x (by rw[hin];exact Yu ..);omega
   clear hin;have hMd:=hM1.drew;have hOd:=hO1.trans (Only.drew (F:=Za2 p vm vo) w1) (λ _ _ h=>h);go_upto_region 32 with fail
   go_region_with (first
    | (go_at_call 173;refine(Zj1 hMd Hin.out).mono ?_;rintro e w2 ⟨rfl,hM2,hO2⟩;have q1b:w2.cell? ⟨w.heap.size,1,none⟩=some (.int .i64 d):=(hO2.cell (show w.heap.size<w1.drew.heap.size from gb1) (λ e=>hnf (.inl e)) 1).trans q1';have gb2:w.heap.size<w2.heap.size:=Nat.lt_of_lt_of_le gb1 hO2.size)
    | (go_at_call 42;refine(Zb9 _ _ hM2 hd.1 hd.2 hxr).mono ?_;rintro e w3 ⟨rfl,hM3,hO3⟩))
   all_goals
    go_wp2_with fail
    go_ret2
    exact Zcn Hact.out hM3 ((hOd.trans (Zdz hO2) (λ _ _ h=>h)).trans (Zdz hO3) (λ _ _ h=>h))
 .subst k1
  have Hact:=Ya (show m.act ⟨35,d,na,nb,imm⟩=({ m with out:=m.out++[av%256] },S.u32m (m.place+1),0) by
   simp[S.Mach.act,Hrd.out.1])
  have hw8:IntKind.u8.wrap av=av%256:=by simp[Yc8,Yb0,Ycg]
  have hx8:0<=av%256/\av%256<=255:=by omega
  have hrow:=hM1.out;obtain⟨_,_,_,_,c36,_⟩:=hM1.cells;have f36:=hM1.fz 36;have hlow:=hM1.low;have hdp:=hM1.d2.2;generalize av%256=xv at *;go_wp2_with (at_builtin;go_loud (refine Zt rfl (.tmp 181) (.tmp 184) _ rfl B 5 Zyv Tryz.underlying95 rfl (by decide) #[.int .u8 xv] _ _ _ rfl hrow rfl rfl rfl (by simp[Value.oneCell']) (by simp only[maxLen];omega) (by omega) (by omega) ?_);intro v' w5 ho5 hg5 hb5 hat5;obtain⟨A5,c5,rfl⟩:=Zb ho5;go_loud (have hc5:w5.cell? ⟨p,36,none⟩=some vo:=(Yax (w:=w1) (a:=⟨p,36,none⟩) (hg5.block p hpw (λ e=>hdp e.symm))).trans c36);go_loud (have hf5:w5.frozen? ⟨p,36,none⟩=false:=(World.frozen?_of_block (w:=w1) (a:=⟨p,36,none⟩) (hg5.block p hpw (λ e=>hdp e.symm))).trans f36);go_loud (have hp5:p<w5.heap.size:=by have:=hg5.size;omega))
  go_ret2
  have hb':(Ybr A5 (m.out.length+1) c5).ownBlock=vo.ownBlock\/∃k,w1.heap.size<=k/\(Ybr A5 (m.out.length+1) c5).ownBlock=some k:=by
   rcases hat5 with e|e
   .exact .inl e
   .exact .inr ⟨_,by omega,e⟩
  have hT:=hM1.told hx8 ho5 hg5 hb';rw[Hact.out];refine⟨rfl,_,rd,hT,hO1.trans ((Only.of_grown (F:=Za2 p vm vo) hg5 (λ k e=>.inr (.inr e))).trans (Only.setCell (F:=Za2 p vm vo) _ (.inl rfl) _) (λ _ _ h=>h)) (λ _ _ h=>h),?_⟩;rcases hb' with e|⟨k,hk,e⟩
  .exact .inl e
  .exact .inr ⟨k,by have:=hO1.size;omega,e⟩
 .subst k1
  have Hact:=Ya (show m.act ⟨36,d,na,nb,imm⟩=({ m with state:=1,code:=av },m.place,0) by
   simp[S.Mach.act,Hrd.out.1])
  have hH:=hM1.halted (a:=av) ⟨a0,a1⟩;have HH:=Ya hH;obtain⟨_,c33,_,_,_,c37,c38,_,_⟩:=hM1.cells;have f37:=hM1.fz 37;have f38:=hM1.fz 38;clear hH;go_wp2_with fail
  go_ret2
  exact Zcn Hact.out HH.out (hO1.trans ((Only.setCell (F:=Za2 p vm vo) _ (.inl rfl) _).trans (Only.setCell (F:=Za2 p vm vo) _ (.inl rfl) _) (λ _ _ h=>h)) (λ _ _ h=>h))
end
end
