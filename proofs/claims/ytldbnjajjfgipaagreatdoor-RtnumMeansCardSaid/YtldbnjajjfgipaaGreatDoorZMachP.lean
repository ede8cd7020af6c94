/- Parts. -/
import Derived.Test.YtldbnjajjfgipaaGreatDoorZMachM
import Derived.Deep.DeepCutAuto
import Derived.BigRegion
import Derived.Deep.RegionWith
set_option linter.all false
set_option maxHeartbeats 8000000
open Go.Lib renaming hid->Ya
open Nat renaming le_refl->Yb,lt_of_not_le->Ycr
open Go.Value renaming int->Ys,slice->Ybb
open List renaming mem_cons_self->Yv,drop_eq_getElem_cons->Ybo
open Int renaming toNat_natCast->Yaj,mul_nonneg->Yas,ediv_nonneg->Yb5,ediv_le_self->Ycq,le_trans->Ydj
open Go.World renaming cell?_of_block->Yau,setCell->Ybv
open Go.IntKind renaming signed->Ybu,bits->Ycc,wrap->Yc8
namespace Go.Proofs.YtldbnjajjfgipaaGreatDoor
open S Go.Proofs.Tryz Go.RowKit
set_option maxRecDepth 100000
theorem Zc9 (n:Int)(w:World):Calls prog 199 #[.int .i64 n] w λ e w'=>e=.returned (.int .u32 (u32m n))/\w=w':=by
 go_enter func199,ntmps199
 go_wp2
 go_ret
 refine⟨Z0 ?_,rfl⟩;simp only[u32m,wrap32];omega
def tv (b:Bool):Int:=if b=true then 1 else 0
theorem Zmi (p:Prop)[Decidable p]:tv (decide p)=truth p:=by simp[tv,truth]
theorem Zg6 (b:Bool)(w:World):Calls prog 247 #[.bool b] w λ e w'=>e=.returned (.int .u32 (tv b))/\w=w':=by
 cases b
 all_goals
  go_enter func247,ntmps247
  go_wp2
  go_ret
  exact⟨rfl,rfl⟩
theorem Zom (op a b:Int)(w:World)(a0:0<=a)(f:a<=4294967295)(d:0<=b)(b1:b<=4294967295) :
 Calls prog 201 #[.int .i64 op,.int .u32 a,.int .u32 b] w λ e w'=>e=.returned (.bool (goes op a b))/\w=w':=by
 have ha:=Zes a0 f;have hb:=Zes d b1;go_enter func201,ntmps201
 go_wp2
 all_goals
  go_ret
  refine⟨Zk ?_,rfl⟩
  first
   | grind [goes]
   | simp_all[goes]
theorem Ztd (a b:Int)(w:World)(a0:0<=a)(f:a<=4294967295)(d:0<=b)(b1:b<=4294967295) :
 Calls prog 246 #[.int .u32 a,.int .u32 b] w λ e w'=>e=.returned (.tuple #[.int .u32 (a*b/4294967296),.int .u32 (u32m (a*b))])/\w=w':=by
 have m0:0<=a*b:=Yas a0 d;have m1:a*b<=4294967295*4294967295:=Int.mul_le_mul f b1 d (by omega);go_enter func246,ntmps246
 go_wp2_with fail
 go_ret2
 exact⟨by simp[u32m],rfl⟩
theorem Z5k (op a b:Int)(w:World)(a0:0<=a)(j:a<=4294967295)(f:0<=b)(b1:b<=4294967295)(q:1<=op/\op<=14)(i:¬(b=0/\(op=5\/op=6))) :
 Calls prog 198 #[.int .i64 op,.int .u32 a,.int .u32 b] w λ e w'=>e=.returned (.tuple #[.int .u32 (alu op a b),.bool true])/\w=w':=by
 have n:op=5\/op=6\/op=4\/op=13\/op=14\/op=1\/op=2\/op=3\/op=7\/op=8\/op=9\/op=10\/op=11\/op=12:=by omega
 have ha:=Zes a0 j;have hb:=Zes f b1;have o:=Zah 5 b 32 31 rfl rfl (by omega) f (by omega);have k:0<=b%32:=by omega
 have l:b%32<=31:=by omega
 have h:=Ya i;clear i q;rcases n with rfl|rfl|rfl|rfl|rfl|rfl|rfl|rfl|rfl|rfl|rfl|rfl|rfl|rfl
 .have hbz:¬b=0:=by have:=h.out;omega
  have g:(b==0)=false:=by simpa using hbz
  have d:1<=b:=by omega
  have q0:0<=a/b:=Yb5 a0 f;have q1:a/b<=4294967295:=by
   have:=Ycq b a0;omega
  go_enter func198,ntmps198
  go_wp2_with fail
  go_ret2
  exact⟨by simp[alu],rfl⟩
 .have hbz:¬b=0:=by have:=h.out;omega
  have g:(b==0)=false:=by simpa using hbz
  have d:1<=b:=by omega
  go_enter func198,ntmps198
  go_wp2_with fail
  go_ret2
  exact⟨by simp[alu],rfl⟩
 .go_enter func198,ntmps198
  go_wp2_with fail
  refine(Ztd _ _ _ a0 j f b1).mono ?_;rintro e w' ⟨rfl,rfl⟩;go_wp2_with fail
  go_ret2
  exact⟨by simp[alu],rfl⟩
 .go_enter func198,ntmps198
  go_wp2_with fail
  refine(Zg6 _ _).mono ?_;rintro e w' ⟨rfl,rfl⟩;go_wp2_with fail
  go_ret2
  exact⟨by simp[alu,Zmi],rfl⟩
 .go_enter func198,ntmps198
  go_wp2_with fail
  refine(Zg6 _ _).mono ?_;rintro e w' ⟨rfl,rfl⟩;go_wp2_with fail
  go_ret2
  exact⟨by simp[alu,Zmi],rfl⟩
 all_goals
  go_enter func198,ntmps198
  go_wp2_with fail
  go_ret2
  exact⟨by simp[alu,u32m],rfl⟩
theorem Z5l (op a:Int)(w:World)(b:op=5\/op=6) :
 Calls prog 198 #[.int .i64 op,.int .u32 a,.int .u32 0] w λ e w'=>e=.returned (.tuple #[.int .u32 0,.bool false])/\w=w':=by
 rcases b with rfl|rfl
 all_goals
  go_enter func198,ntmps198
  go_wp2_with fail
  go_ret2
  exact⟨rfl,rfl⟩
theorem Z5m (op a b:Int)(w:World)(a0:0<=a)(i:a<=4294967295)(d:0<=b)(b1:b<=4294967295)(h:15<=op/\op<=22) :
 Calls prog 198 #[.int .i64 op,.int .u32 a,.int .u32 b] w λ e w'=>e=.returned (.tuple #[.int .u32 (alu (like op) a b),.bool true])/\w=w':=by
 have j:op=22\/op=15\/op=16\/op=17\/op=18\/op=19\/op=20\/op=21:=by omega
 have ha:=Zes a0 i;have hb:=Zes d b1;have g:=Zah 5 b 32 31 rfl rfl (by omega) d (by omega);have f:0<=b%32:=by omega
 have k:b%32<=31:=by omega
 clear h;rcases j with rfl|rfl|rfl|rfl|rfl|rfl|rfl|rfl
 .go_enter func198,ntmps198
  go_wp2_with fail
  refine(Zg6 _ _).mono ?_;rintro e w' ⟨rfl,rfl⟩;go_wp2_with fail
  go_ret2
  exact⟨by simp[alu,like,Zmi],rfl⟩
 all_goals
  go_enter func198,ntmps198
  go_wp2_with fail
  go_ret2
  exact⟨by simp[alu,like,u32m],rfl⟩
theorem Z5n (a b:Int)(w:World)(b0:0<=b)(b1:b<=4294967295) :
 Calls prog 198 #[.int .i64 23,.int .u32 a,.int .u32 b] w λ e w'=>e=.returned (.tuple #[.int .u32 (u32m (b*65536)),.bool true])/\w=w':=by
 go_enter func198,ntmps198
 go_wp2_with fail
 go_ret2
 exact⟨by simp[u32m],rfl⟩
section
section
variable {w w':World}{B p:Nat}{vm vo:Value}{A:Option Addr}{c:Nat}{inp:List Int}{rd:Nat}{m:Mach}
theorem MAt.drewN (h:MAt w B p vm vo A c inp rd m)(n:Nat):MAt (w.drewN n) B p vm vo A c inp rd m:=h.keep (Yb _) λ _ _=>rfl
theorem MAt.drew (h:MAt w B p vm vo A c inp rd m):MAt w.drew B p vm vo A c inp rd m:=h.keep (Yb _) λ _ _=>rfl
theorem Only.drew {F:Nat->Prop}(w:World):Only F w w.drew:=⟨rfl,rfl,rfl,Yb _,λ _ _ _=>rfl⟩
theorem Only.drewN {F:Nat->Prop}(w:World)(n:Nat):Only F w (w.drewN n):=⟨rfl,rfl,rfl,Yb _,λ _ _ _=>rfl⟩
theorem Zmj {l:List Int}{i j:Nat}{v:Int}:(l.set i v).getD j 0=if i=j/\j<l.length then v else l.getD j 0:=by
 simp only[List.getD_eq_getElem?_getD,List.getElem?_set];by_cases h:i=j
 .subst h
  by_cases h2:i<l.length
  .simp[h2]
  .simp[h2]
 .simp[h]
theorem Z5o (h:m.Ok){d v:Int}(hd:0<=d)(a:0<=v/\v<=4294967295):(m.put d v).Ok:=by
 unfold Mach.put;by_cases e:d=0
 .rw[if_pos e];exact h
 .rw[if_neg e]
  refine⟨by simpa using h.regs,λ i=>?_,?_,h.mem,h.memw,h.place0,h.place1,h.inp,h.outp,h.code0,h.code1⟩
  .show 0<=(m.reg.set d.toNat v).getD i 0/\(m.reg.set d.toNat v).getD i 0<=4294967295
   rw[Zmj]
   split
   .exact a
   .exact h.word i
  .show(m.reg.set d.toNat v).getD 0 0=0
   rw[Zmj,if_neg (by omega)];exact h.zero
theorem MAt.put (h:MAt w B p vm vo A c inp rd m){d v:Int}(h0:0<d)(h1:d<32)(b:0<=v/\v<=4294967295):MAt (w.setCell ⟨p,d.toNat,none⟩ (.int .u32 v)) B p vm vo A c inp rd (m.put d v):=by
 have a:=Z5o h.ok (d:=d) (by omega) b;have e:m.put d v={ m with reg:=m.reg.set d.toNat v }:=by unfold Mach.put;rw[if_neg (by omega)]
 rw[e] at a⊢;refine h.stored d.toNat _ a rfl rfl h.left h.rdle ?_;unfold Zfg;rw[List.set_append_left _ _ (by simp[h.ok.regs];omega),List.map_set]
theorem Z5p (l:List Int)(a:l.length=32)(k:Nat)(t:List Value)(u:Value):(l.map (Ys .u32)++t).set (32+k) u=l.map (Ys .u32)++t.set k u:=by
 rw[List.set_append_right _ _ (by simp[a])];simp[a]
theorem Z1g (h:m.Ok)(l k:Nat)(u:Value):m.reg.map (Ys .u32)++([vm,.int .u32 m.place,.slice A l c,.int .i64 rd,vo,.int .i64 m.state,.int .u32 m.code,.int .i64 m.trap,.int .i64 m.steps]:List Value).set k u=(Zfg m vm A l c rd vo).set (32+k) u :=
 (Z5p m.reg h.regs k _ u).symm
theorem MAt.fell (h:MAt w B p vm vo A c inp rd m)(t:Int):MAt ((w.setCell ⟨p,37,none⟩ (.int .i64 2)).setCell ⟨p,39,none⟩ (.int .i64 t)) B p vm vo A c inp rd (m.fell t):=by
 have a:({ m with state:=2 }:Mach).Ok:=⟨h.ok.regs,h.ok.word,h.ok.zero,h.ok.mem,h.ok.memw,h.ok.place0,h.ok.place1,h.ok.inp,h.ok.outp,h.ok.code0,h.ok.code1⟩
 have h1:MAt (w.setCell ⟨p,37,none⟩ (.int .i64 2)) B p vm vo A c inp rd { m with state:=2 }:=h.stored 37 _ a rfl rfl h.left h.rdle (Z1g h.ok _ 5 _);exact h1.stored 39 _ ⟨h.ok.regs,h.ok.word,h.ok.zero,h.ok.mem,h.ok.memw,h.ok.place0,h.ok.place1,h.ok.inp,h.ok.outp,h.ok.code0,h.ok.code1⟩ rfl rfl h.left h.rdle (Z1g a _ 7 _)
theorem MAt.halted (h:MAt w B p vm vo A c inp rd m){a:Int}(d:0<=a/\a<=4294967295):MAt ((w.setCell ⟨p,37,none⟩ (.int .i64 1)).setCell ⟨p,38,none⟩ (.int .u32 a)) B p vm vo A c inp rd { m with state:=1,code:=a }:=by
 have b:({ m with state:=1 }:Mach).Ok:=⟨h.ok.regs,h.ok.word,h.ok.zero,h.ok.mem,h.ok.memw,h.ok.place0,h.ok.place1,h.ok.inp,h.ok.outp,h.ok.code0,h.ok.code1⟩
 have h1:MAt (w.setCell ⟨p,37,none⟩ (.int .i64 1)) B p vm vo A c inp rd { m with state:=1 }:=h.stored 37 _ b rfl rfl h.left h.rdle (Z1g h.ok _ 5 _);exact h1.stored 38 _ ⟨h.ok.regs,h.ok.word,h.ok.zero,h.ok.mem,h.ok.memw,h.ok.place0,h.ok.place1,h.ok.inp,h.ok.outp,d.1,d.2⟩ rfl rfl h.left h.rdle (Z1g b _ 6 _)
theorem MAt.went (h:MAt w B p vm vo A c inp rd m){tq:Int}(a:0<=tq/\tq<=4294967295):MAt (w.setCell ⟨p,33,none⟩ (.int .u32 tq)) B p vm vo A c inp rd { m with place:=tq } :=
 h.stored 33 _ ⟨h.ok.regs,h.ok.word,h.ok.zero,h.ok.mem,h.ok.memw,a.1,a.2,h.ok.inp,h.ok.outp,h.ok.code0,h.ok.code1⟩ rfl rfl h.left h.rdle (Z1g h.ok _ 1 _)
theorem MAt.stepped (h:MAt w B p vm vo A c inp rd m)(n:Int):MAt (w.setCell ⟨p,40,none⟩ (.int .i64 n)) B p vm vo A c inp rd { m with steps:=n } :=
 h.stored 40 _ ⟨h.ok.regs,h.ok.word,h.ok.zero,h.ok.mem,h.ok.memw,h.ok.place0,h.ok.place1,h.ok.inp,h.ok.outp,h.ok.code0,h.ok.code1⟩ rfl rfl h.left h.rdle (Z1g h.ok _ 8 _)
theorem MAt.readOn (h:MAt w B p vm vo A c inp rd m){x:Int}{r:List Int}(d:m.input=x::r):MAt (w.setCell ⟨p,35,none⟩ (.int .i64 ((rd:Int)+1))) B p vm vo A c inp (rd+1) { m with input:=r }:=by
 have a:=h.left;rw[d] at a;have b:rd<inp.length:=by
  refine Ycr λ e=>?_
  rw[List.drop_eq_nil_of_le e] at a
  cases a
 rw[Ybo b] at a;refine h.stored 35 _ ⟨h.ok.regs,h.ok.word,h.ok.zero,h.ok.mem,h.ok.memw,h.ok.place0,h.ok.place1,λ y f=>h.ok.inp y (by rw[d];exact List.mem_cons_of_mem _ f),h.ok.outp,h.ok.code0,h.ok.code1⟩ rfl rfl (List.cons.inj a).2 b ?_;exact Z1g h.ok _ 3 _
theorem MAt.sw (h:MAt w B p vm vo A c inp rd m){g cap i:Nat}(q:vm=.slice (some ⟨g,0,none⟩) m.mem.length cap){b:Int}(l:0<=b/\b<=4294967295)(hi:i<m.mem.length) :
 MAt (w.setCell ⟨g,i,none⟩ (.int .u32 b)) B p vm vo A c inp rd { m with mem:=m.mem.set i b }:=by
 subst q;obtain⟨n1,n2⟩:=h.mem_ne (k:=g) rfl;obtain⟨r,s2⟩:=h.mem.stored i (.int .u32 b);have a:∀j,j≠g->(w.setCell ⟨g,i,none⟩ (.int .u32 b)).heap[j]?=w.heap[j]?:=λ j d=>Below.heap_setCell _ _ _ _ d
 refine⟨⟨h.ok.regs,h.ok.word,h.ok.zero,by simpa using h.ok.mem,λ j=>?_,h.ok.place0,h.ok.place1,h.ok.inp,h.ok.outp,h.ok.code0,h.ok.code1⟩,h.low,?_,?_,?_,?_,h.left,h.rdle,h.inl,by simpa using h.low0,λ b o s e=>by have:=h.la b o s e;simpa[Ybv] using this,h.d1,h.d2⟩
 .show 0<=(m.mem.set i b).getD j 0/\(m.mem.set i b).getD j 0<=4294967295
  rw[Zmj]
  split
  .exact l
  .exact h.ok.memw j
 .obtain⟨cs,h1,h2⟩:=h.blk
  exact⟨cs,by rw[a p (Ne.symm n1)];exact h1,h2⟩
 .simp only[List.length_set,List.map_set]
  exact r
 .exact Zau h.out λ j d=>a j λ e=>n2 (e ▸ d)
 .exact h.rin.same (by simp[Ybv]) λ f o s e=>a f λ n=>(h.d1 f o s e).2.1 (by rw[n];rfl)
theorem MAt.told (h:MAt w B p vm vo A c inp rd m){a:Value}{x:Int}(D:0<=x/\x<=255)(C:w'.ownsRow B 5 1 a (m.out.length+1) (m.out.map (Ys .u8)++[.int .u8 x]))(hg:w.grownBy w' vo.ownBlock)
 (u:a.ownBlock=vo.ownBlock\/∃k,w.heap.size<=k/\a.ownBlock=some k) :
 MAt (w'.setCell ⟨p,36,none⟩ a) B p vm a A c inp rd { m with out:=m.out++[x] }:=by
 have d:∀j,j<w.heap.size->vo.ownBlock≠some j->w'.heap[j]?=w.heap[j]?:=λ j i v=>hg.block j i (λ e=>v e.symm)
 have g:∀j,j≠p->(w'.setCell ⟨p,36,none⟩ a).heap[j]?=w'.heap[j]?:=λ j i=>Below.heap_setCell _ _ _ _ i
 have t:=h.lt;have f:a.ownBlock≠some p:=by
  rcases u with e|⟨k,z,e⟩
  .rw[e];exact h.d2.2
  .rw[e];intro q;cases q;omega
 refine⟨⟨h.ok.regs,h.ok.word,h.ok.zero,h.ok.mem,h.ok.memw,h.ok.place0,h.ok.place1,h.ok.inp,λ y l=>?_,h.ok.code0,h.ok.code1⟩,h.low,?_,?_,?_,?_,h.left,h.rdle,h.inl,h.low0,λ b o s e=>by have h1:=h.la b o s e;have h2:=hg.size;simp only[Ybv];simp;omega,λ b o s e=>?_,h.d2.1,f⟩
 .rcases List.mem_append.1 l with l|l
  .exact h.ok.outp y l
  .rw[List.mem_singleton.1 l];exact D
 .obtain⟨cs,h1,h2⟩:=h.blk
  have r:w'.heap[p]?=some (.cells cs 86 (0,0)):=by rw[d p t h.d2.2];exact h1
  refine⟨cs.setIfInBounds 36 a,heap_setCell_same w' p 36 cs _ a r,?_⟩;rw[Array.toList_setIfInBounds,h2];exact(Z1g h.ok _ 4 _).symm
 .refine Zau h.mem λ j i=>?_
  obtain⟨n1,n2⟩:=h.mem_ne i;rw[g j n1];exact d j (h.mem.lt j i).2 n2
 .show(w'.setCell ⟨p,36,none⟩ a).ownsRow B 5 1 a (m.out++[x]).length ((m.out++[x]).map (Ys .u8))
  rw[List.length_append,List.map_append];exact ownsRow_setCell_other C f _
 .exact h.rin.same (by have:=hg.size;simpa[Ybv] using this) λ b o s e=>by
   obtain⟨d1,d2,d3⟩:=h.d1 b o s e;rw[g b d1];exact d b (h.la b o s e) d3
 .obtain⟨d1,d2,d3⟩:=h.d1 b o s e
  refine⟨d1,d2,?_⟩;rcases u with n|⟨k,z,n⟩
  .rw[n];exact d3
  .rw[n]
   intro q
   cases q
   have:=h.la b o s e;omega
end
end
section
section
variable {w w':World}{B p:Nat}{vm vo:Value}{A:Option Addr}{c:Nat}{inp:List Int}{rd:Nat}{m:Mach}
theorem Zal (h:MAt w B p vm vo A c inp rd m):Calls prog 36 #[.pointer (some ⟨p,0,none⟩)] w λ e w'=>e=.returned (.bool true)/\w=w':=by
 obtain⟨g,cap,rfl,hg,_,_⟩:=h.memv;obtain⟨a,_⟩:=h.cells;have hm:=h.ok.mem;have b:=h.lt;go_enter func36,ntmps36
 go_wp2_with fail
 go_ret
 exact⟨rfl,rfl⟩
theorem Zcb (d v:Int)(h:MAt w B p vm vo A c inp rd m)(h0:0<=d)(h1:d<32)(b:0<=v/\v<=4294967295):Calls prog 41 #[.pointer (some ⟨p,0,none⟩),.int .i64 d,.int .u32 v] w
 λ e w'=>e=.returned (.tuple #[])/\MAt w' B p vm vo A c inp rd (m.put d v)/\Only (·=p) w w':=by
 have f:=h.lt;by_cases a:d=0
 .have d1:(d != 0)=false:=by simp[a]
  go_enter func41,ntmps41
  go_wp2_with fail
  refine bodyPost_end (v:=.tuple #[]) (by simp[results,results41,go_sem]) rfl ⟨rfl,?_,Only.refl _ _⟩;rw[Mach.put,if_pos a];exact h
 .have d1:(d != 0)=true:=by simpa using a
  have hp:=h.put (show 0<d by omega) h1 b;obtain⟨k,rfl⟩:∃k:Nat,d=k:=⟨d.toNat,by omega⟩
  have i:k<32:=by omega
  have hf:=h.fz k;have hc:=h.reg i;have g:=Ya hp;clear hp a;go_enter func41,ntmps41
  go_wp2_with fail
  refine bodyPost_end (v:=.tuple #[]) (by simp[results,results41,go_sem]) rfl ⟨rfl,?_,?_⟩
  .exact g.out
  .exact Only.setCell (F:=(·=p)) _ rfl _
theorem Zjg (t:Int)(h:MAt w B p vm vo A c inp rd m):Calls prog 124 #[.pointer (some ⟨p,0,none⟩),.int .i64 t] w
 λ e w'=>e=.returned (.int .i64 2)/\MAt w' B p vm vo A c inp rd (m.fell t)/\Only (·=p) w w':=by
 have hp:=h.fell t;have hf:=h.fz 37;have b:=h.fz 39;obtain⟨_,_,_,_,_,d,_,a,_⟩:=h.cells;have f:=Ya hp;have g:=h.lt;clear hp;go_enter func124,ntmps124
 go_wp2_with fail
 go_ret
 refine⟨rfl,f.out,?_⟩;exact(Only.setCell (F:=(·=p)) _ rfl _).trans (Only.setCell (F:=(·=p)) _ rfl _) (λ _ _ h=>h)
theorem Zga (a imm:Int)(h:MAt w B p vm vo A c inp rd m)(a0:0<=a/\a<=4294967295):Calls prog 200 #[.pointer (some ⟨p,0,none⟩),.int .u32 a,.int .i64 imm] w
 λ e w'=>e=.returned (.tuple #[.int .u32 (u32m (a+u32m imm)),.bool (decide (u32m (a+u32m imm)<m.mem.length))])/\∃n,w'=w.drewN n:=by
 obtain⟨g,cap,rfl,hg,_,_⟩:=h.memv;obtain⟨d,_⟩:=h.cells;have hm:=h.ok.mem;have j:=h.lt;have hl:=h.low0;have hw:=Zft (a+u32m imm);have b:=Zat (a+u32m imm);go_enter func200,ntmps200
 go_wp2_with fail
 refine(Zc9 _ _).mono ?_;rintro e w' ⟨rfl,rfl⟩;generalize hU:u32m (a+u32m imm)=U at *;obtain⟨u0,u1⟩:=b;have f:IntKind.u64.wrap U=U:=by simp[Yc8,Ybu,Ycc];omega
 have i:IntKind.u64.wrap (m.mem.length:Int)=m.mem.length:=by simp[Yc8,Ybu,Ycc];omega
 go_wp2_with fail
 go_quiet (fail)
 go_wp2_with fail
 go_ret2
 exact⟨by rw[hU];rfl,_,rfl⟩
theorem Zkg (h:MAt w B p vm vo A c inp rd m)(hi:m.input=[]):Calls prog 202 #[.pointer (some ⟨p,0,none⟩)] w
 λ e w'=>e=.returned (.int .u32 4294967295)/\∃n,w'=w.drewN n:=by
 obtain⟨_,_,d,g,_⟩:=h.cells;have a:=h.left;have hr:=h.rdle;have hz:=h.inl;rw[hi] at a;have b:rd=inp.length:=by
  have:=congrArg List.length a;simp at this;omega
 have hd:((rd:Int)==inp.length)=true:=by simp[b]
 have f:=h.lt;clear a hi b;go_enter func202,ntmps202
 go_wp2_with fail
 go_quiet (fail)
 go_wp2_with fail
 go_ret
 exact⟨rfl,_,rfl⟩
theorem Zkh (h:MAt w B p vm vo A c inp rd m){x:Int}{r:List Int}(hi:m.input=x::r):Calls prog 202 #[.pointer (some ⟨p,0,none⟩)] w
 λ e w'=>e=.returned (.int .u32 x)/\MAt w' B p vm vo A c inp (rd+1) { m with input:=r }/\Only (·=p) w w':=by
 obtain⟨_,_,u,C,_⟩:=h.cells;have f:=h.left;have hz:=h.inl;have d:=h.readOn hi;have o:=Ya d;rw[hi] at f;have i:rd<inp.length:=by
  refine Ycr λ j=>?_
  rw[List.drop_eq_nil_of_le j] at f
  cases f
 rw[Ybo i] at f;have q:(inp.map (Ys .u8))[rd]?=some (.int .u8 x):=by
  rw[List.getElem?_map,List.getElem?_eq_getElem i,(List.cons.inj f).1];rfl
 have n:0<=x/\x<=255:=h.ok.inp x (by rw[hi];exact Yv ..);obtain⟨b,off,e,hb,j⟩:=h.rin (by simp;omega);have k:=j rd _ q;have g:=h.d1 b off none e;subst e;have hd:((rd:Int)==inp.length)=false:=by simp;omega
 have hf:=h.fz 35;have E:=h.lt;have l:=g.1;obtain⟨x0,x1⟩:=n;have y:IntKind.u32.wrap x=x:=by simp[Yc8,Ybu,Ycc];omega
 have v:((rd:Int)+1-1)=rd:=by omega
 have G:=Ya hi;clear f hi d o j q g;go_enter func202,ntmps202
 go_wp2_with fail
 go_quiet (fail)
 go_upto_region 4 with fail
 have d:=(h.drewN nq).readOn G.out;obtain⟨_,_,z,D,_⟩:=d.cells;have s:((w.drewN nq).setCell ⟨p,35,none⟩ (.int .i64 ((rd:Int)+1))).cell? ⟨b,off+rd,none⟩=some (.int .u8 x):=by
  rw[<- k];exact Yau (w:=w) (a:=⟨b,off+rd,none⟩) (Below.heap_setCell _ _ _ _ l)
 have t:Only (·=p) w ((w.drewN nq).setCell ⟨p,35,none⟩ (.int .i64 ((rd:Int)+1))):=(Only.drewN w nq).trans (Only.setCell (F:=(·=p)) _ rfl _) (λ _ _ h=>h);have o:=Ya d;generalize (w.drewN nq).setCell ⟨p,35,none⟩ (.int .i64 ((rd:Int)+1))=w1 at *;clear d;go_wp2_with fail
 go_quiet (fail)
 go_wp2_with fail
 go_ret
 exact⟨rfl,o.out.drewN _,t.trans (Only.drewN _ _) (λ _ _ h=>h)⟩
end
end
section
theorem Zg7 (w:World)(cs:Array Value)(t:TypeId):(w.alloc (.cells cs t)).heap[w.heap.size]?=some (.cells cs t (0,0))/\Below w.heap.size w (w.alloc (.cells cs t))/\(w.alloc (.cells cs t)).heap.size=w.heap.size+1 :=
 ⟨heap_alloc_new _ _,(Below.refl _ _).alloc (Yb _) _,by simp⟩
theorem Zad {w:World}{g:Nat}{cs:Array Value}{t:TypeId}(h:w.heap[g]?=some (.cells cs t (0,0)))(j:Nat):w.cell? ⟨g,j,none⟩=cs[j]?:=by simp[World.cell?,h]
theorem Only.cell {F:Nat->Prop}{w w':World}(h:Only F w w'){b:Nat}(d:b<w.heap.size)(e:¬F b)(o:Nat):w'.cell? ⟨b,o,none⟩=w.cell? ⟨b,o,none⟩:=Yau (w:=w) (a:=⟨b,o,none⟩) (h.block b d e)
theorem Zqk (op:BinOp){a b:Int}(n:Nat)(h:bits op .u32 a b=(n:Int))(hn:n<4294967296):0<=bits op .u32 a b/\bits op .u32 a b<=4294967295:=by rw[h];omega
theorem Z1h {op a b:Int}(a0:0<=a)(f:a<=4294967295)(d:0<=b)(b1:b<=4294967295)(t:¬(b=0/\(op=5\/op=6))):0<=alu op a b/\alu op a b<=4294967295:=by
 have x:a.toNat<2^32:=by have:(2:Nat)^32=4294967296:=rfl;omega
 have n:b.toNat<2^32:=by have:(2:Nat)^32=4294967296:=rfl;omega
 have e:(2:Nat)^32=4294967296:=rfl;unfold alu;by_cases h1:op=1
 .rw[if_pos h1];exact Zat _
 rw[if_neg h1];by_cases h2:op=2
 .rw[if_pos h2];exact Zat _
 rw[if_neg h2];by_cases h3:op=3
 .rw[if_pos h3];exact Zat _
 rw[if_neg h3];by_cases r:op=4
 .rw[if_pos r]
  have hm:a*b<=4294967295*4294967295:=Int.mul_le_mul f b1 d (by omega);have hp:0<=a*b:=Yas a0 d;omega
 rw[if_neg r];by_cases o:op=5
 .rw[if_pos o]
  have q:0<b:=by
   rcases Int.lt_or_eq_of_le d with h|h
   .exact h
   .exact absurd ⟨h.symm,.inl o⟩ t
  exact⟨Yb5 a0 d,Ydj (Ycq b a0) f⟩
 rw[if_neg o];by_cases l:op=6
 .rw[if_pos l]
  have q:0<b:=by
   rcases Int.lt_or_eq_of_le d with h|h
   .exact h
   .exact absurd ⟨h.symm,.inr l⟩ t
  have:=Int.emod_lt_of_pos a q;exact⟨Int.emod_nonneg a (by omega),by omega⟩
 rw[if_neg l];by_cases s:op=7
 .rw[if_pos s];exact Zqk _ _ (u32_and a0 f d b1) (by rw[<- e];exact Nat.and_lt_two_pow _ n)
 rw[if_neg s];by_cases v:op=8
 .rw[if_pos v];exact Zqk _ _ (u32_or a0 f d b1) (by rw[<- e];exact Nat.or_lt_two_pow x n)
 rw[if_neg v];by_cases u:op=9
 .rw[if_pos u];exact Zqk _ _ (u32_xor a0 f d b1) (by rw[<- e];exact Nat.xor_lt_two_pow x n)
 rw[if_neg u];by_cases g:op=10
 .rw[if_pos g];exact Zat _
 rw[if_neg g];by_cases k:op=11
 .rw[if_pos k]
  have hp:(0:Int)<=2^(b%32).toNat:=Int.le_of_lt (Int.pow_pos (by omega));exact⟨Yb5 a0 hp,Ydj (Ycq _ a0) f⟩
 rw[if_neg k];by_cases j:op=12
 .rw[if_pos j];exact Zat _
 rw[if_neg j];by_cases i:op=13
 .rw[if_pos i];unfold truth;split <;> omega
 rw[if_neg i];unfold truth;split <;> omega
theorem Zzu:(prog.info? 5).map (λ i=>(i.zero,i.size,i.bytes))=some (some (.int .u8 0),1,1):=by kernel_rfl
theorem Zmk {a b:Int}(h:¬a=b):(a==b)=false:=by simp[h]
section
variable {w w':World}{B p:Nat}{vm vo:Value}{A:Option Addr}{c:Nat}{inp:List Int}{rd:Nat}{m:Mach}
def Z1i (w:World)(B p:Nat)(vm vo:Value)(A:Option Addr)(c:Nat)(inp:List Int)(r:Mach×Int×Int)(e:Ending)(w':World):Prop :=
 e=.returned (.tuple #[.int .u32 r.2.1,.int .i64 r.2.2])/\∃vo' rd',MAt w' B p vm vo' A c inp rd' r.1/\Only (Za0 p vm vo) w w'/\(vo'.ownBlock=vo.ownBlock\/∃k,w.heap.size<=k/\vo'.ownBlock=some k)
theorem Zd5 (h:Only (·=p) w w'):Only (Za0 p vm vo) w w':=h.weaken λ k _ e=>.inl e
theorem Zcq {r:Mach×Int×Int}{d:Mach}{b trap:Int}{a:Nat}(e:r=(d,b,trap))(h:MAt w' B p vm vo A c inp a d)(f:Only (Za0 p vm vo) w w'):Z1i w B p vm vo A c inp r (.returned (.tuple #[.int .u32 b,.int .i64 trap])) w':=by
 subst e;exact⟨rfl,vo,a,h,f,.inl rfl⟩
theorem Z26 (op d a b imm:Int)(h:MAt w B p vm vo A c inp rd m)(ho:1<=op/\op<=36)(C:0<=d/\d<32)(ha:0<=a/\a<32)(hb:0<=b/\b<32)(d8:m.out.length<=1000000000) :
 Calls prog 126 #[.pointer (some ⟨p,0,none⟩),.agg #[.int .i64 op,.int .i64 d,.int .i64 a,.int .i64 b,.int .i64 imm]] w (Z1i w B p vm vo A c inp (m.act ⟨op,d,a,b,imm⟩)):=by
 obtain⟨s,rfl⟩:∃k:Nat,a=k:=⟨a.toNat,by omega⟩
 obtain⟨nb,rfl⟩:∃k:Nat,b=k:=⟨b.toNat,by omega⟩
 have c4:s<32:=by omega
 have d4:nb<32:=by omega
 have b2:m.act ⟨op,d,s,nb,imm⟩=m.act ⟨op,d,s,nb,imm⟩:=rfl;go_enter func126,ntmps126
 go_upto_region 1 with fail
 obtain⟨x1,x2,x3⟩:=Zg7 w #[.int .i64 op,.int .i64 d,.int .i64 s,.int .i64 nb,.int .i64 imm] 133;generalize w.alloc (.cells #[.int .i64 op,.int .i64 d,.int .i64 s,.int .i64 nb,.int .i64 imm] 133)=wb at *;have q0:wb.cell? ⟨w.heap.size,0,none⟩=some (.int .i64 op):=by rw[Zad x1];rfl
 have q1:wb.cell? ⟨w.heap.size,1,none⟩=some (.int .i64 d):=by rw[Zad x1];rfl
 have q2:wb.cell? ⟨w.heap.size,2,none⟩=some (.int .i64 s):=by rw[Zad x1];rfl
 have q3:wb.cell? ⟨w.heap.size,3,none⟩=some (.int .i64 nb):=by rw[Zad x1];rfl
 have q4:wb.cell? ⟨w.heap.size,4,none⟩=some (.int .i64 imm):=by rw[Zad x1];rfl
 have hM:=h.below x2;have gb:w.heap.size<wb.heap.size:=by omega
 have hO:Only (Za0 p vm vo) w wb:=Only.of_below x2;have U:¬Za0 p vm vo w.heap.size:=λ hf=>by have:=(h.foot_lt hf).2;omega
 have r1:=hM.reg c4;have r2:=hM.reg d4;have d5:=h.ok.word s;have c7:=h.ok.word nb;have e0:=h.ok.place0;have d7:=h.ok.place1;have a2:=hM.lt;obtain⟨_,a4,_⟩:=hM.cells;have O:=Zft (m.place+1);have o:Hid (m.rd s=m.reg.getD s 0/\m.rd nb=m.reg.getD nb 0):=Ya ⟨by simp[Mach.rd],by simp[Mach.rd]⟩;clear x1 x2 x3 b2;generalize m.reg.getD s 0=av at *;generalize m.reg.getD nb 0=bv at *;obtain⟨a0,H⟩:=d5;obtain⟨b0,b1⟩:=c7;go_wp2_with fail
 go_quiet (fail)
 go_upto_region 2 with fail
 have i:=hM.drewN nq;have n:=hO.trans (Only.drewN (F:=Za0 p vm vo) wb nq) (λ _ _ h=>h);have K:w.heap.size<(wb.drewN nq).heap.size:=gb;have f1:(wb.drewN nq).cell? ⟨w.heap.size,0,none⟩=some (.int .i64 op):=q0;have R:(wb.drewN nq).cell? ⟨w.heap.size,1,none⟩=some (.int .i64 d):=q1;have a7:(wb.drewN nq).cell? ⟨w.heap.size,4,none⟩=some (.int .i64 imm):=q4;generalize wb.drewN nq=w1 at *;clear q0 q1 q2 q3 q4 r1 r2 hM hO gb a4 O;have a2:=i.lt;have c2:=Zat (m.place+1);have c3:=Zat imm;obtain⟨i0,i1⟩:=c3;obtain⟨u0,u1⟩:=c2;go_upto_region 4 with fail
 have W:(op<=14/\bv=0/\(op=5\/op=6))\/(op<=14/\¬(bv=0/\(op=5\/op=6)))\/(15<=op/\op<=22)\/op=23\/op=24\/op=25\/(26<=op/\op<=31)\/op=32\/op=33\/op=34\/op=35\/op=36:=by omega
 rcases W with⟨y,k2,k3⟩|⟨y,k2⟩|⟨y,k2⟩|y|y|y|⟨y,k2⟩|y|y|y|y|y
 .have f:=Ya (show m.act ⟨op,d,s,nb,imm⟩=(m,0,4) by
   simp only[Mach.act,o.out.2,if_pos y,if_pos (And.intro k2 k3)])
  subst k2;go_wp2_with fail
  refine(Z5l _ _ _ k3).mono ?_;rintro e z ⟨rfl,rfl⟩;go_wp2_with fail
  go_ret2
  exact Zcq f.out i n
 .have f:=Ya (show m.act ⟨op,d,s,nb,imm⟩=(m.put d (alu op av bv),u32m (m.place+1),0) by
   simp only[Mach.act,o.out.1,o.out.2,if_pos y,if_neg k2])
  have G:=Z1h (op:=op) a0 H b0 b1 k2;have K2:=Ya k2;clear k2;go_wp2_with fail
  refine(Z5k _ _ _ _ a0 H b0 b1 ⟨ho.1,y⟩ K2.out).mono ?_;rintro e z ⟨rfl,rfl⟩;go_wp2_with fail
  refine(Zcb _ _ i C.1 C.2 G).mono ?_;rintro e N ⟨rfl,q,l⟩;go_wp2_with fail
  go_ret2
  exact Zcq f.out q (n.trans (Zd5 l) (λ _ _ h=>h))
 .have n14:¬op<=14:=by omega
  have d9:op<=23:=by omega
  have f:=Ya (show m.act ⟨op,d,s,nb,imm⟩=(m.put d (alu (like op) av (u32m imm)),u32m (m.place+1),0) by
   simp only[Mach.act,o.out.1,if_neg n14,if_pos k2])
  have G:=Z1h (op:=like op) (a:=av) (b:=u32m imm) a0 H i0 i1 (by unfold like;split <;> omega);go_wp2_with fail
  refine(Zc9 _ _).mono ?_;rintro e z ⟨rfl,rfl⟩;go_wp2_with fail
  refine(Z5m _ _ _ _ a0 H i0 i1 ⟨y,k2⟩).mono ?_;rintro e z ⟨rfl,rfl⟩;go_wp2_with fail
  refine(Zcb _ _ i C.1 C.2 G).mono ?_;rintro e N ⟨rfl,q,l⟩;go_wp2_with fail
  go_ret2
  exact Zcq f.out q (n.trans (Zd5 l) (λ _ _ h=>h))
 .subst y
  have f:=Ya (show m.act ⟨23,d,s,nb,imm⟩=(m.put d (u32m (u32m imm*65536)),u32m (m.place+1),0) by
   simp[Mach.act])
  have G:=Zat (u32m imm*65536);go_wp2_with fail
  refine(Zc9 _ _).mono ?_;rintro e z ⟨rfl,rfl⟩;go_wp2_with fail
  refine(Z5n _ _ _ i0 i1).mono ?_;rintro e z ⟨rfl,rfl⟩;go_wp2_with fail
  refine(Zcb _ _ i C.1 C.2 G).mono ?_;rintro e N ⟨rfl,q,l⟩;go_wp2_with fail
  go_ret2
  exact Zcq f.out q (n.trans (Zd5 l) (λ _ _ h=>h))
 .subst y
  have Z:=Zat (av+u32m imm);by_cases j:u32m (av+u32m imm)<m.mem.length
  .have f:=Ya (show m.act ⟨24,d,s,nb,imm⟩=(m.put d (m.mem.getD (u32m (av+u32m imm)).toNat 0),u32m (m.place+1),0) by
    simp[Mach.act,o.out.1,j])
   obtain⟨t,T⟩:∃t:Nat,u32m (av+u32m imm)=t:=⟨(u32m (av+u32m imm)).toNat,by omega⟩
   have v:decide (u32m (av+u32m imm)<m.mem.length)=true:=by simpa using j
   have Q:t<m.mem.length:=by omega
   rw[T,Yaj] at f;have Ht:=Ya T;go_wp2_with fail
   refine(Zga _ _ i ⟨a0,H⟩).mono ?_;rintro e z ⟨rfl,n2,rfl⟩;rw[v];rw[Ht.out];have u:=i.drewN n2;have D:=n.trans (Only.drewN (F:=Za0 p vm vo) w1 n2) (λ _ _ h=>h);have R:(w1.drewN n2).cell? ⟨w.heap.size,1,none⟩=some (.int .i64 d):=R;have d0:w.heap.size<(w1.drewN n2).heap.size:=K;clear j v T Z;generalize w1.drewN n2=z at *;obtain⟨g,cap,E,hg,J,_⟩:=u.memv;have c1:=J t Q;have c0:=h.ok.memw t;obtain⟨V,_⟩:=u.cells;rw[E] at V;have b7:=u.lt;clear J;generalize m.mem.getD t 0=mv at *;go_wp2_with fail
   have hE:=Zn z;refine Za5 10 1 [0,1,2,3,4,5,6,7,8,9] (by kernel_rfl) (by kernel_rfl) (λ _ _ _ _ _ h=>h) ?_
   repeat (first
    | (refine Zf7 rfl ?_;go_big_quiet_step (fail)))
   refine wpQuiet_nil ?_;rintro _ ⟨⟨w4,b4⟩,rfl⟩;simp only[List.drop_succ_cons,List.drop_zero];clear hE;have c9:=u.below b4;go_wp2_with fail
   refine(Zcb _ _ c9 C.1 C.2 c0).mono ?_;rintro e N ⟨rfl,q,l⟩;go_wp2_with fail
   go_ret2
   exact Zcq f.out q ((D.trans (Only.of_below b4) (λ _ _ h=>h)).trans (Zd5 l) (λ _ _ h=>h))
  .have f:=Ya (show m.act ⟨24,d,s,nb,imm⟩=(m,0,2) by
    simp[Mach.act,o.out.1,j])
   have v:decide (u32m (av+u32m imm)<m.mem.length)=false:=by simpa using j
   go_wp2_with fail
   refine(Zga _ _ i ⟨a0,H⟩).mono ?_;rintro e z ⟨rfl,n2,rfl⟩;rw[v];clear j v;go_wp2_with fail
   go_ret2
   exact Zcq f.out (i.drewN n2) (n.trans (Only.drewN (F:=Za0 p vm vo) w1 n2) (λ _ _ h=>h))
 .subst y
  have Z:=Zat (av+u32m imm);by_cases j:u32m (av+u32m imm)<m.mem.length
  .have f:=Ya (show m.act ⟨25,d,s,nb,imm⟩=({ m with mem:=m.mem.set (u32m (av+u32m imm)).toNat bv },u32m (m.place+1),0) by
    simp[Mach.act,o.out.1,o.out.2,j])
   obtain⟨t,T⟩:∃t:Nat,u32m (av+u32m imm)=t:=⟨(u32m (av+u32m imm)).toNat,by omega⟩
   have v:decide (u32m (av+u32m imm)<m.mem.length)=true:=by simpa using j
   have Q:t<m.mem.length:=by omega
   rw[T,Yaj] at f;have Ht:=Ya T;go_wp2_with fail
   refine(Zga _ _ i ⟨a0,H⟩).mono ?_;rintro e z ⟨rfl,n2,rfl⟩;rw[v];rw[Ht.out];have u:=i.drewN n2;have D:=n.trans (Only.drewN (F:=Za0 p vm vo) w1 n2) (λ _ _ h=>h);clear j v T Z;generalize w1.drewN n2=z at *;obtain⟨g,cap,E,hg,J,a3⟩:=u.memv;have c1:=J t Q;have e3:=a3 t;have hS:=u.sw E ⟨b0,b1⟩ Q;obtain⟨V,_⟩:=u.cells;have b9:=Ya E;rw[E] at V;have b7:=u.lt;have HS:=Ya hS;clear J hS E a3;go_wp2_with fail
   go_ret2
   exact Zcq f.out HS.out (D.trans (Only.setCell _ (show Za0 p vm vo g from .inr (.inl (by rw[b9.out];rfl))) _) (λ _ _ h=>h))
  .have f:=Ya (show m.act ⟨25,d,s,nb,imm⟩=(m,0,2) by
    simp[Mach.act,o.out.1,j])
   have v:decide (u32m (av+u32m imm)<m.mem.length)=false:=by simpa using j
   go_wp2_with fail
   refine(Zga _ _ i ⟨a0,H⟩).mono ?_;rintro e z ⟨rfl,n2,rfl⟩;rw[v];clear j v;go_wp2_with fail
   go_ret2
   exact Zcq f.out (i.drewN n2) (n.trans (Only.drewN (F:=Za0 p vm vo) w1 n2) (λ _ _ h=>h))
 .have n14:¬op<=14:=by omega
  have b6:¬op<=22:=by omega
  have e8:¬op<=23:=by omega
  have P:¬op=23:=by omega
  have L:¬op=24:=by omega
  have M:¬op=25:=by omega
  have d24:=Zmk L;have d25:=Zmk M
  cases hg:goes op av bv
  .have f:=Ya (show m.act ⟨op,d,s,nb,imm⟩=(m,u32m (m.place+1),0) by
    simp[Mach.act,o.out.1,o.out.2,n14,b6,P,L,M,k2,hg])
   have Hg:=Ya hg;clear hg P L M;go_wp2_with fail
   refine(Zom _ _ _ _ a0 H b0 b1).mono ?_;rintro e z ⟨rfl,rfl⟩;rw[Hg.out];go_wp2_with fail
   go_ret2
   exact Zcq f.out i n
  .have f:=Ya (show m.act ⟨op,d,s,nb,imm⟩=(m,u32m (u32m (m.place+1)+u32m imm),0) by
    simp[Mach.act,o.out.1,o.out.2,n14,b6,P,L,M,k2,hg])
   have Hg:=Ya hg;have O:=Zft (u32m (m.place+1)+u32m imm);clear hg P L M;go_wp2_with fail
   refine(Zom _ _ _ _ a0 H b0 b1).mono ?_;rintro e z ⟨rfl,rfl⟩;rw[Hg.out];go_wp2_with fail
   refine(Zc9 _ _).mono ?_;rintro e z ⟨rfl,rfl⟩;go_wp2_with fail
   go_ret2
   exact Zcq f.out i n
 .subst y
  have f:=Ya (show m.act ⟨32,d,s,nb,imm⟩=(m.put d (u32m (m.place+1)),u32m (u32m (m.place+1)+u32m imm),0) by
   simp[Mach.act])
  have O:=Zft (u32m (m.place+1)+u32m imm);go_wp2_with fail
  refine(Zcb _ _ i C.1 C.2 ⟨u0,u1⟩).mono ?_;rintro e N ⟨rfl,q,l⟩;have q4:=(l.cell K (λ e=>U (.inl e)) 4).trans a7;have c6:w.heap.size<N.heap.size:=by have:=l.size;omega
  go_wp2_with fail
  refine(Zc9 _ _).mono ?_;rintro e z ⟨rfl,rfl⟩;go_wp2_with fail
  go_ret2
  exact Zcq f.out q (n.trans (Zd5 l) (λ _ _ h=>h))
 .subst y
  have f:=Ya (show m.act ⟨33,d,s,nb,imm⟩=(m.put d (u32m (m.place+1)),u32m (av+u32m imm),0) by
   simp[Mach.act,o.out.1])
  have O:=Zft (av+u32m imm);go_wp2_with fail
  refine(Zcb _ _ i C.1 C.2 ⟨u0,u1⟩).mono ?_;rintro e N ⟨rfl,q,l⟩;have q4:=(l.cell K (λ e=>U (.inl e)) 4).trans a7;have c6:w.heap.size<N.heap.size:=by have:=l.size;omega
  go_wp2_with fail
  refine(Zc9 _ _).mono ?_;rintro e z ⟨rfl,rfl⟩;go_wp2_with fail
  go_ret2
  exact Zcq f.out q (n.trans (Zd5 l) (λ _ _ h=>h))
 .subst y
  cases j:m.input with
  | nil =>
   have f:=Ya (show m.act ⟨34,d,s,nb,imm⟩=(m.put d 4294967295,u32m (m.place+1),0) by
    simp[Mach.act,j])
   have Y:=Ya j;clear j;have X:=i.drew;have b3:=n.trans (Only.drew (F:=Za0 p vm vo) w1) (λ _ _ h=>h);have d1:(0:Int)<=4294967295/\(4294967295:Int)<=4294967295:=by decide
   go_upto_region 32 with fail
   go_region_with (first
    | (go_at_call 202;refine(Zkg X Y.out).mono ?_;rintro e z ⟨rfl,n2,rfl⟩)
    | (go_at_call 41;refine(Zcb _ _ (i.drewN _) C.1 C.2 d1).mono ?_;rintro e N ⟨rfl,q,l⟩))
   all_goals
    go_wp2_with fail
    go_ret2
    exact Zcq f.out q ((n.trans (Only.drewN (F:=Za0 p vm vo) w1 _) (λ _ _ h=>h)).trans (Zd5 l) (λ _ _ h=>h))
  | cons x r =>
   have f:=Ya (show m.act ⟨34,d,s,nb,imm⟩=(({ m with input:=r }:Mach).put d x,u32m (m.place+1),0) by
    simp[Mach.act,j])
   have Y:=Ya j;have b8:0<=x/\x<=4294967295:=by have:=h.ok.inp x (by rw[j];exact Yv ..);omega
   clear j;have X:=i.drew;have b3:=n.trans (Only.drew (F:=Za0 p vm vo) w1) (λ _ _ h=>h);go_upto_region 32 with fail
   go_region_with (first
    | (go_at_call 202;refine(Zkh X Y.out).mono ?_;rintro e z ⟨rfl,u,D⟩;have f0:z.cell? ⟨w.heap.size,1,none⟩=some (.int .i64 d):=(D.cell (show w.heap.size<w1.drew.heap.size from K) (λ e=>U (.inl e)) 1).trans R;have d0:w.heap.size<z.heap.size:=Nat.lt_of_lt_of_le K D.size)
    | (go_at_call 41;refine(Zcb _ _ u C.1 C.2 b8).mono ?_;rintro e N ⟨rfl,q,l⟩))
   all_goals
    go_wp2_with fail
    go_ret2
    exact Zcq f.out q ((b3.trans (Zd5 D) (λ _ _ h=>h)).trans (Zd5 l) (λ _ _ h=>h))
 .subst y
  have f:=Ya (show m.act ⟨35,d,s,nb,imm⟩=({ m with out:=m.out++[av%256] },u32m (m.place+1),0) by
   simp[Mach.act,o.out.1])
  have e7:IntKind.u8.wrap av=av%256:=by simp[Yc8,Ybu,Ycc]
  have c8:0<=av%256/\av%256<=255:=by omega
  have a8:=i.out;obtain⟨_,_,_,_,d3,_⟩:=i.cells;have f36:=i.fz 36;have d6:=i.low;have a5:=i.d2.2;generalize av%256=xv at *;go_wp2_with (at_builtin;go_loud (refine Zm rfl (.tmp 181) (.tmp 184) _ rfl B 5 Zzu underlying46 rfl (by decide) #[.int .u8 xv] _ _ _ rfl a8 rfl rfl rfl (by simp[Value.oneCell']) (by simp only[maxLen];omega) (by omega) (by omega) ?_);intro v' w5 a6 I e9 a9;obtain⟨A5,c5,rfl⟩:=Zc a6;go_loud (have e1:w5.cell? ⟨p,36,none⟩=some vo:=(Yau (w:=w1) (a:=⟨p,36,none⟩) (I.block p a2 (λ e=>a5 e.symm))).trans d3);go_loud (have e6:w5.frozen? ⟨p,36,none⟩=false:=(World.frozen?_of_block (w:=w1) (a:=⟨p,36,none⟩) (I.block p a2 (λ e=>a5 e.symm))).trans f36);go_loud (have e2:p<w5.heap.size:=by have:=I.size;omega))
  go_ret2
  have b5:(Ybb A5 (m.out.length+1) c5).ownBlock=vo.ownBlock\/∃k,w1.heap.size<=k/\(Ybb A5 (m.out.length+1) c5).ownBlock=some k:=by
   rcases a9 with e|e
   .exact .inl e
   .exact .inr ⟨_,by omega,e⟩
  have hT:=i.told c8 a6 I b5;rw[f.out];refine⟨rfl,_,rd,hT,n.trans ((Only.of_grown (F:=Za0 p vm vo) I (λ k e=>.inr (.inr e))).trans (Only.setCell (F:=Za0 p vm vo) _ (.inl rfl) _) (λ _ _ h=>h)) (λ _ _ h=>h),?_⟩;rcases b5 with e|⟨k,hk,e⟩
  .exact .inl e
  .exact .inr ⟨k,by have:=n.size;omega,e⟩
 .subst y
  have f:=Ya (show m.act ⟨36,d,s,nb,imm⟩=({ m with state:=1,code:=av },m.place,0) by
   simp[Mach.act,o.out.1])
  have hH:=i.halted (a:=av) ⟨a0,H⟩;have HH:=Ya hH;obtain⟨_,a4,_,_,_,e4,e5,_,_⟩:=i.cells;have f37:=i.fz 37;have f38:=i.fz 38;clear hH;go_wp2_with fail
  go_ret2
  exact Zcq f.out HH.out (n.trans ((Only.setCell (F:=Za0 p vm vo) _ (.inl rfl) _).trans (Only.setCell (F:=Za0 p vm vo) _ (.inl rfl) _) (λ _ _ h=>h)) (λ _ _ h=>h))
end
end
