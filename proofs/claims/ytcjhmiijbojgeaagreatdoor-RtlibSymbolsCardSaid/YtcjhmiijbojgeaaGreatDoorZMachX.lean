/- Parts. -/
import Derived.Test.YtcjhmiijbojgeaaGreatDoorZMachW
import Derived.Laws.CopyOwn
set_option linter.all false
set_option maxHeartbeats 8000000
open Go.Lib renaming hid->Ya
open Nat renaming le_refl->Yc,zero_add->Y2
open Go.Value renaming int->Yu
open List renaming replicate->Y6,length_map->Y8,nil_append->Yae,take_zero->Yaj,set_cons_zero->Ycc,setIfInBounds_toArray->Ycp,set_cons_succ->Ycw,getElem_cons_succ->Ycy,getElem_cons_zero->Ycz,getElem_toArray->Yc8
namespace Go.Proofs.YtcjhmiijbojgeaaGreatDoor
open S Go.Proofs.Tryz Go.RowKit
set_option maxRecDepth 100000
theorem Reads.moreM {w:World}{B B':Nat}{A:Option Addr}{xs:List Value}(h:Reads w B A xs)(hB:B<=B'):Reads w B' A xs:=λ hp=>by
 obtain⟨b,off,e,hb,a⟩:=h hp;exact⟨b,off,e,by omega,a⟩
theorem MAt.copied {w:World}{B p:Nat}{l t:Value}{A:Option Addr}{c:Nat}{inp:List Int}{rd:Nat}{m:Mach}(h:MAt w B p l t A c inp rd m){g cap:Nat}(i:l=.slice (some ⟨g,0,none⟩) m.mem.length cap){d:Array Value}(hg:w.heap[g]?=some (.cells d 31 (0,0)))
 {L:List Int} (hL:L.length<=m.mem.length) (y:∀x∈L,0<=x/\x<=4294967295) :
 MAt (w.setRow g (d.toList.take 0++(L.map (Yu .u32)++d.toList.drop (0+(L.map (Yu .u32)).length))).toArray) B p l t A c inp rd { m with mem:=L++m.mem.drop L.length }:=by
 obtain⟨v,u⟩:=h.mem_ne (k:=g) (by rw[i];rfl);have a:∀j,j≠g->(w.setRow g (d.toList.take 0++(L.map (Yu .u32)++d.toList.drop (0+(L.map (Yu .u32)).length))).toArray).heap[j]?=w.heap[j]?:=λ j f=>setRow_other w g j _ f
 refine⟨⟨h.ok.regs,h.ok.word,h.ok.zero,by have:=h.ok.mem;simp;omega,λ j=>?_,h.ok.place0,h.ok.place1,h.ok.inp,h.ok.outp,h.ok.code0,h.ok.code1⟩,h.low,?_,?_,?_,?_,h.left,h.rdle,h.inl,by have:=h.low0;simp;omega,λ b o s e=>by have:=h.la b o s e;simpa using this,h.d1,h.d2⟩
 .show 0<=(L++m.mem.drop L.length).getD j 0/\(L++m.mem.drop L.length).getD j 0<=4294967295
  by_cases f:j<L.length
  .have e:(L++m.mem.drop L.length).getD j 0=L[j]:=by simp[List.getElem?_append_left f,List.getElem?_eq_getElem f]
   rw[e];exact y _ (List.getElem_mem _)
  .have e:(L++m.mem.drop L.length).getD j 0=m.mem.getD j 0:=by
    simp only[List.getD_eq_getElem?_getD];rw[List.getElem?_append_right (by omega),List.getElem?_drop,show L.length+(j-L.length)=j by omega]
   rw[e];exact h.ok.memw j
 .obtain⟨cs,h1,h2⟩:=h.blk
  exact⟨cs,by rw[a p (Ne.symm v)];exact h1,h2⟩
 .rcases h.mem.2 with⟨e,_⟩|⟨g',cap',cur',e,h3,h4,h5,h6,h7,h8⟩
  .rw[i] at e;cases e
  .rw[i] at e
   injection e with e1 r e3
   injection e1 with e1
   injection e1 with e1
   subst e1 e3;rw[hg] at h4
   injection h4 with h4
   injection h4 with h4 _ _
   subst h4;have n:(L++m.mem.drop L.length).length=m.mem.length:=by simp;omega
   refine⟨by simp,.inr ⟨g,cap,_,by rw[i,n],h3,setRow_heap w g d _ _ _ hg,by rw[n];exact h5,h6,?_,?_⟩⟩
   .simp;omega
   .simp only[Yaj,Yae,Nat.mul_one] at h8⊢
    rw[n,List.take_append,List.take_of_length_le (by simp;omega),List.map_append,List.map_drop,<- h8,Y8,Y2,List.drop_take]
 .exact Zae h.out λ j f=>a j λ e=>u (e ▸ f)
 .exact h.rin.same (by simp) λ q o s e=>a q λ r=>(h.d1 q o s e).2.1 (by rw[r,i];rfl)
theorem Z4s {w a:World}{n g c:Nat}{A:Option Addr}{I:List Int}(t:1<=n)(r:n<=335544320)(l:∀x∈I,0<=x/\x<=255)(m:I.length<=1000000)(i:Below w.heap.size w a)
 (hg:a.ownsRow w.heap.size 31 1 (.slice (some ⟨g,0,none⟩) n n) n (Y6 n (Yu .u32 0))) (hA:a.ownsRow w.heap.size 5 1 (.slice A I.length c) I.length (I.map (Yu .u8))) :
 MAt (a.alloc (.cells #[.int .u32 0,.int .u32 0,.int .u32 0,.int .u32 0,.int .u32 0,.int .u32 0,.int .u32 0,.int .u32 0,.int .u32 0,.int .u32 0,.int .u32 0,.int .u32 0,.int .u32 0,.int .u32 0,.int .u32 0,.int .u32 0,.int .u32 0,.int .u32 0,.int .u32 0,.int .u32 0,.int .u32 0,.int .u32 0,.int .u32 0,.int .u32 0,.int .u32 0,.int .u32 0,.int .u32 0,.int .u32 0,.int .u32 0,.int .u32 0,.int .u32 0,.int .u32 0,.slice (some ⟨g,0,none⟩) n n,.int .u32 0,.slice A I.length c,.int .i64 0,.slice none 0 0,.int .i64 0,.int .u32 0,.int .i64 0,.int .i64 0] 55)) w.heap.size a.heap.size (.slice (some ⟨g,0,none⟩) n n) (.slice none 0 0) A c I 0 (Zkc [] n I)/\Below w.heap.size w (a.alloc (.cells #[.int .u32 0,.int .u32 0,.int .u32 0,.int .u32 0,.int .u32 0,.int .u32 0,.int .u32 0,.int .u32 0,.int .u32 0,.int .u32 0,.int .u32 0,.int .u32 0,.int .u32 0,.int .u32 0,.int .u32 0,.int .u32 0,.int .u32 0,.int .u32 0,.int .u32 0,.int .u32 0,.int .u32 0,.int .u32 0,.int .u32 0,.int .u32 0,.int .u32 0,.int .u32 0,.int .u32 0,.int .u32 0,.int .u32 0,.int .u32 0,.int .u32 0,.int .u32 0,.slice (some ⟨g,0,none⟩) n n,.int .u32 0,.slice A I.length c,.int .i64 0,.slice none 0 0,.int .i64 0,.int .u32 0,.int .i64 0,.int .i64 0] 55))/\(∀b o s,A=some ⟨b,o,s⟩->w.heap.size<=b):=by
 obtain⟨u,j,x3⟩:=Zf9 a #[.int .u32 0,.int .u32 0,.int .u32 0,.int .u32 0,.int .u32 0,.int .u32 0,.int .u32 0,.int .u32 0,.int .u32 0,.int .u32 0,.int .u32 0,.int .u32 0,.int .u32 0,.int .u32 0,.int .u32 0,.int .u32 0,.int .u32 0,.int .u32 0,.int .u32 0,.int .u32 0,.int .u32 0,.int .u32 0,.int .u32 0,.int .u32 0,.int .u32 0,.int .u32 0,.int .u32 0,.int .u32 0,.int .u32 0,.int .u32 0,.int .u32 0,.int .u32 0,.slice (some ⟨g,0,none⟩) n n,.int .u32 0,.slice A I.length c,.int .i64 0,.slice none 0 0,.int .i64 0,.int .u32 0,.int .i64 0,.int .i64 0] 55;have v:=hg.lt g rfl;have f:∀b o s,A=some ⟨b,o,s⟩->w.heap.size<=b/\b<a.heap.size:=λ b o s e=>hA.lt b (by rw[e];rfl)
 have d:(Zkc [] n I).mem=Y6 n 0:=by simp[Zkc]
 have h:=Zow hA hg (by decide);refine⟨⟨Zur t (by simp) (λ x p=>by cases p) l,i.size,⟨_,u,rfl⟩,?_,World.ownsRow_nil _ _ _ _,?_,by simp[Zkc],Nat.zero_le _,by omega,by rw[d];simp;omega,λ b o s e=>by have:=f b o s e;omega,λ b o s e=>?_,?_⟩,i.trans (j.mono i.size),λ b o s e=>(f b o s e).1⟩
 .rw[d,List.map_replicate,List.length_replicate]
  exact Zc hg j
 .exact Reads.of_own (Zc hA j)
 .have h1:=f b o s e
  refine⟨by omega,λ q=>?_,λ q=>by cases q⟩;have k:g=b:=by injection q
  subst k;rcases h with q|q
  .rw[e] at q;cases q
  .exact q (by rw[e];rfl)
 .refine⟨λ q=>?_,λ q=>by cases q⟩
  have k:g=a.heap.size:=by injection q
  omega
theorem Zmq:(prog.info? 31).map (·.size)=some 1:=by kernel_rfl
theorem Zkd (n:Nat):(madeCells (Yu .u32 0).cells (n*1)).toList=Y6 n (Yu .u32 0):=by
 rw[Nat.mul_one];exact toList_madeCells_one _ n
def Zp6 (w:World)(n:Nat)(size:Int)(I:List Int)(m:Mach)(e:Ending)(w':World):Prop :=
 (¬Zh8 n size/\e=.returned (.tuple #[.pointer none,.int .i64 2])/\w=w') \/
 (Zh8 n size/\∃p vm A c,e=.returned (.tuple #[.pointer (some ⟨p,0,none⟩),.int .i64 0])/\MAt w' w.heap.size p vm (.slice none 0 0) A c I 0 m/\Below w.heap.size w w'/\∀b o s,A=some ⟨b,o,s⟩->w.heap.size<=b)
theorem Zyf (Aw Ai:Option Addr)(cw ci:Nat)(L I:List Int)(size:Int)(w:World)(hL:Reads w w.heap.size Aw (L.map (Yu .u32)))(hI:Reads w w.heap.size Ai (I.map (Yu .u8)))(hl:L.length<=300000000)(W:I.length<=1000000)
 (H:∀x∈L,0<=x/\x<=4294967295) (V:∀x∈I,0<=x/\x<=255) :
 Calls prog 54 #[.slice Aw L.length cw,.int .i64 size,.slice Ai I.length ci] w (Zp6 w L.length size I (Zkc L size.toNat I)):=by
 have a8:=Ya H;have R:=Ya V;clear H V;by_cases h1:size<1
 .have Hn:=Ya (show ¬Zh8 L.length size from λ q=>by have:=q.1;omega)
  go_enter func54,ntmps54
  go_wp2_with fail
  go_ret2
  exact .inl ⟨Hn.out,rfl,rfl⟩
 by_cases h2:335544320<size
 .have Hn:=Ya (show ¬Zh8 L.length size from λ q=>by have:=q.2.1;omega)
  go_enter func54,ntmps54
  go_wp2_with fail
  go_ret2
  exact .inl ⟨Hn.out,rfl,rfl⟩
 by_cases h3:size<L.length
 .have Hn:=Ya (show ¬Zh8 L.length size from λ q=>by have:=q.2.2;omega)
  go_enter func54,ntmps54
  go_wp2_with fail
  go_ret2
  exact .inl ⟨Hn.out,rfl,rfl⟩
 obtain⟨n,rfl⟩:∃n:Nat,size=n:=⟨size.toNat,by omega⟩
 have G:=Ya (show Zh8 L.length n from⟨by omega,by omega,by omega⟩);have HL:=Ya hL;have U:1<=n:=by omega
 have T:n<=335544320:=by omega
 have a5:L.length<=n:=by omega
 go_enter func54,ntmps54
 go_upto_region 3 with fail
 go_cut [8] (λ v8 wc=>∃p g A c,v8=.pointer (some ⟨p,0,none⟩)/\MAt wc w.heap.size p (.slice (some ⟨g,0,none⟩) n n) (.slice none 0 0) A c I 0 (Zkc [] n I)/\Below w.heap.size w wc/\∀b o s,A=some ⟨b,o,s⟩->w.heap.size<=b)
 case first =>
  have D:Below w.heap.size w w.drew:=(Below.refl _ _).drew;obtain⟨ti,J,X,Y,u⟩:=info_parts (Zup)
  go_region_with (first
   | (go_at_call 94;refine(Zh7 Ai ci I w.drew hI (by omega)).mono ?_;rintro e N ⟨M,c2,rfl,F,O⟩)
   | (go_at_call 94;have a:Below w.heap.size w z:=D.grown i (Yc _) (λ k e=>by cases e);refine(Zh7 Ai ci I z ((hI.below a).moreM a.size) (by omega)).mono ?_;rintro e w5 ⟨A5,c5,rfl,a2,B⟩)
   | (obtain⟨z,d,m,i⟩:=run_make_full (P:=prog) N N.heap.size 28 31 ti _ 1 underlying28 J X Y .i64 .i64 n (by rw[u];omega) (by simp only[maxLen];omega) (Yc _);simp only[d];clear u)
   | (obtain⟨z,d,m,i⟩:=run_make_full (P:=prog) w.drew w.drew.heap.size 28 31 ti _ 1 underlying28 J X Y .i64 .i64 n (by rw[u];omega) (by simp only[maxLen];omega) (Yc _);simp only[d];clear u))
  .simp only[Yc8,Ycy,Ycz,Act.put,Ycp,Ycw,Ycc]
   have a:Below w.heap.size w z:=D.grown i (Yc _) (λ k e=>by cases e);have K:Below w.heap.size w w5:=a.trans (B.mono a.size);have f:w5.ownsRow w.heap.size 31 1 (.slice (some ⟨w.heap.size,0,none⟩) n n) n (Y6 n (Yu .u32 0)):=by
    have h:=Zc m B
    rwa[Zkd] at h
   have hZ:=Ya (Z4s (w:=w) U T R.out W K f (Zo a2 a.size));clear d m i a2 B a K f;go_wp2_with fail
   go_meet
   refine⟨w5.heap.size,w.heap.size,A5,c5,by kernel_rfl,?_⟩
   with_reducible exact hZ.out
  .simp only[Yc8,Ycy,Ycz,Act.put,Ycp,Ycw,Ycc]
   have l:Below w.heap.size w N:=D.trans O;have a:Below w.heap.size w z:=l.grown i l.size (λ k e=>by cases e);have f:z.ownsRow w.heap.size 31 1 (.slice (some ⟨N.heap.size,0,none⟩) n n) n (Y6 n (Yu .u32 0)):=by
    have h:=Zo m l.size
    rwa[Zkd] at h
   have Z:z.ownsRow w.heap.size 5 1 (.slice M I.length c2) I.length (I.map (Yu .u8)):=Zae (Zo F (Yc _)) λ k hk=>i.block k (F.lt k hk).2 (λ e=>by cases e)
   have hZ:=Ya (Z4s (w:=w) U T R.out W a f Z);clear d m i F O l a f Z;go_wp2_with fail
   go_meet
   refine⟨z.heap.size,N.heap.size,M,c2,by kernel_rfl,?_⟩
   with_reducible exact hZ.out
 case rest =>
 obtain⟨p,g,M,c2,rfl,hM,C,a0⟩:=hcut;have r:(Zkc [] n I).mem.length=n:=by simp[Zkc]
 obtain⟨b3,_⟩:=hM.cells;have b5:=hM.lt;have E:=hM.mem;rw[r] at E;obtain⟨t,a4,b4⟩:∃t,wc.heap[g]?=some (.cells t 31 (0,0))/\n<=t.size:=by
  rcases E.2 with⟨e,_⟩|⟨g',b2,a1,e,h3,h4,h5,h6,h7,h8⟩
  .cases e
  .injection e with e1 e2 e3
   injection e1 with e1
   injection e1 with e1
   subst e1;exact⟨a1,h4,by omega⟩
 have a6:=HL.out.below C;have HM:=Ya hM;have b1:=Ya a6;have y:Zkc L n I={ Zkc [] n I with mem:=L++(Zkc [] n I).mem.drop L.length }:=by
  simp[Zkc]
 have a3:=Ya y;have Hb:=Ya C;have Q:=Ya a0;clear hM a6 E y C a0;by_cases hz:L.length=0
 .have hnil:L=[]:=List.eq_nil_of_length_eq_zero hz
  subst hnil;go_wp2_with (refine wpList_copy_nothing (o:=⟨some 32,_,_,_,_,_⟩) rfl (.tmp 30) (.tmp 31) _ _ rfl 31 underlying28 Zmq (some ⟨g,0,none⟩) Aw n n 0 cw rfl rfl (by simp) ?_)
  go_ret2
  refine .inr ⟨G.out,p,.slice (some ⟨g,0,none⟩) n n,M,c2,rfl,?_,Hb.out,Q.out⟩;exact HM.out
 .obtain⟨bL,oL,e,hbL,hcL⟩:=b1.out (by simp;omega)
  subst e;have a9:=Ya hcL;have b0:=Ya (HM.out.copied (g:=g) (cap:=n) (by rw[r]) a4 (L:=L) (by rw[r];exact a5) a8.out);have a7:=Ya (HM.out.foot_lt (show Zal p (.slice (some ⟨g,0,none⟩) n n) (.slice none 0 0) g from .inr (.inl rfl))).1;clear hcL;go_wp2_with (refine wpList_copy_own (o:=⟨some 32,_,_,_,_,_⟩) rfl (.tmp 30) (.tmp 31) _ _ rfl 31 underlying28 Zmq g 0 n n ⟨bL,oL,none⟩ L.length cw rfl rfl t 31 a4 (L.map (Yu .u32)) (by rw[Y8];exact(Nat.min_eq_left a5).symm) (λ j v hj=>(by rw[Addr.add_mk];exact a9.out j v hj)) (by rw[Y8];omega) (by simp[Value.oneCell']) ?_)
  go_ret2
  refine .inr ⟨G.out,p,.slice (some ⟨g,0,none⟩) n n,M,c2,rfl,?_,?_,Q.out⟩
  .rw[a3.out]
   have hc:=b0.out;rw[Yaj,Yae,Y2,Y8] at hc;exact hc
  .exact below_setRow Hb.out a7.out _
