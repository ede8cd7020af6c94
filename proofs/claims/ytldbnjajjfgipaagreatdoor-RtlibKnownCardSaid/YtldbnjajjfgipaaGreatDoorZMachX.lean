/- Parts. -/
import Derived.Test.YtldbnjajjfgipaaGreatDoorZMachW
import Derived.Laws.CopyOwn
set_option linter.all false
set_option maxHeartbeats 8000000
open Go.Lib renaming hid->Ya
open Nat renaming le_refl->Yd,zero_add->Yw
open Go.Value renaming int->Ys
open List renaming replicate->Y1,length_map->Y3,nil_append->Yag,take_zero->Yaz,setIfInBounds_toArray->Ycc,set_cons_succ->Ycn,set_cons_zero->Yco,getElem_cons_succ->Ycq,getElem_cons_zero->Ycr,getElem_toArray->Yc4
namespace Go.Proofs.YtldbnjajjfgipaaGreatDoor
open S Go.Proofs.Tryz Go.RowKit
set_option maxRecDepth 100000
theorem Reads.moreM {w:World}{B B':Nat}{A:Option Addr}{xs:List Value}(h:Reads w B A xs)(hB:B<=B'):Reads w B' A xs:=λ hp=>by
 obtain⟨b,off,e,hb,hc⟩:=h hp;exact⟨b,off,e,by omega,hc⟩
theorem MAt.copied {w:World}{B p:Nat}{vm vo:Value}{A:Option Addr}{c:Nat}{inp:List Int}{rd:Nat}{m:Mach}(h:MAt w B p vm vo A c inp rd m){g cap:Nat}(hv:vm=.slice (some ⟨g,0,none⟩) m.mem.length cap){cur:Array Value}(hg:w.heap[g]?=some (.cells cur 31 (0,0)))
 {L:List Int} (hL:L.length<=m.mem.length) (hw:∀x∈L,0<=x/\x<=4294967295) :
 MAt (w.setRow g (cur.toList.take 0++(L.map (Ys .u32)++cur.toList.drop (0+(L.map (Ys .u32)).length))).toArray) B p vm vo A c inp rd { m with mem:=L++m.mem.drop L.length }:=by
 obtain⟨n1,n2⟩:=h.mem_ne (k:=g) (by rw[hv];rfl);have hsame:∀j,j≠g->(w.setRow g (cur.toList.take 0++(L.map (Ys .u32)++cur.toList.drop (0+(L.map (Ys .u32)).length))).toArray).heap[j]?=w.heap[j]?:=λ j hj=>setRow_other w g j _ hj
 refine⟨⟨h.ok.regs,h.ok.word,h.ok.zero,by have:=h.ok.mem;simp;omega,λ j=>?_,h.ok.place0,h.ok.place1,h.ok.inp,h.ok.outp,h.ok.code0,h.ok.code1⟩,h.low,?_,?_,?_,?_,h.left,h.rdle,h.inl,by have:=h.low0;simp;omega,λ b o s e=>by have:=h.la b o s e;simpa using this,h.d1,h.d2⟩
 .show 0<=(L++m.mem.drop L.length).getD j 0/\(L++m.mem.drop L.length).getD j 0<=4294967295
  by_cases hj:j<L.length
  .have e:(L++m.mem.drop L.length).getD j 0=L[j]:=by simp[List.getElem?_append_left hj,List.getElem?_eq_getElem hj]
   rw[e];exact hw _ (List.getElem_mem _)
  .have e:(L++m.mem.drop L.length).getD j 0=m.mem.getD j 0:=by
    simp only[List.getD_eq_getElem?_getD];rw[List.getElem?_append_right (by omega),List.getElem?_drop,show L.length+(j-L.length)=j by omega]
   rw[e];exact h.ok.memw j
 .obtain⟨cs,h1,h2⟩:=h.blk
  exact⟨cs,by rw[hsame p (Ne.symm n1)];exact h1,h2⟩
 .rcases h.mem.2 with⟨e,_⟩|⟨g',cap',cur',e,h3,h4,h5,h6,h7,h8⟩
  .rw[hv] at e;cases e
  .rw[hv] at e
   injection e with e1 e2 e3
   injection e1 with e1
   injection e1 with e1
   subst e1 e3;rw[hg] at h4
   injection h4 with h4
   injection h4 with h4 _ _
   subst h4;have hl:(L++m.mem.drop L.length).length=m.mem.length:=by simp;omega
   refine⟨by simp,.inr ⟨g,cap,_,by rw[hv,hl],h3,setRow_heap w g cur _ _ _ hg,by rw[hl];exact h5,h6,?_,?_⟩⟩
   .simp;omega
   .simp only[Yaz,Yag,Nat.mul_one] at h8⊢
    rw[hl,List.take_append,List.take_of_length_le (by simp;omega),List.map_append,List.map_drop,<- h8,Y3,Yw,List.drop_take]
 .exact Zac h.out λ j hj=>hsame j λ e=>n2 (e ▸ hj)
 .exact h.rin.same (by simp) λ b' o s e=>hsame b' λ e2=>(h.d1 b' o s e).2.1 (by rw[e2,hv];rfl)
theorem Z09 {w wz:World}{n g c:Nat}{A:Option Addr}{I:List Int}(hn:1<=n)(hn2:n<=335544320)(hI:∀x∈I,0<=x/\x<=255)(hil:I.length<=1000000)(hb:Below w.heap.size w wz)
 (hg:wz.ownsRow w.heap.size 31 1 (.slice (some ⟨g,0,none⟩) n n) n (Y1 n (Ys .u32 0))) (hA:wz.ownsRow w.heap.size 5 1 (.slice A I.length c) I.length (I.map (Ys .u8))) :
 MAt (wz.alloc (.cells #[.int .u32 0,.int .u32 0,.int .u32 0,.int .u32 0,.int .u32 0,.int .u32 0,.int .u32 0,.int .u32 0,.int .u32 0,.int .u32 0,.int .u32 0,.int .u32 0,.int .u32 0,.int .u32 0,.int .u32 0,.int .u32 0,.int .u32 0,.int .u32 0,.int .u32 0,.int .u32 0,.int .u32 0,.int .u32 0,.int .u32 0,.int .u32 0,.int .u32 0,.int .u32 0,.int .u32 0,.int .u32 0,.int .u32 0,.int .u32 0,.int .u32 0,.int .u32 0,.slice (some ⟨g,0,none⟩) n n,.int .u32 0,.slice A I.length c,.int .i64 0,.slice none 0 0,.int .i64 0,.int .u32 0,.int .i64 0,.int .i64 0] 86)) w.heap.size wz.heap.size (.slice (some ⟨g,0,none⟩) n n) (.slice none 0 0) A c I 0 (Zh9 [] n I)/\Below w.heap.size w (wz.alloc (.cells #[.int .u32 0,.int .u32 0,.int .u32 0,.int .u32 0,.int .u32 0,.int .u32 0,.int .u32 0,.int .u32 0,.int .u32 0,.int .u32 0,.int .u32 0,.int .u32 0,.int .u32 0,.int .u32 0,.int .u32 0,.int .u32 0,.int .u32 0,.int .u32 0,.int .u32 0,.int .u32 0,.int .u32 0,.int .u32 0,.int .u32 0,.int .u32 0,.int .u32 0,.int .u32 0,.int .u32 0,.int .u32 0,.int .u32 0,.int .u32 0,.int .u32 0,.int .u32 0,.slice (some ⟨g,0,none⟩) n n,.int .u32 0,.slice A I.length c,.int .i64 0,.slice none 0 0,.int .i64 0,.int .u32 0,.int .i64 0,.int .i64 0] 86))/\(∀b o s,A=some ⟨b,o,s⟩->w.heap.size<=b):=by
 obtain⟨x1,x2,x3⟩:=Zff wz #[.int .u32 0,.int .u32 0,.int .u32 0,.int .u32 0,.int .u32 0,.int .u32 0,.int .u32 0,.int .u32 0,.int .u32 0,.int .u32 0,.int .u32 0,.int .u32 0,.int .u32 0,.int .u32 0,.int .u32 0,.int .u32 0,.int .u32 0,.int .u32 0,.int .u32 0,.int .u32 0,.int .u32 0,.int .u32 0,.int .u32 0,.int .u32 0,.int .u32 0,.int .u32 0,.int .u32 0,.int .u32 0,.int .u32 0,.int .u32 0,.int .u32 0,.int .u32 0,.slice (some ⟨g,0,none⟩) n n,.int .u32 0,.slice A I.length c,.int .i64 0,.slice none 0 0,.int .i64 0,.int .u32 0,.int .i64 0,.int .i64 0] 86;have hgl:=hg.lt g rfl;have hAl:∀b o s,A=some ⟨b,o,s⟩->w.heap.size<=b/\b<wz.heap.size:=λ b o s e=>hA.lt b (by rw[e];rfl)
 have hmem:(Zh9 [] n I).mem=Y1 n 0:=by simp[Zh9]
 have hne:=Znf hA hg (by decide);refine⟨⟨Zso hn (by simp) (λ x hx=>by cases hx) hI,hb.size,⟨_,x1,rfl⟩,?_,World.ownsRow_nil _ _ _ _,?_,by simp[Zh9],Nat.zero_le _,by omega,by rw[hmem];simp;omega,λ b o s e=>by have:=hAl b o s e;omega,λ b o s e=>?_,?_⟩,hb.trans (x2.mono hb.size),λ b o s e=>(hAl b o s e).1⟩
 .rw[hmem,List.map_replicate,List.length_replicate]
  exact Zc hg x2
 .exact Reads.of_own (Zc hA x2)
 .have h1:=hAl b o s e
  refine⟨by omega,λ q=>?_,λ q=>by cases q⟩;have q2:g=b:=by injection q
  subst q2;rcases hne with q|q
  .rw[e] at q;cases q
  .exact q (by rw[e];rfl)
 .refine⟨λ q=>?_,λ q=>by cases q⟩
  have q2:g=wz.heap.size:=by injection q
  omega
theorem Zln:(prog.info? 31).map (·.size)=some 1:=by kernel_rfl
theorem Zi3 (n:Nat):(madeCells (Ys .u32 0).cells (n*1)).toList=Y1 n (Ys .u32 0):=by
 rw[Nat.mul_one];exact toList_madeCells_one _ n
def Zof (w:World)(n:Nat)(size:Int)(I:List Int)(m:Mach)(e:Ending)(w':World):Prop :=
 (¬Zhc n size/\e=.returned (.tuple #[.pointer none,.int .i64 2])/\w=w') \/
 (Zhc n size/\∃p vm A c,e=.returned (.tuple #[.pointer (some ⟨p,0,none⟩),.int .i64 0])/\MAt w' w.heap.size p vm (.slice none 0 0) A c I 0 m/\Below w.heap.size w w'/\∀b o s,A=some ⟨b,o,s⟩->w.heap.size<=b)
theorem Zv2 (Aw Ai:Option Addr)(cw ci:Nat)(L I:List Int)(size:Int)(w:World)(hL:Reads w w.heap.size Aw (L.map (Ys .u32)))(hI:Reads w w.heap.size Ai (I.map (Ys .u8)))(hl:L.length<=300000000)(hil:I.length<=1000000)
 (hLw:∀x∈L,0<=x/\x<=4294967295) (hIw:∀x∈I,0<=x/\x<=255) :
 Calls prog 56 #[.slice Aw L.length cw,.int .i64 size,.slice Ai I.length ci] w (Zof w L.length size I (Zh9 L size.toNat I)):=by
 have HLw:=Ya hLw;have HIw:=Ya hIw;clear hLw hIw;by_cases h1:size<1
 .have Hn:=Ya (show ¬Zhc L.length size from λ q=>by have:=q.1;omega)
  go_enter func56,ntmps56
  go_wp2_with fail
  go_ret2
  exact .inl ⟨Hn.out,rfl,rfl⟩
 by_cases h2:335544320<size
 .have Hn:=Ya (show ¬Zhc L.length size from λ q=>by have:=q.2.1;omega)
  go_enter func56,ntmps56
  go_wp2_with fail
  go_ret2
  exact .inl ⟨Hn.out,rfl,rfl⟩
 by_cases h3:size<L.length
 .have Hn:=Ya (show ¬Zhc L.length size from λ q=>by have:=q.2.2;omega)
  go_enter func56,ntmps56
  go_wp2_with fail
  go_ret2
  exact .inl ⟨Hn.out,rfl,rfl⟩
 obtain⟨n,rfl⟩:∃n:Nat,size=n:=⟨size.toNat,by omega⟩
 have Hok:=Ya (show Zhc L.length n from⟨by omega,by omega,by omega⟩);have HL:=Ya hL;have hn1:1<=n:=by omega
 have hn2:n<=335544320:=by omega
 have hnL:L.length<=n:=by omega
 go_enter func56,ntmps56
 go_upto_region 3 with fail
 go_cut [8] (λ v8 wc=>∃p g A c,v8=.pointer (some ⟨p,0,none⟩)/\MAt wc w.heap.size p (.slice (some ⟨g,0,none⟩) n n) (.slice none 0 0) A c I 0 (Zh9 [] n I)/\Below w.heap.size w wc/\∀b o s,A=some ⟨b,o,s⟩->w.heap.size<=b)
 case first =>
  have hId:Below w.heap.size w w.drew:=(Below.refl _ _).drew;obtain⟨ti,hti,htz,hts,htb⟩:=info_parts (Zsm)
  go_region_with (first
   | (go_at_call 44;refine(Zee Ai ci I w.drew hI (by omega)).mono ?_;rintro e w2 ⟨A2,c2,rfl,ho2,hb2⟩)
   | (go_at_call 44;have hb3:Below w.heap.size w w3:=hId.grown hg3 (Yd _) (λ k e=>by cases e);refine(Zee Ai ci I w3 ((hI.below hb3).moreM hb3.size) (by omega)).mono ?_;rintro e w5 ⟨A5,c5,rfl,ho5,hb5⟩)
   | (obtain⟨w3,hrun,ho3,hg3⟩:=run_make_full (P:=prog) w2 w2.heap.size 28 31 ti _ 1 underlying28 hti htz hts .i64 .i64 n (by rw[htb];omega) (by simp only[maxLen];omega) (Yd _);simp only[hrun];clear htb)
   | (obtain⟨w3,hrun,ho3,hg3⟩:=run_make_full (P:=prog) w.drew w.drew.heap.size 28 31 ti _ 1 underlying28 hti htz hts .i64 .i64 n (by rw[htb];omega) (by simp only[maxLen];omega) (Yd _);simp only[hrun];clear htb))
  .simp only[Yc4,Ycq,Ycr,Act.put,Ycc,Ycn,Yco]
   have hb3:Below w.heap.size w w3:=hId.grown hg3 (Yd _) (λ k e=>by cases e);have hbz:Below w.heap.size w w5:=hb3.trans (hb5.mono hb3.size);have hrow:w5.ownsRow w.heap.size 31 1 (.slice (some ⟨w.heap.size,0,none⟩) n n) n (Y1 n (Ys .u32 0)):=by
    have h:=Zc ho3 hb5
    rwa[Zi3] at h
   have hZ:=Ya (Z09 (w:=w) hn1 hn2 HIw.out hil hbz hrow (Zn ho5 hb3.size));clear hrun ho3 hg3 ho5 hb5 hb3 hbz hrow;go_wp2_with fail
   go_meet
   refine⟨w5.heap.size,w.heap.size,A5,c5,by kernel_rfl,?_⟩
   with_reducible exact hZ.out
  .simp only[Yc4,Ycq,Ycr,Act.put,Ycc,Ycn,Yco]
   have hb2':Below w.heap.size w w2:=hId.trans hb2;have hb3:Below w.heap.size w w3:=hb2'.grown hg3 hb2'.size (λ k e=>by cases e);have hrow:w3.ownsRow w.heap.size 31 1 (.slice (some ⟨w2.heap.size,0,none⟩) n n) n (Y1 n (Ys .u32 0)):=by
    have h:=Zn ho3 hb2'.size
    rwa[Zi3] at h
   have hin:w3.ownsRow w.heap.size 5 1 (.slice A2 I.length c2) I.length (I.map (Ys .u8)):=Zac (Zn ho2 (Yd _)) λ k hk=>hg3.block k (ho2.lt k hk).2 (λ e=>by cases e)
   have hZ:=Ya (Z09 (w:=w) hn1 hn2 HIw.out hil hb3 hrow hin);clear hrun ho3 hg3 ho2 hb2 hb2' hb3 hrow hin;go_wp2_with fail
   go_meet
   refine⟨w3.heap.size,w2.heap.size,A2,c2,by kernel_rfl,?_⟩
   with_reducible exact hZ.out
 case rest =>
 obtain⟨p,g,A2,c2,rfl,hM,hbc,hA2⟩:=hcut;have hmem:(Zh9 [] n I).mem.length=n:=by simp[Zh9]
 obtain⟨c32,_⟩:=hM.cells;have hpw:=hM.lt;have hmw:=hM.mem;rw[hmem] at hmw;obtain⟨cur,hgr,hcs⟩:∃cur,wc.heap[g]?=some (.cells cur 31 (0,0))/\n<=cur.size:=by
  rcases hmw.2 with⟨e,_⟩|⟨g',cap',cur',e,h3,h4,h5,h6,h7,h8⟩
  .cases e
  .injection e with e1 e2 e3
   injection e1 with e1
   injection e1 with e1
   subst e1;exact⟨cur',h4,by omega⟩
 have hLc:=HL.out.below hbc;have HM:=Ya hM;have HLc:=Ya hLc;have hend:Zh9 L n I={ Zh9 [] n I with mem:=L++(Zh9 [] n I).mem.drop L.length }:=by
  simp[Zh9]
 have Hend:=Ya hend;have Hb:=Ya hbc;have HA2:=Ya hA2;clear hM hLc hmw hend hbc hA2;by_cases hz:L.length=0
 .have hnil:L=[]:=List.eq_nil_of_length_eq_zero hz
  subst hnil;go_wp2_with (refine wpList_copy_nothing (o:=⟨some 32,_,_,_,_,_⟩) rfl (.tmp 30) (.tmp 31) _ _ rfl 31 underlying28 Zln (some ⟨g,0,none⟩) Aw n n 0 cw rfl rfl (by simp) ?_)
  go_ret2
  refine .inr ⟨Hok.out,p,.slice (some ⟨g,0,none⟩) n n,A2,c2,rfl,?_,Hb.out,HA2.out⟩;exact HM.out
 .obtain⟨bL,oL,e,hbL,hcL⟩:=HLc.out (by simp;omega)
  subst e;have HcL:=Ya hcL;have Hcp:=Ya (HM.out.copied (g:=g) (cap:=n) (by rw[hmem]) hgr (L:=L) (by rw[hmem];exact hnL) HLw.out);have Hgl:=Ya (HM.out.foot_lt (show Zai p (.slice (some ⟨g,0,none⟩) n n) (.slice none 0 0) g from .inr (.inl rfl))).1;clear hcL;go_wp2_with (refine wpList_copy_own (o:=⟨some 32,_,_,_,_,_⟩) rfl (.tmp 30) (.tmp 31) _ _ rfl 31 underlying28 Zln g 0 n n ⟨bL,oL,none⟩ L.length cw rfl rfl cur 31 hgr (L.map (Ys .u32)) (by rw[Y3];exact(Nat.min_eq_left hnL).symm) (λ j v hj=>(by rw[Addr.add_mk];exact HcL.out j v hj)) (by rw[Y3];omega) (by simp[Value.oneCell']) ?_)
  go_ret2
  refine .inr ⟨Hok.out,p,.slice (some ⟨g,0,none⟩) n n,A2,c2,rfl,?_,?_,HA2.out⟩
  .rw[Hend.out]
   have hc:=Hcp.out;rw[Yaz,Yag,Yw,Y3] at hc;exact hc
  .exact below_setRow Hb.out Hgl.out _
