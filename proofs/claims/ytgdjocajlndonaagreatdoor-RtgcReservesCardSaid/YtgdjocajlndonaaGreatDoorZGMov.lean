/- Parts. -/
import Derived.Test.YtgdjocajlndonaaGreatDoorZMachW
import Derived.Laws.CopyOwn
import Derived.KernelRfl
set_option linter.all false
set_option maxHeartbeats 8000000
open Go.Lib renaming hid->Ya
open Nat renaming le_refl->Yf,zero_add->Yai,add_assoc->Ybn,zero_le->Ycc,lt_or_ge->Yck
open List renaming getElem?_eq_some_iff->Yg,length_map->Yp,mem_append->Yw,mem_cons->Yz,mem_cons_of_mem->Y0,mem_cons_self->Y1,cons_append->Y4,not_mem_nil->Y6,replicate->Y9,nil_append->Yab,take_zero->Yal,mem_append_left->Ybg,nodup_cons->Ybz,mem_append_right->Yb7,setIfInBounds_toArray->Yc0,set_cons_succ->Yc5,set_cons_zero->Yc9,getElem_cons_succ->Yda,getElem_cons_zero->Ydb,getElem_toArray->Ydr
open Go.Value renaming int->Yt
namespace Go.Proofs.YtgdjocajlndonaaGreatDoor
set_option maxRecDepth 100000
section
open Go.RowKit
theorem Reads.moreM {w:World}{B B':Nat}{A:Option Addr}{xs:List Value}(h:Reads w B A xs)(hB:B<=B'):Reads w B' A xs:=fun hp=>by
 obtain ⟨b,off,e,hb,hc⟩:=h hp;exact ⟨b,off,e,by omega,hc⟩
theorem MAt.copied {w:World}{B p:Nat}{vm vo:Value}{A:Option Addr}{c:Nat}{inp:List Int}{rd:Nat}{m:S.Mach}(h:MAt w B p vm vo A c inp rd m){g cap:Nat}(hv:vm=.slice (some ⟨g,0,none⟩) m.mem.length cap){cur:Array Value}(hg:w.heap[g]?=some (.cells cur 25 (0,0)))
 {L:List Int} (hL:L.length<=m.mem.length) (hw:∀ x∈L,0<=x/\x<=4294967295) :
 MAt (w.setRow g (cur.toList.take 0++(L.map (Yt .u32)++cur.toList.drop (0+(L.map (Yt .u32)).length))).toArray) B p vm vo A c inp rd { m with mem:=L++m.mem.drop L.length }:=by
 obtain ⟨n1,n2⟩:=h.mem_ne (k:=g) (by rw [hv];rfl);have hsame:∀ j,j≠g->(w.setRow g (cur.toList.take 0++(L.map (Yt .u32)++cur.toList.drop (0+(L.map (Yt .u32)).length))).toArray).heap[j]?=w.heap[j]?:=fun j hj=>setRow_other w g j _ hj
 refine ⟨⟨h.ok.regs,h.ok.word,h.ok.zero,by have:=h.ok.mem;simp;omega,fun j=>?_,h.ok.place0,h.ok.place1,h.ok.inp,h.ok.outp,h.ok.code0,h.ok.code1⟩,h.low,?_,?_,?_,?_,h.left,h.rdle,h.inl,by have:=h.low0;simp;omega,fun b o s e=>by have:=h.la b o s e;simpa using this,h.d1,h.d2⟩
 ·show 0<=(L++m.mem.drop L.length).getD j 0/\(L++m.mem.drop L.length).getD j 0<=4294967295
  by_cases hj:j<L.length
  ·have e:(L++m.mem.drop L.length).getD j 0=L[j]:=by simp [List.getElem?_append_left hj,List.getElem?_eq_getElem hj]
   rw [e];exact hw _ (List.getElem_mem _)
  ·have e:(L++m.mem.drop L.length).getD j 0=m.mem.getD j 0:=by
    simp only [List.getD_eq_getElem?_getD];rw [List.getElem?_append_right (by omega),List.getElem?_drop,show L.length+(j-L.length)=j by omega]
   rw [e];exact h.ok.memw j
 ·obtain ⟨cs,h1,h2⟩:=h.blk
  exact ⟨cs,by rw [hsame p (Ne.symm n1)];exact h1,h2⟩
 ·rcases h.mem.2 with ⟨e,_⟩ | ⟨g',cap',cur',e,h3,h4,h5,h6,h7,h8⟩
  ·rw [hv] at e;cases e
  ·rw [hv] at e
   injection e with e1 e2 e3
   injection e1 with e1
   injection e1 with e1
   subst e1 e3;rw [hg] at h4
   injection h4 with h4
   injection h4 with h4 _ _
   subst h4;have hl:(L++m.mem.drop L.length).length=m.mem.length:=by simp;omega
   refine ⟨by simp,.inr ⟨g,cap,_,by rw [hv,hl],h3,setRow_heap w g cur _ _ _ hg,by rw [hl];exact h5,h6,?_,?_⟩⟩
   ·simp;omega
   ·simp only [Yal,Yab,Nat.mul_one] at h8 ⊢
    rw [hl,List.take_append,List.take_of_length_le (by simp;omega),List.map_append,List.map_drop,<- h8,Yp,Yai,List.drop_take]
 ·exact Zo h.out fun j hj=>hsame j fun e=>n2 (e ▸ hj)
 ·exact h.rin.same (by simp) fun b' o s e=>hsame b' fun e2=>(h.d1 b' o s e).2.1 (by rw [e2,hv];rfl)
theorem Z17 {w wz:World}{n g c:Nat}{A:Option Addr}{I:List Int}(hn:1<=n)(hn2:n<=335544320)(hI:∀ x∈I,0<=x/\x<=255)(hil:I.length<=1000000)(hb:Below w.heap.size w wz)
 (hg:wz.ownsRow w.heap.size 25 1 (.slice (some ⟨g,0,none⟩) n n) n (Y9 n (Yt .u32 0))) (hA:wz.ownsRow w.heap.size 5 1 (.slice A I.length c) I.length (I.map (Yt .u8))) :
 MAt (wz.alloc (.cells #[.int .u32 0,.int .u32 0,.int .u32 0,.int .u32 0,.int .u32 0,.int .u32 0,.int .u32 0,.int .u32 0,.int .u32 0,.int .u32 0,.int .u32 0,.int .u32 0,.int .u32 0,.int .u32 0,.int .u32 0,.int .u32 0,.int .u32 0,.int .u32 0,.int .u32 0,.int .u32 0,.int .u32 0,.int .u32 0,.int .u32 0,.int .u32 0,.int .u32 0,.int .u32 0,.int .u32 0,.int .u32 0,.int .u32 0,.int .u32 0,.int .u32 0,.int .u32 0,.slice (some ⟨g,0,none⟩) n n,.int .u32 0,.slice A I.length c,.int .i64 0,.slice none 0 0,.int .i64 0,.int .u32 0,.int .i64 0,.int .i64 0] 128)) w.heap.size wz.heap.size (.slice (some ⟨g,0,none⟩) n n) (.slice none 0 0) A c I 0 (Zk3 [] n I)/\Below w.heap.size w (wz.alloc (.cells #[.int .u32 0,.int .u32 0,.int .u32 0,.int .u32 0,.int .u32 0,.int .u32 0,.int .u32 0,.int .u32 0,.int .u32 0,.int .u32 0,.int .u32 0,.int .u32 0,.int .u32 0,.int .u32 0,.int .u32 0,.int .u32 0,.int .u32 0,.int .u32 0,.int .u32 0,.int .u32 0,.int .u32 0,.int .u32 0,.int .u32 0,.int .u32 0,.int .u32 0,.int .u32 0,.int .u32 0,.int .u32 0,.int .u32 0,.int .u32 0,.int .u32 0,.int .u32 0,.slice (some ⟨g,0,none⟩) n n,.int .u32 0,.slice A I.length c,.int .i64 0,.slice none 0 0,.int .i64 0,.int .u32 0,.int .i64 0,.int .i64 0] 128))/\(∀ b o s,A=some ⟨b,o,s⟩->w.heap.size<=b):=by
 obtain ⟨x1,x2,x3⟩:=Zg9 wz #[.int .u32 0,.int .u32 0,.int .u32 0,.int .u32 0,.int .u32 0,.int .u32 0,.int .u32 0,.int .u32 0,.int .u32 0,.int .u32 0,.int .u32 0,.int .u32 0,.int .u32 0,.int .u32 0,.int .u32 0,.int .u32 0,.int .u32 0,.int .u32 0,.int .u32 0,.int .u32 0,.int .u32 0,.int .u32 0,.int .u32 0,.int .u32 0,.int .u32 0,.int .u32 0,.int .u32 0,.int .u32 0,.int .u32 0,.int .u32 0,.int .u32 0,.int .u32 0,.slice (some ⟨g,0,none⟩) n n,.int .u32 0,.slice A I.length c,.int .i64 0,.slice none 0 0,.int .i64 0,.int .u32 0,.int .i64 0,.int .i64 0] 128;have hgl:=hg.lt g rfl;have hAl:∀ b o s,A=some ⟨b,o,s⟩->w.heap.size<=b/\b<wz.heap.size:=fun b o s e=>hA.lt b (by rw [e];rfl)
 have hmem:(Zk3 [] n I).mem=Y9 n 0:=by simp [Zk3]
 have hne:=Zfs hA hg (by decide);refine ⟨⟨Zwi hn (by simp) (fun x hx=>by cases hx) hI,hb.size,⟨_,x1,rfl⟩,?_,World.ownsRow_nil _ _ _ _,?_,by simp [Zk3],Ycc _,by omega,by rw [hmem];simp;omega,fun b o s e=>by have:=hAl b o s e;omega,fun b o s e=>?_,?_⟩,hb.trans (x2.mono hb.size),fun b o s e=>(hAl b o s e).1⟩
 ·rw [hmem,List.map_replicate,List.length_replicate]
  exact Zc hg x2
 ·exact Reads.of_own (Zc hA x2)
 ·have h1:=hAl b o s e
  refine ⟨by omega,fun q=>?_,fun q=>by cases q⟩;have q2:g=b:=by injection q
  subst q2;rcases hne with q | q
  ·rw [e] at q;cases q
  ·exact q (by rw [e];rfl)
 ·refine ⟨fun q=>?_,fun q=>by cases q⟩
  have q2:g=wz.heap.size:=by injection q
  omega
theorem Zno:(Tryz.prog.info? 25).map (·.size)=some 1:=by kernel_rfl
theorem Zki (n:Nat):(madeCells (Yt .u32 0).cells (n*1)).toList=Y9 n (Yt .u32 0):=by
 rw [Nat.mul_one];exact toList_madeCells_one _ n
def Zqs (w:World)(n:Nat)(size:Int)(I:List Int)(m:S.Mach)(e:Ending)(w':World):Prop :=
 (¬ Zjh n size/\e=.returned (.tuple #[.pointer none,.int .i64 2])/\w=w') \/
 (Zjh n size/\∃ p vm A c,e=.returned (.tuple #[.pointer (some ⟨p,0,none⟩),.int .i64 0])/\MAt w' w.heap.size p vm (.slice none 0 0) A c I 0 m/\Below w.heap.size w w'/\∀ b o s,A=some ⟨b,o,s⟩->w.heap.size<=b)
theorem Zxs (Aw Ai:Option Addr)(cw ci:Nat)(L I:List Int)(size:Int)(w:World)(hL:Reads w w.heap.size Aw (L.map (Yt .u32)))(hI:Reads w w.heap.size Ai (I.map (Yt .u8)))(hl:L.length<=300000000)(hil:I.length<=1000000)
 (hLw:∀ x∈L,0<=x/\x<=4294967295) (hIw:∀ x∈I,0<=x/\x<=255) :
 Calls Tryz.prog 81 #[.slice Aw L.length cw,.int .i64 size,.slice Ai I.length ci] w (Zqs w L.length size I (Zk3 L size.toNat I)):=by
 have HLw:=Ya hLw;have HIw:=Ya hIw;clear hLw hIw;by_cases h1:size<1
 ·have Hn:=Ya (show ¬ Zjh L.length size from fun q=>by have:=q.1;omega)
  go_enter Tryz.func81,Tryz.ntmps81
  go_wp2_with fail
  go_ret2
  exact .inl ⟨Hn.out,rfl,rfl⟩
 by_cases h2:335544320<size
 ·have Hn:=Ya (show ¬ Zjh L.length size from fun q=>by have:=q.2.1;omega)
  go_enter Tryz.func81,Tryz.ntmps81
  go_wp2_with fail
  go_ret2
  exact .inl ⟨Hn.out,rfl,rfl⟩
 by_cases h3:size<L.length
 ·have Hn:=Ya (show ¬ Zjh L.length size from fun q=>by have:=q.2.2;omega)
  go_enter Tryz.func81,Tryz.ntmps81
  go_wp2_with fail
  go_ret2
  exact .inl ⟨Hn.out,rfl,rfl⟩
 obtain ⟨n,rfl⟩:∃ n:Nat,size=n:=⟨size.toNat,by omega⟩
 have Hok:=Ya (show Zjh L.length n from ⟨by omega,by omega,by omega⟩);have HL:=Ya hL;have hn1:1<=n:=by omega
 have hn2:n<=335544320:=by omega
 have hnL:L.length<=n:=by omega
 go_enter Tryz.func81,Tryz.ntmps81
 go_upto_region 3 with fail
 go_cut [8] (fun v8 wc=>∃ p g A c,v8=.pointer (some ⟨p,0,none⟩)/\MAt wc w.heap.size p (.slice (some ⟨g,0,none⟩) n n) (.slice none 0 0) A c I 0 (Zk3 [] n I)/\Below w.heap.size w wc/\∀ b o s,A=some ⟨b,o,s⟩->w.heap.size<=b)
 case first =>
  have hId:Below w.heap.size w w.drew:=(Below.refl _ _).drew;obtain ⟨ti,hti,htz,hts,htb⟩:=info_parts (Zwg)
  go_region_with (first
   | (go_at_call 74;refine (Zjg Ai ci I w.drew hI (by omega)).mono ?_;rintro e w2 ⟨A2,c2,rfl,ho2,hb2⟩)
   | (go_at_call 74;have hb3:Below w.heap.size w w3:=hId.grown hg3 (Yf _) (fun k e=>by cases e);refine (Zjg Ai ci I w3 ((hI.below hb3).moreM hb3.size) (by omega)).mono ?_;rintro e w5 ⟨A5,c5,rfl,ho5,hb5⟩)
   | (obtain ⟨w3,hrun,ho3,hg3⟩:=run_make_full (P:=Tryz.prog) w2 w2.heap.size 33 25 ti _ 1 Tryz.underlying33 hti htz hts .i64 .i64 n (by rw [htb];omega) (by simp only [maxLen];omega) (Yf _);simp only [hrun];clear htb)
   | (obtain ⟨w3,hrun,ho3,hg3⟩:=run_make_full (P:=Tryz.prog) w.drew w.drew.heap.size 33 25 ti _ 1 Tryz.underlying33 hti htz hts .i64 .i64 n (by rw [htb];omega) (by simp only [maxLen];omega) (Yf _);simp only [hrun];clear htb))
  ·simp only [Ydr,Yda,Ydb,Act.put,Yc0,Yc5,Yc9]
   have hb3:Below w.heap.size w w3:=hId.grown hg3 (Yf _) (fun k e=>by cases e);have hbz:Below w.heap.size w w5:=hb3.trans (hb5.mono hb3.size);have hrow:w5.ownsRow w.heap.size 25 1 (.slice (some ⟨w.heap.size,0,none⟩) n n) n (Y9 n (Yt .u32 0)):=by
    have h:=Zc ho3 hb5
    rwa [Zki] at h
   have hZ:=Ya (Z17 (w:=w) hn1 hn2 HIw.out hil hbz hrow (Z3 ho5 hb3.size));clear hrun ho3 hg3 ho5 hb5 hb3 hbz hrow;go_wp2_with fail
   go_meet
   refine ⟨w5.heap.size,w.heap.size,A5,c5,by kernel_rfl,?_⟩
   with_reducible exact hZ.out
  ·simp only [Ydr,Yda,Ydb,Act.put,Yc0,Yc5,Yc9]
   have hb2':Below w.heap.size w w2:=hId.trans hb2;have hb3:Below w.heap.size w w3:=hb2'.grown hg3 hb2'.size (fun k e=>by cases e);have hrow:w3.ownsRow w.heap.size 25 1 (.slice (some ⟨w2.heap.size,0,none⟩) n n) n (Y9 n (Yt .u32 0)):=by
    have h:=Z3 ho3 hb2'.size
    rwa [Zki] at h
   have hin:w3.ownsRow w.heap.size 5 1 (.slice A2 I.length c2) I.length (I.map (Yt .u8)):=Zo (Z3 ho2 (Yf _)) fun k hk=>hg3.block k (ho2.lt k hk).2 (fun e=>by cases e)
   have hZ:=Ya (Z17 (w:=w) hn1 hn2 HIw.out hil hb3 hrow hin);clear hrun ho3 hg3 ho2 hb2 hb2' hb3 hrow hin;go_wp2_with fail
   go_meet
   refine ⟨w3.heap.size,w2.heap.size,A2,c2,by kernel_rfl,?_⟩
   with_reducible exact hZ.out
 case rest =>
 obtain ⟨p,g,A2,c2,rfl,hM,hbc,hA2⟩:=hcut;have hmem:(Zk3 [] n I).mem.length=n:=by simp [Zk3]
 obtain ⟨c32,_⟩:=hM.cells;have hpw:=hM.lt;have hmw:=hM.mem;rw [hmem] at hmw;obtain ⟨cur,hgr,hcs⟩:∃ cur,wc.heap[g]?=some (.cells cur 25 (0,0))/\n<=cur.size:=by
  rcases hmw.2 with ⟨e,_⟩ | ⟨g',cap',cur',e,h3,h4,h5,h6,h7,h8⟩
  ·cases e
  ·injection e with e1 e2 e3
   injection e1 with e1
   injection e1 with e1
   subst e1;exact ⟨cur',h4,by omega⟩
 have hLc:=HL.out.below hbc;have HM:=Ya hM;have HLc:=Ya hLc;have hend:Zk3 L n I={ Zk3 [] n I with mem:=L++(Zk3 [] n I).mem.drop L.length }:=by
  simp [Zk3]
 have Hend:=Ya hend;have Hb:=Ya hbc;have HA2:=Ya hA2;clear hM hLc hmw hend hbc hA2;by_cases hz:L.length=0
 ·have hnil:L=[]:=List.eq_nil_of_length_eq_zero hz
  subst hnil;go_wp2_with (refine wpList_copy_nothing (o:=⟨some 32,_,_,_,_,_⟩) rfl (.tmp 30) (.tmp 31) _ _ rfl 25 Tryz.underlying33 Zno (some ⟨g,0,none⟩) Aw n n 0 cw rfl rfl (by simp) ?_)
  go_ret2
  refine .inr ⟨Hok.out,p,.slice (some ⟨g,0,none⟩) n n,A2,c2,rfl,?_,Hb.out,HA2.out⟩;exact HM.out
 ·obtain ⟨bL,oL,e,hbL,hcL⟩:=HLc.out (by simp;omega)
  subst e;have HcL:=Ya hcL;have Hcp:=Ya (HM.out.copied (g:=g) (cap:=n) (by rw [hmem]) hgr (L:=L) (by rw [hmem];exact hnL) HLw.out);have Hgl:=Ya (HM.out.foot_lt (show Zav p (.slice (some ⟨g,0,none⟩) n n) (.slice none 0 0) g from .inr (.inl rfl))).1;clear hcL;go_wp2_with (refine wpList_copy_own (o:=⟨some 32,_,_,_,_,_⟩) rfl (.tmp 30) (.tmp 31) _ _ rfl 25 Tryz.underlying33 Zno g 0 n n ⟨bL,oL,none⟩ L.length cw rfl rfl cur 25 hgr (L.map (Yt .u32)) (by rw [Yp];exact (Nat.min_eq_left hnL).symm) (fun j v hj=>(by rw [Addr.add_mk];exact HcL.out j v hj)) (by rw [Yp];omega) (by simp [Value.oneCell']) ?_)
  go_ret2
  refine .inr ⟨Hok.out,p,.slice (some ⟨g,0,none⟩) n n,A2,c2,rfl,?_,?_,HA2.out⟩
  ·rw [Hend.out]
   have hc:=Hcp.out;rw [Yal,Yab,Yai,Yp] at hc;exact hc
  ·exact below_setRow Hb.out Hgl.out _
end
section
open Go.RowKit
namespace S
def Zy6:ByteArray:=⟨#[115,116,97,114,116]⟩
def bW (w:Int):Item:=⟨6,⟨0,0,0,0,0⟩,bNo,w⟩
def viewOf (m:Mach):Vw:=⟨m.rd,m.mv,m.input,m.out⟩
end S
end
section
open Go.RowKit
namespace S
def eC (n:Int):BE:=.mk 1 n bNo []
def eL (n:Int):BE:=.mk 2 n bNo []
def eR (n:Int):BE:=.mk 3 n bNo []
def eB (op:Int)(a b:BE):BE:=.mk 4 op bNo [a,b]
def eM (a:BE)(n:Int):BE:=.mk 5 n bNo [a]
def eF (name:ByteArray)(l:List BE):BE:=.mk 6 0 name l
def eQ (a b:BE):BE:=.mk 7 0 bNo [a,b]
def eA (name:ByteArray):BE:=.mk 9 0 name []
def sAs (n:Int)(e:BE):BS:=.mk 1 n bNo [e] [] [] []
def sPut (a:BE)(n:Int)(e:BE):BS:=.mk 2 n bNo [a,e] [] [] []
def sIf (e:BE)(b l:List BS):BS:=.mk 3 0 bNo [e] [] b l
def sWh (e:BE)(b:List BS):BS:=.mk 4 0 bNo [e] [] b []
def sRet (regs:List Int)(l:List BE):BS:=.mk 5 0 bNo l regs [] []
def sDo (e:BE):BS:=.mk 6 0 bNo [e] [] [] []
def sHlt (e:BE):BS:=.mk 8 0 bNo [e] [] [] []
def sSet (n:Int)(e:BE):BS:=.mk 9 n bNo [e] [] [] []
def Z4j (name:ByteArray):BS:=.mk 10 0 name [] [] [] []
def sGo (e:BE):BS:=.mk 11 0 bNo [e] [] [] []
def sBk (e:BE):BS:=sRet [4] [e]
end S
section
variable {I:S.Img}{dep lk:Int}{env:List Int}{at_:Nat}{st:S.Vw}{c:Nat}{Q:Int->S.Vw->Nat->Prop}{H:Int->S.Vw->Nat->Prop}
theorem Zy7 (op n:Int)(nm:ByteArray)(l:List S.BE):S.wpE I dep lk env (.mk op n nm l) at_ st c Q H=S.wpEs I dep lk env l at_ st c (fun vs st1 c1=>S.wpOp I dep lk op n nm at_ env vs st1 c1 Q H) H:=by rw [S.wpE]
def S.b8 (I:S.Img)(dep:Int)(name:ByteArray)(at_:Nat)(vs:List Int)(st:S.Vw)(c:Nat)(Q H:Int->S.Vw->Nat->Prop):Prop :=
 ∃ d R,S.Real I name false (st.args vs) d R/\d<=dep/\∀ ret o k,R ret o k->(match o with
  | .ret st2=>Q (st2.reg 4) st2 (c+2*at_+vs.length+4+k)
  | .halt code st2=>H code st2 (c+2*at_+vs.length+4+k)
  | .left _ _=>False)
theorem Z18 (nm:ByteArray)(l:List S.BE):S.wpE I dep lk env (S.eF nm l) at_ st c Q H=S.wpEs I dep lk env l at_ st c (fun vs st1 c1=>S.b8 I dep nm at_ vs st1 c1 Q H) H:=by
 rw [S.eF,Zy7];refine congrArg (fun q=>S.wpEs I dep lk env l at_ st c q H) (funext fun v=>funext fun st1=>funext fun c1=>?_);rw [S.wpOp,if_neg (by decide),if_neg (by decide),if_neg (by decide),if_neg (by decide),if_neg (by decide),if_pos rfl];rfl
theorem Z19 (nm:ByteArray)(a:S.BE):S.wpE I dep lk env (S.eF nm [a]) at_ st c Q H=S.wpE I dep lk env a at_ st c (fun v st1 c1=>S.b8 I dep nm at_ [v] st1 c1 Q H) H:=by
 rw [Z18,S.wpEs];refine congrArg (fun q=>S.wpE I dep lk env a at_ st c q H) (funext fun v=>funext fun st1=>funext fun c1=>?_);rw [S.wpEs]
end
section
variable {I:S.Img}{dep lk:Int}{behind:Bool}{env:List Int}{st:S.Vw}{c:Nat}{Q:List Int->S.Vw->Nat->Prop}{R:S.BO->Nat->Prop}
theorem Zhh {a:S.BE}{at_:Nat}{T:List Int->S.Vw->Nat->Prop}{H:Int->S.Vw->Nat->Prop}:S.wpEs I dep lk env [a] at_ st c T H=S.wpE I dep lk env a at_ st c (fun v st1 c1=>T [v] st1 c1) H:=by
 rw [S.wpEs];refine congrArg (fun q=>S.wpE I dep lk env a at_ st c q H) (funext fun v=>funext fun st1=>funext fun c1=>?_);rw [S.wpEs]
theorem Z2a {a b:S.BE}{at_:Nat}{T:List Int->S.Vw->Nat->Prop}{H:Int->S.Vw->Nat->Prop}:S.wpEs I dep lk env [a,b] at_ st c T H =
 S.wpE I dep lk env a at_ st c (fun v st1 c1=>S.wpE I dep lk env b (at_+1) st1 c1 (fun u st2 c2=>T [v,u] st2 c2) H) H:=by
 rw [S.wpEs];refine congrArg (fun q=>S.wpE I dep lk env a at_ st c q H) (funext fun v=>funext fun st1=>funext fun c1=>?_);rw [Zhh]
theorem Z2b:S.wpSs I dep lk behind [] env st c Q R=Q env st c:=by rw [S.wpSs]
theorem Zfi (s:S.BS)(r:List S.BS):S.wpSs I dep lk behind (s::r) env st c Q R=S.wpS I dep lk behind s env st c (fun Zy4 st1 c1=>S.wpSs I dep lk behind r Zy4 st1 c1 Q R) R:=by rw [S.wpSs]
theorem Z2c (n:Int)(e:S.BE):S.wpS I dep lk behind (S.sAs n e) env st c Q R=S.wpE I dep lk env e 0 st c (fun v st1 c1=>Q (env.set n.toNat v) st1 (c1+1)) (fun code st c=>R (.halt code st) c):=by
 rw [S.sAs,S.wpS,if_neg (by decide),Zhh];refine congrArg (fun q=>S.wpE I dep lk env e 0 st c q _) (funext fun v=>funext fun st1=>funext fun c1=>?_);rw [if_pos rfl];rfl
theorem Zut (a:S.BE)(n:Int)(e:S.BE):S.wpS I dep lk behind (S.sPut a n e) env st c Q R =
 S.wpE I dep lk env a 0 st c (fun p st1 c1=>S.wpE I dep lk env e 1 st1 c1 (fun v st2 c2=>S.u32m (p+n)<I.size/\¬ I.stk (S.u32m (p+n))/\¬ I.code (S.u32m (p+n))/\Q env (st2.sto (S.u32m (p+n)) v) (c2+1)) (fun code st c=>R (.halt code st) c)) (fun code st c=>R (.halt code st) c):=by
 rw [S.sPut,S.wpS,if_neg (by decide),Z2a];refine congrArg (fun q=>S.wpE I dep lk env a 0 st c q _) (funext fun p=>funext fun st1=>funext fun c1=>?_);refine congrArg (fun q=>S.wpE I dep lk env e 1 st1 c1 q _) (funext fun v=>funext fun st2=>funext fun c2=>?_);rw [if_neg (by decide),if_pos rfl];rfl
theorem Z2d (e:S.BE)(b l:List S.BS):S.wpS I dep lk behind (S.sIf e b l) env st c Q R =
 S.wpE I dep lk env e 0 st c (fun v st1 c1=>if v=0 then S.wpSs I dep lk behind l env st1 (c1+4) Q R else S.wpSs I dep lk behind b env st1 (c1+4) (fun Zml st2 c2=>Q Zml st2 (c2+3)) R) (fun code st c=>R (.halt code st) c):=by
 rw [S.sIf,S.wpS,if_neg (by decide),Zhh];refine congrArg (fun q=>S.wpE I dep lk env e 0 st c q _) (funext fun v=>funext fun st1=>funext fun c1=>?_);rw [if_neg (by decide),if_neg (by decide),if_pos rfl];rfl
theorem Z2e (e:S.BE)(b:List S.BS):S.wpS I dep lk behind (S.sWh e b) env st c Q R =
 ∃ J:List Int->S.Vw->Nat->Nat->Prop,(∃ k,J env st c k)/\∀ env st c k,J env st c k ->
  S.wpE I dep lk env e 0 st c (fun v st1 c1=>if v=0 then Q env st1 (c1+4) else S.wpSs I dep lk behind b env st1 (c1+4) (fun Zml st2 c2=>∃ k2,k2<k/\J Zml st2 (c2+3) k2) R) (fun code st c=>R (.halt code st) c):=by
 rw [S.sWh,S.wpS,if_pos rfl];simp only [Zhh];rfl
theorem Zuu (regs:List Int)(l:List S.BE):S.wpS I dep lk behind (S.sRet regs l) env st c Q R=S.wpEs I dep lk env l 0 st c (fun vs st1 c1=>R (.ret (st1.regs regs vs)) (c1+regs.length+(if behind=true then 5 else 3))) (fun code st c=>R (.halt code st) c):=by
 rw [S.sRet,S.wpS,if_neg (by decide)];refine congrArg (fun q=>S.wpEs I dep lk env l 0 st c q _) (funext fun v=>funext fun st1=>funext fun c1=>?_);rw [if_neg (by decide),if_neg (by decide),if_neg (by decide),if_pos rfl]
theorem Z2f (e:S.BE):S.wpS I dep lk behind (S.sBk e) env st c Q R=S.wpE I dep lk env e 0 st c (fun v st1 c1=>R (.ret (st1.set 4 v)) (c1+1+(if behind=true then 5 else 3))) (fun code st c=>R (.halt code st) c):=by
 rw [S.sBk,Zuu,Zhh];rfl
theorem Z2g (e:S.BE):S.wpS I dep lk behind (S.sDo e) env st c Q R=S.wpE I dep lk env e 0 st c (fun v st1 c1=>Q env st1 c1) (fun code st c=>R (.halt code st) c):=by
 rw [S.sDo,S.wpS,if_neg (by decide),Zhh];refine congrArg (fun q=>S.wpE I dep lk env e 0 st c q _) (funext fun v=>funext fun st1=>funext fun c1=>?_);rw [if_neg (by decide),if_neg (by decide),if_neg (by decide),if_neg (by decide),if_pos rfl]
theorem Z0m (n:Int)(e:S.BE):S.wpS I dep lk behind (S.sSet n e) env st c Q R=S.wpE I dep lk env e 0 st c (fun v st1 c1=>Q env (st1.set n v) (c1+1)) (fun code st c=>R (.halt code st) c):=by
 rw [S.sSet,S.wpS,if_neg (by decide),Zhh];refine congrArg (fun q=>S.wpE I dep lk env e 0 st c q _) (funext fun v=>funext fun st1=>funext fun c1=>?_);rw [if_neg (by decide),if_neg (by decide),if_neg (by decide),if_neg (by decide),if_neg (by decide),if_neg (by decide),if_neg (by decide),if_pos rfl];rfl
end
end
section
open Go.RowKit
namespace S
def eAdd (a b:BE):BE:=eB 1 a b
def eSub (a b:BE):BE:=eB 2 a b
def eAnd (a b:BE):BE:=eB 7 a b
def eLt (a b:BE):BE:=eB 14 a b
def eShr (a:BE)(n:Int):BE:=eB 11 a (eC n)
def Z39 (a:BE)(n:Int):BE:=eB 10 a (eC n)
def eNot (a:BE):BE:=eQ a (eC 0)
def eW (n:Int):BE:=eM (eC n) 0
def eRef (a:BE):BE:=eB 8 (Z39 a 2) (eC 1)
def eAdr (a:BE):BE:=eShr a 2
def sKeep (n:Int)(e:BE):BS:=sPut (eC n) 0 e
def sWhen (e:BE)(b:List BS):BS:=sIf e b []
def sVal (e:BE):BS:=sBk e
def isRef (a:BE):BE:=eQ (eAnd a (eC 3)) (eC 1)
def kMove:ByteArray:=⟨#[109,111,118,101]⟩
def kScan:ByteArray:=⟨#[115,99,97,110]⟩
def kFrame:ByteArray:=⟨#[102,114,97,109,101]⟩
def kCollect:ByteArray:=⟨#[99,111,108,108,101,99,116]⟩
def kReserve:ByteArray:=⟨#[114,101,115,101,114,118,101]⟩
def Z2h:ByteArray:=⟨#[99,111,110,115]⟩
def Zy8:ByteArray:=⟨#[98,101,103,105,110]⟩
def kStatic:ByteArray:=⟨#[115,116,97,116,105,99]⟩
def kCode:ByteArray:=⟨#[99,111,100,101]⟩
def kStub:ByteArray:=⟨#[115,116,117,98]⟩
def kMapped:ByteArray:=⟨#[109,97,112,112,101,100]⟩
def kMore:ByteArray:=⟨#[109,111,114,101]⟩
def kEnd:ByteArray:=⟨#[101,110,100]⟩
def kHead:ByteArray:=⟨#[104,101,97,100]⟩
def kTail:ByteArray:=⟨#[116,97,105,108]⟩
def kMain:ByteArray:=⟨#[109,97,105,110]⟩
def kF0:ByteArray:=⟨#[102,48]⟩
def kRt (n:Int):ByteArray:=⟨([114,116]++itoa n).toArray⟩
def rMove:BR:=⟨kMove,1,4,false,
 [sWhen (eNot (isRef (eL 0))) [sVal (eL 0)],
  sAs 1 (eAdr (eL 0)),
  sWhen (eNot (eLt (eSub (eL 1) (eW 2)) (eW 4))) [sVal (eL 0)],
  sAs 2 (eM (eL 1) 0),
  sWhen (isRef (eL 2)) [sVal (eL 2)],
  sAs 2 (eShr (eL 2) 5),
  sAs 3 (eC 0),
  sWh (eNot (eLt (eL 2) (eL 3))) [sPut (eAdd (eR 29) (eL 3)) 0 (eM (eAdd (eL 1) (eL 3)) 0),sAs 3 (eAdd (eL 3) (eC 1))],
  sPut (eL 1) 0 (eRef (eR 29)),
  sSet 29 (eAdd (eR 29) (eL 3)),
  sVal (eM (eL 1) 0)]⟩
def bScan:List BS:=[sPut (eL 0) 0 (eF kMove [eM (eL 0) 0]),sAs 0 (eAdd (eL 0) (eC 1))]
def rScan:BR:=⟨kScan,2,2,false,[sWh (eLt (eL 0) (eL 1)) bScan]⟩
def rFrame:BR:=⟨kFrame,1,5,false,
 [sAs 1 (eAdd (eL 0) (eM (eL 0) 0)),
  sAs 2 (eC 32),
  sWh (eLt (eL 0) (eL 1))
   [sAs 0 (eAdd (eL 0) (eC 1)),
    sAs 3 (eM (eL 0) 0),
    sWhen (eQ (eL 2) (eC 1056)) [sAs 2 (eA kMore)],
    sAs 4 (eAdd (eL 2) (eC 32)),
    sWh (eLt (eL 2) (eL 4))
     [sWhen (eAnd (eL 3) (eC 1)) [sDo (eF kScan [eL 2,eAdd (eL 2) (eC 1)])],
      sAs 3 (eShr (eL 3) 1),
      sAs 2 (eAdd (eL 2) (eC 1))]]]⟩
def rCollect:BR:=⟨kCollect,0,1,false,
 [sSet 29 (eW 3),
  sDo (eF kScan [eC 5,eC 6]),
  sDo (eF kScan [eC 16,eAdd (eC 16) (eW 8)]),
  sWhen (eW 6) [sDo (eF kFrame [eW 6])],
  sDo (eF kScan [eC 1312,eA kCode]),
  sAs 0 (eW 3),
  sWh (eLt (eL 0) (eR 29)) bScan,
  sAs 0 (eW 2),
  sKeep 2 (eW 3),
  sKeep 3 (eL 0),
  sSet 26 (eR 29),
  sSet 27 (eAdd (eW 2) (eW 4))]⟩
def eShort:BE:=eLt (eSub (eR 27) (eR 26)) (eL 0)
def rReserve:BR:=⟨kReserve,1,1,false,[sAs 0 (eAdd (eL 0) (eW 7)),sWhen eShort [sDo (eF kCollect []),sWhen eShort [sHlt (eC 255)]]]⟩
def Z3t:BR:=⟨Z2h,2,2,false,
 [sPut (eR 26) 0 (eC 67),sPut (eR 26) 1 (eL 0),sPut (eR 26) 2 (eL 1),sSet 26 (eAdd (eR 26) (eC 3)),sVal (eRef (eSub (eR 26) (eC 3)))]⟩
def bSave (n:BE):List BS:=[sKeep 16 (eR 1),sKeep 23 (eR 10),sKeep 17 (eR 4),sKeep 18 (eR 5),sKeep 19 (eR 6),sKeep 20 (eR 7),sKeep 21 (eR 8),sKeep 22 (eR 9),sKeep 6 (eC 0),
 sIf (eLt (eC 6) n) [sKeep 8 (eC 8)] [sKeep 8 (eAdd n (eC 1))]]
def bRestore:List BS:=[sKeep 8 (eC 0),sRet [1,4,5,6,7,8,9,10] [eW 16,eW 17,eW 18,eW 19,eW 20,eW 21,eW 22,eW 23]]
def rEnter:BR:=⟨kRt 100,0,2,false,[sAs 0 (eR 2),sAs 1 (eR 3)]++bSave (eL 0)++[sDo (eF kReserve [eL 1])]++bRestore⟩
def Z0n (n from_ at_:BE)(atN locl:Int):List BS :=
 [sAs locl (eW 23),sKeep 23 (eRef (eR 26)),
  sWh n [sPut (eR 26) 0 (eC 67),sPut (eR 26) 1 (eM (eAdr from_) 1),sAs locl (eM (eAdr from_) 2),sSet 26 (eAdd (eR 26) (eC 3)),sPut (eSub (eR 26) (eC 3)) 2 (eRef (eR 26)),sAs atN (eSub at_ (eC 1))],
  sPut (eSub (eR 26) (eC 3)) 2 (eC 38)]
def Z3u:BR:=⟨kRt 101,0,5,false,
 [sAs 0 (eR 2),sAs 1 (eR 3),sAs 2 (eL 1)]++bSave (eL 0) ++
 [sWhen (eLt (eC 6) (eL 2)) [sAs 2 (eC 6)],
  sAs 2 (eSub (eL 0) (eL 2)),
  sDo (eF kReserve [eAdd (eL 2) (Z39 (eL 2) 1)]),
  sAs 2 (eC 0),
  sIf (eLt (eC 6) (eL 0)) (sAs 2 (eSub (eL 0) (eC 6))::Z0n (eL 2) (eL 3) (eL 2) 2 3) [sKeep 23 (eC 38)],
  sWhen (eLt (eL 1) (eC 6))
   [sAs 3 (eW 23),sAs 4 (eL 0),sWhen (eLt (eC 6) (eL 4)) [sAs 4 (eC 6)],
    sWh (eLt (eL 1) (eL 4)) [sAs 4 (eSub (eL 4) (eC 1)),sAs 3 (eF Z2h [eM (eAdd (eL 4) (eC 17)) 0,eL 3])],
    sPut (eAdd (eL 1) (eC 17)) 0 (eL 3)]]++bRestore⟩
def Zy9 (v:BE):BE:=eAnd (eM (eAdr v) 0) (eC 31)
def Z2i (v:BE)(yes no:List BS):BS:=sIf (isRef v) [sIf (eQ (Zy9 v) (eC 3)) yes no] no
def Z2j:BR:=⟨kRt 102,0,6,false,
 [sAs 0 (eR 4),sAs 1 (eR 2),sAs 2 (eR 10),sAs 3 (eC 0),sAs 4 (eL 2),
  sWhen (eNot (isRef (eL 0))) [sHlt (eC 6)],
  sWhen (eNot (eQ (Zy9 (eL 0)) (eC 11))) [sHlt (eC 6)],
  sAs 5 (eC 1),
  sWh (eL 5) [Z2i (eL 4) [sAs 3 (eAdd (eL 3) (eC 1)),sWhen (eLt (eC 1048576) (eL 3)) [sHlt (eC 3)],sAs 4 (eM (eAdr (eL 4)) 2)] [sAs 5 (eC 0)]],
  sWhen (eNot (eQ (eL 4) (eC 38))) [sHlt (eC 2)],
  sKeep 17 (eR 5),sKeep 18 (eR 6),sKeep 19 (eR 7),sKeep 20 (eR 8),sKeep 21 (eR 9),
  sAs 4 (eL 2),sAs 5 (eL 1),
  sWh (eLt (eL 5) (eC 6)) [Z2i (eL 4) [sPut (eAdd (eL 5) (eC 17)) 0 (eM (eAdr (eL 4)) 1),sAs 4 (eM (eAdr (eL 4)) 2)] [],sAs 5 (eAdd (eL 5) (eC 1))],
  sSet 1 (eL 0),sSet 2 (eAdd (eL 1) (eL 3)),sSet 10 (eL 4),
  sSet 4 (eW 17),sSet 5 (eW 18),sSet 6 (eW 19),sSet 7 (eW 20),sSet 8 (eW 21),sSet 9 (eW 22),
  sGo (eShr (eM (eAdr (eR 1)) 1) 2)]⟩
def Z2k:BR:=⟨Zy8,0,1,false,
 [sKeep 4 (eShr (eW 1) 1),sKeep 2 (eA kEnd),sKeep 3 (eAdd (eW 2) (eW 4)),sKeep 6 (eC 0),sKeep 8 (eC 0),sAs 0 (eC 1312),
  sWh (eLt (eL 0) (eA kStatic)) [sPut (eL 0) 0 (eC 70),sAs 0 (eAdd (eL 0) (eC 1))],
  sSet 26 (eW 2),sSet 27 (eW 3),sSet 1 (eC 0),sSet 2 (eC 0),Z4j kF0]⟩
def Zxt (n code:Int):BR:=⟨kRt n,0,0,false,[sHlt (eC code)]⟩
def Z2l:Obj:=⟨Zy6,[bL Zy6,bI 15 28 0 0 1056,bA 25 Zy8,bI 33 0 25 0 0]⟩
def oMain:Obj:=⟨kMain,[bL kF0,bI 15 4 0 0 9,bI 36 0 4 0 0]⟩
def ofR (r:BR):Obj:=⟨r.name,bItems r⟩
def rs26:List BR:=[Z2k,rMove,rScan,rFrame,rCollect,rReserve,Z3t,rEnter,Z3u,Z2j,Zxt 103 5,Zxt 104 2,Zxt 105 6,Zxt 106 0]
def objs26:List Obj:=Z2l::rs26.map ofR
end S
end
section
open Go.RowKit
namespace S
mutual
def pureE:BE->Bool
 | .mk op _ _ kids=>decide (op=1\/op=2\/op=3\/op=4\/op=5\/op=7\/op=9\/op=10) && pureEs kids
def pureEs:List BE->Bool
 | []=>true
 | e::r=>pureE e && pureEs r
end
def opV (I:Img)(lk:Int)(op n:Int)(name:ByteArray)(env vs:List Int)(st:Vw):Int :=
 if op=1 then n%4294967296 else if op=2 then env.getD n.toNat 0 else if op=3 then st.reg n else if op=4 then alu n (vs.getD 0 0) (vs.getD 1 0)
 else if op=5 then st.mem (u32m (vs.getD 0 0+n)) else if op=7 then (if vs.getD 0 0=vs.getD 1 0 then 1 else 0) else if op=9 then I.lab name else lk
def opOk (I:Img)(op n:Int)(vs:List Int):Prop :=
 if op=4 then (vs.getD 1 0=0->n≠5/\n≠6) else if op=5 then u32m (vs.getD 0 0+n)<I.size/\¬ I.stk (u32m (vs.getD 0 0+n)) else True
def opC (op:Int):Nat:=if op=1\/op=9 then 2 else if op=7 then 3 else 1
mutual
def evE (I:Img)(lk:Int)(env:List Int)(st:Vw):BE->Int
 | .mk op n name kids=>opV I lk op n name env (evEs I lk env st kids) st
def evEs (I:Img)(lk:Int)(env:List Int)(st:Vw):List BE->List Int
 | []=>[]
 | e::r=>evE I lk env st e::evEs I lk env st r
end
mutual
def okE (I:Img)(lk:Int)(env:List Int)(st:Vw):BE->Prop
 | .mk op n name kids=>okEs I lk env st kids/\opOk I op n (evEs I lk env st kids)
def okEs (I:Img)(lk:Int)(env:List Int)(st:Vw):List BE->Prop
 | []=>True
 | e::r=>okE I lk env st e/\okEs I lk env st r
end
mutual
def coE:BE->Nat
 | .mk op _ _ kids=>coEs kids+opC op
def coEs:List BE->Nat
 | []=>0
 | e::r=>coE e+coEs r
end
end S
section
variable {I:S.Img}{dep lk:Int}
mutual
theorem Zbh:∀ {e:S.BE} {env:List Int} {at_:Nat} {st:S.Vw} {c:Nat} {Q H:Int->S.Vw->Nat->Prop},S.pureE e=true->S.okE I lk env st e->Q (S.evE I lk env st e) st (c+S.coE e)->S.wpE I dep lk env e at_ st c Q H
 | .mk op n name kids,env,at_,st,c,Q,H,hp,hok,hQ=>by
  simp only [S.pureE,Bool.and_eq_true,decide_eq_true_eq] at hp;obtain ⟨hop,hpk⟩:=hp;rw [S.okE] at hok;rw [S.evE,S.coE] at hQ;rw [Zy7];refine Zgk hpk hok.1 ?_;have hok2:=hok.2;unfold S.opOk at hok2;unfold S.opV S.opC at hQ;unfold S.wpOp;rw [<- Ybn] at hQ;rcases hop with rfl | rfl | rfl | rfl | rfl | rfl | rfl | rfl
  ·exact hQ
  ·exact hQ
  ·exact hQ
  ·exact ⟨hok2,hQ⟩
  ·exact ⟨hok2.1,hok2.2,hQ⟩
  ·exact hQ
  ·exact hQ
  ·exact hQ
theorem Zgk:∀ {l:List S.BE} {env:List Int} {at_:Nat} {st:S.Vw} {c:Nat} {Q:List Int->S.Vw->Nat->Prop} {H:Int->S.Vw->Nat->Prop},S.pureEs l=true->S.okEs I lk env st l->Q (S.evEs I lk env st l) st (c+S.coEs l)->S.wpEs I dep lk env l at_ st c Q H
 | [],env,at_,st,c,Q,H,_,_,hQ=>by
  rw [S.wpEs];exact hQ
 | e::r,env,at_,st,c,Q,H,hp,hok,hQ=>by
  simp only [S.pureEs,Bool.and_eq_true] at hp;rw [S.okEs] at hok;rw [S.evEs,S.coEs] at hQ;rw [S.wpEs];refine Zbh hp.1 hok.1 (Zgk hp.2 hok.2 ?_);rw [Ybn];exact hQ
end
section
variable {env:List Int}{st:S.Vw}
theorem Z3v (n:Int):S.evE I lk env st (S.eC n)=n%4294967296:=rfl
theorem Z4k (a:S.BE)(n:Int):S.evE I lk env st (S.eM a n)=st.mem (S.u32m (S.evE I lk env st a+n)):=rfl
theorem Zb1 (n:Int):S.okE I lk env st (S.eC n):=⟨trivial,trivial⟩
theorem Zcy (n:Int):S.okE I lk env st (S.eL n):=⟨trivial,trivial⟩
theorem Znp (n:Int):S.okE I lk env st (S.eR n):=⟨trivial,trivial⟩
theorem Z4l (s:ByteArray):S.okE I lk env st (S.eA s):=⟨trivial,trivial⟩
theorem Zfe {op:Int}{a b:S.BE}(ho:op≠5/\op≠6)(ha:S.okE I lk env st a)(hb:S.okE I lk env st b):S.okE I lk env st (S.eB op a b):=⟨⟨ha,hb,trivial⟩,fun _=>ho⟩
theorem Z0o {a b:S.BE}(ha:S.okE I lk env st a)(hb:S.okE I lk env st b):S.okE I lk env st (S.eQ a b):=⟨⟨ha,hb,trivial⟩,trivial⟩
theorem Z1g {a:S.BE}{n:Int}(ha:S.okE I lk env st a)(h:S.u32m (S.evE I lk env st a+n)<I.size/\¬ I.stk (S.u32m (S.evE I lk env st a+n))):S.okE I lk env st (S.eM a n):=⟨⟨ha,trivial⟩,h⟩
end
section
variable {behind:Bool}{env:List Int}{st:S.Vw}{c:Nat}{Q:List Int->S.Vw->Nat->Prop}{R:S.BO->Nat->Prop}
theorem Zed {n:Int}{e:S.BE}{r:List S.BS}(hp:S.pureE e=true)(hok:S.okE I lk env st e)(h:S.wpSs I dep lk behind r (env.set n.toNat (S.evE I lk env st e)) st (c+S.coE e+1) Q R):S.wpSs I dep lk behind (S.sAs n e::r) env st c Q R:=by
 rw [Zfi,Z2c];exact Zbh hp hok h
theorem Zqt {n:Int}{e:S.BE}{r:List S.BS}(hp:S.pureE e=true)(hok:S.okE I lk env st e)(h:S.wpSs I dep lk behind r env (st.set n (S.evE I lk env st e)) (c+S.coE e+1) Q R):S.wpSs I dep lk behind (S.sSet n e::r) env st c Q R:=by
 rw [Zfi,Z0m];exact Zbh hp hok h
theorem Zb2 {a e:S.BE}{n:Int}{r:List S.BS}(hpa:S.pureE a=true)(hoka:S.okE I lk env st a)(hp:S.pureE e=true)(hok:S.okE I lk env st e){p:Int}(hpe:S.u32m (S.evE I lk env st a+n)=p)
 (h1:p<I.size/\¬ I.stk p/\¬ I.code p) (h:S.wpSs I dep lk behind r env (st.sto p (S.evE I lk env st e)) (c+S.coE a+S.coE e+1) Q R):S.wpSs I dep lk behind (S.sPut a n e::r) env st c Q R:=by
 subst hpe;rw [Zfi,Zut];exact Zbh hpa hoka (Zbh hp hok ⟨h1.1,h1.2.1,h1.2.2,h⟩)
theorem Zjw {e:S.BE}{b l r:List S.BS}(hp:S.pureE e=true)(hok:S.okE I lk env st e)(h0:S.evE I lk env st e=0->S.wpSs I dep lk behind l env st (c+S.coE e+4) (fun env st c=>S.wpSs I dep lk behind r env st c Q R) R)
 (h1:S.evE I lk env st e≠0->S.wpSs I dep lk behind b env st (c+S.coE e+4) (fun env st c=>S.wpSs I dep lk behind r env st (c+3) Q R) R):S.wpSs I dep lk behind (S.sIf e b l::r) env st c Q R:=by
 rw [Zfi,Z2d];refine Zbh hp hok ?_
 split
 ·rename_i h;exact h0 h
 ·rename_i h;exact h1 h
theorem Zuv {e:S.BE}{b r:List S.BS}(hp:S.pureE e=true)(J:List Int->S.Vw->Nat->Nat->Prop){k0:Nat}(h0:J env st c k0)
 (hJ:∀ env st c k,J env st c k->S.okE I lk env st e/\(S.evE I lk env st e=0->S.wpSs I dep lk behind r env st (c+S.coE e+4) Q R) /\
  (S.evE I lk env st e≠0->S.wpSs I dep lk behind b env st (c+S.coE e+4) (fun Zml st2 c2=>∃ k2,k2<k/\J Zml st2 (c2+3) k2) R)):S.wpSs I dep lk behind (S.sWh e b::r) env st c Q R:=by
 rw [Zfi,Z2e];refine ⟨J,⟨k0,h0⟩,fun env st c k h=>?_⟩;obtain ⟨h1,h2,h3⟩:=hJ env st c k h;refine Zbh hp h1 ?_
 split
 ·rename_i h;exact h2 h
 ·rename_i h;exact h3 h
theorem Zqu {e:S.BE}{r:List S.BS}(hp:S.pureE e=true)(hok:S.okE I lk env st e)(h:R (.ret (st.set 4 (S.evE I lk env st e))) (c+S.coE e+1+(if behind=true then 5 else 3))):S.wpSs I dep lk behind (S.sVal e::r) env st c Q R:=by
 rw [Zfi,S.sVal,Z2f];exact Zbh hp hok h
theorem Za0 (h:Q env st c):S.wpSs I dep lk behind [] env st c Q R:=by
 rw [Z2b];exact h
theorem Zxu {name:ByteArray}{l:List S.BE}{r:List S.BS}(hp:S.pureEs l=true)(hok:S.okEs I lk env st l){d:Int}{T:Int->S.BO->Nat->Prop}(hreal:S.Real I name false (st.args (S.evEs I lk env st l)) d T)(hd:d<=dep)
 (h:∀ ret o k,T ret o k->(match o with
  | .ret st2=>S.wpSs I dep lk behind r env st2 (c+S.coEs l+2*0+(S.evEs I lk env st l).length+4+k) Q R
  | .halt code st2=>R (.halt code st2) (c+S.coEs l+2*0+(S.evEs I lk env st l).length+4+k)
  | .left _ _=>False)):S.wpSs I dep lk behind (S.sDo (S.eF name l)::r) env st c Q R:=by
 rw [Zfi,Z2g,Z18];refine Zgk hp hok ⟨d,T,hreal,hd,fun ret o k hT=>?_⟩;have:=h ret o k hT
 cases o <;> exact this
end
end
theorem Zqv {x:Int}(i:Nat)(m:Int)(hm:m=2^i-1)(hi:i<=32)(h0:0<=x)(h1:x<4294967296):S.alu 7 x m=x%(m+1):=by
 show bits .and .u32 x m=_
 exact Z1 i x (m+1) m (by omega) (by omega) hi h0 h1
theorem Z3w {x:Int}(h0:0<=x)(h1:x<4294967296):S.alu 7 x (3%4294967296)=x%4:=Zqv 2 3 (by decide) (by decide) h0 h1
theorem Z4m {x:Int}(h0:0<=x)(h1:x<4294967296):S.alu 7 x (1%4294967296)=x%2:=Zqv 1 1 (by decide) (by decide) h0 h1
theorem Z4n (x:Int):S.alu 11 x (2%4294967296)=x/4:=rfl
theorem Z4o (x:Int):S.alu 11 x (5%4294967296)=x/32:=rfl
theorem Z4p (x:Int):S.alu 11 x (1%4294967296)=x/2:=rfl
theorem Z4q (x:Int):S.alu 10 x (2%4294967296)=S.u32m (x*4):=rfl
theorem Zqw (x y:Int):S.alu 1 x y=S.u32m (x+y):=rfl
theorem Z4r (x y:Int):S.alu 2 x y=S.u32m (x-y):=rfl
theorem Znq (x y:Int):S.alu 14 x y=if x<y then 1 else 0:=by
 show S.truth (x<y)=_
 unfold S.truth
 split <;> simp_all
theorem or1 {x:Int}(h0:0<=x)(h1:x<4294967296)(h:x%4=0):S.alu 8 x (1%4294967296)=x+1:=by
 show bits .or .u32 x 1=_
 exact Z5 2 x 1 4 (by decide) h0 h h1 (by decide) (by decide) (by decide)
end
section
open Go.RowKit
namespace S
structure Ob where
 at_:Int
 ws:List Int
def tot:List Ob->Int
 | []=>0
 | o::r=>o.ws.length+tot r
def nw (t:Int):List Ob->Int->Option Int
 | [],_=>none
 | o::r,a=>if o.at_=a then some t else nw (t+o.ws.length) r a
def mv (t:Int)(ρ:List Ob)(w:Int):Int:=if w%4=1 then (match nw t ρ (w/4) with | some ν=>4*ν+1 | none=>w) else w
def Dat (I:Img)(a:Int):Prop:=0<=a/\a<I.size/\¬ I.stk a/\¬ I.code a
structure Cf where
 O:List Ob
 fr:Int
 to_:Int
 hf:Int
structure ObOk (o:Ob):Prop where
 word:∀ w∈o.ws,0<=w/\w<4294967296
 head:∃ h r,o.ws=h::r/\h%4=3/\h/32=r.length
structure Cf.Ok (I:Img)(cf:Cf):Prop where
 frd:∀ a,cf.fr<=a->a<cf.fr+cf.hf->Dat I a
 tod:∀ a,cf.to_<=a->a<cf.to_+cf.hf->Dat I a
 apart:cf.fr+cf.hf<=cf.to_\/cf.to_+cf.hf<=cf.fr
 fr0:1312<=cf.fr
 to0:1312<=cf.to_
 hf0:0<=cf.hf
 frz:cf.fr+cf.hf<=335544320
 toz:cf.to_+cf.hf<=335544320
 low:∀ a,0<=a->a<1056->Dat I a
 obs:∀ o∈cf.O,ObOk o/\cf.fr<=o.at_/\o.at_+o.ws.length<=cf.fr+cf.hf
 dis:∀ o∈cf.O,∀ o'∈cf.O,o≠o'->o.at_+o.ws.length<=o'.at_\/o'.at_+o'.ws.length<=o.at_
 nd:cf.O.Nodup
 sum:tot cf.O<=cf.hf
structure Ch (cf:Cf)(ρ:List Ob)(st:Vw):Prop where
 sub:∀ o∈ρ,o∈cf.O
 nd:ρ.Nodup
 r29:st.reg 29=cf.to_+tot ρ
 m2:st.mem 2=cf.fr
 m4:st.mem 4=cf.hf
 unc:∀ o∈cf.O,o ∉ ρ->∀ (k:Nat) (w:Int),o.ws[k]?=some w->st.mem (o.at_+(k:Int))=w
 cop:∀ o∈ρ,∀ ν,nw cf.to_ ρ o.at_=some ν->st.mem o.at_=4*ν+1
def WOk (cf:Cf)(T:Ob->Prop)(w:Int):Prop:=0<=w/\w<4294967296/\(w%4=1->(∃ o∈cf.O,T o/\w=4*o.at_+1)\/w/4<cf.fr\/cf.fr+cf.hf<=w/4)
def Cl (cf:Cf)(ρ:List Ob)(w:Int):Prop:=∀ o∈cf.O,w=4*o.at_+1->o∈ρ
structure Tr (cf:Cf)(T:Ob->Prop)(ρ:List Ob)(st:Vw)(ρ':List Ob)(st':Vw):Prop where
 ext:∃ δ,ρ'=ρ++δ/\∀ o∈δ,T o
 ch:Ch cf ρ' st'
 reg:∀ j,j≠4->j≠5->j≠29->st'.reg j=st.reg j
 mem:∀ a,¬ (cf.fr<=a/\a<cf.fr+cf.hf)->¬ (cf.to_+tot ρ<=a/\a<cf.to_+tot ρ')->st'.mem a=st.mem a
 new:∀ o∈ρ',o ∉ ρ->∀ ν,nw cf.to_ ρ' o.at_=some ν->∀ (k:Nat) (w:Int),o.ws[k]?=some w->st'.mem (ν+(k:Int))=w
 inp:st'.inp=st.inp
 out:st'.out=st.out
end S
theorem Zbb (a b:List S.Ob):S.tot (a++b)=S.tot a+S.tot b:=by
 induction a with
 | nil=>simp [S.tot]
 | cons o r ih=>rw [Y4,S.tot,S.tot,ih];omega
theorem Zu:∀ l:List S.Ob,0<=S.tot l
 | []=>by simp [S.tot]
 | o::r=>by have:=Zu r;rw [S.tot];omega
theorem Zbn:∀ (ρ O:List S.Ob),ρ.Nodup->(∀ o∈ρ,o∈O)->S.tot ρ<=S.tot O
 | [],O,_,_=>by rw [S.tot];exact Zu O
 | o::r,O,hn,hs=>by
  obtain ⟨A,B,rfl⟩:=List.append_of_mem (hs o Y1);obtain ⟨h1,h2⟩:=Ybz.1 hn;have:=Zbn r (A++B) h2 fun x hx=>by
   have hm:=hs x (Y0 _ hx);rw [Yw,Yz] at hm;rcases hm with hm | rfl | hm
   ·exact Ybg _ hm
   ·exact absurd hx h1
   ·exact Yb7 _ hm
  rw [S.tot,Zbb,S.tot];rw [Zbb] at this;omega
theorem Zxv {ρ O:List S.Ob}{o:S.Ob}(hn:ρ.Nodup)(hs:∀ o∈ρ,o∈O)(ho:o∈O)(hno:o ∉ ρ):S.tot ρ+o.ws.length<=S.tot O:=by
 have:=Zbn (o::ρ) O (Ybz.2 ⟨hno,hn⟩) fun x hx=>by
  rcases Yz.1 hx with rfl | hx
  ·exact ho
  ·exact hs x hx
 rw [S.tot] at this;omega
theorem Zes {t:Int}{a:Int}:∀ {ρ:List S.Ob} {ν:Int} (δ:List S.Ob),S.nw t ρ a=some ν->S.nw t (ρ++δ) a=some ν
 | [],ν,δ,h=>by simp [S.nw] at h
 | o::r,ν,δ,h=>by
  rw [Y4,S.nw];rw [S.nw] at h
  split
  ·rename_i c;rw [if_pos c] at h;exact h
  ·rename_i c;rw [if_neg c] at h;exact Zes δ h
theorem Zuw {t a:Int}:∀ {ρ:List S.Ob},S.nw t ρ a=none->∀ o∈ρ,o.at_≠a
 | [],_,o,ho=>by cases ho
 | x::r,h,o,ho=>by
  rw [S.nw] at h
  split at h
  ·cases h
  ·rename_i c
   rcases Yz.1 ho with rfl | ho
   ·exact c
   ·exact Zuw h o ho
theorem Zux {t a:Int}:∀ {ρ:List S.Ob} {o:S.Ob},(∀ x∈ρ,x.at_≠a)->o.at_=a->S.nw t (ρ++[o]) a=some (t+S.tot ρ)
 | [],o,_,ho=>by rw [Yab,S.nw,if_pos ho,S.tot,Int.add_zero]
 | x::r,o,h,ho=>by
  rw [Y4,S.nw,if_neg (h x Y1),Zux (fun y hy=>h y (Y0 _ hy)) ho,S.tot]
  congr 1
  omega
theorem Zd1 {a:Int}:∀ {ρ:List S.Ob} {t ν:Int},S.nw t ρ a=some ν->∃ o∈ρ,o.at_=a/\t<=ν/\ν+o.ws.length<=t+S.tot ρ
 | [],t,ν,h=>by simp [S.nw] at h
 | x::r,t,ν,h=>by
  rw [S.nw] at h;have hr:=Zu r
  split at h
  ·rename_i c
   cases h
   exact ⟨x,Y1,c,Int.le_refl _,by rw [S.tot];omega⟩
  ·obtain ⟨o,ho,h1,h2,h3⟩:=Zd1 h
   exact ⟨o,Y0 _ ho,h1,by omega,by rw [S.tot];omega⟩
theorem Zg4 {t:Int}{ρ:List S.Ob}{o:S.Ob}(h:o∈ρ):∃ ν,S.nw t ρ o.at_=some ν:=by
 cases hq:S.nw t ρ o.at_ with
 | some ν=>exact ⟨ν,rfl⟩
 | none=>exact absurd rfl (Zuw hq o h)
section
variable {I:S.Img}{cf:S.Cf}(hc:S.Cf.Ok I cf)
include hc
theorem Zhi {o:S.Ob}(ho:o∈cf.O):1<=o.ws.length:=by
 obtain ⟨h,r,e,_⟩:=(hc.obs o ho).1.head;rw [e];simp
theorem Zr6 {o o':S.Ob}(ho:o∈cf.O)(ho':o'∈cf.O)(h:o.at_=o'.at_):o=o':=by
 refine Classical.byContradiction fun hne=>?_
 have h1:=Zhi hc ho;have h2:=Zhi hc ho';rcases hc.dis o ho o' ho' hne with h3 | h3 <;> omega
theorem Znr {t:Int}{ρ:List S.Ob}(hs:∀ o∈ρ,o∈cf.O){o:S.Ob}(ho:o∈cf.O){ν:Int}(h:S.nw t ρ o.at_=some ν):o∈ρ/\t<=ν/\ν+o.ws.length<=t+S.tot ρ:=by
 obtain ⟨x,hx,e,h1,h2⟩:=Zd1 h;have:=Zr6 hc (hs x hx) ho e;subst this;exact ⟨hx,h1,h2⟩
theorem S.Tr.sub {T:S.Ob->Prop}{ρ ρ':List S.Ob}{st st':S.Vw}(h:S.Tr cf T ρ st ρ' st'){o:S.Ob}(ho:o∈ρ):o∈ρ':=by
 obtain ⟨δ,e,_⟩:=h.ext;rw [e];exact Ybg _ ho
end
end
section
open Go.RowKit
theorem Zuy:S.chkB S.rMove=0:=by kernel_rfl
theorem Z4s {env:List Int}(h:(env.length:Int)=4):∃ a b c d,env=[a,b,c,d]:=by
 match env,h with
 | [a,b,c,d],_=>exact ⟨a,b,c,d,rfl⟩
 | [],h=>simp at h
 | [_],h=>simp at h
 | [_,_],h=>simp at h
 | [_,_,_],h=>simp at h
 | _::_::_::_::_::_,h=>simp at h;omega
def S.dl (cf:S.Cf)(T:S.Ob->Prop)(ρ:List S.Ob)(st:S.Vw)(w:Int)(o:S.BO)(k:Nat):Prop :=
 ∃ st' ρ',o=.ret st'/\S.Tr cf T ρ st ρ' st'/\st'.reg 4=S.mv cf.to_ ρ' w/\S.Cl cf ρ' w/\(k:Int)<=100+40*(S.tot ρ'-S.tot ρ)
theorem Zqx {I:S.Img}{a:Int}(h:S.Dat I a):a<I.size/\¬ I.stk a:=⟨h.2.1,h.2.2.1⟩
section
variable {I:S.Img}(hI:I.Ok){cf:S.Cf}(hc:S.Cf.Ok I cf){T:S.Ob->Prop}
include hI hc
theorem Z0p {ρ:List S.Ob}{st:S.Vw}(h:S.Ch cf ρ st)(v:Int):S.Ch cf ρ (st.set 4 v):=⟨h.sub,h.nd,h.r29,h.m2,h.m4,h.unc,h.cop⟩
theorem Z0q {ρ:List S.Ob}{st:S.Vw}(h:S.Ch cf ρ st)(v:Int):S.Tr cf T ρ st ρ (st.set 4 v) :=
 ⟨⟨[],(List.append_nil _).symm,fun o ho=>by cases ho⟩,Z0p hI hc h v,fun j h4 _ _=>by show (if j=4 then v else st.reg j)=_;rw [if_neg h4],fun _ _ _=>rfl,fun o ho hno=>absurd ho hno,rfl,rfl⟩
theorem Zr7 {lk:Int}{env:List Int}{st:S.Vw}{n:Int}(h0:0<=n)(h1:n<1056):S.okE I lk env st (S.eW n)/\S.evE I lk env st (S.eW n)=st.mem n:=by
 have e:S.u32m (n%4294967296+0)=n:=by unfold S.u32m;omega
 refine ⟨Z1g (Zb1 n) ?_,?_⟩
 ·rw [Z3v,e];exact Zqx (hc.low n h0 h1)
 ·show st.mem (S.u32m (S.evE I lk env st (S.eC n)+0))=_
  rw [Z3v,e]
structure Z4t (cf:S.Cf)(st:S.Vw)(f:Int)(ws:List Int)(i:Nat)(st':S.Vw):Prop where
 reg:st'.reg=st.reg
 inp:st'.inp=st.inp
 out:st'.out=st.out
 mem:∀ a,¬ (f<=a/\a<f+i)->st'.mem a=st.mem a
 new:∀ (j:Nat) (w:Int),j<i->ws[j]?=some w->st'.mem (f+(j:Int))=w
theorem Zuz {i:Nat}(hs:S.Seg I S.kMove i (S.bItems S.rMove)){ρ:List S.Ob}{st:S.Vw}(hch:S.Ch cf ρ st){w:Int}(hw:st.reg 4=w)(hok:S.WOk cf T w) :
 S.Real I S.kMove false st 19 (fun _ o k=>S.dl cf T ρ st w o k):=by
 refine Zg5 hI S.rMove Zuy hs (dep:=0) (Int.le_refl _) st _ fun lk env _ _ hl hp=>?_
 obtain ⟨e0,e1,e2,e3,rfl⟩:=Z4s hl;have h0:e0=st.reg 4:=hp 0 (show (0:Int)<1 by decide);rw [hw] at h0;subst h0;obtain ⟨w0,w1,hwp⟩:=hok;have nop:∀ (v:Int) (c:Nat),v=S.mv cf.to_ ρ e0->S.Cl cf ρ e0->c<=100->S.dl cf T ρ st e0 (.ret (st.set 4 v)) c:=fun v c hv hcl hcc =>
  ⟨_,ρ,rfl,Z0q hI hc hch v,by rw [<- hv];exact Zm _ _ _,hcl,by omega⟩
 have hand:S.evE I lk [e0,e1,e2,e3] st (S.eAnd (S.eL 0) (S.eC 3))=e0%4:=by
  show S.alu 7 e0 (3%4294967296)=_
  exact Z3w w0 w1
 have okand:∀ env,S.okE I lk env st (S.isRef (S.eL 0)):=fun env=>Z0o (Zfe (by decide) (Zcy 0) (Zb1 3)) (Zb1 1)
 have href:S.evE I lk [e0,e1,e2,e3] st (S.isRef (S.eL 0))=if e0%4=1 then 1 else 0:=by
  show (if S.evE I lk [e0,e1,e2,e3] st (S.eAnd (S.eL 0) (S.eC 3))=_ then (1:Int) else 0)=_
  rw [hand];rfl
 unfold S.rMove;simp only;refine Zjw rfl (Z0o (okand _) (Zb1 0)) (fun hz=>?_) (fun hnz=>?_)
 rotate_left
 ·-- no pointer
  have hnp:¬ e0%4=1:=fun hp=>hnz (by
   show (if S.evE I lk [e0,e1,e2,e3] st (S.isRef (S.eL 0))=(0:Int)%4294967296 then (1:Int) else 0)=0
   rw [href,if_pos hp];rfl)
  refine Zqu rfl (Zcy 0) (nop _ _ ?_ ?_ (by decide))
  ·show e0=S.mv cf.to_ ρ e0
   unfold S.mv;rw [if_neg hnp]
  ·intro o ho he
   omega
 have hp:e0%4=1:=Classical.byContradiction fun hnp=>by
  have:S.evE I lk [e0,e1,e2,e3] st (S.eNot (S.isRef (S.eL 0)))=1:=by
   show (if S.evE I lk [e0,e1,e2,e3] st (S.isRef (S.eL 0))=(0:Int)%4294967296 then (1:Int) else 0)=1
   rw [href,if_neg hnp];rfl
  rw [hz] at this
  cases this
 refine Za0 ?_;refine Zed rfl (Zfe (by decide) (Zcy 0) (Zb1 2)) ?_;have ea:S.evE I lk [e0,e1,e2,e3] st (S.eAdr (S.eL 0))=e0/4:=by show S.alu 11 e0 (2%4294967296)=_;exact Z4n _
 rw [ea]
 show S.wpSs I 0 lk false _ [e0,e0/4,e2,e3] st _ _ _
 obtain ⟨a,ha⟩:=Yx (e0/4);rw [<- ha];rw [<- ha] at hwp;have a0:0<=a/\a<1073741824:=by omega
 have he0:e0=4*a+1:=by omega
 obtain ⟨okW2,evW2⟩:=Zr7 hI hc (lk:=lk) (env:=[e0,a,e2,e3]) (st:=st) (n:=2) (by decide) (by decide);obtain ⟨okW4,evW4⟩:=Zr7 hI hc (lk:=lk) (env:=[e0,a,e2,e3]) (st:=st) (n:=4) (by decide) (by decide);rw [hch.m2] at evW2;rw [hch.m4] at evW4;have hfr0:=hc.fr0;have hhf0:=hc.hf0;have hfrz:=hc.frz;have eout:S.evE I lk [e0,a,e2,e3] st (S.eLt (S.eSub (S.eL 1) (S.eW 2)) (S.eW 4))=if S.u32m (a-cf.fr)<cf.hf then 1 else 0:=by
  show S.alu 14 (S.alu 2 a (S.evE I lk [e0,a,e2,e3] st (S.eW 2))) (S.evE I lk [e0,a,e2,e3] st (S.eW 4))=_
  rw [evW2,evW4,Znq,Z4r]
 have hin:S.u32m (a-cf.fr)<cf.hf↔cf.fr<=a/\a<cf.fr+cf.hf:=by
  unfold S.u32m
  constructor
  ·intro h;omega
  ·intro h;omega
 refine Zjw rfl (Z0o (Zfe (by decide) (Zfe (by decide) (Zcy 1) okW2) okW4) (Zb1 0)) (fun hz2=>?_) (fun hnz2=>?_)
 rotate_left
 ·-- elsewhere
  have hno:¬ (cf.fr<=a/\a<cf.fr+cf.hf):=fun hq=>hnz2 (by
   show (if S.evE I lk [e0,a,e2,e3] st (S.eLt (S.eSub (S.eL 1) (S.eW 2)) (S.eW 4))=(0:Int)%4294967296 then (1:Int) else 0)=0
   rw [eout,if_pos (hin.2 hq)];rfl)
  have hnone:S.nw cf.to_ ρ a=none:=by
   cases hq:S.nw cf.to_ ρ a with
   | none=>rfl
   | some ν =>
    exfalso
    obtain ⟨o,ho,eo,_⟩:=Zd1 hq;have:=hc.obs o (hch.sub o ho);have hl:=Zhi hc (hch.sub o ho);omega
  refine Zqu rfl (Zcy 0) (nop _ _ ?_ ?_ (by decide))
  ·show e0=S.mv cf.to_ ρ e0
   unfold S.mv;rw [if_pos hp,<- ha,hnone]
  ·intro o ho he
   have:=hc.obs o ho;have hl:=Zhi hc ho;omega
 have hat:cf.fr<=a/\a<cf.fr+cf.hf:=Classical.byContradiction fun hq=>by
  have:S.evE I lk [e0,a,e2,e3] st (S.eNot (S.eLt (S.eSub (S.eL 1) (S.eW 2)) (S.eW 4)))=1:=by
   show (if S.evE I lk [e0,a,e2,e3] st (S.eLt (S.eSub (S.eL 1) (S.eW 2)) (S.eW 4))=(0:Int)%4294967296 then (1:Int) else 0)=1
   rw [eout,if_neg (fun h=>hq (hin.1 h))];rfl
  rw [hz2] at this
  cases this
 refine Za0 ?_;obtain ⟨ob,hob,hT,hobe⟩:∃ o∈cf.O,T o/\e0=4*o.at_+1:=by
  rcases hwp hp with h | h | h
  ·exact h
  ·omega
  ·omega
 have haob:a=ob.at_:=by omega
 subst haob;obtain ⟨hobok,hob1,hob2⟩:=hc.obs ob hob;obtain ⟨hd,ws,hws,hd3,hdl⟩:=hobok.head;have hlen:(ob.ws.length:Int)=hd/32+1:=by rw [hws,hdl];simp
 have hdb:=hobok.word hd (by rw [hws];exact Y1);have hw0:ob.ws[0]?=some hd:=by rw [hws];rfl
 have u1:S.u32m (ob.at_+0)=ob.at_:=by unfold S.u32m;omega
 have datA:S.Dat I ob.at_:=hc.frd _ hat.1 hat.2;have okm:∀ (env:List Int) (st:S.Vw),S.evE I lk env st (S.eL 1)=ob.at_->S.okE I lk env st (S.eM (S.eL 1) 0):=fun env st he=>Z1g (Zcy 1) (by rw [he,u1];exact Zqx datA)
 refine Zed rfl (okm _ _ rfl) ?_;have em:S.evE I lk [e0,ob.at_,e2,e3] st (S.eM (S.eL 1) 0)=st.mem ob.at_:=by
  show st.mem (S.u32m (ob.at_+0))=_
  rw [u1]
 rw [em]
 show S.wpSs I 0 lk false _ [e0,ob.at_,st.mem ob.at_,e3] st _ _ _
 by_cases hmem:ob∈ρ
 ·-- it has been copied
  obtain ⟨ν,hν⟩:=Zg4 (t:=cf.to_) hmem;have hcop:=hch.cop ob hmem ν hν;obtain ⟨_,hν1,hν2⟩:=Znr hc hch.sub hob hν;have hto0:=hc.to0;have htoz:=hc.toz;have hsum:=Zbn ρ cf.O hch.nd hch.sub;have hsum2:=hc.sum;rw [hcop];have hand2:S.evE I lk [e0,ob.at_,4*ν+1,e3] st (S.isRef (S.eL 2))=1:=by
   show (if S.alu 7 (4*ν+1) (3%4294967296)=(1:Int)%4294967296 then (1:Int) else 0)=1
   rw [Z3w (by omega) (by omega),if_pos (by omega)]
  refine Zjw rfl (Z0o (Zfe (by decide) (Zcy 2) (Zb1 3)) (Zb1 1)) (fun h=>by rw [hand2] at h;cases h) (fun _=>?_);refine Zqu rfl (Zcy 2) (nop _ _ ?_ ?_ (by decide))
  ·show 4*ν+1=S.mv cf.to_ ρ e0
   unfold S.mv;rw [if_pos hp,show e0/4=ob.at_ by omega,hν]
  ·intro o ho he
   have:=Zr6 hc ho hob (by omega);rw [this];exact hmem
 have hhd:st.mem ob.at_=hd:=by
  have:=hch.unc ob hob hmem 0 hd hw0;rw [show ob.at_+((0:Nat):Int)=ob.at_ by omega] at this;exact this
 rw [hhd];have hand2:S.evE I lk [e0,ob.at_,hd,e3] st (S.isRef (S.eL 2))=0:=by
  show (if S.alu 7 hd (3%4294967296)=(1:Int)%4294967296 then (1:Int) else 0)=0
  rw [Z3w hdb.1 hdb.2,if_neg (by omega)]
 refine Zjw rfl (Z0o (Zfe (by decide) (Zcy 2) (Zb1 3)) (Zb1 1)) (fun _=>?_) (fun h=>absurd hand2 h);refine Za0 ?_;refine Zed rfl (Zfe (by decide) (Zcy 2) (Zb1 5)) ?_;have es:S.evE I lk [e0,ob.at_,hd,e3] st (S.eShr (S.eL 2) 5)=hd/32:=by show S.alu 11 hd (5%4294967296)=_;exact Z4o _
 rw [es];refine Zed rfl (Zb1 0) ?_
 show S.wpSs I 0 lk false _ [e0,ob.at_,hd/32,0] st _ _ _
 obtain ⟨f,hf⟩:=Yx (cf.to_+S.tot ρ);have hr29:st.reg 29=f:=by rw [hch.r29,hf]
 have hroom:=Zxv hch.nd hch.sub hob hmem;have hsum2:=hc.sum;have hto0:=hc.to0;have htoz:=hc.toz;have htot0:=Zu ρ;have datT:∀ x,f<=x->x<f+ob.ws.length->S.Dat I x:=fun x h1 h2=>hc.tod x (by omega) (by omega)
 have datF:∀ x,ob.at_<=x->x<ob.at_+ob.ws.length->S.Dat I x:=fun x h1 h2=>hc.frd x (by omega) (by omega)
 have hsep:∀ x y,ob.at_<=x->x<ob.at_+ob.ws.length->f<=y->y<f+ob.ws.length->x≠y:=fun x y h1 h2 h3 h4=>by
  rcases hc.apart with ap | ap <;> omega
 refine Zuv rfl (fun env st' c k=>∃ i:Nat,i<=ob.ws.length/\k=ob.ws.length-i/\env=[e0,ob.at_,hd/32,(i:Int)]/\Z4t cf st f ob.ws i st'/\c<=70+36*i)
  (k0:=ob.ws.length) ⟨0,Ycc _,rfl,rfl,⟨rfl,rfl,rfl,fun _ _=>rfl,fun j w hj=>by omega⟩,by decide⟩ ?_
 rintro env st' c k ⟨n,hn,rfl,rfl,hC,hcc⟩;have elt:S.evE I lk [e0,ob.at_,hd/32,(n:Int)] st' (S.eLt (S.eL 2) (S.eL 3))=if hd/32<(n:Int) then 1 else 0:=by
  show S.alu 14 (hd/32) (n:Int)=_
  exact Znq _ _
 have enot:S.evE I lk [e0,ob.at_,hd/32,(n:Int)] st' (S.eNot (S.eLt (S.eL 2) (S.eL 3)))=if hd/32<(n:Int) then 0 else 1:=by
  show (if S.evE I lk [e0,ob.at_,hd/32,(n:Int)] st' (S.eLt (S.eL 2) (S.eL 3))=(0:Int)%4294967296 then (1:Int) else 0)=_
  rw [elt]
  split <;> rfl
 refine ⟨Z0o (Zfe (by decide) (Zcy 2) (Zcy 3)) (Zb1 0),fun hz3=>?_,fun hnz3=>?_⟩
 rotate_left
 ·-- one word more
  have hlt:n<ob.ws.length:=by
   rcases Yck n ob.ws.length with h | h
   ·exact h
   ·exfalso
    rw [enot,if_pos (by omega)] at hnz3;exact hnz3 rfl
  have hr29':st'.reg 29=f:=by rw [hC.reg];exact hr29
  have ep:S.u32m (S.evE I lk [e0,ob.at_,hd/32,(n:Int)] st' (S.eAdd (S.eR 29) (S.eL 3))+0)=f+n:=by
   show S.u32m (S.alu 1 (st'.reg 29) (n:Int)+0)=_
   rw [hr29',Zqw];unfold S.u32m;omega
  have eq_:S.u32m (S.evE I lk [e0,ob.at_,hd/32,(n:Int)] st' (S.eAdd (S.eL 1) (S.eL 3))+0)=ob.at_+n:=by
   show S.u32m (S.alu 1 ob.at_ (n:Int)+0)=_
   rw [Zqw];unfold S.u32m;omega
  have hdat1:=datT (f+n) (by omega) (by omega);have hdat2:=datF (ob.at_+n) (by omega) (by omega);refine Zb2 rfl (Zfe (by decide) (Znp 29) (Zcy 3)) rfl (Z1g (Zfe (by decide) (Zcy 1) (Zcy 3)) (by rw [eq_];exact Zqx hdat2)) ep ⟨hdat1.2.1,hdat1.2.2.1,hdat1.2.2.2⟩ ?_;have ev:S.evE I lk [e0,ob.at_,hd/32,(n:Int)] st' (S.eM (S.eAdd (S.eL 1) (S.eL 3)) 0)=st.mem (ob.at_+n):=by
   rw [Z4k,eq_];exact hC.mem _ (fun q=>hsep (ob.at_+n) (ob.at_+n) (by omega) (by omega) q.1 (by omega) rfl)
  rw [ev];refine Zed rfl (Zfe (by decide) (Zcy 3) (Zb1 1)) ?_;have ei:S.evE I lk [e0,ob.at_,hd/32,(n:Int)] (st'.sto (f+n) (st.mem (ob.at_+n))) (S.eAdd (S.eL 3) (S.eC 1))=((n+1:Nat):Int):=by
   show S.alu 1 (n:Int) (1%4294967296)=_
   rw [Zqw];unfold S.u32m;omega
  rw [ei];refine Za0 ⟨ob.ws.length-(n+1),by omega,n+1,hlt,rfl,rfl,⟨hC.reg,hC.inp,hC.out,fun x hx=>?_,fun j w hj hw'=>?_⟩,?_⟩
  ·show (if x=f+n then _ else st'.mem x)=_
   rw [if_neg (fun e=>hx (by omega)),hC.mem x (fun q=>hx (by omega))]
  ·show (if f+(j:Int)=f+n then _ else st'.mem (f+(j:Int)))=w
   by_cases c2:j=n
   ·subst c2
    rw [if_pos rfl];exact hch.unc ob hob hmem j w hw'
   ·rw [if_neg (by omega)]
    exact hC.new j w (by omega) hw'
  ·have q1:S.coE (S.eNot (S.eLt (S.eL 2) (S.eL 3)))=8:=rfl
   have q2:S.coE (S.eAdd (S.eR 29) (S.eL 3))=3:=rfl;have q3:S.coE (S.eM (S.eAdd (S.eL 1) (S.eL 3)) 0)=4:=rfl;have q4:S.coE (S.eAdd (S.eL 3) (S.eC 1))=4:=rfl;omega
 have hnn:n=ob.ws.length:=by
  rcases Yck n ob.ws.length with h | h
  ·exfalso
   rw [enot,if_neg (by omega)] at hz3
   cases hz3
  ·omega
 subst hnn;have hr29':st'.reg 29=f:=by rw [hC.reg];exact hr29
 have ref:S.evE I lk [e0,ob.at_,hd/32,(ob.ws.length:Int)] st' (S.eRef (S.eR 29))=4*f+1:=by
  show S.alu 8 (S.alu 10 (st'.reg 29) (2%4294967296)) (1%4294967296)=_
  rw [hr29',Z4q];have e4:S.u32m (f*4)=f*4:=by unfold S.u32m;omega
  rw [e4,or1 (by omega) (by omega) (by omega)];omega
 refine Zb2 rfl (Zcy 1) rfl (Zfe (by decide) (Zfe (by decide) (Znp 29) (Zb1 2)) (Zb1 1)) u1 ⟨datA.2.1,datA.2.2.1,datA.2.2.2⟩ ?_;rw [ref];refine Zqt rfl (Zfe (by decide) (Znp 29) (Zcy 3)) ?_;have e29:S.evE I lk [e0,ob.at_,hd/32,(ob.ws.length:Int)] (st'.sto ob.at_ (4*f+1)) (S.eAdd (S.eR 29) (S.eL 3))=f+ob.ws.length:=by
  show S.alu 1 (st'.reg 29) (ob.ws.length:Int)=_
  rw [hr29',Zqw];unfold S.u32m;omega
 rw [e29];refine Zqu rfl (okm _ _ rfl) ?_;have eret:S.evE I lk [e0,ob.at_,hd/32,(ob.ws.length:Int)] ((st'.sto ob.at_ (4*f+1)).set 29 (f+ob.ws.length)) (S.eM (S.eL 1) 0)=4*f+1:=by
  show (if S.u32m (ob.at_+0)=ob.at_ then 4*f+1 else st'.mem (S.u32m (ob.at_+0)))=_
  rw [u1,if_pos rfl]
 rw [eret];have hnw:S.nw cf.to_ (ρ++[ob]) ob.at_=some f:=by rw [hf];exact Zux (fun x hx e=>hmem (Zr6 hc (hch.sub x hx) hob e ▸ hx)) rfl
 have htot:S.tot (ρ++[ob])=S.tot ρ+ob.ws.length:=by rw [Zbb,S.tot,S.tot,Int.add_zero]
 have hmemv:∀ x,(((st'.sto ob.at_ (4*f+1)).set 29 (f+ob.ws.length)).set 4 (4*f+1)).mem x=if x=ob.at_ then 4*f+1 else st'.mem x:=fun _=>rfl
 have hfar:∀ o∈cf.O,o≠ob->∀ k:Nat,k<o.ws.length->o.at_+(k:Int)≠ob.at_/\¬ (f<=o.at_+(k:Int)/\o.at_+(k:Int)<f+ob.ws.length):=fun o ho hne k hk=>by
  have h1:=hc.dis o ho ob hob hne;have h2:=(hc.obs o ho).2;refine ⟨by omega,fun q=>?_⟩;rcases hc.apart with ap | ap <;> omega
 refine ⟨_,ρ++[ob],rfl,⟨⟨[ob],rfl,fun o ho=>?_⟩,⟨fun o ho=>?_,?_,?_,?_,?_,fun o ho hno k w hw'=>?_,fun o ho ν hν=>?_⟩,fun j h4 h5 h29=>?_,fun x hx hx2=>?_,fun o ho hno ν hν k w hw'=>?_,hC.inp,hC.out⟩,?_,fun o ho he=>?_,?_⟩
 ·simp only [Yz,Y6,or_false] at ho
  subst ho;exact hT
 ·rcases Yw.1 ho with ho | ho
  ·exact hch.sub o ho
  ·simp only [Yz,Y6,or_false] at ho
   subst ho;exact hob
 ·rw [List.nodup_append]
  refine ⟨hch.nd,by simp,fun x hx y hy=>?_⟩;simp only [Yz,Y6,or_false] at hy;subst hy;intro e;subst e;exact hmem hx
 ·show (f+ob.ws.length:Int)=_
  rw [htot];omega
 ·rw [hmemv,if_neg (by omega),hC.mem 2 (by omega)]
  exact hch.m2
 ·rw [hmemv,if_neg (by omega),hC.mem 4 (by omega)]
  exact hch.m4
 ·have hno1:o ∉ ρ:=fun q=>hno (Ybg _ q)
  have hne:o≠ob:=fun e=>hno (by rw [e];exact Yb7 _ Y1)
  obtain ⟨q1,q2⟩:=hfar o ho hne k (Yg.1 hw').1;rw [hmemv,if_neg q1,hC.mem _ q2];exact hch.unc o ho hno1 k w hw'
 ·by_cases hne:o=ob
  ·subst hne
   rw [hnw] at hν
   cases hν
   rw [hmemv,if_pos rfl]
  ·have hoρ:o∈ρ:=by
    rcases Yw.1 ho with ho | ho
    ·exact ho
    ·simp only [Yz,Y6,or_false] at ho
     exact absurd ho hne
   obtain ⟨ν',hν'⟩:=Zg4 (t:=cf.to_) hoρ;have:=Zes [ob] hν';rw [hν] at this
   cases this
   have hl:=Zhi hc (hch.sub o hoρ);obtain ⟨q1,q2⟩:=hfar o (hch.sub o hoρ) hne 0 (by omega);rw [show o.at_+((0:Nat):Int)=o.at_ by omega] at q1 q2;rw [hmemv,if_neg q1,hC.mem _ q2];exact hch.cop o hoρ ν hν'
 ·show (if j=4 then _ else if j=29 then _ else st'.reg j)=_
  rw [if_neg h4,if_neg h29,hC.reg]
 ·rw [htot] at hx2
  rw [hmemv,if_neg (fun e=>hx (by omega)),hC.mem x (fun q=>hx2 (by omega))]
 ·have hne:o=ob:=by
   rcases Yw.1 ho with ho | ho
   ·exact absurd ho hno
   ·simpa using ho
  subst hne;rw [hnw] at hν
  cases hν
  have hk:=(Yg.1 hw').1;rw [hmemv,if_neg (fun e=>hsep o.at_ (f+(k:Int)) (Int.le_refl _) (by omega) (by omega) (by omega) e.symm)];exact hC.new k w hk hw'
 ·rw [Zm]
  unfold S.mv;rw [if_pos hp,show e0/4=ob.at_ by omega,hnw]
 ·have:=Zr6 hc ho hob (by omega)
  rw [this];exact Yb7 _ Y1
 ·rw [htot]
  have q1:S.coE (S.eNot (S.eLt (S.eL 2) (S.eL 3)))=8:=rfl;have q2:S.coE (S.eL 1)=1:=rfl;have q3:S.coE (S.eRef (S.eR 29))=7:=rfl;have q4:S.coE (S.eAdd (S.eR 29) (S.eL 3))=3:=rfl;have q5:S.coE (S.eM (S.eL 1) 0)=2:=rfl;simp only [Bool.false_eq_true,if_false];omega
end
end
end Go.Proofs.YtgdjocajlndonaaGreatDoor
