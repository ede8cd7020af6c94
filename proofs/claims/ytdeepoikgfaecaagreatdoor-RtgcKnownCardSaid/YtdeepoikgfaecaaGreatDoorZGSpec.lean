/- Parts. -/
import Derived.Test.YtdeepoikgfaecaaGreatDoorZMachW
import Derived.Laws.CopyOwn
import Derived.KernelRfl
set_option linter.all false
set_option maxHeartbeats 8000000
open Go.Lib renaming hid->Ya
open Nat renaming le_refl->Yf,zero_add->Yae
open List renaming length_map->Ys,replicate->Y2,nil_append->Yad,take_zero->Yam,setIfInBounds_toArray->Ycl,set_cons_succ->Yct,set_cons_zero->Ycx,getElem_cons_succ->Ycy,getElem_cons_zero->Ycz,getElem_toArray->Ydb
open Go.Value renaming int->Y1
namespace Go.Proofs.YtdeepoikgfaecaaGreatDoor
set_option maxRecDepth 100000
section
open Go.RowKit
theorem Reads.moreM {w:World}{B B':Nat}{A:Option Addr}{xs:List Value}(h:Reads w B A xs)(hB:B<=B'):Reads w B' A xs:=fun hp=>by
 obtain ⟨b,off,e,hb,hc⟩:=h hp;exact ⟨b,off,e,by omega,hc⟩
theorem MAt.copied {w:World}{B p:Nat}{vm vo:Value}{A:Option Addr}{c:Nat}{inp:List Int}{rd:Nat}{m:S.Mach}(h:MAt w B p vm vo A c inp rd m){g cap:Nat}(hv:vm=.slice (some ⟨g,0,none⟩) m.mem.length cap){cur:Array Value}(hg:w.heap[g]?=some (.cells cur 25 (0,0)))
 {L:List Int} (hL:L.length<=m.mem.length) (hw:∀ x∈L,0<=x/\x<=4294967295) :
 MAt (w.setRow g (cur.toList.take 0++(L.map (Y1 .u32)++cur.toList.drop (0+(L.map (Y1 .u32)).length))).toArray) B p vm vo A c inp rd { m with mem:=L++m.mem.drop L.length }:=by
 obtain ⟨n1,n2⟩:=h.mem_ne (k:=g) (by rw [hv];rfl);have hsame:∀ j,j≠g->(w.setRow g (cur.toList.take 0++(L.map (Y1 .u32)++cur.toList.drop (0+(L.map (Y1 .u32)).length))).toArray).heap[j]?=w.heap[j]?:=fun j hj=>setRow_other w g j _ hj
 refine ⟨⟨h.ok.regs,h.ok.word,h.ok.zero,by have:=h.ok.mem;simp;omega,fun j=>?_,h.ok.place0,h.ok.place1,h.ok.inp,h.ok.outp,h.ok.code0,h.ok.code1⟩,h.low,?_,?_,?_,?_,h.left,h.rdle,h.inl,by have:=h.low0;simp;omega,fun b o s e=>by have:=h.la b o s e;simpa using this,h.d1,h.d2⟩
 ·show 0<=(L++m.mem.drop L.length).getD j 0/\(L++m.mem.drop L.length).getD j 0<=4294967295
  by_cases hj:j<L.length
  ·have e:(L++m.mem.drop L.length).getD j 0=L[j]:=by simp [List.getElem?_append_left hj,List.getElem?_eq_getElem hj]
   rw [e];exact hw _ (List.getElem_mem _)
  ·have e:(L++m.mem.drop L.length).getD j 0=m.mem.getD j 0:=by
    simp only [List.getD_eq_getElem?_getD];rw [List.getElem?_append_right (by omega),List.getElem?_drop,show L.length+(j-L.length)=j by omega]
   rw [e];exact h.ok.memw j
 ·obtain ⟨cs,h1,h2⟩:=h.blk
  exact ⟨cs,by rw [hsame p (Ne.symm n1)];exact h1,h2⟩
 ·rcases h.mem.2 with ⟨e,_⟩ | ⟨g',cap',cur',e,h3,h4,h5,h6,h7,h8⟩
  ·rw [hv] at e;cases e
  ·rw [hv] at e
   injection e with e1 e2 e3
   injection e1 with e1
   injection e1 with e1
   subst e1 e3;rw [hg] at h4
   injection h4 with h4
   injection h4 with h4 _ _
   subst h4;have hl:(L++m.mem.drop L.length).length=m.mem.length:=by simp;omega
   refine ⟨by simp,.inr ⟨g,cap,_,by rw [hv,hl],h3,setRow_heap w g cur _ _ _ hg,by rw [hl];exact h5,h6,?_,?_⟩⟩
   ·simp;omega
   ·simp only [Yam,Yad,Nat.mul_one] at h8 ⊢
    rw [hl,List.take_append,List.take_of_length_le (by simp;omega),List.map_append,List.map_drop,<- h8,Ys,Yae,List.drop_take]
 ·exact Zu h.out fun j hj=>hsame j fun e=>n2 (e ▸ hj)
 ·exact h.rin.same (by simp) fun b' o s e=>hsame b' fun e2=>(h.d1 b' o s e).2.1 (by rw [e2,hv];rfl)
theorem Z0c {w wz:World}{n g c:Nat}{A:Option Addr}{I:List Int}(hn:1<=n)(hn2:n<=335544320)(hI:∀ x∈I,0<=x/\x<=255)(hil:I.length<=1000000)(hb:Below w.heap.size w wz)
 (hg:wz.ownsRow w.heap.size 25 1 (.slice (some ⟨g,0,none⟩) n n) n (Y2 n (Y1 .u32 0))) (hA:wz.ownsRow w.heap.size 5 1 (.slice A I.length c) I.length (I.map (Y1 .u8))) :
 MAt (wz.alloc (.cells #[.int .u32 0,.int .u32 0,.int .u32 0,.int .u32 0,.int .u32 0,.int .u32 0,.int .u32 0,.int .u32 0,.int .u32 0,.int .u32 0,.int .u32 0,.int .u32 0,.int .u32 0,.int .u32 0,.int .u32 0,.int .u32 0,.int .u32 0,.int .u32 0,.int .u32 0,.int .u32 0,.int .u32 0,.int .u32 0,.int .u32 0,.int .u32 0,.int .u32 0,.int .u32 0,.int .u32 0,.int .u32 0,.int .u32 0,.int .u32 0,.int .u32 0,.int .u32 0,.slice (some ⟨g,0,none⟩) n n,.int .u32 0,.slice A I.length c,.int .i64 0,.slice none 0 0,.int .i64 0,.int .u32 0,.int .i64 0,.int .i64 0] 70)) w.heap.size wz.heap.size (.slice (some ⟨g,0,none⟩) n n) (.slice none 0 0) A c I 0 (Zjp [] n I)/\Below w.heap.size w (wz.alloc (.cells #[.int .u32 0,.int .u32 0,.int .u32 0,.int .u32 0,.int .u32 0,.int .u32 0,.int .u32 0,.int .u32 0,.int .u32 0,.int .u32 0,.int .u32 0,.int .u32 0,.int .u32 0,.int .u32 0,.int .u32 0,.int .u32 0,.int .u32 0,.int .u32 0,.int .u32 0,.int .u32 0,.int .u32 0,.int .u32 0,.int .u32 0,.int .u32 0,.int .u32 0,.int .u32 0,.int .u32 0,.int .u32 0,.int .u32 0,.int .u32 0,.int .u32 0,.int .u32 0,.slice (some ⟨g,0,none⟩) n n,.int .u32 0,.slice A I.length c,.int .i64 0,.slice none 0 0,.int .i64 0,.int .u32 0,.int .i64 0,.int .i64 0] 70))/\(∀ b o s,A=some ⟨b,o,s⟩->w.heap.size<=b):=by
 obtain ⟨x1,x2,x3⟩:=Zf1 wz #[.int .u32 0,.int .u32 0,.int .u32 0,.int .u32 0,.int .u32 0,.int .u32 0,.int .u32 0,.int .u32 0,.int .u32 0,.int .u32 0,.int .u32 0,.int .u32 0,.int .u32 0,.int .u32 0,.int .u32 0,.int .u32 0,.int .u32 0,.int .u32 0,.int .u32 0,.int .u32 0,.int .u32 0,.int .u32 0,.int .u32 0,.int .u32 0,.int .u32 0,.int .u32 0,.int .u32 0,.int .u32 0,.int .u32 0,.int .u32 0,.int .u32 0,.int .u32 0,.slice (some ⟨g,0,none⟩) n n,.int .u32 0,.slice A I.length c,.int .i64 0,.slice none 0 0,.int .i64 0,.int .u32 0,.int .i64 0,.int .i64 0] 70;have hgl:=hg.lt g rfl;have hAl:∀ b o s,A=some ⟨b,o,s⟩->w.heap.size<=b/\b<wz.heap.size:=fun b o s e=>hA.lt b (by rw [e];rfl)
 have hmem:(Zjp [] n I).mem=Y2 n 0:=by simp [Zjp]
 have hne:=Zhu hA hg (by decide);refine ⟨⟨Zuj hn (by simp) (fun x hx=>by cases hx) hI,hb.size,⟨_,x1,rfl⟩,?_,World.ownsRow_nil _ _ _ _,?_,by simp [Zjp],Nat.zero_le _,by omega,by rw [hmem];simp;omega,fun b o s e=>by have:=hAl b o s e;omega,fun b o s e=>?_,?_⟩,hb.trans (x2.mono hb.size),fun b o s e=>(hAl b o s e).1⟩
 ·rw [hmem,List.map_replicate,List.length_replicate]
  exact Zc hg x2
 ·exact Reads.of_own (Zc hA x2)
 ·have h1:=hAl b o s e
  refine ⟨by omega,fun q=>?_,fun q=>by cases q⟩;have q2:g=b:=by injection q
  subst q2;rcases hne with q | q
  ·rw [e] at q;cases q
  ·exact q (by rw [e];rfl)
 ·refine ⟨fun q=>?_,fun q=>by cases q⟩
  have q2:g=wz.heap.size:=by injection q
  omega
theorem Zmd:(Tryz.prog.info? 25).map (·.size)=some 1:=by kernel_rfl
theorem Zi8 (n:Nat):(madeCells (Y1 .u32 0).cells (n*1)).toList=Y2 n (Y1 .u32 0):=by
 rw [Nat.mul_one];exact toList_madeCells_one _ n
def Zpi (w:World)(n:Nat)(size:Int)(I:List Int)(m:S.Mach)(e:Ending)(w':World):Prop :=
 (¬ Zh9 n size/\e=.returned (.tuple #[.pointer none,.int .i64 2])/\w=w') \/
 (Zh9 n size/\∃ p vm A c,e=.returned (.tuple #[.pointer (some ⟨p,0,none⟩),.int .i64 0])/\MAt w' w.heap.size p vm (.slice none 0 0) A c I 0 m/\Below w.heap.size w w'/\∀ b o s,A=some ⟨b,o,s⟩->w.heap.size<=b)
theorem Zv8 (Aw Ai:Option Addr)(cw ci:Nat)(L I:List Int)(size:Int)(w:World)(hL:Reads w w.heap.size Aw (L.map (Y1 .u32)))(hI:Reads w w.heap.size Ai (I.map (Y1 .u8)))(hl:L.length<=300000000)(hil:I.length<=1000000)
 (hLw:∀ x∈L,0<=x/\x<=4294967295) (hIw:∀ x∈I,0<=x/\x<=255) :
 Calls Tryz.prog 68 #[.slice Aw L.length cw,.int .i64 size,.slice Ai I.length ci] w (Zpi w L.length size I (Zjp L size.toNat I)):=by
 have HLw:=Ya hLw;have HIw:=Ya hIw;clear hLw hIw;by_cases h1:size<1
 ·have Hn:=Ya (show ¬ Zh9 L.length size from fun q=>by have:=q.1;omega)
  go_enter Tryz.func68,Tryz.ntmps68
  go_wp2_with fail
  go_ret2
  exact .inl ⟨Hn.out,rfl,rfl⟩
 by_cases h2:335544320<size
 ·have Hn:=Ya (show ¬ Zh9 L.length size from fun q=>by have:=q.2.1;omega)
  go_enter Tryz.func68,Tryz.ntmps68
  go_wp2_with fail
  go_ret2
  exact .inl ⟨Hn.out,rfl,rfl⟩
 by_cases h3:size<L.length
 ·have Hn:=Ya (show ¬ Zh9 L.length size from fun q=>by have:=q.2.2;omega)
  go_enter Tryz.func68,Tryz.ntmps68
  go_wp2_with fail
  go_ret2
  exact .inl ⟨Hn.out,rfl,rfl⟩
 obtain ⟨n,rfl⟩:∃ n:Nat,size=n:=⟨size.toNat,by omega⟩
 have Hok:=Ya (show Zh9 L.length n from ⟨by omega,by omega,by omega⟩);have HL:=Ya hL;have hn1:1<=n:=by omega
 have hn2:n<=335544320:=by omega
 have hnL:L.length<=n:=by omega
 go_enter Tryz.func68,Tryz.ntmps68
 go_upto_region 3 with fail
 go_cut [8] (fun v8 wc=>∃ p g A c,v8=.pointer (some ⟨p,0,none⟩)/\MAt wc w.heap.size p (.slice (some ⟨g,0,none⟩) n n) (.slice none 0 0) A c I 0 (Zjp [] n I)/\Below w.heap.size w wc/\∀ b o s,A=some ⟨b,o,s⟩->w.heap.size<=b)
 case first =>
  have hId:Below w.heap.size w w.drew:=(Below.refl _ _).drew;obtain ⟨ti,hti,htz,hts,htb⟩:=info_parts (Zuh)
  go_region_with (first
   | (go_at_call 122;refine (Zh8 Ai ci I w.drew hI (by omega)).mono ?_;rintro e w2 ⟨A2,c2,rfl,ho2,hb2⟩)
   | (go_at_call 122;have hb3:Below w.heap.size w w3:=hId.grown hg3 (Yf _) (fun k e=>by cases e);refine (Zh8 Ai ci I w3 ((hI.below hb3).moreM hb3.size) (by omega)).mono ?_;rintro e w5 ⟨A5,c5,rfl,ho5,hb5⟩)
   | (obtain ⟨w3,hrun,ho3,hg3⟩:=run_make_full (P:=Tryz.prog) w2 w2.heap.size 24 25 ti _ 1 Tryz.underlying24 hti htz hts .i64 .i64 n (by rw [htb];omega) (by simp only [maxLen];omega) (Yf _);simp only [hrun];clear htb)
   | (obtain ⟨w3,hrun,ho3,hg3⟩:=run_make_full (P:=Tryz.prog) w.drew w.drew.heap.size 24 25 ti _ 1 Tryz.underlying24 hti htz hts .i64 .i64 n (by rw [htb];omega) (by simp only [maxLen];omega) (Yf _);simp only [hrun];clear htb))
  ·simp only [Ydb,Ycy,Ycz,Act.put,Ycl,Yct,Ycx]
   have hb3:Below w.heap.size w w3:=hId.grown hg3 (Yf _) (fun k e=>by cases e);have hbz:Below w.heap.size w w5:=hb3.trans (hb5.mono hb3.size);have hrow:w5.ownsRow w.heap.size 25 1 (.slice (some ⟨w.heap.size,0,none⟩) n n) n (Y2 n (Y1 .u32 0)):=by
    have h:=Zc ho3 hb5
    rwa [Zi8] at h
   have hZ:=Ya (Z0c (w:=w) hn1 hn2 HIw.out hil hbz hrow (Z0 ho5 hb3.size));clear hrun ho3 hg3 ho5 hb5 hb3 hbz hrow;go_wp2_with fail
   go_meet
   refine ⟨w5.heap.size,w.heap.size,A5,c5,by kernel_rfl,?_⟩
   with_reducible exact hZ.out
  ·simp only [Ydb,Ycy,Ycz,Act.put,Ycl,Yct,Ycx]
   have hb2':Below w.heap.size w w2:=hId.trans hb2;have hb3:Below w.heap.size w w3:=hb2'.grown hg3 hb2'.size (fun k e=>by cases e);have hrow:w3.ownsRow w.heap.size 25 1 (.slice (some ⟨w2.heap.size,0,none⟩) n n) n (Y2 n (Y1 .u32 0)):=by
    have h:=Z0 ho3 hb2'.size
    rwa [Zi8] at h
   have hin:w3.ownsRow w.heap.size 5 1 (.slice A2 I.length c2) I.length (I.map (Y1 .u8)):=Zu (Z0 ho2 (Yf _)) fun k hk=>hg3.block k (ho2.lt k hk).2 (fun e=>by cases e)
   have hZ:=Ya (Z0c (w:=w) hn1 hn2 HIw.out hil hb3 hrow hin);clear hrun ho3 hg3 ho2 hb2 hb2' hb3 hrow hin;go_wp2_with fail
   go_meet
   refine ⟨w3.heap.size,w2.heap.size,A2,c2,by kernel_rfl,?_⟩
   with_reducible exact hZ.out
 case rest =>
 obtain ⟨p,g,A2,c2,rfl,hM,hbc,hA2⟩:=hcut;have hmem:(Zjp [] n I).mem.length=n:=by simp [Zjp]
 obtain ⟨c32,_⟩:=hM.cells;have hpw:=hM.lt;have hmw:=hM.mem;rw [hmem] at hmw;obtain ⟨cur,hgr,hcs⟩:∃ cur,wc.heap[g]?=some (.cells cur 25 (0,0))/\n<=cur.size:=by
  rcases hmw.2 with ⟨e,_⟩ | ⟨g',cap',cur',e,h3,h4,h5,h6,h7,h8⟩
  ·cases e
  ·injection e with e1 e2 e3
   injection e1 with e1
   injection e1 with e1
   subst e1;exact ⟨cur',h4,by omega⟩
 have hLc:=HL.out.below hbc;have HM:=Ya hM;have HLc:=Ya hLc;have hend:Zjp L n I={ Zjp [] n I with mem:=L++(Zjp [] n I).mem.drop L.length }:=by
  simp [Zjp]
 have Hend:=Ya hend;have Hb:=Ya hbc;have HA2:=Ya hA2;clear hM hLc hmw hend hbc hA2;by_cases hz:L.length=0
 ·have hnil:L=[]:=List.eq_nil_of_length_eq_zero hz
  subst hnil;go_wp2_with (refine wpList_copy_nothing (o:=⟨some 32,_,_,_,_,_⟩) rfl (.tmp 30) (.tmp 31) _ _ rfl 25 Tryz.underlying24 Zmd (some ⟨g,0,none⟩) Aw n n 0 cw rfl rfl (by simp) ?_)
  go_ret2
  refine .inr ⟨Hok.out,p,.slice (some ⟨g,0,none⟩) n n,A2,c2,rfl,?_,Hb.out,HA2.out⟩;exact HM.out
 ·obtain ⟨bL,oL,e,hbL,hcL⟩:=HLc.out (by simp;omega)
  subst e;have HcL:=Ya hcL;have Hcp:=Ya (HM.out.copied (g:=g) (cap:=n) (by rw [hmem]) hgr (L:=L) (by rw [hmem];exact hnL) HLw.out);have Hgl:=Ya (HM.out.foot_lt (show Zat p (.slice (some ⟨g,0,none⟩) n n) (.slice none 0 0) g from .inr (.inl rfl))).1;clear hcL;go_wp2_with (refine wpList_copy_own (o:=⟨some 32,_,_,_,_,_⟩) rfl (.tmp 30) (.tmp 31) _ _ rfl 25 Tryz.underlying24 Zmd g 0 n n ⟨bL,oL,none⟩ L.length cw rfl rfl cur 25 hgr (L.map (Y1 .u32)) (by rw [Ys];exact (Nat.min_eq_left hnL).symm) (fun j v hj=>(by rw [Addr.add_mk];exact HcL.out j v hj)) (by rw [Ys];omega) (by simp [Value.oneCell']) ?_)
  go_ret2
  refine .inr ⟨Hok.out,p,.slice (some ⟨g,0,none⟩) n n,A2,c2,rfl,?_,?_,HA2.out⟩
  ·rw [Hend.out]
   have hc:=Hcp.out;rw [Yam,Yad,Yae,Ys] at hc;exact hc
  ·exact below_setRow Hb.out Hgl.out _
end
section
open Go.RowKit
namespace S
def kStart:ByteArray:=⟨#[115,116,97,114,116]⟩
def bW (w:Int):Item:=⟨6,⟨0,0,0,0,0⟩,bNo,w⟩
def viewOf (m:Mach):Vw:=⟨m.rd,m.mv,m.input,m.out⟩
end S
theorem Zkc {I:S.Img}{V V':S.Vw}{a c:Int}{K N:Nat}(h:S.GoH I V a K V' c)(hK:K<=N){m:S.Mach}(hm:S.On I m V a):S.Off I (m.steps_ N) V' c:=by
 obtain ⟨k,hk,ho⟩:=h m hm;obtain ⟨d,rfl⟩:∃ d,N=k+d:=⟨N-k,by omega⟩
 rw [Zb2,Zer (by rw [ho.end_];decide)];exact ho
end
section
open Go.RowKit
namespace S
def eC (n:Int):BE:=.mk 1 n bNo []
def eL (n:Int):BE:=.mk 2 n bNo []
def eR (n:Int):BE:=.mk 3 n bNo []
def eB (op:Int)(a b:BE):BE:=.mk 4 op bNo [a,b]
def eM (a:BE)(n:Int):BE:=.mk 5 n bNo [a]
def eF (name:ByteArray)(l:List BE):BE:=.mk 6 0 name l
def eQ (a b:BE):BE:=.mk 7 0 bNo [a,b]
def eA (name:ByteArray):BE:=.mk 9 0 name []
def sAs (n:Int)(e:BE):BS:=.mk 1 n bNo [e] [] [] []
def sPut (a:BE)(n:Int)(e:BE):BS:=.mk 2 n bNo [a,e] [] [] []
def sIf (e:BE)(b l:List BS):BS:=.mk 3 0 bNo [e] [] b l
def sWh (e:BE)(b:List BS):BS:=.mk 4 0 bNo [e] [] b []
def sRet (regs:List Int)(l:List BE):BS:=.mk 5 0 bNo l regs [] []
def sDo (e:BE):BS:=.mk 6 0 bNo [e] [] [] []
def sHlt (e:BE):BS:=.mk 8 0 bNo [e] [] [] []
def sSet (n:Int)(e:BE):BS:=.mk 9 n bNo [e] [] [] []
def sJmp (name:ByteArray):BS:=.mk 10 0 name [] [] [] []
def sGo (e:BE):BS:=.mk 11 0 bNo [e] [] [] []
def sBk (e:BE):BS:=sRet [4] [e]
end S
section
variable {I:S.Img}{dep lk:Int}{env:List Int}{at_:Nat}{st:S.Vw}{c:Nat}{Q:Int->S.Vw->Nat->Prop}{H:Int->S.Vw->Nat->Prop}
theorem Zxb (op n:Int)(nm:ByteArray)(l:List S.BE):S.wpE I dep lk env (.mk op n nm l) at_ st c Q H=S.wpEs I dep lk env l at_ st c (fun vs st1 c1=>S.wpOp I dep lk op n nm at_ env vs st1 c1 Q H) H:=by rw [S.wpE]
def S.a9 (I:S.Img)(dep:Int)(name:ByteArray)(at_:Nat)(vs:List Int)(st:S.Vw)(c:Nat)(Q H:Int->S.Vw->Nat->Prop):Prop :=
 ∃ d R,S.Real I name false (st.args vs) d R/\d<=dep/\∀ ret o k,R ret o k->(match o with
  | .ret st2=>Q (st2.reg 4) st2 (c+2*at_+vs.length+4+k)
  | .halt code st2=>H code st2 (c+2*at_+vs.length+4+k)
  | .left _ _=>False)
theorem Z0d (nm:ByteArray)(l:List S.BE):S.wpE I dep lk env (S.eF nm l) at_ st c Q H=S.wpEs I dep lk env l at_ st c (fun vs st1 c1=>S.a9 I dep nm at_ vs st1 c1 Q H) H:=by
 rw [S.eF,Zxb];refine congrArg (fun q=>S.wpEs I dep lk env l at_ st c q H) (funext fun v=>funext fun st1=>funext fun c1=>?_);rw [S.wpOp,if_neg (by decide),if_neg (by decide),if_neg (by decide),if_neg (by decide),if_neg (by decide),if_pos rfl];rfl
theorem Z0e (nm:ByteArray)(a:S.BE):S.wpE I dep lk env (S.eF nm [a]) at_ st c Q H=S.wpE I dep lk env a at_ st c (fun v st1 c1=>S.a9 I dep nm at_ [v] st1 c1 Q H) H:=by
 rw [Z0d,S.wpEs];refine congrArg (fun q=>S.wpE I dep lk env a at_ st c q H) (funext fun v=>funext fun st1=>funext fun c1=>?_);rw [S.wpEs]
end
section
variable {I:S.Img}{dep lk:Int}{behind:Bool}{env:List Int}{st:S.Vw}{c:Nat}{Q:List Int->S.Vw->Nat->Prop}{R:S.BO->Nat->Prop}
theorem Zga {a:S.BE}{at_:Nat}{T:List Int->S.Vw->Nat->Prop}{H:Int->S.Vw->Nat->Prop}:S.wpEs I dep lk env [a] at_ st c T H=S.wpE I dep lk env a at_ st c (fun v st1 c1=>T [v] st1 c1) H:=by
 rw [S.wpEs];refine congrArg (fun q=>S.wpE I dep lk env a at_ st c q H) (funext fun v=>funext fun st1=>funext fun c1=>?_);rw [S.wpEs]
theorem Z0f {a b:S.BE}{at_:Nat}{T:List Int->S.Vw->Nat->Prop}{H:Int->S.Vw->Nat->Prop}:S.wpEs I dep lk env [a,b] at_ st c T H =
 S.wpE I dep lk env a at_ st c (fun v st1 c1=>S.wpE I dep lk env b (at_+1) st1 c1 (fun u st2 c2=>T [v,u] st2 c2) H) H:=by
 rw [S.wpEs];refine congrArg (fun q=>S.wpE I dep lk env a at_ st c q H) (funext fun v=>funext fun st1=>funext fun c1=>?_);rw [Zga]
theorem Z0g:S.wpSs I dep lk behind [] env st c Q R=Q env st c:=by rw [S.wpSs]
theorem Zeo (s:S.BS)(r:List S.BS):S.wpSs I dep lk behind (s::r) env st c Q R=S.wpS I dep lk behind s env st c (fun Zxa st1 c1=>S.wpSs I dep lk behind r Zxa st1 c1 Q R) R:=by rw [S.wpSs]
theorem Z0h (n:Int)(e:S.BE):S.wpS I dep lk behind (S.sAs n e) env st c Q R=S.wpE I dep lk env e 0 st c (fun v st1 c1=>Q (env.set n.toNat v) st1 (c1+1)) (fun code st c=>R (.halt code st) c):=by
 rw [S.sAs,S.wpS,if_neg (by decide),Zga];refine congrArg (fun q=>S.wpE I dep lk env e 0 st c q _) (funext fun v=>funext fun st1=>funext fun c1=>?_);rw [if_pos rfl];rfl
theorem Zth (a:S.BE)(n:Int)(e:S.BE):S.wpS I dep lk behind (S.sPut a n e) env st c Q R =
 S.wpE I dep lk env a 0 st c (fun p st1 c1=>S.wpE I dep lk env e 1 st1 c1 (fun v st2 c2=>S.u32m (p+n)<I.size/\¬ I.stk (S.u32m (p+n))/\¬ I.code (S.u32m (p+n))/\Q env (st2.sto (S.u32m (p+n)) v) (c2+1)) (fun code st c=>R (.halt code st) c)) (fun code st c=>R (.halt code st) c):=by
 rw [S.sPut,S.wpS,if_neg (by decide),Z0f];refine congrArg (fun q=>S.wpE I dep lk env a 0 st c q _) (funext fun p=>funext fun st1=>funext fun c1=>?_);refine congrArg (fun q=>S.wpE I dep lk env e 1 st1 c1 q _) (funext fun v=>funext fun st2=>funext fun c2=>?_);rw [if_neg (by decide),if_pos rfl];rfl
theorem Z0i (e:S.BE)(b l:List S.BS):S.wpS I dep lk behind (S.sIf e b l) env st c Q R =
 S.wpE I dep lk env e 0 st c (fun v st1 c1=>if v=0 then S.wpSs I dep lk behind l env st1 (c1+4) Q R else S.wpSs I dep lk behind b env st1 (c1+4) (fun Zk3 st2 c2=>Q Zk3 st2 (c2+3)) R) (fun code st c=>R (.halt code st) c):=by
 rw [S.sIf,S.wpS,if_neg (by decide),Zga];refine congrArg (fun q=>S.wpE I dep lk env e 0 st c q _) (funext fun v=>funext fun st1=>funext fun c1=>?_);rw [if_neg (by decide),if_neg (by decide),if_pos rfl];rfl
theorem Z0j (e:S.BE)(b:List S.BS):S.wpS I dep lk behind (S.sWh e b) env st c Q R =
 ∃ J:List Int->S.Vw->Nat->Nat->Prop,(∃ k,J env st c k)/\∀ env st c k,J env st c k ->
  S.wpE I dep lk env e 0 st c (fun v st1 c1=>if v=0 then Q env st1 (c1+4) else S.wpSs I dep lk behind b env st1 (c1+4) (fun Zk3 st2 c2=>∃ k2,k2<k/\J Zk3 st2 (c2+3) k2) R) (fun code st c=>R (.halt code st) c):=by
 rw [S.sWh,S.wpS,if_pos rfl];simp only [Zga];rfl
theorem Zyr (regs:List Int)(l:List S.BE):S.wpS I dep lk behind (S.sRet regs l) env st c Q R=S.wpEs I dep lk env l 0 st c (fun vs st1 c1=>R (.ret (st1.regs regs vs)) (c1+regs.length+(if behind=true then 5 else 3))) (fun code st c=>R (.halt code st) c):=by
 rw [S.sRet,S.wpS,if_neg (by decide)];refine congrArg (fun q=>S.wpEs I dep lk env l 0 st c q _) (funext fun v=>funext fun st1=>funext fun c1=>?_);rw [if_neg (by decide),if_neg (by decide),if_neg (by decide),if_pos rfl]
theorem Z0k (e:S.BE):S.wpS I dep lk behind (S.sBk e) env st c Q R=S.wpE I dep lk env e 0 st c (fun v st1 c1=>R (.ret (st1.set 4 v)) (c1+1+(if behind=true then 5 else 3))) (fun code st c=>R (.halt code st) c):=by
 rw [S.sBk,Zyr,Zga];rfl
theorem Z0l (e:S.BE):S.wpS I dep lk behind (S.sDo e) env st c Q R=S.wpE I dep lk env e 0 st c (fun v st1 c1=>Q env st1 c1) (fun code st c=>R (.halt code st) c):=by
 rw [S.sDo,S.wpS,if_neg (by decide),Zga];refine congrArg (fun q=>S.wpE I dep lk env e 0 st c q _) (funext fun v=>funext fun st1=>funext fun c1=>?_);rw [if_neg (by decide),if_neg (by decide),if_neg (by decide),if_neg (by decide),if_pos rfl]
theorem Zys (e:S.BE):S.wpS I dep lk behind (S.sHlt e) env st c Q R=S.wpE I dep lk env e 0 st c (fun v st1 c1=>R (.halt v st1) (c1+1)) (fun code st c=>R (.halt code st) c):=by
 rw [S.sHlt,S.wpS,if_neg (by decide),Zga];refine congrArg (fun q=>S.wpE I dep lk env e 0 st c q _) (funext fun v=>funext fun st1=>funext fun c1=>?_);rw [if_neg (by decide),if_neg (by decide),if_neg (by decide),if_neg (by decide),if_neg (by decide),if_neg (by decide),if_pos rfl];rfl
theorem Zyt (n:Int)(e:S.BE):S.wpS I dep lk behind (S.sSet n e) env st c Q R=S.wpE I dep lk env e 0 st c (fun v st1 c1=>Q env (st1.set n v) (c1+1)) (fun code st c=>R (.halt code st) c):=by
 rw [S.sSet,S.wpS,if_neg (by decide),Zga];refine congrArg (fun q=>S.wpE I dep lk env e 0 st c q _) (funext fun v=>funext fun st1=>funext fun c1=>?_);rw [if_neg (by decide),if_neg (by decide),if_neg (by decide),if_neg (by decide),if_neg (by decide),if_neg (by decide),if_neg (by decide),if_pos rfl];rfl
theorem Zyu (nm:ByteArray):S.wpS I dep lk behind (S.sJmp nm) env st c Q R=R (.left (I.lab nm) st) (c+4):=by
 rw [S.sJmp,S.wpS,if_neg (by decide),S.wpEs,if_neg (by decide),if_neg (by decide),if_neg (by decide),if_neg (by decide),if_neg (by decide),if_neg (by decide),if_neg (by decide),if_neg (by decide),if_pos rfl]
end
end
section
open Go.RowKit
namespace S
def eAdd (a b:BE):BE:=eB 1 a b
def eSub (a b:BE):BE:=eB 2 a b
def eAnd (a b:BE):BE:=eB 7 a b
def eLt (a b:BE):BE:=eB 14 a b
def eShr (a:BE)(n:Int):BE:=eB 11 a (eC n)
def Z2f (a:BE)(n:Int):BE:=eB 10 a (eC n)
def eNot (a:BE):BE:=eQ a (eC 0)
def eW (n:Int):BE:=eM (eC n) 0
def eRef (a:BE):BE:=eB 8 (Z2f a 2) (eC 1)
def eAdr (a:BE):BE:=eShr a 2
def sKeep (n:Int)(e:BE):BS:=sPut (eC n) 0 e
def sWhen (e:BE)(b:List BS):BS:=sIf e b []
def sVal (e:BE):BS:=sBk e
def isRef (a:BE):BE:=eQ (eAnd a (eC 3)) (eC 1)
def kMove:ByteArray:=⟨#[109,111,118,101]⟩
def kScan:ByteArray:=⟨#[115,99,97,110]⟩
def kFrame:ByteArray:=⟨#[102,114,97,109,101]⟩
def kCollect:ByteArray:=⟨#[99,111,108,108,101,99,116]⟩
def Zkd:ByteArray:=⟨#[114,101,115,101,114,118,101]⟩
def kCons:ByteArray:=⟨#[99,111,110,115]⟩
def kBegin:ByteArray:=⟨#[98,101,103,105,110]⟩
def kStatic:ByteArray:=⟨#[115,116,97,116,105,99]⟩
def kCode:ByteArray:=⟨#[99,111,100,101]⟩
def kStub:ByteArray:=⟨#[115,116,117,98]⟩
def kMapped:ByteArray:=⟨#[109,97,112,112,101,100]⟩
def kMore:ByteArray:=⟨#[109,111,114,101]⟩
def kEnd:ByteArray:=⟨#[101,110,100]⟩
def kHead:ByteArray:=⟨#[104,101,97,100]⟩
def kTail:ByteArray:=⟨#[116,97,105,108]⟩
def kMain:ByteArray:=⟨#[109,97,105,110]⟩
def kF0:ByteArray:=⟨#[102,48]⟩
def kRt (n:Int):ByteArray:=⟨([114,116]++itoa n).toArray⟩
def rMove:BR:=⟨kMove,1,4,false,
 [sWhen (eNot (isRef (eL 0))) [sVal (eL 0)],
  sAs 1 (eAdr (eL 0)),
  sWhen (eNot (eLt (eSub (eL 1) (eW 2)) (eW 4))) [sVal (eL 0)],
  sAs 2 (eM (eL 1) 0),
  sWhen (isRef (eL 2)) [sVal (eL 2)],
  sAs 2 (eShr (eL 2) 5),
  sAs 3 (eC 0),
  sWh (eNot (eLt (eL 2) (eL 3))) [sPut (eAdd (eR 29) (eL 3)) 0 (eM (eAdd (eL 1) (eL 3)) 0),sAs 3 (eAdd (eL 3) (eC 1))],
  sPut (eL 1) 0 (eRef (eR 29)),
  sSet 29 (eAdd (eR 29) (eL 3)),
  sVal (eM (eL 1) 0)]⟩
def bScan:List BS:=[sPut (eL 0) 0 (eF kMove [eM (eL 0) 0]),sAs 0 (eAdd (eL 0) (eC 1))]
def rScan:BR:=⟨kScan,2,2,false,[sWh (eLt (eL 0) (eL 1)) bScan]⟩
def rFrame:BR:=⟨kFrame,1,5,false,
 [sAs 1 (eAdd (eL 0) (eM (eL 0) 0)),
  sAs 2 (eC 32),
  sWh (eLt (eL 0) (eL 1))
   [sAs 0 (eAdd (eL 0) (eC 1)),
    sAs 3 (eM (eL 0) 0),
    sWhen (eQ (eL 2) (eC 1056)) [sAs 2 (eA kMore)],
    sAs 4 (eAdd (eL 2) (eC 32)),
    sWh (eLt (eL 2) (eL 4))
     [sWhen (eAnd (eL 3) (eC 1)) [sDo (eF kScan [eL 2,eAdd (eL 2) (eC 1)])],
      sAs 3 (eShr (eL 3) 1),
      sAs 2 (eAdd (eL 2) (eC 1))]]]⟩
def rCollect:BR:=⟨kCollect,0,1,false,
 [sSet 29 (eW 3),
  sDo (eF kScan [eC 5,eC 6]),
  sDo (eF kScan [eC 16,eAdd (eC 16) (eW 8)]),
  sWhen (eW 6) [sDo (eF kFrame [eW 6])],
  sDo (eF kScan [eC 1312,eA kCode]),
  sAs 0 (eW 3),
  sWh (eLt (eL 0) (eR 29)) bScan,
  sAs 0 (eW 2),
  sKeep 2 (eW 3),
  sKeep 3 (eL 0),
  sSet 26 (eR 29),
  sSet 27 (eAdd (eW 2) (eW 4))]⟩
def Zxc:BE:=eLt (eSub (eR 27) (eR 26)) (eL 0)
def Zv9:BR:=⟨Zkd,1,1,false,[sAs 0 (eAdd (eL 0) (eW 7)),sWhen Zxc [sDo (eF kCollect []),sWhen Zxc [sHlt (eC 255)]]]⟩
def rCons:BR:=⟨kCons,2,2,false,
 [sPut (eR 26) 0 (eC 67),sPut (eR 26) 1 (eL 0),sPut (eR 26) 2 (eL 1),sSet 26 (eAdd (eR 26) (eC 3)),sVal (eRef (eSub (eR 26) (eC 3)))]⟩
def Z0m (n:BE):List BS:=[sKeep 16 (eR 1),sKeep 23 (eR 10),sKeep 17 (eR 4),sKeep 18 (eR 5),sKeep 19 (eR 6),sKeep 20 (eR 7),sKeep 21 (eR 8),sKeep 22 (eR 9),sKeep 6 (eC 0),
 sIf (eLt (eC 6) n) [sKeep 8 (eC 8)] [sKeep 8 (eAdd n (eC 1))]]
def Zpj:List BS:=[sKeep 8 (eC 0),sRet [1,4,5,6,7,8,9,10] [eW 16,eW 17,eW 18,eW 19,eW 20,eW 21,eW 22,eW 23]]
def Z0n:BR:=⟨kRt 100,0,2,false,[sAs 0 (eR 2),sAs 1 (eR 3)]++Z0m (eL 0)++[sDo (eF Zkd [eL 1])]++Zpj⟩
def Zyv (n from_ at_:BE)(atN locl:Int):List BS :=
 [sAs locl (eW 23),sKeep 23 (eRef (eR 26)),
  sWh n [sPut (eR 26) 0 (eC 67),sPut (eR 26) 1 (eM (eAdr from_) 1),sAs locl (eM (eAdr from_) 2),sSet 26 (eAdd (eR 26) (eC 3)),sPut (eSub (eR 26) (eC 3)) 2 (eRef (eR 26)),sAs atN (eSub at_ (eC 1))],
  sPut (eSub (eR 26) (eC 3)) 2 (eC 38)]
def Z10:BR:=⟨kRt 101,0,5,false,
 [sAs 0 (eR 2),sAs 1 (eR 3),sAs 2 (eL 1)]++Z0m (eL 0) ++
 [sWhen (eLt (eC 6) (eL 2)) [sAs 2 (eC 6)],
  sAs 2 (eSub (eL 0) (eL 2)),
  sDo (eF Zkd [eAdd (eL 2) (Z2f (eL 2) 1)]),
  sAs 2 (eC 0),
  sIf (eLt (eC 6) (eL 0)) (sAs 2 (eSub (eL 0) (eC 6))::Zyv (eL 2) (eL 3) (eL 2) 2 3) [sKeep 23 (eC 38)],
  sWhen (eLt (eL 1) (eC 6))
   [sAs 3 (eW 23),sAs 4 (eL 0),sWhen (eLt (eC 6) (eL 4)) [sAs 4 (eC 6)],
    sWh (eLt (eL 1) (eL 4)) [sAs 4 (eSub (eL 4) (eC 1)),sAs 3 (eF kCons [eM (eAdd (eL 4) (eC 17)) 0,eL 3])],
    sPut (eAdd (eL 1) (eC 17)) 0 (eL 3)]]++Zpj⟩
def Zxd (v:BE):BE:=eAnd (eM (eAdr v) 0) (eC 31)
def Z0o (v:BE)(yes no:List BS):BS:=sIf (isRef v) [sIf (eQ (Zxd v) (eC 3)) yes no] no
def Z0p:BR:=⟨kRt 102,0,6,false,
 [sAs 0 (eR 4),sAs 1 (eR 2),sAs 2 (eR 10),sAs 3 (eC 0),sAs 4 (eL 2),
  sWhen (eNot (isRef (eL 0))) [sHlt (eC 6)],
  sWhen (eNot (eQ (Zxd (eL 0)) (eC 11))) [sHlt (eC 6)],
  sAs 5 (eC 1),
  sWh (eL 5) [Z0o (eL 4) [sAs 3 (eAdd (eL 3) (eC 1)),sWhen (eLt (eC 1048576) (eL 3)) [sHlt (eC 3)],sAs 4 (eM (eAdr (eL 4)) 2)] [sAs 5 (eC 0)]],
  sWhen (eNot (eQ (eL 4) (eC 38))) [sHlt (eC 2)],
  sKeep 17 (eR 5),sKeep 18 (eR 6),sKeep 19 (eR 7),sKeep 20 (eR 8),sKeep 21 (eR 9),
  sAs 4 (eL 2),sAs 5 (eL 1),
  sWh (eLt (eL 5) (eC 6)) [Z0o (eL 4) [sPut (eAdd (eL 5) (eC 17)) 0 (eM (eAdr (eL 4)) 1),sAs 4 (eM (eAdr (eL 4)) 2)] [],sAs 5 (eAdd (eL 5) (eC 1))],
  sSet 1 (eL 0),sSet 2 (eAdd (eL 1) (eL 3)),sSet 10 (eL 4),
  sSet 4 (eW 17),sSet 5 (eW 18),sSet 6 (eW 19),sSet 7 (eW 20),sSet 8 (eW 21),sSet 9 (eW 22),
  sGo (eShr (eM (eAdr (eR 1)) 1) 2)]⟩
def rBegin:BR:=⟨kBegin,0,1,false,
 [sKeep 4 (eShr (eW 1) 1),sKeep 2 (eA kEnd),sKeep 3 (eAdd (eW 2) (eW 4)),sKeep 6 (eC 0),sKeep 8 (eC 0),sAs 0 (eC 1312),
  sWh (eLt (eL 0) (eA kStatic)) [sPut (eL 0) 0 (eC 70),sAs 0 (eAdd (eL 0) (eC 1))],
  sSet 26 (eW 2),sSet 27 (eW 3),sSet 1 (eC 0),sSet 2 (eC 0),sJmp kF0]⟩
def rStop (n code:Int):BR:=⟨kRt n,0,0,false,[sHlt (eC code)]⟩
def oStart:Obj:=⟨kStart,[bL kStart,bI 15 28 0 0 1056,bA 25 kBegin,bI 33 0 25 0 0]⟩
def oMain:Obj:=⟨kMain,[bL kF0,bI 15 4 0 0 9,bI 36 0 4 0 0]⟩
def ofR (r:BR):Obj:=⟨r.name,bItems r⟩
def rs26:List BR:=[rBegin,rMove,rScan,rFrame,rCollect,Zv9,rCons,Z0n,Z10,Z0p,rStop 103 5,rStop 104 2,rStop 105 6,rStop 106 0]
def objs26:List Obj:=oStart::rs26.map ofR
end S
end
end Go.Proofs.YtdeepoikgfaecaaGreatDoor
