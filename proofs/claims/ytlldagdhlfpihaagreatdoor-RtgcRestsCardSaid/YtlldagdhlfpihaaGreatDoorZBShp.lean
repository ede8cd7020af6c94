/- Parts. -/
import Derived.Test.YtlldagdhlfpihaaGreatDoorZBFrm
import Derived.Deep.CutBlock
set_option linter.unusedVariables false
set_option linter.unusedSimpArgs false
set_option linter.unusedSectionVars false
namespace Go.Proofs.YtlldagdhlfpihaaGreatDoor
set_option maxRecDepth 100000
section
open Go.RowKit
theorem two_blocks (w:World) (a b:Obj):((w.alloc a).alloc b).heap[w.heap.size]?=some a/\((w.alloc a).alloc b).heap[w.heap.size+1]?=some b/\Below w.heap.size w ((w.alloc a).alloc b)/\((w.alloc a).alloc b).heap.size=w.heap.size+2:=by
 refine ⟨?_,?_,((Below.refl _ _).alloc (Nat.le_refl _) _).alloc (by simp) _,by simp⟩
 ·rw [((Below.refl _ _).alloc (Nat.le_refl (w.alloc a).heap.size) b).block _ (by simp)]
  exact heap_alloc_new w a
 ·have:=heap_alloc_new (w.alloc a) b
  have e:(w.alloc a).heap.size=w.heap.size+1:=by simp
  rw [e] at this
  exact this
structure RE (w wc:World) (r e:Obj):Prop where
 r:wc.heap[w.heap.size]?=some r
 e:wc.heap[w.heap.size+1]?=some e
 b:Below w.heap.size w wc
 z:w.heap.size+2<=wc.heap.size
theorem RE.next {w wc w2:World}{r e:Obj}(h:RE w wc r e) (hb:Below wc.heap.size wc w2):RE w w2 r e :=
 ⟨(hb.block _ (by have:=h.z;omega)).trans h.r,(hb.block _ (by have:=h.z;omega)).trans h.e,h.b.trans (hb.mono h.b.size),Nat.le_trans h.z hb.size⟩
theorem formedEs_any (L:Int):∀ l:List S.BE,S.formedEs L l=!(l.any fun k=>!S.formedE L k)
 | []=>rfl
 | e::r=>by
  rw [S.formedEs,formedEs_any L r,List.any_cons]
  cases S.formedE L e <;> simp
set_option maxHeartbeats 4000000 in
theorem b_formed1 (rn:ByteArray) (P L:Int) (bh:Bool) (Ab:Option Addr) (nb cb:Nat) (op n:Int) (nm:ByteArray) (N:Nat) (A:Option Addr) (c:Nat) (w:World) (hN:N<=1000000000) (hnm:nm.size<=maxLen) (R:Bool) (hR0:S.headE L op n nm N=false->R=false)
 (hR1:S.headE L op n nm N=true->∀ W,RE w W (.cells #[.string rn,.int .i64 P,.int .i64 L,.bool bh,.slice Ab nb cb] 34) (.cells #[.int .i64 op,.int .i64 n,.string nm,.slice A N c] 24)->Calls Tryz.prog 82 #[.slice A N c,.func (.func 129) #[] #[.pointer (some ⟨w.heap.size,0,none⟩)]] W fun x w'=>x=.returned (.bool (!R))/\Below W.heap.size W w') :
 Calls Tryz.prog 84 #[.agg #[.string rn,.int .i64 P,.int .i64 L,.bool bh,.slice Ab nb cb],.agg #[.int .i64 op,.int .i64 n,.string nm,.slice A N c]] w fun x w'=>x=.returned (.bool R)/\Below w.heap.size w w':=by
 obtain ⟨t1,t2,t3,t4⟩:=two_blocks w (.cells #[.string rn,.int .i64 P,.int .i64 L,.bool bh,.slice Ab nb cb] 34) (.cells #[.int .i64 op,.int .i64 n,.string nm,.slice A N c] 24)
 have HR0:=Lib.hid hR0
 have HR1:=Lib.hid hR1
 have Hlab:=Lib.hid (fun W=>b_label nm W hnm)
 clear hR0 hR1 hnm
 go_enter Tryz.func84,Tryz.ntmps84
 go_upto_region 1 with fail
 generalize (w.alloc (.cells #[.string rn,.int .i64 P,.int .i64 L,.bool bh,.slice Ab nb cb] 34)).alloc (.cells #[.int .i64 op,.int .i64 n,.string nm,.slice A N c] 24)=w2 at *
 have q0:w2.cell? ⟨w.heap.size+1,0,none⟩=some (.int .i64 op):=by rw [Lib.cell_of_heap t2];rfl
 have q1:w2.cell? ⟨w.heap.size+1,1,none⟩=some (.int .i64 n):=by rw [Lib.cell_of_heap t2];rfl
 go_quiet (fail)
 have HW:=Lib.hid (show RE w (w2.drewN nq) (.cells #[.string rn,.int .i64 P,.int .i64 L,.bool bh,.slice Ab nb cb] 34) (.cells #[.int .i64 op,.int .i64 n,.string nm,.slice A N c] 24) from ⟨t1,t2,below_drewN t3 nq,by show _<=w2.heap.size;omega⟩)
 clear q0 q1 t1 t2 t3 t4
 generalize w2.drewN nq=w3 at *
 have q0:w3.cell? ⟨w.heap.size+1,0,none⟩=some (.int .i64 op):=by rw [Lib.cell_of_heap HW.out.e];rfl
 have q1:w3.cell? ⟨w.heap.size+1,1,none⟩=some (.int .i64 n):=by rw [Lib.cell_of_heap HW.out.e];rfl
 have q2:w3.cell? ⟨w.heap.size,2,none⟩=some (.int .i64 L):=by rw [Lib.cell_of_heap HW.out.r];rfl
 have q3:w3.cell? ⟨w.heap.size+1,3,none⟩=some (.slice A N c):=by rw [Lib.cell_of_heap HW.out.e];rfl
 go_upto_block 0 with fail
 clear q0
 by_cases hop:1<=op/\op<=10
 ·go_cut [5,6,7] (fun v5 v6 v7 wc=>v5=.int .i64 (S.kidsE op N:Nat)/\v6=.bool (S.namedE op)/\v7=.bool (S.numE L op n)/\Hid (RE w wc (.cells #[.string rn,.int .i64 P,.int .i64 L,.bool bh,.slice Ab nb cb] 34) (.cells #[.int .i64 op,.int .i64 n,.string nm,.slice A N c] 24)))
  case first =>
   rcases (show op=1\/op=2\/op=3\/op=4\/op=5\/op=6\/op=7\/op=8\/op=9\/op=10 by omega) with rfl | rfl | rfl | rfl | rfl | rfl | rfl | rfl | rfl | rfl
   ·by_cases h1:-2147483648<=n
    ·by_cases h2:n<=4294967295
     ·have He:=Lib.hid (show true=S.numE L 1 n from (decide_eq_true ⟨h1,h2⟩).symm)
      go_wp2_with fail
      go_meet
      exact ⟨rfl,rfl,by rw [<- He.out],HW⟩
     ·have He:=Lib.hid (show false=S.numE L 1 n from (decide_eq_false (by omega)).symm)
      go_wp2_with fail
      go_meet
      exact ⟨rfl,rfl,by rw [<- He.out],HW⟩
    ·have He:=Lib.hid (show false=S.numE L 1 n from (decide_eq_false (by omega)).symm)
     go_wp2_with fail
     go_meet
     exact ⟨rfl,rfl,by rw [<- He.out],HW⟩
   ·by_cases h1:0<=n
    ·by_cases h2:n<L
     ·have He:=Lib.hid (show true=S.numE L 2 n from (decide_eq_true ⟨h1,h2⟩).symm)
      go_wp2_with fail
      go_meet
      exact ⟨rfl,rfl,by rw [<- He.out],HW⟩
     ·have He:=Lib.hid (show false=S.numE L 2 n from (decide_eq_false (by omega)).symm)
      go_wp2_with fail
      go_meet
      exact ⟨rfl,rfl,by rw [<- He.out],HW⟩
    ·have He:=Lib.hid (show false=S.numE L 2 n from (decide_eq_false (by omega)).symm)
     go_wp2_with fail
     go_meet
     exact ⟨rfl,rfl,by rw [<- He.out],HW⟩
   ·go_wp2_with fail
    refine (b_visible n w3).mono ?_
    rintro e4 w4 ⟨rfl,rfl⟩
    go_wp2_with fail
    go_meet
    exact ⟨rfl,rfl,rfl,HW⟩
   ·by_cases h1:1<=n
    ·by_cases h2:n<=14
     ·have He:=Lib.hid (show true=S.numE L 4 n from (decide_eq_true ⟨h1,h2⟩).symm)
      go_wp2_with fail
      go_quiet (fail)
      go_wp2_with fail
      go_meet
      exact ⟨rfl,rfl,by rw [<- He.out],Lib.hid (HW.out.next (below_drewN (Below.refl _ _) _))⟩
     ·have He:=Lib.hid (show false=S.numE L 4 n from (decide_eq_false (by omega)).symm)
      go_wp2_with fail
      go_quiet (fail)
      go_wp2_with fail
      go_meet
      exact ⟨rfl,rfl,by rw [<- He.out];congr 1;rw [decide_eq_false_iff_not];omega,Lib.hid (HW.out.next (below_drewN (Below.refl _ _) _))⟩
    ·have He:=Lib.hid (show false=S.numE L 4 n from (decide_eq_false (by omega)).symm)
     have hd:decide (1<=n)=false:=decide_eq_false h1
     clear h1
     go_wp2_with fail
     go_quiet (fail)
     go_wp2_with fail
     go_meet
     exact ⟨rfl,rfl,by rw [<- He.out],Lib.hid (HW.out.next (below_drewN (Below.refl _ _) _))⟩
   ·go_wp2_with fail
    refine (b_within n w3).mono ?_
    rintro e4 w4 ⟨rfl,rfl⟩
    go_wp2_with fail
    go_meet
    exact ⟨rfl,rfl,rfl,HW⟩
   ·go_wp2_with fail
    go_meet
    exact ⟨by congr 1;show min (N:Int) 4=((min N 4:Nat):Int);omega,rfl,rfl,HW⟩
   ·go_wp2_with fail
    go_meet
    exact ⟨rfl,rfl,rfl,HW⟩
   ·go_wp2_with fail
    go_meet
    exact ⟨rfl,rfl,rfl,HW⟩
   ·go_wp2_with fail
    go_meet
    exact ⟨rfl,rfl,rfl,HW⟩
   ·go_wp2_with fail
    go_meet
    exact ⟨rfl,rfl,rfl,HW⟩
  case rest =>
   obtain ⟨rfl,rfl,rfl,HWc⟩:=hcut
   have hh:S.headE L op n nm N=(S.numE L op n && decide (N=S.kidsE op N) && (S.namedE op==decide (nm.size≠0)) && (!S.namedE op || S.labB nm)):=by
    unfold S.headE
    rw [decide_eq_true hop,Bool.true_and]
   have hs0:=str_ne0 nm
   rw [<- hs0] at hh
   clear hs0
   generalize S.kidsE op N=K at *
   generalize S.namedE op=M at *
   generalize S.numE L op n=Q at *
   have HR0':=HR0.out
   have HR1':=HR1.out
   rw [hh] at HR0' HR1'
   have H0:=Lib.hid HR0'
   have H1:=Lib.hid HR1'
   clear hh HR0 HR1 HR0' HR1' HW q1 q2 q3 hop
   have q2:wc.cell? ⟨w.heap.size+1,2,none⟩=some (.string nm):=by rw [Lib.cell_of_heap HWc.out.e];rfl
   have q3:wc.cell? ⟨w.heap.size+1,3,none⟩=some (.slice A N c):=by rw [Lib.cell_of_heap HWc.out.e];rfl
   cases Q with
   | false =>
    have Hf:=Lib.hid (H0.out (by simp))
    go_wp2_with fail
    go_ret
    exact ⟨ret_bool Hf.out.symm,HWc.out.b⟩
   | true =>
    by_cases hk:N=K
    ·subst hk
     by_cases hn0:nm.toList=[]
     ·have hie:nm.toList.isEmpty=true:=by simp [hn0]
      cases M with
      | true =>
       have Hf:=Lib.hid (H0.out (by simp [hn0]))
       go_wp2_with fail
       go_ret
       exact ⟨ret_bool Hf.out.symm,HWc.out.b⟩
      | false =>
       have Hc:=Lib.hid (H1.out (by simp [hn0]) wc HWc.out)
       go_wp2_with fail
       refine Hc.out.mono ?_
       rintro e5 w5 ⟨rfl,hb5⟩
       go_wp2_with fail
       go_ret
       exact ⟨ret_bool (by simp),HWc.out.b.trans (hb5.mono HWc.out.b.size)⟩
     ·have hie:nm.toList.isEmpty=false:=by simp [hn0]
      cases M with
      | false =>
       have Hf:=Lib.hid (H0.out (by simp [hn0]))
       go_wp2_with fail
       go_ret
       exact ⟨ret_bool Hf.out.symm,HWc.out.b⟩
      | true =>
       have Hl:=Lib.hid (Hlab.out wc)
       have H0':=Lib.hid (fun h:S.labB nm=false=>H0.out (by simp [hn0,h]))
       have H1':=Lib.hid (fun h:S.labB nm=true=>H1.out (by simp [hn0,h]) wc HWc.out)
       generalize S.labB nm=B at *
       cases B with
       | false =>
        have Hf:=Lib.hid (H0'.out rfl)
        go_wp2_with fail
        refine Hl.out.mono ?_
        rintro e4 w4 ⟨rfl,rfl⟩
        go_wp2_with fail
        go_ret
        exact ⟨ret_bool Hf.out.symm,HWc.out.b⟩
       | true =>
        have Hc:=Lib.hid (H1'.out rfl)
        go_wp2_with fail
        refine Hl.out.mono ?_
        rintro e4 w4 ⟨rfl,rfl⟩
        go_wp2_with fail
        refine Hc.out.mono ?_
        rintro e5 w5 ⟨rfl,hb5⟩
        go_wp2_with fail
        go_ret
        exact ⟨ret_bool (by simp),HWc.out.b.trans (hb5.mono HWc.out.b.size)⟩
    ·have Hf:=Lib.hid (H0.out (by simp [hk]))
     have hne:((N:Int) != (K:Int))=true:=by simp;omega
     clear hk
     go_wp2_with fail
     go_ret
     exact ⟨ret_bool Hf.out.symm,HWc.out.b⟩
 ·have Hf:=Lib.hid (HR0.out (by unfold S.headE;rw [decide_eq_false hop];simp))
  have n1:(op==1)=false:=by simp;omega
  have n2:(op==2)=false:=by simp;omega
  have n3:(op==3)=false:=by simp;omega
  have n4:(op==4)=false:=by simp;omega
  have n5:(op==5)=false:=by simp;omega
  have n6:(op==6)=false:=by simp;omega
  have n7:(op==7)=false:=by simp;omega
  have n8:(op==8)=false:=by simp;omega
  have n9:(op==9)=false:=by simp;omega
  have n10:(op==10)=false:=by simp;omega
  clear hop
  go_wp2_with fail
  go_ret
  exact ⟨ret_bool Hf.out.symm,HW.out.b⟩
theorem enters_formed1:∀ args w,(callFunc 129 args).run Tryz.prog w=.ok (.enter 129 args) w:=enters_of Tryz.func129 (by kernel_rfl) rfl
theorem enters_stmts1:∀ args w,(callFunc 83 args).run Tryz.prog w=.ok (.enter 83 args) w:=enters_of Tryz.func83 (by kernel_rfl) rfl
def FmdPost (L:Int) (e:S.BE) (w:World) (x:Ending) (w':World):Prop:=x=.returned (.bool (S.formedE L e))/\Below w.heap.size w w'
def Fmd (rn:ByteArray) (P L:Int) (bh:Bool) (Ab:Option Addr) (nb cb n:Nat):Prop:=∀ (e:S.BE) (v:Value) (w:World),szE e<=n->EVal w w.heap.size e v ->
 Calls Tryz.prog 84 #[.agg #[.string rn,.int .i64 P,.int .i64 L,.bool bh,.slice Ab nb cb],v] w (FmdPost L e w)
set_option maxHeartbeats 1000000 in
theorem p_formed1 {rn:ByteArray}{P L:Int}{bh:Bool}{Ab:Option Addr}{nb cb n:Nat}(hF:Fmd rn P L bh Ab nb cb n) (g:Nat) (w:World) (hr:w.heap[g]?=some (.cells #[.string rn,.int .i64 P,.int .i64 L,.bool bh,.slice Ab nb cb] 34)) (hg:g<w.heap.size) (l:List S.BE) (hl:∀ e∈l,szE e<=n) :
 PredE w.heap.size 129 #[.pointer (some ⟨g,0,none⟩)] (fun e=>!S.formedE L e) l w:=by
 intro W e v hb he hv
 have HF:=Lib.hid hF
 have hre:=(hb.block g hg).trans hr
 have hgW:g<W.heap.size:=Nat.lt_of_lt_of_le hg hb.size
 have hle:=hl e he
 obtain ⟨A,c,rfl,h1,h2,h3⟩:=hv
 have hbX:Below W.heap.size W (W.alloc (.cells #[.int .i64 e.op,.int .i64 e.n,.string e.name,.slice A e.kids.length c] 24)):=(Below.refl _ _).alloc (Nat.le_refl _) _
 have hrX:=heap_alloc_new W (.cells #[.int .i64 e.op,.int .i64 e.n,.string e.name,.slice A e.kids.length c] 24)
 have hzX:W.heap.size<(W.alloc (.cells #[.int .i64 e.op,.int .i64 e.n,.string e.name,.slice A e.kids.length c] 24)).heap.size:=by simp
 have hcall:=hF e (.agg #[.int .i64 e.op,.int .i64 e.n,.string e.name,.slice A e.kids.length c]) (W.alloc (.cells #[.int .i64 e.op,.int .i64 e.n,.string e.name,.slice A e.kids.length c] 24)) hle ⟨A,c,rfl,h1,h2,(h3.below hbX).more hbX.size⟩
 have hrY:=(hbX.block g hgW).trans hre
 unfold FmdPost at hcall
 show Calls Tryz.prog 129 #[.agg #[.int .i64 e.op,.int .i64 e.n,.string e.name,.slice A e.kids.length c],.pointer (some ⟨g,0,none⟩)] W fun x w'=>x=.returned (.bool (!S.formedE L e))/\Below W.heap.size W w'
 generalize S.formedE L e=R at *
 generalize e.op=op at *
 generalize e.n=en at *
 generalize e.name=nm at *
 generalize e.kids.length=kl at *
 have Hcall:=Lib.hid hcall
 have HbX:=Lib.hid hbX
 clear hcall hF HF hle hl he h1 h2 h3 hb hr hre
 go_enter Tryz.func129,Tryz.ntmps129
 go_upto_region 1 with fail
 generalize W.alloc (.cells #[.int .i64 op,.int .i64 en,.string nm,.slice A kl c] 24)=w2 at *
 have c0:w2.cell? ⟨g,0,none⟩=some (.string rn):=by rw [Lib.cell_of_heap hrY];rfl
 have c1:w2.cell? ⟨g,1,none⟩=some (.int .i64 P):=by rw [Lib.cell_of_heap hrY];rfl
 have c2:w2.cell? ⟨g,2,none⟩=some (.int .i64 L):=by rw [Lib.cell_of_heap hrY];rfl
 have c3:w2.cell? ⟨g,3,none⟩=some (.bool bh):=by rw [Lib.cell_of_heap hrY];rfl
 have c4:w2.cell? ⟨g,4,none⟩=some (.slice Ab nb cb):=by rw [Lib.cell_of_heap hrY];rfl
 have e0:w2.cell? ⟨W.heap.size,0,none⟩=some (.int .i64 op):=by rw [Lib.cell_of_heap hrX];rfl
 have e1:w2.cell? ⟨W.heap.size,1,none⟩=some (.int .i64 en):=by rw [Lib.cell_of_heap hrX];rfl
 have e2:w2.cell? ⟨W.heap.size,2,none⟩=some (.string nm):=by rw [Lib.cell_of_heap hrX];rfl
 have e3:w2.cell? ⟨W.heap.size,3,none⟩=some (.slice A kl c):=by rw [Lib.cell_of_heap hrX];rfl
 clear hrX hrY
 go_wp2_with fail
 refine Hcall.out.mono ?_
 rintro x w3 ⟨rfl,hb3⟩
 go_wp2_with fail
 go_ret
 exact ⟨rfl,HbX.out.trans (hb3.mono HbX.out.size)⟩
theorem b_formed (rn:ByteArray) (P L:Int) (bh:Bool) (Ab:Option Addr) (nb cb:Nat):∀ n,n<=1000000000->Fmd rn P L bh Ab nb cb n:=by
 intro n
 induction n with
 | zero =>
  intro _ e v w hs _
  have:=szE_pos e
  omega
 | succ n ih =>
  intro hn e v w hs hv
  obtain ⟨A,c,rfl,h1,h2,h3⟩:=hv
  have hsz:=szE_pos e
  have hlen:=len_szEs e.kids
  have hfe:S.formedE L e=(S.headE L e.op e.n e.name e.kids.length && S.formedEs L e.kids):=by obtain ⟨op,n',nm,kids⟩:=e;rw [S.formedE];rfl
  refine b_formed1 rn P L bh Ab nb cb e.op e.n e.name e.kids.length A c w (by omega) h1 (S.formedE L e) (fun h=>by rw [hfe,h];rfl) (fun h W hW=>?_)
  have hb:=hW.b
  have hB:=hb.size
  have hk:=(h3.below hb).more hB
  have hp:=p_formed1 (ih (by omega)) w.heap.size W hW.r (by have:=hW.z;omega) e.kids (fun k hk=>by have:=szE_mem hk;omega)
  refine (b_ContainsFunc W.heap.size _ _ (fun k=>!S.formedE L k) enters_formed1 W (Nat.le_refl _) A e.kids c hp hk (by omega)).mono ?_
  rintro x w' ⟨rfl,hb'⟩
  refine ⟨?_,hb'⟩
  rw [hfe,h,formedEs_any]
  simp
end
section
open Go.RowKit
set_option maxHeartbeats 2000000 in
theorem b_shaped (rn:ByteArray) (P L:Int) (bh:Bool) (Ab:Option Addr) (nb cb:Nat) (op n:Int) (nm:ByteArray) (N1 N3 N4:Nat) (regs:List Int) (A1 A2 A3 A4:Option Addr) (c1 c2 c3 c4:Nat) (w:World) (hnm:nm.size<=maxLen) (hreg:Ints w w.heap.size A2 regs) (hrl:regs.length<=maxLen) :
 Calls Tryz.prog 81 #[.agg #[.string rn,.int .i64 P,.int .i64 L,.bool bh,.slice Ab nb cb],.agg #[.int .i64 op,.int .i64 n,.string nm,.slice A1 N1 c1,.slice A2 regs.length c2,.slice A3 N3 c3,.slice A4 N4 c4]] w
  fun x w'=>x=.returned (.bool (S.shapedS L op n nm N1 regs N3 N4))/\Below w.heap.size w w':=by
 have Hris:=Lib.hid (fun (W:World) (hb:Below w.heap.size w W)=>b_rising A2 c2 regs W ((hreg.below hb).more hb.size) hrl)
 have hh0:S.shapedS L op n nm N1 regs N3 N4=(decide (1<=op/\op<=11) && (decide (op=5) || decide (regs.length=0)) && S.risingB regs && (decide (1<=S.bodiesS op) || decide (N3=0)) && (decide (2<=S.bodiesS op) || decide (N4=0)) &&
  S.numS L op n && decide (N1=S.exprsS op regs.length) && (S.namedS op==(nm.toList != ([]:List UInt8))) && (!S.namedS op || S.labB nm)):=by
  rw [str_ne0];rfl
 have Hh:=Lib.hid hh0
 have Hlab:=Lib.hid (fun W=>b_label nm W hnm)
 clear hh0 hnm hreg hrl
 generalize S.risingB regs=ρ at *
 obtain ⟨N2,hN2⟩:∃ N2,N2=regs.length:=⟨_,rfl⟩
 rw [<- hN2] at Hris Hh ⊢
 have HN2:=Lib.hid hN2
 clear hN2
 obtain ⟨res,hres⟩:∃ res,res=S.shapedS L op n nm N1 regs N3 N4:=⟨_,rfl⟩
 rw [<- hres] at Hh ⊢
 clear hres
 obtain ⟨t1,t2,t3,t4⟩:=two_blocks w (.cells #[.string rn,.int .i64 P,.int .i64 L,.bool bh,.slice Ab nb cb] 34) (.cells #[.int .i64 op,.int .i64 n,.string nm,.slice A1 N1 c1,.slice A2 N2 c2,.slice A3 N3 c3,.slice A4 N4 c4] 29)
 go_enter Tryz.func81,Tryz.ntmps81
 go_upto_region 1 with fail
 generalize (w.alloc (.cells #[.string rn,.int .i64 P,.int .i64 L,.bool bh,.slice Ab nb cb] 34)).alloc (.cells #[.int .i64 op,.int .i64 n,.string nm,.slice A1 N1 c1,.slice A2 N2 c2,.slice A3 N3 c3,.slice A4 N4 c4] 29)=w2 at *
 have q0:w2.cell? ⟨w.heap.size+1,0,none⟩=some (.int .i64 op):=by rw [Lib.cell_of_heap t2];rfl
 have q1:w2.cell? ⟨w.heap.size+1,1,none⟩=some (.int .i64 n):=by rw [Lib.cell_of_heap t2];rfl
 go_quiet (fail)
 have HW:=Lib.hid (show RE w (w2.drewN nq) (.cells #[.string rn,.int .i64 P,.int .i64 L,.bool bh,.slice Ab nb cb] 34) (.cells #[.int .i64 op,.int .i64 n,.string nm,.slice A1 N1 c1,.slice A2 N2 c2,.slice A3 N3 c3,.slice A4 N4 c4] 29) from ⟨t1,t2,below_drewN t3 nq,by show _<=w2.heap.size;omega⟩)
 clear q0 q1 t1 t2 t3 t4
 generalize w2.drewN nq=w3 at *
 have q0:w3.cell? ⟨w.heap.size+1,0,none⟩=some (.int .i64 op):=by rw [Lib.cell_of_heap HW.out.e];rfl
 have q1:w3.cell? ⟨w.heap.size+1,1,none⟩=some (.int .i64 n):=by rw [Lib.cell_of_heap HW.out.e];rfl
 have q2:w3.cell? ⟨w.heap.size,2,none⟩=some (.int .i64 L):=by rw [Lib.cell_of_heap HW.out.r];rfl
 have q3:w3.cell? ⟨w.heap.size+1,4,none⟩=some (.slice A2 N2 c2):=by rw [Lib.cell_of_heap HW.out.e];rfl
 go_upto_block 0 with fail
 clear q0
 by_cases hop:1<=op/\op<=11
 ·go_cut [5,6,7,8] (fun v5 v6 v7 v8 wc=>v5=.int .i64 (S.exprsS op N2:Nat)/\v6=.bool (S.namedS op)/\v7=.bool (S.numS L op n)/\v8=.int .i64 (S.bodiesS op)/\Hid (RE w wc (.cells #[.string rn,.int .i64 P,.int .i64 L,.bool bh,.slice Ab nb cb] 34) (.cells #[.int .i64 op,.int .i64 n,.string nm,.slice A1 N1 c1,.slice A2 N2 c2,.slice A3 N3 c3,.slice A4 N4 c4] 29)))
  case first =>
   rcases (show op=1\/op=2\/op=3\/op=4\/op=5\/op=6\/op=7\/op=8\/op=9\/op=10\/op=11 by omega) with rfl | rfl | rfl | rfl | rfl | rfl | rfl | rfl | rfl | rfl | rfl
   ·by_cases h1:0<=n
    ·by_cases h2:n<L
     ·have He:=Lib.hid (show true=S.numS L 1 n from (decide_eq_true ⟨h1,h2⟩).symm)
      go_wp2_with fail
      go_meet
      exact ⟨rfl,rfl,by rw [<- He.out],rfl,HW⟩
     ·have He:=Lib.hid (show false=S.numS L 1 n from (decide_eq_false (by omega)).symm)
      go_wp2_with fail
      go_meet
      exact ⟨rfl,rfl,by rw [<- He.out],rfl,HW⟩
    ·have He:=Lib.hid (show false=S.numS L 1 n from (decide_eq_false (by omega)).symm)
     go_wp2_with fail
     go_meet
     exact ⟨rfl,rfl,by rw [<- He.out],rfl,HW⟩
   ·go_wp2_with fail
    refine (b_within n w3).mono ?_
    rintro e4 w4 ⟨rfl,rfl⟩
    go_wp2_with fail
    go_meet
    exact ⟨rfl,rfl,rfl,rfl,HW⟩
   ·go_wp2_with fail
    go_meet
    exact ⟨rfl,rfl,rfl,rfl,HW⟩
   ·go_wp2_with fail
    go_meet
    exact ⟨rfl,rfl,rfl,rfl,HW⟩
   ·go_wp2_with fail
    go_meet
    exact ⟨rfl,rfl,rfl,rfl,HW⟩
   ·go_wp2_with fail
    go_meet
    exact ⟨rfl,rfl,rfl,rfl,HW⟩
   ·go_wp2_with fail
    go_meet
    exact ⟨rfl,rfl,rfl,rfl,HW⟩
   ·go_wp2_with fail
    go_meet
    exact ⟨rfl,rfl,rfl,rfl,HW⟩
   ·go_wp2_with fail
    refine (b_visible n w3).mono ?_
    rintro e4 w4 ⟨rfl,rfl⟩
    go_wp2_with fail
    go_meet
    exact ⟨rfl,rfl,rfl,rfl,HW⟩
   ·go_wp2_with fail
    go_meet
    exact ⟨rfl,rfl,rfl,rfl,HW⟩
   ·go_wp2_with fail
    go_meet
    exact ⟨rfl,rfl,rfl,rfl,HW⟩
  case rest =>
   obtain ⟨rfl,rfl,rfl,rfl,HWc⟩:=hcut
   have Hh2:=Hh.out
   rw [decide_eq_true hop,Bool.true_and] at Hh2
   have Hh3:=Lib.hid Hh2
   clear Hh2 hop Hh HW q1 q2 q3
   have q0:wc.cell? ⟨w.heap.size+1,0,none⟩=some (.int .i64 op):=by rw [Lib.cell_of_heap HWc.out.e];rfl
   have q2:wc.cell? ⟨w.heap.size+1,2,none⟩=some (.string nm):=by rw [Lib.cell_of_heap HWc.out.e];rfl
   have q3:wc.cell? ⟨w.heap.size+1,3,none⟩=some (.slice A1 N1 c1):=by rw [Lib.cell_of_heap HWc.out.e];rfl
   have q4:wc.cell? ⟨w.heap.size+1,4,none⟩=some (.slice A2 N2 c2):=by rw [Lib.cell_of_heap HWc.out.e];rfl
   have q5:wc.cell? ⟨w.heap.size+1,5,none⟩=some (.slice A3 N3 c3):=by rw [Lib.cell_of_heap HWc.out.e];rfl
   have q6:wc.cell? ⟨w.heap.size+1,6,none⟩=some (.slice A4 N4 c4):=by rw [Lib.cell_of_heap HWc.out.e];rfl
   generalize S.exprsS op N2=K at *
   generalize S.namedS op=M at *
   generalize S.numS L op n=Q at *
   generalize S.bodiesS op=D at *
   have Hr:=Lib.hid (Hris.out wc HWc.out.b)
   have Hl:=Lib.hid (Hlab.out wc)
   generalize S.labB nm=B at *
   clear Hris Hlab HN2
   obtain ⟨V,hV⟩:∃ V:Bool,V=((decide (op=5) || decide (N2=0)) && ρ && (decide (1<=D) || decide (N3=0)) && (decide (2<=D) || decide (N4=0))):=⟨_,rfl⟩
   have Hh4:=Lib.hid (show res=(V && Q && decide (N1=K) && (M==(nm.toList != ([]:List UInt8))) && (!M || B)) from by rw [hV];exact Hh3.out)
   clear Hh3
   go_upto_region 22 with fail
   go_cut [86] (fun v w5=>v=.bool (!V)/\wc=w5)
   case first =>
    clear Hl Hh4 q2 q3
    by_cases h5:op=5
    ·subst h5
     cases ρ with
     | false =>
      have HV:=Lib.hid (show V=false from by rw [hV];simp)
      clear hV
      go_wp2_with fail
      refine Hr.out.mono ?_
      rintro e4 w4 ⟨rfl,rfl⟩
      go_wp2_with fail
      go_meet
      exact ⟨by rw [HV.out];rfl,rfl⟩
     | true =>
      by_cases d1:D<1
      ·by_cases z3:N3=0
       ·subst z3
        by_cases z4:N4=0
        ·subst z4
         have HV:=Lib.hid (show V=true from by rw [hV];simp)
         clear hV
         go_wp2_with fail
         refine Hr.out.mono ?_
         rintro e4 w4 ⟨rfl,rfl⟩
         go_wp2_with fail
         go_meet
         exact ⟨by rw [HV.out];rfl,rfl⟩
        ·have p4:0<N4:=by omega
         have HV:=Lib.hid (show V=false from by rw [hV,decide_eq_false z4,decide_eq_false (show ¬ 2<=D by omega)];simp)
         clear hV z4
         go_wp2_with fail
         refine Hr.out.mono ?_
         rintro e4 w4 ⟨rfl,rfl⟩
         go_wp2_with fail
         go_meet
         exact ⟨by rw [HV.out];rfl,rfl⟩
       ·have p3:0<N3:=by omega
        have HV:=Lib.hid (show V=false from by rw [hV,decide_eq_false z3,decide_eq_false (show ¬ 1<=D by omega)];simp)
        clear hV z3
        go_wp2_with fail
        refine Hr.out.mono ?_
        rintro e4 w4 ⟨rfl,rfl⟩
        go_wp2_with fail
        go_meet
        exact ⟨by rw [HV.out];rfl,rfl⟩
      ·by_cases d2:D<2
       ·by_cases z4:N4=0
        ·subst z4
         have HV:=Lib.hid (show V=true from by rw [hV,decide_eq_true (show 1<=D by omega)];simp)
         clear hV
         go_wp2_with fail
         refine Hr.out.mono ?_
         rintro e4 w4 ⟨rfl,rfl⟩
         go_wp2_with fail
         go_meet
         exact ⟨by rw [HV.out];rfl,rfl⟩
        ·have p4:0<N4:=by omega
         have HV:=Lib.hid (show V=false from by rw [hV,decide_eq_false z4,decide_eq_false (show ¬ 2<=D by omega)];simp)
         clear hV z4
         go_wp2_with fail
         refine Hr.out.mono ?_
         rintro e4 w4 ⟨rfl,rfl⟩
         go_wp2_with fail
         go_meet
         exact ⟨by rw [HV.out];rfl,rfl⟩
       ·have HV:=Lib.hid (show V=true from by rw [hV,decide_eq_true (show 1<=D by omega),decide_eq_true (show 2<=D by omega)];simp)
        clear hV
        go_wp2_with fail
        refine Hr.out.mono ?_
        rintro e4 w4 ⟨rfl,rfl⟩
        go_wp2_with fail
        go_meet
        exact ⟨by rw [HV.out];rfl,rfl⟩
    ·have n5:(op != 5)=true:=by simp [h5]
     by_cases z2:N2=0
     ·subst z2
      clear h5
      cases ρ with
      | false =>
       have HV:=Lib.hid (show V=false from by rw [hV];simp)
       clear hV
       go_wp2_with fail
       refine Hr.out.mono ?_
       rintro e4 w4 ⟨rfl,rfl⟩
       go_wp2_with fail
       go_meet
       exact ⟨by rw [HV.out];rfl,rfl⟩
      | true =>
       by_cases d1:D<1
       ·by_cases z3:N3=0
        ·subst z3
         by_cases z4:N4=0
         ·subst z4
          have HV:=Lib.hid (show V=true from by rw [hV];simp)
          clear hV
          go_wp2_with fail
          refine Hr.out.mono ?_
          rintro e4 w4 ⟨rfl,rfl⟩
          go_wp2_with fail
          go_meet
          exact ⟨by rw [HV.out];rfl,rfl⟩
         ·have p4:0<N4:=by omega
          have HV:=Lib.hid (show V=false from by rw [hV,decide_eq_false z4,decide_eq_false (show ¬ 2<=D by omega)];simp)
          clear hV z4
          go_wp2_with fail
          refine Hr.out.mono ?_
          rintro e4 w4 ⟨rfl,rfl⟩
          go_wp2_with fail
          go_meet
          exact ⟨by rw [HV.out];rfl,rfl⟩
        ·have p3:0<N3:=by omega
         have HV:=Lib.hid (show V=false from by rw [hV,decide_eq_false z3,decide_eq_false (show ¬ 1<=D by omega)];simp)
         clear hV z3
         go_wp2_with fail
         refine Hr.out.mono ?_
         rintro e4 w4 ⟨rfl,rfl⟩
         go_wp2_with fail
         go_meet
         exact ⟨by rw [HV.out];rfl,rfl⟩
       ·by_cases d2:D<2
        ·by_cases z4:N4=0
         ·subst z4
          have HV:=Lib.hid (show V=true from by rw [hV,decide_eq_true (show 1<=D by omega)];simp)
          clear hV
          go_wp2_with fail
          refine Hr.out.mono ?_
          rintro e4 w4 ⟨rfl,rfl⟩
          go_wp2_with fail
          go_meet
          exact ⟨by rw [HV.out];rfl,rfl⟩
         ·have p4:0<N4:=by omega
          have HV:=Lib.hid (show V=false from by rw [hV,decide_eq_false z4,decide_eq_false (show ¬ 2<=D by omega)];simp)
          clear hV z4
          go_wp2_with fail
          refine Hr.out.mono ?_
          rintro e4 w4 ⟨rfl,rfl⟩
          go_wp2_with fail
          go_meet
          exact ⟨by rw [HV.out];rfl,rfl⟩
        ·have HV:=Lib.hid (show V=true from by rw [hV,decide_eq_true (show 1<=D by omega),decide_eq_true (show 2<=D by omega)];simp)
         clear hV
         go_wp2_with fail
         refine Hr.out.mono ?_
         rintro e4 w4 ⟨rfl,rfl⟩
         go_wp2_with fail
         go_meet
         exact ⟨by rw [HV.out];rfl,rfl⟩
     ·have p2:0<N2:=by omega
      have HV:=Lib.hid (show V=false from by rw [hV,decide_eq_false h5,decide_eq_false z2];simp)
      clear hV z2 h5
      go_wp2_with fail
      go_meet
      exact ⟨by rw [HV.out];rfl,rfl⟩
   case rest =>
    obtain ⟨rfl,rfl⟩:=hcut
    clear hV
    cases V with
    | false =>
     have Hf:=Lib.hid (Hh4.out.trans (show _=false by simp))
     go_wp2_with fail
     go_ret
     exact ⟨ret_bool Hf.out.symm,HWc.out.b⟩
    | true =>
     cases Q with
     | false =>
      have Hf:=Lib.hid (Hh4.out.trans (show _=false by simp))
      go_wp2_with fail
      go_ret
      exact ⟨ret_bool Hf.out.symm,HWc.out.b⟩
     | true =>
      by_cases hk:N1=K
      ·subst hk
       by_cases hn0:nm.toList=[]
       ·have hie:nm.toList.isEmpty=true:=by simp [hn0]
        cases M with
        | true =>
         have Hf:=Lib.hid (Hh4.out.trans (show _=false by simp [hn0]))
         go_wp2_with fail
         go_ret
         exact ⟨ret_bool Hf.out.symm,HWc.out.b⟩
        | false =>
         have Hf:=Lib.hid (Hh4.out.trans (show _=true by simp [hn0]))
         go_wp2_with fail
         go_ret
         exact ⟨ret_bool Hf.out.symm,HWc.out.b⟩
       ·have hie:nm.toList.isEmpty=false:=by simp [hn0]
        cases M with
        | false =>
         have Hf:=Lib.hid (Hh4.out.trans (show _=false by simp [hn0]))
         go_wp2_with fail
         go_ret
         exact ⟨ret_bool Hf.out.symm,HWc.out.b⟩
        | true =>
         have Hf:=Lib.hid (Hh4.out.trans (show _=B by simp [hn0]))
         go_wp2_with fail
         refine Hl.out.mono ?_
         rintro e4 w4 ⟨rfl,rfl⟩
         go_wp2_with fail
         go_ret
         exact ⟨ret_bool Hf.out.symm,HWc.out.b⟩
      ·have Hf:=Lib.hid (Hh4.out.trans (show _=false by simp [hk]))
       have hne:((N1:Int)==(K:Int))=false:=by simp;omega
       clear hk
       go_wp2_with fail
       go_ret
       exact ⟨ret_bool Hf.out.symm,HWc.out.b⟩
 ·have Hf:=Lib.hid (show res=false from by rw [Hh.out,decide_eq_false hop];simp)
  have n1:(op==1)=false:=by simp;omega
  have n2:(op==2)=false:=by simp;omega
  have n3:(op==3)=false:=by simp;omega
  have n4:(op==4)=false:=by simp;omega
  have n5:(op==5)=false:=by simp;omega
  have n6:(op==6)=false:=by simp;omega
  have n7:(op==7)=false:=by simp;omega
  have n8:(op==8)=false:=by simp;omega
  have n9:(op==9)=false:=by simp;omega
  have n10:(op==10)=false:=by simp;omega
  have n11:(op==11)=false:=by simp;omega
  clear hop
  go_wp2_with fail
  go_ret
  exact ⟨ret_bool Hf.out.symm,HW.out.b⟩
end
end Go.Proofs.YtlldagdhlfpihaaGreatDoor
