/- Parts. -/
import Derived.Test.YtdeepoikgfaecaaGreatDoorZBFrm
import Derived.Deep.CutBlock
set_option linter.all false
set_option maxHeartbeats 4000000
open Go.Lib renaming hid->Ya,cell_of_heap->Yb
open Nat renaming le_refl->Yf,lt_of_lt_of_le->Yt,le_trans->Y9
open Go.RowKit.Below renaming refl->Yj
namespace Go.Proofs.YtdeepoikgfaecaaGreatDoor
set_option maxRecDepth 100000
section
open Go.RowKit
theorem Zee (w:World)(a b:Obj):((w.alloc a).alloc b).heap[w.heap.size]?=some a/\((w.alloc a).alloc b).heap[w.heap.size+1]?=some b/\Below w.heap.size w ((w.alloc a).alloc b)/\((w.alloc a).alloc b).heap.size=w.heap.size+2:=by
 refine ⟨?_,?_,((Yj _ _).alloc (Yf _) _).alloc (by simp) _,by simp⟩
 ·rw [((Yj _ _).alloc (Yf (w.alloc a).heap.size) b).block _ (by simp)]
  exact heap_alloc_new w a
 ·have:=heap_alloc_new (w.alloc a) b
  have e:(w.alloc a).heap.size=w.heap.size+1:=by simp
  rw [e] at this;exact this
structure RE (w wc:World)(r e:Obj):Prop where
 r:wc.heap[w.heap.size]?=some r
 e:wc.heap[w.heap.size+1]?=some e
 b:Below w.heap.size w wc
 z:w.heap.size+2<=wc.heap.size
theorem RE.next {w wc w2:World}{r e:Obj}(h:RE w wc r e)(hb:Below wc.heap.size wc w2):RE w w2 r e :=
 ⟨(hb.block _ (by have:=h.z;omega)).trans h.r,(hb.block _ (by have:=h.z;omega)).trans h.e,h.b.trans (hb.mono h.b.size),Y9 h.z hb.size⟩
theorem Zd1 (L:Int):∀ l:List S.BE,S.formedEs L l=!(l.any fun k=>!S.formedE L k)
 | []=>rfl
 | e::r=>by
  rw [S.formedEs,Zd1 L r,List.any_cons]
  cases S.formedE L e <;> simp
theorem Zsj (rn:ByteArray)(P L:Int)(bh:Bool)(Ab:Option Addr)(nb cb:Nat)(op n:Int)(nm:ByteArray)(N:Nat)(A:Option Addr)(c:Nat)(w:World)(hN:N<=1000000000)(hnm:nm.size<=maxLen)(R:Bool)(hR0:S.headE L op n nm N=false->R=false)
 (hR1:S.headE L op n nm N=true->∀ W,RE w W (.cells #[.string rn,.int .i64 P,.int .i64 L,.bool bh,.slice Ab nb cb] 151) (.cells #[.int .i64 op,.int .i64 n,.string nm,.slice A N c] 95)->Calls Tryz.prog 204 #[.slice A N c,.func (.func 223) #[] #[.pointer (some ⟨w.heap.size,0,none⟩)]] W fun x w'=>x=.returned (.bool (!R))/\Below W.heap.size W w') :
 Calls Tryz.prog 206 #[.agg #[.string rn,.int .i64 P,.int .i64 L,.bool bh,.slice Ab nb cb],.agg #[.int .i64 op,.int .i64 n,.string nm,.slice A N c]] w fun x w'=>x=.returned (.bool R)/\Below w.heap.size w w':=by
 obtain ⟨t1,t2,t3,t4⟩:=Zee w (.cells #[.string rn,.int .i64 P,.int .i64 L,.bool bh,.slice Ab nb cb] 151) (.cells #[.int .i64 op,.int .i64 n,.string nm,.slice A N c] 95);have HR0:=Ya hR0;have HR1:=Ya hR1;have Hlab:=Ya (fun W=>Zno nm W hnm);clear hR0 hR1 hnm;go_enter Tryz.func206,Tryz.ntmps206
 go_upto_region 1 with fail
 generalize (w.alloc (.cells #[.string rn,.int .i64 P,.int .i64 L,.bool bh,.slice Ab nb cb] 151)).alloc (.cells #[.int .i64 op,.int .i64 n,.string nm,.slice A N c] 95)=w2 at *;have q0:w2.cell? ⟨w.heap.size+1,0,none⟩=some (.int .i64 op):=by rw [Yb t2];rfl
 have q1:w2.cell? ⟨w.heap.size+1,1,none⟩=some (.int .i64 n):=by rw [Yb t2];rfl
 go_quiet (fail)
 have HW:=Ya (show RE w (w2.drewN nq) (.cells #[.string rn,.int .i64 P,.int .i64 L,.bool bh,.slice Ab nb cb] 151) (.cells #[.int .i64 op,.int .i64 n,.string nm,.slice A N c] 95) from ⟨t1,t2,below_drewN t3 nq,by show _<=w2.heap.size;omega⟩);clear q0 q1 t1 t2 t3 t4;generalize w2.drewN nq=w3 at *;have q0:w3.cell? ⟨w.heap.size+1,0,none⟩=some (.int .i64 op):=by rw [Yb HW.out.e];rfl
 have q1:w3.cell? ⟨w.heap.size+1,1,none⟩=some (.int .i64 n):=by rw [Yb HW.out.e];rfl
 have q2:w3.cell? ⟨w.heap.size,2,none⟩=some (.int .i64 L):=by rw [Yb HW.out.r];rfl
 have q3:w3.cell? ⟨w.heap.size+1,3,none⟩=some (.slice A N c):=by rw [Yb HW.out.e];rfl
 go_upto_block 0 with fail
 clear q0;by_cases hop:1<=op/\op<=10
 ·go_cut [5,6,7] (fun v5 v6 v7 wc=>v5=.int .i64 (S.kidsE op N:Nat)/\v6=.bool (S.namedE op)/\v7=.bool (S.numE L op n)/\Hid (RE w wc (.cells #[.string rn,.int .i64 P,.int .i64 L,.bool bh,.slice Ab nb cb] 151) (.cells #[.int .i64 op,.int .i64 n,.string nm,.slice A N c] 95)))
  case first =>
   rcases (show op=1\/op=2\/op=3\/op=4\/op=5\/op=6\/op=7\/op=8\/op=9\/op=10 by omega) with rfl | rfl | rfl | rfl | rfl | rfl | rfl | rfl | rfl | rfl
   ·by_cases h1:-2147483648<=n
    ·by_cases h2:n<=4294967295
     ·have He:=Ya (show true=S.numE L 1 n from (decide_eq_true ⟨h1,h2⟩).symm)
      go_wp2_with fail
      go_meet
      exact ⟨rfl,rfl,by rw [<- He.out],HW⟩
     ·have He:=Ya (show false=S.numE L 1 n from (decide_eq_false (by omega)).symm)
      go_wp2_with fail
      go_meet
      exact ⟨rfl,rfl,by rw [<- He.out],HW⟩
    ·have He:=Ya (show false=S.numE L 1 n from (decide_eq_false (by omega)).symm)
     go_wp2_with fail
     go_meet
     exact ⟨rfl,rfl,by rw [<- He.out],HW⟩
   ·by_cases h1:0<=n
    ·by_cases h2:n<L
     ·have He:=Ya (show true=S.numE L 2 n from (decide_eq_true ⟨h1,h2⟩).symm)
      go_wp2_with fail
      go_meet
      exact ⟨rfl,rfl,by rw [<- He.out],HW⟩
     ·have He:=Ya (show false=S.numE L 2 n from (decide_eq_false (by omega)).symm)
      go_wp2_with fail
      go_meet
      exact ⟨rfl,rfl,by rw [<- He.out],HW⟩
    ·have He:=Ya (show false=S.numE L 2 n from (decide_eq_false (by omega)).symm)
     go_wp2_with fail
     go_meet
     exact ⟨rfl,rfl,by rw [<- He.out],HW⟩
   ·go_wp2_with fail
    refine (Ze7 n w3).mono ?_;rintro e4 w4 ⟨rfl,rfl⟩;go_wp2_with fail
    go_meet
    exact ⟨rfl,rfl,rfl,HW⟩
   ·by_cases h1:1<=n
    ·by_cases h2:n<=14
     ·have He:=Ya (show true=S.numE L 4 n from (decide_eq_true ⟨h1,h2⟩).symm)
      go_wp2_with fail
      go_quiet (fail)
      go_wp2_with fail
      go_meet
      exact ⟨rfl,rfl,by rw [<- He.out],Ya (HW.out.next (below_drewN (Yj _ _) _))⟩
     ·have He:=Ya (show false=S.numE L 4 n from (decide_eq_false (by omega)).symm)
      go_wp2_with fail
      go_quiet (fail)
      go_wp2_with fail
      go_meet
      exact ⟨rfl,rfl,by rw [<- He.out];congr 1;rw [decide_eq_false_iff_not];omega,Ya (HW.out.next (below_drewN (Yj _ _) _))⟩
    ·have He:=Ya (show false=S.numE L 4 n from (decide_eq_false (by omega)).symm)
     have hd:decide (1<=n)=false:=decide_eq_false h1;clear h1;go_wp2_with fail
     go_quiet (fail)
     go_wp2_with fail
     go_meet
     exact ⟨rfl,rfl,by rw [<- He.out],Ya (HW.out.next (below_drewN (Yj _ _) _))⟩
   ·go_wp2_with fail
    refine (Zo0 n w3).mono ?_;rintro e4 w4 ⟨rfl,rfl⟩;go_wp2_with fail
    go_meet
    exact ⟨rfl,rfl,rfl,HW⟩
   ·go_wp2_with fail
    go_meet
    exact ⟨by congr 1;show min (N:Int) 4=((min N 4:Nat):Int);omega,rfl,rfl,HW⟩
   ·go_wp2_with fail
    go_meet
    exact ⟨rfl,rfl,rfl,HW⟩
   ·go_wp2_with fail
    go_meet
    exact ⟨rfl,rfl,rfl,HW⟩
   ·go_wp2_with fail
    go_meet
    exact ⟨rfl,rfl,rfl,HW⟩
   ·go_wp2_with fail
    go_meet
    exact ⟨rfl,rfl,rfl,HW⟩
  case rest =>
   obtain ⟨rfl,rfl,rfl,HWc⟩:=hcut;have hh:S.headE L op n nm N=(S.numE L op n && decide (N=S.kidsE op N) && (S.namedE op==decide (nm.size≠0)) && (!S.namedE op || S.labB nm)):=by
    unfold S.headE;rw [decide_eq_true hop,Bool.true_and]
   have hs0:=Zg7 nm;rw [<- hs0] at hh;clear hs0;generalize S.kidsE op N=K at *;generalize S.namedE op=M at *;generalize S.numE L op n=Q at *;have HR0':=HR0.out;have HR1':=HR1.out;rw [hh] at HR0' HR1';have H0:=Ya HR0';have H1:=Ya HR1';clear hh HR0 HR1 HR0' HR1' HW q1 q2 q3 hop;have q2:wc.cell? ⟨w.heap.size+1,2,none⟩=some (.string nm):=by rw [Yb HWc.out.e];rfl
   have q3:wc.cell? ⟨w.heap.size+1,3,none⟩=some (.slice A N c):=by rw [Yb HWc.out.e];rfl
   cases Q with
   | false =>
    have Hf:=Ya (H0.out (by simp));go_wp2_with fail
    go_ret
    exact ⟨Zf Hf.out.symm,HWc.out.b⟩
   | true =>
    by_cases hk:N=K
    ·subst hk
     by_cases hn0:nm.toList=[]
     ·have hie:nm.toList.isEmpty=true:=by simp [hn0]
      cases M with
      | true =>
       have Hf:=Ya (H0.out (by simp [hn0]));go_wp2_with fail
       go_ret
       exact ⟨Zf Hf.out.symm,HWc.out.b⟩
      | false =>
       have Hc:=Ya (H1.out (by simp [hn0]) wc HWc.out);go_wp2_with fail
       refine Hc.out.mono ?_;rintro e5 w5 ⟨rfl,hb5⟩;go_wp2_with fail
       go_ret
       exact ⟨Zf (by simp),HWc.out.b.trans (hb5.mono HWc.out.b.size)⟩
     ·have hie:nm.toList.isEmpty=false:=by simp [hn0]
      cases M with
      | false =>
       have Hf:=Ya (H0.out (by simp [hn0]));go_wp2_with fail
       go_ret
       exact ⟨Zf Hf.out.symm,HWc.out.b⟩
      | true =>
       have Hl:=Ya (Hlab.out wc);have H0':=Ya (fun h:S.labB nm=false=>H0.out (by simp [hn0,h]));have H1':=Ya (fun h:S.labB nm=true=>H1.out (by simp [hn0,h]) wc HWc.out);generalize S.labB nm=B at *
       cases B with
       | false =>
        have Hf:=Ya (H0'.out rfl);go_wp2_with fail
        refine Hl.out.mono ?_;rintro e4 w4 ⟨rfl,rfl⟩;go_wp2_with fail
        go_ret
        exact ⟨Zf Hf.out.symm,HWc.out.b⟩
       | true =>
        have Hc:=Ya (H1'.out rfl);go_wp2_with fail
        refine Hl.out.mono ?_;rintro e4 w4 ⟨rfl,rfl⟩;go_wp2_with fail
        refine Hc.out.mono ?_;rintro e5 w5 ⟨rfl,hb5⟩;go_wp2_with fail
        go_ret
        exact ⟨Zf (by simp),HWc.out.b.trans (hb5.mono HWc.out.b.size)⟩
    ·have Hf:=Ya (H0.out (by simp [hk]))
     have hne:((N:Int) != (K:Int))=true:=by simp;omega
     clear hk;go_wp2_with fail
     go_ret
     exact ⟨Zf Hf.out.symm,HWc.out.b⟩
 ·have Hf:=Ya (HR0.out (by unfold S.headE;rw [decide_eq_false hop];simp))
  have n1:(op==1)=false:=by simp;omega
  have n2:(op==2)=false:=by simp;omega
  have n3:(op==3)=false:=by simp;omega
  have n4:(op==4)=false:=by simp;omega
  have n5:(op==5)=false:=by simp;omega
  have n6:(op==6)=false:=by simp;omega
  have n7:(op==7)=false:=by simp;omega
  have n8:(op==8)=false:=by simp;omega
  have n9:(op==9)=false:=by simp;omega
  have n10:(op==10)=false:=by simp;omega
  clear hop;go_wp2_with fail
  go_ret
  exact ⟨Zf Hf.out.symm,HW.out.b⟩
theorem Zin:∀ args w,(callFunc 223 args).run Tryz.prog w=.ok (.enter 223 args) w:=enters_of Tryz.func223 (by kernel_rfl) rfl
theorem Zj5:∀ args w,(callFunc 205 args).run Tryz.prog w=.ok (.enter 205 args) w:=enters_of Tryz.func205 (by kernel_rfl) rfl
def Znx (L:Int)(e:S.BE)(w:World)(x:Ending)(w':World):Prop:=x=.returned (.bool (S.formedE L e))/\Below w.heap.size w w'
def Fmd (rn:ByteArray)(P L:Int)(bh:Bool)(Ab:Option Addr)(nb cb n:Nat):Prop:=∀ (e:S.BE) (v:Value) (w:World),szE e<=n->Z2a w w.heap.size e v ->
 Calls Tryz.prog 206 #[.agg #[.string rn,.int .i64 P,.int .i64 L,.bool bh,.slice Ab nb cb],v] w (Znx L e w)
theorem Zsk {rn:ByteArray}{P L:Int}{bh:Bool}{Ab:Option Addr}{nb cb n:Nat}(hF:Fmd rn P L bh Ab nb cb n)(g:Nat)(w:World)(hr:w.heap[g]?=some (.cells #[.string rn,.int .i64 P,.int .i64 L,.bool bh,.slice Ab nb cb] 151))(hg:g<w.heap.size)(l:List S.BE)(hl:∀ e∈l,szE e<=n) :
 Zvd w.heap.size 223 #[.pointer (some ⟨g,0,none⟩)] (fun e=>!S.formedE L e) l w:=by
 intro W e v hb he hv;have HF:=Ya hF;have hre:=(hb.block g hg).trans hr;have hgW:g<W.heap.size:=Yt hg hb.size;have hle:=hl e he;obtain ⟨A,c,rfl,h1,h2,h3⟩:=hv;have hbX:Below W.heap.size W (W.alloc (.cells #[.int .i64 e.op,.int .i64 e.n,.string e.name,.slice A e.kids.length c] 95)):=(Yj _ _).alloc (Yf _) _;have hrX:=heap_alloc_new W (.cells #[.int .i64 e.op,.int .i64 e.n,.string e.name,.slice A e.kids.length c] 95);have hzX:W.heap.size<(W.alloc (.cells #[.int .i64 e.op,.int .i64 e.n,.string e.name,.slice A e.kids.length c] 95)).heap.size:=by simp
 have hcall:=hF e (.agg #[.int .i64 e.op,.int .i64 e.n,.string e.name,.slice A e.kids.length c]) (W.alloc (.cells #[.int .i64 e.op,.int .i64 e.n,.string e.name,.slice A e.kids.length c] 95)) hle ⟨A,c,rfl,h1,h2,(h3.below hbX).more hbX.size⟩;have hrY:=(hbX.block g hgW).trans hre;unfold Znx at hcall
 show Calls Tryz.prog 223 #[.agg #[.int .i64 e.op,.int .i64 e.n,.string e.name,.slice A e.kids.length c],.pointer (some ⟨g,0,none⟩)] W fun x w'=>x=.returned (.bool (!S.formedE L e))/\Below W.heap.size W w'
 generalize S.formedE L e=R at *;generalize e.op=op at *;generalize e.n=en at *;generalize e.name=nm at *;generalize e.kids.length=kl at *;have Hcall:=Ya hcall;have HbX:=Ya hbX;clear hcall hF HF hle hl he h1 h2 h3 hb hr hre;go_enter Tryz.func223,Tryz.ntmps223
 go_upto_region 1 with fail
 generalize W.alloc (.cells #[.int .i64 op,.int .i64 en,.string nm,.slice A kl c] 95)=w2 at *;have c0:w2.cell? ⟨g,0,none⟩=some (.string rn):=by rw [Yb hrY];rfl
 have c1:w2.cell? ⟨g,1,none⟩=some (.int .i64 P):=by rw [Yb hrY];rfl
 have c2:w2.cell? ⟨g,2,none⟩=some (.int .i64 L):=by rw [Yb hrY];rfl
 have c3:w2.cell? ⟨g,3,none⟩=some (.bool bh):=by rw [Yb hrY];rfl
 have c4:w2.cell? ⟨g,4,none⟩=some (.slice Ab nb cb):=by rw [Yb hrY];rfl
 have e0:w2.cell? ⟨W.heap.size,0,none⟩=some (.int .i64 op):=by rw [Yb hrX];rfl
 have e1:w2.cell? ⟨W.heap.size,1,none⟩=some (.int .i64 en):=by rw [Yb hrX];rfl
 have e2:w2.cell? ⟨W.heap.size,2,none⟩=some (.string nm):=by rw [Yb hrX];rfl
 have e3:w2.cell? ⟨W.heap.size,3,none⟩=some (.slice A kl c):=by rw [Yb hrX];rfl
 clear hrX hrY;go_wp2_with fail
 refine Hcall.out.mono ?_;rintro x w3 ⟨rfl,hb3⟩;go_wp2_with fail
 go_ret
 exact ⟨rfl,HbX.out.trans (hb3.mono HbX.out.size)⟩
theorem Zvk (rn:ByteArray)(P L:Int)(bh:Bool)(Ab:Option Addr)(nb cb:Nat):∀ n,n<=1000000000->Fmd rn P L bh Ab nb cb n:=by
 intro n
 induction n with
 | zero =>
  intro _ e v w hs _;have:=Zdb e;omega
 | succ n ih =>
  intro hn e v w hs hv;obtain ⟨A,c,rfl,h1,h2,h3⟩:=hv;have hsz:=Zdb e;have hlen:=Zec e.kids;have hfe:S.formedE L e=(S.headE L e.op e.n e.name e.kids.length && S.formedEs L e.kids):=by obtain ⟨op,n',nm,kids⟩:=e;rw [S.formedE];rfl
  refine Zsj rn P L bh Ab nb cb e.op e.n e.name e.kids.length A c w (by omega) h1 (S.formedE L e) (fun h=>by rw [hfe,h];rfl) (fun h W hW=>?_);have hb:=hW.b;have hB:=hb.size;have hk:=(h3.below hb).more hB;have hp:=Zsk (ih (by omega)) w.heap.size W hW.r (by have:=hW.z;omega) e.kids (fun k hk=>by have:=Zjy hk;omega);refine (Zen W.heap.size _ _ (fun k=>!S.formedE L k) Zin W (Yf _) A e.kids c hp hk (by omega)).mono ?_;rintro x w' ⟨rfl,hb'⟩;refine ⟨?_,hb'⟩;rw [hfe,h,Zd1];simp
end
section
open Go.RowKit
theorem Zvl (rn:ByteArray)(P L:Int)(bh:Bool)(Ab:Option Addr)(nb cb:Nat)(op n:Int)(nm:ByteArray)(N1 N3 N4:Nat)(regs:List Int)(A1 A2 A3 A4:Option Addr)(c1 c2 c3 c4:Nat)(w:World)(hnm:nm.size<=maxLen)(hreg:Ints w w.heap.size A2 regs)(hrl:regs.length<=maxLen) :
 Calls Tryz.prog 203 #[.agg #[.string rn,.int .i64 P,.int .i64 L,.bool bh,.slice Ab nb cb],.agg #[.int .i64 op,.int .i64 n,.string nm,.slice A1 N1 c1,.slice A2 regs.length c2,.slice A3 N3 c3,.slice A4 N4 c4]] w
  fun x w'=>x=.returned (.bool (S.shapedS L op n nm N1 regs N3 N4))/\Below w.heap.size w w':=by
 have Hris:=Ya (fun (W:World) (hb:Below w.heap.size w W)=>Zvb A2 c2 regs W ((hreg.below hb).more hb.size) hrl);have hh0:S.shapedS L op n nm N1 regs N3 N4=(decide (1<=op/\op<=11) && (decide (op=5) || decide (regs.length=0)) && S.risingB regs && (decide (1<=S.bodiesS op) || decide (N3=0)) && (decide (2<=S.bodiesS op) || decide (N4=0)) &&
  S.numS L op n && decide (N1=S.exprsS op regs.length) && (S.namedS op==(nm.toList != ([]:List UInt8))) && (!S.namedS op || S.labB nm)):=by
  rw [Zg7];rfl
 have Hh:=Ya hh0;have Hlab:=Ya (fun W=>Zno nm W hnm);clear hh0 hnm hreg hrl;generalize S.risingB regs=ρ at *;obtain ⟨N2,hN2⟩:=Yx regs.length;rw [<- hN2] at Hris Hh ⊢;have HN2:=Ya hN2;clear hN2;obtain ⟨res,hres⟩:=Yx (S.shapedS L op n nm N1 regs N3 N4);rw [<- hres] at Hh ⊢;clear hres;obtain ⟨t1,t2,t3,t4⟩:=Zee w (.cells #[.string rn,.int .i64 P,.int .i64 L,.bool bh,.slice Ab nb cb] 151) (.cells #[.int .i64 op,.int .i64 n,.string nm,.slice A1 N1 c1,.slice A2 N2 c2,.slice A3 N3 c3,.slice A4 N4 c4] 99);go_enter Tryz.func203,Tryz.ntmps203
 go_upto_region 1 with fail
 generalize (w.alloc (.cells #[.string rn,.int .i64 P,.int .i64 L,.bool bh,.slice Ab nb cb] 151)).alloc (.cells #[.int .i64 op,.int .i64 n,.string nm,.slice A1 N1 c1,.slice A2 N2 c2,.slice A3 N3 c3,.slice A4 N4 c4] 99)=w2 at *;have q0:w2.cell? ⟨w.heap.size+1,0,none⟩=some (.int .i64 op):=by rw [Yb t2];rfl
 have q1:w2.cell? ⟨w.heap.size+1,1,none⟩=some (.int .i64 n):=by rw [Yb t2];rfl
 go_quiet (fail)
 have HW:=Ya (show RE w (w2.drewN nq) (.cells #[.string rn,.int .i64 P,.int .i64 L,.bool bh,.slice Ab nb cb] 151) (.cells #[.int .i64 op,.int .i64 n,.string nm,.slice A1 N1 c1,.slice A2 N2 c2,.slice A3 N3 c3,.slice A4 N4 c4] 99) from ⟨t1,t2,below_drewN t3 nq,by show _<=w2.heap.size;omega⟩);clear q0 q1 t1 t2 t3 t4;generalize w2.drewN nq=w3 at *;have q0:w3.cell? ⟨w.heap.size+1,0,none⟩=some (.int .i64 op):=by rw [Yb HW.out.e];rfl
 have q1:w3.cell? ⟨w.heap.size+1,1,none⟩=some (.int .i64 n):=by rw [Yb HW.out.e];rfl
 have q2:w3.cell? ⟨w.heap.size,2,none⟩=some (.int .i64 L):=by rw [Yb HW.out.r];rfl
 have q3:w3.cell? ⟨w.heap.size+1,4,none⟩=some (.slice A2 N2 c2):=by rw [Yb HW.out.e];rfl
 go_upto_block 0 with fail
 clear q0;by_cases hop:1<=op/\op<=11
 ·go_cut [5,6,7,8] (fun v5 v6 v7 v8 wc=>v5=.int .i64 (S.exprsS op N2:Nat)/\v6=.bool (S.namedS op)/\v7=.bool (S.numS L op n)/\v8=.int .i64 (S.bodiesS op)/\Hid (RE w wc (.cells #[.string rn,.int .i64 P,.int .i64 L,.bool bh,.slice Ab nb cb] 151) (.cells #[.int .i64 op,.int .i64 n,.string nm,.slice A1 N1 c1,.slice A2 N2 c2,.slice A3 N3 c3,.slice A4 N4 c4] 99)))
  case first =>
   rcases (show op=1\/op=2\/op=3\/op=4\/op=5\/op=6\/op=7\/op=8\/op=9\/op=10\/op=11 by omega) with rfl | rfl | rfl | rfl | rfl | rfl | rfl | rfl | rfl | rfl | rfl
   ·by_cases h1:0<=n
    ·by_cases h2:n<L
     ·have He:=Ya (show true=S.numS L 1 n from (decide_eq_true ⟨h1,h2⟩).symm)
      go_wp2_with fail
      go_meet
      exact ⟨rfl,rfl,by rw [<- He.out],rfl,HW⟩
     ·have He:=Ya (show false=S.numS L 1 n from (decide_eq_false (by omega)).symm)
      go_wp2_with fail
      go_meet
      exact ⟨rfl,rfl,by rw [<- He.out],rfl,HW⟩
    ·have He:=Ya (show false=S.numS L 1 n from (decide_eq_false (by omega)).symm)
     go_wp2_with fail
     go_meet
     exact ⟨rfl,rfl,by rw [<- He.out],rfl,HW⟩
   ·go_wp2_with fail
    refine (Zo0 n w3).mono ?_;rintro e4 w4 ⟨rfl,rfl⟩;go_wp2_with fail
    go_meet
    exact ⟨rfl,rfl,rfl,rfl,HW⟩
   ·go_wp2_with fail
    go_meet
    exact ⟨rfl,rfl,rfl,rfl,HW⟩
   ·go_wp2_with fail
    go_meet
    exact ⟨rfl,rfl,rfl,rfl,HW⟩
   ·go_wp2_with fail
    go_meet
    exact ⟨rfl,rfl,rfl,rfl,HW⟩
   ·go_wp2_with fail
    go_meet
    exact ⟨rfl,rfl,rfl,rfl,HW⟩
   ·go_wp2_with fail
    go_meet
    exact ⟨rfl,rfl,rfl,rfl,HW⟩
   ·go_wp2_with fail
    go_meet
    exact ⟨rfl,rfl,rfl,rfl,HW⟩
   ·go_wp2_with fail
    refine (Ze7 n w3).mono ?_;rintro e4 w4 ⟨rfl,rfl⟩;go_wp2_with fail
    go_meet
    exact ⟨rfl,rfl,rfl,rfl,HW⟩
   ·go_wp2_with fail
    go_meet
    exact ⟨rfl,rfl,rfl,rfl,HW⟩
   ·go_wp2_with fail
    go_meet
    exact ⟨rfl,rfl,rfl,rfl,HW⟩
  case rest =>
   obtain ⟨rfl,rfl,rfl,rfl,HWc⟩:=hcut;have Hh2:=Hh.out;rw [decide_eq_true hop,Bool.true_and] at Hh2;have Hh3:=Ya Hh2;clear Hh2 hop Hh HW q1 q2 q3;have q0:wc.cell? ⟨w.heap.size+1,0,none⟩=some (.int .i64 op):=by rw [Yb HWc.out.e];rfl
   have q2:wc.cell? ⟨w.heap.size+1,2,none⟩=some (.string nm):=by rw [Yb HWc.out.e];rfl
   have q3:wc.cell? ⟨w.heap.size+1,3,none⟩=some (.slice A1 N1 c1):=by rw [Yb HWc.out.e];rfl
   have q4:wc.cell? ⟨w.heap.size+1,4,none⟩=some (.slice A2 N2 c2):=by rw [Yb HWc.out.e];rfl
   have q5:wc.cell? ⟨w.heap.size+1,5,none⟩=some (.slice A3 N3 c3):=by rw [Yb HWc.out.e];rfl
   have q6:wc.cell? ⟨w.heap.size+1,6,none⟩=some (.slice A4 N4 c4):=by rw [Yb HWc.out.e];rfl
   generalize S.exprsS op N2=K at *;generalize S.namedS op=M at *;generalize S.numS L op n=Q at *;generalize S.bodiesS op=D at *;have Hr:=Ya (Hris.out wc HWc.out.b);have Hl:=Ya (Hlab.out wc);generalize S.labB nm=B at *;clear Hris Hlab HN2;obtain ⟨V,hV⟩:∃ V:Bool,V=((decide (op=5) || decide (N2=0)) && ρ && (decide (1<=D) || decide (N3=0)) && (decide (2<=D) || decide (N4=0))):=⟨_,rfl⟩
   have Hh4:=Ya (show res=(V && Q && decide (N1=K) && (M==(nm.toList != ([]:List UInt8))) && (!M || B)) from by rw [hV];exact Hh3.out);clear Hh3;go_upto_region 22 with fail
   go_cut [86] (fun v w5=>v=.bool (!V)/\wc=w5)
   case first =>
    clear Hl Hh4 q2 q3;by_cases h5:op=5
    ·subst h5
     cases ρ with
     | false =>
      have HV:=Ya (show V=false from by rw [hV];simp);clear hV;go_wp2_with fail
      refine Hr.out.mono ?_;rintro e4 w4 ⟨rfl,rfl⟩;go_wp2_with fail
      go_meet
      exact ⟨by rw [HV.out];rfl,rfl⟩
     | true =>
      by_cases d1:D<1
      ·by_cases z3:N3=0
       ·subst z3
        by_cases z4:N4=0
        ·subst z4
         have HV:=Ya (show V=true from by rw [hV];simp);clear hV;go_wp2_with fail
         refine Hr.out.mono ?_;rintro e4 w4 ⟨rfl,rfl⟩;go_wp2_with fail
         go_meet
         exact ⟨by rw [HV.out];rfl,rfl⟩
        ·have p4:0<N4:=by omega
         have HV:=Ya (show V=false from by rw [hV,decide_eq_false z4,decide_eq_false (show ¬ 2<=D by omega)];simp);clear hV z4;go_wp2_with fail
         refine Hr.out.mono ?_;rintro e4 w4 ⟨rfl,rfl⟩;go_wp2_with fail
         go_meet
         exact ⟨by rw [HV.out];rfl,rfl⟩
       ·have p3:0<N3:=by omega
        have HV:=Ya (show V=false from by rw [hV,decide_eq_false z3,decide_eq_false (show ¬ 1<=D by omega)];simp);clear hV z3;go_wp2_with fail
        refine Hr.out.mono ?_;rintro e4 w4 ⟨rfl,rfl⟩;go_wp2_with fail
        go_meet
        exact ⟨by rw [HV.out];rfl,rfl⟩
      ·by_cases d2:D<2
       ·by_cases z4:N4=0
        ·subst z4
         have HV:=Ya (show V=true from by rw [hV,decide_eq_true (show 1<=D by omega)];simp);clear hV;go_wp2_with fail
         refine Hr.out.mono ?_;rintro e4 w4 ⟨rfl,rfl⟩;go_wp2_with fail
         go_meet
         exact ⟨by rw [HV.out];rfl,rfl⟩
        ·have p4:0<N4:=by omega
         have HV:=Ya (show V=false from by rw [hV,decide_eq_false z4,decide_eq_false (show ¬ 2<=D by omega)];simp);clear hV z4;go_wp2_with fail
         refine Hr.out.mono ?_;rintro e4 w4 ⟨rfl,rfl⟩;go_wp2_with fail
         go_meet
         exact ⟨by rw [HV.out];rfl,rfl⟩
       ·have HV:=Ya (show V=true from by rw [hV,decide_eq_true (show 1<=D by omega),decide_eq_true (show 2<=D by omega)];simp)
        clear hV;go_wp2_with fail
        refine Hr.out.mono ?_;rintro e4 w4 ⟨rfl,rfl⟩;go_wp2_with fail
        go_meet
        exact ⟨by rw [HV.out];rfl,rfl⟩
    ·have n5:(op != 5)=true:=by simp [h5]
     by_cases z2:N2=0
     ·subst z2
      clear h5
      cases ρ with
      | false =>
       have HV:=Ya (show V=false from by rw [hV];simp);clear hV;go_wp2_with fail
       refine Hr.out.mono ?_;rintro e4 w4 ⟨rfl,rfl⟩;go_wp2_with fail
       go_meet
       exact ⟨by rw [HV.out];rfl,rfl⟩
      | true =>
       by_cases d1:D<1
       ·by_cases z3:N3=0
        ·subst z3
         by_cases z4:N4=0
         ·subst z4
          have HV:=Ya (show V=true from by rw [hV];simp);clear hV;go_wp2_with fail
          refine Hr.out.mono ?_;rintro e4 w4 ⟨rfl,rfl⟩;go_wp2_with fail
          go_meet
          exact ⟨by rw [HV.out];rfl,rfl⟩
         ·have p4:0<N4:=by omega
          have HV:=Ya (show V=false from by rw [hV,decide_eq_false z4,decide_eq_false (show ¬ 2<=D by omega)];simp);clear hV z4;go_wp2_with fail
          refine Hr.out.mono ?_;rintro e4 w4 ⟨rfl,rfl⟩;go_wp2_with fail
          go_meet
          exact ⟨by rw [HV.out];rfl,rfl⟩
        ·have p3:0<N3:=by omega
         have HV:=Ya (show V=false from by rw [hV,decide_eq_false z3,decide_eq_false (show ¬ 1<=D by omega)];simp);clear hV z3;go_wp2_with fail
         refine Hr.out.mono ?_;rintro e4 w4 ⟨rfl,rfl⟩;go_wp2_with fail
         go_meet
         exact ⟨by rw [HV.out];rfl,rfl⟩
       ·by_cases d2:D<2
        ·by_cases z4:N4=0
         ·subst z4
          have HV:=Ya (show V=true from by rw [hV,decide_eq_true (show 1<=D by omega)];simp);clear hV;go_wp2_with fail
          refine Hr.out.mono ?_;rintro e4 w4 ⟨rfl,rfl⟩;go_wp2_with fail
          go_meet
          exact ⟨by rw [HV.out];rfl,rfl⟩
         ·have p4:0<N4:=by omega
          have HV:=Ya (show V=false from by rw [hV,decide_eq_false z4,decide_eq_false (show ¬ 2<=D by omega)];simp);clear hV z4;go_wp2_with fail
          refine Hr.out.mono ?_;rintro e4 w4 ⟨rfl,rfl⟩;go_wp2_with fail
          go_meet
          exact ⟨by rw [HV.out];rfl,rfl⟩
        ·have HV:=Ya (show V=true from by rw [hV,decide_eq_true (show 1<=D by omega),decide_eq_true (show 2<=D by omega)];simp)
         clear hV;go_wp2_with fail
         refine Hr.out.mono ?_;rintro e4 w4 ⟨rfl,rfl⟩;go_wp2_with fail
         go_meet
         exact ⟨by rw [HV.out];rfl,rfl⟩
     ·have p2:0<N2:=by omega
      have HV:=Ya (show V=false from by rw [hV,decide_eq_false h5,decide_eq_false z2];simp);clear hV z2 h5;go_wp2_with fail
      go_meet
      exact ⟨by rw [HV.out];rfl,rfl⟩
   case rest =>
    obtain ⟨rfl,rfl⟩:=hcut;clear hV
    cases V with
    | false =>
     have Hf:=Ya (Hh4.out.trans (show _=false by simp));go_wp2_with fail
     go_ret
     exact ⟨Zf Hf.out.symm,HWc.out.b⟩
    | true =>
     cases Q with
     | false =>
      have Hf:=Ya (Hh4.out.trans (show _=false by simp));go_wp2_with fail
      go_ret
      exact ⟨Zf Hf.out.symm,HWc.out.b⟩
     | true =>
      by_cases hk:N1=K
      ·subst hk
       by_cases hn0:nm.toList=[]
       ·have hie:nm.toList.isEmpty=true:=by simp [hn0]
        cases M with
        | true =>
         have Hf:=Ya (Hh4.out.trans (show _=false by simp [hn0]));go_wp2_with fail
         go_ret
         exact ⟨Zf Hf.out.symm,HWc.out.b⟩
        | false =>
         have Hf:=Ya (Hh4.out.trans (show _=true by simp [hn0]));go_wp2_with fail
         go_ret
         exact ⟨Zf Hf.out.symm,HWc.out.b⟩
       ·have hie:nm.toList.isEmpty=false:=by simp [hn0]
        cases M with
        | false =>
         have Hf:=Ya (Hh4.out.trans (show _=false by simp [hn0]));go_wp2_with fail
         go_ret
         exact ⟨Zf Hf.out.symm,HWc.out.b⟩
        | true =>
         have Hf:=Ya (Hh4.out.trans (show _=B by simp [hn0]));go_wp2_with fail
         refine Hl.out.mono ?_;rintro e4 w4 ⟨rfl,rfl⟩;go_wp2_with fail
         go_ret
         exact ⟨Zf Hf.out.symm,HWc.out.b⟩
      ·have Hf:=Ya (Hh4.out.trans (show _=false by simp [hk]))
       have hne:((N1:Int)==(K:Int))=false:=by simp;omega
       clear hk;go_wp2_with fail
       go_ret
       exact ⟨Zf Hf.out.symm,HWc.out.b⟩
 ·have Hf:=Ya (show res=false from by rw [Hh.out,decide_eq_false hop];simp)
  have n1:(op==1)=false:=by simp;omega
  have n2:(op==2)=false:=by simp;omega
  have n3:(op==3)=false:=by simp;omega
  have n4:(op==4)=false:=by simp;omega
  have n5:(op==5)=false:=by simp;omega
  have n6:(op==6)=false:=by simp;omega
  have n7:(op==7)=false:=by simp;omega
  have n8:(op==8)=false:=by simp;omega
  have n9:(op==9)=false:=by simp;omega
  have n10:(op==10)=false:=by simp;omega
  have n11:(op==11)=false:=by simp;omega
  clear hop;go_wp2_with fail
  go_ret
  exact ⟨Zf Hf.out.symm,HW.out.b⟩
end
section
open Go.RowKit
theorem Zhh {L:Int}{d:Nat}:∀ {l:List S.BS} {k:Nat} {s:S.BS},S.chkSs L (l.take k) d=0->l[k]?=some s->S.chkS L s d≠0->S.chkSs L l d=S.chkS L s d
 | [],k,s,_,h,_=>by simp at h
 | x::r,0,s,_,h,h2=>by
  simp only [List.getElem?_cons_zero,Option.some.injEq] at h;subst h;rw [S.chkSs,if_pos h2]
 | x::r,k+1,s,h0,h,h2=>by
  rw [List.take_succ_cons,S.chkSs] at h0;have hx:S.chkS L x d=0:=by
   by_cases c:S.chkS L x d≠0
   ·rw [if_pos c] at h0;exact absurd h0 c
   ·simpa using c
  rw [if_neg (by simp [hx])] at h0;rw [S.chkSs,if_neg (by simp [hx])];exact Zhh h0 (by simpa using h) h2
theorem Zi4 {L:Int}{d:Nat}{s:S.BS}:∀ {l:List S.BS},S.chkSs L l d=0->S.chkS L s d=0->S.chkSs L (l++[s]) d=0
 | [],_,h=>by rw [List.nil_append,S.chkSs,if_neg (by simp [h]),S.chkSs]
 | x::r,h0,h=>by
  rw [S.chkSs] at h0;have hx:S.chkS L x d=0:=by
   by_cases c:S.chkS L x d≠0
   ·rw [if_pos c] at h0;exact absurd h0 c
   ·simpa using c
  rw [if_neg (by simp [hx])] at h0;rw [List.cons_append,S.chkSs,if_neg (by simp [hx])];exact Zi4 h0 h
theorem Zsl (L:Int)(s:S.BS)(d:Nat):S.chkS L s d=if (!(S.shapedS L s.op s.n s.name s.exprs.length s.regs s.body.length s.els.length && S.formedEs L s.exprs))=true then 4
 else if 200<=d\/14<S.needEs s.exprs 0 then 5 else if S.chkSs L s.body (d+1)≠0 then S.chkSs L s.body (d+1) else S.chkSs L s.els (d+1):=by
 obtain ⟨op,n,name,exprs,regs,body,els⟩:=s;rw [S.chkS];rfl
theorem Zdj:∀ l:List S.BS,l.length<=Zgn l
 | []=>by simp
 | e::r=>by
  rw [Zgn,List.length_cons];have:=Zdj r;have:=Zg6 e;omega
def Zfv (L:Int)(l:List S.BS)(d:Nat)(w:World)(x:Ending)(w':World):Prop:=x=.returned (.int .i64 (S.chkSs L l d))/\Below w.heap.size w w'
def Sts (rn:ByteArray)(P L:Int)(bh:Bool)(Ab:Option Addr)(nb cb n:Nat):Prop:=∀ (l:List S.BS) (A:Option Addr) (c d:Nat) (w:World),Zgn l<=n->d<=200->SList w w.heap.size A l ->
 Calls Tryz.prog 185 #[.agg #[.string rn,.int .i64 P,.int .i64 L,.bool bh,.slice Ab nb cb],.slice A l.length c,.int .i64 (d:Int)] w (Zfv L l d w)
theorem Zvm {rn:ByteArray}{P L:Int}{bh:Bool}{Ab:Option Addr}{nb cb n:Nat}(hF:Fmd rn P L bh Ab nb cb n)(g:Nat)(w:World)(hr:w.heap[g]?=some (.cells #[.string rn,.int .i64 P,.int .i64 L,.bool bh,.slice Ab nb cb] 151))(hg:g<w.heap.size)(l:List S.BE)(hl:∀ e∈l,szE e<=n) :
 Zvd w.heap.size 205 #[.pointer (some ⟨g,0,none⟩)] (fun e=>!S.formedE L e) l w:=by
 intro W e v hb he hv;have HF:=Ya hF;have hre:=(hb.block g hg).trans hr;have hgW:g<W.heap.size:=Yt hg hb.size;have hle:=hl e he;obtain ⟨A,c,rfl,h1,h2,h3⟩:=hv;have hbX:Below W.heap.size W (W.alloc (.cells #[.int .i64 e.op,.int .i64 e.n,.string e.name,.slice A e.kids.length c] 95)):=(Yj _ _).alloc (Yf _) _;have hrX:=heap_alloc_new W (.cells #[.int .i64 e.op,.int .i64 e.n,.string e.name,.slice A e.kids.length c] 95);have hzX:W.heap.size<(W.alloc (.cells #[.int .i64 e.op,.int .i64 e.n,.string e.name,.slice A e.kids.length c] 95)).heap.size:=by simp
 have hcall:=hF e (.agg #[.int .i64 e.op,.int .i64 e.n,.string e.name,.slice A e.kids.length c]) (W.alloc (.cells #[.int .i64 e.op,.int .i64 e.n,.string e.name,.slice A e.kids.length c] 95)) hle ⟨A,c,rfl,h1,h2,(h3.below hbX).more hbX.size⟩;have hrY:=(hbX.block g hgW).trans hre;unfold Znx at hcall
 show Calls Tryz.prog 205 #[.agg #[.int .i64 e.op,.int .i64 e.n,.string e.name,.slice A e.kids.length c],.pointer (some ⟨g,0,none⟩)] W fun x w'=>x=.returned (.bool (!S.formedE L e))/\Below W.heap.size W w'
 generalize S.formedE L e=R at *;generalize e.op=op at *;generalize e.n=en at *;generalize e.name=nm at *;generalize e.kids.length=kl at *;have Hcall:=Ya hcall;have HbX:=Ya hbX;clear hcall hF HF hle hl he h1 h2 h3 hb hr hre;go_enter Tryz.func205,Tryz.ntmps205
 go_upto_region 1 with fail
 generalize W.alloc (.cells #[.int .i64 op,.int .i64 en,.string nm,.slice A kl c] 95)=w2 at *;have c0:w2.cell? ⟨g,0,none⟩=some (.string rn):=by rw [Yb hrY];rfl
 have c1:w2.cell? ⟨g,1,none⟩=some (.int .i64 P):=by rw [Yb hrY];rfl
 have c2:w2.cell? ⟨g,2,none⟩=some (.int .i64 L):=by rw [Yb hrY];rfl
 have c3:w2.cell? ⟨g,3,none⟩=some (.bool bh):=by rw [Yb hrY];rfl
 have c4:w2.cell? ⟨g,4,none⟩=some (.slice Ab nb cb):=by rw [Yb hrY];rfl
 have e0:w2.cell? ⟨W.heap.size,0,none⟩=some (.int .i64 op):=by rw [Yb hrX];rfl
 have e1:w2.cell? ⟨W.heap.size,1,none⟩=some (.int .i64 en):=by rw [Yb hrX];rfl
 have e2:w2.cell? ⟨W.heap.size,2,none⟩=some (.string nm):=by rw [Yb hrX];rfl
 have e3:w2.cell? ⟨W.heap.size,3,none⟩=some (.slice A kl c):=by rw [Yb hrX];rfl
 clear hrX hrY;go_wp2_with fail
 refine Hcall.out.mono ?_;rintro x w3 ⟨rfl,hb3⟩;go_wp2_with fail
 go_ret
 exact ⟨rfl,HbX.out.trans (hb3.mono HbX.out.size)⟩
structure Z2m (rn:ByteArray)(P L:Int)(bh:Bool)(Ab:Option Addr)(nb cb n:Nat)(s:S.BS)(d:Nat)(A1 A2 A3 A4:Option Addr)(c1 c2 c3 c4 g:Nat)(wr:World):Prop where
 shaped:∀ W,Below wr.heap.size wr W->Calls Tryz.prog 203 #[.agg #[.string rn,.int .i64 P,.int .i64 L,.bool bh,.slice Ab nb cb],.agg #[.int .i64 s.op,.int .i64 s.n,.string s.name,.slice A1 s.exprs.length c1,.slice A2 s.regs.length c2,.slice A3 s.body.length c3,.slice A4 s.els.length c4]] W
  fun x w'=>x=.returned (.bool (S.shapedS L s.op s.n s.name s.exprs.length s.regs s.body.length s.els.length))/\Below W.heap.size W w'
 formed:∀ W,Below wr.heap.size wr W->Calls Tryz.prog 204 #[.slice A1 s.exprs.length c1,.func (.func 205) #[] #[.pointer (some ⟨g,0,none⟩)]] W fun x w'=>x=.returned (.bool (!S.formedEs L s.exprs))/\Below W.heap.size W w'
 need:∀ W,Below wr.heap.size wr W->Calls Tryz.prog 207 #[.slice A1 s.exprs.length c1] W fun x w'=>x=.returned (.int .i64 (S.needEs s.exprs 0:Nat))/\Below W.heap.size W w'
 body:d<200->∀ W,Below wr.heap.size wr W->Calls Tryz.prog 185 #[.agg #[.string rn,.int .i64 P,.int .i64 L,.bool bh,.slice Ab nb cb],.slice A3 s.body.length c3,.int .i64 ((d:Int)+1)] W (Zfv L s.body (d+1) W)
 els:d<200->∀ W,Below wr.heap.size wr W->Calls Tryz.prog 185 #[.agg #[.string rn,.int .i64 P,.int .i64 L,.bool bh,.slice Ab nb cb],.slice A4 s.els.length c4,.int .i64 ((d:Int)+1)] W (Zfv L s.els (d+1) W)
theorem Z2n {rn:ByteArray}{P L:Int}{bh:Bool}{Ab:Option Addr}{nb cb n:Nat}(ih:Sts rn P L bh Ab nb cb n)(hn:n<1000000000){s:S.BS}{d:Nat}{A1 A2 A3 A4:Option Addr}{c1 c2 c3 c4 g:Nat}{wr:World}(hs:szS s<=n+1)
 (hr:wr.heap[g]?=some (.cells #[.string rn,.int .i64 P,.int .i64 L,.bool bh,.slice Ab nb cb] 151)) (hg:g<wr.heap.size) (hp:SPart wr wr.heap.size s A1 A2 A3 A4):Z2m rn P L bh Ab nb cb n s d A1 A2 A3 A4 c1 c2 c3 c4 g wr:=by
 have hz:=Zg6 s;have hle:=Zec s.exprs;refine ⟨fun W hb=>?_,fun W hb=>?_,fun W hb=>?_,fun hd W hb=>?_,fun hd W hb=>?_⟩
 ·have hpW:=(hp.below hb).more hb.size
  exact Zvl rn P L bh Ab nb cb s.op s.n s.name s.exprs.length s.body.length s.els.length s.regs A1 A2 A3 A4 c1 c2 c3 c4 W hp.name hpW.regs hp.l2
 ·have hpW:=(hp.below hb).more hb.size
  have hpr:=Zvm (Zvk rn P L bh Ab nb cb n (by omega)) g W ((hb.block g hg).trans hr) (Yt hg hb.size) s.exprs (fun e he=>by have:=Zjy he;omega);refine (Zen W.heap.size _ _ (fun k=>!S.formedE L k) Zj5 W (Yf _) A1 s.exprs c1 hpr hpW.exprs (by omega)).mono ?_;rintro x w' ⟨rfl,hb'⟩;exact ⟨by rw [Zd1];simp,hb'⟩
 ·have hpW:=(hp.below hb).more hb.size
  exact Zzm (Zek s.exprs) A1 c1 s.exprs W (Yf _) (by omega) hpW.exprs
 ·have hpW:=(hp.below hb).more hb.size
  have:=ih s.body A3 c3 (d+1) W (by omega) (by omega) hpW.body;exact this
 ·have hpW:=(hp.below hb).more hb.size
  have:=ih s.els A4 c4 (d+1) W (by omega) (by omega) hpW.els;exact this
theorem Zyb (rn:ByteArray)(P L:Int)(bh:Bool)(Ab:Option Addr)(nb cb:Nat):∀ n,n<=1000000000->Sts rn P L bh Ab nb cb n:=by
 intro n
 induction n with
 | zero =>
  intro _ l A c d w hs hd hA;have hl:l=[]:=by
   cases l with
   | nil=>rfl
   | cons e r=>rw [Zgn] at hs;have:=Zg6 e;omega
  subst hl;have hbX:Below w.heap.size w (w.alloc (.cells #[.string rn,.int .i64 P,.int .i64 L,.bool bh,.slice Ab nb cb] 151)):=(Yj _ _).alloc (Yf _) _;have HbX:=Ya hbX;clear hbX;go_enter Tryz.func185,Tryz.ntmps185
  go_upto_region 1 with fail
  generalize w.alloc (.cells #[.string rn,.int .i64 P,.int .i64 L,.bool bh,.slice Ab nb cb] 151)=w2 at *;go_wp2_with fail
  go_loopw [14] (fun v14 wr=>v14=.int .i64 0/\w2=wr) (fun _ _=>0)
  case atStart=>exact ⟨rfl,rfl⟩
  case round =>
   obtain ⟨rfl,rfl⟩:=hrel;go_wp2_with fail
   go_ret
   exact ⟨rfl,HbX.out⟩
 | succ n ih =>
  intro hn l A c d w hs hd hA;have hlen:=Zdj l;obtain ⟨N,hN⟩:=Yx l.length;rw [<- hN] at hlen ⊢;have HN:=Ya hN;have HA:=Ya hA;have Hih:=Ya (ih (by omega));have hN9:N<=1000000000:=by omega
  have Hs:=Ya hs;have hbX:Below w.heap.size w (w.alloc (.cells #[.string rn,.int .i64 P,.int .i64 L,.bool bh,.slice Ab nb cb] 151)):=(Yj _ _).alloc (Yf _) _;have hrX:=heap_alloc_new w (.cells #[.string rn,.int .i64 P,.int .i64 L,.bool bh,.slice Ab nb cb] 151);have hzX:w.heap.size<(w.alloc (.cells #[.string rn,.int .i64 P,.int .i64 L,.bool bh,.slice Ab nb cb] 151)).heap.size:=by simp
  unfold Zfv;clear hN hA ih hs;go_enter Tryz.func185,Tryz.ntmps185
  go_upto_region 1 with fail
  generalize w.alloc (.cells #[.string rn,.int .i64 P,.int .i64 L,.bool bh,.slice Ab nb cb] 151)=w2 at *;have HbX:=Ya hbX;have HrX:=Ya hrX;clear hbX hrX;go_wp2_with fail
  go_loopw [14] (fun v14 wr=>∃ k:Nat,k<=N/\v14=.int .i64 k/\Hid (S.chkSs L (l.take k) d=0)/\Hid (Below w2.heap.size w2 wr)) (fun v14 _=>N-(intOf v14).toNat)
  case atStart=>exact ⟨0,by omega,rfl,Ya (by rw [List.take_zero,S.chkSs]),Ya (Yj _ _)⟩
  case round =>
   obtain ⟨k,hk,rfl,HC,HB⟩:=hrel;obtain ⟨wo,hwo⟩:=Yx wr;subst hwo;by_cases hlt:k<N
   ·obtain ⟨s,hs⟩:∃ s,l[k]?=some s:=⟨_,List.getElem?_eq_getElem (by rw [<- HN.out];exact hlt)⟩
    have hbr0:=HbX.out.trans (HB.out.mono HbX.out.size);obtain ⟨b,off,A1,c1,A2,c2,A3,c3,A4,c4,rfl,hbB,q0,q1,q2,q3,q4,q5,q6,hpt⟩:=(HA.out.below hbr0).at_ hs;have hzr:=HB.out.size;have hbr:b<wo.heap.size:=by have:=HbX.out.size;omega
    have hgr:w.heap.size<wo.heap.size:=by omega
    have hsz:=Znn (List.mem_of_getElem? hs);have hO:=Z2n (d:=d) (c1:=c1) (c2:=c2) (c3:=c3) (c4:=c4) (g:=w.heap.size) Hih.out (by omega) (by have:=Hs.out;omega) ((HB.out.block _ hzX).trans HrX.out) hgr (hpt.more (by have:=hbr0.size;omega));have Hsnoc:=Ya (fun h:S.chkS L s d=0=>(show S.chkSs L (l.take (k+1)) d=0 from by rw [Zdc l hs];exact Zi4 HC.out h));have Hfirst:=Ya (fun h:S.chkS L s d≠0=>Zhh HC.out hs h);have heq:=Zsl L s d;obtain ⟨o1,o2,o3,o4,o5⟩:=hO;unfold Zfv at o4 o5;generalize S.shapedS L s.op s.n s.name s.exprs.length s.regs s.body.length s.els.length=σ at *;generalize S.formedEs L s.exprs=φ at *;generalize S.needEs s.exprs 0=ν at *;generalize S.chkSs L s.body (d+1)=β at *;generalize S.chkSs L s.els (d+1)=ε at *;generalize s.op=op at *;generalize s.n=n' at *;generalize s.name=nm at *;generalize s.exprs.length=N1 at *;generalize s.regs.length=N2 at *;generalize s.body.length=N3 at *;generalize s.els.length=N4 at *;generalize S.chkS L s d=χ at *;have Heq:=Ya heq;have H1:=Ya o1;have H2:=Ya o2;have H3:=Ya o3;have H4:=Ya o4;have H5:=Ya o5;clear heq o1 o2 o3 o4 o5 hs hpt hsz hbr0 HC;have hbY:Below wo.heap.size wo (wo.alloc (.cells #[.int .i64 op,.int .i64 n',.string nm,.slice A1 N1 c1,.slice A2 N2 c2,.slice A3 N3 c3,.slice A4 N4 c4] 99)):=(Yj _ _).alloc (Yf _) _;have hrY:=heap_alloc_new wo (.cells #[.int .i64 op,.int .i64 n',.string nm,.slice A1 N1 c1,.slice A2 N2 c2,.slice A3 N3 c3,.slice A4 N4 c4] 99);have hzY:wo.heap.size<(wo.alloc (.cells #[.int .i64 op,.int .i64 n',.string nm,.slice A1 N1 c1,.slice A2 N2 c2,.slice A3 N3 c3,.slice A4 N4 c4] 99)).heap.size:=by simp
    go_upto_region 4 with fail
    generalize wo.alloc (.cells #[.int .i64 op,.int .i64 n',.string nm,.slice A1 N1 c1,.slice A2 N2 c2,.slice A3 N3 c3,.slice A4 N4 c4] 99)=wx at *;have Hc:=Ya (fun (W:World) (hb:Below wx.heap.size wx W)=>(show (W.cell? ⟨w.heap.size,0,none⟩=some (.string rn)/\W.cell? ⟨w.heap.size,1,none⟩=some (.int .i64 P)/\W.cell? ⟨w.heap.size,2,none⟩=some (.int .i64 L)/\W.cell? ⟨w.heap.size,3,none⟩=some (.bool bh)/\W.cell? ⟨w.heap.size,4,none⟩=some (.slice Ab nb cb)) /\
     W.cell? ⟨wo.heap.size,0,none⟩=some (.int .i64 op)/\W.cell? ⟨wo.heap.size,1,none⟩=some (.int .i64 n')/\W.cell? ⟨wo.heap.size,2,none⟩=some (.string nm)/\W.cell? ⟨wo.heap.size,3,none⟩=some (.slice A1 N1 c1)/\W.cell? ⟨wo.heap.size,4,none⟩=some (.slice A2 N2 c2)/\W.cell? ⟨wo.heap.size,5,none⟩=some (.slice A3 N3 c3)/\W.cell? ⟨wo.heap.size,6,none⟩=some (.slice A4 N4 c4) from by
     have e1:W.heap[w.heap.size]?=some (.cells #[.string rn,.int .i64 P,.int .i64 L,.bool bh,.slice Ab nb cb] 151):=(hb.block _ (by omega)).trans ((hbY.block _ hgr).trans ((HB.out.block _ hzX).trans HrX.out));have e2:W.heap[wo.heap.size]?=some (.cells #[.int .i64 op,.int .i64 n',.string nm,.slice A1 N1 c1,.slice A2 N2 c2,.slice A3 N3 c3,.slice A4 N4 c4] 99):=(hb.block _ hzY).trans hrY;refine ⟨⟨?_,?_,?_,?_,?_⟩,?_,?_,?_,?_,?_,?_,?_⟩
     all_goals first | (rw [Yb e1];rfl) | (rw [Yb e2];rfl)))
    have HbY:=Ya hbY;have hgx:w.heap.size<wx.heap.size:=by omega
    clear hbY hrY q0 q1 q2 q3 q4 q5 q6;obtain ⟨⟨r0,r1,r2,r3,r4⟩,s0,s1,s2,s3,s4,s5,s6⟩:=Hc.out wx (Yj _ _);go_wp2_with fail
    refine (H1.out wx HbY.out).mono ?_;rintro e4 w4 ⟨rfl,hb4⟩;have hz4:=hb4.size;have Hb4:=Ya hb4;clear r0 r1 r2 r3 r4 s0 s1 s2 s3 s4 s5 s6 hb4;obtain ⟨⟨r0,r1,r2,r3,r4⟩,s0,s1,s2,s3,s4,s5,s6⟩:=Hc.out w4 Hb4.out
    cases σ with
    | false =>
     have Hf:=Ya (show S.chkSs L l d=4 from by
      have hχ:χ=4:=by rw [Heq.out];simp
      rw [Hfirst.out (by rw [hχ];decide),hχ])
     go_wp2_with fail
     go_ret
     exact ⟨Zw Hf.out.symm,HbX.out.trans ((HB.out.trans (HbY.out.mono hzr)).trans (Hb4.out.mono (Y9 hzr HbY.out.size)) |>.mono HbX.out.size)⟩
    | true =>
     have Hb4':=Ya (HbY.out.trans (Hb4.out.mono HbY.out.size));go_wp2_with fail
     refine (H2.out w4 Hb4'.out).mono ?_;rintro e5 w5 ⟨rfl,hb5⟩;have Hb5:=Ya (Hb4.out.trans (hb5.mono Hb4.out.size));have hz5:=hb5.size;clear r0 r1 r2 r3 r4 s0 s1 s2 s3 s4 s5 s6 hb5;obtain ⟨⟨r0,r1,r2,r3,r4⟩,s0,s1,s2,s3,s4,s5,s6⟩:=Hc.out w5 Hb5.out;have Hbl:=Ya (fun (W:World) (hb:Below wx.heap.size wx W)=>(show Below w.heap.size w W from HbX.out.trans ((HB.out.trans (HbY.out.mono hzr)).trans (hb.mono (Y9 hzr HbY.out.size)) |>.mono HbX.out.size)))
     cases φ with
     | false =>
      have Hf:=Ya (show S.chkSs L l d=4 from by
       have hχ:χ=4:=by rw [Heq.out];simp
       rw [Hfirst.out (by rw [hχ];decide),hχ])
      go_wp2_with fail
      go_ret
      exact ⟨Zw Hf.out.symm,Hbl.out _ Hb5.out⟩
     | true =>
      have Hχ:=Ya (show χ=if 200<=d\/14<ν then 5 else if β≠0 then β else ε from by rw [Heq.out];simp);by_cases hd2:200<=d
      ·have Hf:=Ya (show S.chkSs L l d=5 from by
        have hχ:χ=5:=by rw [Hχ.out,if_pos (.inl hd2)]
        rw [Hfirst.out (by rw [hχ];decide),hχ])
       go_wp2_with fail
       go_ret
       exact ⟨Zw Hf.out.symm,Hbl.out _ Hb5.out⟩
      ·have Hb5':=Ya (HbY.out.trans (Hb5.out.mono HbY.out.size))
       have hd3:d<200:=by omega
       go_wp2_with fail
       refine (H3.out w5 Hb5'.out).mono ?_;rintro e6 w6 ⟨rfl,hb6⟩;have Hb6:=Ya (Hb5.out.trans (hb6.mono Hb5.out.size));have hz6:=hb6.size;clear r0 r1 r2 r3 r4 s0 s1 s2 s3 s4 s5 s6 hb6;obtain ⟨⟨r0,r1,r2,r3,r4⟩,s0,s1,s2,s3,s4,s5,s6⟩:=Hc.out w6 Hb6.out;by_cases hν:14<ν
       ·have Hf:=Ya (show S.chkSs L l d=5 from by
         have hχ:χ=5:=by rw [Hχ.out,if_pos (.inr hν)]
         rw [Hfirst.out (by rw [hχ];decide),hχ])
        have hν2:(14:Int)<(ν:Int):=by omega
        go_wp2_with fail
        go_ret
        exact ⟨Zw Hf.out.symm,Hbl.out _ Hb6.out⟩
       ·have Hχ2:=Ya (show χ=if β≠0 then β else ε from by rw [Hχ.out,if_neg (by omega)])
        have hν2:¬ (14:Int)<(ν:Int):=by omega
        have hd200:(d:Int)<200:=by omega
        clear Hχ Heq;have hbZ:Below w6.heap.size w6 (w6.alloc (.cells #[.slice A3 N3 c3,.slice A4 N4 c4] 97)):=(Yj _ _).alloc (Yf _) _;have hrZ:=heap_alloc_new w6 (.cells #[.slice A3 N3 c3,.slice A4 N4 c4] 97);have hzZ:w6.heap.size<(w6.alloc (.cells #[.slice A3 N3 c3,.slice A4 N4 c4] 97)).heap.size:=by simp
        go_wp2_with fail
        generalize w6.alloc (.cells #[.slice A3 N3 c3,.slice A4 N4 c4] 97)=w7 at *;have Hb7:=Ya (Hb6.out.trans (hbZ.mono Hb6.out.size));have Hcz:=Ya (fun (W:World) (hb:Below w7.heap.size w7 W)=>(show W.cell? ⟨w6.heap.size,0,none⟩=some (.slice A3 N3 c3)/\W.cell? ⟨w6.heap.size,1,none⟩=some (.slice A4 N4 c4) from by
         have e1:W.heap[w6.heap.size]?=some (.cells #[.slice A3 N3 c3,.slice A4 N4 c4] 97):=(hb.block _ hzZ).trans hrZ
         constructor
         all_goals (rw [Yb e1];rfl)))
        have hz7:=Hb7.out.size;have Hlc:=Ya (fun (W:World) (hb:Below w7.heap.size w7 W)=>(show Below wo.heap.size wo W from HbY.out.trans ((Hb7.out.trans (hb.mono Hb7.out.size)).mono HbY.out.size)));clear hbZ hrZ r0 r1 r2 r3 r4 s0 s1 s2 s3 s4 s5 s6;go_loopw [42,10,11] (fun v42 _ _ wl=>∃ j:Nat,j<=2/\v42=.int .i64 j/\Hid (1<=j->β=0)/\Hid (2<=j->ε=0)/\Hid (Below w7.heap.size w7 wl)) (fun v42 _ _ _=>2-(intOf v42).toNat)
        case atStart=>exact ⟨0,by omega,rfl,Ya (fun h=>by omega),Ya (fun h=>by omega),Ya (Yj _ _)⟩
        case round =>
         obtain ⟨j,hj,rfl,HJ1,HJ2,HBl⟩:=hrel;obtain ⟨⟨r0,r1,r2,r3,r4⟩,s0,s1,s2,s3,s4,s5,s6⟩:=Hc.out wr (Hb7.out.trans (HBl.out.mono Hb7.out.size));obtain ⟨z0,z1⟩:=Hcz.out wr HBl.out;have hzl:=HBl.out.size;have hg6:w6.heap.size<wr.heap.size:=by omega
         rcases (show j=0\/j=1\/j=2 by omega) with rfl | rfl | rfl
         ·go_wp2_with fail
          refine (H4.out hd3 _ (Hlc.out wr HBl.out)).mono ?_;rintro e8 w8 ⟨rfl,hb8⟩;have Hb8:=Ya (HBl.out.trans (hb8.mono HBl.out.size));by_cases hβ:β=0
          ·have hb0:(β != 0)=false:=by simp [hβ]
           have Hβ:=Ya hβ;clear hβ;go_wp2_with fail
           go_roundw
           case rel=>exact ⟨1,by omega,by first | rfl | go_num,Ya (fun _=>Hβ.out),Ya (fun h=>by omega),Hb8⟩
           case measure=>simp [intOf]
          ·have hb0:(β != 0)=true:=by simp [hβ]
           have Hf:=Ya (show S.chkSs L l d=β from by
            have hχ:χ=β:=by rw [Hχ2.out,if_pos hβ]
            rw [Hfirst.out (by rw [hχ];exact hβ),hχ])
           clear hβ;go_wp2_with fail
           go_ret
           exact ⟨Zw Hf.out.symm,Hbl.out _ (Hb7.out.trans (Hb8.out.mono Hb7.out.size))⟩
         ·go_wp2_with fail
          refine (H5.out hd3 _ (Hlc.out wr HBl.out)).mono ?_;rintro e8 w8 ⟨rfl,hb8⟩;have Hb8:=Ya (HBl.out.trans (hb8.mono HBl.out.size));have hβ:=HJ1.out (by omega);have Hχ3:=Ya (show χ=ε from by rw [Hχ2.out,if_neg (by simp [hβ])]);have Hβ:=Ya hβ;clear hβ;by_cases hε:ε=0
          ·have hb0:(ε != 0)=false:=by simp [hε]
           have Hε:=Ya hε;clear hε;go_wp2_with fail
           go_roundw
           case rel=>exact ⟨2,by omega,by first | rfl | go_num,Ya (fun _=>Hβ.out),Ya (fun _=>Hε.out),Hb8⟩
           case measure=>simp [intOf]
          ·have hb0:(ε != 0)=true:=by simp [hε]
           have Hf:=Ya (show S.chkSs L l d=ε from by
            rw [Hfirst.out (by rw [Hχ3.out];exact hε),Hχ3.out])
           clear hε;go_wp2_with fail
           go_ret
           exact ⟨Zw Hf.out.symm,Hbl.out _ (Hb7.out.trans (Hb8.out.mono Hb7.out.size))⟩
         ·have Hz:=Ya (Hsnoc.out (show χ=0 from by rw [Hχ2.out,if_neg (by simp [HJ1.out (by omega)]),HJ2.out (by omega)]))
          go_wp2_with fail
          go_roundw
          case rel=>exact ⟨k+1,by omega,by go_num,Hz,Ya (HB.out.trans ((HbY.out.trans ((Hb7.out.trans (HBl.out.mono Hb7.out.size)).mono HbY.out.size)).mono HB.out.size))⟩
          case measure=>simp [intOf];omega
   ·have hkN:k=N:=by omega
    subst hkN;have Hf:=Ya (show S.chkSs L l d=0 from by have:=HC.out;rw [HN.out,List.take_length] at this;exact this);go_wp2_with fail
    go_ret
    exact ⟨Zw Hf.out.symm,HbX.out.trans (HB.out.mono HbX.out.size)⟩
theorem Zhi {r:S.BR}(h:S.chkB r=0):S.labB r.name=true/\0<=r.params/\r.params<=4/\r.params<=r.locals/\r.locals<=200/\S.chkSs r.locals r.body 0=0:=by
 unfold S.chkB at h
 split at h
 ·omega
 ·rename_i hc
  simp only [Bool.not_eq_true,Bool.or_eq_false_iff,Bool.not_eq_false',decide_eq_false_iff_not] at hc;obtain ⟨⟨⟨⟨h1,h2⟩,h3⟩,h4⟩,h5⟩:=hc;exact ⟨h1,by omega,by omega,by omega,by omega,h⟩
def Zur (r:S.BR)(A:Option Addr)(c:Nat):Value:=.agg #[.string r.name,.int .i64 r.params,.int .i64 r.locals,.bool r.behind,.slice A r.body.length c]
structure RAt2 (w:World)(B:Nat)(r:S.BR)(A:Option Addr):Prop where
 name:r.name.size<=maxLen
 body:SList w B A r.body
 size:Zgn r.body<=1000000000
theorem RAt2.below {w w':World}{B:Nat}{r:S.BR}{A:Option Addr}(h:RAt2 w B r A)(hb:Below B w w'):RAt2 w' B r A:=⟨h.name,h.body.below hb,h.size⟩
theorem RAt2.more {w:World}{B B':Nat}{r:S.BR}{A:Option Addr}(h:RAt2 w B r A)(hB:B<=B'):RAt2 w B' r A:=⟨h.name,h.body.more hB,h.size⟩
theorem Zny (r:S.BR)(A:Option Addr)(c:Nat)(w:World)(h:RAt2 w w.heap.size r A):Calls Tryz.prog 153 #[Zur r A c] w fun x w'=>x=.returned (.int .i64 (S.chkB r))/\Below w.heap.size w w':=by
 obtain ⟨nm,P,L,bh,body⟩:=r;obtain ⟨h1,h2,h3⟩:=h;unfold Zur;simp only at h1 h2 h3 ⊢;have hz0:=Zdj body;have Hst:=Ya (fun (W:World) (hb:Below w.heap.size w W)=>Zyb nm P L bh A body.length c (Zgn body) h3 body A c 0 W (Yf _) (by omega) ((h2.below hb).more hb.size));have hck:S.chkB ⟨nm,P,L,bh,body⟩=if !S.labB nm || decide (P<0) || decide (4<P) || decide (L<P) || decide (200<L) then 2 else S.chkSs L body 0:=rfl
 have Hlab:=Ya (fun W=>Zno nm W h1);obtain ⟨res,hres⟩:=Yx (S.chkB ⟨nm,P,L,bh,body⟩);rw [<- hres] at hck ⊢;have Hck:=Ya hck;unfold Zfv at Hst;generalize S.labB nm=B at *;generalize S.chkSs L body 0=κ at *;generalize body.length=N at *;clear h1 h2 h3 hz0 hres hck;have hbX:Below w.heap.size w (w.alloc (.cells #[.string nm,.int .i64 P,.int .i64 L,.bool bh,.slice A N c] 151)):=(Yj _ _).alloc (Yf _) _;have hrX:=heap_alloc_new w (.cells #[.string nm,.int .i64 P,.int .i64 L,.bool bh,.slice A N c] 151);have hzX:w.heap.size<(w.alloc (.cells #[.string nm,.int .i64 P,.int .i64 L,.bool bh,.slice A N c] 151)).heap.size:=by simp
 go_enter Tryz.func153,Tryz.ntmps153
 go_upto_region 1 with fail
 generalize w.alloc (.cells #[.string nm,.int .i64 P,.int .i64 L,.bool bh,.slice A N c] 151)=w2 at *;have HbX:=Ya hbX;have c0:w2.cell? ⟨w.heap.size,0,none⟩=some (.string nm):=by rw [Yb hrX];rfl
 have c1:w2.cell? ⟨w.heap.size,1,none⟩=some (.int .i64 P):=by rw [Yb hrX];rfl
 have c2:w2.cell? ⟨w.heap.size,2,none⟩=some (.int .i64 L):=by rw [Yb hrX];rfl
 have c3:w2.cell? ⟨w.heap.size,3,none⟩=some (.bool bh):=by rw [Yb hrX];rfl
 have c4:w2.cell? ⟨w.heap.size,4,none⟩=some (.slice A N c):=by rw [Yb hrX];rfl
 clear hbX hrX
 cases B with
 | false =>
  have Hf:=Ya (show res=2 from by rw [Hck.out];simp);go_wp2_with fail
  refine (Hlab.out w2).mono ?_;rintro e4 w4 ⟨rfl,rfl⟩;go_wp2_with fail
  go_ret
  exact ⟨Zw Hf.out.symm,HbX.out⟩
 | true =>
  by_cases p0:P<0
  ·have Hf:=Ya (show res=2 from by rw [Hck.out,decide_eq_true p0];simp)
   go_wp2_with fail
   refine (Hlab.out w2).mono ?_;rintro e4 w4 ⟨rfl,rfl⟩;go_wp2_with fail
   go_ret
   exact ⟨Zw Hf.out.symm,HbX.out⟩
  by_cases p4:4<P
  ·have Hf:=Ya (show res=2 from by rw [Hck.out,decide_eq_true p4];simp)
   go_wp2_with fail
   refine (Hlab.out w2).mono ?_;rintro e4 w4 ⟨rfl,rfl⟩;go_wp2_with fail
   go_ret
   exact ⟨Zw Hf.out.symm,HbX.out⟩
  by_cases pL:L<P
  ·have Hf:=Ya (show res=2 from by rw [Hck.out,decide_eq_true pL];simp)
   go_wp2_with fail
   refine (Hlab.out w2).mono ?_;rintro e4 w4 ⟨rfl,rfl⟩;go_wp2_with fail
   go_ret
   exact ⟨Zw Hf.out.symm,HbX.out⟩
  by_cases pM:200<L
  ·have Hf:=Ya (show res=2 from by rw [Hck.out,decide_eq_true pM];simp)
   go_wp2_with fail
   refine (Hlab.out w2).mono ?_;rintro e4 w4 ⟨rfl,rfl⟩;go_wp2_with fail
   go_ret
   exact ⟨Zw Hf.out.symm,HbX.out⟩
  have Hf:=Ya (show res=κ from by rw [Hck.out,decide_eq_false p0,decide_eq_false p4,decide_eq_false pL,decide_eq_false pM];simp);go_wp2_with fail
  refine (Hlab.out w2).mono ?_;rintro e4 w4 ⟨rfl,rfl⟩;go_wp2_with fail
  refine (Hst.out w2 HbX.out).mono ?_;rintro e5 w5 ⟨rfl,hb5⟩;go_wp2_with fail
  go_ret
  exact ⟨Zw Hf.out.symm,HbX.out.trans (hb5.mono HbX.out.size)⟩
theorem Zyc (r:S.BR)(A:Option Addr)(c:Nat)(w:World)(h:RAt2 w w.heap.size r A):Calls Tryz.prog 154 #[Zur r A c] w fun x w'=>x=.returned (.int .i64 (S.frameB r))/\Below w.heap.size w w':=by
 have Hc:=Ya (fun (W:World) (hb:Below w.heap.size w W)=>Zny r A c W ((h.below hb).more hb.size));have hL:S.chkB r=0->-1000000<=r.locals/\r.locals<=200:=fun h0=>by obtain ⟨_,h1,_,h2,h3,_⟩:=Zhi h0;omega
 obtain ⟨nm,P,L,bh,body⟩:=r;have hfr:S.frameB ⟨nm,P,L,bh,body⟩=if S.chkB ⟨nm,P,L,bh,body⟩≠0 then 0 else L+15:=rfl
 unfold Zur at Hc ⊢;simp only at Hc hL ⊢;generalize S.frameB ⟨nm,P,L,bh,body⟩=res at *;generalize S.chkB ⟨nm,P,L,bh,body⟩=κ at *;generalize body.length=N at *;have Hfr:=Ya hfr;clear hfr h;have hbX:Below w.heap.size w (w.alloc (.cells #[.string nm,.int .i64 P,.int .i64 L,.bool bh,.slice A N c] 151)):=(Yj _ _).alloc (Yf _) _;have hrX:=heap_alloc_new w (.cells #[.string nm,.int .i64 P,.int .i64 L,.bool bh,.slice A N c] 151);have hzX:w.heap.size<(w.alloc (.cells #[.string nm,.int .i64 P,.int .i64 L,.bool bh,.slice A N c] 151)).heap.size:=by simp
 go_enter Tryz.func154,Tryz.ntmps154
 go_upto_region 1 with fail
 generalize w.alloc (.cells #[.string nm,.int .i64 P,.int .i64 L,.bool bh,.slice A N c] 151)=w2 at *;have HbX:=Ya hbX;have c0:w2.cell? ⟨w.heap.size,0,none⟩=some (.string nm):=by rw [Yb hrX];rfl
 have c1:w2.cell? ⟨w.heap.size,1,none⟩=some (.int .i64 P):=by rw [Yb hrX];rfl
 have c2:w2.cell? ⟨w.heap.size,2,none⟩=some (.int .i64 L):=by rw [Yb hrX];rfl
 have c3:w2.cell? ⟨w.heap.size,3,none⟩=some (.bool bh):=by rw [Yb hrX];rfl
 have c4:w2.cell? ⟨w.heap.size,4,none⟩=some (.slice A N c):=by rw [Yb hrX];rfl
 go_wp2_with fail
 refine (Hc.out w2 HbX.out).mono ?_;rintro e4 w4 ⟨rfl,hb4⟩;have c2':w4.cell? ⟨w.heap.size,2,none⟩=some (.int .i64 L):=(hb4.cell (p:=⟨w.heap.size,2,none⟩) hzX).trans c2;have Z4:=Ya (HbX.out.trans (hb4.mono HbX.out.size));have hz4:=hb4.size;clear c0 c1 c2 c3 c4 hbX hrX hb4;by_cases h0:κ=0
 ·obtain ⟨l0,l1⟩:=hL h0
  have hne:(κ != 0)=false:=by simp [h0]
  have Hf:=Ya (show res=L+1+14 from by rw [Hfr.out,if_neg (by simp [h0])];omega);clear h0 hL;go_wp2_with fail
  go_ret
  exact ⟨Zw Hf.out.symm,Z4.out⟩
 ·have hne:(κ != 0)=true:=by simp [h0]
  have Hf:=Ya (show res=0 from by rw [Hfr.out,if_pos h0]);clear h0 hL;go_wp2_with fail
  go_ret
  exact ⟨Zw Hf.out.symm,Z4.out⟩
end
end Go.Proofs.YtdeepoikgfaecaaGreatDoor
