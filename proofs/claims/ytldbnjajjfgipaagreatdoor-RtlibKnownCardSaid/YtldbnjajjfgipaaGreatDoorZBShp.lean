/- Parts. -/
import Derived.Test.YtldbnjajjfgipaaGreatDoorZBFmd
set_option linter.all false
set_option maxHeartbeats 2000000
open Go.Lib renaming hid->Ya,cell_of_heap->Yb
namespace Go.Proofs.YtldbnjajjfgipaaGreatDoor
open S Go.Proofs.Tryz Go.RowKit
set_option maxRecDepth 100000
theorem Zu6 (Y:ByteArray)(P L:Int)(R:Bool)(Ab:Option Addr)(nb O:Nat)(op n:Int)(nm:ByteArray)(q k f:Nat)(regs:List Int)(H y G I:Option Addr)(c1 c2 c3 c4:Nat)(w:World)(N:nm.size<=maxLen)(C:Ints w w.heap.size y regs)(U:regs.length<=maxLen) :
 Calls prog 274 #[.agg #[.string Y,.int .i64 P,.int .i64 L,.bool R,.slice Ab nb O],.agg #[.int .i64 op,.int .i64 n,.string nm,.slice H q c1,.slice y regs.length c2,.slice G k c3,.slice I f c4]] w
  λ x w'=>x=.returned (.bool (shapedS L op n nm q regs k f))/\Below w.heap.size w w':=by
 have s:=Ya (λ(W:World) (hb:Below w.heap.size w W)=>Zvb y c2 regs W ((C.below hb).more hb.size) U);have T:shapedS L op n nm q regs k f=(decide (1<=op/\op<=11) && (decide (op=5) || decide (regs.length=0)) && risingB regs && (decide (1<=bodiesS op) || decide (k=0)) && (decide (2<=bodiesS op) || decide (f=0)) &&
  numS L op n && decide (q=exprsS op regs.length) && (namedS op==(nm.toList != ([]:List UInt8))) && (!S.namedS op || labB nm)):=by
  rw[Zgy];rfl
 have J:=Ya T;have A:=Ya (λ W=>Zmx nm W N);clear T N C U;generalize risingB regs=ρ at *;obtain⟨t,F⟩:=Yx regs.length;rw[<- F] at s J⊢;have a0:=Ya F;clear F;obtain⟨res,z⟩:=Yx (shapedS L op n nm q regs k f);rw[<- z] at J⊢;clear z;obtain⟨t1,t2,t3,t4⟩:=Zdh w (.cells #[.string Y,.int .i64 P,.int .i64 L,.bool R,.slice Ab nb O] 203) (.cells #[.int .i64 op,.int .i64 n,.string nm,.slice H q c1,.slice y t c2,.slice G k c3,.slice I f c4] 149);go_enter func274,ntmps274
 go_upto_region 1 with fail
 generalize (w.alloc (.cells #[.string Y,.int .i64 P,.int .i64 L,.bool R,.slice Ab nb O] 203)).alloc (.cells #[.int .i64 op,.int .i64 n,.string nm,.slice H q c1,.slice y t c2,.slice G k c3,.slice I f c4] 149)=w2 at *;have q0:w2.cell? ⟨w.heap.size+1,0,none⟩=some (.int .i64 op):=by rw[Yb t2];rfl
 have q1:w2.cell? ⟨w.heap.size+1,1,none⟩=some (.int .i64 n):=by rw[Yb t2];rfl
 go_quiet (fail)
 have g:=Ya (show RE w (w2.drewN nq) (.cells #[.string Y,.int .i64 P,.int .i64 L,.bool R,.slice Ab nb O] 203) (.cells #[.int .i64 op,.int .i64 n,.string nm,.slice H q c1,.slice y t c2,.slice G k c3,.slice I f c4] 149) from⟨t1,t2,below_drewN t3 nq,by show _<=w2.heap.size;omega⟩);clear q0 q1 t1 t2 t3 t4;generalize w2.drewN nq=w3 at *;have q0:w3.cell? ⟨w.heap.size+1,0,none⟩=some (.int .i64 op):=by rw[Yb g.out.e];rfl
 have q1:w3.cell? ⟨w.heap.size+1,1,none⟩=some (.int .i64 n):=by rw[Yb g.out.e];rfl
 have q2:w3.cell? ⟨w.heap.size,2,none⟩=some (.int .i64 L):=by rw[Yb g.out.r];rfl
 have q3:w3.cell? ⟨w.heap.size+1,4,none⟩=some (.slice y t c2):=by rw[Yb g.out.e];rfl
 go_upto_block 0 with fail
 clear q0;by_cases u:1<=op/\op<=11
 .go_cut [5,6,7,8] (λ v5 v6 v7 v8 wc=>v5=.int .i64 (exprsS op t:Nat)/\v6=.bool (namedS op)/\v7=.bool (numS L op n)/\v8=.int .i64 (bodiesS op)/\Hid (RE w wc (.cells #[.string Y,.int .i64 P,.int .i64 L,.bool R,.slice Ab nb O] 203) (.cells #[.int .i64 op,.int .i64 n,.string nm,.slice H q c1,.slice y t c2,.slice G k c3,.slice I f c4] 149)))
  case first =>
   rcases(show op=1\/op=2\/op=3\/op=4\/op=5\/op=6\/op=7\/op=8\/op=9\/op=10\/op=11 by omega) with rfl|rfl|rfl|rfl|rfl|rfl|rfl|rfl|rfl|rfl|rfl
   .by_cases h1:0<=n
    .by_cases h2:n<L
     .have He:=Ya (show true=numS L 1 n from(decide_eq_true ⟨h1,h2⟩).symm)
      go_wp2_with fail
      go_meet
      exact⟨rfl,rfl,by rw[<- He.out],rfl,g⟩
     .have He:=Ya (show false=numS L 1 n from(decide_eq_false (by omega)).symm)
      go_wp2_with fail
      go_meet
      exact⟨rfl,rfl,by rw[<- He.out],rfl,g⟩
    .have He:=Ya (show false=numS L 1 n from(decide_eq_false (by omega)).symm)
     go_wp2_with fail
     go_meet
     exact⟨rfl,rfl,by rw[<- He.out],rfl,g⟩
   .go_wp2_with fail
    refine(Zn4 n w3).mono ?_;rintro i j ⟨rfl,rfl⟩;go_wp2_with fail
    go_meet
    exact⟨rfl,rfl,rfl,rfl,g⟩
   .go_wp2_with fail
    go_meet
    exact⟨rfl,rfl,rfl,rfl,g⟩
   .go_wp2_with fail
    go_meet
    exact⟨rfl,rfl,rfl,rfl,g⟩
   .go_wp2_with fail
    go_meet
    exact⟨rfl,rfl,rfl,rfl,g⟩
   .go_wp2_with fail
    go_meet
    exact⟨rfl,rfl,rfl,rfl,g⟩
   .go_wp2_with fail
    go_meet
    exact⟨rfl,rfl,rfl,rfl,g⟩
   .go_wp2_with fail
    go_meet
    exact⟨rfl,rfl,rfl,rfl,g⟩
   .go_wp2_with fail
    refine(Zel n w3).mono ?_;rintro i j ⟨rfl,rfl⟩;go_wp2_with fail
    go_meet
    exact⟨rfl,rfl,rfl,rfl,g⟩
   .go_wp2_with fail
    go_meet
    exact⟨rfl,rfl,rfl,rfl,g⟩
   .go_wp2_with fail
    go_meet
    exact⟨rfl,rfl,rfl,rfl,g⟩
  case rest =>
   obtain⟨rfl,rfl,rfl,rfl,c⟩:=hcut;have E:=J.out;rw[decide_eq_true u,Bool.true_and] at E;have X:=Ya E;clear E u J g q1 q2 q3;have q0:wc.cell? ⟨w.heap.size+1,0,none⟩=some (.int .i64 op):=by rw[Yb c.out.e];rfl
   have q2:wc.cell? ⟨w.heap.size+1,2,none⟩=some (.string nm):=by rw[Yb c.out.e];rfl
   have q3:wc.cell? ⟨w.heap.size+1,3,none⟩=some (.slice H q c1):=by rw[Yb c.out.e];rfl
   have q4:wc.cell? ⟨w.heap.size+1,4,none⟩=some (.slice y t c2):=by rw[Yb c.out.e];rfl
   have q5:wc.cell? ⟨w.heap.size+1,5,none⟩=some (.slice G k c3):=by rw[Yb c.out.e];rfl
   have q6:wc.cell? ⟨w.heap.size+1,6,none⟩=some (.slice I f c4):=by rw[Yb c.out.e];rfl
   generalize exprsS op t=K at *;generalize namedS op=M at *;generalize numS L op n=Q at *;generalize bodiesS op=D at *;have o:=Ya (s.out wc c.out.b);have Hl:=Ya (A.out wc);generalize labB nm=B at *;clear s A a0;obtain⟨V,a⟩:∃V:Bool,V=((decide (op=5) || decide (t=0)) && ρ && (decide (1<=D) || decide (k=0)) && (decide (2<=D) || decide (f=0))):=⟨_,rfl⟩
   have h:=Ya (show res=(V && Q && decide (q=K) && (M==(nm.toList != ([]:List UInt8))) && (!M || B)) from by rw[a];exact X.out);clear X;go_upto_region 22 with fail
   go_cut [86] (λ v w5=>v=.bool (!V)/\wc=w5)
   case first =>
    clear Hl h q2 q3;by_cases Z:op=5
    .subst Z
     cases ρ with
     | false =>
      have d:=Ya (show V=false from by rw[a];simp);clear a;go_wp2_with fail
      refine o.out.mono ?_;rintro i j ⟨rfl,rfl⟩;go_wp2_with fail
      go_meet
      exact⟨by rw[d.out];rfl,rfl⟩
     | true =>
      by_cases d1:D<1
      .by_cases z3:k=0
       .subst z3
        by_cases l:f=0
        .subst l
         have d:=Ya (show V=true from by rw[a];simp);clear a;go_wp2_with fail
         refine o.out.mono ?_;rintro i j ⟨rfl,rfl⟩;go_wp2_with fail
         go_meet
         exact⟨by rw[d.out];rfl,rfl⟩
        .have p4:0<f:=by omega
         have d:=Ya (show V=false from by rw[a,decide_eq_false l,decide_eq_false (show ¬2<=D by omega)];simp);clear a l;go_wp2_with fail
         refine o.out.mono ?_;rintro i j ⟨rfl,rfl⟩;go_wp2_with fail
         go_meet
         exact⟨by rw[d.out];rfl,rfl⟩
       .have p3:0<k:=by omega
        have d:=Ya (show V=false from by rw[a,decide_eq_false z3,decide_eq_false (show ¬1<=D by omega)];simp);clear a z3;go_wp2_with fail
        refine o.out.mono ?_;rintro i j ⟨rfl,rfl⟩;go_wp2_with fail
        go_meet
        exact⟨by rw[d.out];rfl,rfl⟩
      .by_cases d2:D<2
       .by_cases l:f=0
        .subst l
         have d:=Ya (show V=true from by rw[a,decide_eq_true (show 1<=D by omega)];simp);clear a;go_wp2_with fail
         refine o.out.mono ?_;rintro i j ⟨rfl,rfl⟩;go_wp2_with fail
         go_meet
         exact⟨by rw[d.out];rfl,rfl⟩
        .have p4:0<f:=by omega
         have d:=Ya (show V=false from by rw[a,decide_eq_false l,decide_eq_false (show ¬2<=D by omega)];simp);clear a l;go_wp2_with fail
         refine o.out.mono ?_;rintro i j ⟨rfl,rfl⟩;go_wp2_with fail
         go_meet
         exact⟨by rw[d.out];rfl,rfl⟩
       .have d:=Ya (show V=true from by rw[a,decide_eq_true (show 1<=D by omega),decide_eq_true (show 2<=D by omega)];simp)
        clear a;go_wp2_with fail
        refine o.out.mono ?_;rintro i j ⟨rfl,rfl⟩;go_wp2_with fail
        go_meet
        exact⟨by rw[d.out];rfl,rfl⟩
    .have n5:(op != 5)=true:=by simp[Z]
     by_cases z2:t=0
     .subst z2
      clear Z
      cases ρ with
      | false =>
       have d:=Ya (show V=false from by rw[a];simp);clear a;go_wp2_with fail
       refine o.out.mono ?_;rintro i j ⟨rfl,rfl⟩;go_wp2_with fail
       go_meet
       exact⟨by rw[d.out];rfl,rfl⟩
      | true =>
       by_cases d1:D<1
       .by_cases z3:k=0
        .subst z3
         by_cases l:f=0
         .subst l
          have d:=Ya (show V=true from by rw[a];simp);clear a;go_wp2_with fail
          refine o.out.mono ?_;rintro i j ⟨rfl,rfl⟩;go_wp2_with fail
          go_meet
          exact⟨by rw[d.out];rfl,rfl⟩
         .have p4:0<f:=by omega
          have d:=Ya (show V=false from by rw[a,decide_eq_false l,decide_eq_false (show ¬2<=D by omega)];simp);clear a l;go_wp2_with fail
          refine o.out.mono ?_;rintro i j ⟨rfl,rfl⟩;go_wp2_with fail
          go_meet
          exact⟨by rw[d.out];rfl,rfl⟩
        .have p3:0<k:=by omega
         have d:=Ya (show V=false from by rw[a,decide_eq_false z3,decide_eq_false (show ¬1<=D by omega)];simp);clear a z3;go_wp2_with fail
         refine o.out.mono ?_;rintro i j ⟨rfl,rfl⟩;go_wp2_with fail
         go_meet
         exact⟨by rw[d.out];rfl,rfl⟩
       .by_cases d2:D<2
        .by_cases l:f=0
         .subst l
          have d:=Ya (show V=true from by rw[a,decide_eq_true (show 1<=D by omega)];simp);clear a;go_wp2_with fail
          refine o.out.mono ?_;rintro i j ⟨rfl,rfl⟩;go_wp2_with fail
          go_meet
          exact⟨by rw[d.out];rfl,rfl⟩
         .have p4:0<f:=by omega
          have d:=Ya (show V=false from by rw[a,decide_eq_false l,decide_eq_false (show ¬2<=D by omega)];simp);clear a l;go_wp2_with fail
          refine o.out.mono ?_;rintro i j ⟨rfl,rfl⟩;go_wp2_with fail
          go_meet
          exact⟨by rw[d.out];rfl,rfl⟩
        .have d:=Ya (show V=true from by rw[a,decide_eq_true (show 1<=D by omega),decide_eq_true (show 2<=D by omega)];simp)
         clear a;go_wp2_with fail
         refine o.out.mono ?_;rintro i j ⟨rfl,rfl⟩;go_wp2_with fail
         go_meet
         exact⟨by rw[d.out];rfl,rfl⟩
     .have p2:0<t:=by omega
      have d:=Ya (show V=false from by rw[a,decide_eq_false Z,decide_eq_false z2];simp);clear a z2 Z;go_wp2_with fail
      go_meet
      exact⟨by rw[d.out];rfl,rfl⟩
   case rest =>
    obtain⟨rfl,rfl⟩:=hcut;clear a
    cases V with
    | false =>
     have m:=Ya (h.out.trans (show _=false by simp));go_wp2_with fail
     go_ret
     exact⟨Zf m.out.symm,c.out.b⟩
    | true =>
     cases Q with
     | false =>
      have m:=Ya (h.out.trans (show _=false by simp));go_wp2_with fail
      go_ret
      exact⟨Zf m.out.symm,c.out.b⟩
     | true =>
      by_cases hk:q=K
      .subst hk
       by_cases p:nm.toList=[]
       .have hie:nm.toList.isEmpty=true:=by simp[p]
        cases M with
        | true =>
         have m:=Ya (h.out.trans (show _=false by simp[p]));go_wp2_with fail
         go_ret
         exact⟨Zf m.out.symm,c.out.b⟩
        | false =>
         have m:=Ya (h.out.trans (show _=true by simp[p]));go_wp2_with fail
         go_ret
         exact⟨Zf m.out.symm,c.out.b⟩
       .have hie:nm.toList.isEmpty=false:=by simp[p]
        cases M with
        | false =>
         have m:=Ya (h.out.trans (show _=false by simp[p]));go_wp2_with fail
         go_ret
         exact⟨Zf m.out.symm,c.out.b⟩
        | true =>
         have m:=Ya (h.out.trans (show _=B by simp[p]));go_wp2_with fail
         refine Hl.out.mono ?_;rintro i j ⟨rfl,rfl⟩;go_wp2_with fail
         go_ret
         exact⟨Zf m.out.symm,c.out.b⟩
      .have m:=Ya (h.out.trans (show _=false by simp[hk]))
       have a3:((q:Int)==(K:Int))=false:=by simp;omega
       clear hk;go_wp2_with fail
       go_ret
       exact⟨Zf m.out.symm,c.out.b⟩
 .have m:=Ya (show res=false from by rw[J.out,decide_eq_false u];simp)
  have n1:(op==1)=false:=by simp;omega
  have n2:(op==2)=false:=by simp;omega
  have n3:(op==3)=false:=by simp;omega
  have n4:(op==4)=false:=by simp;omega
  have n5:(op==5)=false:=by simp;omega
  have n6:(op==6)=false:=by simp;omega
  have n7:(op==7)=false:=by simp;omega
  have n8:(op==8)=false:=by simp;omega
  have n9:(op==9)=false:=by simp;omega
  have a1:(op==10)=false:=by simp;omega
  have a2:(op==11)=false:=by simp;omega
  clear u;go_wp2_with fail
  go_ret
  exact⟨Zf m.out.symm,g.out.b⟩
