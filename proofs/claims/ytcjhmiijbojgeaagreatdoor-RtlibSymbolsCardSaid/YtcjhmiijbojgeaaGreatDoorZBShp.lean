/- Parts. -/
import Derived.Test.YtcjhmiijbojgeaaGreatDoorZExtB
set_option linter.all false
set_option maxHeartbeats 2000000
open Go.Lib renaming hid->Ya,cell_of_heap->Yb
namespace Go.Proofs.YtcjhmiijbojgeaaGreatDoor
open S Go.Proofs.Tryz Go.RowKit
set_option maxRecDepth 100000
theorem Zxs (O:ByteArray)(P L:Int)(U:Bool)(Z:Option Addr)(nb T:Nat)(op n:Int)(nm:ByteArray)(q k f:Nat)(regs:List Int)(G u H I:Option Addr)(c1 c2 c3 c4:Nat)(w:World)(N:nm.size<=maxLen)(z:Ints w w.heap.size u regs)(X:regs.length<=maxLen) :
 Calls prog 220 #[.agg #[.string O,.int .i64 P,.int .i64 L,.bool U,.slice Z nb T],.agg #[.int .i64 op,.int .i64 n,.string nm,.slice G q c1,.slice u regs.length c2,.slice H k c3,.slice I f c4]] w
  λ x w'=>x=.returned (.bool (shapedS L op n nm q regs k f))/\Below w.heap.size w w':=by
 have t:=Ya (λ(W:World) (hb:Below w.heap.size w W)=>Zyu u c2 regs W ((z.below hb).more hb.size) X);have Y:shapedS L op n nm q regs k f=(decide (1<=op/\op<=11) && (decide (op=5) || decide (regs.length=0)) && risingB regs && (decide (1<=bodiesS op) || decide (k=0)) && (decide (2<=bodiesS op) || decide (f=0)) &&
  numS L op n && decide (q=exprsS op regs.length) && (namedS op==(nm.toList != ([]:List UInt8))) && (!S.namedS op || labB nm)):=by
  rw[Zir];rfl
 have Hh:=Ya Y;have C:=Ya (λ W=>Zo7 nm W N);clear Y N z X;generalize risingB regs=ρ at *;obtain⟨s,F⟩:=Yx regs.length;rw[<- F] at t Hh⊢;have a0:=Ya F;clear F;obtain⟨res,A⟩:=Yx (shapedS L op n nm q regs k f);rw[<- A] at Hh⊢;clear A;obtain⟨t1,t2,t3,t4⟩:=Zec w (.cells #[.string O,.int .i64 P,.int .i64 L,.bool U,.slice Z nb T] 169) (.cells #[.int .i64 op,.int .i64 n,.string nm,.slice G q c1,.slice u s c2,.slice H k c3,.slice I f c4] 123);go_enter func220,ntmps220
 go_upto_region 1 with fail
 generalize (w.alloc (.cells #[.string O,.int .i64 P,.int .i64 L,.bool U,.slice Z nb T] 169)).alloc (.cells #[.int .i64 op,.int .i64 n,.string nm,.slice G q c1,.slice u s c2,.slice H k c3,.slice I f c4] 123)=w2 at *;have q0:w2.cell? ⟨w.heap.size+1,0,none⟩=some (.int .i64 op):=by rw[Yb t2];rfl
 have q1:w2.cell? ⟨w.heap.size+1,1,none⟩=some (.int .i64 n):=by rw[Yb t2];rfl
 go_quiet (fail)
 have g:=Ya (show RE w (w2.drewN nq) (.cells #[.string O,.int .i64 P,.int .i64 L,.bool U,.slice Z nb T] 169) (.cells #[.int .i64 op,.int .i64 n,.string nm,.slice G q c1,.slice u s c2,.slice H k c3,.slice I f c4] 123) from⟨t1,t2,below_drewN t3 nq,by show _<=w2.heap.size;omega⟩);clear q0 q1 t1 t2 t3 t4;generalize w2.drewN nq=w3 at *;have q0:w3.cell? ⟨w.heap.size+1,0,none⟩=some (.int .i64 op):=by rw[Yb g.out.e];rfl
 have q1:w3.cell? ⟨w.heap.size+1,1,none⟩=some (.int .i64 n):=by rw[Yb g.out.e];rfl
 have q2:w3.cell? ⟨w.heap.size,2,none⟩=some (.int .i64 L):=by rw[Yb g.out.r];rfl
 have q3:w3.cell? ⟨w.heap.size+1,4,none⟩=some (.slice u s c2):=by rw[Yb g.out.e];rfl
 go_upto_block 0 with fail
 clear q0;by_cases y:1<=op/\op<=11
 .go_cut [5,6,7,8] (λ v5 v6 v7 v8 wc=>v5=.int .i64 (exprsS op s:Nat)/\v6=.bool (namedS op)/\v7=.bool (numS L op n)/\v8=.int .i64 (bodiesS op)/\Hid (RE w wc (.cells #[.string O,.int .i64 P,.int .i64 L,.bool U,.slice Z nb T] 169) (.cells #[.int .i64 op,.int .i64 n,.string nm,.slice G q c1,.slice u s c2,.slice H k c3,.slice I f c4] 123)))
  case first =>
   rcases(show op=1\/op=2\/op=3\/op=4\/op=5\/op=6\/op=7\/op=8\/op=9\/op=10\/op=11 by omega) with rfl|rfl|rfl|rfl|rfl|rfl|rfl|rfl|rfl|rfl|rfl
   .by_cases h1:0<=n
    .by_cases h2:n<L
     .have He:=Ya (show true=numS L 1 n from(decide_eq_true ⟨h1,h2⟩).symm)
      go_wp2_with fail
      go_meet
      exact⟨rfl,rfl,by rw[<- He.out],rfl,g⟩
     .have He:=Ya (show false=numS L 1 n from(decide_eq_false (by omega)).symm)
      go_wp2_with fail
      go_meet
      exact⟨rfl,rfl,by rw[<- He.out],rfl,g⟩
    .have He:=Ya (show false=numS L 1 n from(decide_eq_false (by omega)).symm)
     go_wp2_with fail
     go_meet
     exact⟨rfl,rfl,by rw[<- He.out],rfl,g⟩
   .go_wp2_with fail
    refine(Zqf n w3).mono ?_;rintro j i ⟨rfl,rfl⟩;go_wp2_with fail
    go_meet
    exact⟨rfl,rfl,rfl,rfl,g⟩
   .go_wp2_with fail
    go_meet
    exact⟨rfl,rfl,rfl,rfl,g⟩
   .go_wp2_with fail
    go_meet
    exact⟨rfl,rfl,rfl,rfl,g⟩
   .go_wp2_with fail
    go_meet
    exact⟨rfl,rfl,rfl,rfl,g⟩
   .go_wp2_with fail
    go_meet
    exact⟨rfl,rfl,rfl,rfl,g⟩
   .go_wp2_with fail
    go_meet
    exact⟨rfl,rfl,rfl,rfl,g⟩
   .go_wp2_with fail
    go_meet
    exact⟨rfl,rfl,rfl,rfl,g⟩
   .go_wp2_with fail
    refine(Zfr n w3).mono ?_;rintro j i ⟨rfl,rfl⟩;go_wp2_with fail
    go_meet
    exact⟨rfl,rfl,rfl,rfl,g⟩
   .go_wp2_with fail
    go_meet
    exact⟨rfl,rfl,rfl,rfl,g⟩
   .go_wp2_with fail
    go_meet
    exact⟨rfl,rfl,rfl,rfl,g⟩
  case rest =>
   obtain⟨rfl,rfl,rfl,rfl,d⟩:=hcut;have E:=Hh.out;rw[decide_eq_true y,Bool.true_and] at E;have R:=Ya E;clear E y Hh g q1 q2 q3;have q0:wc.cell? ⟨w.heap.size+1,0,none⟩=some (.int .i64 op):=by rw[Yb d.out.e];rfl
   have q2:wc.cell? ⟨w.heap.size+1,2,none⟩=some (.string nm):=by rw[Yb d.out.e];rfl
   have q3:wc.cell? ⟨w.heap.size+1,3,none⟩=some (.slice G q c1):=by rw[Yb d.out.e];rfl
   have q4:wc.cell? ⟨w.heap.size+1,4,none⟩=some (.slice u s c2):=by rw[Yb d.out.e];rfl
   have q5:wc.cell? ⟨w.heap.size+1,5,none⟩=some (.slice H k c3):=by rw[Yb d.out.e];rfl
   have q6:wc.cell? ⟨w.heap.size+1,6,none⟩=some (.slice I f c4):=by rw[Yb d.out.e];rfl
   generalize exprsS op s=K at *;generalize namedS op=M at *;generalize numS L op n=Q at *;generalize bodiesS op=D at *;have o:=Ya (t.out wc d.out.b);have Hl:=Ya (C.out wc);generalize labB nm=B at *;clear t C a0;obtain⟨V,a⟩:∃V:Bool,V=((decide (op=5) || decide (s=0)) && ρ && (decide (1<=D) || decide (k=0)) && (decide (2<=D) || decide (f=0))):=⟨_,rfl⟩
   have h:=Ya (show res=(V && Q && decide (q=K) && (M==(nm.toList != ([]:List UInt8))) && (!M || B)) from by rw[a];exact R.out);clear R;go_upto_region 22 with fail
   go_cut [86] (λ v w5=>v=.bool (!V)/\wc=w5)
   case first =>
    clear Hl h q2 q3;by_cases J:op=5
    .subst J
     cases ρ with
     | false =>
      have c:=Ya (show V=false from by rw[a];simp);clear a;go_wp2_with fail
      refine o.out.mono ?_;rintro j i ⟨rfl,rfl⟩;go_wp2_with fail
      go_meet
      exact⟨by rw[c.out];rfl,rfl⟩
     | true =>
      by_cases d1:D<1
      .by_cases z3:k=0
       .subst z3
        by_cases m:f=0
        .subst m
         have c:=Ya (show V=true from by rw[a];simp);clear a;go_wp2_with fail
         refine o.out.mono ?_;rintro j i ⟨rfl,rfl⟩;go_wp2_with fail
         go_meet
         exact⟨by rw[c.out];rfl,rfl⟩
        .have p4:0<f:=by omega
         have c:=Ya (show V=false from by rw[a,decide_eq_false m,decide_eq_false (show ¬2<=D by omega)];simp);clear a m;go_wp2_with fail
         refine o.out.mono ?_;rintro j i ⟨rfl,rfl⟩;go_wp2_with fail
         go_meet
         exact⟨by rw[c.out];rfl,rfl⟩
       .have p3:0<k:=by omega
        have c:=Ya (show V=false from by rw[a,decide_eq_false z3,decide_eq_false (show ¬1<=D by omega)];simp);clear a z3;go_wp2_with fail
        refine o.out.mono ?_;rintro j i ⟨rfl,rfl⟩;go_wp2_with fail
        go_meet
        exact⟨by rw[c.out];rfl,rfl⟩
      .by_cases d2:D<2
       .by_cases m:f=0
        .subst m
         have c:=Ya (show V=true from by rw[a,decide_eq_true (show 1<=D by omega)];simp);clear a;go_wp2_with fail
         refine o.out.mono ?_;rintro j i ⟨rfl,rfl⟩;go_wp2_with fail
         go_meet
         exact⟨by rw[c.out];rfl,rfl⟩
        .have p4:0<f:=by omega
         have c:=Ya (show V=false from by rw[a,decide_eq_false m,decide_eq_false (show ¬2<=D by omega)];simp);clear a m;go_wp2_with fail
         refine o.out.mono ?_;rintro j i ⟨rfl,rfl⟩;go_wp2_with fail
         go_meet
         exact⟨by rw[c.out];rfl,rfl⟩
       .have c:=Ya (show V=true from by rw[a,decide_eq_true (show 1<=D by omega),decide_eq_true (show 2<=D by omega)];simp)
        clear a;go_wp2_with fail
        refine o.out.mono ?_;rintro j i ⟨rfl,rfl⟩;go_wp2_with fail
        go_meet
        exact⟨by rw[c.out];rfl,rfl⟩
    .have n5:(op != 5)=true:=by simp[J]
     by_cases z2:s=0
     .subst z2
      clear J
      cases ρ with
      | false =>
       have c:=Ya (show V=false from by rw[a];simp);clear a;go_wp2_with fail
       refine o.out.mono ?_;rintro j i ⟨rfl,rfl⟩;go_wp2_with fail
       go_meet
       exact⟨by rw[c.out];rfl,rfl⟩
      | true =>
       by_cases d1:D<1
       .by_cases z3:k=0
        .subst z3
         by_cases m:f=0
         .subst m
          have c:=Ya (show V=true from by rw[a];simp);clear a;go_wp2_with fail
          refine o.out.mono ?_;rintro j i ⟨rfl,rfl⟩;go_wp2_with fail
          go_meet
          exact⟨by rw[c.out];rfl,rfl⟩
         .have p4:0<f:=by omega
          have c:=Ya (show V=false from by rw[a,decide_eq_false m,decide_eq_false (show ¬2<=D by omega)];simp);clear a m;go_wp2_with fail
          refine o.out.mono ?_;rintro j i ⟨rfl,rfl⟩;go_wp2_with fail
          go_meet
          exact⟨by rw[c.out];rfl,rfl⟩
        .have p3:0<k:=by omega
         have c:=Ya (show V=false from by rw[a,decide_eq_false z3,decide_eq_false (show ¬1<=D by omega)];simp);clear a z3;go_wp2_with fail
         refine o.out.mono ?_;rintro j i ⟨rfl,rfl⟩;go_wp2_with fail
         go_meet
         exact⟨by rw[c.out];rfl,rfl⟩
       .by_cases d2:D<2
        .by_cases m:f=0
         .subst m
          have c:=Ya (show V=true from by rw[a,decide_eq_true (show 1<=D by omega)];simp);clear a;go_wp2_with fail
          refine o.out.mono ?_;rintro j i ⟨rfl,rfl⟩;go_wp2_with fail
          go_meet
          exact⟨by rw[c.out];rfl,rfl⟩
         .have p4:0<f:=by omega
          have c:=Ya (show V=false from by rw[a,decide_eq_false m,decide_eq_false (show ¬2<=D by omega)];simp);clear a m;go_wp2_with fail
          refine o.out.mono ?_;rintro j i ⟨rfl,rfl⟩;go_wp2_with fail
          go_meet
          exact⟨by rw[c.out];rfl,rfl⟩
        .have c:=Ya (show V=true from by rw[a,decide_eq_true (show 1<=D by omega),decide_eq_true (show 2<=D by omega)];simp)
         clear a;go_wp2_with fail
         refine o.out.mono ?_;rintro j i ⟨rfl,rfl⟩;go_wp2_with fail
         go_meet
         exact⟨by rw[c.out];rfl,rfl⟩
     .have p2:0<s:=by omega
      have c:=Ya (show V=false from by rw[a,decide_eq_false J,decide_eq_false z2];simp);clear a z2 J;go_wp2_with fail
      go_meet
      exact⟨by rw[c.out];rfl,rfl⟩
   case rest =>
    obtain⟨rfl,rfl⟩:=hcut;clear a
    cases V with
    | false =>
     have l:=Ya (h.out.trans (show _=false by simp));go_wp2_with fail
     go_ret
     exact⟨Zf l.out.symm,d.out.b⟩
    | true =>
     cases Q with
     | false =>
      have l:=Ya (h.out.trans (show _=false by simp));go_wp2_with fail
      go_ret
      exact⟨Zf l.out.symm,d.out.b⟩
     | true =>
      by_cases hk:q=K
      .subst hk
       by_cases p:nm.toList=[]
       .have hie:nm.toList.isEmpty=true:=by simp[p]
        cases M with
        | true =>
         have l:=Ya (h.out.trans (show _=false by simp[p]));go_wp2_with fail
         go_ret
         exact⟨Zf l.out.symm,d.out.b⟩
        | false =>
         have l:=Ya (h.out.trans (show _=true by simp[p]));go_wp2_with fail
         go_ret
         exact⟨Zf l.out.symm,d.out.b⟩
       .have hie:nm.toList.isEmpty=false:=by simp[p]
        cases M with
        | false =>
         have l:=Ya (h.out.trans (show _=false by simp[p]));go_wp2_with fail
         go_ret
         exact⟨Zf l.out.symm,d.out.b⟩
        | true =>
         have l:=Ya (h.out.trans (show _=B by simp[p]));go_wp2_with fail
         refine Hl.out.mono ?_;rintro j i ⟨rfl,rfl⟩;go_wp2_with fail
         go_ret
         exact⟨Zf l.out.symm,d.out.b⟩
      .have l:=Ya (h.out.trans (show _=false by simp[hk]))
       have a3:((q:Int)==(K:Int))=false:=by simp;omega
       clear hk;go_wp2_with fail
       go_ret
       exact⟨Zf l.out.symm,d.out.b⟩
 .have l:=Ya (show res=false from by rw[Hh.out,decide_eq_false y];simp)
  have n1:(op==1)=false:=by simp;omega
  have n2:(op==2)=false:=by simp;omega
  have n3:(op==3)=false:=by simp;omega
  have n4:(op==4)=false:=by simp;omega
  have n5:(op==5)=false:=by simp;omega
  have n6:(op==6)=false:=by simp;omega
  have n7:(op==7)=false:=by simp;omega
  have n8:(op==8)=false:=by simp;omega
  have n9:(op==9)=false:=by simp;omega
  have a2:(op==10)=false:=by simp;omega
  have a1:(op==11)=false:=by simp;omega
  clear y;go_wp2_with fail
  go_ret
  exact⟨Zf l.out.symm,g.out.b⟩
