/- Parts. -/
import Derived.Test.YtgdjocajlndonaaGreatDoorZGSttQ1
import Derived.Test.YtgdjocajlndonaaGreatDoorZKCo
import Derived.JoinedOf
import Derived.JoinedCond
import Derived.KernelRfl
set_option linter.all false
set_option maxHeartbeats 40000000
open List renaming getElem?_eq_getElem->Yc,range->Yo,getElem_of_mem->Yau
namespace Go.Proofs.YtgdjocajlndonaaGreatDoor
section
set_option maxRecDepth 100000
theorem rtgcAgain_closed:joinedFacts Tryz.pinned.checked.prog 3 Tryz.f3 (OpenSpec.ofChange Rows.rtgcAgainSpec).bare Rows.rtgcAgainRow=true:=by
 unfold joinedFacts;simp only [Bool.and_eq_true]
 (repeat' apply And.intro)
 all_goals (as_aux_lemma=>kernel_rfl)
end
section
namespace S
end S
theorem Zgf {xs:List S.Item}{base:Int}{F G:List Int}(hF:S.Inv xs base F)(hG:S.Stable xs base G):S.addr xs F base xs.length<=S.addr xs G base xs.length:=by
 have:=Zf2 (base:=base) hF.1 hG.1 (hF.2 G hG) 0 xs.length;simp only [Nat.zero_add] at this;simp only [S.addr] at this;omega
theorem Zng {xs:List S.Item}{base e f:Int}{F G:List Int}(h:S.FormsRes xs base e F)(k:S.FormsRes xs base f G):e=f/\F=G:=by
 rcases h with ⟨h1,h2,h3⟩ | ⟨h1,h2,h3,H,h4,h5⟩ | ⟨h1,h2,h3,h4,h5⟩ <;>
 rcases k with ⟨k1,k2,k3⟩ | ⟨k1,k2,k3,K,k4,k5⟩ | ⟨k1,k2,k3,k4,k5⟩
 ·exact ⟨Za8 h2 k2,by rw [h3,k3]⟩
 ·exact absurd (Za8 h2 k1) h1
 ·exact absurd (Za8 h2 k1) h1
 ·exact absurd (Za8 k2 h1) k1
 ·exact ⟨by omega,by rw [h3,k3]⟩
 ·have:=Zgf h4 k4;omega
 ·exact absurd (Za8 k2 h1) k1
 ·have:=Zgf k4 h4;omega
 ·refine ⟨by omega,Zdq (by rw [h3.1.1,k3.1.1]) fun i=>?_⟩
  have a:=h3.2 G k4 i;have b:=k3.2 F h4 i;omega
end
section
open Go.RowKit
section
variable {w w':World}{F:Nat->Prop}{lo b p_:Nat}{H half:Int}{P:List (ByteArray×Int)}{m:S.Mach}
end
theorem Znh:S.kCollect=⟨#[99,111,108,108,101,99,116]⟩:=by kernel_rfl
end
section
open Go.RowKit
section
variable {gw sw F:List Int}{size:Int}{g:S.Gr}{a:Int}{was at_:List Int}{half fr to_ r26:Int}{il:List Nat}{nu:Nat->Int}{n0:Int}{l:List Nat}{cnt n:Nat}
theorem Zhf (hI:∀ b,(S.ab b gw sw F size).Ok){m:S.Mach}(hw:S.Wd gw sw F size m)(h:S.an gw sw F size g a was at_ m.mv half fr to_ r26 il nu n0 l cnt n){N:Nat}(hN:701+130*((cnt:Int)+(gw.length+sw.length))+10100*n+170*n0<=N){C:S.Mach}(hC:C=S.aj (S.ab true gw sw F size) m S.kCollect N) :
 S.b6 gw sw F size g was at_ half fr to_ l cnt n m C/\C.state=1/\C.place=(S.ab true gw sw F size).lab S.kStub/\C.rd 28=1056/\C.Ok/\(S.ab true gw sw F size).In C.mem:=by
 subst hC;obtain ⟨iM,sM⟩:=Zh0 (gw:=gw) (sw:=sw) (F:=F) (size:=size) true;obtain ⟨iS,sS⟩:=Zh1 (gw:=gw) (sw:=sw) (F:=F) (size:=size) true;obtain ⟨iF,sF⟩:=Zgh (gw:=gw) (sw:=sw) (F:=F) (size:=size) true;obtain ⟨iC,sC⟩:=Zd0 (gw:=gw) (sw:=sw) (F:=F) (size:=size) true;have hlab:(S.ab true gw sw F size).lab S.kCode=1312+gw.length+sw.length:=(Zt (hI true)).2.1;obtain ⟨st0,hst0⟩:=Yx (S.viewOf (m.setV 31 ((S.ab true gw sw F size).lab S.kStub)));have hsm:st0.mem=m.mv:=by rw [hst0];exact Zh2 _ _
 have h':S.an gw sw F size g a was at_ st0.mem half fr to_ r26 il nu n0 l cnt n:=by rw [hsm];exact h
 have hr:=Zep (hI true) (Zkg true hI h') sM sS sF sC (Zlo true hI h');have hkt:∀ (ρ:List S.Ob) (st':S.Vw),S.Cd (S.an.cf g st0.mem nu il fr to_ half) (S.an.T g st0.mem nu l) (S.RX (S.ab true gw sw F size) st0.mem cnt n) st0 ρ st'->S.tot ρ=n0:=fun ρ st' hd=>by
  obtain ⟨_,_,ht⟩:=Zer true hI h' hd;exact ht
 obtain ⟨st',hP,hsee,h1,h2,h3⟩:=Zdd hI hw Zch (d:=72) (by decide) (by rw [<- hst0];exact hr) (N:=N)
  (P:=fun st'=>∃ ρ,S.Cd (S.an.cf g st0.mem nu il fr to_ half) (S.an.T g st0.mem nu l) (S.RX (S.ab true gw sw F size) st0.mem cnt n) st0 ρ st') fun ret o k hR=>by
   obtain ⟨st',ρ,rfl,hd,hk⟩:=hR;have:=hkt ρ st' hd;rw [hlab] at hk;exact ⟨st',.inl rfl,by omega,ρ,hd⟩
 obtain ⟨ρ,hd⟩:=hP;rw [hsm] at hd;exact ⟨(Zpn hI hw.ok h hst0 (st:=st0) hsm (fun _ _ _=>rfl) hd hsee).1,h1,h2,h3,hsee.ok,hsee.code⟩
theorem Zqi (hI:∀ b,(S.ab b gw sw F size).Ok){m C:S.Mach}(h:S.an gw sw F size g a was at_ m.mv half fr to_ r26 il nu n0 l cnt n)(hroot:∀ x,S.RX (S.ab true gw sw F size) m.mv cnt n x->x∈at_)(hk:S.b6 gw sw F size g was at_ half fr to_ l cnt n m C) :
 (∃ nu',S.an gw sw F size g a was at_ C.mv half to_ fr (C.rd 26) l nu' n0 l cnt n)/\∀ x,S.RX (S.ab true gw sw F size) C.mv cnt n x->x∈at_:=by
 have he:=Zbp (hI true);obtain ⟨v1,v2,v3⟩:=h.hv;obtain ⟨nu',hK⟩:=hk.keeps;have hc:=h.c16;have hn2:n<=2:=by rcases h.fm with ⟨_,q⟩ | ⟨_,q,_⟩ <;> omega
 have hlab:(S.ab true gw sw F size).lab S.kCode=1312+gw.length+sw.length:=(Zt (hI true)).2.1;have hfxr:∀ x,S.FX m.mv (m.mv 6) n x->32<=x:=fun x q=>by
  obtain ⟨j,_,i,_,rfl,_⟩:=q;omega
 have norx:∀ x:Int,x<16->x≠5->¬ S.RX (S.ab true gw sw F size) m.mv cnt n x:=fun x h1 h5 q=>by
  rcases q with ((rfl | q) | q) | q
  ·exact h5 rfl
  ·omega
  ·have:=hfxr x q;omega
  ·omega
 have stay:∀ x:Int,0<=x->x<16->x≠2->x≠3->x≠5->C.mv x=m.mv x:=fun x h0 h1 h2 h3 h5=>hk.mem x h0 (by omega) (by omega) h2 h3 (norx x h1 h5) (by omega) (by omega)
 have e6:C.mv 6=m.mv 6:=stay 6 (by decide) (by decide) (by decide) (by decide) (by decide);have fx:∀ x,S.FX C.mv (C.mv 6) n x↔S.FX m.mv (m.mv 6) n x:=fun x=>by
  rw [e6]
  constructor
  ·rintro ⟨j,hj,q⟩
   refine ⟨j,hj,?_⟩;have hm6:m.mv 6=9:=by rcases h.fm with ⟨_,q⟩ | ⟨q,_⟩ <;> omega
   rw [hm6] at q ⊢;rw [stay (9+1+j) (by omega) (by omega) (by omega) (by omega) (by omega)] at q;exact q
  ·rintro ⟨j,hj,q⟩
   refine ⟨j,hj,?_⟩;have hm6:m.mv 6=9:=by rcases h.fm with ⟨_,q⟩ | ⟨q,_⟩ <;> omega
   rw [hm6] at q ⊢;rw [stay (9+1+j) (by omega) (by omega) (by omega) (by omega) (by omega)];exact q
 have rx:∀ x,S.RX (S.ab true gw sw F size) C.mv cnt n x↔S.RX (S.ab true gw sw F size) m.mv cnt n x:=fun x=>by
  unfold S.RX;rw [fx x]
 have hil2:∀ j∈l,j∈il:=Zew h.re (fun r hr j hj=>by
  obtain ⟨k,hk,e⟩:=Yau hr;have hk2:k<(at_.map m.mv).length:=by rw [<- h.sh.len];exact hk
  exact ((h.sh.good k r _ (by rw [<- e];exact Yc hk) (Yc hk2)).2 j hj).1) (fun j hj x hx q hq=>by
  obtain ⟨k,hk,e⟩:=Yau hx;exact ((h.sh.words j hj k x (by rw [<- e];exact Yc hk)).2 q hq).1)
 have htl:g.total l<=half:=Int.le_trans (Ze8 h.gok h.re.nd h.re.rng hil2) h.tot;have hsum:=h.re.sum;have hsz:=hK.size n0 l h.re;refine ⟨⟨nu',⟨v1,v2,by omega⟩,h.gok,h.top,hK.sh,h.fit,by omega,htl,h.re,hk.m2,hk.m3,?_,?_,hc,?_,fun x hx=>.inl (hroot x ((rx x).1 hx)),fun x hx=>(rx x).2 (h.at_ x hx)⟩,fun x hx=>hroot x ((rx x).1 hx)⟩
 ·rw [stay 4 (by decide) (by decide) (by decide) (by decide) (by decide)];exact h.m4
 ·rw [stay 8 (by decide) (by decide) (by decide) (by decide) (by decide)];exact h.m8
 ·rw [e6,stay 9 (by decide) (by decide) (by decide) (by decide) (by decide),stay 10 (by decide) (by decide) (by decide) (by decide) (by decide),stay 11 (by decide) (by decide) (by decide) (by decide) (by decide)]
  exact h.fm
end
def S.bf (C m:S.Mach)(k:Nat):S.Mach:=S.puts m ((Yo k).map fun i=>((i:Nat),C.memV (i:Nat)))
def S.a9 (C m:S.Mach):Nat->S.Mach
 | 0=>m
 | k+1=>(S.a9 C m k).setV k (C.regV k)
def S.ay (C m:S.Mach):S.Mach:=S.a9 C (S.bf C m C.mem.length) 32
theorem Zg3 (C m:S.Mach)(k:Nat):S.bf C m (k+1)=(S.bf C m k).putV k (C.memV k):=by
 unfold S.bf;rw [List.range_succ,List.map_append,Za7];rfl
theorem Zqj {C m:S.Mach}(hl:m.mem.length=C.mem.length):∀ k:Nat,k<=C.mem.length->(S.bf C m k).mem.length=C.mem.length/\∀ x:Int,0<=x->x<C.mem.length->(S.bf C m k).mv x=if x<k then C.mv x else m.mv x
 | 0,_=>⟨hl,fun x h0 _=>by rw [if_neg (show ¬ x<((0:Nat):Int) by omega)];rfl⟩
 | k+1,hk=>by
  obtain ⟨q1,q2⟩:=Zqj hl k (by omega);rw [Zg3];refine ⟨by rw [(Zci _ _ _).2.2.2.2.2.2,q1],fun x h0 h1=>?_⟩;rw [Zbi (by omega) (by omega) h0,q2 x h0 h1];by_cases c:x=k
  ·rw [if_pos c,if_pos (by omega),Zbj (by omega) (by omega),c]
  ·rw [if_neg c]
   by_cases c2:x<k
   ·rw [if_pos c2,if_pos (by omega)]
   ·rw [if_neg c2,if_neg (by omega)]
theorem Zqk {C m:S.Mach}(hC:C.Ok)(h:m.Ok)(hl:m.mem.length=C.mem.length):∀ k:Nat,k<=C.mem.length->(S.bf C m k).Ok
 | 0,_=>h
 | k+1,hk=>by
  rw [Zg3];refine Zpx (Zqk hC h hl k (by omega)) ?_;rw [Zbj (by omega) (by omega)];exact hC.memw _
theorem Zql {C m:S.Mach}(hC:C.Ok)(h:m.Ok):∀ k:Nat,k<=32->(S.a9 C m k).Ok/\(∀ x,(S.a9 C m k).mv x=m.mv x)/\(∀ j:Int,0<=j->(S.a9 C m k).rd j=if 0<j/\j<k then C.rd j else m.rd j)/\(S.a9 C m k).state=m.state/\(S.a9 C m k).out=m.out/\(S.a9 C m k).steps=m.steps/\(S.a9 C m k).mem=m.mem
 | 0,_=>⟨h,fun _=>rfl,fun j h0=>by rw [if_neg (by omega)];rfl,rfl,rfl,rfl,rfl⟩
 | k+1,hk=>by
  obtain ⟨q1,q2,q3,q4,q5,q6,q7⟩:=Zql hC h k (by omega);have e:S.a9 C m (k+1)=(S.a9 C m k).setV k (C.regV k):=rfl;by_cases c:k=0
  ·subst c
   have e0:S.a9 C m (0+1)=S.a9 C m 0:=by
    rw [e];unfold S.Mach.setV S.Mach.put;simp
   rw [e0];exact ⟨q1,q2,fun j h0=>by rw [q3 j h0,if_neg (by omega),if_neg (by omega)],q4,q5,q6,q7⟩
  ·have hrv:C.regV k=C.rd k:=Za1 (by omega) (by omega)
   have hrb:=hC.word k;rw [e,hrv];have hse:=Zb0 (m:=S.a9 C m k) (i:=(k:Int)) (v:=C.rd k) (by omega) (by omega);refine ⟨?_,fun x=>by rw [Zcj (by omega) (by omega)];exact q2 x,fun j h0=>?_,by rw [hse];exact q4,by rw [hse];exact q5,by rw [hse];exact q6,by rw [hse];exact q7⟩
   ·unfold S.Mach.setV
    rw [if_pos ⟨by omega,by omega⟩];exact Zik q1 (by omega) (by unfold S.Mach.rd;exact hC.word _)
   ·rw [Zbu q1 (by omega) (by omega),q3 j h0]
    by_cases c2:j=k
    ·rw [if_pos c2,if_pos (by omega),c2]
    ·rw [if_neg c2]
     by_cases c3:0<j/\j<k
     ·rw [if_pos c3,if_pos (by omega)]
     ·rw [if_neg c3,if_neg (by omega)]
theorem Z0f {gw sw F:List Int}{size:Int}{C m:S.Mach}(hw:S.Wd gw sw F size m)(hC:C.Ok)(hl:(C.mem.length:Int)=size)(h28:C.rd 28=1056)(hcode:(S.ab true gw sw F size).In C.mem) :
 S.Wd gw sw F size (S.ay C m)/\(∀ x:Int,0<=x->x<size->(S.ay C m).mv x=C.mv x)/\∀ j:Int,0<j->j<32->(S.ay C m).rd j=C.rd j:=by
 have hml:=hw.len;have hl2:m.mem.length=C.mem.length:=by omega
 obtain ⟨p1,p2⟩:=Zqj hl2 C.mem.length (Nat.le_refl _);have p3:=Zqk hC hw.ok hl2 C.mem.length (Nat.le_refl _);obtain ⟨s1,s2,s3,s4,s5,s6,s7⟩:=Zql hC p3 32 (Nat.le_refl _);have hps:=Zgi m ((Yo C.mem.length).map fun i=>((i:Nat),C.memV (i:Nat)));have mv:∀ x:Int,0<=x->x<size->(S.ay C m).mv x=C.mv x:=fun x h0 h1=>by
  unfold S.ay;rw [s2,p2 x h0 (by omega),if_pos (by omega)]
 have rd:∀ j:Int,0<j->j<32->(S.ay C m).rd j=C.rd j:=fun j h0 h1=>by
  unfold S.ay;rw [s3 j (by omega),if_pos (by omega)]
 have hlen:(S.ay C m).mem.length=C.mem.length:=by
  unfold S.ay;rw [s7];exact p1
 refine ⟨⟨s1,?_,by omega,fun i h0 h1 j w hv=>?_,by rw [rd 28 (by decide) (by decide)];exact h28,?_,?_⟩,mv,rd⟩
 ·unfold S.ay
  rw [s4];exact hps.2.2.2.2.1.trans hw.run
 ·have h:=hcode i h0 h1 j w hv
  by_cases c:((S.ab true gw sw F size).adr i).toNat+j<C.mem.length
  ·have:=mv ((((S.ab true gw sw F size).adr i).toNat+j:Nat):Int) (by omega) (by omega)
   unfold S.Mach.mv at this;rw [Int.toNat_natCast] at this;rw [this];exact h
  ·rw [List.getD_eq_getElem?_getD,List.getElem?_eq_none (by omega)] at h ⊢
   exact h
 ·unfold S.ay
  rw [s5];exact hps.2.2.2.1.trans hw.out
 ·unfold S.ay
  rw [s6];exact hps.2.2.2.2.2.1.trans hw.steps
end
section
open Go.RowKit
structure S.df (gw sw F:List Int)(size:Int)(g:S.Gr)(a:Int)(was at_:List Int)(half:Int)(cnt n:Nat)(n0:Int)(C:S.Mach):Prop where
 ok:C.Ok
 len:(C.mem.length:Int)=size
 code:(S.ab true gw sw F size).In C.mem
 r28:C.rd 28=1056
 grm:∃ fr to_ il nu l,S.an gw sw F size g a was at_ C.mv half fr to_ (C.rd 26) il nu n0 l cnt n
 root:∀ x,S.RX (S.ab true gw sw F size) C.mv cnt n x->x∈at_
section
variable {gw sw F:List Int}{size:Int}{g:S.Gr}{a:Int}{was at_:List Int}{half:Int}{cnt n:Nat}{n0:Int}
theorem Zuj {mem mem':Int->Int}{fr to_ r26:Int}{il:List Nat}{nu:Nat->Int}{l:List Nat}(h:S.an gw sw F size g a was at_ mem half fr to_ r26 il nu n0 l cnt n)(hI:∀ b,(S.ab b gw sw F size).Ok)(hsz:size<=335544320)(hm:∀ x,0<=x->x<size->mem' x=mem x):S.an gw sw F size g a was at_ mem' half fr to_ r26 il nu n0 l cnt n/\∀ x,S.RX (S.ab true gw sw F size) mem' cnt n x↔S.RX (S.ab true gw sw F size) mem cnt n x:=by
 have he:=Zbp (hI true);obtain ⟨v1,v2,v3⟩:=h.hv;have hc:=h.c16;have hn2:n<=2:=by rcases h.fm with ⟨_,q⟩ | ⟨_,q,_⟩ <;> omega
 have hlab:(S.ab true gw sw F size).lab S.kCode=1312+gw.length+sw.length:=(Zt (hI true)).2.1;have m6:=hm 6 (by decide) (by omega);have fx:∀ x,S.FX mem' (mem' 6) n x↔S.FX mem (mem 6) n x:=fun x=>by
  rw [m6];have key:∀ j:Nat,j<n->mem' (mem 6+1+j)=mem (mem 6+1+j):=fun j hj=>by
   have h6:mem 6=9:=by rcases h.fm with ⟨_,q⟩ | ⟨q,_⟩ <;> omega
   exact hm _ (by omega) (by omega)
  constructor
  ·rintro ⟨j,hj,q⟩
   exact ⟨j,hj,by rw [<- key j hj];exact q⟩
  ·rintro ⟨j,hj,q⟩
   exact ⟨j,hj,by rw [key j hj];exact q⟩
 have rx:∀ x,S.RX (S.ab true gw sw F size) mem' cnt n x↔S.RX (S.ab true gw sw F size) mem cnt n x:=fun x=>by
  unfold S.RX;rw [fx x]
 have rng:∀ x,S.RX (S.ab true gw sw F size) mem cnt n x->mem' x=mem x:=fun x hx=>by
  have:=Zqq hI h hx;exact hm x (by omega) this.2.1
 have hnow:at_.map mem'=at_.map mem:=List.map_congr_left fun x hx=>rng x (h.at_ x hx)
 refine ⟨⟨h.hv,h.gok,h.top,?_,h.fit,h.room,h.tot,h.re,by rw [hm 2 (by decide) (by omega)];exact h.m2,by rw [hm 3 (by decide) (by omega)];exact h.m3,by rw [hm 4 (by decide) (by omega)];exact h.m4,by rw [hm 8 (by decide) (by omega)];exact h.m8,hc,by rw [m6,hm 9 (by decide) (by omega),hm 10 (by decide) (by omega),hm 11 (by decide) (by omega)];exact h.fm,fun x hx=>?_,fun x hx=>(rx x).2 (h.at_ x hx)⟩,rx⟩
 ·rw [hnow]
  have hs:=h.sh;have hr:=h.room;have sz:∀ n,(g.nd n).size=1+(g.nd n).ws.length:=fun n=>rfl
  refine ⟨hs.nd,hs.rng,hs.len,hs.good,fun n hn=>?_,fun n hn k x hx=>?_,hs.dis⟩
  ·obtain ⟨q1,q2,q3⟩:=hs.at_ n hn
   have:=sz n;exact ⟨q1,q2,by rw [hm _ (by omega) (by omega)];exact q3⟩
  ·obtain ⟨q1,q2,q3⟩:=hs.at_ n hn
   have:=sz n;have hk:=(List.getElem?_eq_some_iff.1 hx).1;rw [hm _ (by omega) (by omega)];exact hs.words n hn k x hx
 ·have hx':=(rx x).1 hx
  rw [rng x hx'];exact h.root x hx'
theorem Zxm (hI:∀ b,(S.ab b gw sw F size).Ok)(hsz:size<=335544320){C m:S.Mach}(h:S.df gw sw F size g a was at_ half cnt n n0 C)(hw:S.Wd gw sw F size m){N:Nat}(hN:701+130*((cnt:Int)+(gw.length+sw.length))+10100*n+170*n0<=N){C':S.Mach}(hC':C'=S.aj (S.ab true gw sw F size) (S.ay C m) S.kCollect N) :
 S.Wd gw sw F size (S.ay C m)/\S.df gw sw F size g a was at_ half cnt n n0 C'/\(∃ l nu,S.Keeps g was (at_.map C'.mv) C'.mv (C'.mv 2) half (C'.rd 26) (C'.rd 27) l nu)/\C'.state=1/\C'.place=(S.ab true gw sw F size).lab S.kStub:=by
 obtain ⟨fr,to_,il,nu,l,hG⟩:=h.grm;obtain ⟨c1,c2,c3⟩:=Z0f hw h.ok h.len h.r28 h.code;obtain ⟨hG2,rx⟩:=Zuj hG hI hsz (mem':=(S.ay C m).mv) c2;have hroot:∀ x,S.RX (S.ab true gw sw F size) (S.ay C m).mv cnt n x->x∈at_:=fun x hx=>h.root x ((rx x).1 hx)
 obtain ⟨k1,k2,k3,k4,k5,k6⟩:=Zhf hI c1 hG2 hN hC';obtain ⟨⟨nu',hG3⟩,hr3⟩:=Zqi hI hG2 hroot k1;obtain ⟨nu2,hK⟩:=k1.keeps;exact ⟨c1,⟨k5,by rw [hC'];exact Zgr c1 _ _,k6,k4,⟨_,_,_,_,_,hG3⟩,hr3⟩,⟨l,nu2,by rw [k1.m2];exact hK⟩,k2,k3⟩
end
theorem Zuk {x:S.am}(hx:x.Ok){F:List Int}{H heap half:Int}(hI:∀ b,(S.ab b (S.aa x.ng) (S.aa x.ns) F (H+heap)).Ok)(hH:H=(S.ab true (S.aa x.ng) (S.aa x.ns) F (H+heap)).lab S.kEnd)(hhf:half=heap/2)(hheap:heap=1000)
 {m0:S.Mach} (hw:S.Wd (S.aa x.ng) (S.aa x.ns) F (H+heap) m0) (h2:m0.mv 2=H) (h3:m0.mv 3=H+half) (h4:m0.mv 4=half) (hfit:S.sizes (S.ac x.nodes)<=half) {g:S.Gr} (hgE:g=S.ah x.nodes H)
 {M:S.Mach} (hM:M=S.a8 x g ((S.ag g m0).setV 26 (H+S.sizes g.ns))) {C:S.Mach} (hC:C=S.aj (S.ab true (S.aa x.ng) (S.aa x.ns) F (H+heap)) M S.kCollect 200000) :
  S.Wd (S.aa x.ng) (S.aa x.ns) F (H+heap) M/\C.state=1/\C.place=(S.ab true (S.aa x.ng) (S.aa x.ns) F (H+heap)).lab S.kStub/\∃ n0,n0<=S.sizes g.ns/\S.df (S.aa x.ng) (S.aa x.ns) F (H+heap) g H ((x.pl g).map Prod.snd) ((x.pl g).map Prod.fst) half x.nr 2 n0 C:=by
 obtain ⟨hg,hz,hfit',hHl,hwd,hrd,hlaid,hin,hlow⟩:=Zjc hx hI hH hhf (by omega) hw h2 h3 h4 hfit hgE;obtain ⟨l1,l2,l3,l4,l5,l6,l7,l8,l9⟩:=Zb3 x;rw [<- hM] at hwd;obtain ⟨n0,l,re⟩:=Zls hg ((x.pl g).map Prod.snd);have hn0:=Zd6 hg re;obtain ⟨hG,hroot⟩:=Zu9 hx hI hH hhf (by omega) hw h2 h3 h4 hfit hgE (mem:=M.mv) (fun y y0 y7 y31 y102=>by rw [hM]) re;obtain ⟨k1,k2,k3,k4,k5,k6⟩:=Zhf hI hwd hG (N:=200000) (by rw [Zh,Zh];omega) hC;obtain ⟨⟨nu',hG3⟩,hr3⟩:=Zqi hI hG hroot k1;exact ⟨hwd,k2,k3,n0,hn0,k5,by rw [hC];exact Zgr hwd _ _,k6,k4,⟨_,_,_,_,_,hG3⟩,hr3⟩
end
end Go.Proofs.YtgdjocajlndonaaGreatDoor
