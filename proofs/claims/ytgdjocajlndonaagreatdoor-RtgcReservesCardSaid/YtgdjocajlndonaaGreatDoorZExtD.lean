/- Parts. -/
import Derived.Test.YtgdjocajlndonaaGreatDoorZGCll
import Derived.Test.YtgdjocajlndonaaGreatDoorZKCol
import Derived.JoinedOf
import Derived.JoinedCond
import Derived.KernelRfl
set_option linter.all false
set_option maxHeartbeats 40000000
open Array renaming getElem?_eq_some_iff->Ye
open List renaming range->Yo
open Bool renaming and_eq_true->Yr
namespace Go.Proofs.YtgdjocajlndonaaGreatDoor
section
open Go.RowKit
section
variable {wx w w':World}{lo b p gb:Nat}{F F':Nat->Prop}{H half:Int}{P:List (ByteArray×Int)}{g:S.Gr}{m m':S.Mach}{Aw Aa:Option Addr}{was at_:List Int}
theorem CSt.only (h:CSt wx lo b p gb F H half P g m Aw Aa was at_ w)(hk:KAt w' lo b p F H half P m')(ho:Only F w w'):CSt wx lo b p gb F H half P g m' Aw Aa was at_ w':=h.pass hk (.of_only ho)
end
end
section
set_option maxRecDepth 100000
theorem rtgcReserves_closed:joinedFacts Tryz.pinned.checked.prog 4 Tryz.f4 (OpenSpec.ofChange Rows.rtgcReservesSpec).bare Rows.rtgcReservesRow=true:=by
 unfold joinedFacts;simp only [Yr]
 (repeat' apply And.intro)
 all_goals (as_aux_lemma=>kernel_rfl)
end
section
open Go.RowKit
def S.de (x:S.am)(g:S.Gr)(m1:S.Mach)(n spare:Int):S.Mach:=((((S.a8 x g m1).putV 7 spare).setV 4 n).setV 2 77).setV 10 78
theorem Zdy:S.kReserve∈S.wTells:=Zur (by kernel_rfl)
section
variable {x:S.am}(hx:x.Ok){F:List Int}{H heap half:Int}(hI:∀ b,(S.ab b (S.aa x.ng) (S.aa x.ns) F (H+heap)).Ok)(hH:H=(S.ab true (S.aa x.ng) (S.aa x.ns) F (H+heap)).lab S.kEnd)(hhf:half=heap/2)(hh0:0<=heap/\heap<=1000)
 {m0:S.Mach} (hw:S.Wd (S.aa x.ng) (S.aa x.ns) F (H+heap) m0) (h2:m0.mv 2=H) (h3:m0.mv 3=H+half) (h4:m0.mv 4=half) (h27:m0.rd 27=H+half) (hfit:S.sizes (S.ac x.nodes)<=half) {g:S.Gr} (hgE:g=S.ah x.nodes H)
include hx hI hH hhf hh0 hw h2 h3 h4 h27 hfit hgE
theorem Zpj {n spare:Int}(hn:0<=n/\n<=600)(hs:0<=spare/\spare<=50){M:S.Mach}(hM:M=S.de x g ((S.ag g m0).setV 26 (H+S.sizes g.ns)) n spare){C:S.Mach}(hC:C=S.aj (S.ab true (S.aa x.ng) (S.aa x.ns) F (H+heap)) M S.kReserve 200000){n0:Int}{l:List Nat}(re:S.Reached g ((x.pl g).map Prod.snd) n0 l) :
 S.Wd (S.aa x.ng) (S.aa x.ns) F (H+heap) M/\C.state=1 /\
 (n+spare<=half-S.sizes g.ns->C.place=(S.ab true (S.aa x.ng) (S.aa x.ns) F (H+heap)).lab S.kStub/\C.rd 26=H+S.sizes g.ns/\C.mv 2=H) /\
 (half-S.sizes g.ns<n+spare->half-n0<n+spare->C.place≠(S.ab true (S.aa x.ng) (S.aa x.ns) F (H+heap)).lab S.kStub/\C.code=255) /\
 (half-S.sizes g.ns<n+spare->n+spare<=half-n0->C.place=(S.ab true (S.aa x.ng) (S.aa x.ns) F (H+heap)).lab S.kStub/\C.Ok/\(∃ nu,S.Keeps g ((x.pl g).map Prod.snd) (((x.pl g).map Prod.fst).map C.mv) C.mv (C.mv 2) half (C.rd 26) (C.rd 27) l nu)/\C.mv 2=H+half/\C.rd 27-C.rd 26=half-n0/\C.rd 2=77/\C.rd 10=78):=by
 obtain ⟨hg,hz,hfit',hHl,hwd,hrd,hlaid,hin,hlow⟩:=Zjc hx hI hH hhf hh0.1 hw h2 h3 h4 hfit hgE;obtain ⟨M1,hM1⟩:=Yx (S.a8 x g ((S.ag g m0).setV 26 (H+S.sizes g.ns)));obtain ⟨l1,l2,l3,l4,l5,l6,l7,l8,l9⟩:=Zb3 x;have he:=Zbp (hI true);rw [<- hH,Zh,Zh] at he;have hsz2:=(hI true).size2;have hszE:(S.ab true (S.aa x.ng) (S.aa x.ns) F (H+heap)).size=H+heap:=rfl;rw [hszE] at hsz2;have hsn:=Z7 g.ns;have nc:∀ y:Int,y<1312->¬ (S.ab true (S.aa x.ng) (S.aa x.ns) F (H+heap)).code y:=fun y hy hc=>by
  have:=(Ze9 (hI true)).1 hc;rw [Zh,Zh] at this;omega
 rw [<- hM1] at hwd hrd;have w1:=Zfk (hI true) hwd (i:=7) (v:=spare) ⟨by omega,by omega⟩ (nc 7 (by decide)) ⟨by omega,by omega⟩;have w2:=Zgl (hI true) w1 (i:=4) (v:=n) (by decide) (fun h=>absurd h (by decide)) ⟨by omega,by omega⟩;have w3:=Zgl (hI true) w2 (i:=2) (v:=77) (by decide) (fun h=>absurd h (by decide)) (by decide);have w4:=Zgl (hI true) w3 (i:=10) (v:=78) (by decide) (fun h=>absurd h (by decide)) (by decide);have hME:M=(((M1.putV 7 spare).setV 4 n).setV 2 77).setV 10 78:=by rw [hM,hM1];rfl
 have hmv:∀ y,0<=y->M.mv y=if y=7 then spare else M1.mv y:=fun y hy=>by
  rw [hME,Zcj (by decide) (by decide),Zcj (by decide) (by decide),Zcj (by decide) (by decide),Zbi (by decide) (by have:=hwd.len;omega) hy]
 have hMrd:∀ j,M.rd j=if j=10 then 78 else if j=2 then 77 else if j=4 then n else M1.rd j:=fun j=>by
  rw [hME,Zbu w3.ok (by decide) (by decide),Zbu w2.ok (by decide) (by decide),Zbu w1.ok (by decide) (by decide),Zex]
 rw [<- hME] at w4;have hn0:=Zd6 hg re;have hszg:S.sizes g.ns=S.sizes (S.ac x.nodes):=by rw [hgE];rfl
 obtain ⟨hG,hroot⟩:=Zu9 hx hI hH hhf hh0.1 hw h2 h3 h4 hfit hgE (mem:=M.mv) (fun y y0 y7 y31 y102=>by rw [hmv y y0,if_neg y7,hM1]) re;obtain ⟨st0,hst0⟩:=Yx (S.viewOf (M.setV 31 ((S.ab true (S.aa x.ng) (S.aa x.ns) F (H+heap)).lab S.kStub)));have hsm:st0.mem=M.mv:=by rw [hst0];exact Zh2 _ _
 have hsr:∀ j,j≠31->st0.reg j=M.rd j:=fun j hj=>by rw [hst0];exact Zlp w4.ok _ hj
 have e26:st0.reg 26=H+S.sizes g.ns:=by rw [hsr 26 (by decide),hMrd];exact (hrd 26)
 have e27:st0.reg 27=H+half:=by
  rw [hsr 27 (by decide),hMrd];have:=hrd 27;rw [if_neg (by decide)] at this;exact this.trans h27
 have hG0:=hG;rw [<- hsm] at hG;have hreal:∀ b,S.Real (S.ab b (S.aa x.ng) (S.aa x.ns) F (H+heap)) S.kReserve false st0 88 (fun _ o k=>S.b5 (S.ab b (S.aa x.ng) (S.aa x.ns) F (H+heap)) (S.an.cf g st0.mem g.adr (Yo g.ns.length) H (H+half) half) (S.an.T g st0.mem g.adr l) x.nr 2 (n+spare) st0 o k):=fun b=>by
  obtain ⟨iM,sM⟩:=Zh0 (gw:=S.aa x.ng) (sw:=S.aa x.ns) (F:=F) (size:=H+heap) b;obtain ⟨iS,sS⟩:=Zh1 (gw:=S.aa x.ng) (sw:=S.aa x.ns) (F:=F) (size:=H+heap) b;obtain ⟨iF,sF⟩:=Zgh (gw:=S.aa x.ng) (sw:=S.aa x.ns) (F:=F) (size:=H+heap) b;obtain ⟨iC,sC⟩:=Zd0 (gw:=S.aa x.ng) (sw:=S.aa x.ns) (F:=F) (size:=H+heap) b;obtain ⟨iR,sR⟩:=Zix (gw:=S.aa x.ng) (sw:=S.aa x.ns) (F:=F) (size:=H+heap) b;exact Zhj (hI b) (Zkg b hI hG) sM sS sF sC sR (Zlo b hI hG) (by rw [hsr 4 (by decide),hMrd];rfl) (by rw [hsm,hmv 7 (by decide)];rfl) ⟨by omega,by omega,by omega⟩ (by rw [e26,e27];omega)
 have hlab:∀ b,(S.ab b (S.aa x.ng) (S.aa x.ns) F (H+heap)).lab S.kCode=1312+x.ng+x.ns:=fun b=>by
  have:=(Zt (hI b)).2.1;rw [Zh,Zh] at this;exact this
 have hhfE:(S.an.cf g st0.mem g.adr (Yo g.ns.length) H (H+half) half).hf=half:=rfl;have tot:∀ (b:Bool) (ρ:List S.Ob) (st':S.Vw),S.Cd (S.an.cf g st0.mem g.adr (Yo g.ns.length) H (H+half) half) (S.an.T g st0.mem g.adr l) (S.RX (S.ab b (S.aa x.ng) (S.aa x.ns) F (H+heap)) st0.mem x.nr 2) st0 ρ st'->S.tot ρ=n0:=fun b ρ st' hd=>by
  obtain ⟨_,_,ht⟩:=Zer b hI hG hd;exact ht
 have out:∀ (b:Bool) (o:S.BO) (k:Nat),S.b5 (S.ab b (S.aa x.ng) (S.aa x.ns) F (H+heap)) (S.an.cf g st0.mem g.adr (Yo g.ns.length) H (H+half) half) (S.an.T g st0.mem g.adr l) x.nr 2 (n+spare) st0 o k->k<=190000 /\
  ((n+spare<=half-S.sizes g.ns/\o=.ret st0)\/(half-S.sizes g.ns<n+spare/\∃ st' ρ,S.Cd (S.an.cf g st0.mem g.adr (Yo g.ns.length) H (H+half) half) (S.an.T g st0.mem g.adr l) (S.RX (S.ab b (S.aa x.ng) (S.aa x.ns) F (H+heap)) st0.mem x.nr 2) st0 ρ st'/\((n+spare<=half-n0/\o=.ret st')\/(half-n0<n+spare/\o=.halt 255 st')))):=fun b o k hR=>by
  rcases hR with ⟨r1,r2,r3⟩ | ⟨r1,st',ρ,hd,hout,hk⟩
  ·rw [e26,e27] at r1
   exact ⟨by omega,.inl ⟨by omega,r2⟩⟩
  ·rw [e26,e27] at r1
   have ht:=tot b ρ st' hd;rw [hhfE,ht] at hout;rw [hlab b,ht] at hk;exact ⟨by omega,.inr ⟨by omega,st',ρ,hd,hout⟩⟩
 by_cases hA:n+spare<=half-S.sizes g.ns
 ·obtain ⟨st',rfl,hs,q1,q2,_⟩:=Zdd hI w4 Zdy (d:=88) (by decide) (by rw [<- hst0];exact hreal true) (N:=200000) (P:=fun st'=>st'=st0) fun ret o k hR=>by
   obtain ⟨hk,ho⟩:=out true o k hR;rcases ho with ⟨_,rfl⟩ | ⟨h,_⟩
   ·exact ⟨st0,.inl rfl,by omega,rfl⟩
   ·omega
  rw [<- hC] at hs q1 q2;refine ⟨w4,q1,fun _=>⟨q2,by rw [hs.reg 26 (by decide)];exact e26,?_⟩,fun h=>by omega,fun h=>by omega⟩;have:=hs.mem 2 (by decide) (by show (2:Int)<H+heap;omega) (fun q=>by have:=q.1;have h9:(S.ab true (S.aa x.ng) (S.aa x.ns) F (H+heap)).lo=1056:=rfl;omega);rw [this];exact hG.m2
 ·by_cases hB:half-n0<n+spare
  ·obtain ⟨q1,q2,q3⟩:=Zni hI w4 Zdy (d:=88) (by decide) (by rw [<- hst0];exact hreal true) (by rw [<- hst0];exact hreal false) (N:=200000) (c:=255) (fun ret o k hR=>by
    obtain ⟨hk,ho⟩:=out true o k hR;rcases ho with ⟨h,_⟩ | ⟨_,st',ρ,_,⟨h,_⟩ | ⟨_,rfl⟩⟩
    ·omega
    ·omega
    ·exact ⟨st',rfl,by omega⟩) (fun ret o k hR=>by
    obtain ⟨hk,ho⟩:=out false o k hR;rcases ho with ⟨h,_⟩ | ⟨_,st',ρ,_,⟨h,_⟩ | ⟨_,rfl⟩⟩
    ·omega
    ·omega
    ·exact ⟨255,st',rfl,by omega⟩)
   rw [<- hC] at q1 q2 q3;exact ⟨w4,q1,fun h=>absurd h hA,fun _ _=>⟨q3,q2⟩,fun _ h=>by omega⟩
  ·obtain ⟨st',⟨ρ,hd⟩,hs,q1,q2,_⟩:=Zdd hI w4 Zdy (d:=88) (by decide) (by rw [<- hst0];exact hreal true) (N:=200000) (P:=fun st'=>∃ ρ,S.Cd (S.an.cf g st0.mem g.adr (Yo g.ns.length) H (H+half) half) (S.an.T g st0.mem g.adr l) (S.RX (S.ab true (S.aa x.ng) (S.aa x.ns) F (H+heap)) st0.mem x.nr 2) st0 ρ st') fun ret o k hR=>by
    obtain ⟨hk,ho⟩:=out true o k hR;rcases ho with ⟨h,_⟩ | ⟨_,st',ρ,hd,⟨_,rfl⟩ | ⟨h,_⟩⟩
    ·omega
    ·exact ⟨st',.inl rfl,by omega,ρ,hd⟩
    ·omega
   rw [<- hC] at hs q1 q2;rw [hsm] at hd;obtain ⟨hK,ht⟩:=Zpn hI w4.ok hG0 hst0 (st:=st0) hsm (fun _ _ _=>rfl) hd hs;obtain ⟨nu,hKp⟩:=hK.keeps;have hs26:=hKp.size n0 l re;have hs27:=hKp.r27;refine ⟨w4,q1,fun h=>absurd h hA,fun _ h=>absurd h hB,fun _ _=>⟨q2,hs.ok,⟨nu,by rw [hK.m2];exact hKp⟩,hK.m2,by omega,?_,?_⟩⟩
   ·rw [hK.reg 2 (by decide) (by decide) (by decide) (by decide) (by decide) (by decide),hMrd];rfl
   ·rw [hK.reg 10 (by decide) (by decide) (by decide) (by decide) (by decide) (by decide),hMrd];rfl
end
end
section
open Go.RowKit
section
variable {P:Program}{ops:Array Oper}{md:Region.Mode}{C:World->Prop}
def Zpk (md:Region.Mode)(ops:Array Oper)(listed:Array Bool):Bool :=
 decide (listed.size=ops.size) && (Yo ops.size).all fun j=>!listed.getD j false || match ops[j]? with
  | none=>true
  | some o=>o.after.all fun e=>!Region.binds md e || listed.getD e.on false
theorem Zry {listed:Array Bool}(h:Zpk md ops listed=true):HeadInv md ops ops.size listed:=by
 simp only [Zpk,Yr,decide_eq_true_eq] at h;refine ⟨h.1,fun j oj hoj hl e he hb=>?_,fun t h1 h2=>absurd h2 (Nat.not_lt.2 h1)⟩;have h1:=List.all_eq_true.1 h.2 j (List.mem_range.2 (Ye.1 hoj).1);rw [hl,hoj] at h1;simp only [Bool.not_true,Bool.false_or] at h1;have h2:=(Array.all_eq_true'.1 h1) e he;rw [hb] at h2
 simpa using h2
theorem Zui:Zxl md ops ops.size:=fun listed _ i _ _ t ht hr=>by
 obtain ⟨_,ot,hot,_⟩:=mem_ready.1 hr;have:=(Ye.1 hot).1;omega
end
theorem Zrz {P:Program}{Q:Exit->Act->World->Prop}{a:Act}{w:World}{l:List Oper}(k:Nat)(Lf:Array Bool){f:Nat}{listed:Array Bool}
 (hB:(Region.noSelect l.toArray && decide (k+f=l.toArray.size) && Zpk .any l.toArray listed && Z2m .any l.toArray l.toArray.size f k listed && decide (Zqy f k listed=Lf) && (Region.ready .any l.toArray Lf).isEmpty)=true)
 (h:wpQuiet P l.toArray (fun w'=>∃ x:Ext w,w'=x.val) (fun a'=>∀ w',(∃ x:Ext w,w'=x.val)->Q .normal a' w') (l.drop k) a):wpAny P .any l.toArray Q f listed a w:=by
 simp only [Yr,decide_eq_true_eq] at hB;obtain ⟨⟨⟨⟨⟨hsel,hk⟩,hc⟩,hlex⟩,hE⟩,hd⟩:=hB;have hd':Region.ready .any l.toArray Lf=[]:=List.isEmpty_iff.1 hd;have hk':k+f=l.length:=by simpa using hk
 have htl:(l.drop k).length=f:=by simp;omega
 have H:=Zeo (md:=.any) hsel Zui (Nat.le_refl _) Lf (fun j hj=>by rw [hd'] at hj;cases hj) (l.drop k) k listed a (fun j hj=>by simp) (by rw [htl];exact hk) (Zry hc) (by rw [htl];exact hE) (by rw [htl];exact hlex) h;have h2:=Zbl (Q':=Q) (g:=0) (fun listed a' w' hw' hL=>⟨by rw [hL.1];exact hd',hL.2 w' hw'⟩) _ _ _ _ (⟨⟨w,Below.refl _ _⟩,rfl⟩:∃ x:Ext w,w=x.val) H;rw [htl] at h2;exact h2
end
end Go.Proofs.YtgdjocajlndonaaGreatDoor
