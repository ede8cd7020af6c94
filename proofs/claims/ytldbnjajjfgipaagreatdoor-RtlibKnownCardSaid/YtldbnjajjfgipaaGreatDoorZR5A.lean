/- Parts. -/
import Derived.Test.YtldbnjajjfgipaaGreatDoorZVSpec
import Derived.Test.YtldbnjajjfgipaaGreatDoorZGWld
import Derived.BigQuiet
set_option linter.all false
set_option maxHeartbeats 2000000
open Go.Lib renaming hid->Ya
open Nat renaming le_refl->Yd,zero_le->Ya2
open List renaming getElem?_eq_getElem->Ye,getD_eq_getElem?_getD->Yh
open Go.RowKit.Below renaming refl->Yj
open Go.IntWalk renaming i64_in->Yp
namespace Go.Proofs.YtldbnjajjfgipaaGreatDoor
open S Go.Proofs.Tryz Go.RowKit
set_option maxRecDepth 100000
section
namespace S
structure VSegs (I:Img):Prop where
 ok:I.Ok
 is:∃i,Seg I kIs i (bItems vIs)
 int:∃i,Seg I kIsInt i (bItems vIsInt)
 ix:∃i,Seg I kIndex i (bItems vIndex)
 alike:∃i,Seg I Zt5 i (bItems vAlike)
 rsv:∃i,Seg I kReserve i (bItems rReserve)
 cons:∃i,Seg I kCons i (bItems rCons)
def BackV (x:Int)(out:List Int)(o:BO)(k:Nat):Prop:=k<=3000/\∃st',o=.ret st'/\st'.reg 4=x/\st'.out=out
def EndV (c:Int)(o:BO)(k:Nat):Prop:=k<=3000/\∃st',o=.halt c st'
structure HdAt (I:Img)(mem:Int->Int)(p typ n:Int):Prop where
 tyb:0<=typ/\typ<8
 few:0<=n/\n<=100000000
 dat:∀j:Nat,(j:Int)<=n->Dat I (p+j)
 hd:mem p=32*n+4*typ+3
end S
theorem chk_v:chkB S.vIs=0/\chkB S.vIsInt=0/\chkB S.vIndex=0/\chkB S.vAlike=0:=⟨by kernel_rfl,by kernel_rfl,by kernel_rfl,by kernel_rfl⟩
section
variable {I:S.Img}(hV:S.VSegs I)
include hV
theorem Zwf {st:Vw}{p typ t n:Int}(h:S.HdAt I st.mem p typ n)(ht:0<=t/\t<8):Tells I S.kIs st [4*p+1,vHd t 0%4294967296] 17 (if typ=t then 1 else 0) 80:=by
 obtain⟨i,hi⟩:=hV.is;refine Zj9 hV.ok S.vIs chk_v.1 hi (dep:=0) (by decide) rfl rfl λ lk env s1 hl hp hs1 Q=>?_
 obtain⟨e0,e1,rfl⟩:=Zkn hl;have h0:e0=4*p+1:=hp 0 (show 0<2 by decide);have h1:e1=vHd t 0%4294967296:=hp 1 (show 1<2 by decide);subst h0 h1;have hm:s1.mem=st.mem:=hs1.mem;have hsz:=hV.ok.size2;have hd0:=h.dat 0 (by have:=h.few;omega);rw[show p+((0:Nat):Int)=p by omega] at hd0;have b0:=hd0.1;have b1:=hd0.2.1;have hl0:Yl I 0 lk [4*p+1,vHd t 0%4294967296] s1 (eL 0) (4*p+1) 1:=Zia 0;have hl1:Yl I 0 lk [4*p+1,vHd t 0%4294967296] s1 (eL 1) (vHd t 0%4294967296) 1:=Zia 1;have ht1:=h.tyb;have hn:=h.few
 show WS I 0 lk false [sWhen (eNot (eQ (eAnd (eL 0) (eC 3)) (eC 1))) [S.sVal (eC 0)],S.sVal (eQ (eAnd (eM (eAdr (eL 0)) 0) (eC 31)) (eL 1))] [4*p+1,vHd t 0%4294967296] s1 8 _ _
 have y0:=(Zc8 (op:=7) (by decide) hl0 (Za7 3)).to_ (y:=1) (by rw[Z2u (by omega) (by omega)];omega) (Yd _);refine Zbw ((Zuk (Zuk y0 (Za7 1)) (Za7 0)).to_ (y:=0) rfl (Yd _)) (by decide) (λ _=>?_) λ h=>absurd rfl h
 have hp0:u32m (p+0)=p:=by unfold u32m;omega
 have y1:=Z1a (n:=0) (Zrg hl0) hp0 (Zky hd0);rw[hm,h.hd] at y1;have y2:=(Zuk (Zc8 (op:=7) (by decide) y1 (Za7 31)) hl1).to_ (y:=if typ=t then 1 else 0) (by
  rw[Z2v (by omega) (by omega)];have e:vHd t 0%4294967296=4*t+3:=by unfold vHd;omega
  rw[e];by_cases c:typ=t
  .rw[if_pos c,if_pos (by omega)]
  .rw[if_neg c,if_neg (by omega)]) (Yd _)
 exact Zst y2 (by decide) hs1 (by omega)
theorem Znm {st:Vw}{v:Int}(hv:0<=v/\v<4294967296)(h:v%4=0):Tells I S.kIsInt st [v] 33 1 60:=by
 obtain⟨i,hi⟩:=hV.int;refine Zj9 hV.ok S.vIsInt chk_v.2.1 hi (dep:=17) (by decide) rfl rfl λ lk env s1 hl hp hs1 Q=>?_
 obtain⟨e0,rfl⟩:=Zk3 hl;have h0:e0=v:=hp 0 (show 0<1 by decide);subst h0;have hl0:Yl I 17 lk [e0] s1 (eL 0) e0 1:=Zia 0
 show WS I 17 lk false [sWhen (eNot (eAnd (eL 0) (eC 3))) [S.sVal (eC 1)],S.sVal (eF S.kIs [eL 0,eC (vHd 7 0)])] [e0] s1 8 _ _
 have y0:=Zc8 (op:=7) (by decide) hl0 (Za7 3);rw[Z2u hv.1 hv.2,h] at y0;exact Zbw ((Zuk y0 (Za7 0)).to_ (y:=1) rfl (Yd _)) (by decide) (λ h=>by cases h) λ _=>Zst (Za7 1) (by decide) hs1 (by decide)
theorem Zop {st:Vw}{i:Int}(hv:0<=i/\i<536870912):Tells I S.kIndex st [4*i] 16 i 60:=by
 obtain⟨j,hj⟩:=hV.ix;refine Zj9 hV.ok S.vIndex chk_v.2.2.1 hj (dep:=0) (by decide) rfl rfl λ lk env s1 hl hp hs1 Q=>?_
 obtain⟨e0,rfl⟩:=Zk3 hl;have h0:e0=4*i:=hp 0 (show 0<1 by decide);subst h0;have hl0:Yl I 0 lk [4*i] s1 (eL 0) (4*i) 1:=Zia 0
 show WS I 0 lk false [sWhen (eAnd (eL 0) (eC 3)) [S.sVal (eC (-1))],S.sVal (eB 12 (eL 0) (eC 2))] [4*i] s1 8 _ _
 have y0:=Zc8 (op:=7) (by decide) hl0 (Za7 3);rw[Z2u (by omega) (by omega),show 4*i%4=0 by omega] at y0;refine Zbw y0 (by decide) (λ _=>?_) λ h=>absurd rfl h
 have y1:=(Zc8 (op:=12) (by decide) hl0 (Za7 2)).to_ (y:=i) (by
  show u32m (sgn (4*i)/4)=i
  unfold sgn u32m
  split <;> omega) (Yd _)
 exact Zst y1 (by decide) hs1 (by decide)
end
section
variable {I:S.Img}(hV:S.VSegs I){dep lk:Int}{behind:Bool}{env:List Int}{st:Vw}{C:Nat}{Q:List Int->Vw->Nat->Prop}{R:S.BO->Nat->Prop}
theorem Z1p {e:BE}{r:List BS}{x:Int}{K:Nat}(he:Yl I dep lk env st e x K)(hd:dE e<=20)(h:WS I dep lk behind r env { st with out:=st.out++[x%256] } (C+K+1) Q R):WS I dep lk behind (sOut e::r) env st C Q R:=λ st1 c hs hc=>by
 rw[Zdd,Zy1];refine he 0 st1 c _ _ (by omega) hs λ st2 c2 h2 hc2=>h _ (c2+1) ⟨h2.mem,h2.reg,h2.inp,?_⟩ (by omega)
 show st2.out++_=st.out++_
 rw[h2.out]
theorem Z3k {n:Int}{r:List BS}(h:WS I dep lk behind r (env.set n.toNat (inByte st.inp)) { st with inp:=st.inp.tail } (C+2) Q R):WS I dep lk behind (sAs n eI::r) env st C Q R:=λ st1 c hs hc=>by
 rw[Zdd,Zxm,Z3i,hs.inp];exact h _ (c+1+1) ⟨hs.mem,hs.reg,rfl,hs.out⟩ (by omega)
include hV
theorem Zcf {e:BE}{v:Int}{K:Nat}{r:List BS}(hdep:33<=dep)(he:Yl I dep lk env st e v K)(hde:dE e<=15)(hv:0<=v/\v<4294967296)(h4:v%4=0)(h:WS I dep lk behind r env st (C+K+130) Q R):WS I dep lk behind (vInteger e::r) env st C Q R:=by
 have y:=Z2h (dep:=dep) (lk:=lk) (env:=env) (Zdn he Zhe) (by simp) (Znm hV (st:=st) hv h4) hdep;exact Zbw ((Zuk y (Za7 0)).to_ (y:=0) rfl (Yd _)) (by simp only[eNot,eQ,eF,eC,dE,dEs];omega) (λ _=>h.more (by omega)) λ h=>absurd rfl h
theorem Zde {e b:BE}{i n:Int}{K L:Nat}{r:List BS}(hdep:16<=dep)(he:Yl I dep lk env st e (4*i) K)(hde:dE e<=15)(hb:Yl I dep lk env st b n L)(hdb:dE b<=15)(hv:0<=i/\i<536870912)(h1:i<n->WS I dep lk behind r env st (C+K+L+130) Q R)(h0:¬i<n->∀st2 c2,Sim st st2->c2<=C+K+L+130->R (.halt 3 st2) c2):WS I dep lk behind (vWithin e b::r) env st C Q R:=by
 have y:=Zc8 (op:=14) (by decide) (Z2h (dep:=dep) (lk:=lk) (env:=env) (Zdn he Zhe) (by simp) (Zop hV (st:=st) hv) hdep) hb;rw[Zxz] at y;refine Zbw (Zuk y (Za7 0)) (by simp only[eNot,eQ,eLt,eB,eF,eC,dE,dEs];omega) (λ h=>?_) (λ h=>?_)
 .refine(h1 ?_).more (by omega)
  refine Y_c λ c=>?_
  rw[if_neg c] at h
  cases h
 .refine Zsr (Za7 3) (by decide) λ st2 c2 h2 hc2=>h0 ?_ st2 c2 h2 (by omega)
  intro c;rw[if_pos c] at h;exact h rfl
theorem Ztl {e:BE}{p typ n t:Int}{K:Nat}{r:List BS}(hdep:17<=dep)(he:Yl I dep lk env st e (4*p+1) K)(hde:dE e<=15)(hh:S.HdAt I st.mem p typ n)(ht:0<=t/\t<8)(hty:typ=t)(h:WS I dep lk behind r env st (C+K+150) Q R):WS I dep lk behind (vObject e t::r) env st C Q R:=by
 have y:=Z2h (dep:=dep) (lk:=lk) (env:=env) (Zdn he (Zdn (Za7 (vHd t 0)) Zhe)) (by simp) (Zwf hV (st:=st) hh ht) hdep;rw[if_pos hty] at y;exact Zbw ((Zuk y (Za7 0)).to_ (y:=0) rfl (Yd _)) (by simp only[eNot,eQ,eF,eC,dE,dEs];omega) (λ _=>h.more (by omega)) λ h=>absurd rfl h
end
section
variable {I:S.Img}(hV:S.VSegs I)
include hV
theorem Ztm {i0:Nat}(hs:S.Seg I (kRt 21) i0 (S.bItems (vRefs 21 4))){st:Vw}{ret p i n:Int}(h4:st.reg 4=4*p+1)(h5:st.reg 5=4*i)(hi:0<=i/\i<536870912)(hh:S.HdAt I st.mem p 4 n) :
 aj I (kRt 21) true st 57 ret (λ o k=>if i<n then S.BackV (st.mem (p+1+i)) st.out o k else S.EndV 3 o k):=by
 refine Zax hV.ok (vRefs 21 4) (by kernel_rfl) hs (dep:=40) (by decide) st ret _ λ env hl hp=>?_
 obtain⟨e0,e1,rfl⟩:=Zkn hl;have h0:e0=4*p+1:=(hp 0 (show(0:Int)<2 by decide)).trans h4;have h1:e1=4*i:=(hp 1 (show(1:Int)<2 by decide)).trans h5;subst h0 h1;have hsz:=hV.ok.size2;have hn:=hh.few;have hd0:=hh.dat 0 (by omega);rw[show p+((0:Nat):Int)=p by omega] at hd0;have b0:=hd0.1;have b1:=hd0.2.1;have l0:Yl I 40 ret [4*p+1,4*i] st (eL 0) (4*p+1) 1:=Zia 0;have l1:Yl I 40 ret [4*p+1,4*i] st (eL 1) (4*i) 1:=Zia 1
 show WS I 40 ret true [vObject (eL 0) 4,vInteger (eL 1),vWithin (eL 1) (vLen (eL 0)),S.sVal (eM (vPlace (eL 0) (eL 1)) 1)] [4*p+1,4*i] st 8 _ _
 refine Ztl hV (by decide) l0 (by decide) hh (by decide) rfl ?_;refine Zcf hV (by decide) l1 (by decide) (by omega) (by omega) ?_;have yl:=Z1a (n:=0) (Zrg l0) (p:=p) (by unfold u32m;omega) (Zky hd0);rw[hh.hd] at yl;have yn:=(Zc8 (op:=11) (by decide) yl (Za7 5)).to_ (y:=n) (by rw[Z39];omega) (Yd _);refine Zde hV (by decide) l1 (by decide) yn (by decide) hi (λ hlt=>?_) (λ hge st2 c2 h2 hc2=>?_)
 .have hdi:=hh.dat (i+1).toNat (by omega)
  rw[show p+(((i+1).toNat:Nat):Int)=p+1+i by omega] at hdi;have q0:=hdi.1;have q1:=hdi.2.1;have yp:=(Zc8 (op:=1) (by decide) (Zrg l0) ((Zc8 (op:=11) (by decide) l1 (Za7 2)).to_ (y:=i) (by rw[Z2d];omega) (Yd _))).to_ (y:=p+i) (by rw[Zxy];unfold u32m;omega) (Yd _);have ym:=Z1a (n:=1) yp (p:=p+1+i) (by unfold u32m;omega) (Zky hdi);refine Zi4 ym (by decide) λ st2 c2 h2 hc2=>?_
  rw[if_pos hlt];exact⟨by omega,_,rfl,Zh _ _ _,h2.out⟩
 .rw[if_neg hge]
  exact⟨by omega,st2,rfl⟩
theorem Zl6 {i0:Nat}(hs:S.Seg I (kRt 16) i0 (S.bItems (vPrim 16 1 1 [vChar (eL 0),S.sVal (eShl (eShr (eL 0) 4) 2)]))){st:Vw}{ret:Int}(h4:st.reg 4=4) :
 aj I (kRt 16) true st 56 ret (S.EndV 2):=by
 refine Zax hV.ok (vPrim 16 1 1 [vChar (eL 0),S.sVal (eShl (eShr (eL 0) 4) 2)]) (by kernel_rfl) hs (dep:=40) (by decide) st ret _ λ env hl hp=>?_
 obtain⟨e0,rfl⟩:=Zk3 hl;have h0:e0=4:=(hp 0 (show(0:Int)<1 by decide)).trans h4;subst h0
 show WS I 40 ret true [vChar (eL 0),S.sVal (eShl (eShr (eL 0) 4) 2)] [4] st 8 _ _
 have y:Yl I 40 ret [4] st (eNot (vIsChar (eL 0))) 1 _:=(Zuk (Zuk (Zc8 (op:=7) (by decide) (Zia 0) (Za7 15)) (Za7 2)) (Za7 0)).to_ (by decide) (Yd _);exact Zbw y (by decide) (λ h=>by cases h) λ _=>Zsr (Za7 2) (by decide) λ st2 c2 h2 hc2=>⟨by omega,st2,rfl⟩
def S.an:BR:=vPrim 17 1 1 [vInteger (eL 0),vWithin (eL 0) (eC 1114112),
 sWhen (eLt (eSub (eF S.kIndex [eL 0]) (eC 55296)) (eC 2048)) [sHlt (eC 3)],
 S.sVal (eB 8 (eShl (eShr (eL 0) 2) 4) (eC 2))]
theorem Zl7 {i0:Nat}(hs:S.Seg I (kRt 17) i0 (S.bItems an)){st:Vw}{ret:Int}(h4:st.reg 4=260) :
 aj I (kRt 17) true st 56 ret (S.BackV 1042 st.out):=by
 refine Zax hV.ok an (by kernel_rfl) hs (dep:=40) (by decide) st ret _ λ env hl hp=>?_
 obtain⟨e0,rfl⟩:=Zk3 hl;have h0:e0=4*65:=(hp 0 (show(0:Int)<1 by decide)).trans h4;subst h0;have l0:Yl I 40 ret [4*65] st (eL 0) (4*65) 1:=Zia 0
 show WS I 40 ret true [vInteger (eL 0),vWithin (eL 0) (eC 1114112),
  sWhen (eLt (eSub (eF S.kIndex [eL 0]) (eC 55296)) (eC 2048)) [sHlt (eC 3)],
  S.sVal (eB 8 (eShl (eShr (eL 0) 2) 4) (eC 2))] [4*65] st 8 _ _
 refine Zcf hV (by decide) l0 (by decide) (by decide) (by decide) ?_;refine Zde hV (by decide) l0 (by decide) (Za7 1114112) (by decide) (by decide) (λ hlt=>?_) (λ hge=>absurd (by decide) hge);have y:=Z2h (dep:=40) (lk:=ret) (Zdn l0 Zhe) (by simp) (Zop hV (st:=st) (i:=65) (by decide)) (by decide);refine Zbw (x:=0) ((Zc8 (op:=14) (by decide) (Zc8 (op:=2) (by decide) y (Za7 55296)) (Za7 2048)).to_ (by decide) (Yd _)) (by decide) (λ _=>?_) λ h=>absurd rfl h
 refine Zi4 (x:=1042) ((Zc8 (op:=8) (by decide) (Zc8 (op:=10) (by decide) (Zc8 (op:=11) (by decide) l0 (Za7 2)) (Za7 4)) (Za7 2)).to_ (by decide) (Yd _)) (by decide) λ st2 c2 h2 hc2=>?_
 exact⟨by omega,_,rfl,Zh _ _ _,h2.out⟩
def S.be:BR:=vPrim 37 0 1 [sAs 0 eI,sWhen (eQ (eL 0) (eC (-1))) [S.sVal (eC 54)],S.sVal (eShl (eL 0) 2)]
theorem Ztn {i0:Nat}(hs:S.Seg I (kRt 37) i0 (S.bItems be)){st:Vw}{ret:Int}(hin:st.inp=[9]) :
 aj I (kRt 37) true st 56 ret (S.BackV 36 st.out):=by
 refine Zax hV.ok be (by kernel_rfl) hs (dep:=40) (by decide) st ret _ λ env hl hp=>?_
 obtain⟨e0,rfl⟩:=Zk3 hl
 show WS I 40 ret true [sAs 0 eI,sWhen (eQ (eL 0) (eC (-1))) [S.sVal (eC 54)],S.sVal (eShl (eL 0) 2)] [e0] st 8 _ _
 refine Z3k ?_;have e:inByte st.inp=9:=by rw[hin];rfl
 rw[e]
 show WS I 40 ret true [sWhen (eQ (eL 0) (eC (-1))) [S.sVal (eC 54)],S.sVal (eShl (eL 0) 2)] [9] _ _ _ _
 refine Zbw (x:=0) ((Zuk (Zia 0) (Za7 (-1))).to_ (by decide) (Yd _)) (by decide) (λ _=>?_) λ h=>absurd rfl h
 refine Zi4 (x:=36) ((Zc8 (op:=10) (by decide) (Zia 0) (Za7 2)).to_ (by decide) (Yd _)) (by decide) λ st2 c2 h2 hc2=>?_
 exact⟨by omega,_,rfl,Zh _ _ _,h2.out⟩
def S.au:BR:=vPrim 38 1 1 [vInteger (eL 0),vWithin (eL 0) (eC 256),sOut (eShr (eL 0) 2),vNone]
theorem Zp8 {i0:Nat}(hs:S.Seg I (kRt 38) i0 (S.bItems au)){st:Vw}{ret:Int}(h4:st.reg 4=800) :
 aj I (kRt 38) true st 56 ret (S.BackV 70 (st.out++[200])):=by
 refine Zax hV.ok au (by kernel_rfl) hs (dep:=40) (by decide) st ret _ λ env hl hp=>?_
 obtain⟨e0,rfl⟩:=Zk3 hl;have h0:e0=4*200:=(hp 0 (show(0:Int)<1 by decide)).trans h4;subst h0;have l0:Yl I 40 ret [4*200] st (eL 0) (4*200) 1:=Zia 0
 show WS I 40 ret true [vInteger (eL 0),vWithin (eL 0) (eC 256),sOut (eShr (eL 0) 2),S.sVal (eC 70)] [4*200] st 8 _ _
 refine Zcf hV (by decide) l0 (by decide) (by decide) (by decide) ?_;refine Zde hV (by decide) l0 (by decide) (Za7 256) (by decide) (by decide) (λ hlt=>?_) (λ hge=>absurd (by decide) hge);refine Z1p (x:=200) ((Zc8 (op:=11) (by decide) l0 (Za7 2)).to_ (by decide) (Yd _)) (by decide) ?_;refine Zi4 (Za7 70) (by decide) λ st2 c2 h2 hc2=>?_
 exact⟨by omega,_,rfl,Zh _ _ _,h2.out⟩
def S.bf:BR:=vPrim 39 1 1 [vInteger (eL 0),vWithin (eL 0) (eC 101),sHlt (eShr (eL 0) 2)]
theorem Zto {i0:Nat}(hs:S.Seg I (kRt 39) i0 (S.bItems bf)){st:Vw}{ret:Int}(h4:st.reg 4=28) :
 aj I (kRt 39) true st 56 ret (S.EndV 7):=by
 refine Zax hV.ok bf (by kernel_rfl) hs (dep:=40) (by decide) st ret _ λ env hl hp=>?_
 obtain⟨e0,rfl⟩:=Zk3 hl;have h0:e0=4*7:=(hp 0 (show(0:Int)<1 by decide)).trans h4;subst h0;have l0:Yl I 40 ret [4*7] st (eL 0) (4*7) 1:=Zia 0
 show WS I 40 ret true [vInteger (eL 0),vWithin (eL 0) (eC 101),sHlt (eShr (eL 0) 2)] [4*7] st 8 _ _
 refine Zcf hV (by decide) l0 (by decide) (by decide) (by decide) ?_;refine Zde hV (by decide) l0 (by decide) (Za7 101) (by decide) (by decide) (λ hlt=>?_) (λ hge=>absurd (by decide) hge);exact Zsr (x:=7) ((Zc8 (op:=11) (by decide) l0 (Za7 2)).to_ (by decide) (Yd _)) (by decide) λ st2 c2 h2 hc2=>⟨by omega,st2,rfl⟩
end
end
section
structure S.bu (I:S.Img)(st:Vw)(H w:Int):Prop where
 low:∀x,0<=x->x<1056->S.Dat I x
 r26:st.reg 26=H
 r27:H+w<=st.reg 27
 top:st.reg 27<4294967296
 H0:1312<=H
 m7:st.mem 7=0
 dat:∀a,H<=a->a<H+w->S.Dat I a
theorem Z3l (x:Int):alu 10 x (5%4294967296)=u32m (x*32):=rfl
theorem or7 {n:Nat}(h:n<=1000):alu 8 (u32m ((n:Int)*32)) (vHd 1 0%4294967296)=32*n+7:=by
 have e:u32m ((n:Int)*32)=32*(n:Int):=by unfold u32m;omega
 rw[e];exact Zv 5 (32*(n:Int)) 7 32 (by decide) (by omega) (by omega) (by omega) (by omega) (by omega) (by omega)
theorem Zcg (st:Vw)(p x a:Int):(st.sto p x).mem a=if a=p then x else st.mem a:=rfl
def S.Vw.fillV (s:Vw)(H x:Int):Nat->Vw
 | 0=>s
 | n+1=>(s.fillV H x n).sto (H+(n+1)) x
theorem Zl8 (s:Vw)(H x:Int):∀n:Nat,(s.fillV H x n).reg=s.reg
 | 0=>rfl
 | n+1=>Zl8 s H x n
theorem Zhv (s:Vw)(H x a:Int):∀n:Nat,(s.fillV H x n).mem a=if H<a/\a<=H+n then x else s.mem a
 | 0=>by
  rw[if_neg (by omega)];rfl
 | n+1=>by
  show(if a=H+(n+1) then x else(s.fillV H x n).mem a)=_
  rw[Zhv s H x a n];by_cases c:a=H+(n+1)
  .rw[if_pos c,if_pos (by omega)]
  .rw[if_neg c]
   by_cases d:H<a/\a<=H+n
   .rw[if_pos d,if_pos (by omega)]
   .rw[if_neg d,if_neg (by omega)]
theorem Zwg:chkB S.rReserve=0:=by kernel_rfl
section
variable {I:S.Img}(hV:S.VSegs I)
include hV
theorem Ztp {st:Vw}{need:Int}(h4:st.reg 4=need)(hn:0<=need)(h7:st.mem 7=0)(hl:S.Dat I 7)(h26:0<=st.reg 26/\st.reg 26+need<=st.reg 27/\st.reg 27<4294967296) :
 Real I S.kReserve false st 16 (λ _ o k=>∃st',o=.ret st'/\Sim st st'/\k<=60):=by
 obtain⟨iR,hR⟩:=hV.rsv;have key:=Zss hV.ok S.rReserve Zwg hR (dep:=0) (by decide) st (λ o k=>∃st',o=.ret st'/\Sim st st'/\k<=60) λ lk env hl' hp=>?_
 .exact key
 obtain⟨e0,rfl⟩:=Zk3 hl';have h0:e0=need:=(hp 0 (show(0:Int)<1 by decide)).trans h4;subst h0
 show WS I 0 lk false [sAs 0 (eAdd (eL 0) (eW 7)),sWhen eShort [sDo (eF kCollect []),sWhen eShort [sHlt (eC 255)]]] [e0] st 8 _ _
 have y7:=(Z1a (I:=I) (dep:=0) (lk:=lk) (env:=[e0]) (st:=st) (n:=0) (p:=7) (Za7 7) (by decide) (Zky hl)).to_ h7 (Yd _);refine Zpr (x:=e0) ((Zc8 (op:=1) (by decide) (Zia 0) y7).to_ (y:=e0) (by show alu 1 e0 0=e0;rw[Zxy];unfold u32m;omega) (Yd _)) (by decide) ?_
 show WS I 0 lk false _ [e0] st _ _ _
 have ys:Yl I 0 lk [e0] st eShort 0 5:=(Zc8 (op:=14) (by decide) (Zc8 (op:=2) (by decide) (Z2g (by decide)) (Z2g (by decide))) (Zia 0)).to_ (by
  show alu 14 (alu 2 (st.reg 27) (st.reg 26)) e0=0
  rw[Zxz,Z3z,if_neg];unfold u32m;omega) (by decide)
 exact Zbw ys (by decide) (λ _=>Zsp λ st1 c hs hc=>⟨st1,rfl,hs,by
  show c+3<=60
  omega⟩) λ h=>absurd rfl h
section
variable {dep lk:Int}{behind:Bool}{env:List Int}{s:Vw}{C:Nat}{Q:List Int->Vw->Nat->Prop}{R:S.BO->Nat->Prop}
theorem Zds {n v:Int}{e:BE}{K:Nat}{r:List BS}(hl:S.Dat I n)(h0:0<=n/\n<1056)(he:Yl I dep lk env s e v K)(hd:dE e<=19)(h:WS I dep lk behind r env (s.sto n v) (C+2+K+1) Q R):WS I dep lk behind (sKeep n e::r) env s C Q R :=
 Zsq (Za7 n) he (by rw[eC,dE,dEs];omega) hd (by unfold u32m;omega) hl.2 h
theorem Zwh {H w p q e2:Int}{words:BE}{K:Nat}{rest:List BS}(hdep:16<=dep)(hr:bu I s H w)(hlk:0<=lk/\lk<4294967296)(hw:0<=w)(hwd:dE words<=15)(hwords:∀s':Vw,Yl I dep lk [p,q,e2] s' words w K)
 (h:∀s':Vw,(∀a,a≠6->a≠8->a≠16->a≠17->s'.mem a=s.mem a)->(∀j,¬(4<=j/\j<=7)->s'.reg j=s.reg j)->s'.mem 6=0->s'.mem 8=0->s'.inp=s.inp->s'.out=s.out->WS I dep lk behind rest [p,q,e2] s' (C+K+200) Q R) :
 WS I dep lk behind (vRoom 2 words++rest) [p,q,e2] s C Q R:=by
 have low:=λ n (h0:(0:Int)<=n) h1=>hr.low n h0 h1
 show WS I dep lk behind (sKeep 16 (eL 0)::sKeep 17 (eL 1)::sKeep 8 (eC 2)::sKeep 6 eK::sDo (eF S.kReserve [words])::sAs 0 (eW 16)::sAs 1 (eW 17)::sKeep 8 (eC 0)::sKeep 6 (eC 0)::rest) [p,q,e2] s C Q R
 refine Zds hV (v:=p) (low 16 (by decide) (by decide)) (by decide) (Zia 0) (by decide) ?_;refine Zds hV (v:=q) (low 17 (by decide) (by decide)) (by decide) (Zia 1) (by decide) ?_;refine Zds hV (v:=2) (low 8 (by decide) (by decide)) (by decide) (Za7 2) (by decide) ?_;refine Zds hV (v:=lk) (low 6 (by decide) (by decide)) (by decide) Z4h (by decide) ?_;obtain⟨s4,hs4⟩:=Yx ((((s.sto 16 p).sto 17 q).sto 8 2).sto 6 lk);rw[<- hs4];have m4:∀a,s4.mem a=if a=6 then lk else if a=8 then 2 else if a=17 then q else if a=16 then p else s.mem a:=λ a=>by
  rw[hs4,Zcg,Zcg,Zcg,Zcg]
 have r4:s4.reg=s.reg:=by rw[hs4];rfl
 have i4:s4.inp=s.inp:=by rw[hs4];rfl
 have o4:s4.out=s.out:=by rw[hs4];rfl
 have h26:=hr.r26;have h27:=hr.r27;have htop:=hr.top;have hH0:=hr.H0;refine Z3a (d:=16) (xs:=[w]) (T:=λ o k=>∃st',o=.ret st'/\Sim s4 st'/\k<=60) (Zdn (hwords s4) Zhe) (by rw[dEs,dEs];omega) (by simp) (λ st1 hs1=>?_) hdep λ o k hT=>?_
 .have hA:Sim s4 (st1.args [w]):=hs1.args (by simp)
  have:=Ztp hV (st:=st1.args [w]) (need:=w) (by rfl) hw (by rw[hA.mem,m4,if_neg (by decide),if_neg (by decide),if_neg (by decide),if_neg (by decide)];exact hr.m7) (low 7 (by decide) (by decide)) (by
   rw[hA.reg 26 (by decide),hA.reg 27 (by decide),r4];omega)
  exact this.mono λ _ o k h=>by
   obtain⟨st',e,hs,hk⟩:=h;exact⟨st',e,hA.trans hs,hk⟩
 obtain⟨sA,rfl,hA,hk⟩:=hT
 show WS I dep lk behind _ [p,q,e2] sA _ _ _
 have yW:∀(env:List Int)(n v:Int),0<=n->n<1056->sA.mem n=v->Yl I dep lk env sA (eW n) v 3:=λ env n v h0 h1 hv=>(Z1a (n:=0) (p:=n) (Za7 n) (by unfold u32m;omega) (Zky (low n h0 h1))).to_ hv (Yd _)
 refine Zpr (yW _ 16 p (by decide) (by decide) (by rw[hA.mem,m4,if_neg (by decide),if_neg (by decide),if_neg (by decide),if_pos rfl])) (by decide) ?_
 show WS I dep lk behind _ [p,q,e2] sA _ _ _
 refine Zpr (yW _ 17 q (by decide) (by decide) (by rw[hA.mem,m4,if_neg (by decide),if_neg (by decide),if_pos rfl])) (by decide) ?_
 show WS I dep lk behind _ [p,q,e2] sA _ _ _
 refine Zds hV (v:=0) (low 8 (by decide) (by decide)) (by decide) (Za7 0) (by decide) ?_;refine Zds hV (v:=0) (low 6 (by decide) (by decide)) (by decide) (Za7 0) (by decide) ?_;have m6:∀a,((sA.sto 8 0).sto 6 0).mem a=if a=6 then 0 else if a=8 then 0 else s4.mem a:=λ a=>by rw[Zcg,Zcg,hA.mem]
 refine(h ((sA.sto 8 0).sto 6 0) (λ a a6 a8 a16 a17=>?_) (λ j hj=>?_) ?_ ?_ (hA.inp.trans i4) (hA.out.trans o4)).more (by omega)
 .rw[m6,if_neg a6,if_neg a8,m4,if_neg a6,if_neg a8,if_neg a17,if_neg a16]
 .show sA.reg j=_
  rw[hA.reg j hj,r4]
 .rw[m6,if_pos rfl]
 .rw[m6,if_neg (by decide),if_pos rfl]
end
def S.bx (H n x:Int)(st:Vw)(o:S.BO)(k:Nat):Prop:=(k:Int)<=600+40*n/\∃st',o=.ret st'/\st'.reg 4=4*H+1/\st'.mem H=32*n+7/\∀a,H<a->a<=H+n->st'.mem a=x
theorem Zp9 {i0:Nat}(hs:S.Seg I (kRt 27) i0 (S.bItems (vMakes 27 1))){st:Vw}{ret H x:Int}{n:Nat}(hn:n<=1000)(h4:st.reg 4=4*n)(h5:st.reg 5=x)(hr:bu I st H (n+1))(hret:0<=ret/\ret<4294967296)(hH:H<=335544320) :
 aj I (kRt 27) true st 58 ret (bx H n x st):=by
 refine Zax hV.ok (vMakes 27 1) (by kernel_rfl) hs (dep:=40) (by decide) st ret _ λ env hl hp=>?_
 obtain⟨e0,e1,e2,rfl⟩:=Z2x hl;have h0:e0=4*n:=(hp 0 (show(0:Int)<2 by decide)).trans h4;have h1:e1=x:=(hp 1 (show(1:Int)<2 by decide)).trans h5;subst h0 h1;have hsz:=hV.ok.size2;have l0:∀b c s,Yl I 40 ret [4*(n:Int),b,c] s (eL 0) (4*n) 1:=λ b c s=>Zia 0
 show WS I 40 ret true (vInteger (eL 0)::vWithin (eL 0) (eC 1048577)::(vRoom 2 (eAdd (eShr (eL 0) 2) (eC 1)) ++
  [sAs 0 (eShr (eL 0) 2),sPut vHeap 0 (eB 8 (eShl (eL 0) 5) (eC (vHd 1 0))),sAs 2 (eC 0),
   sWh (eLt (eL 2) (eL 0)) [sAs 2 (eAdd (eL 2) (eC 1)),sPut (eAdd vHeap (eL 2)) 0 (eL 1)],
   vTook (eAdd (eL 0) (eC 1)),S.sVal (eRef (eSub vHeap (eAdd (eL 0) (eC 1))))])) [4*(n:Int),e1,e2] st 8 _ _
 refine Zcf hV (by decide) (l0 _ _ _) (by decide) (by omega) (by omega) ?_;refine Zde hV (by decide) (l0 _ _ _) (by decide) (Za7 1048577) (by decide) (by omega) (λ hlt=>?_) (λ hge=>absurd (by omega) hge);refine Zwh hV (w:=(n:Int)+1) (H:=H) (K:=8) (by decide) hr hret (by omega) (by decide) (λ s'=>(Zc8 (op:=1) (by decide) (Zc8 (op:=11) (by decide) (l0 _ _ _) (Za7 2)) (Za7 1)).to_ (by rw[Z2d,Zxy];unfold u32m;omega) (by decide)) λ s5 hm hreg m6 m8 hi5 ho5=>?_
 have q26:s5.reg 26=H:=(hreg 26 (by decide)).trans hr.r26;have hH0:=hr.H0;refine Zpr (x:=(n:Int)) ((Zc8 (op:=11) (by decide) (l0 _ _ _) (Za7 2)).to_ (by rw[Z2d];omega) (Yd _)) (by decide) ?_
 show WS I 40 ret true _ [(n:Int),e1,e2] s5 _ _ _
 have k0:∀b c s,Yl I 40 ret [(n:Int),b,c] s (eL 0) n 1:=λ b c s=>Zia 0
 have y26:∀(env:List Int)(s:Vw),s.reg 26=H->Yl I 40 ret env s vHeap H 1:=λ env s h=>(Z2g (n:=26) (by decide)).to_ h (Yd _)
 refine Zsq (p:=H) (x:=32*(n:Int)+7) (y26 _ _ q26) ((Zc8 (op:=8) (by decide) (Zc8 (op:=10) (by decide) (k0 _ _ _) (Za7 5)) (Za7 (vHd 1 0))).to_ (by
  rw[Z3l];exact or7 (by omega)) (Yd _)) (by decide) (by decide) (by unfold u32m;omega) (hr.dat H (by omega) (by omega)).2 ?_
 obtain⟨s6,hs6⟩:=Yx (s5.sto H (32*(n:Int)+7));rw[<- hs6];have r6:s6.reg=s5.reg:=by rw[hs6];rfl
 refine Zpr (Za7 0) (by decide) ?_
 show WS I 40 ret true _ [(n:Int),e1,0] s6 _ _ _
 refine Z28 (by decide) (λ env s C k=>∃i:Nat,i<=n/\k=n-i/\env=[(n:Int),e1,(i:Int)]/\s=s6.fillV H e1 i/\C<=530+30*i) (k0:=n) ⟨0,Ya2 _,rfl,rfl,rfl,by omega⟩ ?_;rintro env s C k ⟨i,hi,rfl,rfl,rfl,hC⟩;have rf:(s6.fillV H e1 i).reg 26=H:=by rw[Zl8,r6];exact q26
 refine⟨if (i:Int)<n then 1 else 0,3,(Zc8 (op:=14) (by decide) (Zia 2) (k0 _ _ _)).to_ (Zxz _ _) (by decide),λ hz=>?_,λ hnz=>?_⟩
 .have hin:i=n:=by
   have:¬(i:Int)<n:=λ q=>by rw[if_pos q] at hz;cases hz
   omega
  subst hin;have yadd:∀s,Yl I 40 ret [(i:Int),e1,(i:Int)] s (eAdd (eL 0) (eC 1)) (i+1) 4:=λ s=>(Zc8 (op:=1) (by decide) (k0 _ _ _) (Za7 1)).to_ (by rw[Zxy];unfold u32m;omega) (by decide)
  refine Z1b (x:=H+i+1) ((Zc8 (op:=1) (by decide) (y26 _ _ rf) (yadd _)).to_ (by rw[Zxy];unfold u32m;omega) (Yd _)) (by decide) ?_;refine Zi4 (x:=4*H+1) ((Zc8 (op:=8) (by decide) (Zc8 (op:=10) (by decide) (Zc8 (op:=2) (by decide) (Z2g (n:=26) (by decide)) (yadd _)) (Za7 2)) (Za7 1)).to_ (by
   rw[Zh,Z3z,Z4a,show u32m (u32m (H+i+1-(i+1))*4)=4*H from by unfold u32m;omega,or1 (by omega) (by omega) (by omega)]) (Yd _)) (by decide) λ st2 c2 h2 hc2=>?_
  refine⟨by omega,_,rfl,Zh _ _ _,?_,λ a a0 a1=>?_⟩
  .show st2.mem H=_
   rw[h2.mem]
   show(s6.fillV H e1 i).mem H=_
   rw[Zhv,if_neg (by omega),hs6];exact Zb9 _ _ _
  .show st2.mem a=_
   rw[h2.mem]
   show(s6.fillV H e1 i).mem a=_
   rw[Zhv,if_pos ⟨a0,a1⟩]
 .have hlt:(i:Int)<n:=Y_c λ q=>by rw[if_neg q] at hnz;exact hnz rfl
  refine Zpr (x:=(i:Int)+1) ((Zc8 (op:=1) (by decide) (Zia 2) (Za7 1)).to_ (by show alu 1 (i:Int) (1%4294967296)=_;rw[Zxy];unfold u32m;omega) (Yd _)) (by decide) ?_
  show WS I 40 ret true _ [(n:Int),e1,(i:Int)+1] _ _ _ _
  refine Zsq (p:=H+(i+1)) (x:=e1) ((Zc8 (op:=1) (by decide) (y26 _ _ rf) (Zia 2)).to_ (y:=H+(i+1)) (by show alu 1 H ((i:Int)+1)=_;rw[Zxy];unfold u32m;omega) (Yd _)) (Zia 1) (by decide) (by decide) (by unfold u32m;omega) (hr.dat (H+(i+1)) (by omega) (by omega)).2 ?_;exact Zv4 (k2:=n-(i+1)) (by omega) ⟨i+1,by omega,rfl,rfl,rfl,by omega⟩
end
end
theorem Z1q (A:Option Addr)(N c:Nat)(l:List Int)(hN:N=l.length)(w:World)(B:Nat)(h:Ints w B A l)(hl:N<=1000000)(hA:A=none->N=0)(hc:N<=c) :
 Calls prog 80 #[.slice A N c] w λ e w'=>∃m n,Top l m/\e=.returned (.slice A m c)/\w'=w.drewN n:=by
 have HN:=Ya hN;have H:=Ya h;clear hN h;go_enter func80,ntmps80
 go_wp2_with fail
 go_loopw [3] (λ i wr=>∃k n:Nat,k<=N/\i=.int .i64 k/\Hid (∀j,k<=j->l.getD j 0=0)/\wr=w.drewN n) (λ i _=>(intOf i).toNat)
 case atStart=>exact⟨N,0,Yd _,rfl,Ya λ j hj=>by rw[Yh,List.getElem?_eq_none (by rw[<- HN.out];exact hj)];rfl,rfl⟩
 case round =>
  obtain⟨k,n,hk,rfl,hz,rfl⟩:=hrel;by_cases c0:k=0
  .subst c0
   have Hend:=Ya (show Top l 0 from⟨Ya2 _,hz.out,.inl rfl⟩);go_wp2_with fail
   go_ret
   exact⟨0,_,Hend.out,rfl,rfl⟩
  .obtain⟨q,rfl⟩:∃q,k=q+1:=⟨k-1,by omega⟩
   obtain⟨b,off,hAe,hbB,hc1⟩:=H.out.at_ (k:=q) (by rw[<- HN.out];omega);obtain⟨x,hx⟩:=Yx (l.getD q 0);rw[<- hx] at hc1;have Hx:=Ya hx;have e2:IntKind.i64.wrap (((q+1:Nat):Int)-1)=(q:Int):=by rw[Yp _ (by omega)];omega
   have e3:IntKind.i64.wrap (q:Int)=(q:Int):=by rw[Yp _ (by omega)]
   have i1:((q+1:Nat):Int)<=(N:Int):=by omega
   have i3:(q:Int)<(N:Int):=by omega
   have i4:(0:Int)<=(q:Int):=by omega
   have d0:decide ((0:Int)<((q+1:Nat):Int))=true:=by simp
   subst hAe;clear hx;by_cases hx0:x=0
   .have ex:(x==0)=true:=by simp[hx0]
    have Hx0:=Ya hx0;clear hx0;go_wp2_with fail
    go_roundw
    case rel =>
     refine⟨q,_,by omega,by go_num,Ya λ j hj=>?_,rfl⟩;by_cases cj:j=q
     .rw[cj,<- Hx.out];exact Hx0.out
     .exact hz.out j (by omega)
    case measure=>simp[intOf] <;> omega
   .have ex:(x==0)=false:=by simp[hx0]
    have Hend:=Ya (show Top l (q+1) from⟨by rw[<- HN.out];exact hk,hz.out,.inr (by rw[Nat.add_sub_cancel,<- Hx.out];exact hx0)⟩);clear hx0;go_wp2_with fail
    go_ret
    exact⟨q+1,_,Hend.out,rfl,rfl⟩
def Zib (neg:Bool)(A:Option Addr)(n c:Nat):Value:=.agg #[.bool neg,.slice A n c]
theorem Zxo (neg:Bool)(A:Option Addr)(N c:Nat)(l:List Int)(hN:N=l.length)(w:World)(B:Nat)(h:Ints w B A l)(hB:B<=w.heap.size)(hl:N<=1000000)(hA:A=none->N=0)(hc:N<=c) :
 Calls prog 49 #[.bool neg,.slice A N c] w λ e w'=>∃m,Top l m/\e=.returned (Zib (neg && decide (0<m)) A m c)/\Below w.heap.size w w':=by
 have HN:=Ya hN;have H:=Ya h;clear hN h;go_enter func49,ntmps49
 go_wp2_with fail
 refine(Z1q A N c l HN.out _ B ?_ hl hA hc).mono ?_
 .exact H.out.below ((Yj _ _).alloc hB _)
 rintro e w2 ⟨m,n,hm,rfl,rfl⟩;have Hm:=Ya hm;clear hm
 cases neg with
 | false =>
  go_wp2_with fail
  refine bodyPost_ret (v:=Zib (false && decide (0<m)) A m c) (by simp[results,results49,go_sem,Zib]) rfl ?_;refine⟨m,Hm.out,rfl,?_⟩;exact((below_drewN ((Yj _ _).alloc (Yd _) _) n).setCell (Yd _) _).setCell (Yd _) _
 | true =>
  have hd:decide ((m:Int)>0)=decide (0<m):=by simp
  go_wp2_with fail
  refine bodyPost_ret (v:=Zib (true && decide (0<m)) A m c) (by simp[results,results49,go_sem,Zib]) rfl ?_;refine⟨m,Hm.out,rfl,?_⟩;exact((below_drewN ((Yj _ _).alloc (Yd _) _) n).setCell (Yd _) _).setCell (Yd _) _
def S.ae (x y:Int):Int:=if x<y then -1 else if x=y then 0 else 1
theorem Ztq (A A':Option Addr)(N c N' c':Nat)(l l':List Int)(x y:Int)(hN:N=l.length)(hN':N'=l'.length)(w:World)(B:Nat)(h:Ints w B A l)(h':Ints w B A' l')(hl:N<=1000000)(hl':N'<=1000000)(hx:Cn 10 l x)(hy:Cn 10 l' y) :
 Calls prog 127 #[.slice A N c,.slice A' N' c'] w λ e w'=>e=.returned (.int .i64 (ae x y))/\Below w.heap.size w w':=by
 have HN:=Ya hN;have HN':=Ya hN';have H:=Ya h;have H':=Ya h';have Hx:=Ya hx;have Hy:=Ya hy;clear h h' hx hy;by_cases c1:N=N'
 .subst c1
  clear hN hN';have hne:((N:Int) != (N:Int))=false:=by simp
  have wr0:IntKind.i64.wrap ((N:Int)-1)=(N:Int)-1:=by rw[Yp _ (by omega)]
  go_enter func127,ntmps127
  go_wp2_with fail
  go_loopw [5] (λ i wr=>∃k:Int,-1<=k/\k<N/\i=.int .i64 k/\Hid (∀j:Nat,k<j->l.getD j 0=l'.getD j 0)/\∃n,wr=w.drewN n) (λ i _=>(intOf i+1).toNat)
  case atStart=>exact⟨(N:Int)-1,by omega,by omega,rfl,Ya λ j hj=>by rw[Yh,List.getElem?_eq_none (by rw[<- HN.out];omega),Yh,List.getElem?_eq_none (by rw[<- HN'.out];omega)],0,rfl⟩
  case round =>
   obtain⟨k,hk0,hk1,rfl,hz,n,rfl⟩:=hrel;by_cases c0:0<=k
   .obtain⟨q,rfl⟩:=Int.eq_ofNat_of_zero_le c0
    have hq:q<N:=by omega
    obtain⟨b,off,hAe,hbB,hc1⟩:=H.out.at_ (k:=q) (by rw[<- HN.out];exact hq);obtain⟨b',off',hAe',hbB',hc1'⟩:=H'.out.at_ (k:=q) (by rw[<- HN'.out];exact hq);obtain⟨u,hu⟩:∃x,x=l.getD q 0:=⟨_,rfl⟩
    obtain⟨v,hv⟩:∃x,x=l'.getD q 0:=⟨_,rfl⟩
    rw[<- hu] at hc1;rw[<- hv] at hc1';have Hu:=Ya hu;have Hv:=Ya hv;have e2:IntKind.i64.wrap ((q:Int)-1)=(q:Int)-1:=by rw[Yp _ (by omega)]
    have e3:IntKind.i64.wrap (q:Int)=(q:Int):=by rw[Yp _ (by omega)]
    have i3:(q:Int)<(N:Int):=by omega
    have i4:(0:Int)<=(q:Int):=by omega
    subst hAe hAe';clear hu hv;by_cases cu:u=v
    .have en:(u != v)=false:=by simp[cu]
     have Cu:=Ya cu;clear cu;go_wp2_with fail
     go_quiet (fail)
     go_wp2_with fail
     go_roundw
     case rel =>
      refine⟨(q:Int)-1,by omega,by omega,by go_num,Ya λ j hj=>?_,_,rfl⟩;by_cases cj:j=q
      .rw[cj,<- Hu.out,<- Hv.out];exact Cu.out
      .exact hz.out j (by omega)
     case measure=>simp[intOf] <;> omega
    .have en:(u != v)=true:=by simp[cu]
     by_cases cl:u<v
     .have el:decide (u<v)=true:=by simp[cl]
      have Hr:=Ya (show ae x y=-1 by
       have:=Zk4 (show(0:Int)<10 by decide) q Hx.out.1 Hy.out.1 (λ j hj=>hz.out j (by omega)) (by rw[<- Hu.out,<- Hv.out];exact cl);rw[Hx.out.2.2,Hy.out.2.2] at this;unfold ae;rw[if_pos this])
      clear cu cl;go_wp2_with fail
      go_quiet (fail)
      go_wp2_with fail
      go_quiet (fail)
      go_wp2_with fail
      go_ret
      exact⟨by rw[Hr.out];rfl,by repeat (first|exact Yj _ _|refine below_drewN ?_ _)⟩
     .have el:decide (u<v)=false:=by simp[cl]
      have Hr:=Ya (show ae x y=1 by
       have:=Zk4 (show(0:Int)<10 by decide) q Hy.out.1 Hx.out.1 (λ j hj=>(hz.out j (by omega)).symm) (by rw[<- Hu.out,<- Hv.out];omega);rw[Hx.out.2.2,Hy.out.2.2] at this;unfold ae;rw[if_neg (by omega),if_neg (by omega)])
      clear cu cl;go_wp2_with fail
      go_quiet (fail)
      go_wp2_with fail
      go_quiet (fail)
      go_wp2_with fail
      go_ret
      exact⟨by rw[Hr.out];rfl,by repeat (first|exact Yj _ _|refine below_drewN ?_ _)⟩
   .have ek:k=-1:=by omega
    subst ek;have Hr:=Ya (show ae x y=0 by
     have he:l=l':=by
      refine List.ext_getElem (by rw[<- HN.out];exact HN'.out) λ i h1 h2=>?_
      have:=hz.out i (by omega);rw[Yh,Ye h1,Yh,Ye h2] at this;exact this
     have hxy:x=y:=by rw[<- Hx.out.2.2,<- Hy.out.2.2,he]
     unfold ae;rw[if_neg (by omega),if_pos hxy])
    go_wp2_with fail
    go_ret
    exact⟨by rw[Hr.out];rfl,by repeat (first|exact Yj _ _|refine below_drewN ?_ _)⟩
 .have hne:((N:Int) != (N':Int))=true:=by simp;omega
  by_cases cl:N<N'
  .have el:decide ((N:Int)<(N':Int))=true:=by simp;omega
   have el2:decide (N<N')=true:=by simp;omega
   have Hr:=Ya (show ae x y=-1 by
    have:=Zn6 (by decide) Hx.out Hy.out (by rw[<- HN.out,<- HN'.out];exact cl);unfold ae;rw[if_pos this])
   clear c1 cl hN hN';go_enter func127,ntmps127
   go_wp2_with fail
   go_ret
   exact⟨by rw[Hr.out];rfl,Yj _ _⟩
  .have el:decide ((N:Int)<(N':Int))=false:=by simp;omega
   have el2:decide (N<N')=false:=by simp;omega
   have Hr:=Ya (show ae x y=1 by
    have:=Zn6 (by decide) Hy.out Hx.out (by rw[<- HN.out,<- HN'.out];omega);unfold ae;rw[if_neg (by omega),if_neg (by omega)])
   clear c1 cl hN hN';go_enter func127,ntmps127
   go_wp2_with fail
   go_ret
   exact⟨by rw[Hr.out];rfl,Yj _ _⟩
theorem Zbz {B:Nat}{w:World}(hB:B<=w.heap.size)(o o':Obj):Below B w ((w.alloc o).alloc o'):=((Yj B w).alloc hB o).alloc (Nat.le_trans hB ((Yj B w).alloc hB o).size) o'
theorem Zgd {B:Nat}{w w1 w2:World}(h:Below B w w1)(k:Below w1.heap.size w1 w2)(hB:B<=w1.heap.size):Below B w w2:=h.trans (k.mono hB)
structure NumW (w:World)(B:Nat)(z:Int)(neg:Bool)(A:Option Addr)(N c:Nat)(l:List Int):Prop where
 z:Nz neg l z
 len:N=l.length
 few:N<=1000000
 at_:Ints w B A l
 nil:A=none->N=0
 cap:N<=c
theorem NumW.below {w w':World}{B:Nat}{z:Int}{neg:Bool}{A:Option Addr}{N c:Nat}{l:List Int}(h:NumW w B z neg A N c l)(hb:Below B w w'):NumW w' B z neg A N c l:=⟨h.z,h.len,h.few,h.at_.below hb,h.nil,h.cap⟩
theorem NumW.more {w:World}{B B':Nat}{z:Int}{neg:Bool}{A:Option Addr}{N c:Nat}{l:List Int}(h:NumW w B z neg A N c l)(hB:B<=B'):NumW w B' z neg A N c l:=⟨h.z,h.len,h.few,h.at_.more hB,h.nil,h.cap⟩
theorem Z1r (neg neg':Bool)(A A':Option Addr)(N c N' c':Nat)(l l':List Int)(z z':Int)(w:World)(B:Nat)(hB:B<=w.heap.size)(h:NumW w B z neg A N c l)(h':NumW w B z' neg' A' N' c' l') :
 Calls prog 59 #[Zib neg A N c,Zib neg' A' N' c'] w λ e w'=>e=.returned (.int .i64 (ae z z'))/\Below w.heap.size w w':=by
 have H:=Ya h;have H':=Ya h';obtain⟨⟨hx,hs⟩,hN,hf,hat,_,_⟩:=h;obtain⟨⟨hx',hs'⟩,hN',hf',hat',_,_⟩:=h';unfold Zib;go_enter func59,ntmps59
 clear hat hat' hx hx' hN hN' hf hf'
 cases neg <;> cases neg'
 .have Hr:=Ya (show ae (if z<0 then -z else z) (if z'<0 then -z' else z')=ae z z' by
   have h1:=of_decide_eq_false hs.symm;have h2:=of_decide_eq_false hs'.symm;rw[if_neg h1,if_neg h2])
  clear hs hs';go_wp2_with fail
  refine(Ztq A A' N c N' c' l l' _ _ H.out.len H'.out.len _ B ?_ ?_ H.out.few H'.out.few H.out.z.1 H'.out.z.1).mono ?_
  .exact H.out.at_.below (Zbz hB _ _)
  .exact H'.out.at_.below (Zbz hB _ _)
  rintro e w2 ⟨rfl,hb⟩;rw[Hr.out];go_wp2_with fail
  go_ret
  exact⟨rfl,Zgd (Zbz (Yd _) _ _) hb (Zbz (Yd _) _ _).size⟩
 .have Hr:=Ya (show ae z z'=1 by
   have h1:=of_decide_eq_false hs.symm;have h2:=of_decide_eq_true hs'.symm;unfold ae;rw[if_neg (by omega),if_neg (by omega)])
  clear hs hs';go_wp2_with fail
  go_ret
  exact⟨by rw[Hr.out];rfl,Zbz (Yd _) _ _⟩
 .have Hr:=Ya (show ae z z'=-1 by
   have h1:=of_decide_eq_true hs.symm;have h2:=of_decide_eq_false hs'.symm;unfold ae;rw[if_pos (by omega)])
  clear hs hs';go_wp2_with fail
  go_ret
  exact⟨by rw[Hr.out];rfl,Zbz (Yd _) _ _⟩
 .have Hr:=Ya (show ae (if z'<0 then -z' else z') (if z<0 then -z else z)=ae z z' by
   have h1:=of_decide_eq_true hs.symm;have h2:=of_decide_eq_true hs'.symm;rw[if_pos h2,if_pos h1];unfold ae
   split <;> (try split) <;> omega)
  clear hs hs';go_wp2_with fail
  refine(Ztq A' A N' c' N c l' l _ _ H'.out.len H.out.len _ B ?_ ?_ H'.out.few H.out.few H'.out.z.1 H.out.z.1).mono ?_
  .exact H'.out.at_.below (Zbz hB _ _)
  .exact H.out.at_.below (Zbz hB _ _)
  rintro e w2 ⟨rfl,hb⟩;rw[Hr.out];go_wp2_with fail
  go_ret
  exact⟨rfl,Zgd (Zbz (Yd _) _ _) hb (Zbz (Yd _) _ _).size⟩
