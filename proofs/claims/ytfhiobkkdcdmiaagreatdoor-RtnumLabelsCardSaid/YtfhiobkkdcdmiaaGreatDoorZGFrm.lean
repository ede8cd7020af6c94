/- Parts. -/
import Derived.Test.YtfhiobkkdcdmiaaGreatDoorZNAdd
set_option linter.all false
open Nat renaming le_refl->Yb
open List renaming getD_eq_getElem?_getD->Ye,getElem?_eq_some_iff->Yg,length_cons->Yi,length_nil->Yab,mem_append_left->Ya4
open Int renaming le_refl->Y4,pow_pos->Yaw,le_of_lt->Ya2,toNat->Yca
namespace Go.Proofs.YtfhiobkkdcdmiaaGreatDoor
section
open Go.RowKit
theorem Zc9 {y:List Int}(hy:S.Digs y){n:Nat}(h:S.dval y<65536^n):S.psum y n=S.dval y:=by
 have h1:=Zgj n y;have h2:0<=S.dval (y.drop n):=Zi fun d hd=>hy d (List.mem_of_mem_drop hd)
 have h3:0<=S.psum y n:=by
  have:∀ i:Nat,0<=S.psum y i:=fun i=>by
   induction i with
   | zero=>exact Y4 _
   | succ i ih =>
    have hb:=Zy hy i;have hp:(0:Int)<65536^i:=Yaw (by decide);have:=Int.mul_nonneg hb.1 (Ya2 hp);rw [S.psum];omega
  exact this n
 have hp:(0:Int)<65536^n:=Yaw (by decide);have h4:S.dval (y.drop n)=0:=by
  refine Classical.byContradiction fun q=>?_
  have h5:1<=S.dval (y.drop n):=by omega
  have:=Int.mul_le_mul_of_nonneg_left h5 (Ya2 hp);rw [Int.mul_one] at this;omega
 rw [h4,Int.mul_zero] at h1;omega
section
variable {I:S.Img}(hN:S.NSegs I)
include hN
theorem Zne {st:S.Vw}{H v u nv nu neg:Int}{x y:List Int}(hx:S.NumIn I st.mem H v nv x)(hy:S.NumIn I st.mem H u nu y)(hneg:neg=0\/neg=1)(hle:S.dval y<=S.dval x)(h26:st.reg 26=H)(hdat:∀ j:Nat,j<x.length+2->S.Dat I (H+j))(hfew:x.length<=900) :
 ∀ st1,S.Sim st st1->S.Real I S.kNSub false (st1.args [v,u,neg]) 55 (fun _ o k=>S.NumR I st H neg (S.dval x-S.dval y) (x.length+3) (1000+800*x.length) o k):=fun st1 hs1=>by
 obtain ⟨iF,hF⟩:=hN.sub;obtain ⟨L,hL⟩:=Yx x.length;rw [<- hL] at hdat hfew ⊢;have hr:=Zcy hN.ok S.rNSub (by kernel_rfl) hF (dep:=34) (by decide) (st1.args [v,u,neg]) (S.NumR I st H neg (S.dval x-S.dval y) (L+3) (1000+800*L)) fun lk env hl hp=>?_
 ·exact hr
 obtain ⟨e0,e1,e2,e3,e4,e5,rfl⟩:=Z1z hl;have h0:e0=v:=hp 0 (show (0:Int)<3 by decide);have h1:e1=u:=hp 1 (show (1:Int)<3 by decide);have h2:e2=neg:=hp 2 (show (2:Int)<3 by decide);subst h0 h1 h2;have hs:S.Sim st (st1.args [e0,e1,e2]):=hs1.args (by simp);obtain ⟨s1,hs1e⟩:∃ s,s=st1.args [e0,e1,e2]:=⟨_,rfl⟩
 rw [<- hs1e] at hs ⊢;have hsz:=hN.ok.size2;have hd0:=hdat 0 (by omega);have hdl:=hdat (L+1) (by omega);rw [show H+((0:Nat):Int)=H by omega] at hd0;have hH0:=hd0.1;have hHl:=hdl.2.1;have dx:S.Digs x:=hx.1.dig;have dy:S.Digs y:=hy.1.dig;have yh:∀ (env:List Int) (s:S.Vw) (acc:List Int),S.HpS st s H acc->S.Yl I 34 lk env s S.eH H 1:=fun env s acc h=>(Zxe (n:=26) (by decide)).to_ (by rw [h.reg 26 (by decide)];exact h26) (Yb _)
 have n0:=Zmh (H:=H) hs
 show S.WS I 34 lk false [S.sAs 3 (S.eC 0),S.sAs 4 (S.eF S.kNLen [S.eL 0]),S.sAs 5 (S.eC 0),
  S.sWh (S.eLt (S.eL 3) (S.eL 4)) [S.sAs 5 (S.eSub (S.eAdd (S.eC 65536) (S.eF S.kNDig [S.eL 0,S.eL 3])) (S.eAdd (S.eF S.kNDig [S.eL 1,S.eL 3]) (S.eL 5))),S.sPut (S.eAdd S.eH (S.eL 3)) 2 (S.eDg (S.eL 5)),S.sAs 5 (S.eSub (S.eC 1) (S.eShr (S.eL 5) 16)),S.sInc 3],
  S.sVal (S.eF S.kNFin [S.eL 2,S.eL 4])] [e0,e1,e2,e3,e4,e5] s1 8 _ _
 refine Zo (Zn 0) (by decide) ?_
 show S.WS I 34 lk false _ [e0,e1,e2,0,e4,e5] s1 _ _ _
 have ylx:∀ a b c,S.Yl I 34 lk [e0,e1,e2,a,b,c] s1 (S.eF S.kNLen [S.eL 0]) (L:Int) (1+0+60+48):=fun a b c=>(Zc3 (Za ((Zq 0).to_ rfl (Yb _)) Zg) (by simp) (Za8 hN (Zat hx n0)) (by decide)).to_ (by rw [hL]) (Yb _)
 refine Zo (ylx _ _ _) (by decide) ?_
 show S.WS I 34 lk false _ [e0,e1,e2,0,(L:Int),e5] s1 _ _ _
 refine Zo (Zn 0) (by decide) ?_
 show S.WS I 34 lk false _ [e0,e1,e2,0,(L:Int),0] s1 _ _ _
 refine Zfk (by decide) (fun env s C k=>∃ (acc:List Int) (c:Int),env=[e0,e1,e2,(acc.length:Int),(L:Int),c]/\k=L-acc.length/\acc.length<=L/\S.Digs acc/\S.HpS st s H acc/\0<=c/\c<=1/\S.dval acc+S.psum y acc.length=S.psum x acc.length+c*65536^acc.length/\C<=410+730*acc.length) (k0:=L)
  ⟨[],0,rfl,rfl,Nat.zero_le _,(fun d hd=>by cases hd),n0,by decide,by decide,rfl,by decide⟩ ?_
 rintro env s C k ⟨acc,c,rfl,rfl,hle2,hda,hS,c0,c1,hinv,hC⟩;have y34:=Zm (op:=14) (by decide) (Zq (I:=I) (dep:=34) (lk:=lk) (env:=[e0,e1,e2,(acc.length:Int),(L:Int),c]) (st:=s) 3) (Zq 4);rw [Zcl] at y34;have e34:(if [e0,e1,e2,(acc.length:Int),(L:Int),c].getD (Yca 3) 0<[e0,e1,e2,(acc.length:Int),(L:Int),c].getD (Yca 4) 0 then (1:Int) else 0)=if (acc.length:Int)<(L:Int) then 1 else 0:=rfl
 rw [e34] at y34;refine ⟨_,_,y34,fun hz=>?_,fun hnz=>?_⟩
 ·have hlL:acc.length=L:=by
   refine Classical.byContradiction fun q=>?_
   rw [if_pos (by omega)] at hz
   cases hz
  have bx:=Zg8 dx;have ba:=Zg8 hda;rw [<- hL] at bx;rw [hlL] at ba;have hv:S.dval acc=S.dval x-S.dval y:=by
   rw [hlL,Zan (x:=x) (by omega),Zc9 dy (n:=L) (by omega)] at hinv;have hp:(0:Int)<65536^L:=Yaw (by decide);rcases (show c=0\/c=1 by omega) with rfl | rfl
   ·omega
   ·omega
  refine Zv5 hN (acc:=acc) hneg hS h26 hda (by omega) (fun j hj=>hdat j (by omega)) hv (by omega) (Za ((Zq 2).to_ (y:=e2) rfl (Yb _)) (Za ((Zq 4).to_ (y:=(acc.length:Int)) (by rw [hlL];rfl) (Yb _)) Zg)) (by decide) (by decide) ?_;rw [hlL] at hC ⊢;omega
 ·have hlt:acc.length<L:=Classical.byContradiction fun q=>hnz (if_neg (by omega))
  have hdi:=hdat (acc.length+2) (by omega);rw [show H+((acc.length+2:Nat):Int)=H+2+acc.length by omega] at hdi;have hx':=Zat hx hS;have hy':=Zat hy hS;have bx:=Zy dx acc.length;have by_:=Zy dy acc.length;have y1:=Zc3 (d:=34) (dep:=34) (lk:=lk) (env:=[e0,e1,e2,(acc.length:Int),(L:Int),c]) (Za ((Zq 0).to_ (y:=e0) rfl (Yb _)) (Za ((Zq 3).to_ (y:=(acc.length:Int)) rfl (Yb _)) Zg)) (by simp) (Za9 hN hx' ⟨by omega,by omega⟩) (by decide);have y2:=Zc3 (d:=34) (dep:=34) (lk:=lk) (env:=[e0,e1,e2,(acc.length:Int),(L:Int),c]) (Za ((Zq 1).to_ (y:=e1) rfl (Yb _)) (Za ((Zq 3).to_ (y:=(acc.length:Int)) rfl (Yb _)) Zg)) (by simp) (Za9 hN hy' ⟨by omega,by omega⟩) (by decide);rw [Int.toNat_natCast] at y1 y2;obtain ⟨tot,htot⟩:=Yx (65536+x.getD acc.length 0-(y.getD acc.length 0+c));refine Zo ((Zm (op:=2) (by decide) (Zm (op:=1) (by decide) (Zn 65536) y1) (Zm (op:=1) (by decide) y2 ((Zq 5).to_ (y:=c) rfl (Yb _)))).to_ (y:=tot) (by rw [Zj7,Zau,Zau,htot];unfold S.u32m;omega) (Yb _)) (by decide) ?_
  show S.WS I 34 lk false _ [e0,e1,e2,(acc.length:Int),(L:Int),tot] s _ _ _
  refine Zb7 (x:=4*(tot%65536)) (p:=H+2+acc.length) ((Zm (op:=1) (by decide) (yh _ s acc hS) ((Zq 3).to_ (y:=(acc.length:Int)) rfl (Yb _))).to_ (y:=H+acc.length) (by rw [Zau];unfold S.u32m;omega) (Yb _))
   ((Zm (op:=10) (by decide) (Zm (op:=7) (by decide) ((Zq 5).to_ (y:=tot) rfl (Yb _)) (Zn 65535)) (Zn 2)).to_ (Zfq ⟨by omega,by omega⟩) (Yb _)) (by decide) (by decide) (by unfold S.u32m;omega) hdi.2 ?_
  have hS2:=Zgk hS (tot%65536);refine Zo ((Zm (op:=2) (by decide) (Zn 1) (Zm (op:=11) (by decide) ((Zq 5).to_ (y:=tot) rfl (Yb _)) (Zn 16))).to_ (y:=1-tot/65536) (by rw [Zkd,Zj7];unfold S.u32m;omega) (Yb _)) (by decide) ?_
  show S.WS I 34 lk false _ [e0,e1,e2,(acc.length:Int),(L:Int),1-tot/65536] _ _ _ _
  refine Zo ((Zm (op:=1) (by decide) ((Zq 3).to_ (y:=(acc.length:Int)) rfl (Yb _)) (Zn 1)).to_ (y:=((acc.length+1:Nat):Int)) (by rw [Zau];unfold S.u32m;omega) (Yb _)) (by decide) ?_
  show S.WS I 34 lk false _ [e0,e1,e2,((acc.length+1:Nat):Int),(L:Int),1-tot/65536] _ _ _ _
  have hl2:(acc++[tot%65536]).length=acc.length+1:=by simp
  refine Z5 (k2:=L-(acc.length+1)) (by omega) ⟨acc++[tot%65536],1-tot/65536,by rw [hl2],by rw [hl2],by omega,Zbd hda ⟨by omega,by omega⟩,hS2,by omega,by omega,?_,by rw [hl2];omega⟩;rw [hl2,Zbc,S.psum,S.psum,Int.pow_succ];have hq:tot=tot%65536+65536*(tot/65536):=by omega
  generalize (65536:Int)^acc.length=B at *;generalize tot%65536=d at *;generalize tot/65536=q at *;generalize x.getD acc.length 0=a at *;generalize y.getD acc.length 0=b at *
  grind
end
end
section
open Go.RowKit
def S.ao (I:S.Img)(st:S.Vw)(H z:Int)(M N:Nat)(o:S.BO)(k:Nat):Prop:=∃ neg val,(neg=0\/neg=1)/\0<=val/\S.signed neg val=z/\S.NumR I st H neg val M N o k
theorem Zyd {I:S.Img}{st s:S.Vw}{H neg val:Int}{M N:Nat}{o:S.BO}{k:Nat}(hs:S.Sim st s)(h:S.NumR I s H neg val M N o k):S.NumR I st H neg val M N o k:=by
 obtain ⟨s2,ds,h1,h2,h3,h4,h5,h6,h7⟩:=h;exact ⟨s2,ds,h1,h2,fun a ha=>(h3 a ha).trans (by rw [hs.mem]),fun j hj=>(h4 j hj).trans (hs.reg j hj),h5.trans hs.inp,h6.trans hs.out,h7⟩
theorem Zuw {I:S.Img}{st st':S.Vw}{H neg val:Int}{M N k k' M' N':Nat}(h:S.NumR I st H neg val M N (.ret st') k)(hk:k'<=N')(hM:M<=M'):S.NumR I st H neg val M' N' (.ret (st'.set 4 (st'.reg 4))) k':=by
 obtain ⟨s2,ds,h1,h2,h3,h4,h5,h6,h7⟩:=h;exact ⟨s2,ds,h1,h2,fun a ha=>h3 a (by omega),h4,h5,h6,Zjg h7 hk⟩
theorem Zye {I:S.Img}{st:S.Vw}{H neg val:Int}{M N k:Nat}{o:S.BO}(h:S.NumR I st H neg val M N o k):(∃ st',o=.ret st')/\k<=N:=by
 obtain ⟨s2,ds,h1,h2,h3,h4,h5,h6,st',e,hk,_⟩:=h;exact ⟨⟨st',e⟩,hk⟩
theorem Z1l {a b:Int}(ha:a=0\/a=1)(hb:b=0\/b=1):S.alu 9 a b=if a=b then 0 else 1:=by
 rcases ha with rfl | rfl <;> rcases hb with rfl | rfl <;> decide
section
variable {I:S.Img}(hN:S.NSegs I)
include hN
theorem Zq6 {dep lk:Int}{env:List Int}{st s:S.Vw}{C:Nat}{Q:List Int->S.Vw->Nat->Prop}{r:List S.BS}{H neg val z:Int}{M N M' N':Nat}{name:ByteArray}{l:List S.BE}{xs:List Int}{K:Nat}{d:Int}(hneg:neg=0\/neg=1)(hv:0<=val)(hz:S.signed neg val=z)(hs:S.Sim st s)
 (hy:S.Yls I dep lk env s l xs K) (hde:S.dEs l<=20) (hlen:xs.length<=4) (hr:∀ st1,S.Sim s st1->S.Real I name false (st1.args xs) d (fun _ o k=>S.NumR I s H neg val M N o k)) (hdep:d<=dep) (hM:M<=M') (hC:C+K+N+14<=N'):S.WS I dep lk false (S.sVal (S.eF name l)::r) env s C Q (S.ao I st H z M' N'):=by
 refine Zlu (T:=S.NumR I s H neg val M N) hy hde hlen hr hdep fun o k hT=>?_
 obtain ⟨⟨st',rfl⟩,hk⟩:=Zye hT;intro c hc;exact ⟨neg,val,hneg,hv,hz,Zyd hs (Zuw hT (by omega) hM)⟩
theorem Zux {st:S.Vw}{H v u nv nu t:Int}{x y:List Int}(hx:S.NumIn I st.mem H v nv x)(hy:S.NumIn I st.mem H u nu y)(ht:t=0\/t=1)(h26:st.reg 26=H)(hdat:∀ j:Nat,j<max x.length y.length+3->S.Dat I (H+j))(hfew:max x.length y.length<=900) :
 ∀ st1,S.Sim st st1->S.Real I S.kNSum false (st1.args [v,u,t]) 75 (fun _ o k=>S.ao I st H (S.signed nv (S.dval x)+S.signed (if t=0 then nu else 1-nu) (S.dval y)) (max x.length y.length+3) (3000+2800*max x.length y.length) o k):=fun st1 hs1=>by
 obtain ⟨iF,hF⟩:=hN.sum;obtain ⟨L,hL⟩:=Yx (max x.length y.length);rw [<- hL] at hdat hfew ⊢;obtain ⟨ny,hny⟩:∃ n,n=(if t=0 then nu else 1-nu):=⟨_,rfl⟩
 rw [<- hny];have hr:=Zcy hN.ok S.rNSum (by kernel_rfl) hF (dep:=55) (by decide) (st1.args [v,u,t]) (S.ao I st H (S.signed nv (S.dval x)+S.signed ny (S.dval y)) (L+3) (3000+2800*L)) fun lk env hl hp=>?_
 ·exact hr
 obtain ⟨e0,e1,e2,e3,e4,rfl⟩:=Z13 hl;have h0:e0=v:=hp 0 (show (0:Int)<3 by decide);have h1:e1=u:=hp 1 (show (1:Int)<3 by decide);have h2:e2=t:=hp 2 (show (2:Int)<3 by decide);subst h0 h1 h2;have hs:S.Sim st (st1.args [e0,e1,e2]):=hs1.args (by simp);obtain ⟨s1,hs1e⟩:∃ s,s=st1.args [e0,e1,e2]:=⟨_,rfl⟩
 rw [<- hs1e] at hs ⊢;have hm:s1.mem=st.mem:=hs.mem;have hx':S.NumIn I s1.mem H e0 nv x:=by rw [hm];exact hx
 have hy':S.NumIn I s1.mem H e1 nu y:=by rw [hm];exact hy
 have h26':s1.reg 26=H:=by rw [hs.reg 26 (by decide)];exact h26
 have sx:=hx.1.sg;have sy:=hy.1.sg;have dx:=Zi (show S.Digs x from hx.1.dig);have dy:=Zi (show S.Digs y from hy.1.dig);have sny:ny=0\/ny=1:=by rw [hny];split <;> omega
 show S.WS I 55 lk false [S.sAs 3 (S.eF S.kNNeg [S.eL 0]),S.sAs 4 (S.eB 9 (S.eF S.kNNeg [S.eL 1]) (S.eL 2)),
  S.sWhen (S.eQ (S.eL 3) (S.eL 4)) [S.sVal (S.eF S.kNAdd [S.eL 0,S.eL 1,S.eL 3])],
  S.sWhen (S.eF S.kNCmp [S.eL 0,S.eL 1]) [S.sVal (S.eF S.kNSub [S.eL 0,S.eL 1,S.eL 3])],
  S.sVal (S.eF S.kNSub [S.eL 1,S.eL 0,S.eL 4])] [e0,e1,e2,e3,e4] s1 8 _ _
 have l0:∀ a b,S.Yl I 55 lk [e0,e1,e2,a,b] s1 (S.eL 0) e0 1:=fun a b=>Zq 0
 have l1:∀ a b,S.Yl I 55 lk [e0,e1,e2,a,b] s1 (S.eL 1) e1 1:=fun a b=>Zq 1
 have l2:∀ a b,S.Yl I 55 lk [e0,e1,e2,a,b] s1 (S.eL 2) e2 1:=fun a b=>Zq 2
 have l3:∀ a b,S.Yl I 55 lk [e0,e1,e2,a,b] s1 (S.eL 3) a 1:=fun a b=>Zq 3
 have l4:∀ a b,S.Yl I 55 lk [e0,e1,e2,a,b] s1 (S.eL 4) b 1:=fun a b=>Zq 4
 refine Zo (Zc3 (Za (l0 _ _) Zg) (by simp) (Zbe hN hx'.1) (by decide)) (by decide) ?_
 show S.WS I 55 lk false _ [e0,e1,e2,nv,e4] s1 _ _ _
 refine Zo ((Zm (op:=9) (by decide) (Zc3 (Za (l1 _ _) Zg) (by simp) (Zbe hN hy'.1) (by decide)) (l2 _ _)).to_ (y:=ny) (by
  rw [Z1l sy ht,hny];rcases ht with rfl | rfl
  ·rcases sy with rfl | rfl <;> decide
  ·rcases sy with rfl | rfl <;> decide) (Yb _)) (by decide) ?_
 show S.WS I 55 lk false _ [e0,e1,e2,nv,ny] s1 _ _ _
 refine Zp (Zhk (l3 _ _) (l4 _ _)) (by decide) (fun hz=>?_) (fun hnz=>?_)
 ·have hne:nv≠ny:=fun q=>by rw [if_pos q] at hz;cases hz
  refine Zp (Zc3 (Za (l0 _ _) (Za (l1 _ _) Zg)) (by simp) (Zji hN hx'.1 hy'.1) (by decide)) (by decide) (fun hz=>?_) (fun hnz=>?_)
  ·have hlt:S.dval x<S.dval y:=by
    unfold S.cmpV at hz
    split at hz
    ·assumption
    ·split at hz <;> cases hz
   refine Zq6 hN (val:=S.dval y-S.dval x) sny (by omega) ?_ hs (Za (l1 _ _) (Za (l0 _ _) (Za (l4 _ _) Zg))) (by decide) (by simp) (Zne hN hy' hx' sny (by omega) h26' (fun j hj=>hdat j (by omega)) (by omega)) (by decide) (by omega) (by omega);unfold S.signed;rcases sx with rfl | rfl <;> rcases sny with h | h
   ·omega
   ·rw [h];simp;omega
   ·rw [h];simp;omega
   ·omega
  ·have hle:¬ S.dval x<S.dval y:=fun q=>hnz (by unfold S.cmpV;rw [if_pos q])
   refine Zq6 hN (val:=S.dval x-S.dval y) sx (by omega) ?_ hs (Za (l0 _ _) (Za (l1 _ _) (Za (l3 _ _) Zg))) (by decide) (by simp) (Zne hN hx' hy' sx (by omega) h26' (fun j hj=>hdat j (by omega)) (by omega)) (by decide) (by omega) (by omega);unfold S.signed;rcases sx with rfl | rfl <;> rcases sny with h | h
   ·omega
   ·rw [h];simp;omega
   ·rw [h];simp;omega
   ·omega
 ·have he:nv=ny:=Classical.byContradiction fun q=>hnz (if_neg q)
  refine Zq6 hN (val:=S.dval x+S.dval y) sx (by omega) ?_ hs (Za (l0 _ _) (Za (l1 _ _) (Za (l3 _ _) Zg))) (by decide) (by simp) (Zn9 hN hx' hy' sx h26' (fun j hj=>hdat j (by omega)) (by omega)) (by decide) (by omega) (by omega);rw [<- he];unfold S.signed
  split <;> omega
end
end
section
open Go.RowKit
theorem Zf9 (acc:List Int)(k:Nat)(d:Int)(j:Nat)(hk:k<acc.length):(acc.set k d).getD j 0=if j=k then d else acc.getD j 0:=by
 rw [Ye,List.getElem?_set,Ye];by_cases c:j=k
 ·subst c
  rw [if_pos rfl,if_pos hk,if_pos rfl];rfl
 ·rw [if_neg (fun e=>c e.symm),if_neg c]
section
variable {I:S.Img}(hN:S.NSegs I)
include hN
end
end
section
open Go.RowKit
theorem Zao {a:List Int}(ha:S.Digs a)(n:Nat):S.Digs (a.take n):=fun d hd=>ha d (List.mem_of_mem_take hd)
theorem Zlw {a b:List Int}(i:Nat):(a++b).getD i 0=if i<a.length then a.getD i 0 else b.getD (i-a.length) 0:=by
 split
 ·rename_i h
  rw [Ye,List.getElem?_append_left h,<- Ye]
 ·rename_i h
  rw [Ye,List.getElem?_append_right (by omega),<- Ye]
theorem Zap {a:List Int}{n i:Nat}(h:i<n):(a.take n).getD i 0=a.getD i 0:=by
 rw [Ye,List.getElem?_take_of_lt h,<- Ye]
theorem Zel {a:List Int}(n i:Nat):(a.drop n).getD i 0=a.getD (n+i) 0:=by
 rw [Ye,List.getElem?_drop,<- Ye]
end
section
open Go.RowKit
namespace S
end S
theorem S.Real.mono {I:S.Img}{name:ByteArray}{b:Bool}{st:S.Vw}{d:Int}{R R':Int->S.BO->Nat->Prop}(h:S.Real I name b st d R)(hm:∀ ret o k,R ret o k->R' ret o k):S.Real I name b st d R':=fun V top ret a1 a2 a3 a4 a5 a6 a7=>by
 obtain ⟨o,k,hR,hd⟩:=h V top ret a1 a2 a3 a4 a5 a6 a7;exact ⟨o,k,hm _ _ _ hR,hd⟩
section
variable {I:S.Img}{dep lk:Int}{behind:Bool}{env:List Int}{st:S.Vw}{C:Nat}{Q:List Int->S.Vw->Nat->Prop}{R:S.BO->Nat->Prop}
end
section
variable {st s:S.Vw}{H:Int}{m n j:Nat}{qs acc vd:List Int}
end
section
variable {I:S.Img}(hN:S.NSegs I)
include hN
end
end
section
open Go.RowKit
section
variable {I:S.Img}(hN:S.NSegs I)
include hN
end
theorem Zzz {X Y q r:Int}(hY:0<Y)(h:X=r+q*Y)(h0:0<=r)(h1:r<Y):X/Y=q/\X%Y=r:=by
 have e:X=r+Y*q:=by rw [h,Int.mul_comm]
 constructor
 ·rw [e,Int.add_mul_ediv_left _ _ (by omega),Int.ediv_eq_zero_of_lt h0 h1,Int.zero_add]
 ·rw [e,Int.add_mul_emod_self_left,Int.emod_eq_of_lt h0 h1]
end
section
open Go.RowKit
structure S.Sc (cf:S.Cf)(T:S.Ob->Prop)(X:Int->Prop)(ρ:List S.Ob)(st:S.Vw)(ρ':List S.Ob)(st':S.Vw):Prop where
 ext:∃ δ,ρ'=ρ++δ/\∀ o∈δ,T o
 ch:S.Ch cf ρ' st'
 reg:∀ j,j≠4->j≠5->j≠29->st'.reg j=st.reg j
 mem:∀ a,¬ X a->¬ (cf.fr<=a/\a<cf.fr+cf.hf)->¬ (cf.to_+S.tot ρ<=a/\a<cf.to_+S.tot ρ')->st'.mem a=st.mem a
 root:∀ a,X a->st'.mem a=S.mv cf.to_ ρ' (st.mem a)/\S.Cl cf ρ' (st.mem a)
 new:∀ o∈ρ',o ∉ ρ->∀ ν,S.nw cf.to_ ρ' o.at_=some ν->∀ (k:Nat) (w:Int),o.ws[k]?=some w->st'.mem (ν+(k:Int))=w
 inp:st'.inp=st.inp
 out:st'.out=st.out
def S.a8 (cf:S.Cf)(a:Int):Prop:=¬ (cf.fr<=a/\a<cf.fr+cf.hf)/\¬ (cf.to_<=a/\a<cf.to_+cf.hf)/\a≠2/\a≠4
theorem Zj8 {env:List Int}(h:(env.length:Int)=2):∃ a b,env=[a,b]:=by
 match env,h with
 | [a,b],_=>exact ⟨a,b,rfl⟩
 | [],h=>simp at h
 | [_],h=>simp at h
 | _::_::_::_,h=>simp only [Yi] at h;omega
theorem Zuy:S.chkB S.rScan=0:=by kernel_rfl
section
variable {I:S.Img}(hI:I.Ok){cf:S.Cf}(hc:S.Cf.Ok I cf){T:S.Ob->Prop}
include hI hc
theorem Zuz {ρ:List S.Ob}{st st':S.Vw}(h:S.Ch cf ρ st)(h29:st'.reg 29=st.reg 29)(hm:st'.mem=st.mem):S.Ch cf ρ st' :=
 ⟨h.sub,h.nd,by rw [h29];exact h.r29,by rw [hm];exact h.m2,by rw [hm];exact h.m4,fun o ho hno k w hw=>by rw [hm];exact h.unc o ho hno k w hw,fun o ho ν hν=>by rw [hm];exact h.cop o ho ν hν⟩
theorem S.Sc.refl {X:Int->Prop}(hX:∀ a,¬ X a){ρ:List S.Ob}{st:S.Vw}(h:S.Ch cf ρ st):S.Sc cf T X ρ st ρ st :=
 ⟨⟨[],(List.append_nil _).symm,fun o ho=>by cases ho⟩,h,fun _ _ _ _=>rfl,fun _ _ _ _=>rfl,fun a ha=>absurd ha (hX a),fun o ho hno=>absurd ho hno,rfl,rfl⟩
theorem Zpt {ρ ρ' δ:List S.Ob}(e:ρ'=ρ++δ){w:Int}(hw:S.WOk cf T w)(hcl:S.Cl cf ρ w)(hs:∀ o∈ρ',o∈cf.O):S.mv cf.to_ ρ' w=S.mv cf.to_ ρ w:=by
 unfold S.mv
 split
 ·rename_i hp
  rcases hw.2.2 hp with ⟨o,ho,_,rfl⟩ | hout
  ·obtain ⟨ν,hν⟩:=Zfl (t:=cf.to_) (hcl o ho rfl)
   have e1:(4*o.at_+1)/4=o.at_:=by omega
   rw [e1,hν,e,Zek δ hν]
  ·have none_of:∀ ρ:List S.Ob,(∀ o∈ρ,o∈cf.O)->S.nw cf.to_ ρ (w/4)=none:=fun ρ hs=>by
    cases hq:S.nw cf.to_ ρ (w/4) with
    | none=>rfl
    | some ν =>
     exfalso
     obtain ⟨o,ho,ea,_⟩:=Zf8 hq;have:=hc.obs o (hs o ho);have hl:=Zhl hc (hs o ho);rcases hout with q | q <;> omega
   rw [none_of ρ' hs,none_of ρ fun o ho=>hs o (by rw [e];exact Ya4 _ ho)]
 ·rfl
theorem S.Sc.trans {X Y:Int->Prop}{ρ ρ' ρ2:List S.Ob}{st st' st2:S.Vw}(h:S.Sc cf T X ρ st ρ' st')(k:S.Sc cf T Y ρ' st' ρ2 st2)(hXY:∀ a,X a->¬ Y a)(hX:∀ a,X a->S.a8 cf a)(hY:∀ a,Y a->S.a8 cf a)
 (hw:∀ a,X a->S.WOk cf T (st.mem a)):S.Sc cf T (fun a=>X a\/Y a) ρ st ρ2 st2:=by
 obtain ⟨δ,e,hδ⟩:=h.ext;obtain ⟨δ2,e2,hδ2⟩:=k.ext;have t1:S.tot ρ'=S.tot ρ+S.tot δ:=by rw [e,Zbq]
 have t2:S.tot ρ2=S.tot ρ'+S.tot δ2:=by rw [e2,Zbq]
 have p1:=Zv δ;have p2:=Zv δ2;have p0:=Zv ρ;have hsum:=Zcm ρ2 cf.O k.ch.nd k.ch.sub;have hs:=hc.sum;refine ⟨⟨δ++δ2,by rw [e2,e,List.append_assoc],fun o ho=>(List.mem_append.1 ho).elim (hδ o) (hδ2 o)⟩,k.ch,fun j h4 h5 h29=>(k.reg j h4 h5 h29).trans (h.reg j h4 h5 h29),fun a hx ha hb=>?_,fun a hx=>?_,fun o ho hno ν hν i w hw=>?_,k.inp.trans h.inp,k.out.trans h.out⟩
 ·rw [k.mem a (fun q=>hx (.inr q)) ha (fun q=>hb ⟨by omega,q.2⟩),h.mem a (fun q=>hx (.inl q)) ha (fun q=>hb ⟨q.1,by omega⟩)]
 ·by_cases cx:X a
  ·obtain ⟨q1,q2⟩:=h.root a cx
   have ho:=hX a cx;rw [k.mem a (hXY a cx) ho.1 (fun q=>ho.2.1 ⟨by omega,by omega⟩),q1];exact ⟨(Zpt hI hc e2 (hw a cx) q2 k.ch.sub).symm,fun o hoo he=>by rw [e2];exact Ya4 _ (q2 o hoo he)⟩
  ·have cy:Y a:=hx.resolve_left cx
   have ho:=hY a cy;obtain ⟨q1,q2⟩:=k.root a cy;have e3:st'.mem a=st.mem a:=h.mem a cx ho.1 (fun q=>ho.2.1 ⟨by omega,by omega⟩);rw [e3] at q1 q2;exact ⟨q1,q2⟩
 ·by_cases c:o∈ρ'
  ·obtain ⟨ν',hν'⟩:=Zfl (t:=cf.to_) c
   have:=Zek δ2 hν';rw [<- e2,hν] at this
   cases this
   obtain ⟨_,q1,q2⟩:=Zlv hc h.ch.sub (h.ch.sub o c) hν';have hi:=(Yg.1 hw).1;rw [k.mem (ν+(i:Int)) (fun q=>(hY _ q).2.1 ⟨by omega,by omega⟩) (fun q=>by rcases hc.apart with ap | ap <;> omega) (fun q=>by omega)];exact h.new o c hno _ hν' i w hw
  ·exact k.new o ho c ν hν i w hw
theorem Znf {iM:Nat}(hM:S.Seg I S.kMove iM (S.bItems S.rMove)){dep lk:Int}{behind:Bool}(hd:19<=dep){ρ:List S.Ob}{st:S.Vw}(hch:S.Ch cf ρ st){p:Int}(hp:S.Dat I p)(hw:S.WOk cf T (st.mem p))
 {r:List Int} {c:Nat} {Q:List Int->S.Vw->Nat->Prop} {R:S.BO->Nat->Prop}
 (hQ:∀ ρ' st2 (c':Nat),S.Tr cf T ρ (st.args [st.mem p]) ρ' st2->S.Cl cf ρ' (st.mem p)->(c':Int)<=c+116+40*(S.tot ρ'-S.tot ρ)->Q ((p+1)::r) (st2.sto p (S.mv cf.to_ ρ' (st.mem p))) c') :
 S.wpSs I dep lk behind S.bScan (p::r) st c Q R:=by
 have hsz:=hI.size2;have h0:=hp.1;have h1:=hp.2.1;have ep:S.u32m (p+0)=p:=by unfold S.u32m;omega
 unfold S.bScan;rw [Zbo,Zpp];refine Zbw rfl (Zc2 0) ?_;rw [Z3r];refine Zbw rfl (Z21 (Zc2 0) (by show S.u32m (p+0)<_/\¬ I.stk (S.u32m (p+0));rw [ep];exact Za7 hp)) ?_;have em:S.evE I lk (p::r) st (S.eM (S.eL 0) 0)=st.mem p:=by
  show st.mem (S.u32m (p+0))=_
  rw [ep]
 rw [em];have hch2:S.Ch cf ρ (st.args [st.mem p]):=Zuz hI hc hch rfl rfl;refine ⟨19,_,Zv8 hI hc hM hch2 (w:=st.mem p) rfl hw,hd,fun ret o k hR=>?_⟩;obtain ⟨st2,ρ',rfl,htr,h4,hcl,hk⟩:=hR
 show S.u32m (p+0)<I.size/\¬ I.stk (S.u32m (p+0))/\¬ I.code (S.u32m (p+0))/\_
 rw [ep];refine ⟨hp.2.1,hp.2.2.1,hp.2.2.2,?_⟩;rw [h4,show S.u32m (S.evE I lk (p::r) st (S.eL 0)+0)=p from ep];refine Zfa rfl (Zfj (by decide) (Zc2 0) (Ze9 1)) (Zbp ?_);have e1:S.evE I lk (p::r) (st2.sto p (S.mv cf.to_ ρ' (st.mem p))) (S.eAdd (S.eL 0) (S.eC 1))=p+1:=by
  show S.alu 1 p (1%4294967296)=_
  rw [Zau];unfold S.u32m;omega
 rw [e1];refine hQ ρ' st2 _ htr hcl ?_;have q1:S.coE (S.eL 0)=1:=rfl;have q2:S.coE (S.eM (S.eL 0) 0)=2:=rfl;have q3:S.coE (S.eAdd (S.eL 0) (S.eC 1))=4:=rfl;simp only [Yi,Yab];omega
theorem Z33 {ρ ρ':List S.Ob}{st st2:S.Vw}{p:Int}(hp:S.a8 cf p)(ho:∀ o∈cf.O,True)(htr:S.Tr cf T ρ (st.args [st.mem p]) ρ' st2)(hcl:S.Cl cf ρ' (st.mem p)) :
 S.Sc cf T (fun a=>a=p) ρ st ρ' (st2.sto p (S.mv cf.to_ ρ' (st.mem p))):=by
 have hm:∀ a,(st2.sto p (S.mv cf.to_ ρ' (st.mem p))).mem a=if a=p then S.mv cf.to_ ρ' (st.mem p) else st2.mem a:=fun _=>rfl
 have hsum:=Zcm ρ' cf.O htr.ch.nd htr.ch.sub;have hs:=hc.sum;have h0:=Zv ρ';refine ⟨htr.ext,⟨htr.ch.sub,htr.ch.nd,htr.ch.r29,?_,?_,fun o ho hno k w hw=>?_,fun o ho ν hν=>?_⟩,fun j h4 h5 h29=>?_,fun a hx ha hb=>?_,fun a hx=>?_,fun o ho hno ν hν k w hw=>?_,htr.inp,htr.out⟩
 ·rw [hm,if_neg (Ne.symm hp.2.2.1)];exact htr.ch.m2
 ·rw [hm,if_neg (Ne.symm hp.2.2.2)];exact htr.ch.m4
 ·have:=hc.obs o ho
  have hk:=(Yg.1 hw).1;rw [hm,if_neg (fun e=>hp.1 ⟨by omega,by omega⟩)];exact htr.ch.unc o ho hno k w hw
 ·have:=hc.obs o (htr.ch.sub o ho)
  have hl:=Zhl hc (htr.ch.sub o ho);rw [hm,if_neg (fun e=>hp.1 ⟨by omega,by omega⟩)];exact htr.ch.cop o ho ν hν
 ·show st2.reg j=st.reg j
  rw [htr.reg j h4 h5 h29]
  show (if 4<=j/\j<4+(1:Nat) then _ else st.reg j)=_
  rw [if_neg (by omega)]
 ·rw [hm,if_neg hx]
  exact htr.mem a ha hb
 ·subst hx
  rw [hm,if_pos rfl];exact ⟨rfl,hcl⟩
 ·obtain ⟨_,q1,q2⟩:=Zlv hc htr.ch.sub (htr.ch.sub o ho) hν
  have hk:=(Yg.1 hw).1;rw [hm,if_neg (fun e=>hp.2.1 ⟨by omega,by omega⟩)];exact htr.new o ho hno ν hν k w hw
def S.cg (cf:S.Cf)(T:S.Ob->Prop)(a b:Int)(ρ:List S.Ob)(st:S.Vw)(o:S.BO)(k:Nat):Prop :=
 ∃ st' ρ',o=.ret st'/\S.Sc cf T (fun x=>a<=x/\x<b) ρ st ρ' st'/\(k:Int)<=30+130*(if a<b then b-a else 0)+40*(S.tot ρ'-S.tot ρ)
theorem Zu0 {iM iS:Nat}(hM:S.Seg I S.kMove iM (S.bItems S.rMove))(hS:S.Seg I S.kScan iS (S.bItems S.rScan)){ρ:List S.Ob}{st:S.Vw}(hch:S.Ch cf ρ st){a b:Int}(ha:st.reg 4=a)(hb:st.reg 5=b)(hb0:0<=a/\0<=b/\b<=335544320)
 (hdat:∀ x,a<=x->x<b->S.Dat I x/\S.a8 cf x) (hw:∀ x,a<=x->x<b->S.WOk cf T (st.mem x)) :
 S.Real I S.kScan false st 36 (fun _ o k=>S.cg cf T a b ρ st o k):=by
 have hp1:(1:Nat)=1:=rfl;refine Zg4 hI S.rScan Zuy hS (dep:=19) (by decide) st _ fun lk env _ _ hl hp=>?_
 obtain ⟨e0,e1,rfl⟩:=Zj8 hl;have h0:e0=st.reg 4:=hp 0 (show (0:Int)<2 by decide);have h1:e1=st.reg 5:=hp 1 (show (1:Int)<2 by decide);rw [ha] at h0;rw [hb] at h1;subst h0 h1;unfold S.rScan;simp only;refine Zur rfl (fun env st' c k=>∃ (i:Nat) (ρ':List S.Ob),(i=0\/e0+i<=e1)/\k=(e1-e0).toNat-i/\env=[e0+i,e1]/\S.Sc cf T (fun x=>e0<=x/\x<e0+i) ρ st ρ' st'/\(c:Int)<=6+127*i+40*(S.tot ρ'-S.tot ρ))
  (k0:=(e1-e0).toNat) ⟨0,ρ,.inl rfl,by omega,by simp,S.Sc.refl hI hc (fun x hx=>by omega) hch,by simp⟩ ?_
 rintro env st' c k ⟨i,ρ',hi,rfl,rfl,hsc,hcc⟩;have elt:S.evE I lk [e0+(i:Int),e1] st' (S.eLt (S.eL 0) (S.eL 1))=if e0+(i:Int)<e1 then 1 else 0:=by
  show S.alu 14 (e0+(i:Int)) e1=_
  exact Zcl _ _
 refine ⟨Zfj (by decide) (Zc2 0) (Zc2 1),fun hz=>?_,fun hnz=>?_⟩
 ·have hnlt:¬ e0+(i:Int)<e1:=fun h=>by rw [elt,if_pos h] at hz;cases hz
  refine Zbp ⟨st',ρ',rfl,?_,?_⟩
  ·have heq:(fun x=>e0<=x/\x<e0+(i:Int))=fun x=>e0<=x/\x<e1:=by
    funext x
    refine propext ⟨fun q=>?_,fun q=>?_⟩
    ·rcases hi with rfl | hi
     ·exact absurd q (by omega)
     ·omega
    ·rcases hi with rfl | hi
     ·omega
     ·omega
   rw [<- heq];exact hsc
  ·have q1:S.coE (S.eLt (S.eL 0) (S.eL 1))=3:=rfl
   simp only [Bool.false_eq_true,if_false];rcases hi with rfl | hi
   ·rw [if_neg (by omega)]
    omega
   ·by_cases h:e0<e1
    ·rw [if_pos h];omega
    ·rw [if_neg h];omega
 ·have hlt:e0+(i:Int)<e1:=Classical.byContradiction fun h=>by
   rw [elt,if_neg h] at hnz;exact hnz rfl
  obtain ⟨hd,hout⟩:=hdat (e0+i) (by omega) hlt;have hsum:=Zcm ρ' cf.O hsc.ch.nd hsc.ch.sub;have hs:=hc.sum;have t0:=Zv ρ;have hsame:st'.mem (e0+i)=st.mem (e0+i):=hsc.mem _ (by omega) hout.1 (fun q=>hout.2.1 ⟨by omega,by omega⟩);refine Znf hI hc hM (Y4 _) hsc.ch hd (T:=T) (by rw [hsame];exact hw _ (by omega) hlt) fun ρ2 st2 c' htr hcl hcc'=>?_
  have hone:=Z33 hI hc hout (fun _ _=>trivial) htr hcl;have htrans:=S.Sc.trans hI hc hsc hone (fun x hx e=>by omega) (fun x hx=>(hdat x hx.1 (by omega)).2) (fun x hx=>by rw [hx];exact hout) (fun x hx=>hw x hx.1 (by omega));refine ⟨(e1-e0).toNat-(i+1),by omega,i+1,ρ2,.inr (by omega),rfl,by congr 1;omega,?_,?_⟩
  ·have heq:(fun x=>(e0<=x/\x<e0+(i:Int))\/x=e0+(i:Int))=fun x=>e0<=x/\x<e0+((i+1:Nat):Int):=by
    funext x
    refine propext ⟨fun q=>by omega,fun q=>by omega⟩
   rw [<- heq];exact htrans
  ·have q1:S.coE (S.eLt (S.eL 0) (S.eL 1))=3:=rfl
   omega
end
end
section
open Go.RowKit
theorem Zsa:S.chkB S.rFrame=0:=by kernel_rfl
theorem Z7j {env:List Int}(h:(env.length:Int)=5):∃ a b c d e,env=[a,b,c,d,e]:=by
 match env,h with
 | [a,b,c,d,e],_=>exact ⟨a,b,c,d,e,rfl⟩
 | [],h=>simp at h
 | [_],h=>simp at h
 | [_,_],h=>simp at h
 | [_,_,_],h=>simp at h
 | [_,_,_,_],h=>simp at h
 | _::_::_::_::_::_::_,h=>simp only [Yi] at h;omega
def S.b7 (w:Int)(i:Nat):Bool:=w/2^i%2==1
def S.Sl (s w:Int)(i:Nat)(x:Int):Prop:=∃ j:Nat,j<i/\x=s+j/\S.b7 w j=true
theorem Z1m (s w:Int)(x:Int):¬ S.Sl s w 0 x:=fun ⟨j,h,_⟩=>by omega
theorem sl_step {s w:Int}{i:Nat}{x:Int}:S.Sl s w (i+1) x↔S.Sl s w i x\/(x=s+i/\S.b7 w i=true):=by
 constructor
 ·rintro ⟨j,h,rfl,hb⟩
  by_cases c:j=i
  ·subst c;exact .inr ⟨rfl,hb⟩
  ·exact .inl ⟨j,by omega,rfl,hb⟩
 ·rintro (⟨j,h,rfl,hb⟩ | ⟨rfl,hb⟩)
  ·exact ⟨j,by omega,rfl,hb⟩
  ·exact ⟨i,by omega,rfl,hb⟩
theorem Zu1 (w:Int)(i:Nat):w/2^i/2=w/2^(i+1):=by
 rw [Int.ediv_ediv_of_nonneg (Ya2 (Yaw (by decide))),Int.pow_succ]
section
variable {I:S.Img}(hI:I.Ok){cf:S.Cf}(hc:S.Cf.Ok I cf){T:S.Ob->Prop}
include hI hc
theorem Zu2 {X:Int->Prop}{ρ ρ':List S.Ob}{st st':S.Vw}{l:List Int}(hl:l.length<=2)(h:S.Sc cf T X ρ (st.args l) ρ' st'):S.Sc cf T X ρ st ρ' st' :=
 ⟨h.ext,h.ch,fun j h4 h5 h29=>by
  rw [h.reg j h4 h5 h29]
  show (if 4<=j/\j<4+(l.length:Int) then _ else st.reg j)=_
  rw [if_neg (by omega)],h.mem,h.root,h.new,h.inp,h.out⟩
theorem Zhm {X Y:Int->Prop}(e:∀ x,X x↔Y x){ρ ρ':List S.Ob}{st st':S.Vw}(h:S.Sc cf T X ρ st ρ' st'):S.Sc cf T Y ρ st ρ' st':=by
 have:X=Y:=funext fun x=>propext (e x)
 subst this;exact h
theorem Zlx {iM iS:Nat}(hM:S.Seg I S.kMove iM (S.bItems S.rMove))(hS:S.Seg I S.kScan iS (S.bItems S.rScan)){dep lk:Int}{behind:Bool}(hd:36<=dep){X:Int->Prop}{ρ0 ρ:List S.Ob}{st0 st:S.Vw}(hsc:S.Sc cf T X ρ0 st0 ρ st)
 {a b:Int} {l:List S.BE} {env:List Int} (hp:S.pureEs l=true) (hok:S.okEs I lk env st l) (he:S.evEs I lk env st l=[a,b]) (hb0:0<=a/\0<=b/\b<=335544320)
 (hdat:∀ x,a<=x->x<b->S.Dat I x/\S.a8 cf x) (hw:∀ x,a<=x->x<b->S.WOk cf T (st0.mem x)) (hX:∀ x,X x->S.a8 cf x/\S.WOk cf T (st0.mem x)/\¬ (a<=x/\x<b))
 {r:List S.BS} {c:Nat} {Q:List Int->S.Vw->Nat->Prop} {R:S.BO->Nat->Prop}
 (hQ:∀ ρ' st' (c':Nat),S.Sc cf T (fun x=>X x\/(a<=x/\x<b)) ρ0 st0 ρ' st'->0<=S.tot ρ'-S.tot ρ->(c':Int)<=c+S.coEs l+36+130*(if a<b then b-a else 0)+40*(S.tot ρ'-S.tot ρ)->S.wpSs I dep lk behind r env st' c' Q R) :
 S.wpSs I dep lk behind (S.sDo (S.eF S.kScan l)::r) env st c Q R:=by
 have hsum:=Zcm ρ cf.O hsc.ch.nd hsc.ch.sub;have hs:=hc.sum;have t0:=Zv ρ0;have hcha:S.Ch cf ρ (st.args [a,b]):=Zuz hI hc hsc.ch rfl rfl;have hsame:∀ x,a<=x->x<b->st.mem x=st0.mem x:=fun x h1 h2=>by
  obtain ⟨_,ho⟩:=hdat x h1 h2;exact hsc.mem x (fun q=>(hX x q).2.2 ⟨h1,h2⟩) ho.1 (fun q=>ho.2.1 ⟨by omega,by omega⟩)
 refine Z1j hp hok (d:=36) (T:=fun _ o k=>S.cg cf T a b ρ (st.args [a,b]) o k) (by rw [he];exact Zu0 hI hc hM hS hcha rfl rfl hb0 hdat fun x h1 h2=>by show S.WOk cf T (st.mem x);rw [hsame x h1 h2];exact hw x h1 h2) hd fun ret o k hR=>?_
 obtain ⟨st',ρ',rfl,h1,hk⟩:=hR;have h2:=Zu2 hI hc (by simp) h1;obtain ⟨δ,e,_⟩:=h2.ext;have:=Zv δ;refine hQ ρ' st' _ (S.Sc.trans hI hc hsc h2 (fun x hx q=>(hX x hx).2.2 q) (fun x hx=>(hX x hx).1) (fun x hx=>(hdat x hx.1 hx.2).2) (fun x hx=>(hX x hx).2.1)) (by rw [e,Zbq];omega) ?_;rw [he];simp only [Yi,Yab];omega
theorem Zpu {iM iS:Nat}(hM:S.Seg I S.kMove iM (S.bItems S.rMove))(hS:S.Seg I S.kScan iS (S.bItems S.rScan)){dep lk:Int}{behind:Bool}(hd:36<=dep){X:Int->Prop}{ρ0 ρ:List S.Ob}{st0 st:S.Vw}(hsc:S.Sc cf T X ρ0 st0 ρ st)
 {a e1 s w:Int} (hw0:0<=w/\w<4294967296) (hs0:0<=s/\s+32<=335544320) (hdat:∀ j:Nat,j<32->S.b7 w j=true->S.Dat I (s+j)/\S.a8 cf (s+j)/\S.WOk cf T (st0.mem (s+j)))
 (hX:∀ x,X x->S.a8 cf x/\S.WOk cf T (st0.mem x)/\¬ (s<=x/\x<s+32))
 {r:List S.BS} {c:Nat} {Q:List Int->S.Vw->Nat->Prop} {R:S.BO->Nat->Prop}
 (hQ:∀ ρ' st' w' (c':Nat),S.Sc cf T (fun x=>X x\/S.Sl s w 32 x) ρ0 st0 ρ' st'->0<=S.tot ρ'-S.tot ρ->(c':Int)<=c+10000+40*(S.tot ρ'-S.tot ρ)->S.wpSs I dep lk behind r [a,e1,s+32,w',s+32] st' c' Q R) :
 S.wpSs I dep lk behind (S.sWh (S.eLt (S.eL 2) (S.eL 4))
  [S.sWhen (S.eAnd (S.eL 3) (S.eC 1)) [S.sDo (S.eF S.kScan [S.eL 2,S.eAdd (S.eL 2) (S.eC 1)])],
   S.sAs 3 (S.eShr (S.eL 3) 1),S.sAs 2 (S.eAdd (S.eL 2) (S.eC 1))]::r) [a,e1,s,w,s+32] st c Q R:=by
 have hs:=hc.sum;refine Zur rfl (fun env st' c' k=>∃ (i:Nat) (ρ':List S.Ob),i<=32/\k=32-i/\env=[a,e1,s+i,w/2^i,s+32]/\S.Sc cf T (fun x=>X x\/S.Sl s w i x) ρ0 st0 ρ' st'/\0<=S.tot ρ'-S.tot ρ/\(c':Int)<=c+250*i+40*(S.tot ρ'-S.tot ρ))
  (k0:=32) ⟨0,ρ,by omega,rfl,by simp,Zhm hI hc (fun x=>⟨.inl,fun h=>h.resolve_right (Z1m s w x)⟩) hsc,by omega,by simp⟩ ?_
 rintro env st' c' k ⟨i,ρ',hi,rfl,rfl,hsc',hg,hcc⟩;have elt:S.evE I lk [a,e1,s+(i:Int),w/2^i,s+32] st' (S.eLt (S.eL 2) (S.eL 4))=if s+(i:Int)<s+32 then 1 else 0:=by
  show S.alu 14 (s+(i:Int)) (s+32)=_
  exact Zcl _ _
 have q1:S.coE (S.eLt (S.eL 2) (S.eL 4))=3:=rfl;refine ⟨Zfj (by decide) (Zc2 2) (Zc2 4),fun hz=>?_,fun hnz=>?_⟩
 ·have h32:i=32:=by
   refine Classical.byContradiction fun h=>?_
   rw [elt,if_pos (by omega)] at hz
   cases hz
  subst h32;exact hQ ρ' st' _ _ hsc' hg (by rw [q1];omega)
 ·have hlt:i<32:=Classical.byContradiction fun h=>by
   rw [elt,if_neg (by omega)] at hnz;exact hnz rfl
  have hwi0:0<=w/2^i:=Int.ediv_nonneg hw0.1 (Ya2 (Yaw (by decide)));have hwi1:w/2^i<4294967296:=Int.lt_of_le_of_lt (Int.ediv_le_self _ hw0.1) hw0.2;have eand:S.evE I lk [a,e1,s+(i:Int),w/2^i,s+32] st' (S.eAnd (S.eL 3) (S.eC 1))=w/2^i%2:=by
   show S.alu 7 (w/2^i) (1%4294967296)=_
   exact Z7e hwi0 hwi1
  have ea:∀ st,S.evE I lk [a,e1,s+(i:Int),w/2^(i+1),s+32] st (S.eAdd (S.eL 2) (S.eC 1))=s+((i+1:Nat):Int):=fun st=>by
   show S.alu 1 (s+(i:Int)) (1%4294967296)=_
   rw [Zau];unfold S.u32m;omega
  have eb:∀ st,S.evE I lk [a,e1,s+(i:Int),w/2^i,s+32] st (S.eAdd (S.eL 2) (S.eC 1))=s+((i+1:Nat):Int):=fun st=>by
   show S.alu 1 (s+(i:Int)) (1%4294967296)=_
   rw [Zau];unfold S.u32m;omega
  have esh:∀ st,S.evE I lk [a,e1,s+(i:Int),w/2^i,s+32] st (S.eShr (S.eL 3) 1)=w/2^(i+1):=fun st=>by
   show S.alu 11 (w/2^i) (1%4294967296)=_
   rw [Z7f,Zu1]
  have q2:S.coE (S.eShr (S.eL 3) 1)=4:=rfl;have q3:S.coE (S.eAdd (S.eL 2) (S.eC 1))=4:=rfl;have q4:S.coE (S.eAnd (S.eL 3) (S.eC 1))=4:=rfl;have fin:∀ (ρ2:List S.Ob) (st2:S.Vw) (c2:Nat),S.Sc cf T (fun x=>X x\/S.Sl s w (i+1) x) ρ0 st0 ρ2 st2->0<=S.tot ρ2-S.tot ρ->(c2:Int)<=c+250*i+220+40*(S.tot ρ2-S.tot ρ) ->
   S.wpSs I dep lk behind [S.sAs 3 (S.eShr (S.eL 3) 1),S.sAs 2 (S.eAdd (S.eL 2) (S.eC 1))] [a,e1,s+(i:Int),w/2^i,s+32] st2 c2 (fun Zj8 st2 c2=>∃ k2,k2<32-i/\∃ (i:Nat) (ρ':List S.Ob),i<=32/\k2=32-i/\Zj8=[a,e1,s+i,w/2^i,s+32]/\S.Sc cf T (fun x=>X x\/S.Sl s w i x) ρ0 st0 ρ' st2/\0<=S.tot ρ'-S.tot ρ/\((c2+3:Nat):Int)<=c+250*i+40*(S.tot ρ'-S.tot ρ)) R:=by
   intro ρ2 st2 c2 h1 h2 h3;refine Zfa rfl (Zfj (by decide) (Zc2 3) (Ze9 1)) ?_;rw [esh];refine Zfa rfl (Zfj (by decide) (Zc2 2) (Ze9 1)) (Zbp ?_);refine ⟨32-(i+1),by omega,i+1,ρ2,by omega,rfl,?_,h1,h2,by rw [q2,q3];omega⟩;exact congrArg (fun z=>[a,e1,z,w/2^(i+1),s+32]) (ea st2)
  refine Zls rfl (Zfj (by decide) (Zc2 3) (Ze9 1)) (fun hz=>?_) (fun hnz=>?_)
  ·rw [eand] at hz
   refine Zbp (fin ρ' st' _ (Zhm hI hc (fun x=>⟨fun h=>h.imp id fun q=>sl_step.2 (.inl q),fun h=>h.imp id fun q=>(sl_step.1 q).resolve_right fun q=>?_⟩) hsc') hg (by rw [q1,q4];omega));have:=q.2;unfold S.b7 at this;rw [hz] at this
   cases this
  ·rw [eand] at hnz
   have hbit:S.b7 w i=true:=by
    unfold S.b7;rw [show w/2^i%2=1 from by omega];rfl
   obtain ⟨d1,d2,d3⟩:=hdat i hlt hbit;refine Zlx hI hc hM hS hd hsc' (a:=s+i) (b:=s+((i+1:Nat):Int)) (l:=[S.eL 2,S.eAdd (S.eL 2) (S.eC 1)]) rfl ⟨Zc2 2,Zfj (by decide) (Zc2 2) (Ze9 1),trivial⟩ (by show [_,_]=_;rw [eb];rfl) (by omega)
    (fun x h1 h2=>by
     have:x=s+i:=by omega
     rw [this];exact ⟨d1,d2⟩) (fun x h1 h2=>by
     have:x=s+i:=by omega
     rw [this];exact d3) (fun x hx=>?_) fun ρ2 st2 c2 h1 h2 h3=>Zbp (fin ρ2 st2 _ (Zhm hI hc (fun x=>?_) h1) (by omega) ?_)
   ·rcases hx with hx | ⟨j,hj,rfl,hb⟩
    ·exact ⟨(hX x hx).1,(hX x hx).2.1,fun q=>(hX x hx).2.2 ⟨by omega,by omega⟩⟩
    ·obtain ⟨_,g2,g3⟩:=hdat j (by omega) hb
     exact ⟨g2,g3,fun q=>by omega⟩
   ·rw [or_assoc]
    refine or_congr Iff.rfl (Iff.trans ?_ sl_step.symm);exact or_congr Iff.rfl ⟨fun q=>⟨by omega,hbit⟩,fun q=>⟨by omega,by omega⟩⟩
   ·have q5:S.coEs [S.eL 2,S.eAdd (S.eL 2) (S.eC 1)]=5:=rfl
    rw [q5,if_pos (by omega)] at h3;rw [q1,q4] at h3;omega
structure S.dc (I:S.Img)(cf:S.Cf)(T:S.Ob->Prop)(mem:Int->Int)(a:Int)(n:Nat):Prop where
 a0:0<=a
 n31:n<=31
 len:mem a=n
 rd:∀ j:Nat,j<=n->a+j<I.size/\¬ I.stk (a+j)/\S.a8 cf (a+j)
 off:a+n<32\/32+32*n<=a
 word:∀ j:Nat,j<n->0<=mem (a+1+j)/\mem (a+1+j)<4294967296
 slot:∀ j i:Nat,j<n->i<32->S.b7 (mem (a+1+j)) i=true->S.WOk cf T (mem (32+32*j+i))
def S.FX (mem:Int->Int)(a:Int)(n:Nat)(x:Int):Prop:=∃ j:Nat,j<n/\S.Sl (32+32*j) (mem (a+1+j)) 32 x
def S.cm (cf:S.Cf)(T:S.Ob->Prop)(a:Int)(n:Nat)(ρ:List S.Ob)(st:S.Vw)(o:S.BO)(k:Nat):Prop :=
 ∃ st' ρ',o=.ret st'/\S.Sc cf T (S.FX st.mem a n) ρ st ρ' st'/\(k:Int)<=60+10100*n+40*(S.tot ρ'-S.tot ρ)
theorem Zdu {mem:Int->Int}{a:Int}{n:Nat}{x:Int}(h:S.FX mem a n x):32<=x/\x<32+32*n:=by
 obtain ⟨j,hj,i,hi,rfl,_⟩:=h;omega
theorem Zsb {iM iS iF:Nat}(hM:S.Seg I S.kMove iM (S.bItems S.rMove))(hS:S.Seg I S.kScan iS (S.bItems S.rScan))(hF:S.Seg I S.kFrame iF (S.bItems S.rFrame)){ρ:List S.Ob}{st:S.Vw}(hch:S.Ch cf ρ st){a:Int}{n:Nat}(ha:st.reg 4=a)(hm:S.dc I cf T st.mem a n) :
 S.Real I S.kFrame false st 56 (fun _ o k=>S.cm cf T a n ρ st o k):=by
 refine Zg4 hI S.rFrame Zsa hF (dep:=36) (by decide) st _ fun lk env _ _ hl hp=>?_
 obtain ⟨e0,e1,e2,e3,e4,rfl⟩:=Z7j hl;have h0:e0=st.reg 4:=hp 0 (show (0:Int)<1 by decide);rw [ha] at h0;subst h0;have hs:=hc.sum;have hsz:=hI.size2;have hm0:=hm.a0;have hn:=hm.n31;have hout0:∀ x,32<=x->x<1056->S.a8 cf x:=fun x h1 h2=>⟨fun q=>by have:=hc.fr0;omega,fun q=>by have:=hc.to0;omega,by omega,by omega⟩
 have hrd:∀ j:Nat,j<=n->e0+j<I.size/\¬ I.stk (e0+j):=fun j hj=>⟨(hm.rd j hj).1,(hm.rd j hj).2.1⟩
 unfold S.rFrame;simp only;have hua:S.u32m (e0+0)=e0:=by have:=(hrd 0 (by omega)).1;unfold S.u32m;omega
 have okm:∀ env st,S.u32m (S.evE I lk env st (S.eL 0)+0)=e0->S.okE I lk env st (S.eM (S.eL 0) 0):=fun env st h=>Z21 (Zc2 0) (by rw [h];have:=hrd 0 (by omega);simpa using this)
 refine Zfa rfl (Zfj (by decide) (Zc2 0) (okm _ _ hua)) ?_;have ev1:S.evE I lk [e0,e1,e2,e3,e4] st (S.eAdd (S.eL 0) (S.eM (S.eL 0) 0))=e0+n:=by
  show S.alu 1 e0 (st.mem (S.u32m (e0+0)))=_
  rw [hua,hm.len,Zau];have:=(hrd n (by omega)).1;unfold S.u32m;omega
 rw [ev1];refine Zfa rfl (Ze9 32) ?_;have hset:([e0,e1,e2,e3,e4].set (Yca 1) (e0+n)).set (Yca 2) (S.evE I lk ([e0,e1,e2,e3,e4].set (Yca 1) (e0+n)) st (S.eC 32))=[e0,e0+n,32,e3,e4]:=rfl;rw [hset];refine Zur rfl (fun env st' c' k=>∃ (j:Nat) (ρ':List S.Ob) (e3 e4:Int),j<=n/\k=n-j/\env=[e0+j,e0+n,32+32*j,e3,e4]/\S.Sc cf T (S.FX st.mem e0 j) ρ st ρ' st'/\0<=S.tot ρ'-S.tot ρ/\(c':Int)<=30+10100*j+40*(S.tot ρ'-S.tot ρ))
  (k0:=n) ⟨0,ρ,e3,e4,by omega,by omega,by simp,S.Sc.refl hI hc (fun x ⟨j,h,_⟩=>by omega) hch,by omega,by
   have q1:S.coE (S.eAdd (S.eL 0) (S.eM (S.eL 0) 0))=4:=rfl;have q2:S.coE (S.eC 32)=2:=rfl;rw [q1,q2]
   show ((3+4+1+2+1:Nat):Int)<=_
   omega⟩ ?_
 rintro env st' c' k ⟨j,ρ',e3,e4,hj,rfl,rfl,hsc,hg,hcc⟩;have q1:S.coE (S.eLt (S.eL 0) (S.eL 1))=3:=rfl;have elt:S.evE I lk [e0+(j:Int),e0+n,32+32*(j:Int),e3,e4] st' (S.eLt (S.eL 0) (S.eL 1))=if e0+(j:Int)<e0+n then 1 else 0:=by
  show S.alu 14 (e0+(j:Int)) (e0+n)=_
  exact Zcl _ _
 refine ⟨Zfj (by decide) (Zc2 0) (Zc2 1),fun hz=>?_,fun hnz=>?_⟩
 ·have he:j=n:=by
   refine Classical.byContradiction fun h=>?_
   rw [elt,if_pos (by omega)] at hz
   cases hz
  subst he;exact Zbp ⟨st',ρ',rfl,hsc,by rw [q1];simp only [Bool.false_eq_true,if_false];omega⟩
 ·have hlt:j<n:=Classical.byContradiction fun h=>by
   rw [elt,if_neg (by omega)] at hnz;exact hnz rfl
  have hsum:=Zcm ρ' cf.O hsc.ch.nd hsc.ch.sub;have t0:=Zv ρ;have hrj:=hrd (j+1) (by omega);refine Zfa rfl (Zfj (by decide) (Zc2 0) (Ze9 1)) ?_;have ev2:S.evE I lk [e0+(j:Int),e0+n,32+32*(j:Int),e3,e4] st' (S.eAdd (S.eL 0) (S.eC 1))=e0+((j+1:Nat):Int):=by
   show S.alu 1 (e0+(j:Int)) (1%4294967296)=_
   rw [Zau];unfold S.u32m;omega
  rw [ev2];have huj:S.u32m (e0+((j+1:Nat):Int)+0)=e0+((j+1:Nat):Int):=by unfold S.u32m;omega
  refine Zfa (e:=S.eM (S.eL 0) 0) rfl (Z21 (Zc2 0) (by show S.u32m (e0+((j+1:Nat):Int)+0)<_/\¬ I.stk (S.u32m (e0+((j+1:Nat):Int)+0));rw [huj];exact hrj)) ?_;obtain ⟨w,hw⟩:=Yx (st.mem (e0+1+j));have ev3:S.evE I lk ([e0+(j:Int),e0+n,32+32*(j:Int),e3,e4].set (Yca 0) (e0+((j+1:Nat):Int))) st' (S.eM (S.eL 0) 0)=w:=by
   show st'.mem (S.u32m (e0+((j+1:Nat):Int)+0))=_
   have ho:=(hm.rd (j+1) (by omega)).2.2;rw [huj,hsc.mem _ (fun q=>by have:=Zdu hI hc q;have:=hm.off;omega) ho.1 (fun q=>ho.2.1 ⟨by omega,by omega⟩),hw]
   congr 1
   omega
  rw [ev3];have hset2:([e0+(j:Int),e0+n,32+32*(j:Int),e3,e4].set (Yca 0) (e0+((j+1:Nat):Int))).set (Yca 3) w=[e0+((j+1:Nat):Int),e0+n,32+32*(j:Int),w,e4]:=rfl;rw [hset2];have q5:S.coE (S.eQ (S.eL 2) (S.eC 1056))=3+3:=by decide
  refine Zls rfl (Z1i (Zc2 2) (Ze9 1056)) (fun _=>Zbp ?_) (fun hq=>?_)
  ·refine Zfa rfl (Zfj (by decide) (Zc2 2) (Ze9 32)) ?_
   have ev4:S.evE I lk [e0+((j+1:Nat):Int),e0+n,32+32*(j:Int),w,e4] st' (S.eAdd (S.eL 2) (S.eC 32))=32+32*(j:Int)+32:=by
    show S.alu 1 (32+32*(j:Int)) (32%4294967296)=_
    rw [Zau];unfold S.u32m;omega
   rw [ev4];have hset3:[e0+((j+1:Nat):Int),e0+n,32+32*(j:Int),w,e4].set (Yca 4) (32+32*(j:Int)+32)=[e0+((j+1:Nat):Int),e0+n,32+32*(j:Int),w,32+32*(j:Int)+32]:=rfl;rw [hset3];have q2:S.coE (S.eAdd (S.eL 0) (S.eC 1))=4:=rfl;have q3:S.coE (S.eM (S.eL 0) 0)=2:=rfl;have q4:S.coE (S.eAdd (S.eL 2) (S.eC 32))=4:=rfl;refine Zpu hI hc hM hS (Y4 _) hsc (hw ▸ hm.word j hlt) (by omega) (fun i hi hb=>⟨hc.low _ (by omega) (by omega),hout0 _ (by omega) (by omega),hm.slot j i hlt hi (hw ▸ hb)⟩)
    (fun x hx=>⟨hout0 x (by have:=Zdu hI hc hx;omega) (by have:=Zdu hI hc hx;omega),?_,by have:=Zdu hI hc hx;omega⟩) fun ρ2 st2 w' c2 h1 h2 h3=>Zbp ?_
   ·obtain ⟨q,hq,i,hi,rfl,hb⟩:=hx
    exact hm.slot q i (by omega) hi hb
   ·refine ⟨n-(j+1),by omega,j+1,ρ2,w',32+32*(j:Int)+32,hlt,rfl,?_,Zhm hI hc (fun x=>?_) h1,by omega,by rw [q1,q2,q3,q4,q5] at h3;omega⟩
    ·exact congrArg (fun z=>[e0+((j+1:Nat):Int),e0+n,z,w',32+32*(j:Int)+32]) (by omega)
    ·constructor
     ·rintro (⟨q,hq,g⟩ | g)
      ·exact ⟨q,by omega,g⟩
      ·exact ⟨j,by omega,hw ▸ g⟩
     ·rintro ⟨q,hq,g⟩
      by_cases c:q=j
      ·subst c;exact .inr (hw ▸ g)
      ·exact .inl ⟨q,by omega,g⟩
  ·exfalso
   refine hq ?_
   show (if 32+32*(j:Int)=1056%4294967296 then (1:Int) else 0)=0
   rw [if_neg (by omega)]
end
end
end Go.Proofs.YtfhiobkkdcdmiaaGreatDoor
