/- Parts. -/
import Derived.Test.YtlldagdhlfpihaaGreatDoorZGLay
import Derived.WalkKit
import Derived.WalkSpells
import Derived.WalkLawsBesides
import Derived.Deep.QuietTactic
import Derived.BigQuiet
import Derived.LoopN
import Derived.Maps.AppendAt
import Derived.Lib.Hide
set_option linter.unusedVariables false
set_option linter.unusedSimpArgs false
set_option linter.unusedSectionVars false
namespace Go.Proofs.YtlldagdhlfpihaaGreatDoor
section
open Go.RowKit
def lenV:Value->Nat
 | .slice _ n _=>n
 | _=>0
end
section
open Go.RowKit
namespace S
end S
section
variable {I:S.Img}{dep lk:Int}{env:List Int}{at_:Nat}{st:S.Vw}{c:Nat}{Q:Int->S.Vw->Nat->Prop}{H:Int->S.Vw->Nat->Prop}
end
section
variable {I:S.Img}{dep lk:Int}{behind:Bool}{env:List Int}{st:S.Vw}{c:Nat}{Q:List Int->S.Vw->Nat->Prop}{R:S.BO->Nat->Prop}
theorem wpS_hlt (e:S.BE):S.wpS I dep lk behind (S.sHlt e) env st c Q R=S.wpE I dep lk env e 0 st c (fun v st1 c1=>R (.halt v st1) (c1+1)) (fun code st c=>R (.halt code st) c):=by
 rw [S.sHlt,S.wpS,if_neg (by decide),wpEs_1]
 refine congrArg (fun q=>S.wpE I dep lk env e 0 st c q _) (funext fun v=>funext fun st1=>funext fun c1=>?_)
 rw [if_neg (by decide),if_neg (by decide),if_neg (by decide),if_neg (by decide),if_neg (by decide),if_neg (by decide),if_pos rfl]
 rfl
end
end
section
open Go.RowKit
namespace S
end S
section
variable {I:S.Img}{dep lk:Int}
section
variable {env:List Int}{st:S.Vw}
theorem ev_r (n:Int):S.evE I lk env st (S.eR n)=st.reg n:=rfl
end
section
variable {behind:Bool}{env:List Int}{st:S.Vw}{c:Nat}{Q:List Int->S.Vw->Nat->Prop}{R:S.BO->Nat->Prop}
theorem ws_hlt {e:S.BE}{r:List S.BS}(hp:S.pureE e=true)(hok:S.okE I lk env st e)(h:R (.halt (S.evE I lk env st e) st) (c+S.coE e+1)):S.wpSs I dep lk behind (S.sHlt e::r) env st c Q R:=by
 rw [wpSs_c,wpS_hlt]
 exact wpE_pure hp hok h
end
end
end
section
open Go.RowKit
theorem late_mono {I:S.Img}{m m':Int->Int}{lo hi lo' hi' e:Int}(hl:lo'<=lo)(hh:hi<=hi')(hm:∀ a,lo<=a->a<hi->m' a=m a):∀ {L:List Int} {v:Int},S.LAtE I m lo hi e v L->S.LAtE I m' lo' hi' e v L
 | [],v,h=>h
 | x::r,v,⟨a,h1,h2,h3,h4,h5,h6,h7⟩=>⟨a,h1,by omega,by omega,h4,(hm a h2 (by omega)).trans h5,(hm (a+1) (by omega) (by omega)).trans h6,by rw [hm (a+2) (by omega) (by omega)];exact late_mono hl hh hm h7⟩
section
variable {I:S.Img}(hI:I.Ok){cf:S.Cf}(hlow:∀ a,0<=a->a<1056->S.Dat I a)
section
variable {dep lk:Int}{behind:Bool}{env:List Int}{st:S.Vw}{r:List S.BS}{c:Nat}{Q:List Int->S.Vw->Nat->Prop}{R:S.BO->Nat->Prop}
include hI
end
end
end
section
open Go.RowKit
def S.endL (p:Int):Nat->Int
 | 0=>38
 | j+1=>4*(p+3*j)+1
def S.listM (m:S.Mach)(p:Int)(N:Int):Nat->S.Mach
 | 0=>m
 | j+1=>(((S.listM m p N j).putV (p+3*j) 67).putV (p+3*j+1) (4*(100+(N-1-j)))).putV (p+3*j+2) (S.endL p j) |>.setV 26 (p+3*j+3)
def S.itemsL (N:Int):Nat->List Int
 | 0=>[]
 | j+1=>4*(100+(N-1-j))::S.itemsL N j
theorem itemsL_len (N:Int):∀ j,(S.itemsL N j).length=j
 | 0=>rfl
 | j+1=>by rw [S.itemsL,List.length_cons,itemsL_len N j]
theorem itemsL_at (N:Int):∀ {j q:Nat},q<j->(S.itemsL N j)[q]?=some (4*(100+(N-j+q)))
 | 0,q,h=>by omega
 | j+1,0,_=>by
  rw [S.itemsL]
  show some _=some _
  congr 3
  omega
 | j+1,q+1,h=>by
  rw [S.itemsL,List.getElem?_cons_succ,itemsL_at N (show q<j by omega)]
  congr 3
  omega
structure S.Lst (gw sw F:List Int)(size:Int)(m:S.Mach)(p N:Int)(j:Nat)(m':S.Mach):Prop where
 wd:S.Wd gw sw F size m'
 len:m'.mem.length=m.mem.length
 hd:∀ i:Nat,i<j->m'.mv (p+3*i)=67/\m'.mv (p+3*i+1)=4*(100+(N-1-i))/\m'.mv (p+3*i+2)=S.endL p i
 out:∀ x,0<=x->¬ (p<=x/\x<p+3*j)->m'.mv x=m.mv x
 rd:∀ r,r≠26->m'.rd r=m.rd r
 r26:j≠0->m'.rd 26=p+3*j
theorem endL_bdG {p:Int}(hp:0<=p):∀ {j:Nat},p+3*j<=300000000->0<=S.endL p j/\S.endL p j<=4294967295
 | 0,_=>by show 0<=(38:Int)/\(38:Int)<=4294967295;decide
 | j+1,h=>by rw [S.endL];omega
theorem lst_of {gw sw F:List Int}{size:Int}(hI:(S.wImg true gw sw F size).Ok){m:S.Mach}(h:S.Wd gw sw F size m){p N:Int}(hp:(S.wImg true gw sw F size).lab S.kEnd<=p)(hN:0<=N/\N<=1000)(hsz:p+3*N<=size)(hsz2:size<=300000000):∀ j:Nat,j<=N->S.Lst gw sw F size m p N j (S.listM m p N j)
 | 0,_=>⟨h,rfl,fun i hi=>by omega,fun x _ _=>rfl,fun _ _=>rfl,fun h=>absurd rfl h⟩
 | j+1,hj=>by
  have ih:=lst_of hI h hp hN hsz hsz2 j (by omega)
  have he:=end_bd hI
  have hp0:0<=p:=by omega
  have nc:∀ x,p<=x->¬ (S.wImg true gw sw F size).code x:=fun x hx hc=>by
   have:=(code_iff hI).1 hc
   omega
  have heb:=endL_bdG hp0 (j:=j) (by omega)
  obtain ⟨mj,hmj⟩:∃ mj,mj=S.listM m p N j:=⟨_,rfl⟩
  have e:S.listM m p N (j+1)=(((mj.putV (p+3*j) 67).putV (p+3*j+1) (4*(100+(N-1-j)))).putV (p+3*j+2) (S.endL p j)).setV 26 (p+3*j+3):=by rw [hmj];rfl
  rw [<- hmj] at ih
  rw [e]
  have w1:=wd_put hI ih.wd (i:=p+3*j) (v:=67) ⟨by omega,by omega⟩ (nc _ (by omega)) (by decide)
  have w2:=wd_put hI w1 (i:=p+3*j+1) (v:=4*(100+(N-1-j))) ⟨by omega,by omega⟩ (nc _ (by omega)) (by omega)
  have w3:=wd_put hI w2 (i:=p+3*j+2) (v:=S.endL p j) ⟨by omega,by omega⟩ (nc _ (by omega)) heb
  have w4:=wd_set hI w3 (i:=26) (v:=p+3*j+3) (by decide) (fun h=>absurd h (by decide)) (by omega)
  have hmv:∀ x,0<=x->((((mj.putV (p+3*j) 67).putV (p+3*j+1) (4*(100+(N-1-j)))).putV (p+3*j+2) (S.endL p j)).setV 26 (p+3*j+3)).mv x=if x=p+3*j+2 then S.endL p j else if x=p+3*j+1 then 4*(100+(N-1-j)) else if x=p+3*j then 67 else mj.mv x:=fun x hx=>by
   have l1:=w1.len
   have l2:=w2.len
   have l0:=ih.wd.len
   rw [setV_mv (by decide) (by decide),putV_mv (by omega) (by omega) hx,putV_mv (by omega) (by omega) hx,putV_mv (by omega) (by omega) hx]
  refine ⟨w4,?_,fun i hi=>?_,fun x hx hout=>?_,fun r hr=>?_,fun _=>?_⟩
  ·have h1:=w4.len
   have h2:=h.len
   omega
  ·by_cases c:i=j
   ·subst c
    refine ⟨?_,?_,?_⟩
    ·rw [hmv _ (by omega),if_neg (by omega),if_neg (by omega),if_pos rfl]
    ·rw [hmv _ (by omega),if_neg (by omega),if_pos rfl]
    ·rw [hmv _ (by omega),if_pos rfl]
   ·obtain ⟨q1,q2,q3⟩:=ih.hd i (by omega)
    refine ⟨?_,?_,?_⟩
    ·rw [hmv _ (by omega),if_neg (by omega),if_neg (by omega),if_neg (by omega)];exact q1
    ·rw [hmv _ (by omega),if_neg (by omega),if_neg (by omega),if_neg (by omega)];exact q2
    ·rw [hmv _ (by omega),if_neg (by omega),if_neg (by omega),if_neg (by omega)];exact q3
  ·rw [hmv x hx,if_neg (by omega),if_neg (by omega),if_neg (by omega)]
   exact ih.out x hx (by omega)
  ·rw [setV_rd w3.ok (by decide) (by decide),if_neg hr,putV_rd,putV_rd,putV_rd]
   exact ih.rd r hr
  ·rw [setV_rd w3.ok (by decide) (by decide),if_pos rfl]
   omega
theorem lst_late {I:S.Img}{mem:Int->Int}{p N e:Int}(hd:∀ x,p<=x->x<p+3*N->S.Dat I x)(hN:0<=N):∀ j:Nat,(j:Int)<=N ->
 (∀ i:Nat,i<j->mem (p+3*i)=67/\mem (p+3*i+1)=4*(100+(N-1-i))/\mem (p+3*i+2)=if i=0 then e else S.endL p i)->j≠0->S.LAtE I mem p (p+3*j) e (S.endL p j) (S.itemsL N j)
 | 0,_,_,h=>absurd rfl h
 | 1,hj,hm,_=>by
  obtain ⟨q1,q2,q3⟩:=hm 0 (by decide)
  rw [if_pos rfl] at q3
  have z1:p+3*((0:Nat):Int)=p:=by simp
  rw [z1] at q1 q2 q3
  show S.LAtE I mem p (p+3*((1:Nat):Int)) e (4*(p+3*((0:Nat):Int))+1) [4*(100+(N-1-((0:Nat):Int)))]
  rw [z1]
  exact ⟨p,rfl,Int.le_refl _,by omega,fun k hk=>hd _ (by omega) (by omega),q1,q2,q3⟩
 | j+2,hj,hm,_=>by
  have ih:=lst_late hd hN (j+1) (by omega) (fun i hi=>hm i (by omega)) (by omega)
  obtain ⟨q1,q2,q3⟩:=hm (j+1) (by omega)
  rw [if_neg (by omega)] at q3
  show S.LAtE I mem p (p+3*((j+2:Nat):Int)) e (4*(p+3*((j+1:Nat):Int))+1) (4*(100+(N-1-((j+1:Nat):Int)))::S.itemsL N (j+1))
  refine ⟨p+3*((j+1:Nat):Int),rfl,by omega,by omega,fun k hk=>hd _ (by omega) (by omega),q1,q2,?_⟩
  rw [q3]
  exact late_mono (Int.le_refl _) (by omega) (fun _ _ _=>rfl) ih
def S.ListAt (m:S.Mach):Int->List Int->Prop
 | v,[]=>v=38
 | v,x::r=>v%4=1/\0<=v/\v<4294967296/\m.memV (v/4)=67/\m.memV (v/4+1)=x/\S.ListAt m (m.memV (v/4+2)) r
end
end Go.Proofs.YtlldagdhlfpihaaGreatDoor
