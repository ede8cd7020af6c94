/- Parts. -/
import Derived.Test.YtlldagdhlfpihaaGreatDoorZKLst
import Derived.Test.YtlldagdhlfpihaaGreatDoorZGApM
import Derived.Test.YtlldagdhlfpihaaGreatDoorZGStt
set_option linter.unusedVariables false
set_option linter.unusedSimpArgs false
set_option linter.unusedSectionVars false
namespace Go.Proofs.YtlldagdhlfpihaaGreatDoor
set_option maxRecDepth 100000
section
open Go.RowKit
namespace S
end S
section
variable {I:S.Img}{dep lk:Int}
section
variable {env:List Int}{st:S.Vw}
end
section
variable {behind:Bool}{env:List Int}{st:S.Vw}{c:Nat}{Q:List Int->S.Vw->Nat->Prop}{R:S.BO->Nat->Prop}
end
end
theorem shl1 (x:Int):S.alu 10 x (1%4294967296)=S.u32m (x*2):=rfl
end
section
open Go.RowKit
theorem chk_rReserve:S.chkB S.rReserve=0:=by kernel_rfl
theorem chk_rCons:S.chkB S.rCons=0:=by kernel_rfl
def S.ResR (I:S.Img)(cf:S.Cf)(T:S.Ob->Prop)(cnt n:Nat)(want:Int)(st:S.Vw)(o:S.BO)(k:Nat):Prop :=
 (want<=st.reg 27-st.reg 26/\o=.ret st/\k<=40) \/
 (st.reg 27-st.reg 26<want/\∃ st' ρ,S.Cd cf T (S.RX I st.mem cnt n) st ρ st'/\((want<=cf.hf-S.tot ρ/\o=.ret st')\/(cf.hf-S.tot ρ<want/\o=.halt 255 st')) /\
  (k:Int)<=800+130*(cnt+(I.lab S.kCode-1312))+10100*n+170*S.tot ρ)
theorem args_nil (st:S.Vw):st.args []=st:=by
 have:(st.args []).reg=st.reg:=by
  funext j
  show (if 4<=j/\j<4+(0:Nat) then _ else st.reg j)=_
  rw [if_neg (by omega)]
 cases st
 show S.Vw.mk _ _ _ _=_
 congr
section
variable {I:S.Img}(hI:I.Ok){cf:S.Cf}(hc:S.Cf.Ok I cf){T:S.Ob->Prop}
include hI hc
theorem real_reserve {iM iS iF iC iR:Nat}(hM:S.Seg I S.kMove iM (S.bItems S.rMove))(hS:S.Seg I S.kScan iS (S.bItems S.rScan))(hF:S.Seg I S.kFrame iF (S.bItems S.rFrame))(hC:S.Seg I S.kCollect iC (S.bItems S.rCollect))(hR:S.Seg I S.kReserve iR (S.bItems S.rReserve))
 {st:S.Vw} {cnt n:Nat} (h:S.Col I cf T cnt n st.mem) {need spare:Int} (h4:st.reg 4=need) (h7:st.mem 7=spare) (hn0:0<=need/\0<=spare/\need+spare<4294967296) (h26:0<=st.reg 26/\st.reg 26<=st.reg 27/\st.reg 27<4294967296) :
 S.Real I S.kReserve false st 88 (fun _ o k=>S.ResR I cf T cnt n (need+spare) st o k):=by
 refine real_of hI S.rReserve chk_rReserve hR (dep:=72) (by decide) st _ fun lk env _ _ hl hp=>?_
 obtain ⟨e0,rfl⟩:=env1 hl
 have h0:e0=st.reg 4:=hp 0 (show (0:Int)<1 by decide)
 rw [h4] at h0
 subst h0
 have htoz:=hc.toz
 have hto0:=hc.to0
 have hhf:=hc.hf0
 unfold S.rReserve
 simp only
 obtain ⟨o7,v7⟩:=ev_W hI hc (lk:=lk) (env:=[e0]) (st:=st) (n:=7) (by decide) (by decide)
 refine ws_as rfl (ok_b (by decide) (ok_l 0) o7) ?_
 have ev1:S.evE I lk [e0] st (S.eAdd (S.eL 0) (S.eW 7))=e0+spare:=by
  show S.alu 1 e0 (S.evE I lk [e0] st (S.eW 7))=_
  rw [v7,h7,alu1]
  unfold S.u32m
  omega
 rw [ev1]
 have hset:[e0].set (Int.toNat 0) (e0+spare)=[e0+spare]:=rfl
 rw [hset]
 have eshort:∀ st:S.Vw,S.evE I lk [e0+spare] st S.eShort=if S.u32m (st.reg 27-st.reg 26)<e0+spare then 1 else 0:=fun st=>alu14 _ _
 have okshort:∀ st:S.Vw,S.okE I lk [e0+spare] st S.eShort:=fun st=>ok_b (by decide) (ok_b (by decide) (ok_r 27) (ok_r 26)) (ok_l 0)
 have q1:S.coE (S.eAdd (S.eL 0) (S.eW 7))=5:=rfl
 have q2:S.coE S.eShort=5:=rfl
 have q3:S.coEs ([]:List S.BE)=0:=rfl
 have q4:S.coE (S.eC 255)=2:=rfl
 have hu:S.u32m (st.reg 27-st.reg 26)=st.reg 27-st.reg 26:=by unfold S.u32m;omega
 refine ws_if rfl (okshort st) (fun hz=>ws_nil (ws_nil ?_)) (fun hnz=>?_)
 ·rw [eshort,hu] at hz
  have:¬ st.reg 27-st.reg 26<e0+spare:=fun q=>by rw [if_pos q] at hz;cases hz
  refine .inl ⟨by omega,rfl,?_⟩
  rw [q1,q2]
  decide
 ·rw [eshort,hu] at hnz
  have hlt:st.reg 27-st.reg 26<e0+spare:=Classical.byContradiction fun q=>by rw [if_neg q] at hnz;exact hnz rfl
  refine ws_do (l:=[]) rfl trivial (d:=72) (T:=fun _ o k=>S.ColR I cf T cnt n (st.args []) o k) (real_collect hI hc hM hS hF hC (st:=st.args []) h) (by decide) fun ret o k hR=>?_
  rw [args_nil] at hR
  obtain ⟨st',ρ,rfl,hcd,hk⟩:=hR
  have hu':S.u32m (st'.reg 27-st'.reg 26)=cf.hf-S.tot ρ:=by
   have hsum:=tot_le ρ cf.O hcd.nd hcd.sub
   have hs:=hc.sum
   have t0:=tot_nonneg ρ
   rw [hcd.r26,hcd.r27]
   unfold S.u32m
   omega
  have hlen:(S.evEs I lk [e0+spare] st []).length=0:=rfl
  refine ws_if rfl (okshort st') (fun hz=>ws_nil (ws_nil (ws_nil ?_))) (fun hnz=>?_)
  ·rw [eshort,hu'] at hz
   have:¬ cf.hf-S.tot ρ<e0+spare:=fun q=>by rw [if_pos q] at hz;cases hz
   refine .inr ⟨hlt,st',ρ,hcd,.inl ⟨by omega,rfl⟩,?_⟩
   rw [q1,q2,q3,hlen]
   simp only [Bool.false_eq_true,if_false]
   omega
  ·rw [eshort,hu'] at hnz
   have hlt2:cf.hf-S.tot ρ<e0+spare:=Classical.byContradiction fun q=>by rw [if_neg q] at hnz;exact hnz rfl
   refine ws_hlt rfl (ok_c 255) (.inr ⟨hlt,st',ρ,hcd,.inr ⟨hlt2,rfl⟩,?_⟩)
   rw [q1,q2,q3,q4,hlen]
   omega
end
section
variable {I:S.Img}(hI:I.Ok)
include hI
def S.paired (st:S.Vw)(p a b:Int):S.Vw:=(((st.sto p 67).sto (p+1) a).sto (p+2) b).set 26 (p+3)
theorem real_cons {iN:Nat}(hN:S.Seg I S.kCons iN (S.bItems S.rCons)){st:S.Vw}{p:Int}(h26:st.reg 26=p)(hd:∀ j:Nat,j<3->S.Dat I (p+j)) :
 S.Real I S.kCons false st 17 (fun _ o k=>o=.ret ((S.paired st p (st.reg 4) (st.reg 5)).set 4 (4*p+1))/\k<=60):=by
 refine real_of hI S.rCons chk_rCons hN (dep:=0) (by decide) st _ fun lk env _ _ hl hp=>?_
 obtain ⟨e0,e1,rfl⟩:=env2 hl
 have h0:e0=st.reg 4:=hp 0 (show (0:Int)<2 by decide)
 have h1:e1=st.reg 5:=hp 1 (show (1:Int)<2 by decide)
 subst h0 h1
 have hsz:=hI.size2
 have d0:=hd 0 (by decide)
 have d1:=hd 1 (by decide)
 have d2:=hd 2 (by decide)
 rw [show p+((0:Nat):Int)=p from by omega] at d0
 rw [show p+((1:Nat):Int)=p+1 from by omega] at d1
 rw [show p+((2:Nat):Int)=p+2 from by omega] at d2
 obtain ⟨b0,b1,_⟩:=d0
 obtain ⟨_,b3,_⟩:=d2
 have hr:∀ st:S.Vw,S.evE I lk [st.reg 4,st.reg 5] st (S.eR 26)=st.reg 26:=fun _=>rfl
 unfold S.rCons
 simp only
 refine ws_put (p:=p) rfl (ok_r 26) rfl (ok_c 67) (by rw [ev_r,h26];unfold S.u32m;omega) (hd 0 (by decide) |>.2 |> fun q=>by simpa using q) ?_
 refine ws_put (p:=p+1) rfl (ok_r 26) rfl (ok_l 0) (by rw [ev_r];show S.u32m (st.reg 26+1)=_;rw [h26];unfold S.u32m;omega) d1.2 ?_
 refine ws_put (p:=p+2) rfl (ok_r 26) rfl (ok_l 1) (by rw [ev_r];show S.u32m (st.reg 26+2)=_;rw [h26];unfold S.u32m;omega) (hd 2 (by decide) |>.2 |> fun q=>by simpa using q) ?_
 refine ws_set rfl (ok_b (by decide) (ok_r 26) (ok_c 3)) ?_
 refine ws_val rfl (ok_b (by decide) (ok_b (by decide) (ok_b (by decide) (ok_r 26) (ok_c 3)) (ok_c 2)) (ok_c 1)) ?_
 have e1:∀ (env:List Int) (st:S.Vw),st.reg 26=p->S.evE I lk env st (S.eAdd (S.eR 26) (S.eC 3))=p+3:=fun env st h=>by
  show S.alu 1 (st.reg 26) (3%4294967296)=_
  rw [h,alu1];unfold S.u32m;omega
 have e2:∀ (env:List Int) (st:S.Vw),st.reg 26=p+3->S.evE I lk env st (S.eRef (S.eSub (S.eR 26) (S.eC 3)))=4*p+1:=fun env st h=>by
  show S.alu 8 (S.alu 10 (S.alu 2 (st.reg 26) (3%4294967296)) (2%4294967296)) (1%4294967296)=_
  rw [h,alu2,shl2]
  have:S.u32m (S.u32m (p+3-3%4294967296)*4)=4*p:=by unfold S.u32m;omega
  rw [this,or1 (by omega) (by omega) (by omega)]
 rw [e1,e2]
 rotate_left
 ·exact vset_same _ _ _
 ·exact h26
 refine ⟨rfl,?_⟩
 have q1:S.coE (S.eR 26)=1:=rfl
 have q2:S.coE (S.eC 67)=2:=rfl
 have q3:S.coE (S.eL 0)=1:=rfl
 have q4:S.coE (S.eL 1)=1:=rfl
 have q5:S.coE (S.eAdd (S.eR 26) (S.eC 3))=4:=rfl
 have q6:S.coE (S.eRef (S.eSub (S.eR 26) (S.eC 3)))=10:=rfl
 rw [q1,q2,q3,q4,q5,q6]
 decide
end
end
section
open Go.RowKit
theorem vw_eq:∀ {a b:S.Vw},a.reg=b.reg->a.mem=b.mem->a.inp=b.inp->a.out=b.out->a=b
 | ⟨_,_,_,_⟩,⟨_,_,_,_⟩,rfl,rfl,rfl,rfl=>rfl
def S.restored (st:S.Vw):S.Vw:=(st.sto 8 0).regs [1,4,5,6,7,8,9,10] [st.mem 16,st.mem 17,st.mem 18,st.mem 19,st.mem 20,st.mem 21,st.mem 22,st.mem 23]
section
variable {I:S.Img}(hI:I.Ok){cf:S.Cf}(hc:S.Cf.Ok I cf){T:S.Ob->Prop}
include hI hc
theorem ws_save {dep lk:Int}{behind:Bool}{ne:S.BE}{r:List S.BS}{env:List Int}{st:S.Vw}{c:Nat}{Q:List Int->S.Vw->Nat->Prop}{R:S.BO->Nat->Prop}{m:Int}(hp:S.pureE ne=true)(hok:∀ st,S.okE I lk env st ne)(hev:∀ st,S.evE I lk env st ne=m)(hco:S.coE ne<=5)(hm:0<=m/\m<4294967295)
 (h:∀ c':Nat,c'<=c+80->S.wpSs I dep lk behind r env (S.saved st m) c' Q R):S.wpSs I dep lk behind (S.bSave ne++r) env st c Q R:=by
 unfold S.bSave
 simp only [List.cons_append,List.nil_append]
 have rg:∀ (st:S.Vw) (j:Int),S.evE I lk env st (S.eR j)=st.reg j:=fun _ _=>rfl
 have cc:∀ (st:S.Vw),S.evE I lk env st (S.eC 0)=0:=fun _=>rfl
 have c8:∀ (st:S.Vw),S.evE I lk env st (S.eC 8)=8:=fun _=>rfl
 have sr:∀ (st:S.Vw) (a v j:Int),(st.sto a v).reg j=st.reg j:=fun _ _ _ _=>rfl
 have qc:∀ j,S.coE (S.eC j)=2:=fun _=>rfl
 have qr:∀ j,S.coE (S.eR j)=1:=fun _=>rfl
 have dd:∀ j:Int,0<=j->j<1056->j<I.size/\¬ I.stk j/\¬ I.code j:=fun j h0 h1=>(hc.low j h0 h1).2
 have pp:∀ (j:Int) (st:S.Vw),0<=j->j<1056->S.u32m (S.evE I lk env st (S.eC j)+0)=j:=fun j st h0 h1=>by rw [ev_c];unfold S.u32m;omega
 refine ws_put (a:=S.eC 16) rfl (ok_c 16) rfl (ok_r 1) (pp 16 _ (by decide) (by decide)) (dd 16 (by decide) (by decide)) ?_
 refine ws_put (a:=S.eC 23) rfl (ok_c 23) rfl (ok_r 10) (pp 23 _ (by decide) (by decide)) (dd 23 (by decide) (by decide)) ?_
 refine ws_put (a:=S.eC 17) rfl (ok_c 17) rfl (ok_r 4) (pp 17 _ (by decide) (by decide)) (dd 17 (by decide) (by decide)) ?_
 refine ws_put (a:=S.eC 18) rfl (ok_c 18) rfl (ok_r 5) (pp 18 _ (by decide) (by decide)) (dd 18 (by decide) (by decide)) ?_
 refine ws_put (a:=S.eC 19) rfl (ok_c 19) rfl (ok_r 6) (pp 19 _ (by decide) (by decide)) (dd 19 (by decide) (by decide)) ?_
 refine ws_put (a:=S.eC 20) rfl (ok_c 20) rfl (ok_r 7) (pp 20 _ (by decide) (by decide)) (dd 20 (by decide) (by decide)) ?_
 refine ws_put (a:=S.eC 21) rfl (ok_c 21) rfl (ok_r 8) (pp 21 _ (by decide) (by decide)) (dd 21 (by decide) (by decide)) ?_
 refine ws_put (a:=S.eC 22) rfl (ok_c 22) rfl (ok_r 9) (pp 22 _ (by decide) (by decide)) (dd 22 (by decide) (by decide)) ?_
 refine ws_put (a:=S.eC 6) rfl (ok_c 6) rfl (ok_c 0) (pp 6 _ (by decide) (by decide)) (dd 6 (by decide) (by decide)) ?_
 simp only [rg,cc,sr,qc,qr]
 have elt:∀ st:S.Vw,S.evE I lk env st (S.eLt (S.eC 6) ne)=if 6<m then 1 else 0:=fun st=>by
  show S.alu 14 (6%4294967296) (S.evE I lk env st ne)=_
  rw [hev]
  exact alu14 _ _
 have ead:∀ st:S.Vw,S.evE I lk env st (S.eAdd ne (S.eC 1))=m+1:=fun st=>by
  show S.alu 1 (S.evE I lk env st ne) (1%4294967296)=_
  rw [hev,alu1]
  unfold S.u32m
  omega
 have qlt:S.coE (S.eLt (S.eC 6) ne)=2+S.coE ne+1:=by
  show 2+(S.coE ne+0)+1=_
  omega
 have qad:S.coE (S.eAdd ne (S.eC 1))=S.coE ne+2+1:=by
  show S.coE ne+(2+0)+1=_
  omega
 have same:∀ v:Int,v=(if 6<m then 8 else m+1)->(((((((((st.sto 16 (st.reg 1)).sto 23 (st.reg 10)).sto 17 (st.reg 4)).sto 18 (st.reg 5)).sto 19 (st.reg 6)).sto 20 (st.reg 7)).sto 21 (st.reg 8)).sto 22 (st.reg 9)).sto 6 0).sto 8 v=S.saved st m:=by
  intro v hv
  have:((((((((((st.sto 16 (st.reg 1)).sto 23 (st.reg 10)).sto 17 (st.reg 4)).sto 18 (st.reg 5)).sto 19 (st.reg 6)).sto 20 (st.reg 7)).sto 21 (st.reg 8)).sto 22 (st.reg 9)).sto 6 0).sto 8 v).mem=(S.saved st m).mem:=by
   funext a
   show (if a=8 then v else if a=6 then 0 else if a=22 then st.reg 9 else if a=21 then st.reg 8 else if a=20 then st.reg 7 else if a=19 then st.reg 6 else if a=18 then st.reg 5 else if a=17 then st.reg 4 else if a=23 then st.reg 10 else if a=16 then st.reg 1 else st.mem a) =
    (if a=8 then (if 6<m then 8 else m+1) else if a=6 then 0 else if a=16 then st.reg 1 else if a=23 then st.reg 10 else if 17<=a/\a<=22 then st.reg (a-13) else st.mem a)
   rw [<- hv]
   by_cases h8:a=8
   ·rw [if_pos h8,if_pos h8]
   by_cases h6:a=6
   ·rw [if_neg h8,if_neg h8,if_pos h6,if_pos h6]
   by_cases h16:a=16
   ·subst h16;rfl
   by_cases h23:a=23
   ·subst h23;rfl
   by_cases hr:17<=a/\a<=22
   ·have:a=17\/a=18\/a=19\/a=20\/a=21\/a=22:=by omega
    rcases this with rfl | rfl | rfl | rfl | rfl | rfl <;> rfl
   ·rw [if_neg h8,if_neg h6,if_neg (by omega),if_neg (by omega),if_neg (by omega),if_neg (by omega),if_neg (by omega),if_neg (by omega),if_neg h23,if_neg h16,if_neg h8,if_neg h6,if_neg h16,if_neg h23,if_neg hr]
  exact vw_eq rfl this rfl rfl
 refine ws_if (by show S.pureE (S.eLt (S.eC 6) ne)=true;simp [S.eLt,S.eB,S.pureE,S.pureEs,hp,S.eC]) (ok_b (by decide) (ok_c 6) (hok _)) (fun hz=>?_) (fun hnz=>?_)
 ·rw [elt] at hz
  have hle:¬ 6<m:=fun q=>by rw [if_pos q] at hz;cases hz
  refine ws_put (a:=S.eC 8) rfl (ok_c 8) (by show S.pureE (S.eAdd ne (S.eC 1))=true;simp [S.eAdd,S.eB,S.pureE,S.pureEs,hp,S.eC]) (ok_b (by decide) (hok _) (ok_c 1)) (pp 8 _ (by decide) (by decide)) (dd 8 (by decide) (by decide)) (ws_nil ?_)
  rw [ead,same _ (if_neg hle).symm]
  exact h _ (by rw [qlt,qad,qc];omega)
 ·rw [elt] at hnz
  have hlt:6<m:=Classical.byContradiction fun q=>by rw [if_neg q] at hnz;exact hnz rfl
  refine ws_put (a:=S.eC 8) rfl (ok_c 8) rfl (ok_c 8) (pp 8 _ (by decide) (by decide)) (dd 8 (by decide) (by decide)) (ws_nil ?_)
  rw [c8,same _ (if_pos hlt).symm]
  exact h _ (by rw [qlt,qc];omega)
theorem ws_restore {dep lk:Int}{env:List Int}{st:S.Vw}{c:Nat}{Q:List Int->S.Vw->Nat->Prop}{R:S.BO->Nat->Prop}(h:∀ c':Nat,c'<=c+60->R (.ret (S.restored st)) c'):S.wpSs I dep lk false S.bRestore env st c Q R:=by
 unfold S.bRestore
 refine ws_put (a:=S.eC 8) (p:=8) rfl (ok_c 8) rfl (ok_c 0) rfl (hc.low 8 (by decide) (by decide)).2 ?_
 rw [wpSs_c,wpS_ret]
 have w:∀ n:Int,0<=n->n<1056->S.okE I lk env (st.sto 8 (S.evE I lk env st (S.eC 0))) (S.eW n):=fun n h0 h1=>(ev_W hI hc h0 h1).1
 refine wpEs_pure rfl ⟨w 16 (by decide) (by decide),w 17 (by decide) (by decide),w 18 (by decide) (by decide),w 19 (by decide) (by decide),w 20 (by decide) (by decide),w 21 (by decide) (by decide),w 22 (by decide) (by decide),w 23 (by decide) (by decide),trivial⟩ ?_
 have e0:S.evE I lk env st (S.eC 0)=0:=rfl
 rw [e0]
 have ev:∀ n:Int,0<=n->n<1056->n≠8->S.evE I lk env (st.sto 8 0) (S.eW n)=st.mem n:=fun n h0 h1 h8=>by
  rw [(ev_W hI hc h0 h1).2]
  show (if n=8 then _ else st.mem n)=_
  rw [if_neg h8]
 have evs:S.evEs I lk env (st.sto 8 0) [S.eW 16,S.eW 17,S.eW 18,S.eW 19,S.eW 20,S.eW 21,S.eW 22,S.eW 23]=[st.mem 16,st.mem 17,st.mem 18,st.mem 19,st.mem 20,st.mem 21,st.mem 22,st.mem 23]:=by
  show [_,_,_,_,_,_,_,_]=_
  rw [ev 16 (by decide) (by decide) (by decide),ev 17 (by decide) (by decide) (by decide),ev 18 (by decide) (by decide) (by decide),ev 19 (by decide) (by decide) (by decide),ev 20 (by decide) (by decide) (by decide),ev 21 (by decide) (by decide) (by decide),ev 22 (by decide) (by decide) (by decide),ev 23 (by decide) (by decide) (by decide)]
 rw [evs]
 refine h _ ?_
 have q1:S.coE (S.eC 8)=2:=rfl
 have q2:S.coE (S.eC 0)=2:=rfl
 have q3:S.coEs [S.eW 16,S.eW 17,S.eW 18,S.eW 19,S.eW 20,S.eW 21,S.eW 22,S.eW 23]=24:=rfl
 rw [q1,q2,q3]
 simp only [Bool.false_eq_true,if_false,List.length_cons,List.length_nil]
 omega
end
end
section
open Go.RowKit
def S.LAt (I:S.Img)(mem:Int->Int)(lo hi:Int):Int->List Int->Prop
 | v,[]=>v=38
 | v,x::r=>∃ a,v=4*a+1/\lo<=a/\a+3<=hi/\(∀ j:Nat,j<3->S.Dat I (a+j))/\mem a=67/\mem (a+1)=x/\S.LAt I mem lo hi (mem (a+2)) r
theorem lat_mono {I:S.Img}{m m':Int->Int}{lo hi lo' hi':Int}(hl:lo'<=lo)(hh:hi<=hi')(hm:∀ a,lo<=a->a<hi->m' a=m a):∀ {L:List Int} {v:Int},S.LAt I m lo hi v L->S.LAt I m' lo' hi' v L
 | [],v,h=>h
 | x::r,v,⟨a,h1,h2,h3,h4,h5,h6,h7⟩=>⟨a,h1,by omega,by omega,h4,(hm a h2 (by omega)).trans h5,(hm (a+1) (by omega) (by omega)).trans h6,by rw [hm (a+2) (by omega) (by omega)];exact lat_mono hl hh hm h7⟩
structure S.Cpy (L:List Int)(s0:S.Vw)(p0:Int)(i:Nat)(st:S.Vw):Prop where
 reg:∀ j,j≠26->st.reg j=s0.reg j
 r26:st.reg 26=p0+3*i
 inp:st.inp=s0.inp
 out:st.out=s0.out
 mem:∀ a,¬ (p0<=a/\a<p0+3*i)->st.mem a=s0.mem a
 hd:∀ j:Nat,j<i->st.mem (p0+3*j)=67
 it:∀ (j:Nat) (x:Int),j<i->L[j]?=some x->st.mem (p0+3*j+1)=x
 nx:∀ j:Nat,j<i->st.mem (p0+3*j+2)=4*(p0+3*j+3)+1
section
variable {I:S.Img}(hI:I.Ok)
include hI
theorem cpy_lat {L:List Int}{s0:S.Vw}{p0:Int}{m:Nat}(hm:L.length=m){st:S.Vw}(h:S.Cpy L s0 p0 m st)(hp0:0<=p0)(hd:∀ a,p0<=a->a<p0+3*m->S.Dat I a)(h1:1<=m) :
 S.LAt I (st.sto (p0+3*m-1) 38).mem p0 (p0+3*m) (4*p0+1) L:=by
 have key:∀ (d i:Nat),d=m-i->i<=m->S.LAt I (st.sto (p0+3*m-1) 38).mem p0 (p0+3*m) (if i=m then 38 else 4*(p0+3*i)+1) (L.drop i):=by
  intro d
  induction d with
  | zero =>
   intro i h1 h2
   have:i=m:=by omega
   rw [if_pos this,List.drop_of_length_le (by omega)]
   rfl
  | succ d ih =>
   intro i hi h2
   rw [if_neg (by omega),List.drop_eq_getElem_cons (by omega)]
   refine ⟨p0+3*i,rfl,by omega,by omega,fun j hj=>hd _ (by omega) (by omega),?_,?_,?_⟩
   ·show (if _=_ then _ else _)=_
    rw [if_neg (by omega)]
    exact h.hd i (by omega)
   ·show (if _=_ then _ else _)=_
    rw [if_neg (by omega)]
    exact h.it i _ (by omega) (List.getElem?_eq_getElem _)
   ·have:=ih (i+1) (by omega) (by omega)
    have e:(st.sto (p0+3*m-1) 38).mem (p0+3*(i:Int)+2)=if i+1=m then 38 else 4*(p0+3*((i+1:Nat):Int))+1:=by
     show (if _=_ then _ else _)=_
     by_cases c:i+1=m
     ·rw [if_pos (by omega),if_pos c]
     ·rw [if_neg (by omega),if_neg c,h.nx i (by omega)]
      omega
    rw [e]
    exact this
 have:=key m 0 (by omega) (by omega)
 rw [if_neg (by omega)] at this
 simpa using this
theorem ws_copy {dep lk:Int}{behind:Bool}{e0 e1 e4 v:Int}{L:List Int}{m:Nat}(hm:L.length=m)(h1:1<=m){s0:S.Vw}{lo p0:Int}(hv:S.LAt I s0.mem lo p0 v L)(h26:s0.reg 26=p0)(hlo:24<=lo)(hd:∀ a,p0<=a->a<p0+3*m->S.Dat I a)(hp0:lo<=p0)(hm20:m<1048576)
 {r:List S.BS} {c:Nat} {Q:List Int->S.Vw->Nat->Prop} {R:S.BO->Nat->Prop}
 (hQ:∀ (st':S.Vw) (e3:Int) (c':Nat),(∀ j,j≠26->st'.reg j=s0.reg j)->st'.reg 26=p0+3*m->(∀ a,¬ (p0<=a/\a<p0+3*m)->st'.mem a=s0.mem a)->st'.inp=s0.inp->st'.out=s0.out->S.LAt I st'.mem p0 (p0+3*m) (4*p0+1) L->(c':Int)<=c+40+90*m ->
  S.wpSs I dep lk behind r [e0,e1,0,e3,e4] st' c' Q R) :
 S.wpSs I dep lk behind (S.sWh (S.eL 2) [S.sPut (S.eR 26) 0 (S.eC 67),S.sPut (S.eR 26) 1 (S.eM (S.eAdr (S.eL 3)) 1),S.sAs 3 (S.eM (S.eAdr (S.eL 3)) 2),S.sSet 26 (S.eAdd (S.eR 26) (S.eC 3)),S.sPut (S.eSub (S.eR 26) (S.eC 3)) 2 (S.eRef (S.eR 26)),S.sAs 2 (S.eSub (S.eL 2) (S.eC 1))] ::
  S.sPut (S.eSub (S.eR 26) (S.eC 3)) 2 (S.eC 38)::r) [e0,e1,m,v,e4] s0 c Q R:=by
 have hsz:=hI.size2
 have hdl:=hd (p0+3*m-1) (by omega) (by omega)
 refine ws_wh rfl (fun env st' c' k=>∃ (i:Nat) (v:Int),i<=m/\k=m-i/\env=[e0,e1,(m:Int)-i,v,e4]/\S.Cpy L s0 p0 i st'/\S.LAt I s0.mem lo p0 v (L.drop i)/\(c':Int)<=c+85*i)
  (k0:=m) ⟨0,v,by omega,by omega,by simp,⟨fun _ _=>rfl,by simpa using h26,rfl,rfl,fun _ _=>rfl,fun j hj=>by omega,fun j x hj=>by omega,fun j hj=>by omega⟩,by simpa using hv,by simp⟩ ?_
 rintro env st' c' k ⟨i,v,hi,rfl,rfl,hC,hl,hcc⟩
 have q1:S.coE (S.eL 2)=1:=rfl
 have el2:S.evE I lk [e0,e1,(m:Int)-i,v,e4] st' (S.eL 2)=(m:Int)-i:=rfl
 have e26:∀ (env:List Int) (st:S.Vw) (q:Int),st.reg 26=q->0<=q->q<4294967296->S.evE I lk env st (S.eSub (S.eR 26) (S.eC 3))=S.u32m (q-3):=fun env st q h _ _=>by
  show S.alu 2 (st.reg 26) (3%4294967296)=_
  rw [h,alu2]
  rfl
 have q5:S.coE (S.eSub (S.eR 26) (S.eC 3))=4:=rfl
 have q6:S.coE (S.eC 38)=2:=rfl
 refine ⟨ok_l 2,fun hz=>?_,fun hnz=>?_⟩
 ·rw [el2] at hz
  have hie:i=m:=by omega
  subst hie
  have hp:S.u32m (S.evE I lk [e0,e1,(i:Int)-i,v,e4] st' (S.eSub (S.eR 26) (S.eC 3))+2)=p0+3*i-1:=by
   rw [e26 _ _ _ hC.r26 (by omega) (by have:=hdl.2.1;omega)]
   have:=hdl.1
   have:=hdl.2.1
   unfold S.u32m
   omega
  refine ws_put rfl (ok_b (by decide) (ok_r 26) (ok_c 3)) rfl (ok_c 38) hp hdl.2 ?_
  have hz2:(i:Int)-i=0:=by omega
  rw [hz2]
  have hlat:=cpy_lat hI hm hC (by omega) hd h1
  refine hQ _ v _ hC.reg hC.r26 (fun a ha=>?_) hC.inp hC.out hlat ?_
  ·show (if _=_ then _ else _)=_
   rw [if_neg (by omega)]
   exact hC.mem a ha
  ·rw [q1,q5,q6]
   omega
 ·rw [el2] at hnz
  have hlt:i<m:=by omega
  rw [List.drop_eq_getElem_cons (by omega)] at hl
  obtain ⟨a,rfl,ha1,ha2,ha3,ha4,ha5,ha6⟩:=hl
  have d0:=ha3 0 (by decide)
  have d1:=ha3 1 (by decide)
  have d2:=ha3 2 (by decide)
  rw [show a+((1:Nat):Int)=a+1 from by omega] at d1
  rw [show a+((2:Nat):Int)=a+2 from by omega] at d2
  have f0:=hd (p0+3*i) (by omega) (by omega)
  have f1:=hd (p0+3*i+1) (by omega) (by omega)
  have f2:=hd (p0+3*i+2) (by omega) (by omega)
  have z0:=d0.1
  have z2:=d2.2.1
  have z3:=f0.1
  have z4:=f2.2.1
  have eadr:∀ (x y:Int) (st:S.Vw),S.evE I lk [e0,e1,x,4*a+1,y] st (S.eAdr (S.eL 3))=a:=fun x y st=>by
   show S.alu 11 (4*a+1) (2%4294967296)=_
   rw [shr2]
   omega
  have hmem:∀ (st:S.Vw) (x:Int),lo<=x->x<p0->(∀ y,¬ (p0<=y/\y<p0+3*i+3)->st.mem y=st'.mem y)->st.mem x=s0.mem x:=fun st x h1 h2 h3=>by
   rw [h3 x (by omega)]
   exact hC.mem x (by omega)
  refine ws_put (a:=S.eR 26) (p:=p0+3*i) rfl (ok_r 26) rfl (ok_c 67) (by rw [ev_r,hC.r26];unfold S.u32m;omega) f0.2 ?_
  have e67:S.evE I lk [e0,e1,(m:Int)-i,4*a+1,e4] st' (S.eC 67)=67:=rfl
  rw [e67]
  have okm1:∀ st:S.Vw,S.okE I lk [e0,e1,(m:Int)-i,4*a+1,e4] st (S.eM (S.eAdr (S.eL 3)) 1):=fun st=>ok_m (ok_b (by decide) (ok_l 3) (ok_c 2)) (by rw [eadr,show S.u32m (a+1)=a+1 from by unfold S.u32m;omega];exact dat_ok d1)
  have okm2:∀ st:S.Vw,S.okE I lk [e0,e1,(m:Int)-i,4*a+1,e4] st (S.eM (S.eAdr (S.eL 3)) 2):=fun st=>ok_m (ok_b (by decide) (ok_l 3) (ok_c 2)) (by rw [eadr,show S.u32m (a+2)=a+2 from by unfold S.u32m;omega];exact dat_ok d2)
  have evm1:∀ st:S.Vw,S.evE I lk [e0,e1,(m:Int)-i,4*a+1,e4] st (S.eM (S.eAdr (S.eL 3)) 1)=st.mem (a+1):=fun st=>by
   rw [ev_m,eadr,show S.u32m (a+1)=a+1 from by unfold S.u32m;omega]
  have evm2:∀ st:S.Vw,S.evE I lk [e0,e1,(m:Int)-i,4*a+1,e4] st (S.eM (S.eAdr (S.eL 3)) 2)=st.mem (a+2):=fun st=>by
   rw [ev_m,eadr,show S.u32m (a+2)=a+2 from by unfold S.u32m;omega]
  refine ws_put (a:=S.eR 26) (p:=p0+3*i+1) rfl (ok_r 26) rfl (okm1 _) (by rw [ev_r];show S.u32m (st'.reg 26+1)=_;rw [hC.r26];unfold S.u32m;omega) f1.2 ?_
  rw [evm1,hmem _ (a+1) (by omega) (by omega) (fun y hy=>by show (if _=_ then _ else _)=_;rw [if_neg (by omega)]),ha5]
  refine ws_as (e:=S.eM (S.eAdr (S.eL 3)) 2) rfl (okm2 _) ?_
  rw [evm2,hmem _ (a+2) (by omega) (by omega) (fun y hy=>by show (if _=_ then _ else if _=_ then _ else _)=_;rw [if_neg (by omega),if_neg (by omega)])]
  have hset:[e0,e1,(m:Int)-i,4*a+1,e4].set (Int.toNat 3) (s0.mem (a+2))=[e0,e1,(m:Int)-i,s0.mem (a+2),e4]:=rfl
  rw [hset]
  refine ws_set rfl (ok_b (by decide) (ok_r 26) (ok_c 3)) ?_
  obtain ⟨s1,hs1⟩:∃ s1,s1=(st'.sto (p0+3*i) 67).sto (p0+3*i+1) L[i]:=⟨_,rfl⟩
  rw [<- hs1]
  have g26:s1.reg 26=p0+3*i:=by rw [hs1];exact hC.r26
  have eadd:∀ env:List Int,S.evE I lk env s1 (S.eAdd (S.eR 26) (S.eC 3))=p0+3*i+3:=fun env=>by
   show S.alu 1 (s1.reg 26) (3%4294967296)=_
   rw [g26,alu1]
   unfold S.u32m
   omega
  rw [eadd]
  have hp:S.u32m (S.evE I lk [e0,e1,(m:Int)-i,s0.mem (a+2),e4] (s1.set 26 (p0+3*i+3)) (S.eSub (S.eR 26) (S.eC 3))+2)=p0+3*i+2:=by
   rw [e26 _ _ _ (vset_same _ _ _) (by omega) (by omega)]
   unfold S.u32m
   omega
  refine ws_put rfl (ok_b (by decide) (ok_r 26) (ok_c 3)) rfl (ok_b (by decide) (ok_b (by decide) (ok_r 26) (ok_c 2)) (ok_c 1)) hp f2.2 ?_
  have eref:S.evE I lk [e0,e1,(m:Int)-i,s0.mem (a+2),e4] (s1.set 26 (p0+3*i+3)) (S.eRef (S.eR 26))=4*(p0+3*i+3)+1:=by
   show S.alu 8 (S.alu 10 ((s1.set 26 (p0+3*i+3)).reg 26) (2%4294967296)) (1%4294967296)=_
   rw [vset_same,shl2]
   have:S.u32m ((p0+3*(i:Int)+3)*4)=4*(p0+3*i+3):=by unfold S.u32m;omega
   rw [this,or1 (by omega) (by omega) (by omega)]
  rw [eref]
  refine ws_as rfl (ok_b (by decide) (ok_l 2) (ok_c 1)) (ws_nil ?_)
  have esub:∀ st:S.Vw,S.evE I lk [e0,e1,(m:Int)-i,s0.mem (a+2),e4] st (S.eSub (S.eL 2) (S.eC 1))=(m:Int)-((i+1:Nat):Int):=fun st=>by
   show S.alu 2 ((m:Int)-i) (1%4294967296)=_
   rw [alu2]
   unfold S.u32m
   omega
  rw [esub]
  obtain ⟨s2,hs2⟩:∃ s2,s2=(s1.set 26 (p0+3*i+3)).sto (p0+3*i+2) (4*(p0+3*i+3)+1):=⟨_,rfl⟩
  rw [<- hs2]
  have hm2:∀ x,s2.mem x=if x=p0+3*i+2 then 4*(p0+3*i+3)+1 else if x=p0+3*i+1 then L[i] else if x=p0+3*i then 67 else st'.mem x:=fun x=>by rw [hs2,hs1];rfl
  refine ⟨m-(i+1),by omega,i+1,s0.mem (a+2),by omega,rfl,rfl,⟨fun j hj=>?_,?_,by rw [hs2,hs1];exact hC.inp,by rw [hs2,hs1];exact hC.out,fun x hx=>?_,fun j hj=>?_,fun j x hj hx=>?_,fun j hj=>?_⟩,ha6,?_⟩
  ·rw [hs2,hs1]
   show (if j=26 then _ else st'.reg j)=_
   rw [if_neg hj]
   exact hC.reg j hj
  ·rw [hs2]
   show p0+3*(i:Int)+3=_
   omega
  ·rw [hm2,if_neg (by omega),if_neg (by omega),if_neg (by omega)]
   exact hC.mem x (by omega)
  ·by_cases c:j=i
   ·subst c
    rw [hm2,if_neg (by omega),if_neg (by omega),if_pos rfl]
   ·rw [hm2,if_neg (by omega),if_neg (by omega),if_neg (by omega)]
    exact hC.hd j (by omega)
  ·by_cases c:j=i
   ·subst c
    rw [hm2,if_neg (by omega),if_pos rfl]
    rw [List.getElem?_eq_getElem (by omega)] at hx
    exact Option.some.inj hx
   ·rw [hm2,if_neg (by omega),if_neg (by omega),if_neg (by omega)]
    exact hC.it j x (by omega) hx
  ·by_cases c:j=i
   ·subst c
    rw [hm2,if_pos rfl]
   ·rw [hm2,if_neg (by omega),if_neg (by omega),if_neg (by omega)]
    exact hC.nx j (by omega)
  ·have t1:S.coE (S.eR 26)=1:=rfl
   have t2:S.coE (S.eC 67)=2:=rfl
   have t3:S.coE (S.eM (S.eAdr (S.eL 3)) 1)=5:=rfl
   have t4:S.coE (S.eM (S.eAdr (S.eL 3)) 2)=5:=rfl
   have t5:S.coE (S.eAdd (S.eR 26) (S.eC 3))=4:=rfl
   have t6:S.coE (S.eRef (S.eR 26))=7:=rfl
   have t7:S.coE (S.eSub (S.eL 2) (S.eC 1))=4:=rfl
   rw [q1,q5,t1,t2,t3,t4,t5,t6,t7]
   omega
end
end
section
open Go.RowKit
theorem chk_rRest:S.chkB S.rRest=0:=by kernel_rfl
def S.seg (m:Int->Int)(b:Nat):Nat->List Int
 | 0=>[]
 | d+1=>m (17+b-(d+1:Nat))::S.seg m b d
theorem seg_congr {m m':Int->Int}{b:Nat}:∀ {d:Nat},d<=b->(∀ x:Int,17<=x->x<17+b->m x=m' x)->S.seg m b d=S.seg m' b d
 | 0,_,_=>rfl
 | d+1,h,e=>by rw [S.seg,S.seg,e _ (by omega) (by omega),seg_congr (by omega) e]
section
variable {I:S.Img}(hI:I.Ok)
include hI
theorem ws_cons {iN:Nat}(hN:S.Seg I S.kCons iN (S.bItems S.rCons)){dep lk:Int}{behind:Bool}(hdp:17<=dep){a b:S.BE}{env:List Int}{st:S.Vw}{x y p n:Int}(hpa:S.pureEs [a,b]=true)(hok:S.okEs I lk env st [a,b])(he:S.evEs I lk env st [a,b]=[x,y])(h26:st.reg 26=p)(hd:∀ j:Nat,j<3->S.Dat I (p+j))
 {r:List S.BS} {c:Nat} {Q:List Int->S.Vw->Nat->Prop} {R:S.BO->Nat->Prop}
 (hQ:∀ c':Nat,c'<=c+S.coEs [a,b]+70->S.wpSs I dep lk behind r (env.set n.toNat (4*p+1)) ((S.paired (st.args [x,y]) p x y).set 4 (4*p+1)) c' Q R) :
 S.wpSs I dep lk behind (S.sAs n (S.eF S.kCons [a,b])::r) env st c Q R:=by
 rw [wpSs_c,wpS_as,wpE_f]
 refine wpEs_pure hpa hok ?_
 rw [he]
 refine ⟨17,_,real_cons hI hN (st:=st.args [x,y]) (p:=p) h26 hd,hdp,fun ret o k hR=>?_⟩
 obtain ⟨rfl,hk⟩:=hR
 refine hQ _ ?_
 simp only [List.length_cons,List.length_nil]
 omega
theorem ws_conses {iN:Nat}(hN:S.Seg I S.kCons iN (S.bItems S.rCons)){dep lk:Int}{behind:Bool}(hdp:17<=dep){e0 e2 v:Int}{k t:Nat}(hkt:k<=t)(ht:t<=6){L:List Int}{s0:S.Vw}{lo p0:Int}(hv:S.LAt I s0.mem lo p0 v L)(h26:s0.reg 26=p0)(hlo:24<=lo)(hp0:lo<=p0)(hd:∀ a,p0<=a->a<p0+3*(t-k:Nat)->S.Dat I a)
 (hlow:∀ a,0<=a->a<1056->S.Dat I a)
 {r:List S.BS} {c:Nat} {Q:List Int->S.Vw->Nat->Prop} {R:S.BO->Nat->Prop}
 (hQ:∀ (st':S.Vw) (v':Int) (c':Nat),(∀ j,j≠4->j≠5->j≠26->st'.reg j=s0.reg j)->st'.reg 26=p0+3*(t-k:Nat)->(∀ a,¬ (p0<=a/\a<p0+3*(t-k:Nat))->st'.mem a=s0.mem a)->st'.inp=s0.inp->st'.out=s0.out->S.LAt I st'.mem lo (p0+3*(t-k:Nat)) v' (S.seg s0.mem t (t-k)++L)->(c':Int)<=c+10+120*(t-k:Nat) ->
  S.wpSs I dep lk behind r [e0,k,e2,v',k] st' c' Q R) :
 S.wpSs I dep lk behind (S.sWh (S.eLt (S.eL 1) (S.eL 4)) [S.sAs 4 (S.eSub (S.eL 4) (S.eC 1)),S.sAs 3 (S.eF S.kCons [S.eM (S.eAdd (S.eL 4) (S.eC 17)) 0,S.eL 3])]::r) [e0,k,e2,v,t] s0 c Q R:=by
 have hsz:=hI.size2
 refine ws_wh rfl (fun env st' c' q=>∃ (i:Nat) (v':Int),i<=t-k/\q=t-k-i/\env=[e0,(k:Int),e2,v',((t-i:Nat):Int)]/\(∀ j,j≠4->j≠5->j≠26->st'.reg j=s0.reg j)/\st'.reg 26=p0+3*i/\(∀ a,¬ (p0<=a/\a<p0+3*i)->st'.mem a=s0.mem a)/\st'.inp=s0.inp/\st'.out=s0.out /\
  S.LAt I st'.mem lo (p0+3*i) v' (S.seg s0.mem t i++L)/\(c':Int)<=c+120*i)
  (k0:=t-k) ⟨0,v,by omega,by omega,by simp,fun _ _ _ _=>rfl,by simpa using h26,fun _ _=>rfl,rfl,rfl,by simpa [S.seg] using hv,by simp⟩ ?_
 rintro env st' c' q ⟨i,v',hi,rfl,rfl,hreg,hr26,hmem,hinp,hout,hl,hcc⟩
 have q1:S.coE (S.eLt (S.eL 1) (S.eL 4))=3:=rfl
 have elt:S.evE I lk [e0,(k:Int),e2,v',((t-i:Nat):Int)] st' (S.eLt (S.eL 1) (S.eL 4))=if (k:Int)<((t-i:Nat):Int) then 1 else 0:=by
  show S.alu 14 (k:Int) ((t-i:Nat):Int)=_
  exact alu14 _ _
 refine ⟨ok_b (by decide) (ok_l 1) (ok_l 4),fun hz=>?_,fun hnz=>?_⟩
 ·have hie:i=t-k:=by
   refine Classical.byContradiction fun h=>?_
   rw [elt,if_pos (by omega)] at hz
   cases hz
  have hk2:t-i=k:=by omega
  rw [hk2]
  subst hie
  exact hQ st' v' _ hreg hr26 hmem hinp hout hl (by rw [q1];omega)
 ·have hlt:i<t-k:=Classical.byContradiction fun h=>by
   rw [elt,if_neg (by omega)] at hnz
   exact hnz rfl
  refine ws_as rfl (ok_b (by decide) (ok_l 4) (ok_c 1)) ?_
  have esub:S.evE I lk [e0,(k:Int),e2,v',((t-i:Nat):Int)] st' (S.eSub (S.eL 4) (S.eC 1))=((t-(i+1):Nat):Int):=by
   show S.alu 2 ((t-i:Nat):Int) (1%4294967296)=_
   rw [alu2]
   unfold S.u32m
   omega
  rw [esub]
  have hset:[e0,(k:Int),e2,v',((t-i:Nat):Int)].set (Int.toNat 4) ((t-(i+1):Nat):Int)=[e0,(k:Int),e2,v',((t-(i+1):Nat):Int)]:=rfl
  rw [hset]
  have eadd:S.evE I lk [e0,(k:Int),e2,v',((t-(i+1):Nat):Int)] st' (S.eAdd (S.eL 4) (S.eC 17))=17+t-((i+1:Nat):Int):=by
   show S.alu 1 ((t-(i+1):Nat):Int) (17%4294967296)=_
   rw [alu1]
   unfold S.u32m
   omega
  have hu:S.u32m (17+(t:Int)-((i+1:Nat):Int)+0)=17+t-((i+1:Nat):Int):=by unfold S.u32m;omega
  have hp24:(24:Int)<=p0:=by omega
  have ev1:S.evE I lk [e0,(k:Int),e2,v',((t-(i+1):Nat):Int)] st' (S.eM (S.eAdd (S.eL 4) (S.eC 17)) 0)=s0.mem (17+t-((i+1:Nat):Int)):=by
   rw [ev_m,eadd,hu,hmem _ (by omega)]
  have c2:S.coEs [S.eM (S.eAdd (S.eL 4) (S.eC 17)) 0,S.eL 3]=6:=rfl
  have c3:S.coE (S.eSub (S.eL 4) (S.eC 1))=4:=rfl
  refine ws_cons hI hN hdp (a:=S.eM (S.eAdd (S.eL 4) (S.eC 17)) 0) (b:=S.eL 3) (x:=s0.mem (17+t-((i+1:Nat):Int))) (y:=v') (p:=p0+3*i) rfl
   ⟨ok_m (ok_b (by decide) (ok_l 4) (ok_c 17)) (by rw [eadd,hu];exact dat_ok (hlow _ (by omega) (by omega))),ok_l 3,trivial⟩ (by show [_,_]=_;rw [ev1];rfl) hr26 (fun j hj=>hd _ (by omega) (by omega)) fun c4 hc4=>ws_nil ?_
  rw [c2,c3,q1] at hc4
  refine ⟨t-k-(i+1),by omega,i+1,4*(p0+3*i)+1,by omega,rfl,rfl,fun j h4 h5 h26'=>?_,?_,fun a ha=>?_,hinp,hout,?_,by omega⟩
  ·show (if j=4 then _ else if j=26 then _ else if 4<=j/\j<4+(2:Nat) then _ else st'.reg j)=_
   rw [if_neg h4,if_neg h26',if_neg (by omega)]
   exact hreg j h4 h5 h26'
  ·show p0+3*(i:Int)+3=_
   omega
  ·show (if a=p0+3*(i:Int)+2 then _ else if a=p0+3*(i:Int)+1 then _ else if a=p0+3*(i:Int) then _ else st'.mem a)=_
   rw [if_neg (by omega),if_neg (by omega),if_neg (by omega)]
   exact hmem a (by omega)
  ·rw [S.seg,List.cons_append]
   refine ⟨p0+3*i,rfl,by omega,by omega,fun j hj=>hd _ (by omega) (by omega),?_,?_,?_⟩
   ·show (if p0+3*(i:Int)=p0+3*(i:Int)+2 then _ else if p0+3*(i:Int)=p0+3*(i:Int)+1 then _ else if p0+3*(i:Int)=p0+3*(i:Int) then (67:Int) else _)=_
    rw [if_neg (by omega),if_neg (by omega),if_pos rfl]
   ·show (if p0+3*(i:Int)+1=p0+3*(i:Int)+2 then _ else if p0+3*(i:Int)+1=p0+3*(i:Int)+1 then _ else _)=_
    rw [if_neg (by omega),if_pos rfl]
   ·have e:((S.paired (st'.args [s0.mem (17+t-((i+1:Nat):Int)),v']) (p0+3*i) (s0.mem (17+t-((i+1:Nat):Int))) v').set 4 (4*(p0+3*i)+1)).mem (p0+3*i+2)=v':=by
     show (if p0+3*(i:Int)+2=p0+3*(i:Int)+2 then v' else _)=_
     rw [if_pos rfl]
    rw [e]
    refine lat_mono (Int.le_refl _) (by omega) (fun a h1 h2=>?_) hl
    show (if a=p0+3*(i:Int)+2 then _ else if a=p0+3*(i:Int)+1 then _ else if a=p0+3*(i:Int) then _ else st'.mem a)=_
    rw [if_neg (by omega),if_neg (by omega),if_neg (by omega)]
end
end
section
open Go.RowKit
structure S.RstP (I:S.Img)(n k:Nat)(L:List Int)(s2 s4:S.Vw):Prop where
 reg:∀ j,j≠4->j≠5->j≠26->s4.reg j=s2.reg j
 mem:∀ a,¬ (s2.reg 26<=a)->a≠23->¬ (k<6/\a=17+k)->s4.mem a=s2.mem a
 few:k<6->∃ hi,S.LAt I s4.mem (s2.reg 26) hi (s4.mem (17+k)) (S.seg s2.mem (min n 6) (min n 6-k)++L)
 many:¬ k<6->∃ hi,S.LAt I s4.mem (s2.reg 26) hi (s4.mem 23) L
structure S.RstQ (I:S.Img)(n k:Nat)(L:List Int)(s2:S.Vw):Prop where
 lst:6<n->∃ lo,24<=lo/\lo<=s2.reg 26/\S.LAt I s2.mem lo (s2.reg 26) (s2.mem 23) L/\L.length=n-6
 nil:¬ 6<n->L=[]
 r26:1312<=s2.reg 26
 dat:∀ a,s2.reg 26<=a->a<s2.reg 26+3*(n-min k 6:Nat)->S.Dat I a
section
variable {I:S.Img}(hI:I.Ok){cf:S.Cf}(hc:S.Cf.Ok I cf)
include hI hc
theorem ws_more {iN:Nat}(hN:S.Seg I S.kCons iN (S.bItems S.rCons)){dep lk:Int}{behind:Bool}(hdp:17<=dep){n k:Nat}(hkn:k<=n)(hn:n<1000000){L:List Int}{s2 s3:S.Vw}(hq:S.RstQ I n k L s2)
 (hreg:∀ j,j≠26->s3.reg j=s2.reg j) (h26:s3.reg 26=s2.reg 26+3*(n-6:Nat)) (hmem:∀ a,¬ (s2.reg 26<=a/\a<s2.reg 26+3*(n-6:Nat))->a≠23->s3.mem a=s2.mem a) (hlat:S.LAt I s3.mem (s2.reg 26) (s2.reg 26+3*(n-6:Nat)) (s3.mem 23) L)
 {e2 e3 e4:Int} {r:List S.BS} {c:Nat} {Q:List Int->S.Vw->Nat->Prop} {R:S.BO->Nat->Prop}
 (hQ:∀ (env:List Int) (s4:S.Vw) (c':Nat),S.RstP I n k L s2 s4->(c':Int)<=c+900->S.wpSs I dep lk behind r env s4 c' Q R) :
 S.wpSs I dep lk behind (S.sWhen (S.eLt (S.eL 1) (S.eC 6))
  [S.sAs 3 (S.eW 23),S.sAs 4 (S.eL 0),S.sWhen (S.eLt (S.eC 6) (S.eL 4)) [S.sAs 4 (S.eC 6)],
   S.sWh (S.eLt (S.eL 1) (S.eL 4)) [S.sAs 4 (S.eSub (S.eL 4) (S.eC 1)),S.sAs 3 (S.eF S.kCons [S.eM (S.eAdd (S.eL 4) (S.eC 17)) 0,S.eL 3])],
   S.sPut (S.eAdd (S.eL 1) (S.eC 17)) 0 (S.eL 3)]::r) [(n:Int),(k:Int),e2,e3,e4] s3 c Q R:=by
 have hr26:=hq.r26
 have q1:S.coE (S.eLt (S.eL 1) (S.eC 6))=4:=rfl
 have elt:S.evE I lk [(n:Int),(k:Int),e2,e3,e4] s3 (S.eLt (S.eL 1) (S.eC 6))=if (k:Int)<6 then 1 else 0:=by
  show S.alu 14 (k:Int) (6%4294967296)=_
  exact alu14 _ _
 refine ws_if rfl (ok_b (by decide) (ok_l 1) (ok_c 6)) (fun hz=>ws_nil ?_) (fun hnz=>?_)
 ·have hk:¬ k<6:=fun q=>by rw [elt,if_pos (by omega)] at hz;cases hz
  exact hQ _ s3 _ ⟨fun j _ _ h=>hreg j h,fun a h1 h2 h3=>hmem a (fun q=>h1 q.1) h2,fun q=>absurd q hk,fun _=>⟨_,hlat⟩⟩ (by rw [q1];omega)
 ·have hk:k<6:=Classical.byContradiction fun q=>by
   rw [elt,if_neg (by omega)] at hnz
   exact hnz rfl
  obtain ⟨o23,v23⟩:=ev_W hI hc (lk:=lk) (env:=[(n:Int),(k:Int),e2,e3,e4]) (st:=s3) (n:=23) (by decide) (by decide)
  refine ws_as rfl o23 ?_
  rw [v23]
  refine ws_as rfl (ok_l 0) ?_
  have hset:([(n:Int),(k:Int),e2,e3,e4].set (Int.toNat 3) (s3.mem 23)).set (Int.toNat 4) (S.evE I lk ([(n:Int),(k:Int),e2,e3,e4].set (Int.toNat 3) (s3.mem 23)) s3 (S.eL 0))=[(n:Int),(k:Int),e2,s3.mem 23,(n:Int)]:=rfl
  rw [hset]
  have elt6:S.evE I lk [(n:Int),(k:Int),e2,s3.mem 23,(n:Int)] s3 (S.eLt (S.eC 6) (S.eL 4))=if (6:Int)<n then 1 else 0:=by
   show S.alu 14 (6%4294967296) (n:Int)=_
   exact alu14 _ _
  have q2:S.coE (S.eLt (S.eC 6) (S.eL 4))=4:=rfl
  have q3:S.coE (S.eW 23)=3:=rfl
  have q4:S.coE (S.eL 0)=1:=rfl
  have q5:S.coE (S.eC 6)=2:=rfl
  have q6:S.coE (S.eAdd (S.eL 1) (S.eC 17))=4:=rfl
  have q7:S.coE (S.eL 3)=1:=rfl
  have nk:n-min k 6=(n-6)+(min n 6-k):=by omega
  have fin:∀ c':Nat,c'<=c+40->S.wpSs I dep lk behind [S.sWh (S.eLt (S.eL 1) (S.eL 4)) [S.sAs 4 (S.eSub (S.eL 4) (S.eC 1)),S.sAs 3 (S.eF S.kCons [S.eM (S.eAdd (S.eL 4) (S.eC 17)) 0,S.eL 3])],
   S.sPut (S.eAdd (S.eL 1) (S.eC 17)) 0 (S.eL 3)] [(n:Int),(k:Int),e2,s3.mem 23,((min n 6:Nat):Int)] s3 c' (fun env st c=>S.wpSs I dep lk behind r env st (c+3) Q R) R:=by
   intro c' hc'
   refine ws_conses hI hN hdp (k:=k) (t:=min n 6) (by omega) (by omega) hlat h26 (by omega) (by omega) (fun a h1 h2=>hq.dat a (by omega) (by rw [nk];omega)) hc.low fun s4 v' c4 hreg4 h264 hmem4 _ _ hlat4 hc4=>?_
   have hp:S.u32m (S.evE I lk [(n:Int),(k:Int),e2,v',(k:Int)] s4 (S.eAdd (S.eL 1) (S.eC 17))+0)=17+k:=by
    show S.u32m (S.alu 1 (k:Int) (17%4294967296)+0)=_
    rw [alu1]
    unfold S.u32m
    omega
   refine ws_put rfl (ok_b (by decide) (ok_l 1) (ok_c 17)) rfl (ok_l 3) hp (hc.low (17+k) (by omega) (by omega)).2 (ws_nil ?_)
   have e3':S.evE I lk [(n:Int),(k:Int),e2,v',(k:Int)] s4 (S.eL 3)=v':=rfl
   rw [e3']
   refine hQ _ _ _ ⟨fun j h4 h5 h26'=>(hreg4 j h4 h5 h26').trans (hreg j h26'),fun a h1 h2 h3=>?_,fun _=>⟨s2.reg 26+3*(n-6:Nat)+3*(min n 6-k:Nat),?_⟩,fun q=>absurd hk q⟩ ?_
   ·show (if a=17+(k:Int) then v' else s4.mem a)=_
    rw [if_neg (fun q=>h3 ⟨hk,q⟩),hmem4 a (fun q=>by omega)]
    exact hmem a (fun q=>h1 q.1) h2
   ·have e:(s4.sto (17+(k:Int)) v').mem (17+k)=v':=by
     show (if (17:Int)+k=17+k then v' else _)=_
     rw [if_pos rfl]
    rw [e]
    have hs:S.seg s2.mem (min n 6) (min n 6-k)=S.seg s3.mem (min n 6) (min n 6-k):=seg_congr (by omega) fun x h1 h2=>(hmem x (fun q=>by omega) (by omega)).symm
    rw [hs]
    refine lat_mono (Int.le_refl _) (Int.le_refl _) (fun a h1 h2=>?_) hlat4
    show (if a=17+(k:Int) then v' else s4.mem a)=_
    rw [if_neg (by omega)]
   ·rw [q6,q7]
    omega
  refine ws_if rfl (ok_b (by decide) (ok_c 6) (ok_l 4)) (fun hz=>ws_nil ?_) (fun hnz=>?_)
  ·have h6:¬ 6<n:=fun q=>by rw [elt6,if_pos (by omega)] at hz;cases hz
   have:=fin (c+S.coE (S.eLt (S.eL 1) (S.eC 6))+4+S.coE (S.eW 23)+1+S.coE (S.eL 0)+1+S.coE (S.eLt (S.eC 6) (S.eL 4))+4) (by rw [q1,q2,q3,q4];omega)
   rw [show min n 6=n from by omega] at this
   exact this
  ·have h6:6<n:=Classical.byContradiction fun q=>by
    rw [elt6,if_neg (by omega)] at hnz
    exact hnz rfl
   refine ws_as rfl (ok_c 6) (ws_nil ?_)
   have:=fin (c+S.coE (S.eLt (S.eL 1) (S.eC 6))+4+S.coE (S.eW 23)+1+S.coE (S.eL 0)+1+S.coE (S.eLt (S.eC 6) (S.eL 4))+4+S.coE (S.eC 6)+1+3) (by rw [q1,q2,q3,q4,q5];omega)
   rw [show min n 6=6 from by omega] at this
   exact this
def S.RestR (I:S.Img)(cf:S.Cf)(T:S.Ob->Prop)(cnt n k:Nat)(L:List Int)(need want:Int)(st:S.Vw)(o:S.BO)(q:Nat):Prop :=
 ∃ o1 q1,S.ResR I cf T cnt 0 want ((S.saved st n).args [need]) o1 q1/\(q:Int)<=q1+1500+90*n/\match o1 with
  | .ret s2=>∃ s4,o=.ret (S.restored s4)/\S.RstP I n k L s2 s4
  | .halt code s2=>o=.halt code s2
  | .left _ _=>False
theorem real_rest {T:S.Ob->Prop}{iM iS iF iC iR iN iE:Nat}(hM:S.Seg I S.kMove iM (S.bItems S.rMove))(hS:S.Seg I S.kScan iS (S.bItems S.rScan))(hF:S.Seg I S.kFrame iF (S.bItems S.rFrame))(hC:S.Seg I S.kCollect iC (S.bItems S.rCollect))(hR:S.Seg I S.kReserve iR (S.bItems S.rReserve))(hN:S.Seg I S.kCons iN (S.bItems S.rCons))(hE:S.Seg I (S.kRt 101) iE (S.bItems S.rRest))
 {st:S.Vw} {cnt n k:Nat} (h:S.Col I cf T cnt 0 (S.saved st n).mem) (h2:st.reg 2=n) (h3:st.reg 3=k) (hkn:k<=n) (hn:n<1000000) {spare:Int} (h7:st.mem 7=spare) (hs0:0<=spare/\spare<1000000) (h26:0<=st.reg 26/\st.reg 26<=st.reg 27/\st.reg 27<4294967296) {L:List Int}
 (hq:∀ s2 q,S.ResR I cf T cnt 0 (3*(n-min k 6:Nat)+spare) ((S.saved st n).args [3*((n-min k 6:Nat):Int)]) (.ret s2) q->S.RstQ I n k L s2) :
 S.Real I (S.kRt 101) false st 108 (fun _ o q=>S.RestR I cf T cnt n k L (3*(n-min k 6:Nat)) (3*(n-min k 6:Nat)+spare) st o q):=by
 refine real_of hI S.rRest chk_rRest hE (dep:=88) (by decide) st _ fun lk env _ _ hl hp=>?_
 obtain ⟨e0,e1,e2,e3,e4,rfl⟩:=env5 hl
 obtain ⟨T1,hT1⟩:∃ T1,T1=S.sIf (S.eLt (S.eC 6) (S.eL 0)) (S.sAs 2 (S.eSub (S.eL 0) (S.eC 6))::S.bCopied (S.eL 2) (S.eL 3) (S.eL 2) 2 3) [S.sKeep 23 (S.eC 38)]:=⟨_,rfl⟩
 obtain ⟨T2,hT2⟩:∃ T2,T2=S.sWhen (S.eLt (S.eL 1) (S.eC 6))
  [S.sAs 3 (S.eW 23),S.sAs 4 (S.eL 0),S.sWhen (S.eLt (S.eC 6) (S.eL 4)) [S.sAs 4 (S.eC 6)],
   S.sWh (S.eLt (S.eL 1) (S.eL 4)) [S.sAs 4 (S.eSub (S.eL 4) (S.eC 1)),S.sAs 3 (S.eF S.kCons [S.eM (S.eAdd (S.eL 4) (S.eC 17)) 0,S.eL 3])],
   S.sPut (S.eAdd (S.eL 1) (S.eC 17)) 0 (S.eL 3)]:=⟨_,rfl⟩
 have hbody:S.rRest.body=S.sAs 0 (S.eR 2)::S.sAs 1 (S.eR 3)::S.sAs 2 (S.eL 1)::(S.bSave (S.eL 0)++(S.sWhen (S.eLt (S.eC 6) (S.eL 2)) [S.sAs 2 (S.eC 6)]::S.sAs 2 (S.eSub (S.eL 0) (S.eL 2))::S.sDo (S.eF S.kReserve [S.eAdd (S.eL 2) (S.eShl (S.eL 2) 1)])::S.sAs 2 (S.eC 0)::T1::T2::S.bRestore)):=by
  rw [hT1,hT2]
  rfl
 rw [hbody]
 have qp:S.rRest.params.toNat=0:=rfl
 have qb:S.rRest.behind=false:=rfl
 rw [qp,qb]
 refine ws_as rfl (ok_r 2) (ws_as rfl (ok_r 3) (ws_as rfl (ok_l 1) ?_))
 have hset:(([e0,e1,e2,e3,e4].set (Int.toNat 0) (S.evE I lk [e0,e1,e2,e3,e4] st (S.eR 2))).set (Int.toNat 1) (S.evE I lk ([e0,e1,e2,e3,e4].set (Int.toNat 0) (S.evE I lk [e0,e1,e2,e3,e4] st (S.eR 2))) st (S.eR 3))).set (Int.toNat 2)
  (S.evE I lk (([e0,e1,e2,e3,e4].set (Int.toNat 0) (S.evE I lk [e0,e1,e2,e3,e4] st (S.eR 2))).set (Int.toNat 1) (S.evE I lk ([e0,e1,e2,e3,e4].set (Int.toNat 0) (S.evE I lk [e0,e1,e2,e3,e4] st (S.eR 2))) st (S.eR 3))) st (S.eL 1))=[(n:Int),(k:Int),(k:Int),e3,e4]:=by
  show [st.reg 2,st.reg 3,st.reg 3,e3,e4]=_
  rw [h2,h3]
 rw [hset]
 have r1:S.coE (S.eR 2)=1:=rfl
 have r2:S.coE (S.eR 3)=1:=rfl
 have r3:S.coE (S.eL 1)=1:=rfl
 rw [r1,r2,r3]
 refine ws_save hI hc (m:=n) rfl (fun _=>ok_l 0) (fun _=>rfl) (by decide) (by omega) fun c1 hc1=>?_
 have elt6:S.evE I lk [(n:Int),(k:Int),(k:Int),e3,e4] (S.saved st n) (S.eLt (S.eC 6) (S.eL 2))=if (6:Int)<k then 1 else 0:=by
  show S.alu 14 (6%4294967296) (k:Int)=_
  exact alu14 _ _
 have q2:S.coE (S.eLt (S.eC 6) (S.eL 2))=4:=rfl
 have q5:S.coE (S.eC 6)=2:=rfl
 have q6:S.coE (S.eSub (S.eL 0) (S.eL 2))=3:=rfl
 have q7:S.coEs [S.eAdd (S.eL 2) (S.eShl (S.eL 2) 1)]=6:=rfl
 have q8:S.coE (S.eC 0)=2:=rfl
 have fin:∀ c2:Nat,c2<=c1+20->S.wpSs I 88 lk false (S.sAs 2 (S.eSub (S.eL 0) (S.eL 2))::S.sDo (S.eF S.kReserve [S.eAdd (S.eL 2) (S.eShl (S.eL 2) 1)])::S.sAs 2 (S.eC 0)::T1::T2::S.bRestore) [(n:Int),(k:Int),((min k 6:Nat):Int),e3,e4] (S.saved st n) c2
  (fun _ st' c'=>S.RestR I cf T cnt n k L (3*(n-min k 6:Nat)) (3*(n-min k 6:Nat)+spare) st (.ret st') (c'+(if false=true then 5 else 3))) (fun o q=>S.RestR I cf T cnt n k L (3*(n-min k 6:Nat)) (3*(n-min k 6:Nat)+spare) st o q):=by
  intro c2 hc2
  refine ws_as rfl (ok_b (by decide) (ok_l 0) (ok_l 2)) ?_
  have esub:S.evE I lk [(n:Int),(k:Int),((min k 6:Nat):Int),e3,e4] (S.saved st n) (S.eSub (S.eL 0) (S.eL 2))=((n-min k 6:Nat):Int):=by
   show S.alu 2 (n:Int) ((min k 6:Nat):Int)=_
   rw [alu2]
   unfold S.u32m
   omega
  rw [esub]
  obtain ⟨mm,hmm⟩:∃ mm,mm=n-min k 6:=⟨_,rfl⟩
  rw [<- hmm] at hq ⊢
  have hset2:[(n:Int),(k:Int),((min k 6:Nat):Int),e3,e4].set (Int.toNat 2) (mm:Int)=[(n:Int),(k:Int),(mm:Int),e3,e4]:=rfl
  rw [hset2]
  have earg:S.evEs I lk [(n:Int),(k:Int),(mm:Int),e3,e4] (S.saved st n) [S.eAdd (S.eL 2) (S.eShl (S.eL 2) 1)]=[3*(mm:Int)]:=by
   show [S.alu 1 (mm:Int) (S.alu 10 (mm:Int) (1%4294967296))]=_
   rw [shl1,alu1]
   congr 1
   unfold S.u32m
   omega
  refine ws_do (l:=[S.eAdd (S.eL 2) (S.eShl (S.eL 2) 1)]) rfl ⟨ok_b (by decide) (ok_l 2) (ok_b (by decide) (ok_l 2) (ok_c 1)),trivial⟩ (d:=88) (T:=fun _ o k=>S.ResR I cf T cnt 0 (3*(mm:Int)+spare) ((S.saved st n).args [3*(mm:Int)]) o k)
   (by rw [earg];exact real_reserve hI hc hM hS hF hC hR (st:=(S.saved st n).args [3*(mm:Int)]) h rfl h7 (by omega) h26) (by decide) fun ret o q hR=>?_
  rw [earg,q7]
  have hlen:([3*(mm:Int)]:List Int).length=1:=rfl
  rw [hlen,q6]
  cases o with
  | halt code s2=>exact ⟨_,q,hR,by omega,rfl⟩
  | left a b=>rcases hR with ⟨_,e,_⟩ | ⟨_,_,_,_,⟨_,e⟩ | ⟨_,e⟩,_⟩ <;> cases e
  | ret s2 =>
   have hQ2:=hq s2 q hR
   have hr26:=hQ2.r26
   refine ws_as rfl (ok_c 0) ?_
   have hset3:[(n:Int),(k:Int),(mm:Int),e3,e4].set (Int.toNat 2) (S.evE I lk [(n:Int),(k:Int),(mm:Int),e3,e4] s2 (S.eC 0))=[(n:Int),(k:Int),0,e3,e4]:=rfl
   rw [hset3]
   have done:∀ (s3:S.Vw) (x2 x3:Int) (c3:Nat),(∀ j,j≠26->s3.reg j=s2.reg j)->s3.reg 26=s2.reg 26+3*(n-6:Nat)->(∀ a,¬ (s2.reg 26<=a/\a<s2.reg 26+3*(n-6:Nat))->a≠23->s3.mem a=s2.mem a)->S.LAt I s3.mem (s2.reg 26) (s2.reg 26+3*(n-6:Nat)) (s3.mem 23) L->(c3:Int)<=c2+q+200+90*n ->
    S.wpSs I 88 lk false (T2::S.bRestore) [(n:Int),(k:Int),x2,x3,e4] s3 c3 (fun _ st' c'=>S.RestR I cf T cnt n k L (3*(mm:Int)) (3*(mm:Int)+spare) st (.ret st') (c'+(if false=true then 5 else 3))) (fun o q=>S.RestR I cf T cnt n k L (3*(mm:Int)) (3*(mm:Int)+spare) st o q):=by
    intro s3 x2 x3 c3 g1 g2 g3 g4 g5
    rw [hT2]
    refine ws_more hI hc hN (by decide) hkn hn hQ2 g1 g2 g3 g4 fun env s4 c4 hP hc4=>ws_restore hI hc fun c5 hc5=>⟨_,q,hR,by omega,s4,rfl,hP⟩
   have elt0:S.evE I lk [(n:Int),(k:Int),0,e3,e4] s2 (S.eLt (S.eC 6) (S.eL 0))=if (6:Int)<n then 1 else 0:=by
    show S.alu 14 (6%4294967296) (n:Int)=_
    exact alu14 _ _
   have q9:S.coE (S.eLt (S.eC 6) (S.eL 0))=4:=rfl
   have d23:=(hc.low 23 (by decide) (by decide)).2
   rw [hT1]
   refine ws_if rfl (ok_b (by decide) (ok_c 6) (ok_l 0)) (fun hz=>?_) (fun hnz=>?_)
   ·have h6:¬ 6<n:=fun q=>by rw [elt0,if_pos (by omega)] at hz;cases hz
    refine ws_put (a:=S.eC 23) (p:=23) rfl (ok_c 23) rfl (ok_c 38) rfl d23 (ws_nil ?_)
    have h06:n-6=0:=by omega
    refine done _ _ _ _ (fun _ _=>rfl) (by rw [h06];show s2.reg 26=_;omega) (fun a _ ha=>by show (if a=23 then _ else s2.mem a)=_;rw [if_neg ha]) ?_ ?_
    ·rw [hQ2.nil h6]
     exact (rfl:(if (23:Int)=23 then S.evE I lk [(n:Int),(k:Int),0,e3,e4] s2 (S.eC 38) else s2.mem 23)=38)
    ·have t1:S.coE (S.eC 23)=2:=rfl
     have t2:S.coE (S.eC 38)=2:=rfl
     rw [q8,q9,t1,t2]
     omega
   ·have h6:6<n:=Classical.byContradiction fun q=>by
     rw [elt0,if_neg (by omega)] at hnz
     exact hnz rfl
    obtain ⟨lo,hlo1,hlo2,hlat,hlen⟩:=hQ2.lst h6
    refine ws_as rfl (ok_b (by decide) (ok_l 0) (ok_c 6)) ?_
    have es6:S.evE I lk [(n:Int),(k:Int),0,e3,e4] s2 (S.eSub (S.eL 0) (S.eC 6))=((n-6:Nat):Int):=by
     show S.alu 2 (n:Int) (6%4294967296)=_
     rw [alu2]
     unfold S.u32m
     omega
    rw [es6]
    have hset4:[(n:Int),(k:Int),0,e3,e4].set (Int.toNat 2) ((n-6:Nat):Int)=[(n:Int),(k:Int),((n-6:Nat):Int),e3,e4]:=rfl
    rw [hset4]
    obtain ⟨o23,v23⟩:=ev_W hI hc (lk:=lk) (env:=[(n:Int),(k:Int),((n-6:Nat):Int),e3,e4]) (st:=s2) (n:=23) (by decide) (by decide)
    unfold S.bCopied
    refine ws_as rfl o23 ?_
    rw [v23]
    have hset5:[(n:Int),(k:Int),((n-6:Nat):Int),e3,e4].set (Int.toNat 3) (s2.mem 23)=[(n:Int),(k:Int),((n-6:Nat):Int),s2.mem 23,e4]:=rfl
    rw [hset5]
    refine ws_put (a:=S.eC 23) (p:=23) rfl (ok_c 23) rfl (ok_b (by decide) (ok_b (by decide) (ok_r 26) (ok_c 2)) (ok_c 1)) rfl d23 ?_
    have dlast:=hQ2.dat (s2.reg 26+3*(n-6:Nat)-1) (by omega) (by omega)
    have dl1:=dlast.2.1
    have hsz:=hI.size2
    have eref:S.evE I lk [(n:Int),(k:Int),((n-6:Nat):Int),s2.mem 23,e4] s2 (S.eRef (S.eR 26))=4*s2.reg 26+1:=by
     show S.alu 8 (S.alu 10 (s2.reg 26) (2%4294967296)) (1%4294967296)=_
     rw [shl2]
     have:S.u32m (s2.reg 26*4)=4*s2.reg 26:=by unfold S.u32m;omega
     rw [this,or1 (by omega) (by omega) (by omega)]
    rw [eref]
    have t1:S.coE (S.eC 23)=2:=rfl
    have t3:S.coE (S.eSub (S.eL 0) (S.eC 6))=4:=rfl
    have t4:S.coE (S.eW 23)=3:=rfl
    have t5:S.coE (S.eRef (S.eR 26))=7:=rfl
    rw [q8,q9,t1,t3,t4,t5]
    refine ws_copy hI (m:=n-6) hlen (by omega) (s0:=s2.sto 23 (4*s2.reg 26+1)) (lo:=lo) (p0:=s2.reg 26) (lat_mono (Int.le_refl _) (Int.le_refl _) (fun a h1 h2=>by show (if a=23 then _ else s2.mem a)=_;rw [if_neg (by omega)]) hlat) rfl hlo1 (fun a h1 h2=>hQ2.dat a h1 (by omega)) hlo2 (by omega)
     fun s3 x3 c3 g1 g2 g3 _ _ g6 g7=>ws_nil ?_
    refine done s3 0 x3 _ (fun j hj=>g1 j hj) g2 (fun a h1 h2=>?_) ?_ (by omega)
    ·rw [g3 a h1]
     show (if a=23 then _ else s2.mem a)=_
     rw [if_neg h2]
    ·have e:s3.mem 23=4*s2.reg 26+1:=by
      rw [g3 23 (by omega)]
      exact (rfl:(if (23:Int)=23 then 4*s2.reg 26+1 else s2.mem 23)=4*s2.reg 26+1)
     rw [e]
     exact g6
 refine ws_if rfl (ok_b (by decide) (ok_c 6) (ok_l 2)) (fun hz=>ws_nil ?_) (fun hnz=>?_)
 ·have h6:¬ 6<k:=fun q=>by rw [elt6,if_pos (by omega)] at hz;cases hz
  have:=fin (c1+S.coE (S.eLt (S.eC 6) (S.eL 2))+4) (by rw [q2];omega)
  rw [show ((min k 6:Nat):Int)=(k:Int) from by omega] at this
  exact this
 ·have h6:6<k:=Classical.byContradiction fun q=>by
   rw [elt6,if_neg (by omega)] at hnz
   exact hnz rfl
  refine ws_as rfl (ok_c 6) (ws_nil ?_)
  have:=fin (c1+S.coE (S.eLt (S.eC 6) (S.eL 2))+4+S.coE (S.eC 6)+1+3) (by rw [q2,q5];omega)
  rw [show ((min k 6:Nat):Int)=6 from by omega] at this
  exact this
end
end
section
open Go.RowKit
theorem lat_of_late {I:S.Img}{m:Int->Int}{lo hi:Int}:∀ {L:List Int} {v:Int},S.LAtE I m lo hi 38 v L->S.LAt I m lo hi v L
 | [],v,h=>h
 | x::r,v,⟨a,h1,h2,h3,h4,h5,h6,h7⟩=>⟨a,h1,h2,h3,h4,h5,h6,lat_of_late h7⟩
section
variable {I:S.Img}(hI:I.Ok){cf:S.Cf}(hlow:∀ a,0<=a->a<1056->S.Dat I a)
section
variable {dep lk:Int}{behind:Bool}{env:List Int}{st:S.Vw}{r:List S.BS}{c:Nat}{Q:List Int->S.Vw->Nat->Prop}{R:S.BO->Nat->Prop}
include hI
end
end
end
section
open Go.RowKit
section
variable {gw sw F:List Int}{size:Int}
theorem seg_reserve (b:Bool):∃ i,S.Seg (S.wImg b gw sw F size) S.kReserve i (S.bItems S.rReserve):=seg_r (j:=6) (r:=S.rReserve) rfl
theorem seg_cons (b:Bool):∃ i,S.Seg (S.wImg b gw sw F size) S.kCons i (S.bItems S.rCons):=seg_r (j:=7) (r:=S.rCons) rfl
theorem seg_rest (b:Bool):∃ i,S.Seg (S.wImg b gw sw F size) (S.kRt 101) i (S.bItems S.rRest):=seg_r (j:=9) (r:=S.rRest) rfl
section
variable {g:S.Gr}{a:Int}{was at_:List Int}{mem:Int->Int}{half fr to_ r26:Int}{il:List Nat}{nu:Nat->Int}{n0:Int}{l:List Nat}{cnt n:Nat}
end
end
section
variable {gw sw F:List Int}{size:Int}{g:S.Gr}{a:Int}{was at_:List Int}{half fr to_ r26:Int}{il:List Nat}{nu:Nat->Int}{n0:Int}{l:List Nat}{cnt n:Nat}
end
end
section
open Go.RowKit
theorem k_Rest (n k:Int)(w:World)(hn:0<=n/\n<=1000000)(hk:0<=k/\k<=1000000):Calls Tryz.prog 39 #[.int .i64 n,.int .i64 k] w fun e w'=>e=.returned (.int .i64 (3*(n-min k 6)))/\w=w':=by
 by_cases c:k>6
 ·have d:decide (k>6)=true:=by simp [c]
  have hm:min k 6=6:=by omega
  rw [hm]
  have q1:IntKind.i64.wrap (n-6)=n-6:=IntWalk.i64_in _ ⟨by omega,by omega⟩
  have q2:IntKind.i64.wrap (3*(n-6))=3*(n-6):=IntWalk.i64_in _ ⟨by omega,by omega⟩
  clear c hm
  go_enter Tryz.func39,Tryz.ntmps39
  go_wp2_with fail
  go_ret
  exact ⟨rfl,rfl⟩
 ·have d:decide (k>6)=false:=by simp;omega
  have hm:min k 6=k:=by omega
  rw [hm]
  have q1:IntKind.i64.wrap (n-k)=n-k:=IntWalk.i64_in _ ⟨by omega,by omega⟩
  have q2:IntKind.i64.wrap (3*(n-k))=3*(n-k):=IntWalk.i64_in _ ⟨by omega,by omega⟩
  clear c hm
  go_enter Tryz.func39,Tryz.ntmps39
  go_wp2_with fail
  go_ret
  exact ⟨rfl,rfl⟩
section
variable {w w':World}{F:Nat->Prop}{lo b p_:Nat}{H half:Int}{P:List (ByteArray×Int)}{m:S.Mach}
end
end
section
open Go.RowKit
def S.lnd (N:Int)(j:Nat):S.GN:=⟨0,[(4*(100+(N-1-j)),0),(38,j)]⟩
def S.lgr (p N:Int)(n:Nat):S.Gr:=⟨(List.range n).map (S.lnd N),(List.range n).map fun j:Nat=>p+3*(j:Int)⟩
theorem sizes3:∀ l:List S.GN,(∀ x∈l,x.size=3)->S.sizes l=3*l.length
 | [],_=>rfl
 | x::r,h=>by
  rw [S.sizes,sizes3 r (fun y hy=>h y (List.mem_cons_of_mem _ hy)),h x List.mem_cons_self,List.length_cons]
  omega
section
variable {p N:Int}{n:Nat}
theorem lgr_len:(S.lgr p N n).ns.length=n:=by show ((List.range n).map _).length=n;rw [List.length_map,List.length_range]
theorem lgr_3:∀ x∈(S.lgr p N n).ns,x.size=3:=fun x hx=>by
 obtain ⟨j,_,rfl⟩:=List.mem_map.1 (show x∈(List.range n).map _ from hx)
 rfl
theorem lgr_sizes:S.sizes (S.lgr p N n).ns=3*n:=by rw [sizes3 _ lgr_3,lgr_len]
theorem lgr_ok (hn:n<=30)(hp:0<=p/\p<=335544320)(hN:(n:Int)<=N/\N<=1000):(S.lgr p N n).Ok p:=by
 refine ⟨?_,by rw [lgr_len];exact hn,fun x hx=>?_,fun x hx=>?_,hp.1,hp.2⟩
 ·refine List.ext_getElem? fun i=>?_
  by_cases c:i<n
  ·rw [addrsFrom_at (by rw [lgr_len];exact c),sizes3 _ (fun x hx=>lgr_3 x (List.mem_of_mem_take hx)),List.length_take,lgr_len]
   show ((List.range n).map fun j:Nat=>p+3*(j:Int))[i]?=_
   rw [List.getElem?_map,List.getElem?_range c]
   show some (p+3*(i:Int))=_
   congr 2
   omega
  ·rw [List.getElem?_eq_none (by show ((List.range n).map _).length<=i;rw [List.length_map,List.length_range];omega),List.getElem?_eq_none (by rw [addrsFrom_len,lgr_len];omega)]
 ·obtain ⟨j,_,rfl⟩:=List.mem_map.1 (show x∈(List.range n).map _ from hx)
  show 2<=12
  decide
 ·obtain ⟨j,hj,rfl⟩:=List.mem_map.1 (show x∈(List.range n).map _ from hx)
  have:=List.mem_range.1 hj
  refine ⟨by show (0:Int)<=0;decide,fun y hy=>?_⟩
  have hy':y∈[((4*(100+(N-1-j)):Int),(0:Int)),(38,(j:Int))]:=hy
  simp only [List.mem_cons,List.not_mem_nil,or_false] at hy'
  rcases hy' with rfl | rfl
  ·exact ⟨by show 0<=4*(100+(N-1-(j:Int)));omega,by show 4*(100+(N-1-(j:Int)))<_;omega,Int.le_refl _⟩
  ·exact ⟨by show (0:Int)<=38;decide,by show (38:Int)<_;decide,by show (0:Int)<=(j:Int);omega⟩
theorem lgr_nd {j:Nat}(hj:j<n):(S.lgr p N n).nd j=S.lnd N j/\(S.lgr p N n).adr j=p+3*(j:Int):=by
 constructor
 ·show ((List.range n).map (S.lnd N)).getD j ⟨0,[]⟩=_
  rw [List.getD_eq_getElem?_getD,List.getElem?_map,List.getElem?_range hj]
  rfl
 ·show ((List.range n).map fun j:Nat=>p+3*(j:Int)).getD j 0=_
  rw [List.getD_eq_getElem?_getD,List.getElem?_map,List.getElem?_range hj]
  rfl
theorem lgr_word0 (hj:True)(x:Int)(hx:x%4=0\/x=38):(S.lgr p N n).word (x,0)=x:=by
 unfold S.Gr.word
 rw [if_neg (fun h=>absurd h.1 (by show ¬ (0:Int)<0;decide))]
 unfold S.plain
 rw [if_neg (by show ¬ (x%4=1\/x%4=3);omega)]
theorem lgr_word1 {j:Nat}(hj:j<n):(S.lgr p N n).word (38,((j+1:Nat):Int))=4*(p+3*(j:Int))+1:=by
 have hne:(S.lgr p N n).ns≠[]:=fun e=>by
  have:=lgr_len (p:=p) (N:=N) (n:=n)
  rw [e] at this
  simp at this
  omega
 unfold S.Gr.word
 rw [if_pos ⟨by show (0:Int)<((j+1:Nat):Int);omega,hne⟩,lgr_len]
 have e:((((j+1:Nat):Int)-1)%(n:Int)).toNat=j:=by
  rw [show (((j+1:Nat):Int)-1)=(j:Int) from by omega,Int.emod_eq_of_lt (by omega) (by omega)]
  rfl
 show 4*(S.lgr p N n).at_.getD ((((j+1:Nat):Int)-1)%(n:Int)).toNat 0+1=_
 rw [e]
 have:=(lgr_nd (p:=p) (N:=N) hj).2
 unfold S.Gr.adr at this
 rw [this]
theorem lgr_word (hN:n<=1000000){j:Nat}(hj:j<n):(S.lgr p N n).word (38,(j:Int))=S.endL p j:=by
 cases j with
 | zero=>exact lgr_word0 trivial 38 (.inr rfl)
 | succ j=>rw [lgr_word1 (show j<n by omega)];rfl
end
theorem shape_lo {g:S.Gr}{was now:List Int}{mem:Int->Int}{fr fr' r26:Int}{il:List Nat}{nu:Nat->Int}(h:S.Shape g was now mem fr r26 il nu)(hf:fr'<=fr):S.Shape g was now mem fr' r26 il nu :=
 ⟨h.nd,h.rng,h.len,h.good,fun n hn=>⟨Int.le_trans hf (h.at_ n hn).1,(h.at_ n hn).2⟩,h.words,h.dis⟩
theorem endL_pos' (p:Int):∀ {j:Nat},1<=j->S.endL p j=4*(p+3*((j:Int)-1))+1
 | 0,h=>by omega
 | j+1,_=>by rw [S.endL];omega
theorem keeps_lat {I:S.Img}{p:Int}{n:Nat}(hg:(S.lgr p n n).Ok p)(hn:1<=n)(hn2:n<=30){v:Int}{mem:Int->Int}{fr half r26 r27:Int}{il:List Nat}{nu:Nat->Int}(hK:S.Keeps (S.lgr p n n) [S.endL p n] [v] mem fr half r26 r27 il nu)(hd:∀ a,fr<=a->a<r26->S.Dat I a):S.LAt I mem fr r26 v (S.itemsL n n):=by
 have nodeP:∀ j:Nat,j<n->(S.lgr p n n).node (4*(p+3*(j:Int))+1)=some j:=fun j hj=>by
  have:=gr_node hg (i:=j) (by rw [lgr_len];exact hj)
  rw [(lgr_nd hj).2] at this
  exact this
 have key:∀ j:Nat,j<n->j∈il->S.LAt I mem fr r26 (4*nu j+1) (S.itemsL n (j+1)):=by
  intro j
  induction j with
  | zero =>
   intro hj hm
   obtain ⟨a1,a2,a3⟩:=hK.sh.at_ 0 hm
   have hs:((S.lgr p n n).nd 0).size=3:=by rw [(lgr_nd hj).1];rfl
   rw [hs] at a2
   have w0:=hK.sh.words 0 hm 0 (4*(100+((n:Int)-1-(0:Nat))),0) (by rw [(lgr_nd hj).1];rfl)
   have w1:=hK.sh.words 0 hm 1 (38,((0:Nat):Int)) (by rw [(lgr_nd hj).1];rfl)
   rw [lgr_word0 trivial _ (.inl (by omega))] at w0
   rw [lgr_word (by omega) hj] at w1
   have e0:=w0.1 (by unfold S.Gr.node;rw [if_neg (by omega)])
   have e1:=w1.1 (by unfold S.Gr.node;rw [if_neg (by show ¬ (38:Int)%4=1;decide)])
   refine ⟨nu 0,rfl,a1,a2,fun q hq=>hd _ (by omega) (by omega),by rw [a3,(lgr_nd hj).1];rfl,?_,?_⟩
   ·rw [show nu 0+1=nu 0+1+((0:Nat):Int) from by simp]
    exact e0.symm
   ·show mem (nu 0+2)=38
    rw [show nu 0+2=nu 0+1+((1:Nat):Int) from by omega]
    exact e1.symm
  | succ j ih =>
   intro hj hm
   obtain ⟨a1,a2,a3⟩:=hK.sh.at_ (j+1) hm
   have hs:((S.lgr p n n).nd (j+1)).size=3:=by rw [(lgr_nd hj).1];rfl
   rw [hs] at a2
   have w0:=hK.sh.words (j+1) hm 0 (4*(100+((n:Int)-1-(j+1:Nat))),0) (by rw [(lgr_nd hj).1];rfl)
   have w1:=hK.sh.words (j+1) hm 1 (38,((j+1:Nat):Int)) (by rw [(lgr_nd hj).1];rfl)
   rw [lgr_word0 trivial _ (.inl (by omega))] at w0
   rw [lgr_word1 (show j<n by omega)] at w1
   have e0:=w0.1 (by unfold S.Gr.node;rw [if_neg (by omega)])
   obtain ⟨m1,e1⟩:=w1.2 j (nodeP j (by omega))
   refine ⟨nu (j+1),rfl,a1,a2,fun q hq=>hd _ (by omega) (by omega),by rw [a3,(lgr_nd hj).1];rfl,?_,?_⟩
   ·rw [show nu (j+1)+1=nu (j+1)+1+((0:Nat):Int) from by simp]
    exact e0.symm
   ·rw [show nu (j+1)+2=nu (j+1)+1+((1:Nat):Int) from by omega,e1]
    exact ih (by omega) m1
 have hv:=hK.sh.good 0 (S.endL p n) v rfl rfl
 rw [endL_pos' p hn] at hv
 obtain ⟨m0,e0⟩:=hv.2 (n-1) (by
  have:=nodeP (n-1) (by omega)
  rw [show ((n-1:Nat):Int)=(n:Int)-1 from by omega] at this
  exact this)
 rw [e0]
 have:=key (n-1) (by omega) m0
 rw [show n-1+1=n from by omega] at this
 exact this
end
end Go.Proofs.YtlldagdhlfpihaaGreatDoor
