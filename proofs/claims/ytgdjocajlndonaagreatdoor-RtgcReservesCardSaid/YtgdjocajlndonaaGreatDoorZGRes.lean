/- Parts. -/
import Derived.Test.YtgdjocajlndonaaGreatDoorZGWp
import Derived.Test.YtgdjocajlndonaaGreatDoorZGCol
set_option linter.all false
namespace Go.Proofs.YtgdjocajlndonaaGreatDoor
open Go.RowKit
theorem Zns:S.chkB S.rReserve=0:=by kernel_rfl
def S.b5 (I:S.Img)(cf:S.Cf)(T:S.Ob->Prop)(cnt n:Nat)(want:Int)(st:S.Vw)(o:S.BO)(k:Nat):Prop :=
 (want<=st.reg 27-st.reg 26/\o=.ret st/\k<=40) \/
 (st.reg 27-st.reg 26<want/\∃ st' ρ,S.Cd cf T (S.RX I st.mem cnt n) st ρ st'/\((want<=cf.hf-S.tot ρ/\o=.ret st')\/(cf.hf-S.tot ρ<want/\o=.halt 255 st')) /\
  (k:Int)<=800+130*(cnt+(I.lab S.kCode-1312))+10100*n+170*S.tot ρ)
theorem Zxw (st:S.Vw):st.args []=st:=by
 have:(st.args []).reg=st.reg:=by
  funext j
  show (if 4<=j/\j<4+(0:Nat) then _ else st.reg j)=_
  rw [if_neg (by omega)]
 cases st
 show S.Vw.mk _ _ _ _=_
 congr
section
variable {I:S.Img}(hI:I.Ok){cf:S.Cf}(hc:S.Cf.Ok I cf){T:S.Ob->Prop}
include hI hc
theorem Zhj {iM iS iF iC iR:Nat}(hM:S.Seg I S.kMove iM (S.bItems S.rMove))(hS:S.Seg I S.kScan iS (S.bItems S.rScan))(hF:S.Seg I S.kFrame iF (S.bItems S.rFrame))(hC:S.Seg I S.kCollect iC (S.bItems S.rCollect))(hR:S.Seg I S.kReserve iR (S.bItems S.rReserve))
 {st:S.Vw} {cnt n:Nat} (h:S.dp I cf T cnt n st.mem) {need spare:Int} (h4:st.reg 4=need) (h7:st.mem 7=spare) (hn0:0<=need/\0<=spare/\need+spare<4294967296) (h26:0<=st.reg 26/\st.reg 26<=st.reg 27/\st.reg 27<4294967296) :
 S.Real I S.kReserve false st 88 (fun _ o k=>S.b5 I cf T cnt n (need+spare) st o k):=by
 refine Zg5 hI S.rReserve Zns hR (dep:=72) (by decide) st _ fun lk env _ _ hl hp=>?_
 obtain ⟨e0,rfl⟩:=Zy4 hl;have h0:e0=st.reg 4:=hp 0 (show (0:Int)<1 by decide);rw [h4] at h0;subst h0;have htoz:=hc.toz;have hto0:=hc.to0;have hhf:=hc.hf0;unfold S.rReserve;simp only;obtain ⟨o7,v7⟩:=Zr7 hI hc (lk:=lk) (env:=[e0]) (st:=st) (n:=7) (by decide) (by decide);refine Zed rfl (Zfe (by decide) (Zcy 0) o7) ?_;have ev1:S.evE I lk [e0] st (S.eAdd (S.eL 0) (S.eW 7))=e0+spare:=by
  show S.alu 1 e0 (S.evE I lk [e0] st (S.eW 7))=_
  rw [v7,h7,Zqw];unfold S.u32m;omega
 rw [ev1];have hset:[e0].set (Int.toNat 0) (e0+spare)=[e0+spare]:=rfl;rw [hset];have eshort:∀ st:S.Vw,S.evE I lk [e0+spare] st S.eShort=if S.u32m (st.reg 27-st.reg 26)<e0+spare then 1 else 0:=fun st=>Znq _ _
 have okshort:∀ st:S.Vw,S.okE I lk [e0+spare] st S.eShort:=fun st=>Zfe (by decide) (Zfe (by decide) (Znp 27) (Znp 26)) (Zcy 0)
 have q1:S.coE (S.eAdd (S.eL 0) (S.eW 7))=5:=rfl;have q2:S.coE S.eShort=5:=rfl;have q3:S.coEs ([]:List S.BE)=0:=rfl;have q4:S.coE (S.eC 255)=2:=rfl;have hu:S.u32m (st.reg 27-st.reg 26)=st.reg 27-st.reg 26:=by unfold S.u32m;omega
 refine Zjw rfl (okshort st) (fun hz=>Za0 (Za0 ?_)) (fun hnz=>?_)
 ·rw [eshort,hu] at hz
  have:¬ st.reg 27-st.reg 26<e0+spare:=fun q=>by rw [if_pos q] at hz;cases hz
  refine .inl ⟨by omega,rfl,?_⟩;rw [q1,q2]
  decide
 ·rw [eshort,hu] at hnz
  have hlt:st.reg 27-st.reg 26<e0+spare:=Classical.byContradiction fun q=>by rw [if_neg q] at hnz;exact hnz rfl
  refine Zxu (l:=[]) rfl trivial (d:=72) (T:=fun _ o k=>S.cd I cf T cnt n (st.args []) o k) (Zep hI hc hM hS hF hC (st:=st.args []) h) (by decide) fun ret o k hR=>?_
  rw [Zxw] at hR;obtain ⟨st',ρ,rfl,hcd,hk⟩:=hR;have hu':S.u32m (st'.reg 27-st'.reg 26)=cf.hf-S.tot ρ:=by
   have hsum:=Zbn ρ cf.O hcd.nd hcd.sub;have hs:=hc.sum;have t0:=Zu ρ;rw [hcd.r26,hcd.r27];unfold S.u32m;omega
  have hlen:(S.evEs I lk [e0+spare] st []).length=0:=rfl;refine Zjw rfl (okshort st') (fun hz=>Za0 (Za0 (Za0 ?_))) (fun hnz=>?_)
  ·rw [eshort,hu'] at hz
   have:¬ cf.hf-S.tot ρ<e0+spare:=fun q=>by rw [if_pos q] at hz;cases hz
   refine .inr ⟨hlt,st',ρ,hcd,.inl ⟨by omega,rfl⟩,?_⟩;rw [q1,q2,q3,hlen];simp only [Bool.false_eq_true,if_false];omega
  ·rw [eshort,hu'] at hnz
   have hlt2:cf.hf-S.tot ρ<e0+spare:=Classical.byContradiction fun q=>by rw [if_neg q] at hnz;exact hnz rfl
   refine Z2r rfl (Zb1 255) (.inr ⟨hlt,st',ρ,hcd,.inr ⟨hlt2,rfl⟩,?_⟩);rw [q1,q2,q3,q4,hlen];omega
end
section
variable {I:S.Img}(hI:I.Ok)
include hI
end
end Go.Proofs.YtgdjocajlndonaaGreatDoor
