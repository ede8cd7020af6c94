/- Parts. -/
import Derived.Test.YtlldagdhlfpihaaGreatDoorZGRst
import Derived.Test.YtlldagdhlfpihaaGreatDoorZGSpec
set_option linter.unusedVariables false
set_option linter.unusedSimpArgs false
set_option linter.unusedSectionVars false
namespace Go.Proofs.YtlldagdhlfpihaaGreatDoor
section
open Go.RowKit
structure S.RstP (I:S.Img) (n k:Nat) (L:List Int) (s2 s4:S.Vw):Prop where
 reg:∀ j,j≠4->j≠5->j≠26->s4.reg j=s2.reg j
 mem:∀ a,¬ (s2.reg 26<=a)->a≠23->¬ (k<6/\a=17+k)->s4.mem a=s2.mem a
 few:k<6->∃ hi,S.LAt I s4.mem (s2.reg 26) hi (s4.mem (17+k)) (S.seg s2.mem (min n 6) (min n 6-k)++L)
 many:¬ k<6->∃ hi,S.LAt I s4.mem (s2.reg 26) hi (s4.mem 23) L
structure S.RstQ (I:S.Img) (n k:Nat) (L:List Int) (s2:S.Vw):Prop where
 lst:6<n->∃ lo,24<=lo/\lo<=s2.reg 26/\S.LAt I s2.mem lo (s2.reg 26) (s2.mem 23) L/\L.length=n-6
 nil:¬ 6<n->L=[]
 r26:1312<=s2.reg 26
 dat:∀ a,s2.reg 26<=a->a<s2.reg 26+3*(n-min k 6:Nat)->S.Dat I a
section
variable {I:S.Img}(hI:I.Ok){cf:S.Cf}(hc:S.Cf.Ok I cf)
include hI hc
theorem ws_more {iN:Nat}(hN:S.Seg I S.kCons iN (S.bItems S.rCons)){dep lk:Int}{behind:Bool}(hdp:17<=dep){n k:Nat}(hkn:k<=n) (hn:n<1000000){L:List Int}{s2 s3:S.Vw}(hq:S.RstQ I n k L s2)
 (hreg:∀ j,j≠26->s3.reg j=s2.reg j) (h26:s3.reg 26=s2.reg 26+3*(n-6:Nat)) (hmem:∀ a,¬ (s2.reg 26<=a/\a<s2.reg 26+3*(n-6:Nat))->a≠23->s3.mem a=s2.mem a) (hlat:S.LAt I s3.mem (s2.reg 26) (s2.reg 26+3*(n-6:Nat)) (s3.mem 23) L)
 {e2 e3 e4:Int} {r:List S.BS} {c:Nat} {Q:List Int->S.Vw->Nat->Prop} {R:S.BO->Nat->Prop}
 (hQ:∀ (env:List Int) (s4:S.Vw) (c':Nat),S.RstP I n k L s2 s4->(c':Int)<=c+900->S.wpSs I dep lk behind r env s4 c' Q R) :
 S.wpSs I dep lk behind (S.sWhen (S.eLt (S.eL 1) (S.eC 6))
  [S.sAs 3 (S.eW 23),S.sAs 4 (S.eL 0),S.sWhen (S.eLt (S.eC 6) (S.eL 4)) [S.sAs 4 (S.eC 6)],
   S.sWh (S.eLt (S.eL 1) (S.eL 4)) [S.sAs 4 (S.eSub (S.eL 4) (S.eC 1)),S.sAs 3 (S.eF S.kCons [S.eM (S.eAdd (S.eL 4) (S.eC 17)) 0,S.eL 3])],
   S.sPut (S.eAdd (S.eL 1) (S.eC 17)) 0 (S.eL 3)]::r) [(n:Int),(k:Int),e2,e3,e4] s3 c Q R:=by
 have hr26:=hq.r26
 have q1:S.coE (S.eLt (S.eL 1) (S.eC 6))=4:=rfl
 have elt:S.evE I lk [(n:Int),(k:Int),e2,e3,e4] s3 (S.eLt (S.eL 1) (S.eC 6))=if (k:Int)<6 then 1 else 0:=by
  show S.alu 14 (k:Int) (6%4294967296)=_
  exact alu14 _ _
 refine ws_if rfl (ok_b (by decide) (ok_l 1) (ok_c 6)) (fun hz=>ws_nil ?_) (fun hnz=>?_)
 ·have hk:¬ k<6:=fun q=>by rw [elt,if_pos (by omega)] at hz;cases hz
  exact hQ _ s3 _ ⟨fun j _ _ h=>hreg j h,fun a h1 h2 h3=>hmem a (fun q=>h1 q.1) h2,fun q=>absurd q hk,fun _=>⟨_,hlat⟩⟩ (by rw [q1];omega)
 ·have hk:k<6:=Classical.byContradiction fun q=>by
   rw [elt,if_neg (by omega)] at hnz
   exact hnz rfl
  obtain ⟨o23,v23⟩:=ev_W hI hc (lk:=lk) (env:=[(n:Int),(k:Int),e2,e3,e4]) (st:=s3) (n:=23) (by decide) (by decide)
  refine ws_as rfl o23 ?_
  rw [v23]
  refine ws_as rfl (ok_l 0) ?_
  have hset:([(n:Int),(k:Int),e2,e3,e4].set (Int.toNat 3) (s3.mem 23)).set (Int.toNat 4) (S.evE I lk ([(n:Int),(k:Int),e2,e3,e4].set (Int.toNat 3) (s3.mem 23)) s3 (S.eL 0))=[(n:Int),(k:Int),e2,s3.mem 23,(n:Int)]:=rfl
  rw [hset]
  have elt6:S.evE I lk [(n:Int),(k:Int),e2,s3.mem 23,(n:Int)] s3 (S.eLt (S.eC 6) (S.eL 4))=if (6:Int)<n then 1 else 0:=by
   show S.alu 14 (6%4294967296) (n:Int)=_
   exact alu14 _ _
  have q2:S.coE (S.eLt (S.eC 6) (S.eL 4))=4:=rfl
  have q3:S.coE (S.eW 23)=3:=rfl
  have q4:S.coE (S.eL 0)=1:=rfl
  have q5:S.coE (S.eC 6)=2:=rfl
  have q6:S.coE (S.eAdd (S.eL 1) (S.eC 17))=4:=rfl
  have q7:S.coE (S.eL 3)=1:=rfl
  have nk:n-min k 6=(n-6)+(min n 6-k):=by omega
  have fin:∀ c':Nat,c'<=c+40->S.wpSs I dep lk behind [S.sWh (S.eLt (S.eL 1) (S.eL 4)) [S.sAs 4 (S.eSub (S.eL 4) (S.eC 1)),S.sAs 3 (S.eF S.kCons [S.eM (S.eAdd (S.eL 4) (S.eC 17)) 0,S.eL 3])],
   S.sPut (S.eAdd (S.eL 1) (S.eC 17)) 0 (S.eL 3)] [(n:Int),(k:Int),e2,s3.mem 23,((min n 6:Nat):Int)] s3 c' (fun env st c=>S.wpSs I dep lk behind r env st (c+3) Q R) R:=by
   intro c' hc'
   refine ws_conses hI hN hdp (k:=k) (t:=min n 6) (by omega) (by omega) hlat h26 (by omega) (by omega) (fun a h1 h2=>hq.dat a (by omega) (by rw [nk];omega)) hc.low fun s4 v' c4 hreg4 h264 hmem4 _ _ hlat4 hc4=>?_
   have hp:S.u32m (S.evE I lk [(n:Int),(k:Int),e2,v',(k:Int)] s4 (S.eAdd (S.eL 1) (S.eC 17))+0)=17+k:=by
    show S.u32m (S.alu 1 (k:Int) (17%4294967296)+0)=_
    rw [alu1]
    unfold S.u32m
    omega
   refine ws_put rfl (ok_b (by decide) (ok_l 1) (ok_c 17)) rfl (ok_l 3) hp (hc.low (17+k) (by omega) (by omega)).2 (ws_nil ?_)
   have e3':S.evE I lk [(n:Int),(k:Int),e2,v',(k:Int)] s4 (S.eL 3)=v':=rfl
   rw [e3']
   refine hQ _ _ _ ⟨fun j h4 h5 h26'=>(hreg4 j h4 h5 h26').trans (hreg j h26'),fun a h1 h2 h3=>?_,fun _=>⟨s2.reg 26+3*(n-6:Nat)+3*(min n 6-k:Nat),?_⟩,fun q=>absurd hk q⟩ ?_
   ·show (if a=17+(k:Int) then v' else s4.mem a)=_
    rw [if_neg (fun q=>h3 ⟨hk,q⟩),hmem4 a (fun q=>by omega)]
    exact hmem a (fun q=>h1 q.1) h2
   ·have e:(s4.sto (17+(k:Int)) v').mem (17+k)=v':=by
     show (if (17:Int)+k=17+k then v' else _)=_
     rw [if_pos rfl]
    rw [e]
    have hs:S.seg s2.mem (min n 6) (min n 6-k)=S.seg s3.mem (min n 6) (min n 6-k):=seg_congr (by omega) fun x h1 h2=>(hmem x (fun q=>by omega) (by omega)).symm
    rw [hs]
    refine lat_mono (Int.le_refl _) (Int.le_refl _) (fun a h1 h2=>?_) hlat4
    show (if a=17+(k:Int) then v' else s4.mem a)=_
    rw [if_neg (by omega)]
   ·rw [q6,q7]
    omega
  refine ws_if rfl (ok_b (by decide) (ok_c 6) (ok_l 4)) (fun hz=>ws_nil ?_) (fun hnz=>?_)
  ·have h6:¬ 6<n:=fun q=>by rw [elt6,if_pos (by omega)] at hz;cases hz
   have:=fin (c+S.coE (S.eLt (S.eL 1) (S.eC 6))+4+S.coE (S.eW 23)+1+S.coE (S.eL 0)+1+S.coE (S.eLt (S.eC 6) (S.eL 4))+4) (by rw [q1,q2,q3,q4];omega)
   rw [show min n 6=n from by omega] at this
   exact this
  ·have h6:6<n:=Classical.byContradiction fun q=>by
    rw [elt6,if_neg (by omega)] at hnz
    exact hnz rfl
   refine ws_as rfl (ok_c 6) (ws_nil ?_)
   have:=fin (c+S.coE (S.eLt (S.eL 1) (S.eC 6))+4+S.coE (S.eW 23)+1+S.coE (S.eL 0)+1+S.coE (S.eLt (S.eC 6) (S.eL 4))+4+S.coE (S.eC 6)+1+3) (by rw [q1,q2,q3,q4,q5];omega)
   rw [show min n 6=6 from by omega] at this
   exact this
def S.RestR (I:S.Img) (cf:S.Cf) (T:S.Ob->Prop) (cnt n k:Nat) (L:List Int) (need want:Int) (st:S.Vw) (o:S.BO) (q:Nat):Prop :=
 ∃ o1 q1,S.ResR I cf T cnt 0 want ((S.saved st n).args [need]) o1 q1/\(q:Int)<=q1+1500+90*n/\match o1 with
  | .ret s2=>∃ s4,o=.ret (S.restored s4)/\S.RstP I n k L s2 s4
  | .halt code s2=>o=.halt code s2
  | .left _ _=>False
theorem real_rest {T:S.Ob->Prop}{iM iS iF iC iR iN iE:Nat}(hM:S.Seg I S.kMove iM (S.bItems S.rMove)) (hS:S.Seg I S.kScan iS (S.bItems S.rScan)) (hF:S.Seg I S.kFrame iF (S.bItems S.rFrame)) (hC:S.Seg I S.kCollect iC (S.bItems S.rCollect)) (hR:S.Seg I S.kReserve iR (S.bItems S.rReserve)) (hN:S.Seg I S.kCons iN (S.bItems S.rCons)) (hE:S.Seg I (S.kRt 101) iE (S.bItems S.rRest))
 {st:S.Vw} {cnt n k:Nat} (h:S.Col I cf T cnt 0 (S.saved st n).mem) (h2:st.reg 2=n) (h3:st.reg 3=k) (hkn:k<=n) (hn:n<1000000) {spare:Int} (h7:st.mem 7=spare) (hs0:0<=spare/\spare<1000000) (h26:0<=st.reg 26/\st.reg 26<=st.reg 27/\st.reg 27<4294967296) {L:List Int}
 (hq:∀ s2 q,S.ResR I cf T cnt 0 (3*(n-min k 6:Nat)+spare) ((S.saved st n).args [3*((n-min k 6:Nat):Int)]) (.ret s2) q->S.RstQ I n k L s2) :
 S.Real I (S.kRt 101) false st 108 (fun _ o q=>S.RestR I cf T cnt n k L (3*(n-min k 6:Nat)) (3*(n-min k 6:Nat)+spare) st o q):=by
 refine real_of hI S.rRest chk_rRest hE (dep:=88) (by decide) st _ fun lk env _ _ hl hp=>?_
 obtain ⟨e0,e1,e2,e3,e4,rfl⟩:=env5 hl
 obtain ⟨T1,hT1⟩:∃ T1,T1=S.sIf (S.eLt (S.eC 6) (S.eL 0)) (S.sAs 2 (S.eSub (S.eL 0) (S.eC 6))::S.bCopied (S.eL 2) (S.eL 3) (S.eL 2) 2 3) [S.sKeep 23 (S.eC 38)]:=⟨_,rfl⟩
 obtain ⟨T2,hT2⟩:∃ T2,T2=S.sWhen (S.eLt (S.eL 1) (S.eC 6))
  [S.sAs 3 (S.eW 23),S.sAs 4 (S.eL 0),S.sWhen (S.eLt (S.eC 6) (S.eL 4)) [S.sAs 4 (S.eC 6)],
   S.sWh (S.eLt (S.eL 1) (S.eL 4)) [S.sAs 4 (S.eSub (S.eL 4) (S.eC 1)),S.sAs 3 (S.eF S.kCons [S.eM (S.eAdd (S.eL 4) (S.eC 17)) 0,S.eL 3])],
   S.sPut (S.eAdd (S.eL 1) (S.eC 17)) 0 (S.eL 3)]:=⟨_,rfl⟩
 have hbody:S.rRest.body=S.sAs 0 (S.eR 2)::S.sAs 1 (S.eR 3)::S.sAs 2 (S.eL 1)::(S.bSave (S.eL 0)++(S.sWhen (S.eLt (S.eC 6) (S.eL 2)) [S.sAs 2 (S.eC 6)]::S.sAs 2 (S.eSub (S.eL 0) (S.eL 2))::S.sDo (S.eF S.kReserve [S.eAdd (S.eL 2) (S.eShl (S.eL 2) 1)])::S.sAs 2 (S.eC 0)::T1::T2::S.bRestore)):=by
  rw [hT1,hT2]
  rfl
 rw [hbody]
 have qp:S.rRest.params.toNat=0:=rfl
 have qb:S.rRest.behind=false:=rfl
 rw [qp,qb]
 refine ws_as rfl (ok_r 2) (ws_as rfl (ok_r 3) (ws_as rfl (ok_l 1) ?_))
 have hset:(([e0,e1,e2,e3,e4].set (Int.toNat 0) (S.evE I lk [e0,e1,e2,e3,e4] st (S.eR 2))).set (Int.toNat 1) (S.evE I lk ([e0,e1,e2,e3,e4].set (Int.toNat 0) (S.evE I lk [e0,e1,e2,e3,e4] st (S.eR 2))) st (S.eR 3))).set (Int.toNat 2)
  (S.evE I lk (([e0,e1,e2,e3,e4].set (Int.toNat 0) (S.evE I lk [e0,e1,e2,e3,e4] st (S.eR 2))).set (Int.toNat 1) (S.evE I lk ([e0,e1,e2,e3,e4].set (Int.toNat 0) (S.evE I lk [e0,e1,e2,e3,e4] st (S.eR 2))) st (S.eR 3))) st (S.eL 1))=[(n:Int),(k:Int),(k:Int),e3,e4]:=by
  show [st.reg 2,st.reg 3,st.reg 3,e3,e4]=_
  rw [h2,h3]
 rw [hset]
 have r1:S.coE (S.eR 2)=1:=rfl
 have r2:S.coE (S.eR 3)=1:=rfl
 have r3:S.coE (S.eL 1)=1:=rfl
 rw [r1,r2,r3]
 refine ws_save hI hc (m:=n) rfl (fun _=>ok_l 0) (fun _=>rfl) (by decide) (by omega) fun c1 hc1=>?_
 have elt6:S.evE I lk [(n:Int),(k:Int),(k:Int),e3,e4] (S.saved st n) (S.eLt (S.eC 6) (S.eL 2))=if (6:Int)<k then 1 else 0:=by
  show S.alu 14 (6%4294967296) (k:Int)=_
  exact alu14 _ _
 have q2:S.coE (S.eLt (S.eC 6) (S.eL 2))=4:=rfl
 have q5:S.coE (S.eC 6)=2:=rfl
 have q6:S.coE (S.eSub (S.eL 0) (S.eL 2))=3:=rfl
 have q7:S.coEs [S.eAdd (S.eL 2) (S.eShl (S.eL 2) 1)]=6:=rfl
 have q8:S.coE (S.eC 0)=2:=rfl
 have fin:∀ c2:Nat,c2<=c1+20->S.wpSs I 88 lk false (S.sAs 2 (S.eSub (S.eL 0) (S.eL 2))::S.sDo (S.eF S.kReserve [S.eAdd (S.eL 2) (S.eShl (S.eL 2) 1)])::S.sAs 2 (S.eC 0)::T1::T2::S.bRestore) [(n:Int),(k:Int),((min k 6:Nat):Int),e3,e4] (S.saved st n) c2
  (fun _ st' c'=>S.RestR I cf T cnt n k L (3*(n-min k 6:Nat)) (3*(n-min k 6:Nat)+spare) st (.ret st') (c'+(if false=true then 5 else 3))) (fun o q=>S.RestR I cf T cnt n k L (3*(n-min k 6:Nat)) (3*(n-min k 6:Nat)+spare) st o q):=by
  intro c2 hc2
  refine ws_as rfl (ok_b (by decide) (ok_l 0) (ok_l 2)) ?_
  have esub:S.evE I lk [(n:Int),(k:Int),((min k 6:Nat):Int),e3,e4] (S.saved st n) (S.eSub (S.eL 0) (S.eL 2))=((n-min k 6:Nat):Int):=by
   show S.alu 2 (n:Int) ((min k 6:Nat):Int)=_
   rw [alu2]
   unfold S.u32m
   omega
  rw [esub]
  obtain ⟨mm,hmm⟩:∃ mm,mm=n-min k 6:=⟨_,rfl⟩
  rw [<- hmm] at hq ⊢
  have hset2:[(n:Int),(k:Int),((min k 6:Nat):Int),e3,e4].set (Int.toNat 2) (mm:Int)=[(n:Int),(k:Int),(mm:Int),e3,e4]:=rfl
  rw [hset2]
  have earg:S.evEs I lk [(n:Int),(k:Int),(mm:Int),e3,e4] (S.saved st n) [S.eAdd (S.eL 2) (S.eShl (S.eL 2) 1)]=[3*(mm:Int)]:=by
   show [S.alu 1 (mm:Int) (S.alu 10 (mm:Int) (1%4294967296))]=_
   rw [shl1,alu1]
   congr 1
   unfold S.u32m
   omega
  refine ws_do (l:=[S.eAdd (S.eL 2) (S.eShl (S.eL 2) 1)]) rfl ⟨ok_b (by decide) (ok_l 2) (ok_b (by decide) (ok_l 2) (ok_c 1)),trivial⟩ (d:=88) (T:=fun _ o k=>S.ResR I cf T cnt 0 (3*(mm:Int)+spare) ((S.saved st n).args [3*(mm:Int)]) o k)
   (by rw [earg];exact real_reserve hI hc hM hS hF hC hR (st:=(S.saved st n).args [3*(mm:Int)]) h rfl h7 (by omega) h26) (by decide) fun ret o q hR=>?_
  rw [earg,q7]
  have hlen:([3*(mm:Int)]:List Int).length=1:=rfl
  rw [hlen,q6]
  cases o with
  | halt code s2=>exact ⟨_,q,hR,by omega,rfl⟩
  | left a b=>rcases hR with ⟨_,e,_⟩ | ⟨_,_,_,_,⟨_,e⟩ | ⟨_,e⟩,_⟩ <;> cases e
  | ret s2 =>
   have hQ2:=hq s2 q hR
   have hr26:=hQ2.r26
   refine ws_as rfl (ok_c 0) ?_
   have hset3:[(n:Int),(k:Int),(mm:Int),e3,e4].set (Int.toNat 2) (S.evE I lk [(n:Int),(k:Int),(mm:Int),e3,e4] s2 (S.eC 0))=[(n:Int),(k:Int),0,e3,e4]:=rfl
   rw [hset3]
   have done:∀ (s3:S.Vw) (x2 x3:Int) (c3:Nat),(∀ j,j≠26->s3.reg j=s2.reg j)->s3.reg 26=s2.reg 26+3*(n-6:Nat)->(∀ a,¬ (s2.reg 26<=a/\a<s2.reg 26+3*(n-6:Nat))->a≠23->s3.mem a=s2.mem a)->S.LAt I s3.mem (s2.reg 26) (s2.reg 26+3*(n-6:Nat)) (s3.mem 23) L->(c3:Int)<=c2+q+200+90*n ->
    S.wpSs I 88 lk false (T2::S.bRestore) [(n:Int),(k:Int),x2,x3,e4] s3 c3 (fun _ st' c'=>S.RestR I cf T cnt n k L (3*(mm:Int)) (3*(mm:Int)+spare) st (.ret st') (c'+(if false=true then 5 else 3))) (fun o q=>S.RestR I cf T cnt n k L (3*(mm:Int)) (3*(mm:Int)+spare) st o q):=by
    intro s3 x2 x3 c3 g1 g2 g3 g4 g5
    rw [hT2]
    refine ws_more hI hc hN (by decide) hkn hn hQ2 g1 g2 g3 g4 fun env s4 c4 hP hc4=>ws_restore hI hc fun c5 hc5=>⟨_,q,hR,by omega,s4,rfl,hP⟩
   have elt0:S.evE I lk [(n:Int),(k:Int),0,e3,e4] s2 (S.eLt (S.eC 6) (S.eL 0))=if (6:Int)<n then 1 else 0:=by
    show S.alu 14 (6%4294967296) (n:Int)=_
    exact alu14 _ _
   have q9:S.coE (S.eLt (S.eC 6) (S.eL 0))=4:=rfl
   have d23:=(hc.low 23 (by decide) (by decide)).2
   rw [hT1]
   refine ws_if rfl (ok_b (by decide) (ok_c 6) (ok_l 0)) (fun hz=>?_) (fun hnz=>?_)
   ·have h6:¬ 6<n:=fun q=>by rw [elt0,if_pos (by omega)] at hz;cases hz
    refine ws_put (a:=S.eC 23) (p:=23) rfl (ok_c 23) rfl (ok_c 38) rfl d23 (ws_nil ?_)
    have h06:n-6=0:=by omega
    refine done _ _ _ _ (fun _ _=>rfl) (by rw [h06];show s2.reg 26=_;omega) (fun a _ ha=>by show (if a=23 then _ else s2.mem a)=_;rw [if_neg ha]) ?_ ?_
    ·rw [hQ2.nil h6]
     exact (rfl:(if (23:Int)=23 then S.evE I lk [(n:Int),(k:Int),0,e3,e4] s2 (S.eC 38) else s2.mem 23)=38)
    ·have t1:S.coE (S.eC 23)=2:=rfl
     have t2:S.coE (S.eC 38)=2:=rfl
     rw [q8,q9,t1,t2]
     omega
   ·have h6:6<n:=Classical.byContradiction fun q=>by
     rw [elt0,if_neg (by omega)] at hnz
     exact hnz rfl
    obtain ⟨lo,hlo1,hlo2,hlat,hlen⟩:=hQ2.lst h6
    refine ws_as rfl (ok_b (by decide) (ok_l 0) (ok_c 6)) ?_
    have es6:S.evE I lk [(n:Int),(k:Int),0,e3,e4] s2 (S.eSub (S.eL 0) (S.eC 6))=((n-6:Nat):Int):=by
     show S.alu 2 (n:Int) (6%4294967296)=_
     rw [alu2]
     unfold S.u32m
     omega
    rw [es6]
    have hset4:[(n:Int),(k:Int),0,e3,e4].set (Int.toNat 2) ((n-6:Nat):Int)=[(n:Int),(k:Int),((n-6:Nat):Int),e3,e4]:=rfl
    rw [hset4]
    obtain ⟨o23,v23⟩:=ev_W hI hc (lk:=lk) (env:=[(n:Int),(k:Int),((n-6:Nat):Int),e3,e4]) (st:=s2) (n:=23) (by decide) (by decide)
    unfold S.bCopied
    refine ws_as rfl o23 ?_
    rw [v23]
    have hset5:[(n:Int),(k:Int),((n-6:Nat):Int),e3,e4].set (Int.toNat 3) (s2.mem 23)=[(n:Int),(k:Int),((n-6:Nat):Int),s2.mem 23,e4]:=rfl
    rw [hset5]
    refine ws_put (a:=S.eC 23) (p:=23) rfl (ok_c 23) rfl (ok_b (by decide) (ok_b (by decide) (ok_r 26) (ok_c 2)) (ok_c 1)) rfl d23 ?_
    have dlast:=hQ2.dat (s2.reg 26+3*(n-6:Nat)-1) (by omega) (by omega)
    have dl1:=dlast.2.1
    have hsz:=hI.size2
    have eref:S.evE I lk [(n:Int),(k:Int),((n-6:Nat):Int),s2.mem 23,e4] s2 (S.eRef (S.eR 26))=4*s2.reg 26+1:=by
     show S.alu 8 (S.alu 10 (s2.reg 26) (2%4294967296)) (1%4294967296)=_
     rw [shl2]
     have:S.u32m (s2.reg 26*4)=4*s2.reg 26:=by unfold S.u32m;omega
     rw [this,or1 (by omega) (by omega) (by omega)]
    rw [eref]
    have t1:S.coE (S.eC 23)=2:=rfl
    have t3:S.coE (S.eSub (S.eL 0) (S.eC 6))=4:=rfl
    have t4:S.coE (S.eW 23)=3:=rfl
    have t5:S.coE (S.eRef (S.eR 26))=7:=rfl
    rw [q8,q9,t1,t3,t4,t5]
    refine ws_copy hI (m:=n-6) hlen (by omega) (s0:=s2.sto 23 (4*s2.reg 26+1)) (lo:=lo) (p0:=s2.reg 26) (lat_mono (Int.le_refl _) (Int.le_refl _) (fun a h1 h2=>by show (if a=23 then _ else s2.mem a)=_;rw [if_neg (by omega)]) hlat) rfl hlo1 (fun a h1 h2=>hQ2.dat a h1 (by omega)) hlo2 (by omega)
     fun s3 x3 c3 g1 g2 g3 _ _ g6 g7=>ws_nil ?_
    refine done s3 0 x3 _ (fun j hj=>g1 j hj) g2 (fun a h1 h2=>?_) ?_ (by omega)
    ·rw [g3 a h1]
     show (if a=23 then _ else s2.mem a)=_
     rw [if_neg h2]
    ·have e:s3.mem 23=4*s2.reg 26+1:=by
      rw [g3 23 (by omega)]
      exact (rfl:(if (23:Int)=23 then 4*s2.reg 26+1 else s2.mem 23)=4*s2.reg 26+1)
     rw [e]
     exact g6
 refine ws_if rfl (ok_b (by decide) (ok_c 6) (ok_l 2)) (fun hz=>ws_nil ?_) (fun hnz=>?_)
 ·have h6:¬ 6<k:=fun q=>by rw [elt6,if_pos (by omega)] at hz;cases hz
  have:=fin (c1+S.coE (S.eLt (S.eC 6) (S.eL 2))+4) (by rw [q2];omega)
  rw [show ((min k 6:Nat):Int)=(k:Int) from by omega] at this
  exact this
 ·have h6:6<k:=Classical.byContradiction fun q=>by
   rw [elt6,if_neg (by omega)] at hnz
   exact hnz rfl
  refine ws_as rfl (ok_c 6) (ws_nil ?_)
  have:=fin (c1+S.coE (S.eLt (S.eC 6) (S.eL 2))+4+S.coE (S.eC 6)+1+3) (by rw [q2,q5];omega)
  rw [show ((min k 6:Nat):Int)=6 from by omega] at this
  exact this
end
end
section
open Go.RowKit
def S.LAtE (I:S.Img) (mem:Int->Int) (lo hi e:Int):Int->List Int->Prop
 | v,[]=>v=e
 | v,x::r=>∃ a,v=4*a+1/\lo<=a/\a+3<=hi/\(∀ j:Nat,j<3->S.Dat I (a+j))/\mem a=67/\mem (a+1)=x/\S.LAtE I mem lo hi e (mem (a+2)) r
theorem late_mono {I:S.Img}{m m':Int->Int}{lo hi lo' hi' e:Int}(hl:lo'<=lo) (hh:hi<=hi') (hm:∀ a,lo<=a->a<hi->m' a=m a):∀ {L:List Int}{v:Int},S.LAtE I m lo hi e v L->S.LAtE I m' lo' hi' e v L
 | [],v,h=>h
 | x::r,v,⟨a,h1,h2,h3,h4,h5,h6,h7⟩=>⟨a,h1,by omega,by omega,h4,(hm a h2 (by omega)).trans h5,(hm (a+1) (by omega) (by omega)).trans h6,by rw [hm (a+2) (by omega) (by omega)];exact late_mono hl hh hm h7⟩
theorem lat_of_late {I:S.Img}{m:Int->Int}{lo hi:Int}:∀ {L:List Int}{v:Int},S.LAtE I m lo hi 38 v L->S.LAt I m lo hi v L
 | [],v,h=>h
 | x::r,v,⟨a,h1,h2,h3,h4,h5,h6,h7⟩=>⟨a,h1,h2,h3,h4,h5,h6,lat_of_late h7⟩
section
variable {I:S.Img}(hI:I.Ok){cf:S.Cf}(hlow:∀ a,0<=a->a<1056->S.Dat I a)
section
variable {dep lk:Int}{behind:Bool}{env:List Int}{st:S.Vw}{r:List S.BS}{c:Nat}{Q:List Int->S.Vw->Nat->Prop}{R:S.BO->Nat->Prop}
include hI
end
end
end
section
open Go.RowKit
namespace S
def bSp (n:Int):Item:=⟨8,⟨0,0,0,0,0⟩,bNo,n⟩
def bHalt:Item:=bI 36 0 0 0 0
def hItems (gw sw:List Int):List Item:=bSp 1312::(gw.map bW++(bL kStatic::(sw.map bW++[bL kCode,bL kStub,bHalt,bL kMapped,bW 0,bHalt])))
def tItems:List Item:=[bL kMore,bSp 8,bL kEnd]
def oHead (gw sw:List Int):Obj:=⟨kHead,hItems gw sw⟩
def oTail:Obj:=⟨kTail,tItems⟩
def mid:List Item:=joined (objs26++[oMain])
def wObjs (gw sw:List Int):List Obj:=oHead gw sw::(objs26++[oMain])++[oTail]
def nodupB:List ByteArray->Bool
 | []=>true
 | x::r=>!(r.any fun y=>decide (x=y)) && nodupB r
def subB (a b:List ByteArray):Bool:=a.all fun s=>b.any fun t=>decide (s=t)
def hTells:List ByteArray:=[kStatic,kCode,kStub,kMapped]
def tTells:List ByteArray:=[kMore,kEnd]
def wTells:List ByteArray:=hTells++tells mid++tTells
def midB:Bool:=nodupB wTells && subB (names mid) wTells && mid.all (fun x=>decide (chkItem x=0)) && mid.all (fun x=>decide (0<=x.word/\x.word<=4294967295)) && decide (bulk mid<=8000)
end S
theorem mid_ok:S.midB=true:=by kernel_rfl
theorem nodup_of:∀ {l:List ByteArray},S.nodupB l=true->l.Nodup
 | [],_=>List.nodup_nil
 | x::r,h=>by
  rw [S.nodupB,Bool.and_eq_true] at h
  refine List.nodup_cons.2 ⟨fun hx=>?_,nodup_of h.2⟩
  have:(r.any fun y=>decide (x=y))=true:=List.any_eq_true.2 ⟨x,hx,decide_eq_true rfl⟩
  rw [this] at h
  exact absurd h.1 (by decide)
theorem sub_of {a b:List ByteArray}(h:S.subB a b=true):∀ s∈a,s∈b:=fun s hs=>by
 obtain ⟨t,ht,he⟩:=List.any_eq_true.1 (List.all_eq_true.1 h s hs)
 rw [of_decide_eq_true he]
 exact ht
theorem wTells_nodup:S.wTells.Nodup:=nodup_of (by have:=mid_ok;unfold S.midB at this;simp only [Bool.and_eq_true] at this;exact this.1.1.1.1)
theorem mid_names:∀ s∈S.names S.mid,s∈S.wTells:=sub_of (by have:=mid_ok;unfold S.midB at this;simp only [Bool.and_eq_true] at this;exact this.1.1.1.2)
theorem mid_chk:S.allChk S.mid:=fun x hx=>by
 have:=mid_ok
 unfold S.midB at this
 simp only [Bool.and_eq_true] at this
 exact of_decide_eq_true (List.all_eq_true.1 this.1.1.2 x hx)
theorem mid_words:∀ x∈S.mid,0<=x.word/\x.word<=4294967295:=fun x hx=>by
 have:=mid_ok
 unfold S.midB at this
 simp only [Bool.and_eq_true] at this
 exact of_decide_eq_true (List.all_eq_true.1 this.1.2 x hx)
theorem mid_bulk:S.bulk S.mid<=8000:=by
 have:=mid_ok
 unfold S.midB at this
 simp only [Bool.and_eq_true] at this
 exact of_decide_eq_true this.2
theorem joined_append (a b:List S.Obj):S.joined (a++b)=S.joined a++S.joined b:=List.flatMap_append
theorem joined_w (gw sw:List Int):S.joined (S.wObjs gw sw)=S.hItems gw sw++(S.mid++S.tItems):=by
 have hh:S.joined [S.oHead gw sw]=S.hItems gw sw:=by
  have e:S.joined [S.oHead gw sw]=(S.hItems gw sw).map (S.ownItem S.kHead):=by simp [S.joined,S.itemsOf,S.oHead]
  rw [e]
  have:∀ x∈S.hItems gw sw,S.ownItem S.kHead x=x:=by
   intro x hx
   unfold S.hItems at hx
   simp only [List.mem_cons,List.mem_append,List.mem_map,List.not_mem_nil,or_false] at hx
   rcases hx with rfl | ⟨w,_,rfl⟩ | rfl | ⟨w,_,rfl⟩ | rfl | rfl | rfl | rfl | rfl | rfl <;> rfl
  exact (List.map_congr_left this).trans (List.map_id _)
 have ht:S.joined [S.oTail]=S.tItems:=rfl
 have e:S.wObjs gw sw=[S.oHead gw sw]++((S.objs26++[S.oMain])++[S.oTail]):=by simp [S.wObjs]
 rw [e,joined_append,joined_append,hh,ht]
 rfl
theorem tells_bW (l:List Int):S.tells (l.map S.bW)=[]/\S.names (l.map S.bW)=[]/\S.bulk (l.map S.bW)=4*l.length/\S.allChk (l.map S.bW):=by
 induction l with
 | nil=>exact ⟨rfl,rfl,rfl,allChk_nil⟩
 | cons x r ih =>
  obtain ⟨h1,h2,h3,h4⟩:=ih
  refine ⟨?_,?_,?_,allChk_cons (by simp [S.chkItem,S.bW]) h4⟩
  ·rw [List.map_cons,S.tells,if_neg (show ¬ (S.bW x).kind=2 from (by decide:¬ (6:Int)=2)),h1]
  ·rw [List.map_cons,S.names,if_neg (show ¬ S.named (S.bW x)=true from by simp [S.named,S.bW]),h2]
  ·rw [List.map_cons,S.bulk,if_neg (show ¬ (S.bW x).kind=8 from (by decide:¬ (6:Int)=8)),h3,List.length_cons];omega
theorem hItems_parts (gw sw:List Int):S.tells (S.hItems gw sw)=S.hTells/\S.names (S.hItems gw sw)=[]/\S.bulk (S.hItems gw sw)=1312+4*gw.length+4*sw.length+28/\S.allChk (S.hItems gw sw):=by
 obtain ⟨g1,g2,g3,g4⟩:=tells_bW gw
 obtain ⟨s1,s2,s3,s4⟩:=tells_bW sw
 unfold S.hItems
 refine ⟨?_,?_,?_,?_⟩
 ·rw [S.tells,if_neg (by decide),tells_append,g1,List.nil_append,S.tells,if_pos (by decide),tells_append,s1,List.nil_append]
  rfl
 ·rw [S.names,if_neg (by decide),names_append,g2,List.nil_append,S.names,if_neg (by decide),names_append,s2,List.nil_append]
  rfl
 ·rw [S.bulk,if_pos (by decide),bulk_append,g3,S.bulk,if_neg (by decide),bulk_append,s3]
  have:S.bulk [S.bL S.kCode,S.bL S.kStub,S.bHalt,S.bL S.kMapped,S.bW 0,S.bHalt]=24:=by decide
  rw [this]
  show (1312:Int)+_=_
  omega
 ·have hh:S.chkItem S.bHalt=0:=chk_bI (good_outB (.inr rfl) (by decide))
  exact allChk_cons (by simp [S.chkItem,S.bSp]) (allChk_append g4 (allChk_cons (chk_bL _) (allChk_append s4 (allChk_cons (chk_bL _) (allChk_cons (chk_bL _) (allChk_cons hh (allChk_cons (chk_bL _) (allChk_cons (by simp [S.chkItem,S.bW]) (allChk_one hh)))))))))
def S.wImg (b:Bool) (gw sw:List Int) (F:List Int) (size:Int):S.Img:=⟨S.joined (S.wObjs gw sw),F,size,if b=true then 2+gw.length+sw.length else gw.length+sw.length+8,gw.length+sw.length+8+S.mid.length,1056,1312⟩
theorem hItems_len (gw sw:List Int):(S.hItems gw sw).length=gw.length+sw.length+8:=by
 unfold S.hItems
 simp
 omega
theorem w_items (gw sw:List Int) (hg:∀ x∈gw,0<=x/\x<=4294967295) (hs:∀ x∈sw,0<=x/\x<=4294967295):∀ x∈S.joined (S.wObjs gw sw),0<=x.word/\x.word<=4294967295:=by
 intro x hx
 rw [joined_w] at hx
 rcases List.mem_append.1 hx with h | h
 ·unfold S.hItems at h
  simp only [List.mem_cons,List.mem_append,List.mem_map,List.not_mem_nil,or_false] at h
  rcases h with rfl | ⟨w,hw,rfl⟩ | rfl | ⟨w,hw,rfl⟩ | rfl | rfl | rfl | rfl | rfl | rfl
  ·decide
  ·exact hg w hw
  ·decide
  ·exact hs w hw
  all_goals decide
 ·rcases List.mem_append.1 h with h | h
  ·exact mid_words x h
  ·unfold S.tItems at h
   simp only [List.mem_cons,List.not_mem_nil,or_false] at h
   rcases h with rfl | rfl | rfl <;> decide
theorem w_ok {gw sw:List Int}{e:Int}{F:List Int}{size:Int}(h:S.FormsRes (S.joined (S.wObjs gw sw)) 0 e F) (hg:∀ x∈gw,0<=x/\x<=4294967295) (hs:∀ x∈sw,0<=x/\x<=4294967295) (hgl:gw.length<=100) (hsl:sw.length<=100)
 (hsz:e=0->S.addr (S.joined (S.wObjs gw sw)) F 0 (S.joined (S.wObjs gw sw)).length<size) (hsz2:size<=335544320):e=0/\(∀ b,(S.wImg b gw sw F size).Ok)/\S.addr (S.joined (S.wObjs gw sw)) F 0 (S.joined (S.wObjs gw sw)).length<=12000:=by
 obtain ⟨h1,h2,h3,h4⟩:=hItems_parts gw sw
 have hx:=joined_w gw sw
 have hw:=w_items gw sw hg hs
 have k1:S.tells (S.joined (S.wObjs gw sw))=S.wTells:=by
  rw [hx,tells_append,tells_append,h1,<- List.append_assoc]
  rfl
 have k2:S.names (S.joined (S.wObjs gw sw))=S.names S.mid:=by
  rw [hx,names_append,names_append,h2,List.nil_append]
  have:S.names S.tItems=[]:=by decide
  rw [this,List.append_nil]
 have k3:S.allChk (S.joined (S.wObjs gw sw)):=by
  rw [hx]
  exact allChk_append h4 (allChk_append mid_chk (allChk_cons (chk_bL _) (allChk_cons (by simp [S.chkItem,S.bSp]) (allChk_one (chk_bL _)))))
 have k4:S.bulk (S.joined (S.wObjs gw sw))<=12000:=by
  rw [hx,bulk_append,bulk_append,h3]
  have:S.bulk S.tItems=16:=by decide
  have:=mid_bulk
  omega
 obtain ⟨e0,hF,ha⟩:=res_ok h k3 (by rw [k1];exact wTells_nodup) (by rw [k2,k1];exact mid_names) (by omega)
 subst e0
 have hlen:=hItems_len gw sw
 have hxl:(S.joined (S.wObjs gw sw)).length=gw.length+sw.length+8+S.mid.length+3:=by
  rw [hx,List.length_append,List.length_append,hlen,show S.tItems.length=3 from rfl]
  omega
 have hsz':=hsz rfl
 have ha0:1312<=S.addr (S.joined (S.wObjs gw sw)) F 0 (2+gw.length+sw.length):=by
  refine Int.le_trans ?_ (addr_le hF hw (i:=1) (by omega))
  have hx0:(S.joined (S.wObjs gw sw))[0]?=some (S.bSp 1312):=by rw [hx];rfl
  have:S.addr (S.joined (S.wObjs gw sw)) F 0 1=0+S.sizeAt (S.joined (S.wObjs gw sw)) F 0:=rfl
  rw [this]
  have hsz:S.sizeAt (S.joined (S.wObjs gw sw)) F 0=1312:=by
   unfold S.sizeAt
   rw [hx0]
   show S.size (S.bSp 1312) (F.getD 0 0)=1312
   unfold S.size S.bSp
   simp
  rw [hsz]
  decide
 have hatop:=addr_le hF hw (base:=0) (i:=2+gw.length+sw.length) (n:=(S.joined (S.wObjs gw sw)).length) (by omega)
 refine ⟨rfl,fun b=>⟨h,hw,by show (if b=true then 2+gw.length+sw.length else gw.length+sw.length+8)<=gw.length+sw.length+8+S.mid.length;split <;> omega,by show gw.length+sw.length+8+S.mid.length<=(S.joined (S.wObjs gw sw)).length;omega,hsz',hsz2,by show (0:Int)<=1056;decide,by show (1056:Int)<=1312;decide,by show (1312:Int)<=size;omega,.inl ?_⟩,by omega⟩
 show 1312<=S.addr (S.joined (S.wObjs gw sw)) F 0 (if b=true then 2+gw.length+sw.length else gw.length+sw.length+8)
 split
 ·exact ha0
 ·exact Int.le_trans ha0 (addr_le hF hw (by omega))
end
section
open Go.RowKit
theorem joined_at:∀ {os:List S.Obj}{j:Nat}{o:S.Obj},os[j]?=some o->∃ A B,S.joined os=A++(o.items.map (S.ownItem o.name)++B)
 | [],j,o,h=>by cases h
 | x::r,0,o,h=>by
  cases h
  exact ⟨[],S.joined r,rfl⟩
 | x::r,j+1,o,h=>by
  obtain ⟨A,B,e⟩:=joined_at (os:=r) (j:=j) h
  refine ⟨S.itemsOf x++A,B,?_⟩
  show S.itemsOf x++S.joined r=_
  rw [e,List.append_assoc]
section
variable {gw sw:List Int}{F:List Int}{size:Int}{b:Bool}
theorem seg_obj {j:Nat}{o:S.Obj}(hj:(S.objs26++[S.oMain])[j]?=some o):∃ i,S.Seg (S.wImg b gw sw F size) o.name i o.items:=by
 obtain ⟨A,B,e⟩:=joined_at hj
 have hx:=joined_w gw sw
 have hl:=hItems_len gw sw
 have hm:S.mid=A++(o.items.map (S.ownItem o.name)++B):=e
 refine ⟨gw.length+sw.length+8+A.length,fun k x hk=>?_,?_,?_⟩
 ·show (S.joined (S.wObjs gw sw))[_]?=_
  rw [hx,List.getElem?_append_right (by omega),hl,hm]
  have hlt:=(List.getElem?_eq_some_iff.1 hk).1
  rw [List.getElem?_append_left (by simp only [List.length_append,List.length_map];omega),List.getElem?_append_right (by omega),List.getElem?_append_left (by rw [List.length_map];omega)]
  rw [show gw.length+sw.length+8+A.length+k-(gw.length+sw.length+8)-A.length=k from by omega,List.getElem?_map,hk]
  rfl
 ·show (if b=true then 2+gw.length+sw.length else gw.length+sw.length+8)<=_
  split <;> omega
 ·show _<=gw.length+sw.length+8+S.mid.length
  rw [hm]
  simp only [List.length_append,List.length_map]
  omega
theorem seg_r {j:Nat}{r:S.BR}(hj:(S.objs26++[S.oMain])[j]?=some (S.ofR r)):∃ i,S.Seg (S.wImg b gw sw F size) r.name i (S.bItems r):=seg_obj hj
theorem xs_head {i:Nat}{x:S.Item}(h:(S.hItems gw sw)[i]?=some x):(S.wImg b gw sw F size).xs[i]?=some x:=by
 show (S.joined (S.wObjs gw sw))[i]?=_
 rw [joined_w,List.getElem?_append_left (List.getElem?_eq_some_iff.1 h).1]
 exact h
theorem xs_tail {i:Nat}{x:S.Item}(h:S.tItems[i]?=some x):(S.wImg b gw sw F size).xs[gw.length+sw.length+8+S.mid.length+i]?=some x:=by
 show (S.joined (S.wObjs gw sw))[_]?=_
 have hl:=hItems_len gw sw
 rw [joined_w,List.getElem?_append_right (by omega),hl,List.getElem?_append_right (by omega)]
 rw [show gw.length+sw.length+8+S.mid.length+i-(gw.length+sw.length+8)-S.mid.length=i from by omega]
 exact h
theorem h_glob {k:Nat}(hk:k<gw.length):(S.hItems gw sw)[1+k]?=some (S.bW gw[k]):=by
 unfold S.hItems
 rw [Nat.add_comm,List.getElem?_cons_succ,List.getElem?_append_left (by rw [List.length_map];exact hk),List.getElem?_map,List.getElem?_eq_getElem hk]
 rfl
theorem h_rest {k:Nat}:(S.hItems gw sw)[1+gw.length+k]?=(S.bL S.kStatic::(sw.map S.bW++[S.bL S.kCode,S.bL S.kStub,S.bHalt,S.bL S.kMapped,S.bW 0,S.bHalt]))[k]?:=by
 unfold S.hItems
 rw [show 1+gw.length+k=(gw.length+k)+1 from by omega,List.getElem?_cons_succ,List.getElem?_append_right (by rw [List.length_map];omega),List.length_map,Nat.add_sub_cancel_left]
theorem h_stat {k:Nat}(hk:k<sw.length):(S.hItems gw sw)[2+gw.length+k]?=some (S.bW sw[k]):=by
 rw [show 2+gw.length+k=1+gw.length+(k+1) from by omega,h_rest,List.getElem?_cons_succ,List.getElem?_append_left (by rw [List.length_map];exact hk),List.getElem?_map,List.getElem?_eq_getElem hk]
 rfl
theorem h_end {k:Nat}:(S.hItems gw sw)[2+gw.length+sw.length+k]?=[S.bL S.kCode,S.bL S.kStub,S.bHalt,S.bL S.kMapped,S.bW 0,S.bHalt][k]?:=by
 rw [show 2+gw.length+sw.length+k=1+gw.length+((sw.length+k)+1) from by omega,h_rest,List.getElem?_cons_succ,List.getElem?_append_right (by rw [List.length_map];omega),List.length_map,Nat.add_sub_cancel_left]
variable (hI:(S.wImg b gw sw F size).Ok)
include hI
theorem wlab_at {i:Nat}{x:S.Item}(hx:(S.wImg b gw sw F size).xs[i]?=some x) (hk:x.kind=2):(S.wImg b gw sw F size).lab x.label=(S.wImg b gw sw F size).adr i:=by
 unfold S.Img.lab
 rw [img_label hI hx hk]
 rfl
theorem adr_glob:∀ k:Nat,k<=gw.length->(S.wImg b gw sw F size).adr (1+k)=1312+k
 | 0,_=>by
  have:=img_next hI (i:=0) (x:=S.bSp 1312) (xs_head rfl)
  rw [this]
  show 0+S.size (S.bSp 1312) _=_
  unfold S.size S.bSp
  simp
 | k+1,h=>by
  have ih:=adr_glob k (by omega)
  have:=img_next hI (i:=1+k) (xs_head (h_glob (by omega)))
  rw [show 1+(k+1)=1+k+1 from by omega,this,ih]
  show 1312+(k:Int)+1=_
  omega
theorem adr_static:(S.wImg b gw sw F size).adr (2+gw.length)=1312+gw.length:=by
 have h0:=adr_glob hI gw.length (Nat.le_refl _)
 have:=img_next hI (i:=1+gw.length) (x:=S.bL S.kStatic) (xs_head (by have:=h_rest (gw:=gw) (sw:=sw) (k:=0);rw [Nat.add_zero] at this;rw [this];rfl))
 rw [show 2+gw.length=1+gw.length+1 from by omega,this,h0]
 show 1312+(gw.length:Int)+0=_
 omega
theorem adr_stat:∀ k:Nat,k<=sw.length->(S.wImg b gw sw F size).adr (2+gw.length+k)=1312+gw.length+k
 | 0,_=>by rw [Nat.add_zero,adr_static hI];omega
 | k+1,h=>by
  have ih:=adr_stat k (by omega)
  have:=img_next hI (i:=2+gw.length+k) (xs_head (h_stat (by omega)))
  rw [show 2+gw.length+(k+1)=2+gw.length+k+1 from by omega,this,ih]
  show 1312+(gw.length:Int)+k+1=_
  omega
theorem labs_head:(S.wImg b gw sw F size).lab S.kStatic=1312+gw.length/\(S.wImg b gw sw F size).lab S.kCode=1312+gw.length+sw.length/\(S.wImg b gw sw F size).lab S.kStub=1312+gw.length+sw.length/\(S.wImg b gw sw F size).lab S.kMapped=1312+gw.length+sw.length+1 /\
 (S.wImg b gw sw F size).adr (2+gw.length+sw.length+2)=1312+gw.length+sw.length/\(S.wImg b gw sw F size).adr (2+gw.length+sw.length+4)=1312+gw.length+sw.length+1/\(S.wImg b gw sw F size).adr (2+gw.length+sw.length+6)=1312+gw.length+sw.length+3:=by
 have a0:=adr_stat hI sw.length (Nat.le_refl _)
 have x0:(S.wImg b gw sw F size).xs[2+gw.length+sw.length]?=some (S.bL S.kCode):=xs_head (h_end (k:=0))
 have x1:(S.wImg b gw sw F size).xs[2+gw.length+sw.length+1]?=some (S.bL S.kStub):=xs_head h_end
 have x2:(S.wImg b gw sw F size).xs[2+gw.length+sw.length+2]?=some S.bHalt:=xs_head h_end
 have x3:(S.wImg b gw sw F size).xs[2+gw.length+sw.length+3]?=some (S.bL S.kMapped):=xs_head h_end
 have x4:(S.wImg b gw sw F size).xs[2+gw.length+sw.length+4]?=some (S.bW 0):=xs_head h_end
 have x5:(S.wImg b gw sw F size).xs[2+gw.length+sw.length+5]?=some S.bHalt:=xs_head h_end
 have xs:(S.wImg b gw sw F size).xs[1+gw.length]?=some (S.bL S.kStatic):=xs_head (by have:=h_rest (gw:=gw) (sw:=sw) (k:=0);rw [Nat.add_zero] at this;rw [this];rfl)
 have hs1:=adr_glob hI gw.length (Nat.le_refl _)
 have l0:=wlab_at hI x0 rfl
 have l1:=wlab_at hI x1 rfl
 have l3:=wlab_at hI x3 rfl
 have ls:=wlab_at hI xs rfl
 obtain ⟨I,hIe⟩:∃ I,I=S.wImg b gw sw F size:=⟨_,rfl⟩
 obtain ⟨M,hM⟩:∃ M,M=2+gw.length+sw.length:=⟨_,rfl⟩
 rw [<- hIe] at hI a0 x0 x1 x2 x3 x4 x5 hs1 l0 l1 l3 ls ⊢
 rw [<- hM] at a0 x0 x1 x2 x3 x4 x5 l0 l1 l3 ⊢
 have n0:I.adr (M+1)=I.adr M+0:=img_next hI x0
 have n1:I.adr (M+2)=I.adr (M+1)+0:=img_next hI x1
 have n2:I.adr (M+3)=I.adr (M+2)+1:=img_next hI x2
 have n3:I.adr (M+4)=I.adr (M+3)+0:=img_next hI x3
 have n4:I.adr (M+5)=I.adr (M+4)+1:=img_next hI x4
 have n5:I.adr (M+6)=I.adr (M+5)+1:=img_next hI x5
 have k0:I.lab S.kCode=I.adr M:=l0
 have k1:I.lab S.kStub=I.adr (M+1):=l1
 have k3:I.lab S.kMapped=I.adr (M+3):=l3
 exact ⟨ls.trans hs1,by omega,by omega,by omega,by omega,by omega,by omega⟩
end
attribute [local irreducible] S.mid
section
variable {gw sw:List Int}{F:List Int}{size:Int}{b:Bool}(hI:(S.wImg b gw sw F size).Ok)
include hI
theorem labs_tail:(S.wImg b gw sw F size).lab S.kMore=(S.wImg b gw sw F size).adr (S.wImg b gw sw F size).i1/\(S.wImg b gw sw F size).lab S.kEnd=(S.wImg b gw sw F size).lab S.kMore+8/\(S.wImg b gw sw F size).adr (S.wImg b gw sw F size).xs.length=(S.wImg b gw sw F size).lab S.kEnd:=by
 obtain ⟨M,hM⟩:∃ M,M=(S.wImg b gw sw F size).i1:=⟨_,rfl⟩
 have hM2:M=gw.length+sw.length+8+S.mid.length:=hM
 have x0:(S.wImg b gw sw F size).xs[M]?=some (S.bL S.kMore):=by rw [hM2];exact xs_tail (i:=0) rfl
 have x1:(S.wImg b gw sw F size).xs[M+1]?=some (S.bSp 8):=by rw [hM2];exact xs_tail (i:=1) rfl
 have x2:(S.wImg b gw sw F size).xs[M+2]?=some (S.bL S.kEnd):=by rw [hM2];exact xs_tail (i:=2) rfl
 have hlen:(S.wImg b gw sw F size).xs.length=M+3:=by
  rw [hM2]
  show (S.joined (S.wObjs gw sw)).length=_
  rw [joined_w,List.length_append,List.length_append,hItems_len,show S.tItems.length=3 from rfl]
  omega
 rw [<- hM,hlen]
 clear hM hM2 hlen
 obtain ⟨I,hIe⟩:∃ I,I=S.wImg b gw sw F size:=⟨_,rfl⟩
 have l0:=wlab_at hI x0 rfl
 have l2:=wlab_at hI x2 rfl
 rw [<- hIe] at hI x0 x1 x2 l0 l2 ⊢
 have n0:I.adr (M+1)=I.adr M+0:=img_next hI x0
 have n1:I.adr (M+1+1)=I.adr (M+1)+S.size (S.bSp 8) (I.F.getD (M+1) 0):=img_next hI x1
 have n2:I.adr (M+2+1)=I.adr (M+2)+0:=img_next hI x2
 have e8:S.size (S.bSp 8) (I.F.getD (M+1) 0)=8:=by
  unfold S.size S.bSp
  simp
 rw [e8] at n1
 have k0:I.lab S.kMore=I.adr M:=l0
 have k2:I.lab S.kEnd=I.adr (M+2):=l2
 have e2:M+1+1=M+2:=rfl
 have e3:M+2+1=M+3:=rfl
 rw [e2] at n1
 rw [e3] at n2
 exact ⟨k0,by omega,by omega⟩
end
end
end Go.Proofs.YtlldagdhlfpihaaGreatDoor
