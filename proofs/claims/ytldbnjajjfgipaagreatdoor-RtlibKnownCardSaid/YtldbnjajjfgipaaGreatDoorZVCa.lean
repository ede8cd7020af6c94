/- Parts. -/
import Derived.Test.YtldbnjajjfgipaaGreatDoorZVSyr
set_option linter.all false
set_option maxHeartbeats 4000000
open Go.Lib renaming hid->Ya
open Go.AllReady renaming cons->Yf,nil->Yi
namespace Go.Proofs.YtldbnjajjfgipaaGreatDoor
open S Go.Proofs.Tryz Go.RowKit
set_option maxRecDepth 100000
section
variable {w w':World}{F:Nat->Prop}{lo b p:Nat}{H half:Int}{P:List (ByteArray×Int)}{m:Mach}
theorem Zy7 (s:ByteArray)(N a st0 st:Int)(hK:KAt w lo b p F H half P m)(hs:findP P s=some a)(hst0:findP P kStub=some st0)(hst:findP P kMapped=some st)(ha:0<=a/\a<=1000000000)(hst02:0<=st0/\st0<=1000000000)(hst2:0<=st/\st<=1000000000)(h0:m.state=0)(h1:m.out=[])(h2:m.steps=0)(hN:N<=100000000) :
 Calls prog 14 #[.pointer (some ⟨b,0,none⟩),.string s,.bool true,.int .i64 N] w λ e w'=>e=.returned (.int .i64 (bj (a9 m st a N) (st+1)))/\Z2f w lo b p F H half P (a9 m st a N) w':=by
 have HK:=Ya hK;have ha1:∀(W:World),KAt W lo b p F H half P m->Calls prog 42 #[.pointer (some ⟨b,0,none⟩),.string s] W λ e w'=>e=.returned (.int .i64 a)/\Below W.heap.size W w':=λ W h=>by
  have:=Z22 s h;rw[hs] at this;exact this
 have hs01:∀(W:World),KAt W lo b p F H half P m->Calls prog 42 #[.pointer (some ⟨b,0,none⟩),.string kStub] W λ e w'=>e=.returned (.int .i64 st0)/\Below W.heap.size W w':=λ W h=>by
  have:=Z22 kStub h;rw[hst0] at this;exact this
 have hs1:∀(W:World),KAt W lo b p F H half P m->Calls prog 42 #[.pointer (some ⟨b,0,none⟩),.string kMapped] W λ e w'=>e=.returned (.int .i64 st)/\Below W.heap.size W w':=λ W h=>by
  have:=Z22 kMapped h;rw[hst] at this;exact this
 have HA:=Ya ha1;have HS0:=Ya hs01;have HS:=Ya hs1;have H0:=Ya h0;have H1:=Ya h1;have H2:=Ya h2;obtain⟨m2,hm2⟩:=Yx (a9 m st a N);rw[<- hm2];have HD:=Ya (show((m.setV 31 st).goV a).steps_ N.toNat=m2 from hm2.symm);clear hm2;clear hK hs hst hst0 ha1 hs1 hs01 h0 h1 h2;go_enter func14,ntmps14
 go_wp2_with fail
 refine(HA.out _ HK.out).mono ?_;rintro e w1 ⟨rfl,hb1⟩;have HK1:=Ya (HK.out.below hb1);have HB1:=Ya hb1;clear hb1;go_wp2_with fail
 refine(HS0.out _ HK1.out).mono ?_;rintro e w15 ⟨rfl,hb15⟩;have HK15:=Ya (HK1.out.below hb15);have HB15:=Ya (HB1.out.trans (hb15.mono HB1.out.size));clear hb15 HK1 HB1;go_wp2_with fail
 refine(HS.out _ HK15.out).mono ?_;rintro e w2 ⟨rfl,hb2⟩;have HK2:=Ya (HK15.out.below hb2);have HB2:=Ya (HB15.out.trans (hb2.mono HB15.out.size));clear hb2 HK15 HB15;have l4:IntKind.i64.wrap (st+1)=st+1:=IntWalk.i64_in _ ⟨by omega,by omega⟩;have l1:decide (a<0)=false:=by simp;omega
 have l2:st%4294967296=st:=by omega
 have l3:a%4294967296=a:=by omega
 go_upto_region 7 with fail
 obtain⟨_,_,_,_,_,_,e0,e1,e2,e3,e4⟩:=HK2.out.cells;have hbl:=HK2.out.blt;have Hst:=Ya (show ∀y:Ext w2,Calls prog 42 #[.pointer (some ⟨b,0,none⟩),.string kMapped] y.val λ e w'=>e=.returned (.int .i64 st)/\Below y.val.heap.size y.val w' from λ y=>HS.out y.val (HK2.out.below y.property));refine Zen 11 (Array.replicate 11 true++Array.replicate 13 false) (by kernel_rfl) (by kernel_rfl) ?_;have hE:=Zo w2;have hES:=Zum w2;simp only[List.take_succ_cons,List.take_zero]
 repeat (first|go_big_quiet_step ((go_at_call 42;exact Zdz (Hst.out _))))
 refine wpQuiet_nil ?_;rintro w3 ⟨⟨_,hb3⟩,rfl⟩;have HK3:=Ya (HK2.out.below hb3);have HB3:=Ya (HB2.out.trans (hb3.mono HB2.out.size));clear hE hES hb3 e0 e1 e2 e3 e4 hbl Hst HK2 HB2;change wpAny _ _ _ _ 13 _ _ _;refine wpAny_ready (rs:=[11]) (by kernel_rfl) (by simp) ?_;refine Yf rfl (λ K hK=>?_) Yi;go_simp
 refine(Z0q 31 st HK3.out ⟨by omega,by omega⟩ (by decide)).mono ?_;rintro e w4 ⟨rfl,hk4,ho4⟩;have HK4:=Ya hk4;have HP4:=Ya ((Pass.of_below (F:=F) HB3.out).trans (.of_only ho4));clear hk4 ho4 HB3 HK3;go_simp
 refine hK _ _ ?_;clear hK K;obtain⟨_,_,_,_,_,_,e0,e1,e2,e3,e4⟩:=HK4.out.cells;have hbl:=HK4.out.blt;refine wpAny_take (i:=12) (v:=?v12n) rfl (by kernel_rfl) (by kernel_rfl) (by kernel_rfl) (λ _ _ _ h=>h) (Or.inl ⟨by rfl,?y12n⟩) ?z12n
 case y12n=>(intro w;first | (go_simp;done) | (go_simp;with_reducible rfl))
 refine wpAny_take (i:=13) (v:=?v13n) rfl (by kernel_rfl) (by kernel_rfl) (by kernel_rfl) (λ _ _ _ h=>h) (Or.inl ⟨by rfl,?y13n⟩) ?z13n
 case y13n=>(intro w;first | (go_simp;done) | (go_simp;with_reducible rfl))
 refine wpAny_take (i:=14) (v:=?v14n) rfl (by kernel_rfl) (by kernel_rfl) (by kernel_rfl) (λ _ _ _ h=>h) (Or.inl ⟨by rfl,?y14n⟩) ?z14n
 case y14n=>(intro w;first | (go_simp;done) | (go_simp;with_reducible rfl))
 refine wpAny_take (i:=15) (v:=?v15n) rfl (by kernel_rfl) (by kernel_rfl) (by kernel_rfl) (λ _ _ _ h=>h) (Or.inl ⟨by rfl,?y15n⟩) ?z15n
 case y15n=>(intro w;first | (go_simp;done) | (go_simp;with_reducible rfl))
 refine wpAny_take (i:=19) (v:=?v19n) rfl (by kernel_rfl) (by kernel_rfl) (by kernel_rfl) (λ _ _ _ h=>h) (Or.inl ⟨by rfl,?y19n⟩) ?z19n
 case y19n=>(intro w;first | (go_simp;done) | (go_simp;with_reducible rfl))
 refine wpAny_take (i:=20) (v:=?v20n) rfl (by kernel_rfl) (by kernel_rfl) (by kernel_rfl) (λ _ _ _ h=>h) (Or.inl ⟨by rfl,?y20n⟩) ?z20n
 case y20n=>(intro w;first | (go_simp;done) | (go_simp;with_reducible rfl))
 refine wpAny_ready (rs:=[16]) (by kernel_rfl) (by simp) ?_;refine Yf rfl (λ K hK=>?_) Yi;go_simp
 refine hK _ _ ?_;clear hK K;refine wpAny_ready (rs:=[17]) (by kernel_rfl) (by simp) ?_;refine Yf rfl (λ K hK=>?_) Yi;go_simp
 refine hK _ _ ?_;clear hK K;refine wpAny_ready (rs:=[18]) (by kernel_rfl) (by simp) ?_;refine Yf rfl (λ K hK=>?_) Yi;go_simp
 refine hK _ _ ?_;clear hK K;refine wpAny_ready (rs:=[21]) (by kernel_rfl) (by simp) ?_;refine Yf rfl (λ K hK=>?_) Yi;go_simp
 have hst0:(m.setV 31 st).state=0:=by rw[Za6 (by decide) (by decide)];exact H0.out
 have hgo:Calls prog 43 #[.pointer (some ⟨p,0,none⟩),.int .u32 a] w4 λ e w'=>e=.returned (.int .i64 0)/\KAt w' lo b p F H half P ((m.setV 31 st).goV a)/\Only F w4 w':=by
  have:=Z4d a HK4.out ⟨by omega,by omega⟩;rw[if_neg (by rw[hst0];decide)] at this;exact this
 have HGo:=Ya hgo;have Hst0:=Ya hst0;clear hgo hst0 e0 e1 e2 e3 e4 hbl;rw[show IntKind.u32.wrap a=a from IntWalk.u32_in _ ⟨by omega,by omega⟩];refine HGo.out.mono ?_;rintro e w5 ⟨rfl,hk5,ho5⟩;have HK5:=Ya hk5;have HP5:=Ya (HP4.out.trans (.of_only ho5));clear hk5 ho5 HP4 HK4 HGo;go_simp
 refine hK _ _ ?_;clear hK K;refine wpAny_take (i:=22) (v:=?v22n) rfl (by kernel_rfl) (by kernel_rfl) (by kernel_rfl) (λ _ _ _ h=>h) (Or.inl ⟨by rfl,?y22n⟩) ?z22n
 case y22n=>(intro w;first | (go_simp;done) | (go_simp;with_reducible rfl))
 refine wpAny_take (i:=23) (v:=?v23n) rfl (by kernel_rfl) (by kernel_rfl) (by kernel_rfl) (λ _ _ _ h=>h) (Or.inl ⟨by rfl,?y23n⟩) ?z23n
 case y23n=>(intro w;first | (go_simp;done) | (go_simp;with_reducible rfl))
 refine wpAny_done (by kernel_rfl) ?_ _;obtain⟨_,_,_,_,_,_,e0,e1,e2,e3,e4⟩:=HK5.out.cells;have hbl:=HK5.out.blt;have Hrun:=Ya (Z20 N HK5.out (by
  unfold Mach.goV;rw[if_neg (by rw[Hst0.out];decide),Za6 (by decide) (by decide)];exact H1.out) (by
  unfold Mach.goV;rw[if_neg (by rw[Hst0.out];decide),Za6 (by decide) (by decide)];exact H2.out) hN)
 rw[HD.out] at Hrun;clear HD;go_wp2_with fail
 refine Hrun.out.mono ?_;rintro e w6 ⟨rfl,F6,hk6,ho6,hf6⟩;have HK6:=Ya hk6;have HP6:=Ya (HP5.out.trans (F2:=F6) ⟨ho6,hf6⟩);clear hk6 ho6 hf6 HP5 HK5 e0 e1 e2 e3 e4 hbl Hrun;have hplace:=HK6.out.ok.place0;have hplace1:=HK6.out.ok.place1;have hcode:=HK6.out.ok.code0;have hcode1:=HK6.out.ok.code1;obtain⟨ms,hms⟩:=Yx m2.state;obtain⟨mp,hmp⟩:=Yx m2.place;obtain⟨mc,hmc⟩:=Yx m2.code;have HR:=Ya (show bj m2 (st+1)=if ms≠1 then -1 else if mp=st+1 then 0 else 1+mc by unfold bj;rw[hms,hmp,hmc]);have HPl:=Ya (Zyd HK6.out);have HCo:=Ya (Z0r HK6.out);rw[<- hms];rw[<- hmp] at hplace hplace1 HPl;rw[<- hmc] at hcode hcode1 HCo;clear hms hmp hmc;obtain⟨_,_,_,_,_,_,e0,e1,e2,e3,e4⟩:=HK6.out.cells;have hbl:=HK6.out.blt;have hfin:=Ya (show Z2f w lo b p F H half P m2 w6 from⟨F6,HK6.out,HP6.out.1,HP6.out.2⟩);by_cases c1:ms=1
 .have g1:(ms != 1)=false:=by simp[c1]
  rw[if_neg (λ h=>h c1)] at HR;clear c1;go_wp2_with fail
  refine HPl.out.mono ?_;rintro e _ ⟨rfl,rfl⟩;have g2:mp%18446744073709551616=mp:=by omega
  by_cases c2:mp=st+1
  .have g3:(mp==st+1)=true:=by simp[c2]
   rw[if_pos c2] at HR;clear c2;go_wp2_with fail
   go_ret
   exact⟨by rw[HR.out];rfl,hfin.out⟩
  .have g3:(mp==st+1)=false:=by simp[c2]
   rw[if_neg c2] at HR;clear c2;go_wp2_with fail
   refine HCo.out.mono ?_;rintro e _ ⟨rfl,rfl⟩;have g4:mc%18446744073709551616=mc:=by omega
   have g5:IntKind.i64.wrap (1+mc)=1+mc:=IntWalk.i64_in _ ⟨by omega,by omega⟩;go_wp2_with fail
   go_ret
   exact⟨by rw[HR.out];rfl,hfin.out⟩
 .have g1:(ms != 1)=true:=by simp[c1]
  rw[if_pos c1] at HR;clear c1;go_wp2_with fail
  go_ret
  exact⟨by rw[HR.out];rfl,hfin.out⟩
end
