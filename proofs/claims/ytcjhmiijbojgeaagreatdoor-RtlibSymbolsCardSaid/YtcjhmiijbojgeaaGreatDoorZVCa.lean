/- Parts. -/
import Derived.Test.YtcjhmiijbojgeaaGreatDoorZVAg
set_option linter.all false
set_option maxHeartbeats 4000000
open Go.Lib renaming hid->Ya
open Go.AllReady renaming cons->Yf,nil->Yi
open Go.IntWalk renaming i64_in->Ym,u32_in->Ybo
open Array renaming replicate->Ya9
namespace Go.Proofs.YtcjhmiijbojgeaaGreatDoor
open S Go.Proofs.Tryz Go.RowKit
set_option maxRecDepth 100000
section
def S.ah (m2:Mach)(en:Int):Int:=if m2.state≠1 then -1 else if m2.place=en then 0 else 1+m2.code
def S.af (m:Mach)(st a:Int)(N:Int):Mach:=((m.setV 31 st).goV a).steps_ N.toNat
section
variable {w w':World}{F:Nat->Prop}{lo b p:Nat}{H half:Int}{P:List (ByteArray×Int)}{m:Mach}
theorem Z56 (s:ByteArray)(N a st:Int)(d:KAt w lo b p F H half P m)(hs:findP P s=some a)(b6:findP P kStub=some st)(ha:0<=a/\a<=1000000000)(b8:0<=st/\st<=1000000000)(h0:m.state=0)(h1:m.out=[])(h2:m.steps=0)(hN:N<=100000000) :
 Calls prog 12 #[.pointer (some ⟨b,0,none⟩),.string s,.bool false,.int .i64 N] w λ e w'=>e=.returned (.int .i64 (ah (af m st a N) st))/\Z1s w lo b p F H half P (af m st a N) w':=by
 have HK:=Ya d;have a2:∀(W:World),KAt W lo b p F H half P m->Calls prog 26 #[.pointer (some ⟨b,0,none⟩),.string s] W λ e w'=>e=.returned (.int .i64 a)/\Below W.heap.size W w':=λ W h=>by
  have:=Z4k s h;rw[hs] at this;exact this
 have a6:∀(W:World),KAt W lo b p F H half P m->Calls prog 26 #[.pointer (some ⟨b,0,none⟩),.string kStub] W λ e w'=>e=.returned (.int .i64 st)/\Below W.heap.size W w':=λ W h=>by
  have:=Z4k kStub h;rw[b6] at this;exact this
 have HA:=Ya a2;have HS:=Ya a6;have H0:=Ya h0;have H1:=Ya h1;have H2:=Ya h2;obtain⟨m2,x⟩:=Yx (af m st a N);rw[<- x];have HD:=Ya (show((m.setV 31 st).goV a).steps_ N.toNat=m2 from x.symm);clear x;clear d hs b6 a2 a6 h0 h1 h2;go_enter func12,ntmps12
 go_wp2_with fail
 refine(HA.out _ HK.out).mono ?_;rintro e w1 ⟨rfl,M⟩;have A:=Ya (HK.out.below M);have G:=Ya M;clear M;go_wp2_with fail
 refine(HS.out _ A.out).mono ?_;rintro e w2 ⟨rfl,B⟩;have n:=Ya (A.out.below B);have E:=Ya (G.out.trans (B.mono G.out.size));clear B A G;have l1:decide (a<0)=false:=by simp;omega
 have l2:st%4294967296=st:=by omega
 have l3:a%4294967296=a:=by omega
 go_upto_region 7 with fail
 obtain⟨_,_,_,_,_,_,R,Q,O,T,U⟩:=n.out.cells;have f:=n.out.blt;have Z:=Ya (show ∀y:Ext w2,Calls prog 26 #[.pointer (some ⟨b,0,none⟩),.string kStub] y.val λ e w'=>e=.returned (.int .i64 st)/\Below y.val.heap.size y.val w' from λ y=>HS.out y.val (n.out.below y.property));refine Zcg 11 (Ya9 11 true++Ya9 13 false) (by kernel_rfl) (by kernel_rfl) ?_;have hE:=Zk w2;have b7:=Zp3 w2;simp only[List.take_succ_cons,List.take_zero]
 repeat (first|go_big_quiet_step ((go_at_call 26;exact Zdm (Z.out _))))
 refine wpQuiet_nil ?_;rintro w3 ⟨⟨_,J⟩,rfl⟩;have X:=Ya (n.out.below J);have a9:=Ya (E.out.trans (J.mono E.out.size));clear hE b7 J R Q O T U f Z n E;change wpAny _ _ _ _ 13 _ _ _;refine wpAny_ready (rs:=[11]) (by kernel_rfl) (by simp) ?_;refine Yf rfl (λ K d=>?_) Yi;go_simp
 refine(Z0i 31 st X.out ⟨by omega,by omega⟩ (by decide)).mono ?_;rintro e w4 ⟨rfl,b0,b5⟩;have q:=Ya b0;have b3:=Ya ((Pass.of_below (F:=F) a9.out).trans (.of_only b5));clear b0 b5 a9 X;go_simp
 refine d _ _ ?_;clear d K;obtain⟨_,_,_,_,_,_,R,Q,O,T,U⟩:=q.out.cells;have f:=q.out.blt;refine wpAny_take (i:=12) (v:=?v12n) rfl (by kernel_rfl) (by kernel_rfl) (by kernel_rfl) (λ _ _ _ h=>h) (Or.inl ⟨by rfl,?y12n⟩) ?z12n
 case y12n=>(intro w;first | (go_simp;done) | (go_simp;with_reducible rfl))
 refine wpAny_take (i:=13) (v:=?v13n) rfl (by kernel_rfl) (by kernel_rfl) (by kernel_rfl) (λ _ _ _ h=>h) (Or.inl ⟨by rfl,?y13n⟩) ?z13n
 case y13n=>(intro w;first | (go_simp;done) | (go_simp;with_reducible rfl))
 refine wpAny_take (i:=14) (v:=?v14n) rfl (by kernel_rfl) (by kernel_rfl) (by kernel_rfl) (λ _ _ _ h=>h) (Or.inl ⟨by rfl,?y14n⟩) ?z14n
 case y14n=>(intro w;first | (go_simp;done) | (go_simp;with_reducible rfl))
 refine wpAny_take (i:=15) (v:=?v15n) rfl (by kernel_rfl) (by kernel_rfl) (by kernel_rfl) (λ _ _ _ h=>h) (Or.inl ⟨by rfl,?y15n⟩) ?z15n
 case y15n=>(intro w;first | (go_simp;done) | (go_simp;with_reducible rfl))
 refine wpAny_take (i:=19) (v:=?v19n) rfl (by kernel_rfl) (by kernel_rfl) (by kernel_rfl) (λ _ _ _ h=>h) (Or.inl ⟨by rfl,?y19n⟩) ?z19n
 case y19n=>(intro w;first | (go_simp;done) | (go_simp;with_reducible rfl))
 refine wpAny_take (i:=20) (v:=?v20n) rfl (by kernel_rfl) (by kernel_rfl) (by kernel_rfl) (λ _ _ _ h=>h) (Or.inl ⟨by rfl,?y20n⟩) ?z20n
 case y20n=>(intro w;first | (go_simp;done) | (go_simp;with_reducible rfl))
 refine wpAny_ready (rs:=[16]) (by kernel_rfl) (by simp) ?_;refine Yf rfl (λ K d=>?_) Yi;go_simp
 refine d _ _ ?_;clear d K;refine wpAny_ready (rs:=[17]) (by kernel_rfl) (by simp) ?_;refine Yf rfl (λ K d=>?_) Yi;go_simp
 refine d _ _ ?_;clear d K;refine wpAny_ready (rs:=[18]) (by kernel_rfl) (by simp) ?_;refine Yf rfl (λ K d=>?_) Yi;go_simp
 refine d _ _ ?_;clear d K;refine wpAny_ready (rs:=[21]) (by kernel_rfl) (by simp) ?_;refine Yf rfl (λ K d=>?_) Yi;go_simp
 have j:(m.setV 31 st).state=0:=by rw[Zai (by decide) (by decide)];exact H0.out
 have a4:Calls prog 27 #[.pointer (some ⟨p,0,none⟩),.int .u32 a] w4 λ e w'=>e=.returned (.int .i64 0)/\KAt w' lo b p F H half P ((m.setV 31 st).goV a)/\Only F w4 w':=by
  have:=Z8o a q.out ⟨by omega,by omega⟩;rw[if_neg (by rw[j];decide)] at this;exact this
 have a0:=Ya a4;have u:=Ya j;clear a4 j R Q O T U f;rw[show IntKind.u32.wrap a=a from Ybo _ ⟨by omega,by omega⟩];refine a0.out.mono ?_;rintro e w5 ⟨rfl,a8,b1⟩;have o:=Ya a8;have Y:=Ya (b3.out.trans (.of_only b1));clear a8 b1 b3 q a0;go_simp
 refine d _ _ ?_;clear d K;refine wpAny_take (i:=22) (v:=?v22n) rfl (by kernel_rfl) (by kernel_rfl) (by kernel_rfl) (λ _ _ _ h=>h) (Or.inl ⟨by rfl,?y22n⟩) ?z22n
 case y22n=>(intro w;first | (go_simp;done) | (go_simp;with_reducible rfl))
 refine wpAny_take (i:=23) (v:=?v23n) rfl (by kernel_rfl) (by kernel_rfl) (by kernel_rfl) (λ _ _ _ h=>h) (Or.inl ⟨by rfl,?y23n⟩) ?z23n
 case y23n=>(intro w;first | (go_simp;done) | (go_simp;with_reducible rfl))
 refine wpAny_done (by kernel_rfl) ?_ _;obtain⟨_,_,_,_,_,_,R,Q,O,T,U⟩:=o.out.cells;have f:=o.out.blt;have l:=Ya (Z4i N o.out (by
  unfold Mach.goV;rw[if_neg (by rw[u.out];decide),Zai (by decide) (by decide)];exact H1.out) (by
  unfold Mach.goV;rw[if_neg (by rw[u.out];decide),Zai (by decide) (by decide)];exact H2.out) hN)
 rw[HD.out] at l;clear HD;go_wp2_with fail
 refine l.out.mono ?_;rintro e w6 ⟨rfl,F6,b2,b4,a1⟩;have c:=Ya b2;have a5:=Ya (Y.out.trans (F2:=F6) ⟨b4,a1⟩);clear b2 b4 a1 Y o R Q O T U f l;have t:=c.out.ok.place0;have k:=c.out.ok.place1;have D:=c.out.ok.code0;have r:=c.out.ok.code1;obtain⟨ms,C⟩:=Yx m2.state;obtain⟨V,I⟩:=Yx m2.place;obtain⟨mc,L⟩:=Yx m2.code;have z:=Ya (show ah m2 st=if ms≠1 then -1 else if V=st then 0 else 1+mc by unfold ah;rw[C,I,L]);have a7:=Ya (Zui c.out);have a3:=Ya (Z0j c.out);rw[<- C];rw[<- I] at t k a7;rw[<- L] at D r a3;clear C I L;obtain⟨_,_,_,_,_,_,R,Q,O,T,U⟩:=c.out.cells;have f:=c.out.blt;have g:=Ya (show Z1s w lo b p F H half P m2 w6 from⟨F6,c.out,a5.out.1,a5.out.2⟩);by_cases c1:ms=1
 .have g1:(ms != 1)=false:=by simp[c1]
  rw[if_neg (λ h=>h c1)] at z;clear c1;go_wp2_with fail
  refine a7.out.mono ?_;rintro e _ ⟨rfl,rfl⟩;have g2:V%18446744073709551616=V:=by omega
  by_cases c2:V=st
  .have g3:(V==st)=true:=by simp[c2]
   rw[if_pos c2] at z;clear c2;go_wp2_with fail
   go_ret
   exact⟨by rw[z.out];rfl,g.out⟩
  .have g3:(V==st)=false:=by simp[c2]
   rw[if_neg c2] at z;clear c2;go_wp2_with fail
   refine a3.out.mono ?_;rintro e _ ⟨rfl,rfl⟩;have g4:mc%18446744073709551616=mc:=by omega
   have g5:IntKind.i64.wrap (1+mc)=1+mc:=Ym _ ⟨by omega,by omega⟩;go_wp2_with fail
   go_ret
   exact⟨by rw[z.out];rfl,g.out⟩
 .have g1:(ms != 1)=true:=by simp[c1]
  rw[if_pos c1] at z;clear c1;go_wp2_with fail
  go_ret
  exact⟨by rw[z.out];rfl,g.out⟩
end
end
section
section
variable {w w':World}{F:Nat->Prop}{lo b p:Nat}{H half:Int}{P:List (ByteArray×Int)}{m:Mach}
theorem Z2y (s:ByteArray)(N a st0 st:Int)(f:KAt w lo b p F H half P m)(hs:findP P s=some a)(c:findP P kStub=some st0)(b9:findP P kMapped=some st)(ha:0<=a/\a<=1000000000)(c4:0<=st0/\st0<=1000000000)(c5:0<=st/\st<=1000000000)(h0:m.state=0)(h1:m.out=[])(h2:m.steps=0)(hN:N<=100000000) :
 Calls prog 12 #[.pointer (some ⟨b,0,none⟩),.string s,.bool true,.int .i64 N] w λ e w'=>e=.returned (.int .i64 (ah (af m st a N) (st+1)))/\Z1s w lo b p F H half P (af m st a N) w':=by
 have HK:=Ya f;have a5:∀(W:World),KAt W lo b p F H half P m->Calls prog 26 #[.pointer (some ⟨b,0,none⟩),.string s] W λ e w'=>e=.returned (.int .i64 a)/\Below W.heap.size W w':=λ W h=>by
  have:=Z4k s h;rw[hs] at this;exact this
 have A:∀(W:World),KAt W lo b p F H half P m->Calls prog 26 #[.pointer (some ⟨b,0,none⟩),.string kStub] W λ e w'=>e=.returned (.int .i64 st0)/\Below W.heap.size W w':=λ W h=>by
  have:=Z4k kStub h;rw[c] at this;exact this
 have a9:∀(W:World),KAt W lo b p F H half P m->Calls prog 26 #[.pointer (some ⟨b,0,none⟩),.string kMapped] W λ e w'=>e=.returned (.int .i64 st)/\Below W.heap.size W w':=λ W h=>by
  have:=Z4k kMapped h;rw[b9] at this;exact this
 have HA:=Ya a5;have c0:=Ya A;have HS:=Ya a9;have H0:=Ya h0;have H1:=Ya h1;have H2:=Ya h2;obtain⟨m2,C⟩:=Yx (af m st a N);rw[<- C];have HD:=Ya (show((m.setV 31 st).goV a).steps_ N.toNat=m2 from C.symm);clear C;clear f hs b9 c a5 a9 A h0 h1 h2;go_enter func12,ntmps12
 go_wp2_with fail
 refine(HA.out _ HK.out).mono ?_;rintro e w1 ⟨rfl,T⟩;have E:=Ya (HK.out.below T);have M:=Ya T;clear T;go_wp2_with fail
 refine(c0.out _ E.out).mono ?_;rintro e c6 ⟨rfl,l⟩;have r:=Ya (E.out.below l);have q:=Ya (M.out.trans (l.mono M.out.size));clear l E M;go_wp2_with fail
 refine(HS.out _ r.out).mono ?_;rintro e w2 ⟨rfl,G⟩;have k:=Ya (r.out.below G);have L:=Ya (q.out.trans (G.mono q.out.size));clear G r q;have l4:IntKind.i64.wrap (st+1)=st+1:=Ym _ ⟨by omega,by omega⟩;have l1:decide (a<0)=false:=by simp;omega
 have l2:st%4294967296=st:=by omega
 have l3:a%4294967296=a:=by omega
 go_upto_region 7 with fail
 obtain⟨_,_,_,_,_,_,X,V,U,Y,Z⟩:=k.out.cells;have g:=k.out.blt;have a2:=Ya (show ∀y:Ext w2,Calls prog 26 #[.pointer (some ⟨b,0,none⟩),.string kMapped] y.val λ e w'=>e=.returned (.int .i64 st)/\Below y.val.heap.size y.val w' from λ y=>HS.out y.val (k.out.below y.property));refine Zcg 11 (Ya9 11 true++Ya9 13 false) (by kernel_rfl) (by kernel_rfl) ?_;have hE:=Zk w2;have c3:=Zp3 w2;simp only[List.take_succ_cons,List.take_zero]
 repeat (first|go_big_quiet_step ((go_at_call 26;exact Zdm (a2.out _))))
 refine wpQuiet_nil ?_;rintro w3 ⟨⟨_,Q⟩,rfl⟩;have a0:=Ya (k.out.below Q);have b2:=Ya (L.out.trans (Q.mono L.out.size));clear hE c3 Q X V U Y Z g a2 k L;change wpAny _ _ _ _ 13 _ _ _;refine wpAny_ready (rs:=[11]) (by kernel_rfl) (by simp) ?_;refine Yf rfl (λ K f=>?_) Yi;go_simp
 refine(Z0i 31 st a0.out ⟨by omega,by omega⟩ (by decide)).mono ?_;rintro e w4 ⟨rfl,b3,b8⟩;have u:=Ya b3;have b6:=Ya ((Pass.of_below (F:=F) b2.out).trans (.of_only b8));clear b3 b8 b2 a0;go_simp
 refine f _ _ ?_;clear f K;obtain⟨_,_,_,_,_,_,X,V,U,Y,Z⟩:=u.out.cells;have g:=u.out.blt;refine wpAny_take (i:=12) (v:=?v12n) rfl (by kernel_rfl) (by kernel_rfl) (by kernel_rfl) (λ _ _ _ h=>h) (Or.inl ⟨by rfl,?y12n⟩) ?z12n
 case y12n=>(intro w;first | (go_simp;done) | (go_simp;with_reducible rfl))
 refine wpAny_take (i:=13) (v:=?v13n) rfl (by kernel_rfl) (by kernel_rfl) (by kernel_rfl) (λ _ _ _ h=>h) (Or.inl ⟨by rfl,?y13n⟩) ?z13n
 case y13n=>(intro w;first | (go_simp;done) | (go_simp;with_reducible rfl))
 refine wpAny_take (i:=14) (v:=?v14n) rfl (by kernel_rfl) (by kernel_rfl) (by kernel_rfl) (λ _ _ _ h=>h) (Or.inl ⟨by rfl,?y14n⟩) ?z14n
 case y14n=>(intro w;first | (go_simp;done) | (go_simp;with_reducible rfl))
 refine wpAny_take (i:=15) (v:=?v15n) rfl (by kernel_rfl) (by kernel_rfl) (by kernel_rfl) (λ _ _ _ h=>h) (Or.inl ⟨by rfl,?y15n⟩) ?z15n
 case y15n=>(intro w;first | (go_simp;done) | (go_simp;with_reducible rfl))
 refine wpAny_take (i:=19) (v:=?v19n) rfl (by kernel_rfl) (by kernel_rfl) (by kernel_rfl) (λ _ _ _ h=>h) (Or.inl ⟨by rfl,?y19n⟩) ?z19n
 case y19n=>(intro w;first | (go_simp;done) | (go_simp;with_reducible rfl))
 refine wpAny_take (i:=20) (v:=?v20n) rfl (by kernel_rfl) (by kernel_rfl) (by kernel_rfl) (λ _ _ _ h=>h) (Or.inl ⟨by rfl,?y20n⟩) ?z20n
 case y20n=>(intro w;first | (go_simp;done) | (go_simp;with_reducible rfl))
 refine wpAny_ready (rs:=[16]) (by kernel_rfl) (by simp) ?_;refine Yf rfl (λ K f=>?_) Yi;go_simp
 refine f _ _ ?_;clear f K;refine wpAny_ready (rs:=[17]) (by kernel_rfl) (by simp) ?_;refine Yf rfl (λ K f=>?_) Yi;go_simp
 refine f _ _ ?_;clear f K;refine wpAny_ready (rs:=[18]) (by kernel_rfl) (by simp) ?_;refine Yf rfl (λ K f=>?_) Yi;go_simp
 refine f _ _ ?_;clear f K;refine wpAny_ready (rs:=[21]) (by kernel_rfl) (by simp) ?_;refine Yf rfl (λ K f=>?_) Yi;go_simp
 have c:(m.setV 31 st).state=0:=by rw[Zai (by decide) (by decide)];exact H0.out
 have a7:Calls prog 27 #[.pointer (some ⟨p,0,none⟩),.int .u32 a] w4 λ e w'=>e=.returned (.int .i64 0)/\KAt w' lo b p F H half P ((m.setV 31 st).goV a)/\Only F w4 w':=by
  have:=Z8o a u.out ⟨by omega,by omega⟩;rw[if_neg (by rw[c];decide)] at this;exact this
 have a3:=Ya a7;have B:=Ya c;clear a7 c X V U Y Z g;rw[show IntKind.u32.wrap a=a from Ybo _ ⟨by omega,by omega⟩];refine a3.out.mono ?_;rintro e w5 ⟨rfl,b1,b4⟩;have t:=Ya b1;have a1:=Ya (b6.out.trans (.of_only b4));clear b1 b4 b6 u a3;go_simp
 refine f _ _ ?_;clear f K;refine wpAny_take (i:=22) (v:=?v22n) rfl (by kernel_rfl) (by kernel_rfl) (by kernel_rfl) (λ _ _ _ h=>h) (Or.inl ⟨by rfl,?y22n⟩) ?z22n
 case y22n=>(intro w;first | (go_simp;done) | (go_simp;with_reducible rfl))
 refine wpAny_take (i:=23) (v:=?v23n) rfl (by kernel_rfl) (by kernel_rfl) (by kernel_rfl) (λ _ _ _ h=>h) (Or.inl ⟨by rfl,?y23n⟩) ?z23n
 case y23n=>(intro w;first | (go_simp;done) | (go_simp;with_reducible rfl))
 refine wpAny_done (by kernel_rfl) ?_ _;obtain⟨_,_,_,_,_,_,X,V,U,Y,Z⟩:=t.out.cells;have g:=t.out.blt;have o:=Ya (Z4i N t.out (by
  unfold Mach.goV;rw[if_neg (by rw[B.out];decide),Zai (by decide) (by decide)];exact H1.out) (by
  unfold Mach.goV;rw[if_neg (by rw[B.out];decide),Zai (by decide) (by decide)];exact H2.out) hN)
 rw[HD.out] at o;clear HD;go_wp2_with fail
 refine o.out.mono ?_;rintro e w6 ⟨rfl,F6,b5,b7,a4⟩;have d:=Ya b5;have a8:=Ya (a1.out.trans (F2:=F6) ⟨b7,a4⟩);clear b5 b7 a4 a1 t X V U Y Z g o;have z:=d.out.ok.place0;have n:=d.out.ok.place1;have J:=d.out.ok.code0;have x:=d.out.ok.code1;obtain⟨ms,I⟩:=Yx m2.state;obtain⟨mp,O⟩:=Yx m2.place;obtain⟨mc,R⟩:=Yx m2.code;have D:=Ya (show ah m2 (st+1)=if ms≠1 then -1 else if mp=st+1 then 0 else 1+mc by unfold ah;rw[I,O,R]);have b0:=Ya (Zui d.out);have a6:=Ya (Z0j d.out);rw[<- I];rw[<- O] at z n b0;rw[<- R] at J x a6;clear I O R;obtain⟨_,_,_,_,_,_,X,V,U,Y,Z⟩:=d.out.cells;have g:=d.out.blt;have j:=Ya (show Z1s w lo b p F H half P m2 w6 from⟨F6,d.out,a8.out.1,a8.out.2⟩);by_cases c1:ms=1
 .have g1:(ms != 1)=false:=by simp[c1]
  rw[if_neg (λ h=>h c1)] at D;clear c1;go_wp2_with fail
  refine b0.out.mono ?_;rintro e _ ⟨rfl,rfl⟩;have g2:mp%18446744073709551616=mp:=by omega
  by_cases c2:mp=st+1
  .have g3:(mp==st+1)=true:=by simp[c2]
   rw[if_pos c2] at D;clear c2;go_wp2_with fail
   go_ret
   exact⟨by rw[D.out];rfl,j.out⟩
  .have g3:(mp==st+1)=false:=by simp[c2]
   rw[if_neg c2] at D;clear c2;go_wp2_with fail
   refine a6.out.mono ?_;rintro e _ ⟨rfl,rfl⟩;have g4:mc%18446744073709551616=mc:=by omega
   have g5:IntKind.i64.wrap (1+mc)=1+mc:=Ym _ ⟨by omega,by omega⟩;go_wp2_with fail
   go_ret
   exact⟨by rw[D.out];rfl,j.out⟩
 .have g1:(ms != 1)=true:=by simp[c1]
  rw[if_pos c1] at D;clear c1;go_wp2_with fail
  go_ret
  exact⟨by rw[D.out];rfl,j.out⟩
end
end
