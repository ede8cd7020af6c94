/- Parts. -/
import Derived.Test.YtldbnjajjfgipaaGreatDoorZKBt
set_option linter.all false
set_option maxHeartbeats 4000000
open Go.Lib renaming hid->Ya,cell_of_heap->Yc
open Nat renaming le_refl->Yb,le_trans->Ym,zero_le->Yae,le_of_lt->Ya3,le_succ->Ycm
open List renaming length_append->Yd,getD_eq_getElem?_getD->Ye,getElem?_eq_getElem->Yf,length_take->Yr,mem_cons->Yz,mem_singleton->Y2,mem_append->Y4,drop_succ_cons->Yag,take_succ_cons->Yai,drop_zero->Yak,take_of_length_le->Yar,take_zero->Yax,map_append->Yay,mem_append_left->Ya6,all_eq_true->Ya9
open Go.RowKit.Below renaming refl->Yh
open Go.IntWalk renaming i64_in->Yi,u32_in->Ya7
open Go.Value renaming int->Ys,oneCell'->Y1,slice->Ybb
open Go.World renaming ownsRow_nil->Yaf,cell?->Yb2
open Int renaming tmod_eq_emod_of_nonneg->Ya4,add_zero->Ybc,tdiv_eq_ediv_of_nonneg->Ybk
namespace Go.Proofs.YtldbnjajjfgipaaGreatDoor
open S Go.Proofs.Tryz Go.RowKit
set_option maxRecDepth 100000
theorem Z7v {w:World}{base:Nat}{e:TypeId}{A:Option Addr}{n c:Nat}{nm:ByteArray}{xs:List S.Item}{g:Option Nat}(h:w.ownsRow base e 8 (.slice A n c) n (xs.flatMap Zd))(d:n=xs.length)(o:∀x∈xs,0<=x.word/\x.word<=4294967295)(hg:∀k,g=some k->k<base)(h1:nm.size<=maxLen)(h2:∀y∈xs,y.label.size<=maxLen):OCg w g [⟨nm,xs⟩] [.string nm,.slice A n c]:=by
 refine⟨rfl,by simp[Y1],λ i y f=>?_⟩
 cases i with
 | succ i=>cases f
 | zero =>
  cases f
  refine⟨A,c,rfl,by subst d;rfl,λ hp=>?_,h1,h2⟩;have a:0<xs.length:=hp;obtain⟨b,off,e,j,m⟩:=Items.of_own h o a;have p:0<n*8:=by omega
  obtain⟨g0,l,q1,q2,_⟩:=Z9 h (by rw[d];exact a)
  cases l
  cases e
  exact⟨_,_,rfl,j,λ e=>by have:=hg _ e.symm;omega,m⟩
theorem Z1z (op:Int):(∀x∈callItems op,0<=x.word/\x.word<=4294967295)/\∀x∈callItems op,x.label.size<=100:=by
 have b:(kRt op).size<=100:=by
  have:=Zlm op
  show([114,116]++S.itoa op).toArray.size<=100
  simp;omega
 refine⟨λ x a=>?_,λ x a=>?_⟩
 all_goals
  unfold callItems at a;simp only[Yz,List.not_mem_nil,or_false] at a;rcases a with rfl|rfl|rfl|rfl|rfl|rfl|rfl|rfl
 all_goals first|decide|exact b | (show(0:Int)<=0/\(0:Int)<=4294967295;decide)
def Z6j (w:World)(op half:Int)(e:Ending)(w':World):Prop :=
 ∃F a b p FF,au op F half a/\e=.returned (.tuple #[.pointer (some ⟨b,0,none⟩),.bool true])/\NAt w' w.heap.size b p FF (a+4) half (a+3) (a+4) ((aj (nL op F) half).goV (a+1))/\Below w.heap.size w w'
theorem Zx4 (op d:Int)(l8:isOp op)(hh:1<=d/\d<=1000000)(w:World)(hL:LVE w):Calls prog 20 #[.int .i64 op,.int .i64 d] w (Z6j w op d):=by
 have b0:=Ya hL;have HO:=Ya l8;clear hL l8;go_enter func20,ntmps20
 go_wp2_with fail
 refine(Z6h (λ _=>none) w [] (λ b k h=>by cases h) b0.out (by rw[RepT])).mono ?_;rintro e w1 ⟨v1,H1,rfl,g8,-,a9,k3,-⟩
 replace a9:∀b k,H1 b=some k->b<w1.heap.size:=λ b k h=>(a9 b k h).lt
 rw[RepV] at k3;obtain⟨l9,rfl,i8⟩:=k3;have J:=Zoo (os:=[oLow]) a9 i8 (Zl6 Z6i);obtain⟨A1,c1,z0,z1,_,_,_⟩:=J.at_ 0 oLow rfl;have i6:l9=[.string kLow,.slice A1 5 c1]:=by
  have t:=J.len
  match l9,t,z0,z1 with
  | [a,b],_,z0,z1 =>
   simp at z0 z1;rw[z0,z1];rfl
 subst i6;have l4:=Ya J;have n7:=Ya g8;have b1:=g8.size;clear J g8 i8 z0 z1 a9;go_wp2_with fail
 have i3:(w1.alloc (.cells #[.string kLow,.slice A1 5 c1] 105)).ownsRow w1.heap.size 105 2 (.slice (some ⟨w1.heap.size,0,none⟩) 1 1) 1 [.string kLow,.slice A1 5 c1]:=Zl5 (Yb _) rfl rfl (by simp[maxLen]);have b3:=(Yh w1.heap.size w1).alloc (Yb _) (.cells #[.string kLow,.slice A1 5 c1] 105);have p0:(w1.alloc (.cells #[.string kLow,.slice A1 5 c1] 105)).heap.size=w1.heap.size+1:=by simp
 have d0:=Ya ((l4.out.g (g:=some w1.heap.size) (Yb _) (λ k e=>by cases e;exact Yb _)).below b3);have j1:=Ya (n7.out.trans (b3.mono b1));have l1:=Ya i3;generalize w1.alloc (.cells #[.string kLow,.slice A1 5 c1] 105)=w2 at *;have m3:=Ya b3;clear i3 b3;refine(Zsu (λ _=>none) w2 [.int .i64 0] (λ b k h=>by cases h) (b0.out.on j1.out) (by rw[RepT];exact⟨_,_,rfl,by rw[RepV],by rw[RepT]⟩)).mono ?_;rintro e w3 ⟨v3,H3,rfl,N,i2,b7,i1,j4⟩
 replace b7:∀b k,H3 b=some k->b<w3.heap.size:=λ b k h=>(b7 b k h).lt
 obtain⟨l5,k0,h0,-⟩:=Zm0 (j4 _ rfl) i1 (.inl ⟨rfl,rfl⟩) (by kernel_rfl);have M:=Ya (Zhb (g:=some w1.heap.size) (λ b k l=>⟨b7 b k l,λ e=>by
  have e':b=w1.heap.size:=Option.some.inj e;rw[i2 b (by omega)] at l
  cases l⟩) k0 (λ x hx=>Zl6 Zrh x (Ya6 _ hx)))
 obtain⟨A3,c3,rfl⟩:=Zc h0;have h4:=Ya h0;have m4:=Ya (m3.out.trans (N.mono (by omega)));have n9:=Ya (j1.out.trans (N.mono (by omega)));have V:=Ya (d0.out.below N);have e9:=Ya (Ze l1.out N);have p8:=N.size;have A:objs26.length=15:=by kernel_rfl
 have f0:l5.length=15*2:=by rw[M.out.len,A]
 clear i1 j4 k0 h0 b7 i2 N d0 l1;go_wp2_with (at_builtin;refine Zac rfl (.tmp 14) (.tmp 15) _ rfl w1.heap.size 105 Zem underlying102 rfl (by decide) _ _ _ rfl e9.out w3.heap.size A3 15 c3 l5 rfl f0 (Zbt h4.out) (Za8 h4.out) M.out.one (by simp only[maxLen];omega) (by omega) (by omega) ?_;intro v' w4 g4 k2 b6 e3;have e7:=Ya ((V.out.app M.out).grow k2 (e3.imp (λ h=>h) λ h=>⟨_,h,Yb _⟩));obtain⟨A4,c4,rfl⟩:=Zc g4)
 have g3:=Ya g4;have d2:=Ya (n9.out.trans (b6.mono b1));have n1:=Ya (m4.out.trans b6);have p6:=b6.size;clear k2 b6 e3 g4 V e9;refine(Zqz (λ _=>none) w4 [] (λ b k h=>by cases h) (b0.out.on d2.out) (by rw[RepT])).mono ?_;rintro e w5 ⟨v5,H5,rfl,T,j6,b4,h6,h7⟩
 replace b4:∀b k,H5 b=some k->b<w5.heap.size:=λ b k h=>(b4 b k h).lt
 obtain⟨h5,i5,f9,-⟩:=Zm0 (h7 _ rfl) h6 (.inl ⟨rfl,rfl⟩) (by kernel_rfl);have f1:∀k,(Ybb A4 (1+15) c4).ownBlock=some k->k<w4.heap.size:=λ k l=>by
  obtain⟨g0,e0,q1,q2,_⟩:=Z9 g3.out (by decide)
  cases e0
  have e1:g0=k:=Option.some.inj l;omega
 have K:=Ya (Zhb (g:=(Ybb A4 (1+15) c4).ownBlock) (λ b k l=>⟨b4 b k l,λ e=>by
  have n3:=f1 b e.symm;rw[j6 b n3] at l
  cases l⟩) i5 (λ x hx=>Zl6 Zr9 x hx))
 obtain⟨A5,c5,rfl⟩:=Zc f9;have g7:=Ya f9;have l3:=Ya (d2.out.trans (T.mono (by omega)));have n8:=Ya (n1.out.trans (T.mono (by omega)));have a5:=Ya (e7.out.below T);have e8:=Ya (Ze g3.out T);have o3:=T.size;have C:objs27.length=22:=by kernel_rfl
 have e5:h5.length=22*2:=by rw[K.out.len,C]
 clear h6 h7 i5 f9 b4 j6 T e7 g3 f1 M h4 f0;go_wp2_with (at_builtin;refine Zac rfl (.tmp 17) (.tmp 18) _ rfl w1.heap.size 105 Zem underlying102 rfl (by decide) _ _ _ rfl e8.out w5.heap.size A5 22 c5 h5 rfl e5 (Zbt g7.out) (Za8 g7.out) K.out.one (by simp only[maxLen];omega) (by omega) (by omega) ?_;intro v' w6 f7 l2 b8 e6;have e2:=Ya ((a5.out.app K.out).grow l2 (e6.imp (λ h=>h) λ h=>⟨_,h,Yb _⟩));obtain⟨A6,c6,rfl⟩:=Zc f7)
 have g9:=Ya f7;have f3:=Ya (l3.out.trans (b8.mono b1));have n6:=Ya (n8.out.trans b8);have p9:=b8.size;clear l2 b8 e6 f7 a5 e8;refine(Z20 op HO.out w6 (b0.out.on f3.out)).mono ?_;rintro e w7 ⟨A7,c7,rfl,k5,O⟩;have c9:∀k,(Ybb A6 (1+15+22) c6).ownBlock=some k->k<w6.heap.size:=λ k l=>by
  obtain⟨g0,e0,q1,q2,_⟩:=Z9 g9.out (by decide)
  cases e0
  have e1:g0=k:=Option.some.inj l;omega
 obtain⟨j8,i9⟩:=Z1z op;have b9:=Ya (Z7v (nm:=kCall) (g:=(Ybb A6 (1+15+22) c6).ownBlock) k5 rfl j8 c9 (by decide) (λ y hy=>by have:=i9 y hy;simp only[maxLen];omega));have i0:=Ya (f3.out.trans (O.mono (by omega)));have p5:=Ya (n6.out.trans (O.mono (by omega)));have a3:=Ya (e2.out.below O);have f2:=Ya (Ze g9.out O);have o9:=O.size;clear k5 O e2 g9 c9 j8 i9 K g7 e5;go_wp2_with (at_builtin;refine Zm rfl (.tmp 19) (.tmp 22) _ rfl w1.heap.size 105 Zem underlying102 rfl (by decide) #[.string kCall,.slice A7 8 c7] _ _ _ rfl f2.out rfl rfl rfl (by simp[Y1]) (by simp only[maxLen];omega) (by omega) (by omega) ?_;intro v' w8 f8 k8 l0 d6;have d4:=Ya ((a3.out.app b9.out).grow k8 (d6.imp (λ h=>h) λ h=>⟨_,h,Ycm _⟩));obtain⟨A8,c8,rfl⟩:=Zc f8)
 have Y:Objs w8 w8.heap.size A8 (nObjs op):=by
  have e:nObjs op=[oLow]++objs26++objs27++[⟨kCall,callItems op⟩]:=by
   show oLow::((objs26++objs27)++[oCall op])=_
   simp;rfl
  have t:(nObjs op).length=1+15+22+1:=by
   rw[e];simp only[Yd,A,C,List.length_cons,List.length_nil]
  refine Zz4 (base:=w1.heap.size) (e:=105) (c:=c8) (oc:=_) (by rw[t];exact f8) ?_;rw[e];exact d4.out.oc
 have t:(nObjs op).length=1+15+22+1:=by
  show((objs26++objs27)++[oCall op]).length+1=_
  rw[Yd,Yd,A,C];rfl
 have g1:=Zv7 A8 c8 (nObjs op) 0 w8 Y (by rw[t];omega) (Zd2 op) (λ k o z x hx=>by
  have hm:o∈oLow::((objs26++objs27)++[oCall op]):=List.mem_of_getElem? z;have g2:∀(os:List S.Obj),bi os=true->o∈os->o.name.size+x.label.size<=9223372036854775807:=λ os hb hm=>by
   have h:=Ya9.1 hb o hm;simp only[Bool.and_eq_true] at h;have h1:=of_decide_eq_true h.1.2;have h2:=of_decide_eq_true (Ya9.1 h.2 x hx);omega
  rcases Yz.1 hm with rfl|hm
  .exact g2 [oLow] Z6i List.mem_cons_self
  .rcases Y4.1 hm with hm|hm
   .rcases Y4.1 hm with hm|hm
    .exact g2 _ Zrh (Ya6 _ hm)
    .exact g2 _ Zr9 hm
   .rw[Y2] at hm
    subst hm;have h2:=(Z1z op).2 x hx;have h3:(oCall op).name.size<=100:=show kCall.size<=100 by decide
    omega)
 rw[t] at g1;have h9:=Ya g1;have f5:=Ya (i0.out.trans (l0.mono b1));have d9:=f5.out.size;clear g1 Y t k8 l0 d6 f8 b9 a3 f2 d4;go_wp2_with fail
 refine h9.out.mono ?_;rintro e U ⟨vo,vp,r,L,P,rfl,e4,g5,b5,k9⟩;obtain⟨rfl,F,a,Q,b2,l6,j7,k1,l7⟩:=Z22 HO.out hh e4;have m6:=Ya b2;have G:(L.length:Int)=a+4:=by rw[b2];exact Q.len
 have n2:=Ya (show ∀x∈L,0<=x/\x<=4294967295 by rw[b2];exact Q.words);clear b2;obtain⟨Aw,cw,rfl⟩:=Zc g5;obtain⟨Ap,cp,rfl⟩:=Zc b5;have n0:=Ya Q;have m8:=Ya j7;have m9:=Ya k1;have n4:=Ya l7;have j0:=Ya (Reads.of_own g5);have h8:=Ya (ReadsP.of_own b5);have n5:=Ya (show ∀k o s,Ap=some ⟨k,o,s⟩->k<U.heap.size from λ k o s e=>(b5.lt k (by rw[e];rfl)).2);have a7:=f5.out.trans (k9.mono d9);have p4:=a7.size;have q4:=Q.small;have o5:=Q.lab.a0;clear e4 g5 b5 k9 h9 Q j7 k1 l7 d9;obtain⟨x1,x2,x3⟩:=Zc7 U #[.slice Aw L.length cw,.slice Ap P.length cp] 35;go_upto_region 4 with fail
 generalize U.alloc (.cells #[.slice Aw L.length cw,.slice Ap P.length cp] 35)=w10 at *;have j3:w10.cell? ⟨U.heap.size,0,none⟩=some (.slice Aw L.length cw):=by simp[Yb2,x1]
 have m7:w10.cell? ⟨U.heap.size,1,none⟩=some (.slice Ap P.length cp):=by simp[Yb2,x1]
 have d3:U.heap.size<w10.heap.size:=by omega
 have H:=a7.trans (x2.mono (by omega));have E:w.heap.size<=w10.heap.size:=H.size;have a6:=Ya ((j0.out.below x2).moreM (by omega:U.heap.size<=w10.heap.size));have I:=Ya (h8.out.below x2);obtain⟨m,R⟩:=Yx L.length;have m1:=Ya R;rw[<- R] at j3 G x1;rw[<- R];have a4:=Ya G;have p7:(m:Int)<=30004:=by omega
 have o0:(1316:Int)<=m:=by omega
 have o2:=Ya x2;have m0:=Ya x1;have a1:=Ya H;have f4:∀(W:World),ReadsP W U.heap.size Ap P->Calls prog 55 #[.slice Ap P.length cp,.string ⟨#[101,110,100]⟩] W λ e w'=>e=.returned (.int .i64 m)/\w'=W:=λ W hR=>by
  have h:=Z75 Ap P.length cp U.heap.size P rfl l6 kEnd W hR;rw[m8.out] at h;have e:((some (a+4):Option Int).getD (-1))=(m:Int):=a4.out.symm;rw[e] at h;exact h.mono λ _ _ q=>⟨q.1,q.2.symm⟩
 have d7:=Ya (λ n:Nat=>f4 (w10.drewN n) (I.out.below (below_drewN (Yh _ _) n)));have o1:(m:Int)+2*d<=3000000:=by omega
 clear G;have i4:=Ya (λ n:Nat=>show Calls prog 56 #[.slice Aw m cw,.int .i64 (m+2*d),.slice none 0 0] (w10.drewN n) (Zrz (w10.drewN n) m (m+2*d) [] (Zk7 L (m+2*d).toNat [])) from by
  have:=Z0p Aw none cw 0 L [] (m+2*d) (w10.drewN n) (a6.out.below (below_drewN (Yh _ _) n)) (λ h=>by simp at h) (by rw[<- R];omega) (by decide) n2.out (λ x hx=>by cases hx);rw[<- R] at this;exact this)
 clear x1 x2 x3 R j0 h8 H f4 a7
 go_quiet ((go_at_call 55;exact Calls.quiet_of_same (d7.out _)))
 clear d7;have p1:IntKind.i64.wrap (2*d)=2*d:=Yi _ ⟨by omega,by omega⟩;have p2:IntKind.i64.wrap (m+2*d)=m+2*d:=Yi _ ⟨by omega,by omega⟩;have p3:IntKind.i64.wrap ((m:Int)+d)=m+d:=Yi _ ⟨by omega,by omega⟩;go_wp2_with fail
 refine(i4.out _).mono ?_;rintro e g6 (⟨m5,-⟩|⟨-,p,vm,Ai,ci,rfl,hm,d5,j2⟩)
 .exact absurd (show Zji m (m+2*d) from⟨by omega,by omega,by omega⟩) m5
 have u:Below w10.heap.size w10 g6:=(below_drewN (Yh _ _) _).trans d5;have d8:=(u.block U.heap.size d3).trans m0.out;have a2:=Ya (I.out.below (u.mono (by omega)));have k7:=u.size;have d1:=Ya (a1.out.trans (u.mono E));have f:=Ya (Z5b (lo:=w.heap.size) (y:=U.heap.size) (B:=w10.heap.size) hm j2 E d3 d8 (a2.out.same' (by omega)) (λ k o s e=>by have:=n5.out k o s e;omega));have j:=Ya (d1.out.alloc (Ym E k7) (.cells #[.pointer (some ⟨p,0,none⟩)] 32));clear j3 m7 d5 u d8 hm j2 a2 I a6 i4 d1 a1;have o6:=Y_f
 go_upto_region 8 with fail
 generalize g6.alloc (.cells #[.pointer (some ⟨p,0,none⟩)] 32)=w13 at *;generalize g6.heap.size=x at *;generalize U.heap.size=y at *;obtain⟨FF,j9⟩:=Yx (Za0 p vm (.slice none 0 0));rw[<- j9] at f;clear j9;go_wp2_with fail
 refine(Zoa 1 (2*d) f.out ⟨by omega,by omega⟩).mono ?_;rintro e o7 ⟨rfl,l,z⟩;have i:=Ya (j.out.trans (f.out.lobelow j.out.size z));clear f j;have f:=Ya l;have j:=i;clear l i z;go_wp2_with fail
 refine(Zoa 2 m f.out ⟨by omega,by omega⟩).mono ?_;rintro e q3 ⟨rfl,l,z⟩;have i:=Ya (j.out.trans (f.out.lobelow j.out.size z));clear f j;have f:=Ya l;have j:=i;clear l i z;go_wp2_with fail
 refine(Zoa 3 (m+d) f.out ⟨by omega,by omega⟩).mono ?_;rintro e q0 ⟨rfl,l,z⟩;have i:=Ya (j.out.trans (f.out.lobelow j.out.size z));clear f j;have f:=Ya l;have j:=i;clear l i z;go_wp2_with fail
 refine(Zoa 4 d f.out ⟨by omega,by omega⟩).mono ?_;rintro e o4 ⟨rfl,l,z⟩;have i:=Ya (j.out.trans (f.out.lobelow j.out.size z));clear f j;have f:=Ya l;have j:=i;clear l i z;go_wp2_with fail
 refine(Zoa 5 38 f.out ⟨by omega,by omega⟩).mono ?_;rintro e o8 ⟨rfl,l,z⟩;have i:=Ya (j.out.trans (f.out.lobelow j.out.size z));clear f j;have f:=Ya l;have j:=i;clear l i z;obtain⟨c0,c1,c2⟩:=f.out.cells;have Z:=f.out.xlt;go_wp2_with fail
 refine(Z5a 28 1056 f.out ⟨by omega,by omega⟩).mono ?_;rintro e k4 ⟨rv,rfl,l,z⟩;have i:=Ya (j.out.trans (f.out.lobelow j.out.size z));clear f j c0 c1 c2 Z;have f:=Ya l;have j:=i;clear l i z;have k6:∀(W:World)(s:ByteArray)(v:Int),ReadsP W W.heap.size Ap P->findP P s=some v->Calls prog 55 #[.slice Ap P.length cp,.string s] W λ e w'=>e=.returned (.int .i64 v)/\W=w':=λ W s v hR hv=>by
  have h:=Z75 Ap P.length cp W.heap.size P rfl l6 s W hR;rw[hv] at h;exact h
 have i6:IntKind.u32.wrap (a+1)=a+1:=Ya7 _ ⟨by omega,by omega⟩;have q5:(a+1)%4294967296=a+1:=by omega
 have j5:=Ya k6;clear k6;obtain⟨c0,c1,c2⟩:=f.out.cells;have Z:=f.out.xlt;have f6:=f.out.ylt;have HC:=Ya (λ y:Ext k4=>j5.out y.val ⟨#[99,97,108,108]⟩ (a+1) (f.out.below y.property).plc m9.out);go_upto_region 17 with fail
 refine Zi 5 (by kernel_rfl) (by kernel_rfl) ?_;have hE:=Zn k4;simp only[Yai,Yax,Yag,Yak]
 repeat (first|go_big_quiet_step ((go_at_call 55;exact Zcm (HC.out _))))
 refine wpQuiet_nil ?_;rintro y0 ⟨⟨_,D⟩,rfl⟩;have X:=Ya (f.out.below D);have a8:=Ya (j.out.trans (D.mono j.out.size));clear hE f j HC c0 c1 c2 Z f6 D;have f:=X;have j:=a8;clear X a8;go_wp2_with fail
 refine(Z65 (a+1) f.out ⟨by omega,by omega⟩).mono ?_;rintro e i7 ⟨rv,rfl,l,z⟩;have i:=Ya (j.out.trans (f.out.lobelow j.out.size z));clear f j;have f:=Ya l;have j:=i;clear l i z;obtain⟨c0,c1,c2⟩:=f.out.cells;have Z:=f.out.xlt;have f6:=f.out.ylt;have HC:=Ya (λ y:Ext i7=>j5.out y.val ⟨#[97,102,116,101,114]⟩ (a+3) (f.out.below y.property).plc n4.out);go_upto_region 18 with fail
 refine Zi 8 (by kernel_rfl) (by kernel_rfl) ?_;have hE:=Zn i7;simp only[Yai,Yax,Yag,Yak]
 repeat (first|go_big_quiet_step ((go_at_call 55;exact Zcm (HC.out _))))
 refine wpQuiet_nil ?_;rintro m2 ⟨⟨_,D⟩,rfl⟩;have X:=Ya (f.out.below D);have a8:=Ya (j.out.trans (D.mono j.out.size));clear hE f j HC c0 c1 c2 Z f6 D;have f:=X;have j:=a8;clear X a8;go_wp2_with fail
 go_ret2
 refine⟨F,a,m2.heap.size,p,FF,n0.out,rfl,?_,j.out.alloc j.out.size _⟩;have h:=f.out.nat j.out.size m d (a+3) m;have e:aj (nL op F) d=((((((Zk7 L ((m:Int)+2*d).toNat []).putV 1 (2*d)).putV 2 m).putV 3 (m+d)).putV 4 d).putV 5 38).setV 28 1056:=by
  rw[<- m6.out,m1.out];rfl
 rw[<- a4.out,e];exact h
def S.az (z:Int)(m:Mach)(next v:Int)(m':Mach)(next':Int):Prop:=∃ws,Wz z ws/\ws.length<=1002/\LaidW m next ws v m' next'
def Zx5 (w:World)(lo b p:Nat)(F:Nat->Prop)(first half after next:Int)(m:Mach)(R:Mach->Int->Int->Mach->Int->Prop)(e:Ending)(w':World):Prop :=
 ∃(v:Int)(m':Mach)(next':Int),e=.returned (.int .u32 v)/\R m next v m' next'/\(0<=v/\v<=4294967295)/\(next<=next'/\next'<=next+1002)/\(m'.out=m.out/\m'.steps=m.steps)/\NAt w' lo b p F first half after next' m'/\Below lo w w'
def Z7w (cb:Nat)(o:Obj)(lo:Nat)(w:World):Prop:=cb<lo/\w.heap[cb]?=some o
theorem Zx6 {a:Nat}{o:Obj}(lo:Nat)(w w':World)(h:Z7w a o lo w)(b:Below lo w w'):Z7w a o lo w':=⟨h.1,(b.block a h.1).trans h.2⟩
structure Zx7 (fn cb:Nat)(K:Nat->World->Prop)(R:Mach->Int->Int->Mach->Int->Prop):Prop where
 enter:∀(args:Array Value)(w:World),(callFunc fn args).run prog w=.ok (.enter fn args) w
 keep:∀(lo:Nat)(w w':World),K lo w->Below lo w w'->K lo w'
 out:∀(w:World)(lo b p:Nat)(F:Nat->Prop)(first half after next:Int)(m:Mach),K lo w->NAt w lo b p F first half after next m->0<=next->next<=300000000->Calls prog fn #[.pointer (some ⟨b,0,none⟩),.pointer (some ⟨cb,0,none⟩)] w (Zx5 w lo b p F first half after next m R)
theorem Zfr {z:Int}{ws:List Int}{m d:Mach}{next a v:Int}(b:Wz z ws)(c:ws.length<=1002)(h:LaidW m next ws v d a)(h0:0<=next/\next<=300000000):(0<=v/\v<=4294967295)/\(next<=a/\a<=next+1002):=by
 rcases h with⟨h1,rfl,_,rfl⟩|⟨_,rfl,_,rfl⟩
 .have hx:=Zmg b c (ws.getD 0 0) (by rw[Ye,Yf (by omega)];exact List.getElem_mem _)
  omega
 .omega
theorem Zlk:∀(l:List Int)(m:Mach)(a:Int),(putAt m a l).out=m.out/\(putAt m a l).steps=m.steps
 | [],m,a=>⟨rfl,rfl⟩
 | y::r,m,a=>by
  obtain⟨h1,h2⟩:=Zlk r (m.putV a y) (a+1);obtain⟨_,_,_,c,_,b,_⟩:=Zcl m a y;exact⟨h1.trans c,h2.trans b⟩
theorem Zer {ws:List Int}{m b:Mach}{next a v:Int}(h:LaidW m next ws v b a):b.out=m.out/\b.steps=m.steps:=by
 rcases h with⟨_,_,rfl,_⟩|⟨_,_,rfl,_⟩
 .exact⟨rfl,rfl⟩
 .exact Zlk _ _ _
theorem Zj4 (s:ByteArray)(q:Nat)(neg:Bool)(l:List Int)(k:Tz s q neg l)(B:s.size<=1000000)(t:(if tz neg l<0 then -tz neg l else tz neg l)<aw)(h:Nat):Zx7 78 h (Z7w h (.cells #[.string s] 9 (0,0))) (az (tz neg l)):=by
 refine⟨λ args w=>rfl,Zx6,?_⟩;intro w lo b p F first x after next m i u o n1
 have H:=Ya k;have C:=Ya t;have j:=Ya u;have hc:w.cell? ⟨h,0,none⟩=some (.string s):=by rw[Yc i.2];rfl
 clear k t u i;go_enter func78,ntmps78
 go_wp2_with fail
 refine(Z64 s q neg l H.out B w).mono ?_;rintro e w1 ⟨c,I,m1,c1,l1,rfl,d,f⟩;have E:=Ya d;have r:=Ya f;clear d f;go_wp2_with fail
 refine(Z25 c I m1 c1 l1 (tz neg l) w1.heap.size (Yb _) E.out C.out (j.out.below r.out) ⟨o,n1⟩).mono ?_;rintro e w2 ⟨ws,v,D,a,rfl,h1,h2,h3,n,y⟩;have A:=Ya y;have g:=Ya h3;have H1:=Ya h1;have z:=Ya n;clear h1 h3 n y;go_wp2_with fail
 go_ret
 obtain⟨G,k2⟩:=Zfr H1.out h2 g.out ⟨o,n1⟩;exact⟨v,D,a,rfl,⟨ws,H1.out,h2,g.out⟩,G,k2,Zer g.out,z.out,(r.out.mono j.out.lolt).trans A.out⟩
theorem Zm5 (s:ByteArray)(w:World):Calls prog 46 #[.string s] w λ e w'=>e=.returned (.func (.func 78) #[] #[.pointer (some ⟨w.heap.size,0,none⟩)])/\w'=w.alloc (.cells #[.string s] 9 (0,0)):=by
 have a:=Y_f
 go_enter func46,ntmps46
 go_wp2_with fail
 go_ret
 exact⟨rfl,rfl⟩
section
def S.a9 (M:Mach)(after:Int):List Int×Int :=
 if M.state≠1 then([],-2) else if M.place≠after then([],M.code) else((readV M (M.regV 4)).getD [M.regV 4],-1)
theorem Zx8 {m:Mach}{v:Int}{l:List Int}(h:readV m v=some l):0<l.length:=by
 unfold readV at h
 split at h
 .cases h;exact Nat.one_pos
 .split at h
  .cases h;simp
  .cases h
def S.am (m:Mach)(next top v1 v2:Int):Mach:=(((m.setV 26 next).setV 27 top).setV 4 v1).setV 5 v2
theorem Zgr (m:Mach){i v:Int}(h0:0<i)(h1:i<32):(m.setV i v).out=m.out/\(m.setV i v).steps=m.steps:=by
 rw[Zi7 h0 h1];exact⟨rfl,rfl⟩
theorem Zj5 (m:Mach)(next top a b:Int):(am m next top a b).out=m.out/\(am m next top a b).steps=m.steps:=by
 unfold am;obtain⟨e,b1⟩:=Zgr (((m.setV 26 next).setV 27 top).setV 4 a) (i:=5) (v:=b) (by decide) (by decide);obtain⟨h,b2⟩:=Zgr ((m.setV 26 next).setV 27 top) (i:=4) (v:=a) (by decide) (by decide);obtain⟨c,d⟩:=Zgr (m.setV 26 next) (i:=27) (v:=top) (by decide) (by decide);obtain⟨f,g⟩:=Zgr m (i:=26) (v:=next) (by decide) (by decide);exact⟨e.trans (h.trans (c.trans f)),b1.trans (b2.trans (d.trans g))⟩
theorem Zm6 (m:Mach)(v:Int):(m.goV v).out=m.out/\(m.goV v).steps=m.steps:=by
 unfold Mach.goV
 split <;> exact⟨rfl,rfl⟩
attribute [local irreducible] aj nL nMid
def Z4b (w:World)(op:Int)(Rp Rq:Mach->Int->Int->Mach->Int->Prop)(e:Ending)(w':World):Prop :=
 ∃(F:List Int)(a v1 v2 n1 n2:Int)(m1 m2:Mach)(A:Option Addr)(n c:Nat)(l:List Int)(code:Int),au op F 2000 a/\Rp ((aj (nL op F) 2000).goV (a+1)) (a+4) v1 m1 n1/\Rq m1 n1 v2 m2 n2 /\
  e=.returned (.tuple #[.slice A n c,.int .i64 code])/\n=l.length/\n<=301/\Reads w' w'.heap.size A (l.map (Ys .u32))/\(l,code)=a9 ((am m2 n2 (a+4+2000) v1 v2).steps_ 5000000) (a+3)/\Below w.heap.size w w'
theorem Z6k (op:Int)(b3:isOp op)(fp fq cp cq:Nat)(Kp Kq:Nat->World->Prop)(Rp Rq:Mach->Int->Int->Mach->Int->Prop)(hp:Zx7 fp cp Kp Rp)(hq:Zx7 fq cq Kq Rq)(w:World)(hL:LVE w)(a6:Kp w.heap.size w)(b0:Kq w.heap.size w) :
 Calls prog 45 #[.int .i64 op,.func (.func fp) #[] #[.pointer (some ⟨cp,0,none⟩)],.func (.func fq) #[] #[.pointer (some ⟨cq,0,none⟩)]] w (Z4b w op Rp Rq):=by
 have HP:=Ya hp.out;have d5:=hp.enter;have d3:=hq.enter;have HQ:=Ya hq.out;have b7:=Ya a6;have c5:=Ya b0;have a4:=Ya (Zx4 op 2000 b3 (by decide) w hL);have b5:=Ya hp.keep;have b8:=Ya hq.keep;clear hp hq a6 b0 hL b3;go_enter func45,ntmps45
 go_wp2_with fail
 refine a4.out.mono ?_;rintro e w1 ⟨F,a,b,p,FF,u,rfl,j,v⟩;have I:=Ya u;have d:=Ya j;have g:=Ya v;have c7:=u.lab.a0;have e3:=u.small;have U:=Ya u.out;have a8:=Ya u.steps;clear u j v a4;go_wp2_with fail
 refine(HP.out w1 w.heap.size b p FF (a+4) 2000 (a+3) (a+4) _ (b5.out _ _ _ b7.out g.out) d.out (by omega) (by omega)).mono ?_;rintro e w2 ⟨D,m1,n1,rfl,a5,b6,c8,x,j,v⟩;have G:=Ya a5;have Z:=Ya x;have f:=Ya (g.out.trans v);clear d g;have d:=Ya j;have g:=f;clear j v f a5 x;go_wp2_with fail
 refine(HQ.out w2 w.heap.size b p FF (a+4) 2000 (a+3) n1 _ (b8.out _ _ _ c5.out g.out) d.out (by omega) (by omega)).mono ?_;rintro e w3 ⟨H,m2,n2,rfl,a3,c6,b1,z,j,v⟩;have J:=Ya a3;have a7:=Ya z;have f:=Ya (g.out.trans v);clear d g;have d:=Ya j;have g:=f;clear j v f a3 z;obtain⟨c0,c1,c2,c3,c4⟩:=d.out.cells;have i:=d.out.blt;have u2:IntKind.u32.wrap n2=n2:=Ya7 _ ⟨by omega,by omega⟩;have d7:n2%4294967296=n2:=by omega
 have u3:IntKind.i64.wrap (a+4+2000)=a+4+2000:=Yi _ ⟨by omega,by omega⟩;have u4:IntKind.u32.wrap (a+4+2000)=a+4+2000:=Ya7 _ ⟨by omega,by omega⟩;have d6:(a+4+2000)%4294967296=a+4+2000:=by omega
 go_upto_region 6 with fail
 refine Zi 9 (by kernel_rfl) (by kernel_rfl) ?_;have hE:=Zn w3;simp only[Yai,Yax,Yag,Yak]
 repeat (first|go_big_quiet_step (fail))
 refine wpQuiet_nil ?_;rintro y1 ⟨⟨_,m⟩,rfl⟩;have y:=Ya (d.out.below m);have B:=Ya (g.out.trans (m.mono d.out.lolt));clear hE d g c0 c1 c2 c3 c4 i m;have d:=y;have g:=B;clear y B;obtain⟨c0,c1,c2,c3,c4⟩:=d.out.cells;have i:=d.out.blt;go_wp2_with fail
 refine(Zhs 26 n2 d.out ⟨by omega,by omega⟩).mono ?_;rintro e w4 ⟨rv,rfl,j,o⟩;have f:=Ya (g.out.trans (d.out.lobelow o));clear d g c0 c1 c2 c3 c4 i;have d:=Ya j;have g:=f;clear j o f;obtain⟨c0,c1,c2,c3,c4⟩:=d.out.cells;have i:=d.out.blt;go_upto_region 7 with fail
 refine Zi 14 (by kernel_rfl) (by kernel_rfl) ?_;have hE:=Zn w4;simp only[Yai,Yax,Yag,Yak]
 repeat (first|go_big_quiet_step (fail))
 refine wpQuiet_nil ?_;rintro y2 ⟨⟨_,m⟩,rfl⟩;have y:=Ya (d.out.below m);have B:=Ya (g.out.trans (m.mono d.out.lolt));clear hE d g c0 c1 c2 c3 c4 i m;have d:=y;have g:=B;clear y B;obtain⟨c0,c1,c2,c3,c4⟩:=d.out.cells;have i:=d.out.blt;go_wp2_with fail
 refine(Zhs 27 (a+4+2000) d.out ⟨by omega,by omega⟩).mono ?_;rintro e w5 ⟨rv,rfl,j,o⟩;have f:=Ya (g.out.trans (d.out.lobelow o));clear d g c0 c1 c2 c3 c4 i;have d:=Ya j;have g:=f;clear j o f;obtain⟨c0,c1,c2,c3,c4⟩:=d.out.cells;have i:=d.out.blt;go_wp2_with fail
 refine(Zhs 4 D d.out b6).mono ?_;rintro e w6 ⟨rv,rfl,j,o⟩;have f:=Ya (g.out.trans (d.out.lobelow o));clear d g c0 c1 c2 c3 c4 i;have d:=Ya j;have g:=f;clear j o f;obtain⟨c0,c1,c2,c3,c4⟩:=d.out.cells;have i:=d.out.blt;go_wp2_with fail
 refine(Zhs 5 H d.out c6).mono ?_;rintro e w7 ⟨rv,rfl,j,o⟩;have f:=Ya (g.out.trans (d.out.lobelow o));clear d g c0 c1 c2 c3 c4 i;have d:=Ya j;have g:=f;clear j o f;obtain⟨c0,c1,c2,c3,c4⟩:=d.out.cells;have i:=d.out.blt;have W:=Ya (show(am m2 n2 (a+4+2000) D H)=(((m2.setV 26 n2).setV 27 (a+4+2000)).setV 4 D).setV 5 H from rfl);obtain⟨x,z⟩:=Zj5 m2 n2 (a+4+2000) D H;have L:=x.trans (a7.out.1.trans Z.out.1);have E:=z.trans (a7.out.2.trans Z.out.2);obtain⟨e1,e2⟩:=Zm6 (aj (nL op F) 2000) (a+1);rw[e1,U.out] at L;rw[e2,a8.out] at E;rw[W.out] at L E;have Y:=Ya L;have X:=Ya E;clear x z L E e1 e2;go_wp2_with fail
 refine(Z5d 5000000 d.out Y.out X.out (by decide)).mono ?_;rintro e w8 ⟨rfl,F8,j,o,-⟩;have f:=Ya (g.out.trans (d.out.lobelow o));clear d g c0 c1 c2 c3 c4 i;rw[<- W.out] at j⊢;have e5:(5000000:Int).toNat=5000000:=rfl;rw[e5] at j⊢;obtain⟨k,R⟩:=Yx ((am m2 n2 (a+4+2000) D H).steps_ 5000000);have C:=Ya R;rw[<- R] at j⊢;have d:=Ya j;have g:=f;clear j o f R W Y X e5;have t:=d.out.ok;by_cases r:k.state=1
 rotate_left
 .have d0:(k.state != 1)=true:=by simp[r]
  have K:=Ya r;clear r;go_wp2_with fail
  go_ret2
  refine⟨F,a,D,H,n1,n2,m1,m2,none,0,0,[],-2,I.out,G.out,J.out,rfl,rfl,by decide,λ h=>by simp at h,?_,g.out⟩;rw[<- C.out];unfold a9;rw[if_pos K.out]
 have d0:(k.state != 1)=false:=by simp[r]
 have K:=Ya r;clear r;obtain⟨c0,c1,c2,c3,c4⟩:=d.out.cells;have i:=d.out.blt;have d9:=t.code0;have d8:=t.code1;have d4:=t.place0;have e0:=t.place1;have b2:=Zuj t 4;have a1:k.regV 4=k.rd 4:=Zho (by decide) (by decide);rw[<- a1] at b2;have u5:IntKind.i64.wrap k.code=k.code:=Yi _ ⟨by omega,by omega⟩;have u6:IntKind.i64.wrap k.place=k.place:=Yi _ ⟨by omega,by omega⟩;have a2:=Ya (λ n:Nat=>(Zvu (d.out.drew n)).mono (λ _ _ q=>(⟨q.1,q.2.symm⟩:_/\_)));clear t a1;by_cases s:k.place=a+3
 rotate_left
 .have d1:(k.place != a+3)=true:=by simp[s]
  have V:=Ya s;clear s;go_wp2_with fail
  go_quiet ((go_at_call 24;exact Calls.quiet_of_same (a2.out _)))
  go_wp2_with fail
  refine(Zri (d.out.drew _)).mono ?_;rintro e w9 ⟨rfl,rfl⟩;go_wp2_with fail
  go_ret2
  refine⟨F,a,D,H,n1,n2,m1,m2,none,0,0,[],k.code,I.out,G.out,J.out,rfl,rfl,by decide,λ h=>by simp at h,?_,below_drewN g.out _⟩;rw[<- C.out];unfold a9;rw[if_neg (λ h=>h K.out),if_pos V.out]
 have d1:(k.place != a+3)=false:=by simp[s]
 have V:=Ya s;clear s;go_wp2_with fail
 go_quiet ((go_at_call 24;exact Calls.quiet_of_same (a2.out _)))
 go_wp2_with fail
 refine(Zoc 4 (d.out.drew _)).mono ?_;rintro e w9 ⟨rfl,rfl⟩;go_wp2_with fail
 refine(Z1e (k.regV 4) ⟨b2.1,by omega⟩ (d.out.drew _)).mono ?_;rintro e w9 ⟨A,n,c,rfl,Q,b1,hr,v,b4⟩;have HR:=Ya hr;have HN:=Ya Q;have T:=Ya ((d.out.drew _).below (v.mono (Yb _)));have M:=Ya ((below_drewN g.out _).trans (v.mono d.out.lolt));clear hr v b4 d g c0 c1 c2 c3 c4 i;obtain⟨O,hO⟩:=Yx (readV k (k.regV 4));rw[<- hO] at Q HR;rw[<- hO];have HO:=Ya hO;clear hO HN;have N:a9 k (a+3)=(O.getD [k.regV 4],-1):=by
  unfold a9;rw[if_neg (λ h=>h K.out),if_neg (λ h=>h V.out),<- HO.out]
 have P:=Ya N;clear N
 cases O with
 | some l =>
  have hl:=Zx8 HO.out.symm;have e:((some l).getD []:List Int)=l:=rfl;rw[e] at Q HR;simp only[Option.isSome_some];have d2:((n:Int)==0)=false:=beq_eq_false_iff_ne.2 (by omega);have Hn:=Ya Q;clear Q e;go_wp2_with fail
  go_ret2
  refine⟨F,a,D,H,n1,n2,m1,m2,A,n,c,l,-1,I.out,G.out,J.out,rfl,Hn.out,b1,HR.out,?_,M.out⟩;rw[<- C.out];exact P.out.symm
 | none =>
  have b9:n=0:=Q;subst b9;simp only[Option.isSome_none];obtain⟨c0,c1,c2,c3,c4⟩:=T.out.cells;have i:=T.out.blt;have d2:(((0:Nat):Int)==0)=true:=rfl;clear Q HR;go_wp2_with fail
  refine(Zoc 4 T.out).mono ?_;rintro e c9 ⟨rfl,rfl⟩;go_wp2_with fail
  go_ret2
  have hl:=Zl5 (w:=w9) (base:=w.heap.size) (e:=31) (size:=1) (n:=1) (cs:=#[.int .u32 (k.regV 4)]) (xs:=[.int .u32 (k.regV 4)]) M.out.size rfl rfl (by simp[maxLen]);refine⟨F,a,D,H,n1,n2,m1,m2,some ⟨w9.heap.size,0,none⟩,1,1,[k.regV 4],-1,I.out,G.out,J.out,rfl,rfl,by decide,Za8 hl,?_,M.out.alloc M.out.size _⟩;rw[<- C.out];exact P.out.symm
end
theorem Zbv {b:Int}(l:List Int)(i:Nat):dvB b (l.take (i+1))=dvB b (l.take i)+b^i*l.getD i 0:=by
 by_cases h:i<l.length
 .have e:l.take (i+1)=l.take i++[l.getD i 0]:=by
   rw[List.take_add_one,Yf h,Ye,Yf h];rfl
  rw[e,Zgo,Yr,Nat.min_eq_left (by omega)]
 .rw[Yar (by omega),Yar (by omega),Ye,List.getElem?_eq_none (by omega)]
  show _=_+_*(0:Int)
  rw[Int.mul_zero,Ybc]
theorem Z0z (P D x:Int):D+P*(x%10)+P*10*(x/10)=D+P*x:=by
 have e:x=x%10+10*(x/10):=by omega
 generalize x%10=r at *;generalize x/10=q at *;subst e
 grind
theorem Zj6 {a:List Int}{D x more:Int}{k:Nat}(c:a.length=k)(b:dvB 10 a+10^k*more=D):dvB 10 (a++[(more+x)%10])+10^(k+1)*((more+x)/10)=D+10^k*x:=by
 rw[Zgo,c,Int.pow_succ,Z0z,<- b,Int.mul_add];omega
theorem Zdy {b:Int}{l:List Int}{x:Int}(h:DgB b l)(c:0<=x/\x<b):DgB b (l++[x]):=λ d a=>by
 rcases Y4.1 a with h1|h1
 .exact h d h1
 .rw[Y2] at h1
  rw[h1];exact c
theorem Z00 {a:List Int}{D x c d b:Int}{k:Nat}(g:a.length=k)(f:dvB 10 a-10^k*d=D)(hx:c-10*b=x-d):dvB 10 (a++[c])-10^(k+1)*b=D+10^k*x:=by
 rw[Zgo,g,Int.pow_succ,<- f];generalize (10:Int)^k=P;generalize dvB 10 a=O;have e:c=x-d+10*b:=by omega
 subst e
 grind
theorem Zm7 {l a:List Int}{x y:Int}(h:Cn 10 l x)(b:Cn 10 a y)(d:y<=x):a.length<=l.length:=by
 refine Y_c λ c=>?_
 have:=Zgp (by decide) h b (by omega);omega
theorem Zq0 {neg:Bool}{l:List Int}{x:Int}(h:dvB 10 l=x):tz neg l=if neg=true then -x else x:=by
 unfold tz;rw[h]
theorem Zgs {neg:Bool}{l:List Int}{z:Int}(h:Nz neg l z):tz neg l=z/\0<=dvB 10 l:=by
 obtain⟨⟨h1,h2,h3⟩,rfl⟩:=h;refine⟨?_,Zap (by decide) h1⟩;rw[Zq0 h3];by_cases c:z<0
 .rw[decide_eq_true c,if_pos rfl,if_pos c];omega
 .rw[decide_eq_false c,if_neg (by simp),if_neg c]
theorem Z4c {n1 n2:Bool}{X Y:Int}(a:0<=X)(hY:0<=Y):(if (n1 != n2)=true then -(X/Y) else X/Y)=Int.tdiv (if n1=true then -X else X) (if n2=true then -Y else Y)/\(if n1=true then -(X%Y) else X%Y)=Int.tmod (if n1=true then -X else X) (if n2=true then -Y else Y):=by
 have d:=Ybk (b:=Y) a;have c:Int.tmod X Y=X%Y:=Ya4 a
 cases n1 <;> cases n2 <;> simp[Int.tdiv_neg,Int.neg_tdiv,Int.neg_tmod,Int.tmod_neg,d,c]
theorem Z4d {D Q R B d n R':Int}(h:D=Q*B+R)(hR:0<=R/\R<B)(hd:0<=d/\d<10)(hn:10*R+d=n*B+R')(b:0<=n)(a:0<=R'):n<10:=by
 have h1:10*R+d<10*B:=by omega
 refine Y_c λ c=>?_
 have h2:=Int.mul_le_mul_of_nonneg_right (show 10<=n by omega) (show 0<=B by omega);omega
def Z8c (w w':World)(A:Option Addr)(k c:Nat)(ds:List Int):Prop:=k=ds.length/\w'.ownsRow w.heap.size 3 1 (.slice A k c) k (ds.map (Ys .i64))/\Below w.heap.size w w'
def Zx9 (w:World)(N:Nat)(v:Int)(e:Ending)(w':World):Prop:=∃(A':Option Addr)(k c':Nat)(ds:List Int),e=.returned (.slice A' k c')/\k<=N+5/\DgB 10 ds/\dvB 10 ds=v/\Z8c w w' A' k c' ds
def Zya (w:World)(M:Nat)(v:Int)(e:Ending)(w':World):Prop:=∃(A':Option Addr)(k c':Nat)(ds:List Int),e=.returned (.slice A' k c')/\k<=M+1/\DgB 10 ds/\dvB 10 ds=v/\Z8c w w' A' k c' ds
theorem Zyb {u m:Int}(a:0<=u/\u<10)(hm:0<=m/\m<=65536):0<=u*m/\u*m<=589824:=by
 have h1:=Int.mul_nonneg a.1 hm.1;have h2:=Int.mul_le_mul_of_nonneg_right (show u<=9 by omega) hm.1;omega
theorem Zyc {m:Int}{j:Nat}(hm:0<m)(hj:j<=5)(h:m*10^j<=65536):j<=4/\m/10*10^(j+1)<=65536:=by
 refine⟨?_,?_⟩
 .refine Y_c λ c=>?_
  have e:j=5:=by omega
  subst e;have a:(10:Int)^5=100000:=by decide
  rw[a] at h;omega
 .have hp:(0:Int)<10^j:=Int.pow_pos (by decide)
  have h1:=Int.mul_le_mul_of_nonneg_left (show m/10*10<=m by omega) (Int.le_of_lt hp);rw[Int.pow_succ];generalize (10:Int)^j=P at *;generalize m/10=q at *;have e1:q*(P*10)=P*(q*10):=by grind
  have a:P*m=m*P:=Int.mul_comm _ _;omega
theorem Zm8 (A:Option Addr)(N c:Nat)(l:List Int)(a more:Int)(hN:N=l.length)(w:World)(B:Nat)(hB:B<=w.heap.size)(h:Ints w B A l)(hl:N<=100000)(L:DgB 10 l)(R:0<=a/\a<=65536)(W:0<=more/\more<=65536) :
 Calls prog 48 #[.slice A N c,.int .i64 a,.int .i64 more] w (Zx9 w N (dvB 10 l*a+more)):=by
 have HN:=Ya hN;have H:=Ya h;have Hd:=Ya L;clear hN h L;go_enter func48,ntmps48
 go_wp2_with fail
 go_loopw [2,7,8] (λ G Q Z wr=>∃(i:Nat)(m:Int)(v:Option Addr)(c2:Nat)(n:List Int),i<=N/\Z=.int .i64 i/\G=.int .i64 m/\Q=.slice v i c2/\(0<=m/\m<=65536)/\Hid (n.length=i)/\Hid (DgB 10 n)/\Hid (dvB 10 n+10^i*m=dvB 10 (l.take i)*a+more)/\Hid (wr.ownsRow w.heap.size 3 1 (.slice v i c2) i (n.map (Ys .i64)))/\Hid (Below w.heap.size w wr)) (λ _ _ Z _=>N-(intOf Z).toNat)
 case atStart=>exact⟨0,more,none,0,[],Yae _,rfl,rfl,rfl,W,Ya rfl,Ya (λ d L=>by cases L),Ya (by show(0:Int)+1*more=0*a+more;omega),Ya (Yaf _ _ _ _),Ya (Yh _ _)⟩
 case round =>
  obtain⟨i,m,v,c2,n,hi,rfl,rfl,rfl,hm,p,J,Y,s,o⟩:=hrel;by_cases c0:i<N
  .obtain⟨b,off,hAe,hbB,hc1⟩:=(H.out.below (o.out.mono hB)).at_ (k:=i) (by rw[<- HN.out];exact c0)
   obtain⟨u,D⟩:∃x,x=l.getD i 0:=⟨_,rfl⟩
   rw[<- D] at hc1;have C:=Zb8 (by decide) Hd.out i;rw[<- D] at C;have Hu:=Ya D;have U:=Zyb C R;have e2:IntKind.i64.wrap ((i:Int)+1)=(i:Int)+1:=by rw[Yi _ (by omega)]
   have e3:IntKind.i64.wrap (i:Int)=(i:Int):=by rw[Yi _ (by omega)]
   have i3:(i:Int)<(N:Int):=by omega
   have i4:(0:Int)<=(i:Int):=by omega
   have d1:decide ((i:Int)<(N:Int))=true:=decide_eq_true i3;have e4:IntKind.i64.wrap (u*a)=u*a:=by rw[Yi _ (by omega)]
   have e5:IntKind.i64.wrap (m+u*a)=m+u*a:=by rw[Yi _ (by omega)]
   have e6:(m+u*a).tdiv 10=(m+u*a)/10:=Ybk (by omega);have e7:(m+u*a).tmod 10=(m+u*a)%10:=Ya4 (by omega);have e8:IntKind.i64.wrap ((m+u*a)/10)=(m+u*a)/10:=by rw[Yi _ (by omega)]
   have e9:IntKind.i64.wrap ((m+u*a)%10)=(m+u*a)%10:=by rw[Yi _ (by omega)]
   have z:=Ya (show(0<=(m+u*a)/10/\(m+u*a)/10<=65536)/\(0<=(m+u*a)%10/\(m+u*a)%10<10) by omega);have Hv:=Ya (show dvB 10 (n++[(m+u*a)%10])+10^(i+1)*((m+u*a)/10)=dvB 10 (l.take (i+1))*a+more by
    rw[Zj6 p.out Y.out,Zbv,<- D,Int.add_mul,Int.mul_assoc];omega)
   have K:=o.out.size;have a1:b<wr.heap.size:=Nat.lt_of_lt_of_le hbB (Ym hB K);subst hAe;clear D U;go_wp2_with (at_builtin;refine Zm rfl (.tmp 23) (.tmp 26) _ rfl w.heap.size 3 Zbb underlying54 rfl (by decide) #[.int .i64 ((m+u*a)%10)] _ _ _ rfl s.out rfl rfl rfl (by simp[Y1]) (by simp only[maxLen];omega) (by omega) K ?_;intro v' w7 q T y F;obtain⟨X,O,rfl⟩:=Zc q)
   go_roundw
   case rel=>exact⟨i+1,(m+u*a)/10,X,O,n++[(m+u*a)%10],by omega,by go_num,rfl,rfl,z.out.1,Ya (by rw[Yd,p.out];rfl),Ya (Zdy J.out z.out.2),Hv,Ya (by rw[Yay];exact q),Ya (o.out.trans y)⟩
   case measure=>simp[intOf] <;> omega
  .have hie:i=N:=by omega
   subst hie;have Hv:=Ya (show dvB 10 n+10^i*m=dvB 10 l*a+more by
    have:=Y.out;rw[Yar (by rw[<- HN.out];exact Yb _)] at this;exact this)
   have d1:decide ((i:Int)<(i:Int))=false:=by simp
   clear hi c0 Y;go_wp2_with fail
   go_loopw [2,7] (λ G Q wz=>∃(j:Nat)(e:Int)(v:Option Addr)(c2:Nat)(n:List Int),G=.int .i64 e/\Q=.slice v (i+j) c2/\(0<=e/\e<=65536)/\j<=5/\Hid (e*10^j<=65536)/\Hid (n.length=i+j)/\Hid (DgB 10 n)/\Hid (dvB 10 n+10^(i+j)*e=dvB 10 l*a+more)/\Hid (wz.ownsRow w.heap.size 3 1 (.slice v (i+j) c2) (i+j) (n.map (Ys .i64)))/\Hid (Below w.heap.size w wz)) (λ G _ _=>(intOf G).toNat)
   case atStart=>exact⟨0,m,v,c2,n,rfl,rfl,hm,by omega,Ya (by rw[Int.pow_zero,Int.mul_one];exact hm.2),p,J,Hv,s,o⟩
   case round =>
    obtain⟨j,e,A3,c3,M,rfl,rfl,a0,hj,P,g,t,I,r,f⟩:=hrel;by_cases c1:0<e
    .have e6:e.tdiv 10=e/10:=Ybk (by omega)
     have e7:e.tmod 10=e%10:=Ya4 (by omega);have e8:IntKind.i64.wrap (e/10)=e/10:=by rw[Yi _ (by omega)]
     have e9:IntKind.i64.wrap (e%10)=e%10:=by rw[Yi _ (by omega)]
     have d2:decide (0<e)=true:=decide_eq_true c1;have d3:decide (e>0)=true:=decide_eq_true c1;have z:=Ya (show(0<=e/10/\e/10<=65536)/\(0<=e%10/\e%10<10)/\e/10<e by omega);have Hp:=Ya (Zyc c1 hj P.out);have V:=Ya (show dvB 10 (M++[e%10])+10^(i+(j+1))*(e/10)=dvB 10 l*a+more by
      have:=Zj6 (x:=0) g.out I.out;rw[Ybc,Int.mul_zero,Ybc] at this;exact this)
     have K:=f.out.size;go_wp2_with (at_builtin;refine Zm rfl (.tmp 32) (.tmp 35) _ rfl w.heap.size 3 Zbb underlying54 rfl (by decide) #[.int .i64 (e%10)] _ _ _ rfl r.out rfl rfl rfl (by simp[Y1]) (by simp only[maxLen];omega) (by omega) K ?_;intro v' w7 q T y F;obtain⟨X,O,rfl⟩:=Zc q)
     go_roundw
     case rel=>exact⟨j+1,e/10,X,O,M++[e%10],rfl,rfl,z.out.1,by have:=Hp.out.1;omega,Ya Hp.out.2,Ya (by rw[Yd,g.out];rfl),Ya (Zdy t.out z.out.2.1),V,Ya (by rw[Yay];exact q),Ya (f.out.trans y)⟩
     case measure=>have:=z.out;simp[intOf] <;> omega
    .have hm0:e=0:=by omega
     subst hm0;have E:=Ya (show dvB 10 M=dvB 10 l*a+more by
      have:=I.out;rw[Int.mul_zero,Ybc] at this;exact this)
     clear c1;go_wp2_with fail
     go_ret
     exact⟨A3,i+j,c3,M,rfl,by omega,t.out,E.out,g.out.symm,r.out,f.out⟩
theorem Zm9 (A:Option Addr)(N c i:Nat)(l:List Int)(a:N=l.length)(w:World)(B:Nat)(h:Ints w B A l)(hl:N<=1000000) :
 Calls prog 203 #[.slice A N c,.int .i64 i] w λ e w'=>e=.returned (.int .i64 (l.getD i 0))/\w=w':=by
 by_cases c0:i<N
 .obtain⟨b,off,hAe,hbB,hc1⟩:=h.at_ (k:=i) (by rw[<- a];exact c0)
  obtain⟨u,d⟩:∃x,x=l.getD i 0:=⟨_,rfl⟩
  rw[<- d] at hc1⊢;have f:(i:Int)<(N:Int):=by omega
  have i4:(0:Int)<=(i:Int):=by omega
  have e3:IntKind.i64.wrap (i:Int)=(i:Int):=by rw[Yi _ (by omega)]
  have d1:decide ((i:Int)<(N:Int))=true:=decide_eq_true f;have d2:decide (i<N)=true:=decide_eq_true c0;subst hAe;clear d h a;go_enter func203,ntmps203
  go_wp2_with fail
  go_ret
  exact⟨rfl,rfl⟩
 .have e0:l.getD i 0=0:=by rw[Ye,List.getElem?_eq_none (by omega)];rfl
  have d1:decide ((i:Int)<(N:Int))=false:=decide_eq_false (by omega);have d2:decide (i<N)=false:=decide_eq_false c0;rw[e0];clear h a;go_enter func203,ntmps203
  go_wp2_with fail
  go_ret
  exact⟨rfl,rfl⟩
theorem Z4e (A A':Option Addr)(N c j c':Nat)(l n:List Int)(hN:N=l.length)(G:j=n.length)(w:World)(B:Nat)(hB:B<=w.heap.size)(h:Ints w B A l)(h':Ints w B A' n)(M:Nat)(hl:N<=M)(a2:j<=M)(hM:M<=100000)(Z:DgB 10 l)(T:DgB 10 n) :
 Calls prog 128 #[.slice A N c,.slice A' j c'] w (Zya w M (dvB 10 l+dvB 10 n)):=by
 have HN:=Ya hN;have a1:=Ya G;have H:=Ya h;have H':=Ya h';have Hd:=Ya Z;have a0:=Ya T;clear h h' Z T;go_enter func128,ntmps128
 go_wp2_with fail
 go_loopw [5,6,7] (λ v5 v6 v7 wr=>∃(i:Nat)(m:Int)(X:Option Addr)(c2:Nat)(o:List Int),i<=M+1/\v7=.int .i64 i/\v6=.int .i64 m/\v5=.slice X i c2/\(0<=m/\m<=1)/\Hid (i=M+1->m=0)/\Hid (o.length=i)/\Hid (DgB 10 o)/\Hid (dvB 10 o+10^i*m=dvB 10 (l.take i)+dvB 10 (n.take i))/\Hid (wr.ownsRow w.heap.size 3 1 (.slice X i c2) i (o.map (Ys .i64)))/\Hid (Below w.heap.size w wr)) (λ _ _ v7 _=>M+1-(intOf v7).toNat)
 case atStart=>exact⟨0,0,none,0,[],Yae _,rfl,rfl,rfl,by omega,Ya (λ _=>rfl),Ya rfl,Ya (λ d Z=>by cases Z),Ya (by show(0:Int)+1*0=0+0;omega),Ya (Yaf _ _ _ _),Ya (Yh _ _)⟩
 case round =>
  obtain⟨i,m,X,c2,o,hi,rfl,rfl,rfl,hm,p,f,t,hv,k,b⟩:=hrel;have hz:=b.out.size;by_cases E:i<N\/i<j\/0<m
  .have hiM:i<M+1:=by
    refine Y_c λ c=>?_
    have:=p.out (by omega);omega
   have y:=Ya (Zm9 A N c i l HN.out wr B (H.out.below (b.out.mono hB)) (by omega));have O:=Zb8 (by decide) Hd.out i;have C:=Zb8 (by decide) a0.out i;have v:=Ya (show M<=i->l.getD i 0=0/\n.getD i 0=0 from λ h=>⟨by rw[Ye,List.getElem?_eq_none (by omega)];rfl,by rw[Ye,List.getElem?_eq_none (by omega)];rfl⟩);have J:=Ya (show dvB 10 (o++[(m+(l.getD i 0+n.getD i 0))%10])+10^(i+1)*((m+(l.getD i 0+n.getD i 0))/10)=dvB 10 (l.take (i+1))+dvB 10 (n.take (i+1)) by
    rw[Zj6 f.out hv.out,Zbv,Zbv,Int.mul_add];omega)
   have s:=Ya (Zm9 A' j c' i n a1.out wr B (H'.out.below (b.out.mono hB)) (by omega));obtain⟨u,hu⟩:∃x,x=l.getD i 0:=⟨_,rfl⟩
   obtain⟨a,W⟩:∃x,x=n.getD i 0:=⟨_,rfl⟩
   rw[<- hu] at O v J y;rw[<- W] at C v J s;have e2:IntKind.i64.wrap ((i:Int)+1)=(i:Int)+1:=by rw[Yi _ (by omega)]
   have e4:IntKind.i64.wrap (m+u)=m+u:=by rw[Yi _ (by omega)]
   have e5:IntKind.i64.wrap (m+u+a)=m+u+a:=by rw[Yi _ (by omega)]
   have e6:(m+u+a).tdiv 10=(m+u+a)/10:=Ybk (by omega);have e7:(m+u+a).tmod 10=(m+u+a)%10:=Ya4 (by omega);have e8:IntKind.i64.wrap ((m+u+a)/10)=(m+u+a)/10:=by rw[Yi _ (by omega)]
   have e9:IntKind.i64.wrap ((m+u+a)%10)=(m+u+a)%10:=by rw[Yi _ (by omega)]
   have I:=Ya (show(0<=(m+u+a)/10/\(m+u+a)/10<=1)/\(0<=(m+u+a)%10/\(m+u+a)%10<10) by omega);have F:=Ya (show i+1=M+1->(m+u+a)/10=0 from λ e=>by have:=v.out (by omega);omega);rw[<- Int.add_assoc] at J;clear hu W O C v p hN G;have R:(i<N/\True)\/(¬i<N/\i<j)\/(¬i<N/\¬i<j/\0<m):=by
    by_cases Y:i<N
    .exact .inl ⟨Y,trivial⟩
    .by_cases q2:i<j
     .exact .inr (.inl ⟨Y,q2⟩)
     .exact .inr (.inr ⟨Y,q2,(E.resolve_left Y).resolve_left q2⟩)
   rcases R with⟨q,-⟩|⟨q,D⟩|⟨q,D,U⟩
   .have d1:decide ((i:Int)<(N:Int))=true:=decide_eq_true (by omega)
    have d2:decide (i<N)=true:=decide_eq_true q;clear E q;go_wp2_with fail
    refine y.out.mono ?_;rintro e L ⟨rfl,rfl⟩;go_wp2_with fail
    refine s.out.mono ?_;rintro e L ⟨rfl,rfl⟩;go_wp2_with (at_builtin;refine Zm rfl (.tmp 33) (.tmp 36) _ rfl w.heap.size 3 Zbb underlying54 rfl (by decide) #[.int .i64 ((m+u+a)%10)] _ _ _ rfl k.out rfl rfl rfl (by simp[Y1]) (by simp only[maxLen];omega) (by omega) hz ?_;intro v' w7 g P r z;obtain⟨V,K,rfl⟩:=Zc g)
    go_roundw
    case rel=>exact⟨i+1,(m+u+a)/10,V,K,o++[(m+u+a)%10],by omega,by go_num,rfl,rfl,I.out.1,F,Ya (by rw[Yd,f.out];rfl),Ya (Zdy t.out I.out.2),J,Ya (by rw[Yay];exact g),Ya (b.out.trans r)⟩
    case measure=>simp[intOf] <;> omega
   .have d1:decide ((i:Int)<(N:Int))=false:=decide_eq_false (by omega)
    have d2:decide (i<N)=false:=decide_eq_false q;have d3:decide ((i:Int)<(j:Int))=true:=decide_eq_true (by omega);have d4:decide (i<j)=true:=decide_eq_true D;clear E q D;go_wp2_with fail
    refine y.out.mono ?_;rintro e L ⟨rfl,rfl⟩;go_wp2_with fail
    refine s.out.mono ?_;rintro e L ⟨rfl,rfl⟩;go_wp2_with (at_builtin;refine Zm rfl (.tmp 33) (.tmp 36) _ rfl w.heap.size 3 Zbb underlying54 rfl (by decide) #[.int .i64 ((m+u+a)%10)] _ _ _ rfl k.out rfl rfl rfl (by simp[Y1]) (by simp only[maxLen];omega) (by omega) hz ?_;intro v' w7 g P r z;obtain⟨V,K,rfl⟩:=Zc g)
    go_roundw
    case rel=>exact⟨i+1,(m+u+a)/10,V,K,o++[(m+u+a)%10],by omega,by go_num,rfl,rfl,I.out.1,F,Ya (by rw[Yd,f.out];rfl),Ya (Zdy t.out I.out.2),J,Ya (by rw[Yay];exact g),Ya (b.out.trans r)⟩
    case measure=>simp[intOf] <;> omega
   .have d1:decide ((i:Int)<(N:Int))=false:=decide_eq_false (by omega)
    have d2:decide (i<N)=false:=decide_eq_false q;have d3:decide ((i:Int)<(j:Int))=false:=decide_eq_false (by omega);have d4:decide (i<j)=false:=decide_eq_false D;have d5:decide (0<m)=true:=decide_eq_true U;have d6:decide (m>0)=true:=decide_eq_true U;clear E q D U;go_wp2_with fail
    refine y.out.mono ?_;rintro e L ⟨rfl,rfl⟩;go_wp2_with fail
    refine s.out.mono ?_;rintro e L ⟨rfl,rfl⟩;go_wp2_with (at_builtin;refine Zm rfl (.tmp 33) (.tmp 36) _ rfl w.heap.size 3 Zbb underlying54 rfl (by decide) #[.int .i64 ((m+u+a)%10)] _ _ _ rfl k.out rfl rfl rfl (by simp[Y1]) (by simp only[maxLen];omega) (by omega) hz ?_;intro v' w7 g P r z;obtain⟨V,K,rfl⟩:=Zc g)
    go_roundw
    case rel=>exact⟨i+1,(m+u+a)/10,V,K,o++[(m+u+a)%10],by omega,by go_num,rfl,rfl,I.out.1,F,Ya (by rw[Yd,f.out];rfl),Ya (Zdy t.out I.out.2),J,Ya (by rw[Yay];exact g),Ya (b.out.trans r)⟩
    case measure=>simp[intOf] <;> omega
  .have q:¬i<N:=λ h=>E (.inl h)
   have D:¬i<j:=λ h=>E (.inr (.inl h))
   have U:m=0:=by have:¬0<m:=λ h=>E (.inr (.inr h));omega
   subst U;have Q:=Ya (show dvB 10 o=dvB 10 l+dvB 10 n by
    have:=hv.out;rw[Int.mul_zero,Ybc,Yar (by omega),Yar (by omega)] at this;exact this)
   have d1:decide ((i:Int)<(N:Int))=false:=decide_eq_false (by omega);have d2:decide (i<N)=false:=decide_eq_false q;have d3:decide ((i:Int)<(j:Int))=false:=decide_eq_false (by omega);have d4:decide (i<j)=false:=decide_eq_false D;clear E q D hN G;go_wp2_with fail
   go_ret
   exact⟨X,i,c2,o,rfl,hi,t.out,Q.out,f.out.symm,k.out,b.out⟩
structure DigW (w:World)(lo:Nat)(x:Int)(A:Option Addr)(N c:Nat)(l:List Int):Prop where
 cn:Cn 10 l x
 len:N=l.length
 at_:Ints w w.heap.size A l
 nil:A=none->N=0
 cap:N<=c
 new:∀b off s,A=some ⟨b,off,s⟩->lo<=b
theorem DigW.below {w w':World}{lo:Nat}{x:Int}{A:Option Addr}{N c:Nat}{l:List Int}(h:DigW w lo x A N c l)(a:Below w.heap.size w w'):DigW w' lo x A N c l:=⟨h.cn,h.len,(h.at_.below a).more a.size,h.nil,h.cap,h.new⟩
theorem DigW.more {w:World}{lo a:Nat}{x:Int}{A:Option Addr}{N c:Nat}{l:List Int}(h:DigW w lo x A N c l)(d:a<=lo):DigW w a x A N c l:=⟨h.cn,h.len,h.at_,h.nil,h.cap,λ b off s e=>Ym d (h.new b off s e)⟩
def Z4f (w:World)(N:Nat)(v:Int)(e:Ending)(w':World):Prop:=∃(A':Option Addr)(k c':Nat)(ds:List Int),e=.returned (.slice A' k c')/\k<=N/\DigW w' w.heap.size v A' k c' ds/\Below w.heap.size w w'
theorem Zyd (A A':Option Addr)(N c W c':Nat)(l v:List Int)(x y:Int)(hN:N=l.length)(G:W=v.length)(w:World)(B:Nat)(hB:B<=w.heap.size)(h:Ints w B A l)(h':Ints w B A' v)(hl:N<=100000)(hx:Cn 10 l x)(hy:Cn 10 v y)(K:y<=x) :
 Calls prog 129 #[.slice A N c,.slice A' W c'] w (Z4f w N (x-y)):=by
 have T:W<=N:=by rw[hN,G];exact Zm7 hx hy K
 have HN:=Ya hN;have U:=Ya G;have H:=Ya h;have H':=Ya h';have Hx:=Ya hx;have Hy:=Ya hy;have a1:=Ya K;clear h h' hx hy hN G K;go_enter func129,ntmps129
 go_wp2_with fail
 go_loopw [5,6,7] (λ v5 v6 Z wr=>∃(i:Nat)(m:Int)(D:Option Addr)(c2:Nat)(o:List Int),i<=N/\Z=.int .i64 i/\v6=.int .i64 m/\v5=.slice D i c2/\(0<=m/\m<=1)/\Hid (o.length=i)/\Hid (DgB 10 o)/\Hid (dvB 10 o-10^i*m=dvB 10 (l.take i)-dvB 10 (v.take i))/\Hid (wr.ownsRow w.heap.size 3 1 (.slice D i c2) i (o.map (Ys .i64)))/\Hid (Below w.heap.size w wr)) (λ _ _ Z _=>N-(intOf Z).toNat)
 case atStart=>exact⟨0,0,none,0,[],Yae _,rfl,rfl,rfl,by omega,Ya rfl,Ya (λ d hd=>by cases hd),Ya (by show(0:Int)-1*0=0-0;omega),Ya (Yaf _ _ _ _),Ya (Yh _ _)⟩
 case round =>
  obtain⟨i,m,D,c2,o,hi,rfl,rfl,rfl,hm,a,r,hv,f,j⟩:=hrel;have hz:=j.out.size;by_cases c0:i<N
  .have HD1:=Ya (Zm9 A N c i l HN.out wr B (H.out.below (j.out.mono hB)) (by omega))
   have F:=Ya (Zm9 A' W c' i v U.out wr B (H'.out.below (j.out.mono hB)) (by omega));have E:=Zb8 (by decide) Hx.out.1 i;have q:=Zb8 (by decide) Hy.out.1 i;have X:=Ya (λ(x' O:Int) (a2:x'-10*O=(l.getD i 0-v.getD i 0)-m)=>(show dvB 10 (o++[x'])-10^(i+1)*O=dvB 10 (l.take (i+1))-dvB 10 (v.take (i+1)) by
    rw[Z00 a.out hv.out a2,Zbv,Zbv,Int.mul_sub];omega))
   obtain⟨u,hu⟩:∃x,x=l.getD i 0:=⟨_,rfl⟩
   obtain⟨k,P⟩:∃x,x=v.getD i 0:=⟨_,rfl⟩
   rw[<- hu] at E X HD1;rw[<- P] at q X F;have e2:IntKind.i64.wrap ((i:Int)+1)=(i:Int)+1:=by rw[Yi _ (by omega)]
   have e4:IntKind.i64.wrap (u-k)=u-k:=by rw[Yi _ (by omega)]
   have e5:IntKind.i64.wrap (u-k-m)=u-k-m:=by rw[Yi _ (by omega)]
   have d1:decide ((i:Int)<(N:Int))=true:=decide_eq_true (by omega);have d2:decide (i<N)=true:=decide_eq_true c0;clear hu P;by_cases cn:u-k-m<0
   .have d3:decide (u-k-m<0)=true:=decide_eq_true cn
    have e6:IntKind.i64.wrap (u-k-m+10)=u-k-m+10:=by rw[Yi _ (by omega)]
    have Hq:=Ya (show 0<=u-k-m+10/\u-k-m+10<10 by omega);have I:=Ya (X.out (u-k-m+10) 1 (by omega));clear cn E q;go_wp2_with fail
    refine HD1.out.mono ?_;rintro e wx ⟨rfl,rfl⟩;go_wp2_with fail
    refine F.out.mono ?_;rintro e wx ⟨rfl,rfl⟩;go_wp2_with (at_builtin;refine Zm rfl (.tmp 28) (.tmp 30) _ rfl w.heap.size 3 Zbb underlying54 rfl (by decide) #[.int .i64 (u-k-m+10)] _ _ _ rfl f.out rfl rfl rfl (by simp[Y1]) (by simp only[maxLen];omega) (by omega) hz ?_;intro v' w7 p a0 J R;obtain⟨A8,Y,rfl⟩:=Zc p)
    go_roundw
    case rel=>exact⟨i+1,1,A8,Y,o++[u-k-m+10],by omega,by go_num,rfl,rfl,by omega,Ya (by rw[Yd,a.out];rfl),Ya (Zdy r.out Hq.out),I,Ya (by rw[Yay];exact p),Ya (j.out.trans J)⟩
    case measure=>simp[intOf] <;> omega
   .have d3:decide (u-k-m<0)=false:=decide_eq_false cn
    have Hq:=Ya (show 0<=u-k-m/\u-k-m<10 by omega);have I:=Ya (X.out (u-k-m) 0 (by omega));clear cn E q;go_wp2_with fail
    refine HD1.out.mono ?_;rintro e wx ⟨rfl,rfl⟩;go_wp2_with fail
    refine F.out.mono ?_;rintro e wx ⟨rfl,rfl⟩;go_wp2_with (at_builtin;refine Zm rfl (.tmp 28) (.tmp 30) _ rfl w.heap.size 3 Zbb underlying54 rfl (by decide) #[.int .i64 (u-k-m)] _ _ _ rfl f.out rfl rfl rfl (by simp[Y1]) (by simp only[maxLen];omega) (by omega) hz ?_;intro v' w7 p a0 J R;obtain⟨A8,Y,rfl⟩:=Zc p)
    go_roundw
    case rel=>exact⟨i+1,0,A8,Y,o++[u-k-m],by omega,by go_num,rfl,rfl,by omega,Ya (by rw[Yd,a.out];rfl),Ya (Zdy r.out Hq.out),I,Ya (by rw[Yay];exact p),Ya (j.out.trans J)⟩
    case measure=>simp[intOf] <;> omega
  .have hie:i=N:=by omega
   subst hie;have n:dvB 10 o-10^i*m=x-y:=by
    have h1:=hv.out;rw[Yar (by rw[<- HN.out];exact Yb _),Yar (by rw[<- U.out];exact T),Hx.out.2.2,Hy.out.2.2] at h1;exact h1
   have V:m=0:=by
    have h2:=Ze7 (b:=10) (by decide) r.out;rw[a.out] at h2;have h3:=a1.out;refine Y_c λ c=>?_
    have:m=1:=by omega
    rw[this,Int.mul_one] at n;omega
   have Q:=Ya (show dvB 10 o=x-y by rw[V,Int.mul_zero,Int.sub_zero] at n;exact n);have d1:decide ((i:Int)<(i:Int))=false:=by simp
   have HI:=Ya (show Ints wr wr.heap.size D o from Ints.of_own f.out);have z:=Ya (Zbt f.out);have t:=Ya (Zds f.out);have a3:=Ya (f.out.lt);clear n V c0;go_wp2_with fail
   refine(Zsc D i c2 o a.out.symm _ _ HI.out (by omega) z.out t.out).mono ?_;rintro e w2 ⟨m2,n2,L,rfl,rfl⟩;have Hm:=Ya L;have C:=L.1;rw[a.out] at C;clear L;go_wp2_with fail
   go_ret
   have M:=Zlj r.out Hm.out;rw[Q.out] at M;refine⟨D,m2,c2,o.take m2,rfl,C,⟨M,by rw[Yr,a.out];omega,(HI.out.take_ m2).below (below_drewN (Yh _ _) n2),λ e=>by have:=z.out e;omega,by have:=t.out;omega,λ b off s e=>?_⟩,below_drewN j.out n2⟩;obtain⟨g,hg⟩:∃g,(Ybb D i c2).ownBlock=some g:=⟨b,by rw[e];rfl⟩
   have e2:b=g:=by rw[e] at hg;exact Option.some.inj hg
   rw[e2];exact(a3.out g hg).1
def Zhd (w:World)(z:Int)(K:Nat)(e:Ending)(w':World):Prop:=∃(neg':Bool)(A':Option Addr)(m c':Nat)(l':List Int),e=.returned (Zx neg' A' m c')/\m<=K/\NumW w' w'.heap.size z neg' A' m c' l'/\Below w.heap.size w w'/\∀b off,A'=some ⟨b,off,none⟩->w.heap.size<=b
def Z4g (w:World)(z:Int)(K:Nat)(e:Ending)(w':World):Prop:=∃(neg':Bool)(A':Option Addr)(m c':Nat)(l':List Int),e=.returned (Zx neg' A' m c')/\m<=K/\NumW w' w'.heap.size z neg' A' m c' l'/\Below w.heap.size w w'
theorem Zhe (neg:Bool)(A:Option Addr)(N c:Nat)(l:List Int)(f:N=l.length)(w:World)(B:Nat)(h:Ints w B A l)(b:B<=w.heap.size)(n:N<=1000000)(hA:A=none->N=0)(i:N<=c)(g:DgB 10 l) :
 Calls prog 49 #[.bool neg,.slice A N c] w λ e w'=>∃(neg':Bool)(m:Nat)(k:List Int),e=.returned (Zx neg' A m c)/\m<=N/\NumW w' B (tz neg l) neg' A m c k/\Below w.heap.size w w':=by
 refine(Zsd neg A N c l f w B h b n hA i).mono ?_;rintro e w' ⟨m,hm,rfl,d⟩;have j:=hm.1;have a:(l.take m).length=m:=by rw[Yr];omega
 exact⟨_,m,l.take m,rfl,by omega,⟨Zmf g hm,a.symm,by omega,(h.take_ m).below (d.mono b),λ e=>by have:=hA e;omega,by omega⟩,d⟩
theorem Zaq {w:World}{B g:Nat}{z:Int}{neg:Bool}{A:Option Addr}{m c:Nat}{l:List Int}(h:NumW w B z neg A m c l)(f:B<=w.heap.size)(a:∀b off,A=some ⟨b,off,none⟩->b≠g)(d e:Value) :
 NumW ((w.setCell ⟨g,0,none⟩ d).setCell ⟨g,1,none⟩ e) ((w.setCell ⟨g,0,none⟩ d).setCell ⟨g,1,none⟩ e).heap.size z neg A m c l :=
 ⟨h.z,h.len,h.few,((h.at_.set a d).set a e).more (Ym f (((Yh 0 w).setCell (Yae _) _).setCell (Yae _) _).size),h.nil,h.cap⟩
theorem Zye {w:World}{B g:Nat}{z:Int}{neg:Bool}{A:Option Addr}{m c:Nat}{l:List Int}(h:NumW w B z neg A m c l)(e:B<=w.heap.size)(hg:B<=g)(a b:Value) :
 NumW ((w.setCell ⟨g,0,none⟩ a).setCell ⟨g,1,none⟩ b) ((w.setCell ⟨g,0,none⟩ a).setCell ⟨g,1,none⟩ b).heap.size z neg A m c l:=by
 have d:=((Yh B w).setCell (p:=⟨g,0,none⟩) hg a).setCell (p:=⟨g,1,none⟩) hg b;exact⟨h.z,h.len,h.few,(h.at_.below d).more (Ym e d.size),h.nil,h.cap⟩
theorem Z10 (neg:Bool)(A:Option Addr)(N c:Nat)(l:List Int)(hN:N=l.length)(w:World)(h:Reads w w.heap.size A (l.map (Ys .u16)))(hl:N<=1000)(U:DgB 65536 l) :
 Calls prog 19 #[.bool neg,.slice A N c] w (Zhd w (if neg=true then -dvB 65536 l else dvB 65536 l) (5*N)):=by
 have T:=Ya hN;have H:=Ya h;have Hd:=Ya U;obtain⟨Z,X⟩:∃Z,Z=(if neg=true then -dvB 65536 l else dvB 65536 l):=⟨_,rfl⟩
 rw[<- X];have HZ:=Ya X;clear hN h U X;have b5:IntKind.i64.wrap ((N:Int)-1)=(N:Int)-1:=by rw[Yi _ (by omega)]
 go_enter func19,ntmps19
 go_wp2_with fail
 go_loopw [5,6] (λ v5 v6 wr=>∃(k:Int)(n:Option Addr)(q c2:Nat)(p:List Int),0-1<=k/\k<N/\v6=.int .i64 k/\v5=.slice n q c2/\Hid ((q:Int)+5*(k+1)<=5*N)/\Hid (q=p.length)/\Hid (DgB 10 p)/\Hid (dvB 10 p=dvB 65536 (l.drop (k+1).toNat))/\Hid (Ints wr wr.heap.size n p)/\Hid (n=none->q=0)/\Hid (q<=c2)/\Hid (∀b off,n=some ⟨b,off,none⟩->w.heap.size<b)/\Hid (Below w.heap.size w wr)/\Hid (wr.heap[w.heap.size]?=some (.cells #[.bool false,.slice none 0 0] 56 (0,0)))) (λ _ v6 _=>(intOf v6+1).toNat)
 case atStart =>
  refine⟨(N:Int)-1,none,0,0,[],by omega,by omega,rfl,rfl,Ya (by omega),Ya rfl,Ya (λ d U=>by cases U),Ya ?_,Ya (λ hp=>by simp at hp),Ya (λ _=>rfl),Ya (Yb _),Ya (λ b off e=>by cases e),Ya ((Yh _ _).alloc (Yb _) _),Ya (heap_alloc_new w _)⟩;rw[show((N:Int)-1+1).toNat=N by omega,List.drop_eq_nil_of_le (by rw[<- T.out];exact Yb _)];rfl
 case round =>
  obtain⟨k,n,q,c2,p,V,a8,rfl,rfl,W,G,Q,hv,g,B,R,D,j,f⟩:=hrel;have o:w.heap.size<wr.heap.size:=(Array.getElem?_eq_some_iff.1 f.out).1;by_cases c0:0<=k
  .obtain⟨i,rfl⟩:=Int.eq_ofNat_of_zero_le c0
   have hi:i<N:=by omega
   obtain⟨b,off,a5,b3,J⟩:=(H.out.below j.out) (by rw[List.length_map,<- T.out];omega)
   obtain⟨u,F⟩:∃x,x=l.getD i 0:=⟨_,rfl⟩
   have L:=J i (.int .u16 u) (by rw[List.getElem?_map,Yf (by rw[<- T.out];exact hi),F,Ye,Yf (by rw[<- T.out];exact hi)];rfl);have E:=Zb8 (by decide) Hd.out i;rw[<- F] at E;have Hu:=Ya F;have e2:IntKind.i64.wrap ((i:Int)-1)=(i:Int)-1:=by rw[Yi _ (by omega)]
   have e3:IntKind.i64.wrap (i:Int)=(i:Int):=by rw[Yi _ (by omega)]
   have e4:IntKind.i64.wrap u=u:=by rw[Yi _ (by omega)]
   have i3:(i:Int)<(N:Int):=by omega
   have i4:(0:Int)<=(i:Int):=by omega
   have b4:b<wr.heap.size:=by omega
   have C:q<=100000:=by have:=W.out;omega
   have a1:=Ya (show dvB 10 p*65536+u=dvB 65536 (l.drop i) by
    have:=hv.out;rw[show((i:Int)+1).toNat=i+1 by omega] at this;rw[Ze8 l i,this,<- F];omega)
   subst a5;clear F J;go_wp2_with fail
   refine(Zm8 n q c2 p 65536 u G.out wr wr.heap.size (Yb _) g.out C Q.out (by decide) ⟨E.1,by omega⟩).mono ?_;rintro e z ⟨A3,k3,c3,es,rfl,a9,t,M,K,O,y⟩;have a7:=Ya (j.out.trans (y.mono (Ya3 o)));have r:=Ya O;have a6:=Ya t;have a2:=Ya M;have Y:=Ya K;have P:=Ya ((y.block w.heap.size o).trans f.out);have b1:=W.out;clear O t M y K;go_wp2_with fail
   go_roundw
   case rel =>
    refine⟨(i:Int)-1,A3,k3,c3,es,by omega,by omega,by go_num,rfl,Ya (by omega),Y,a6,Ya ?_,Ya (Ints.of_own r.out),Ya (Zbt r.out),Ya (Zds r.out),Ya (λ b off e=>?_),a7,P⟩
    .rw[a2.out,a1.out,show((i:Int)-1+1).toNat=i by omega]
    .subst e
     have:=(r.out.lt b rfl).1;omega
   case measure=>simp[intOf] <;> omega
  .have ek:k=-1:=by omega
   subst ek;have I:=Ya (show tz neg p=Z by
    have:=hv.out;rw[show((-1:Int)+1).toNat=0 by decide,Yak] at this;rw[HZ.out];exact Zq0 this)
   have C:q<=5*N:=by have:=W.out;omega
   clear c0 V a8;go_wp2_with fail
   refine(Zhe neg n q c2 p G.out wr wr.heap.size g.out (Yb _) (by omega) B.out R.out Q.out).mono ?_;rintro e z ⟨neg',m,l',rfl,hm,hn,s⟩;have Hn:=Ya hn;have a3:=Ya s;have a:=(s.block w.heap.size o).trans f.out;have a0:=s.size;have a4:z.cell? ⟨w.heap.size,0,none⟩=some (.bool false):=by rw[Yc a];rfl
   have L:z.cell? ⟨w.heap.size,1,none⟩=some (.slice none 0 0):=by rw[Yc a];rfl
   have b2:z.frozen? ⟨w.heap.size,0,none⟩=false:=frozen_of_row z w.heap.size 0 _ _ a;have b0:z.frozen? ⟨w.heap.size,1,none⟩=false:=frozen_of_row z w.heap.size 1 _ _ a;clear hn s;unfold Zx;go_wp2_with fail
   refine bodyPost_ret (v:=Zx neg' n m c2) (by simp[results,results19,go_sem,Zx,a4,L]) rfl ?_;refine⟨neg',n,m,c2,l',rfl,by omega,?_,((j.out.trans (a3.out.mono (Ya3 o))).setCell (Yb _) _).setCell (Yb _) _,λ b off e=>Ya3 (D.out b off e)⟩;rw[<- I.out];exact Zaq Hn.out a0 (λ b off e=>by have:=D.out b off e;omega) _ _
theorem Z7x (neg:Bool)(A:Option Addr)(N c:Nat)(l:List Int)(z:Int)(w:World)(B:Nat)(j:B<=w.heap.size)(h:NumW w B z neg A N c l) :
 Calls prog 130 #[Zx neg A N c] w (Z4g w (-z) N):=by
 have s:=Ya (Zgs h.z);have H:=Ya h;clear h;unfold Zx;go_enter func130,ntmps130
 go_wp2_with fail
 refine(Zhe (!neg) A N c l H.out.len _ B ?_ ?_ H.out.few H.out.nil H.out.cap H.out.z.1.1).mono ?_
 .exact H.out.at_.below (Zax j _ _)
 .exact Ym j (Zax (Yb _) _ _).size
 rintro e g ⟨neg',m,u,rfl,hm,r,d⟩;have k:=(Zax (Yb w.heap.size) (.cells #[.bool neg,.slice A N c] 56) (.cells #[.bool false,.slice none 0 0] 56)).size;have n:=Zax (Yb w.heap.size) (.cells #[.bool neg,.slice A N c] 56) (.cells #[.bool false,.slice none 0 0] 56);have f:((w.alloc (.cells #[.bool neg,.slice A N c] 56)).alloc (.cells #[.bool false,.slice none 0 0] 56)).heap.size=w.heap.size+2:=by simp
 have b:=heap_alloc_new (w.alloc (.cells #[.bool neg,.slice A N c] 56)) (.cells #[.bool false,.slice none 0 0] 56);rw[show(w.alloc (.cells #[.bool neg,.slice A N c] 56)).heap.size=w.heap.size+1 by simp] at b;have t:=Ya r;have i:=Ya (n.trans (d.mono n.size));have a:=(d.block (w.heap.size+1) (by rw[f];omega)).trans b;have p:=d.size;rw[f] at p;have q:g.cell? ⟨w.heap.size+1,0,none⟩=some (.bool false):=by rw[Yc a];rfl
 have o:g.cell? ⟨w.heap.size+1,1,none⟩=some (.slice none 0 0):=by rw[Yc a];rfl
 have hf0:g.frozen? ⟨w.heap.size+1,0,none⟩=false:=frozen_of_row g (w.heap.size+1) 0 _ _ a;have x:g.frozen? ⟨w.heap.size+1,1,none⟩=false:=frozen_of_row g (w.heap.size+1) 1 _ _ a;have y:w.heap.size+1<g.heap.size:=by omega
 clear r d b f n k;unfold Zx;go_wp2_with fail
 refine bodyPost_ret (v:=Zx neg' A m c) (by simp[results,results130,go_sem,Zx,q,o]) rfl ?_;refine⟨neg',A,m,c,u,rfl,hm,?_,(i.out.setCell (Ycm _) _).setCell (Ycm _) _⟩;have e:tz (!neg) l=-z:=by
  have:=s.out.1;unfold tz at this⊢
  cases neg <;> simp at this⊢ <;> omega
 rw[<- e];exact Zye t.out (Ym j i.out.size) (Nat.le_succ_of_le j) _ _
