/- Parts. -/
import Derived.Test.YtfhiobkkdcdmiaaGreatDoorZKBt
set_option linter.all false
set_option maxHeartbeats 4000000
open Go.Lib renaming hid->Ya
open Nat renaming le_refl->Yb,lt_of_lt_of_le->Yy,le_trans->Y8
open List renaming length_append->Yd,getD_eq_getElem?_getD->Ye,getElem?_eq_getElem->Yf,length_cons->Yi,replicate->Ys,mem_cons_self->Yu,mem_cons->Yz,mem_append->Y0,getElem?_map->Y3,mem_singleton->Yab,length_map->Yac,not_mem_nil->Yap,map_append->Yau,take_succ_cons->Yav,drop_succ_cons->Yaw,drop_zero->Yaz,take_zero->Ya2,mem_append_left->Ya5,getElem_mem->Ya7,all_eq_true->Ya9,mem_append_right->Ybh,map_cons->Ybz,getElem?_cons_succ->Yc0
open Go.RowKit.Below renaming refl->Yh
open Go.IntWalk renaming i64_in->Yk,u32_in->Ya6
open Go.Value renaming int->Yr,oneCell'->Y6,slice->Ybr
namespace Go.Proofs.YtfhiobkkdcdmiaaGreatDoor
open Go.RowKit
set_option maxRecDepth 100000
theorem Z6h {w:World}{base:Nat}{e:TypeId}{A:Option Addr}{n c:Nat}{nm:ByteArray}{xs:List S.Item}{g:Option Nat}(h:w.ownsRow base e 8 (.slice A n c) n (xs.flatMap Zc))(hn:n=xs.length)(hw:∀x∈xs,0<=x.word/\x.word<=4294967295)(hg:∀k,g=some k->k<base)(h1:nm.size<=maxLen)(h2:∀y∈xs,y.label.size<=maxLen):OCg w g [⟨nm,xs⟩] [.string nm,.slice A n c]:=by
 refine⟨rfl,by simp[Y6],λ i y hy=>?_⟩
 cases i with
 | succ i=>cases hy
 | zero =>
  cases hy
  refine⟨A,c,rfl,by subst hn;rfl,λ hp=>?_,h1,h2⟩;have hp':0<xs.length:=hp;obtain⟨b,off,e,hb,hc⟩:=Items.of_own h hw hp';have hn0:0<n*8:=by omega
  obtain⟨g0,e0,q1,q2,_⟩:=Z6 h (by rw[hn];exact hp')
  cases e0
  cases e
  exact⟨_,_,rfl,hb,λ e=>by have:=hg _ e.symm;omega,hc⟩
theorem Z0h (op:Int):(∀x∈S.callItems op,0<=x.word/\x.word<=4294967295)/\∀x∈S.callItems op,x.label.size<=100:=by
 have hk:(S.kRt op).size<=100:=by
  have:=Zk2 op
  show([114,116]++S.itoa op).toArray.size<=100
  simp;omega
 refine⟨λ x hx=>?_,λ x hx=>?_⟩
 all_goals
  unfold S.callItems at hx;simp only[Yz,Yap,or_false] at hx;rcases hx with rfl|rfl|rfl|rfl|rfl|rfl|rfl|rfl
 all_goals first|decide|exact hk | (show(0:Int)<=0/\(0:Int)<=4294967295;decide)
def Z43 (w:World)(op half:Int)(e:Ending)(w':World):Prop :=
 ∃F a b p FF,S.az op F half a/\e=.returned (.tuple #[.pointer (some ⟨b,0,none⟩),.bool true])/\NAt w' w.heap.size b p FF (a+4) half (a+3) (a+4) ((S.ag (S.nL op F) half).goV (a+1))/\Below w.heap.size w w'
theorem Z2r (op half:Int)(hop:S.isOp op)(hh:1<=half/\half<=1000000)(w:World)(hL:LVE w):Calls Tryz.prog 9 #[.int .i64 op,.int .i64 half] w (Z43 w op half):=by
 have HLV:=Ya hL;have HO:=Ya hop;clear hL hop;go_enter Tryz.func9,Tryz.ntmps9
 go_wp2_with fail
 refine(Z4e (λ _=>none) w [] (λ b k h=>by cases h) HLV.out (by rw[RepT])).mono ?_;rintro e w1 ⟨v1,H1,rfl,hb1,-,hH1,hr1,-⟩
 replace hH1:∀b k,H1 b=some k->b<w1.heap.size:=λ b k h=>(hH1 b k h).lt
 rw[RepV] at hr1;obtain⟨vs1,rfl,hl1⟩:=hr1;have hoc1:=Zov (os:=[S.oLow]) hH1 hl1 (Zme Z4f);obtain⟨A1,c1,z0,z1,_,_,_⟩:=hoc1.at_ 0 S.oLow rfl;have hv1:vs1=[.string S.kLow,.slice A1 5 c1]:=by
  have hlen:=hoc1.len
  match vs1,hlen,z0,z1 with
  | [a,b],_,z0,z1 =>
   simp at z0 z1;rw[z0,z1];rfl
 subst hv1;have Hoc1:=Ya hoc1;have Hb1:=Ya hb1;have hz1:=hb1.size;clear hoc1 hb1 hl1 z0 z1 hH1;go_wp2_with fail
 have ho2:(w1.alloc (.cells #[.string S.kLow,.slice A1 5 c1] 70)).ownsRow w1.heap.size 70 2 (.slice (some ⟨w1.heap.size,0,none⟩) 1 1) 1 [.string S.kLow,.slice A1 5 c1]:=Zmd (Yb _) rfl rfl (by simp[maxLen]);have hx2:=(Yh w1.heap.size w1).alloc (Yb _) (.cells #[.string S.kLow,.slice A1 5 c1] 70);have hz2:(w1.alloc (.cells #[.string S.kLow,.slice A1 5 c1] 70)).heap.size=w1.heap.size+1:=by simp
 have Hoc2:=Ya ((Hoc1.out.g (g:=some w1.heap.size) (Yb _) (λ k e=>by cases e;exact Yb _)).below hx2);have Hb2:=Ya (Hb1.out.trans (hx2.mono hz1));have Ho2:=Ya ho2;generalize w1.alloc (.cells #[.string S.kLow,.slice A1 5 c1] 70)=w2 at *;have Hx2:=Ya hx2;clear ho2 hx2;refine(Zs7 (λ _=>none) w2 [.int .i64 0] (λ b k h=>by cases h) (HLV.out.on Hb2.out) (by rw[RepT];exact⟨_,_,rfl,by rw[RepV],by rw[RepT]⟩)).mono ?_;rintro e w3 ⟨v3,H3,rfl,hb3,hO3,hH3,hr3,ht3⟩
 replace hH3:∀b k,H3 b=some k->b<w3.heap.size:=λ b k h=>(hH3 b k h).lt
 obtain⟨xs3,hl3,ho3,-⟩:=Zmc (ht3 _ rfl) hr3 (.inl ⟨rfl,rfl⟩) (by kernel_rfl);have Hoc3:=Ya (Zgv (g:=some w1.heap.size) (λ b k hk=>⟨hH3 b k hk,λ e=>by
  have e':b=w1.heap.size:=Option.some.inj e;rw[hO3 b (by omega)] at hk
  cases hk⟩) hl3 (λ x hx=>Zme Zro x (Ya5 _ hx)))
 obtain⟨A3,c3,rfl⟩:=Zb ho3;have Ho3:=Ya ho3;have Hx3:=Ya (Hx2.out.trans (hb3.mono (by omega)));have Hb3:=Ya (Hb2.out.trans (hb3.mono (by omega)));have Hoc2b:=Ya (Hoc2.out.below hb3);have Ho2b:=Ya (Zd Ho2.out hb3);have hz3:=hb3.size;have hlen26:S.objs26.length=15:=by kernel_rfl
 have hxs3:xs3.length=15*2:=by rw[Hoc3.out.len,hlen26]
 clear hr3 ht3 hl3 ho3 hH3 hO3 hb3 Hoc2 Ho2;go_wp2_with (at_builtin;refine Zad rfl (.tmp 14) (.tmp 15) _ rfl w1.heap.size 70 Zek Tryz.underlying65 rfl (by decide) _ _ _ rfl Ho2b.out w3.heap.size A3 15 c3 xs3 rfl hxs3 (Zgk Ho3.out) (Zba Ho3.out) Hoc3.out.one (by simp only[maxLen];omega) (by omega) (by omega) ?_;intro v' w4 ho4 hg4 hb4 hat4;have Hoc4:=Ya ((Hoc2b.out.app Hoc3.out).grow hg4 (hat4.imp (λ h=>h) λ h=>⟨_,h,Yb _⟩));obtain⟨A4,c4,rfl⟩:=Zb ho4)
 have Ho4:=Ya ho4;have Hb04:=Ya (Hb3.out.trans (hb4.mono hz1));have Hx4:=Ya (Hx3.out.trans hb4);have hz4:=hb4.size;clear hg4 hb4 hat4 ho4 Hoc2b Ho2b;refine(Zpv (λ _=>none) w4 [] (λ b k h=>by cases h) (HLV.out.on Hb04.out) (by rw[RepT])).mono ?_;rintro e w5 ⟨v5,H5,rfl,hb5,hO5,hH5,hr5,ht5⟩
 replace hH5:∀b k,H5 b=some k->b<w5.heap.size:=λ b k h=>(hH5 b k h).lt
 obtain⟨xs5,hl5,ho5,-⟩:=Zmc (ht5 _ rfl) hr5 (.inl ⟨rfl,rfl⟩) (by kernel_rfl);have hlt4:∀k,(Ybr A4 (1+15) c4).ownBlock=some k->k<w4.heap.size:=λ k hk=>by
  obtain⟨g0,e0,q1,q2,_⟩:=Z6 Ho4.out (by decide)
  cases e0
  have e1:g0=k:=Option.some.inj hk;omega
 have Hoc5:=Ya (Zgv (g:=(Ybr A4 (1+15) c4).ownBlock) (λ b k hk=>⟨hH5 b k hk,λ e=>by
  have hlt:=hlt4 b e.symm;rw[hO5 b hlt] at hk
  cases hk⟩) hl5 (λ x hx=>Zme Zq6 x hx))
 obtain⟨A5,c5,rfl⟩:=Zb ho5;have Ho5:=Ya ho5;have Hb05:=Ya (Hb04.out.trans (hb5.mono (by omega)));have Hx5:=Ya (Hx4.out.trans (hb5.mono (by omega)));have Hoc4b:=Ya (Hoc4.out.below hb5);have Ho4b:=Ya (Zd Ho4.out hb5);have hz5:=hb5.size;have hlen27:S.objs27.length=22:=by kernel_rfl
 have hxs5:xs5.length=22*2:=by rw[Hoc5.out.len,hlen27]
 clear hr5 ht5 hl5 ho5 hH5 hO5 hb5 Hoc4 Ho4 hlt4 Hoc3 Ho3 hxs3;go_wp2_with (at_builtin;refine Zad rfl (.tmp 17) (.tmp 18) _ rfl w1.heap.size 70 Zek Tryz.underlying65 rfl (by decide) _ _ _ rfl Ho4b.out w5.heap.size A5 22 c5 xs5 rfl hxs5 (Zgk Ho5.out) (Zba Ho5.out) Hoc5.out.one (by simp only[maxLen];omega) (by omega) (by omega) ?_;intro v' w6 ho6 hg6 hb6 hat6;have Hoc6:=Ya ((Hoc4b.out.app Hoc5.out).grow hg6 (hat6.imp (λ h=>h) λ h=>⟨_,h,Yb _⟩));obtain⟨A6,c6,rfl⟩:=Zb ho6)
 have Ho6:=Ya ho6;have Hb06:=Ya (Hb05.out.trans (hb6.mono hz1));have Hx6:=Ya (Hx5.out.trans hb6);have hz6:=hb6.size;clear hg6 hb6 hat6 ho6 Hoc4b Ho4b;refine(Z10 op HO.out w6 (HLV.out.on Hb06.out)).mono ?_;rintro e w7 ⟨A7,c7,rfl,ho7,hb7⟩;have hlt6:∀k,(Ybr A6 (1+15+22) c6).ownBlock=some k->k<w6.heap.size:=λ k hk=>by
  obtain⟨g0,e0,q1,q2,_⟩:=Z6 Ho6.out (by decide)
  cases e0
  have e1:g0=k:=Option.some.inj hk;omega
 obtain⟨kb1,kb2⟩:=Z0h op;have Hoc7:=Ya (Z6h (nm:=S.kCall) (g:=(Ybr A6 (1+15+22) c6).ownBlock) ho7 rfl kb1 hlt6 (by decide) (λ y hy=>by have:=kb2 y hy;simp only[maxLen];omega));have Hb07:=Ya (Hb06.out.trans (hb7.mono (by omega)));have Hx7:=Ya (Hx6.out.trans (hb7.mono (by omega)));have Hoc6b:=Ya (Hoc6.out.below hb7);have Ho6b:=Ya (Zd Ho6.out hb7);have hz7:=hb7.size;clear ho7 hb7 Hoc6 Ho6 hlt6 kb1 kb2 Hoc5 Ho5 hxs5;go_wp2_with (at_builtin;refine Zt rfl (.tmp 19) (.tmp 22) _ rfl w1.heap.size 70 Zek Tryz.underlying65 rfl (by decide) #[.string S.kCall,.slice A7 8 c7] _ _ _ rfl Ho6b.out rfl rfl rfl (by simp[Y6]) (by simp only[maxLen];omega) (by omega) (by omega) ?_;intro v' w8 ho8 hg8 hb8 hat8;have Hoc8:=Ya ((Hoc6b.out.app Hoc7.out).grow hg8 (hat8.imp (λ h=>h) λ h=>⟨_,h,Nat.le_succ _⟩));obtain⟨A8,c8,rfl⟩:=Zb ho8)
 have hobjs:Objs w8 w8.heap.size A8 (S.nObjs op):=by
  have e:S.nObjs op=[S.oLow]++S.objs26++S.objs27++[⟨S.kCall,S.callItems op⟩]:=by
   show S.oLow::((S.objs26++S.objs27)++[S.oCall op])=_
   simp;rfl
  have hlen:(S.nObjs op).length=1+15+22+1:=by
   rw[e];simp only[Yd,hlen26,hlen27,Yi,List.length_nil]
  refine Zzm (base:=w1.heap.size) (e:=70) (c:=c8) (oc:=_) (by rw[hlen];exact ho8) ?_;rw[e];exact Hoc8.out.oc
 have hlen:(S.nObjs op).length=1+15+22+1:=by
  show((S.objs26++S.objs27)++[S.oCall op]).length+1=_
  rw[Yd,Yd,hlen26,hlen27];rfl
 have hlk:=Zvr A8 c8 (S.nObjs op) 0 w8 hobjs (by rw[hlen];omega) (Zd0 op) (λ k o ho x hx=>by
  have hm:o∈S.oLow::((S.objs26++S.objs27)++[S.oCall op]):=List.mem_of_getElem? ho;have key:∀(os:List S.Obj),S.ax os=true->o∈os->o.name.size+x.label.size<=9223372036854775807:=λ os hb hm=>by
   have h:=Ya9.1 hb o hm;simp only[Bool.and_eq_true] at h;have h1:=of_decide_eq_true h.1.2;have h2:=of_decide_eq_true (Ya9.1 h.2 x hx);omega
  rcases Yz.1 hm with rfl|hm
  .exact key [S.oLow] Z4f Yu
  .rcases Y0.1 hm with hm|hm
   .rcases Y0.1 hm with hm|hm
    .exact key _ Zro (Ya5 _ hm)
    .exact key _ Zq6 hm
   .rw[Yab] at hm
    subst hm;have h2:=(Z0h op).2 x hx;have h3:(S.oCall op).name.size<=100:=show S.kCall.size<=100 by decide
    omega)
 rw[hlen] at hlk;have HLK:=Ya hlk;have Hb08:=Ya (Hb07.out.trans (hb8.mono hz1));have hz08:=Hb08.out.size;clear hlk hobjs hlen hg8 hb8 hat8 ho8 Hoc7 Hoc6b Ho6b Hoc8;go_wp2_with fail
 refine HLK.out.mono ?_;rintro e w9 ⟨vo,vp,r,L,P,rfl,hres,ho9,hp9,hb9⟩;obtain⟨rfl,F,a,hwr,hLe,hPl,hfE,hfC,hfA⟩:=Z28 HO.out hh hres;have HLe:=Ya hLe;have hlenL:(L.length:Int)=a+4:=by rw[hLe];exact hwr.len
 have HLw:=Ya (show ∀x∈L,0<=x/\x<=4294967295 by rw[hLe];exact hwr.words);clear hLe;obtain⟨Aw,cw,rfl⟩:=Zb ho9;obtain⟨Ap,cp,rfl⟩:=Zb hp9;have HWr:=Ya hwr;have HFE:=Ya hfE;have HFC:=Ya hfC;have HFA:=Ya hfA;have HRd:=Ya (Reads.of_own ho9);have HRp:=Ya (ReadsP.of_own hp9);have HPb:=Ya (show ∀k o s,Ap=some ⟨k,o,s⟩->k<w9.heap.size from λ k o s e=>(hp9.lt k (by rw[e];rfl)).2);have hb09:=Hb08.out.trans (hb9.mono hz08);have hz9:=hb09.size;have hsm:=hwr.small;have ha0:=hwr.lab.a0;clear hres ho9 hp9 hb9 HLK hwr hfE hfC hfA hz08;obtain⟨x1,x2,x3⟩:=Zc7 w9 #[.slice Aw L.length cw,.slice Ap P.length cp] 86;go_upto_region 4 with fail
 generalize w9.alloc (.cells #[.slice Aw L.length cw,.slice Ap P.length cp] 86)=w10 at *;have hX0:w10.cell? ⟨w9.heap.size,0,none⟩=some (.slice Aw L.length cw):=by simp[World.cell?,x1]
 have hX1:w10.cell? ⟨w9.heap.size,1,none⟩=some (.slice Ap P.length cp):=by simp[World.cell?,x1]
 have hX10:w9.heap.size<w10.heap.size:=by omega
 have hb010:=hb09.trans (x2.mono (by omega));have hlo10:w.heap.size<=w10.heap.size:=hb010.size;have HRd10:=Ya ((HRd.out.below x2).moreM (by omega:w9.heap.size<=w10.heap.size));have HRp10:=Ya (HRp.out.below x2);obtain⟨NL,hNL⟩:=Yx L.length;have HNL:=Ya hNL;rw[<- hNL] at hX0 hlenL x1;rw[<- hNL];have HlenL:=Ya hlenL;have hNb:(NL:Int)<=30004:=by omega
 have hNb2:(1316:Int)<=NL:=by omega
 have HW10:=Ya x2;have HX1:=Ya x1;have Hb010:=Ya hb010;have hAtE:∀(W:World),ReadsP W w9.heap.size Ap P->Calls Tryz.prog 37 #[.slice Ap P.length cp,.string ⟨#[101,110,100]⟩] W λ e w'=>e=.returned (.int .i64 NL)/\w'=W:=λ W hR=>by
  have h:=Z6q Ap P.length cp w9.heap.size P rfl hPl S.kEnd W hR;rw[HFE.out] at h;have e:((some (a+4):Option Int).getD (-1))=(NL:Int):=HlenL.out.symm;rw[e] at h;exact h.mono λ _ _ q=>⟨q.1,q.2.symm⟩
 have HAtE:=Ya (λ n:Nat=>hAtE (w10.drewN n) (HRp10.out.below (below_drewN (Yh _ _) n)));have hbig:(NL:Int)+2*half<=3000000:=by omega
 clear hlenL;have HNw:=Ya (λ n:Nat=>show Calls Tryz.prog 38 #[.slice Aw NL cw,.int .i64 (NL+2*half),.slice none 0 0] (w10.drewN n) (Zqu (w10.drewN n) NL (NL+2*half) [] (Zkk L (NL+2*half).toNat [])) from by
  have:=Zye Aw none cw 0 L [] (NL+2*half) (w10.drewN n) (HRd10.out.below (below_drewN (Yh _ _) n)) (λ h=>by simp at h) (by rw[<- hNL];omega) (by decide) HLw.out (λ x hx=>by cases hx);rw[<- hNL] at this;exact this)
 clear x1 x2 x3 hNL HRd HRp hb010 hAtE hb09
 go_quiet ((go_at_call 37;exact Calls.quiet_of_same (HAtE.out _)))
 clear HAtE;have p1:IntKind.i64.wrap (2*half)=2*half:=Yk _ ⟨by omega,by omega⟩;have p2:IntKind.i64.wrap (NL+2*half)=NL+2*half:=Yk _ ⟨by omega,by omega⟩;have p3:IntKind.i64.wrap ((NL:Int)+half)=NL+half:=Yk _ ⟨by omega,by omega⟩;go_wp2_with fail
 refine(HNw.out _).mono ?_;rintro e w12 (⟨hno,-⟩|⟨-,p,vm,Ai,ci,rfl,hm,hb12,hA2⟩)
 .exact absurd (show Zik NL (NL+2*half) from⟨by omega,by omega,by omega⟩) hno
 have hb12':Below w10.heap.size w10 w12:=(below_drewN (Yh _ _) _).trans hb12;have hi12:=(hb12'.block w9.heap.size hX10).trans HX1.out;have HRp12:=Ya (HRp10.out.below (hb12'.mono (by omega)));have hz12:=hb12'.size;have HB12:=Ya (Hb010.out.trans (hb12'.mono hlo10));have HK:=Ya (Z4h (lo:=w.heap.size) (y:=w9.heap.size) (B:=w10.heap.size) hm hA2 hlo10 hX10 hi12 (HRp12.out.same' (by omega)) (λ k o s e=>by have:=HPb.out k o s e;omega));have HB:=Ya (HB12.out.alloc (Y8 hlo10 hz12) (.cells #[.pointer (some ⟨p,0,none⟩)] 40));clear hX0 hX1 hb12 hb12' hi12 hm hA2 HRp12 HRp10 HRd10 HNw HB12 Hb010;have hmf:=Y_f
 go_upto_region 8 with fail
 generalize w12.alloc (.cells #[.pointer (some ⟨p,0,none⟩)] 40)=w13 at *;generalize w12.heap.size=x at *;generalize w9.heap.size=y at *;obtain⟨FF,hFF⟩:=Yx (Za2 p vm (.slice none 0 0));rw[<- hFF] at HK;clear hFF;go_wp2_with fail
 refine(Znu 1 (2*half) HK.out ⟨by omega,by omega⟩).mono ?_;rintro e w14 ⟨rfl,hk,ho⟩;have HB2:=Ya (HB.out.trans (HK.out.lobelow HB.out.size ho));clear HK HB;have HK:=Ya hk;have HB:=HB2;clear hk HB2 ho;go_wp2_with fail
 refine(Znu 2 NL HK.out ⟨by omega,by omega⟩).mono ?_;rintro e w15 ⟨rfl,hk,ho⟩;have HB2:=Ya (HB.out.trans (HK.out.lobelow HB.out.size ho));clear HK HB;have HK:=Ya hk;have HB:=HB2;clear hk HB2 ho;go_wp2_with fail
 refine(Znu 3 (NL+half) HK.out ⟨by omega,by omega⟩).mono ?_;rintro e w16 ⟨rfl,hk,ho⟩;have HB2:=Ya (HB.out.trans (HK.out.lobelow HB.out.size ho));clear HK HB;have HK:=Ya hk;have HB:=HB2;clear hk HB2 ho;go_wp2_with fail
 refine(Znu 4 half HK.out ⟨by omega,by omega⟩).mono ?_;rintro e w17 ⟨rfl,hk,ho⟩;have HB2:=Ya (HB.out.trans (HK.out.lobelow HB.out.size ho));clear HK HB;have HK:=Ya hk;have HB:=HB2;clear hk HB2 ho;go_wp2_with fail
 refine(Znu 5 38 HK.out ⟨by omega,by omega⟩).mono ?_;rintro e w18 ⟨rfl,hk,ho⟩;have HB2:=Ya (HB.out.trans (HK.out.lobelow HB.out.size ho));clear HK HB;have HK:=Ya hk;have HB:=HB2;clear hk HB2 ho;obtain⟨c0,c1,c2⟩:=HK.out.cells;have hxl:=HK.out.xlt;go_wp2_with fail
 refine(Z4g 28 1056 HK.out ⟨by omega,by omega⟩).mono ?_;rintro e w19 ⟨rv,rfl,hk,ho⟩;have HB2:=Ya (HB.out.trans (HK.out.lobelow HB.out.size ho));clear HK HB c0 c1 c2 hxl;have HK:=Ya hk;have HB:=HB2;clear hk HB2 ho;have hAt:∀(W:World)(s:ByteArray)(v:Int),ReadsP W W.heap.size Ap P->S.findP P s=some v->Calls Tryz.prog 37 #[.slice Ap P.length cp,.string s] W λ e w'=>e=.returned (.int .i64 v)/\W=w':=λ W s v hR hv=>by
  have h:=Z6q Ap P.length cp W.heap.size P rfl hPl s W hR;rw[hv] at h;exact h
 have hv1:IntKind.u32.wrap (a+1)=a+1:=Ya6 _ ⟨by omega,by omega⟩;have hv2:(a+1)%4294967296=a+1:=by omega
 have HAt:=Ya hAt;clear hAt;obtain⟨c0,c1,c2⟩:=HK.out.cells;have hxl:=HK.out.xlt;have hyl:=HK.out.ylt;have HC:=Ya (λ y:Ext w19=>HAt.out y.val ⟨#[99,97,108,108]⟩ (a+1) (HK.out.below y.property).plc HFC.out);go_upto_region 17 with fail
 refine Zm 5 (by kernel_rfl) (by kernel_rfl) ?_;have hE:=Zu w19;simp only[Yav,Ya2,Yaw,Yaz]
 repeat (first|go_big_quiet_step ((go_at_call 37;exact Zdp (HC.out _))))
 refine wpQuiet_nil ?_;rintro y0 ⟨⟨_,hby⟩,rfl⟩;have HKy:=Ya (HK.out.below hby);have HBy:=Ya (HB.out.trans (hby.mono HB.out.size));clear hE HK HB HC c0 c1 c2 hxl hyl hby;have HK:=HKy;have HB:=HBy;clear HKy HBy;go_wp2_with fail
 refine(Z53 (a+1) HK.out ⟨by omega,by omega⟩).mono ?_;rintro e w20 ⟨rv,rfl,hk,ho⟩;have HB2:=Ya (HB.out.trans (HK.out.lobelow HB.out.size ho));clear HK HB;have HK:=Ya hk;have HB:=HB2;clear hk HB2 ho;obtain⟨c0,c1,c2⟩:=HK.out.cells;have hxl:=HK.out.xlt;have hyl:=HK.out.ylt;have HC:=Ya (λ y:Ext w20=>HAt.out y.val ⟨#[97,102,116,101,114]⟩ (a+3) (HK.out.below y.property).plc HFA.out);go_upto_region 18 with fail
 refine Zm 8 (by kernel_rfl) (by kernel_rfl) ?_;have hE:=Zu w20;simp only[Yav,Ya2,Yaw,Yaz]
 repeat (first|go_big_quiet_step ((go_at_call 37;exact Zdp (HC.out _))))
 refine wpQuiet_nil ?_;rintro w21 ⟨⟨_,hby⟩,rfl⟩;have HKy:=Ya (HK.out.below hby);have HBy:=Ya (HB.out.trans (hby.mono HB.out.size));clear hE HK HB HC c0 c1 c2 hxl hyl hby;have HK:=HKy;have HB:=HBy;clear HKy HBy;go_wp2_with fail
 go_ret2
 refine⟨F,a,w21.heap.size,p,FF,HWr.out,rfl,?_,HB.out.alloc HB.out.size _⟩;have h:=HK.out.nat HB.out.size NL half (a+3) NL;have e:S.ag (S.nL op F) half=((((((Zkk L ((NL:Int)+2*half).toNat []).putV 1 (2*half)).putV 2 NL).putV 3 (NL+half)).putV 4 half).putV 5 38).setV 28 1056:=by
  rw[<- HLe.out,HNL.out];rfl
 rw[<- HlenL.out,e];exact h
section
def S.aj (M:S.Mach)(after:Int):List Int×Int :=
 if M.state≠1 then([],-2) else if M.place≠after then([],M.code) else((S.readV M (M.regV 4)).getD [M.regV 4],-1)
theorem Zwj {m:S.Mach}{v:Int}{l:List Int}(h:S.readV m v=some l):0<l.length:=by
 unfold S.readV at h
 split at h
 .cases h;exact Nat.one_pos
 .split at h
  .cases h;simp
  .cases h
def S.an (m:S.Mach)(next top v1 v2:Int):S.Mach:=(((m.setV 26 next).setV 27 top).setV 4 v1).setV 5 v2
theorem Zgc (m:S.Mach){i v:Int}(h0:0<i)(h1:i<32):(m.setV i v).out=m.out/\(m.setV i v).steps=m.steps:=by
 rw[Zi8 h0 h1];exact⟨rfl,rfl⟩
theorem Zwk (m:S.Mach)(next top v1 v2:Int):(S.an m next top v1 v2).out=m.out/\(S.an m next top v1 v2).steps=m.steps:=by
 unfold S.an;obtain⟨a1,b1⟩:=Zgc (((m.setV 26 next).setV 27 top).setV 4 v1) (i:=5) (v:=v2) (by decide) (by decide);obtain⟨a2,b2⟩:=Zgc ((m.setV 26 next).setV 27 top) (i:=4) (v:=v1) (by decide) (by decide);obtain⟨a3,b3⟩:=Zgc (m.setV 26 next) (i:=27) (v:=top) (by decide) (by decide);obtain⟨a4,b4⟩:=Zgc m (i:=26) (v:=next) (by decide) (by decide);exact⟨a1.trans (a2.trans (a3.trans a4)),b1.trans (b2.trans (b3.trans b4))⟩
theorem Zy4 (m:S.Mach)(v:Int):(m.goV v).out=m.out/\(m.goV v).steps=m.steps:=by
 unfold S.Mach.goV
 split <;> exact⟨rfl,rfl⟩
attribute [local irreducible] S.ag S.nL S.nMid
def Z2s (w:World)(op:Int)(Rp Rq:S.Mach->Int->Int->S.Mach->Int->Prop)(e:Ending)(w':World):Prop :=
 ∃(F:List Int)(a v1 v2 n1 n2:Int)(m1 m2:S.Mach)(A:Option Addr)(n c:Nat)(l:List Int)(code:Int),S.az op F 2000 a/\Rp ((S.ag (S.nL op F) 2000).goV (a+1)) (a+4) v1 m1 n1/\Rq m1 n1 v2 m2 n2 /\
  e=.returned (.tuple #[.slice A n c,.int .i64 code])/\n=l.length/\n<=301/\Reads w' w'.heap.size A (l.map (Yr .u32))/\(l,code)=S.aj ((S.an m2 n2 (a+4+2000) v1 v2).steps_ 5000000) (a+3)/\Below w.heap.size w w'
theorem Z0i (op:Int)(hop:S.isOp op)(fp fq cp cq:Nat)(Kp Kq:Nat->World->Prop)(Rp Rq:S.Mach->Int->Int->S.Mach->Int->Prop)(hp:Zf5 fp cp Kp Rp)(hq:Zf5 fq cq Kq Rq)(w:World)(hL:LVE w)(hcp:Kp w.heap.size w)(hcq:Kq w.heap.size w) :
 Calls Tryz.prog 23 #[.int .i64 op,.func (.func fp) #[] #[.pointer (some ⟨cp,0,none⟩)],.func (.func fq) #[] #[.pointer (some ⟨cq,0,none⟩)]] w (Z2s w op Rp Rq):=by
 have HP:=Ya hp.out;have hep:=hp.enter;have heq:=hq.enter;have HQ:=Ya hq.out;have HCP:=Ya hcp;have HCQ:=Ya hcq;have HBg:=Ya (Z2r op 2000 hop (by decide) w hL);have HKp:=Ya hp.keep;have HKq:=Ya hq.keep;clear hp hq hcp hcq hL hop;go_enter Tryz.func23,Tryz.ntmps23
 go_wp2_with fail
 refine HBg.out.mono ?_;rintro e w1 ⟨F,a,b,p,FF,hwr,rfl,hk,hb⟩;have HWr:=Ya hwr;have HK:=Ya hk;have HB:=Ya hb;have ha0:=hwr.lab.a0;have hsm:=hwr.small;have hout0:=Ya hwr.out;have hst0:=Ya hwr.steps;clear hwr hk hb HBg;go_wp2_with fail
 refine(HP.out w1 w.heap.size b p FF (a+4) 2000 (a+3) (a+4) _ (HKp.out _ _ _ HCP.out HB.out) HK.out (by omega) (by omega)).mono ?_;rintro e w2 ⟨v1,m1,n1,rfl,hr1,hv1,hn1,hs1,hk,hb⟩;have HR1:=Ya hr1;have HS1:=Ya hs1;have HB2:=Ya (HB.out.trans hb);clear HK HB;have HK:=Ya hk;have HB:=HB2;clear hk hb HB2 hr1 hs1;go_wp2_with fail
 refine(HQ.out w2 w.heap.size b p FF (a+4) 2000 (a+3) n1 _ (HKq.out _ _ _ HCQ.out HB.out) HK.out (by omega) (by omega)).mono ?_;rintro e w3 ⟨v2,m2,n2,rfl,hr2,hv2,hn2,hs2,hk,hb⟩;have HR2:=Ya hr2;have HS2:=Ya hs2;have HB2:=Ya (HB.out.trans hb);clear HK HB;have HK:=Ya hk;have HB:=HB2;clear hk hb HB2 hr2 hs2;obtain⟨c0,c1,c2,c3,c4⟩:=HK.out.cells;have hbl:=HK.out.blt;have u2:IntKind.u32.wrap n2=n2:=Ya6 _ ⟨by omega,by omega⟩;have u2':n2%4294967296=n2:=by omega
 have u3:IntKind.i64.wrap (a+4+2000)=a+4+2000:=Yk _ ⟨by omega,by omega⟩;have u4:IntKind.u32.wrap (a+4+2000)=a+4+2000:=Ya6 _ ⟨by omega,by omega⟩;have u4':(a+4+2000)%4294967296=a+4+2000:=by omega
 go_upto_region 6 with fail
 refine Zm 9 (by kernel_rfl) (by kernel_rfl) ?_;have hE:=Zu w3;simp only[Yav,Ya2,Yaw,Yaz]
 repeat (first|go_big_quiet_step (fail))
 refine wpQuiet_nil ?_;rintro y1 ⟨⟨_,hby⟩,rfl⟩;have HKy:=Ya (HK.out.below hby);have HBy:=Ya (HB.out.trans (hby.mono HK.out.lolt));clear hE HK HB c0 c1 c2 c3 c4 hbl hby;have HK:=HKy;have HB:=HBy;clear HKy HBy;obtain⟨c0,c1,c2,c3,c4⟩:=HK.out.cells;have hbl:=HK.out.blt;go_wp2_with fail
 refine(Zq7 26 n2 HK.out ⟨by omega,by omega⟩).mono ?_;rintro e w4 ⟨rv,rfl,hk,ho⟩;have HB2:=Ya (HB.out.trans (HK.out.lobelow ho));clear HK HB c0 c1 c2 c3 c4 hbl;have HK:=Ya hk;have HB:=HB2;clear hk ho HB2;obtain⟨c0,c1,c2,c3,c4⟩:=HK.out.cells;have hbl:=HK.out.blt;go_upto_region 7 with fail
 refine Zm 14 (by kernel_rfl) (by kernel_rfl) ?_;have hE:=Zu w4;simp only[Yav,Ya2,Yaw,Yaz]
 repeat (first|go_big_quiet_step (fail))
 refine wpQuiet_nil ?_;rintro y2 ⟨⟨_,hby⟩,rfl⟩;have HKy:=Ya (HK.out.below hby);have HBy:=Ya (HB.out.trans (hby.mono HK.out.lolt));clear hE HK HB c0 c1 c2 c3 c4 hbl hby;have HK:=HKy;have HB:=HBy;clear HKy HBy;obtain⟨c0,c1,c2,c3,c4⟩:=HK.out.cells;have hbl:=HK.out.blt;go_wp2_with fail
 refine(Zq7 27 (a+4+2000) HK.out ⟨by omega,by omega⟩).mono ?_;rintro e w5 ⟨rv,rfl,hk,ho⟩;have HB2:=Ya (HB.out.trans (HK.out.lobelow ho));clear HK HB c0 c1 c2 c3 c4 hbl;have HK:=Ya hk;have HB:=HB2;clear hk ho HB2;obtain⟨c0,c1,c2,c3,c4⟩:=HK.out.cells;have hbl:=HK.out.blt;go_wp2_with fail
 refine(Zq7 4 v1 HK.out hv1).mono ?_;rintro e w6 ⟨rv,rfl,hk,ho⟩;have HB2:=Ya (HB.out.trans (HK.out.lobelow ho));clear HK HB c0 c1 c2 c3 c4 hbl;have HK:=Ya hk;have HB:=HB2;clear hk ho HB2;obtain⟨c0,c1,c2,c3,c4⟩:=HK.out.cells;have hbl:=HK.out.blt;go_wp2_with fail
 refine(Zq7 5 v2 HK.out hv2).mono ?_;rintro e w7 ⟨rv,rfl,hk,ho⟩;have HB2:=Ya (HB.out.trans (HK.out.lobelow ho));clear HK HB c0 c1 c2 c3 c4 hbl;have HK:=Ya hk;have HB:=HB2;clear hk ho HB2;obtain⟨c0,c1,c2,c3,c4⟩:=HK.out.cells;have hbl:=HK.out.blt;have HM0:=Ya (show(S.an m2 n2 (a+4+2000) v1 v2)=(((m2.setV 26 n2).setV 27 (a+4+2000)).setV 4 v1).setV 5 v2 from rfl);obtain⟨hs1,hs2⟩:=Zwk m2 n2 (a+4+2000) v1 v2;have hso:=hs1.trans (HS2.out.1.trans HS1.out.1);have hss:=hs2.trans (HS2.out.2.trans HS1.out.2);obtain⟨e1,e2⟩:=Zy4 (S.ag (S.nL op F) 2000) (a+1);rw[e1,hout0.out] at hso;rw[e2,hst0.out] at hss;rw[HM0.out] at hso hss;have Hso:=Ya hso;have Hss:=Ya hss;clear hs1 hs2 hso hss e1 e2;go_wp2_with fail
 refine(Z56 5000000 HK.out Hso.out Hss.out (by decide)).mono ?_;rintro e w8 ⟨rfl,F8,hk,ho,-⟩;have HB2:=Ya (HB.out.trans (HK.out.lobelow ho));clear HK HB c0 c1 c2 c3 c4 hbl;rw[<- HM0.out] at hk⊢;have e5:(5000000:Int).toNat=5000000:=rfl;rw[e5] at hk⊢;obtain⟨MM,hMM⟩:=Yx ((S.an m2 n2 (a+4+2000) v1 v2).steps_ 5000000);have HMM:=Ya hMM;rw[<- hMM] at hk⊢;have HK:=Ya hk;have HB:=HB2;clear hk ho HB2 hMM HM0 Hso Hss e5;have hok:=HK.out.ok;by_cases hst:MM.state=1
 rotate_left
 .have d0:(MM.state != 1)=true:=by simp[hst]
  have HST:=Ya hst;clear hst;go_wp2_with fail
  go_ret2
  refine⟨F,a,v1,v2,n1,n2,m1,m2,none,0,0,[],-2,HWr.out,HR1.out,HR2.out,rfl,rfl,by decide,λ h=>by simp at h,?_,HB.out⟩;rw[<- HMM.out];unfold S.aj;rw[if_pos HST.out]
 have d0:(MM.state != 1)=false:=by simp[hst]
 have HST:=Ya hst;clear hst;obtain⟨c0,c1,c2,c3,c4⟩:=HK.out.cells;have hbl:=HK.out.blt;have hc0:=hok.code0;have hc1:=hok.code1;have hp0:=hok.place0;have hp1:=hok.place1;have hrb:=Z0z hok 4;have hrr:MM.regV 4=MM.rd 4:=Z0o (by decide) (by decide);rw[<- hrr] at hrb;have u5:IntKind.i64.wrap MM.code=MM.code:=Yk _ ⟨by omega,by omega⟩;have u6:IntKind.i64.wrap MM.place=MM.place:=Yk _ ⟨by omega,by omega⟩;have HPl:=Ya (λ n:Nat=>(Z11 (HK.out.drew n)).mono (λ _ _ q=>(⟨q.1,q.2.symm⟩:_/\_)));clear hok hrr;by_cases hpl:MM.place=a+3
 rotate_left
 .have d1:(MM.place != a+3)=true:=by simp[hpl]
  have HPL:=Ya hpl;clear hpl;go_wp2_with fail
  go_quiet ((go_at_call 15;exact Calls.quiet_of_same (HPl.out _)))
  go_wp2_with fail
  refine(Z4j (HK.out.drew _)).mono ?_;rintro e w9 ⟨rfl,rfl⟩;go_wp2_with fail
  go_ret2
  refine⟨F,a,v1,v2,n1,n2,m1,m2,none,0,0,[],MM.code,HWr.out,HR1.out,HR2.out,rfl,rfl,by decide,λ h=>by simp at h,?_,below_drewN HB.out _⟩;rw[<- HMM.out];unfold S.aj;rw[if_neg (λ h=>h HST.out),if_pos HPL.out]
 have d1:(MM.place != a+3)=false:=by simp[hpl]
 have HPL:=Ya hpl;clear hpl;go_wp2_with fail
 go_quiet ((go_at_call 15;exact Calls.quiet_of_same (HPl.out _)))
 go_wp2_with fail
 refine(Z4i 4 (HK.out.drew _)).mono ?_;rintro e w9 ⟨rfl,rfl⟩;go_wp2_with fail
 refine(Z4l (MM.regV 4) ⟨hrb.1,by omega⟩ (HK.out.drew _)).mono ?_;rintro e w9 ⟨A,n,c,rfl,hn,hn2,hr,hb,hfr⟩;have HR:=Ya hr;have HN:=Ya hn;have HK9:=Ya ((HK.out.drew _).below (hb.mono (Yb _)));have HB9:=Ya ((below_drewN HB.out _).trans (hb.mono HK.out.lolt));clear hr hb hfr HK HB c0 c1 c2 c3 c4 hbl;obtain⟨O,hO⟩:=Yx (S.readV MM (MM.regV 4));rw[<- hO] at hn HR;rw[<- hO];have HO:=Ya hO;clear hO HN;have hout:S.aj MM (a+3)=(O.getD [MM.regV 4],-1):=by
  unfold S.aj;rw[if_neg (λ h=>h HST.out),if_neg (λ h=>h HPL.out),<- HO.out]
 have HOut:=Ya hout;clear hout
 cases O with
 | some l =>
  have hl:=Zwj HO.out.symm;have e:((some l).getD []:List Int)=l:=rfl;rw[e] at hn HR;simp only[Option.isSome_some];have d2:((n:Int)==0)=false:=beq_eq_false_iff_ne.2 (by omega);have Hn:=Ya hn;clear hn e;go_wp2_with fail
  go_ret2
  refine⟨F,a,v1,v2,n1,n2,m1,m2,A,n,c,l,-1,HWr.out,HR1.out,HR2.out,rfl,Hn.out,hn2,HR.out,?_,HB9.out⟩;rw[<- HMM.out];exact HOut.out.symm
 | none =>
  have hn0:n=0:=hn;subst hn0;simp only[Option.isSome_none];obtain⟨c0,c1,c2,c3,c4⟩:=HK9.out.cells;have hbl:=HK9.out.blt;have d2:(((0:Nat):Int)==0)=true:=rfl;clear hn HR;go_wp2_with fail
  refine(Z4i 4 HK9.out).mono ?_;rintro e w10 ⟨rfl,rfl⟩;go_wp2_with fail
  go_ret2
  have hl:=Zmd (w:=w9) (base:=w.heap.size) (e:=37) (size:=1) (n:=1) (cs:=#[.int .u32 (MM.regV 4)]) (xs:=[.int .u32 (MM.regV 4)]) HB9.out.size rfl rfl (by simp[maxLen]);refine⟨F,a,v1,v2,n1,n2,m1,m2,some ⟨w9.heap.size,0,none⟩,1,1,[MM.regV 4],-1,HWr.out,HR1.out,HR2.out,rfl,rfl,by decide,Zba hl,?_,HB9.out.alloc HB9.out.size _⟩;rw[<- HMM.out];exact HOut.out.symm
end
section
attribute [local irreducible] S.ag S.nL S.nMid
theorem Z2t {I:S.Img}{mem:Int->Int}{z:Int}(h0:-536870912<=z)(h1:z<536870912):S.NumAt I mem (S.u32m (4*z)) (S.u32m (4*z)/2147483648) [S.fixM (S.u32m (4*z))%65536,S.fixM (S.u32m (4*z))/65536]/\S.ac (S.u32m (4*z)/2147483648) [S.fixM (S.u32m (4*z))%65536,S.fixM (S.u32m (4*z))/65536]=z/\(S.dval [S.fixM (S.u32m (4*z))%65536,S.fixM (S.u32m (4*z))/65536]=0->S.u32m (4*z)/2147483648=0):=by
 obtain⟨v,hv⟩:=Yx (S.u32m (4*z));have hv2:v=(4*z)%4294967296:=hv;rw[<- hv];have hd:S.dval [S.fixM v%65536,S.fixM v/65536]=S.fixM v:=by
  show S.fixM v%65536+65536*(S.fixM v/65536+65536*0)=S.fixM v
  omega
 have hf:S.fixM v=if v<2147483648 then v/4 else(4294967296-v)/4:=rfl
 have hb:=Zv7 (v:=v) ⟨by omega,by omega⟩;refine⟨⟨⟨by omega,by omega⟩,by omega,λ d hd=>?_,by simp,.inl ⟨by omega,rfl,rfl⟩⟩,?_,λ e=>?_⟩
 .simp only[Yz,Yap,or_false] at hd
  rcases hd with rfl|rfl <;> omega
 .unfold S.ac S.signed
  rw[hd];by_cases c:v<2147483648
  .rw[if_pos (by omega),hf,if_pos c];omega
  .rw[if_neg (by omega),hf,if_neg c];omega
 .rw[hd,hf] at e
  by_cases c:v<2147483648
  .omega
  .rw[if_neg c] at e;omega
theorem Z0j {ds:List Int}{n:Int}{N:Nat}(h:S.Cn 65536 ds n)(hn:n<65536^N):ds.length<=N:=by
 refine Y_c λ c=>?_
 have h1:=Zzo (by decide) h (by omega);have h2:=Zbb (b:=65536) (by decide) (show N<=ds.length-1 by omega);omega
section
variable {op:Int}{F:List Int}{half a:Int}(hW:S.az op F half a)(hh:1<=half/\half<=1000000)
include hW hh
theorem Z2u {c:Int}(h0:a+4<=c)(h1:c<a+4+2*half):S.Dat (S.aa true op F (a+4+2*half)) c:=by
 have hp:=hW.lab.a0;refine⟨by omega,h1,λ h=>?_,λ h=>?_⟩
 .have h2:c<1312:=h.2
  omega
 .have:=(Zrp (hW.ok true) hW.lab h).2
  omega
theorem Zwl {m m':S.Mach}{n n' v z s g:Int}{O Q:List S.Ob}{N:Nat}(h:S.b6 op F half a s g m n O Q)(hg:S.am z m n v m' n')(hN:(if z<0 then -z else z)<65536^N)(hN2:2<=N)(hN3:N<=1000)(hn:n+N+2<=a+4+half) :
 ∃O' Q',S.b6 op F half a s g m' n' O' Q'/\(∀o∈Q,o∈Q')/\S.b7 (S.aa true op F (a+4+2*half)) m' Q' v z N/\(n'<=n+N+2/\n<=n')/\∀c,0<=c->c<n->m'.mv c=m.mv c:=by
 obtain⟨ws,hz,hl,hlw⟩:=hg;have hp:=hW.lab.a0;have hsm:=hW.small;have hnb0:=h.nb;rcases hlw with⟨l1,rfl,rfl,rfl⟩|⟨l1,rfl,rfl,rfl⟩
 .refine⟨O,Q,h,λ o ho=>ho,?_,⟨by omega,Int.le_refl _⟩,λ c _ _=>rfl⟩
  rcases hz with⟨z0,z1,rfl⟩|⟨_,ds,_,rfl⟩
  .obtain⟨k1,k2,k3⟩:=Z2t (I:=S.aa true op F (a+4+2*half)) (mem:=m'.mv) z0 z1
   refine⟨_,_,k1,k2,k3,hN2,λ p e=>?_⟩;have e':S.u32m (4*z)=4*p+1:=e;unfold S.u32m at e';omega
  .simp at l1
 .obtain⟨z0,ds,hcn,hws⟩:(z < -536870912\/536870912<=z)/\∃ds,S.Cn 65536 ds (if z<0 then -z else z)/\ws=(32*((ds.length:Int)+1)+31)::(if z<0 then 4 else 0)::ds.map λ d=>4*d:=by
   rcases hz with⟨_,_,e⟩|q
   .rw[e] at l1;simp at l1
   .exact q
  have hfew:=Z0j hcn hN;have hwl:ws.length=ds.length+2:=by rw[hws];simp
  obtain⟨h',hlow⟩:=Z1x hW hh h hz l1 hl (by omega);have hob:=h'.obj ⟨n,ws⟩ (Ybh _ Yu);have hnb:=h.nb;have hdv:S.dval ds=if z<0 then -z else z:=by rw[Zxd];exact hcn.2.2
  refine⟨_,_,h',λ o ho=>Ya5 _ ho,⟨if z<0 then 1 else 0,ds,⟨⟨by omega,by omega⟩,by split <;> simp,hcn.1,by omega,.inr ⟨n,rfl,λ j hj=>Z2u hW hh (by omega) (by omega),?_,?_,λ i hi=>?_⟩⟩,?_,λ e=>?_,hfew,λ p e=>⟨⟨n,ws⟩,Ybh _ Yu,by show n=p;omega⟩⟩,⟨by omega,by omega⟩,hlow⟩
  .have:=hob 0 (32*((ds.length:Int)+1)+31) (by show ws[0]?=_;rw[hws];rfl)
   rw[show n+((0:Nat):Int)=n by omega] at this;exact this
  .have:=hob 1 (if z<0 then 4 else 0) (by show ws[1]?=_;rw[hws];rfl)
   rw[show n+((1:Nat):Int)=n+1 by omega] at this;rw[this]
   split <;> rfl
  .have:=hob (i+2) (4*ds.getD i 0) (by
    show ws[i+2]?=_
    rw[hws,Yc0,Yc0,Y3,Ye,Yf hi];rfl)
   rw[show n+((i+2:Nat):Int)=n+2+i by omega] at this;exact this
  .unfold S.ac S.signed
   rw[hdv];by_cases c:z<0
   .rw[if_pos c,if_neg (by decide),if_pos c];omega
   .rw[if_neg c,if_pos rfl,if_neg c]
  .rw[hdv] at e
   by_cases c:z<0
   .rw[if_pos c] at e;omega
   .rw[if_neg c]
omit hW hh in
theorem Zwm {m m':S.Mach}{n v z s g:Int}{O Q O':List S.Ob}{N:Nat}(h:S.b6 op F half a s g m n O Q)(hi:S.b7 (S.aa true op F (a+4+2*half)) m Q v z N)(hO:∀o∈Q,o∈O')(hm:∀c,0<=c->c<n->m'.mv c=m.mv c)(ha:0<=a):S.b7 (S.aa true op F (a+4+2*half)) m' O' v z N:=by
 obtain⟨neg,ds,k1,k2,k3,k4,k5⟩:=hi;refine⟨neg,ds,k1.same λ p e j hj=>?_,k2,k3,k4,λ p e=>?_⟩
 .obtain⟨o,ho,rfl⟩:=k5 p e
  obtain⟨⟨_,hd,r,er,_,h32⟩,f0,f1⟩:=h.inb o (h.sub o ho);have hmem:=h.obj o (h.sub o ho) 0 hd (by rw[er];rfl);rw[show o.at_+((0:Nat):Int)=o.at_ by omega] at hmem;have hlen:o.ws.length=r.length+1:=by rw[er,Yi]
  rcases k1.cases with⟨q1,_⟩|⟨p,e2,_,m0,_⟩
  .omega
  .have ep:p=o.at_:=by omega
   subst ep;rw[m0] at hmem;exact hm _ (by omega) (by omega)
 .obtain⟨o,ho,e2⟩:=k5 p e
  exact⟨o,hO o ho,e2⟩
structure S.b9 (op:Int)(F:List Int)(half a s:Int)(M:S.Mach)(O Q:List S.Ob)(n v1 v2:Int):Prop where
 st:S.de op F (a+4+2*half) M
 ok:S.Cf.Ok (S.aa true op F (a+4+2*half)) ⟨O,a+4,a+4+half,half⟩
 rdy:S.Rdy (S.aa true op F (a+4+2*half)) ⟨O,a+4,a+4+half,half⟩ (λ o=>o∈Q) n s (a+2) (S.viewOf M)
 r4:(S.viewOf M).reg 4=v1
 r5:(S.viewOf M).reg 5=v2
theorem Z2v {m:S.Mach}{n v1 v2 s g:Int}{O Q:List S.Ob}(h:S.b6 op F half a s g m n O Q)(hsp:0<=s/\s<1000000)(hv1:0<=v1/\v1<=4294967295)(hv2:0<=v2/\v2<=4294967295):S.b9 op F half a s (S.an m n (a+4+half) v1 v2) O Q n v1 v2/\∀c,(S.an m n (a+4+half) v1 v2).mv c=m.mv c:=by
 have hp:=hW.lab.a0;have hsm:=hW.small;have hnb:=h.nb;have set1:∀(m:S.Mach)(i v:Int),(m.Ok/\(m.mem.length:Int)=a+4+2*half/\(S.aa true op F (a+4+2*half)).In m.mem/\m.state=0/\m.place=a+1)->0<i->i<32->0<=v->v<=4294967295 ->
  ((m.setV i v).Ok/\((m.setV i v).mem.length:Int)=a+4+2*half/\(S.aa true op F (a+4+2*half)).In (m.setV i v).mem/\(m.setV i v).state=0/\(m.setV i v).place=a+1)/\(∀c,(m.setV i v).mv c=m.mv c)/\∀j,(m.setV i v).rd j=if j=i then v else m.rd j:=by
  rintro m i v ⟨k1,k2,k3,k4,k5⟩ h0 h1 h2 h3;have hk:(m.setV i v).Ok:=by
   unfold S.Mach.setV;rw[if_pos ⟨by omega,h1⟩];exact Zju k1 (by omega) ⟨h2,h3⟩
  refine⟨⟨hk,?_,?_,?_,?_⟩,λ c=>Zwy h0 h1,λ j=>Zwx k1 h0 h1⟩
  all_goals rw[Zi8 h0 h1]
  .exact k2
  .exact k3
  .exact k4
  .exact k5
 obtain⟨s1,w1,r1⟩:=set1 m 26 n ⟨h.ok,h.mlen,h.code,h.run,h.place⟩ (by decide) (by decide) (by omega) (by omega);obtain⟨s2,w2,r2⟩:=set1 _ 27 (a+4+half) s1 (by decide) (by decide) (by omega) (by omega);obtain⟨s3,w3,r3⟩:=set1 _ 4 v1 s2 (by decide) (by decide) hv1.1 hv1.2;obtain⟨s4,w4,r4⟩:=set1 _ 5 v2 s3 (by decide) (by decide) hv2.1 hv2.2;have e:S.an m n (a+4+half) v1 v2=(((m.setV 26 n).setV 27 (a+4+half)).setV 4 v1).setV 5 v2:=rfl;rw[<- e] at s4 w4 r4;generalize S.an m n (a+4+half) v1 v2=M at *;have hmv:∀c,M.mv c=m.mv c:=λ c=>by rw[w4,w3,w2,w1]
 have hrd:∀j,M.rd j=if j=5 then v2 else if j=4 then v1 else if j=27 then a+4+half else if j=26 then n else m.rd j:=λ j=>by rw[r4,r3,r2,r1]
 obtain⟨q1,q2,q3,q4,q5⟩:=s4;have hl:∀c:Int,¬(1312:Int)<=c->¬(S.aa true op F (a+4+2*half)).code c:=λ c hc hq=>hc (Zrp (hW.ok true) hW.lab hq).1
 refine⟨⟨⟨q1,q4,q2,q3,q5.trans hW.lab.call.symm,by rw[hrd];exact h.r28⟩,⟨λ c h0 h1=>Z2u hW hh h0 (by have:c<a+4+half:=h1;omega),λ c h0 h1=>Z2u hW hh (by have:a+4+half<=c:=h0;omega) (by have:c<a+4+half+half:=h1;omega),.inl (Int.le_refl _),by show 1312<=a+4;omega,by show 1312<=a+4+half;omega,by show 0<=half;omega,by show a+4+half<=335544320;omega,by show a+4+half+half<=335544320;omega,λ c h0 h1=>⟨h0,by show c<a+4+2*half;omega,λ hs=>by have:(1056:Int)<=c:=hs.1;omega,hl c (by omega)⟩,λ o ho=>?_,h.dis,h.nd,by have:=h.sum;show S.tot O<=half;omega⟩,⟨by show M.rd 26=n;rw[hrd];rfl,by show M.rd 27=a+4+half;rw[hrd];rfl,hnb.1,hnb.2,by show M.mv 2=a+4;rw[hmv];exact h.m2,by show M.mv 3=a+4+half;rw[hmv];exact h.m3,by show M.mv 4=half;rw[hmv];exact h.m4,by show M.mv 5%4≠1/\0<=M.mv 5/\M.mv 5<4294967296;rw[hmv,h.m5];decide,by show M.mv 7=s;rw[hmv,h.low 7 (by decide) (by decide),if_pos rfl],hsp,λ o ho k w hk=>by show M.mv _=w;rw[hmv];exact h.obj o ho k w hk,λ o ho=>(h.inb o ho).2.2,λ o _ ho=>h.plain o ho,hW.lab.code,?_,⟨by omega,by show a+2<a+4+2*half;omega,λ hs=>by have:a+2<(1312:Int):=hs.2;omega,λ hq=>by have:a+4<=a+2:=hq.1;omega,λ hq=>by have:a+4+half<=a+2:=hq.1;omega⟩⟩,by show M.rd 4=v1;rw[hrd];rfl,by show M.rd 5=v2;rw[hrd];rfl⟩,hmv⟩
 .obtain⟨i1,i2,i3⟩:=h.inb o ho
  exact⟨i1,i2,by show o.at_+o.ws.length<=a+4+half;omega⟩
 .exact Z0p (hW.ok true) hW.lab q3 (by omega)
end
end
section
attribute [local irreducible] S.ag S.nL S.nMid
theorem Zy5 {I:S.Img}{MM:S.Mach}{st:S.Vw}{z:Int}(hs:S.b5 I MM st)(h:S.MkR I st z)(hz:(if z<0 then -z else z)<65536^250):∃l,S.readV MM (MM.regV 4)=some l/\S.Wz z l:=by
 have hv:MM.regV 4=st.reg 4:=(Z0o (by decide) (by decide)).trans (hs.reg 4 (by decide));rw[hv];rcases h with⟨z0,z1,e4⟩|⟨z0,H,neg,ds,hneg,hdg,hpos,htop,hsg,e4,_,m0,m1,mi,hdat,hH,hfew⟩
 .rw[e4]
  refine⟨[S.u32m (4*z)],?_,.inl ⟨z0,z1,rfl⟩⟩;unfold S.readV;rw[if_pos (by unfold S.u32m;omega)]
 .have hdv:=Zk hdg
  have hz2:(neg=0/\z=S.dval ds)\/(neg=1/\z=-S.dval ds):=by
   unfold S.signed at hsg;rcases hneg with rfl|rfl
   .rw[if_pos rfl] at hsg;exact .inl ⟨rfl,hsg.symm⟩
   .rw[if_neg (by decide)] at hsg;exact .inr ⟨rfl,hsg.symm⟩
  have hab:S.dval ds=if z<0 then -z else z:=by
   by_cases c:z<0
   .rw[if_pos c];omega
   .rw[if_neg c];omega
  have hcn:S.Cn 65536 ds (if z<0 then -z else z):=⟨hdg,.inr htop,by rw[<- Zxd];exact hab⟩
  have hl:=Z0j hcn hz;have hng:4*neg=if z<0 then 4 else 0:=by
   by_cases c:z<0
   .rw[if_pos c];omega
   .rw[if_neg c];omega
  have hmem:∀j:Nat,j<ds.length+2->MM.memV (H+j)=st.mem (H+j)/\MM.memB (H+j)=true:=λ j hj=>by
   obtain⟨d0,d1,d2,d3⟩:=hdat j hj;have hlen:=hs.len;refine⟨(Z45 d0 (by omega)).trans (hs.mem _ d0 d1 d2),?_⟩;unfold S.Mach.memB;exact decide_eq_true ⟨d0,by omega⟩
  have h0:=hmem 0 (by omega);rw[show H+((0:Nat):Int)=H by omega,m0] at h0;refine⟨_,?_,.inr ⟨z0,ds,hcn,rfl⟩⟩;have hq:st.reg 4/4=H:=by omega
  unfold S.readV;rw[if_neg (by omega),hq,h0.1,if_pos ⟨by omega,h0.2,by omega,by omega⟩]
  congr 1
  rw[show(32*((ds.length:Int)+1)+31)/32=((ds.length+1:Nat):Int) by omega,Int.toNat_natCast,List.range_succ_eq_map,Ybz,List.map_map]
  congr 1
  congr 1
  .have h1:=hmem 1 (by omega)
   rw[show H+((1:Nat):Int)=H+1 by omega,m1] at h1
   show MM.memV (H+(((0:Nat):Int)+1))=_
   rw[show H+(((0:Nat):Int)+1)=H+1 by omega,h1.1,hng]
  .refine List.ext_getElem (by simp) λ i h1 h2=>?_
   rw[List.getElem_map,List.getElem_range,List.getElem_map];have hi:i<ds.length:=by simpa using h1
   have h3:=(hmem (i+2) (by omega)).1;rw[show H+((i+2:Nat):Int)=H+2+i by omega,mi i hi,Ye,Yf hi] at h3
   show MM.memV (H+(((i+1:Nat):Int)+1))=_
   rw[show H+(((i+1:Nat):Int)+1)=H+2+i by omega];exact h3
section
variable {op:Int}{F:List Int}{half a:Int}(hW:S.az op F half a)(hh:1<=half/\half<=1000000)
include hW hh
theorem Zgd {M:S.Mach}{O Q:List S.Ob}{s n v1 v2 z:Int}{short:Prop}(hr:S.b9 op F half a s M O Q n v1 v2)(hreal:S.ah (S.aa true op F (a+4+2*half)) (S.kRt op) true (S.viewOf M) 106 (a+2) (S.PrmR (S.aa true op F (a+4+2*half)) (S.viewOf M) z short 2000000))(hsh:¬short)(hz:(if z<0 then -z else z)<65536^250):∃l,S.aj (M.steps_ 5000000) (a+3)=(l,-1)/\S.Wz z l:=by
 have h:=Z6k (hW.ok true) hW.lab (by omega) hr.st (by decide) hreal (λ o k h=>Y8 h.1 (by decide)) (λ t st k h=>by
  rcases h.2 with⟨st',e,_⟩|⟨st',e,_⟩ <;> cases e) (λ c' st k h=>by
  rcases h.2 with⟨st',e,_⟩|⟨st',e,hs⟩
  .cases e
  .exact absurd hs hsh)
 generalize M.steps_ 5000000=MM at h⊢;obtain⟨h1,h2⟩:=h;rcases h2 with⟨st',k,⟨_,hq⟩,hsee,hpl,_⟩|⟨st',k,c',⟨_,hq⟩,_⟩
 .rcases hq with⟨st2,e,hmk,_⟩|⟨st2,e,_⟩
  .cases e
   obtain⟨l,hl,hwz⟩:=Zy5 hsee hmk hz;refine⟨l,?_,hwz⟩;unfold S.aj;rw[if_neg (λ h=>h h1),if_neg (λ h=>h hpl),hl];rfl
  .cases e
 .rcases hq with⟨st2,e,_⟩|⟨st2,e,hs⟩
  .cases e
  .exact absurd hs hsh
end
end
section
attribute [local irreducible] S.ag S.nL S.nMid
structure S.bn (op:Int)(F:List Int)(half a:Int)(M:S.Mach)(v1 v2 z1 z2:Int)(O Q:List S.Ob)(n nv nu:Int)(x y:List Int):Prop where
 rdy:S.b9 op F half a 0 M O Q n v1 v2
 nx:S.NumO (S.aa true op F (a+4+2*half)) ⟨O,a+4,a+4+half,half⟩ (λ o=>o∈Q) (S.viewOf M).mem v1 nv x
 ny:S.NumO (S.aa true op F (a+4+2*half)) ⟨O,a+4,a+4+half,half⟩ (λ o=>o∈Q) (S.viewOf M).mem v2 nu y
 zx:S.ac nv x=z1
 zy:S.ac nu y=z2
 x0:S.dval x=0->nv=0
 y0:S.dval y=0->nu=0
 few:x.length<=40/\y.length<=40
 tot:∀ρ:List S.Ob,ρ.Nodup->(∀o∈ρ,o∈O/\o∈Q)->S.tot ρ<=84
 segs:S.NSegs (S.aa true op F (a+4+2*half))
 csegs:S.CSegs (S.aa true op F (a+4+2*half))
section
variable {op:Int}{F:List Int}{half a:Int}(hW:S.az op F half a)(hh:400<=half/\half<=1000000)
include hW hh
theorem Z0k {v1 v2 z1 z2 n1 n2:Int}{m1 m2:S.Mach}(hp:S.am z1 ((S.ag (S.nL op F) half).goV (a+1)) (a+4) v1 m1 n1)(hq:S.am z2 m1 n1 v2 m2 n2)(h1:(if z1<0 then -z1 else z1)<65536^40)(h2:(if z2<0 then -z2 else z2)<65536^40) :
 ∃O Q nv nu x y,S.bn op F half a (S.an m2 n2 (a+4+half) v1 v2) v1 v2 z1 z2 O Q n2 nv nu x y:=by
 have hh':1<=half/\half<=1000000:=by omega
 have ha:=hW.lab.a0;have hsm:=hW.small;have f0:=Zva hW hh';obtain⟨O1,Q1,g1,s1,i1,b1,l1⟩:=Zwl hW hh' f0 hp h1 (by decide) (by decide) (by omega);obtain⟨O2,Q2,g2,s2,i2,b2,l2⟩:=Zwl hW hh' g1 hq h2 (by decide) (by decide) (by omega);have i1':=Zwm g1 i1 s2 l2 (by omega);obtain⟨ws1,wz1,wl1,lw1⟩:=hp;obtain⟨ws2,wz2,wl2,lw2⟩:=hq;obtain⟨r,hmv⟩:=Z2v hW hh' g2 (by decide) (Zlz wz1 wl1 lw1 ⟨by omega,by omega⟩).1 (Zlz wz2 wl2 lw2 ⟨by omega,by omega⟩).1;obtain⟨nv,x,x1,x2,x3,x4,x5⟩:=i1';obtain⟨nu,y,y1,y2,y3,y4,y5⟩:=i2;refine⟨O2,Q2,nv,nu,x,y,⟨r,⟨?_,λ p e=>?_⟩,⟨?_,λ p e=>?_⟩,x2,y2,x3,y3,⟨x4,y4⟩,λ ρ h3 h4=>?_,Z46 (hW.ok true),Z21 (hW.ok true)⟩⟩
 .exact x1.same λ p e j hj=>hmv _
 .obtain⟨o,ho,e2⟩:=x5 p e
  exact⟨o,g2.sub o ho,ho,e2⟩
 .exact y1.same λ p e j hj=>hmv _
 .obtain⟨o,ho,e2⟩:=y5 p e
  exact⟨o,g2.sub o ho,ho,e2⟩
 .have h5:=Zci ρ Q2 h3 (λ o ho=>(h4 o ho).2)
  have h6:=g2.sumQ;omega
end
section
variable {F:List Int}{half a:Int}{M:S.Mach}{v1 v2 z1 z2 n nv nu:Int}{O Q:List S.Ob}{x y:List Int}
theorem Zej {op:Int}(h:S.bn op F half a M v1 v2 z1 z2 O Q n nv nu x y)(hh:400<=half/\half<=1000000):¬half<84+(3*((x.length:Int)+y.length)+20)+0:=by
 have:=h.few;omega
theorem Zp9 (hW:S.az 8 F half a)(hh:400<=half/\half<=1000000)(h:S.bn 8 F half a M v1 v2 z1 z2 O Q n nv nu x y)(hz:(if z1+z2<0 then -(z1+z2) else z1+z2)<65536^250):∃l,S.aj (M.steps_ 5000000) (a+3)=(l,-1)/\S.Wz (z1+z2) l:=by
 obtain⟨i,hs⟩:=Za4 (op:=8) (F:=F) (size:=a+4+2*half) (r:=S.rPAdd 0) (j:=30) rfl;have hr:=Znc h.segs h.csegs h.rdy.ok (k:=0) (.inl rfl) hs (tT:=84) h.rdy.r4 h.rdy.r5 h.rdy.rdy h.nx h.ny h.few h.tot (by decide);rw[if_pos rfl,h.zx,h.zy] at hr;exact Zgd hW (by omega) h.rdy hr (Zej h hh) hz
theorem Z2w (hW:S.az 9 F half a)(hh:400<=half/\half<=1000000)(h:S.bn 9 F half a M v1 v2 z1 z2 O Q n nv nu x y)(hz:(if z1-z2<0 then -(z1-z2) else z1-z2)<65536^250):∃l,S.aj (M.steps_ 5000000) (a+3)=(l,-1)/\S.Wz (z1-z2) l:=by
 obtain⟨i,hs⟩:=Za4 (op:=9) (F:=F) (size:=a+4+2*half) (r:=S.rPAdd 1) (j:=32) rfl;have hr:=Znc h.segs h.csegs h.rdy.ok (k:=1) (.inr rfl) hs (tT:=84) h.rdy.r4 h.rdy.r5 h.rdy.rdy h.nx h.ny h.few h.tot (by decide);rw[if_neg (by decide),h.zx,h.zy] at hr;exact Zgd hW (by omega) h.rdy hr (Zej h hh) hz
theorem Z2x (hW:S.az 10 F half a)(hh:400<=half/\half<=1000000)(h:S.bn 10 F half a M v1 v2 z1 z2 O Q n nv nu x y)(hz:(if z1*z2<0 then -(z1*z2) else z1*z2)<65536^250):∃l,S.aj (M.steps_ 5000000) (a+3)=(l,-1)/\S.Wz (z1*z2) l:=by
 obtain⟨i,hs⟩:=Za4 (op:=10) (F:=F) (size:=a+4+2*half) (r:=S.rPMul) (j:=34) rfl;have hr:=Zuz h.segs h.csegs h.rdy.ok hs (tT:=84) h.rdy.r4 h.rdy.r5 h.rdy.rdy h.nx h.ny h.few h.tot (by decide);rw[h.zx,h.zy] at hr;exact Zgd hW (by omega) h.rdy hr (Zej h hh) hz
theorem Zy6 {I:S.Img}{mem:Int->Int}{nu:Int}{y:List Int}(h:S.NumAt I mem 0 nu y):S.dval y=0:=by
 rcases h.cases with⟨_,_,rfl⟩|⟨p,e,_⟩
 .rfl
 .omega
theorem Z44 {I:S.Img}{mem:Int->Int}{v nu z:Int}{y:List Int}(h:S.NumAt I mem v nu y)(hz:S.ac nu y=z)(h0:z≠0):v≠0/\0<S.dval y:=by
 have hd:=Zk h.dig;have hp:S.dval y≠0:=λ e=>by
  unfold S.ac S.signed at hz;rw[e] at hz
  split at hz <;> omega
 refine⟨λ e=>?_,by omega⟩;subst e;exact hp (Zy6 h)
theorem Z0l {nv nu X Y:Int}(h1:nv=0\/nv=1)(h2:nu=0\/nu=1)(hX:0<=X)(hY:0<=Y):S.al 0 nv nu X Y=Int.tdiv (S.signed nv X) (S.signed nu Y)/\S.al 1 nv nu X Y=Int.tmod (S.signed nv X) (S.signed nu Y):=by
 unfold S.al S.signed;have e1:=Int.tdiv_eq_ediv_of_nonneg (b:=Y) hX;have e2:Int.tmod X Y=X%Y:=Int.tmod_eq_emod_of_nonneg hX;rcases h1 with rfl|rfl <;> rcases h2 with rfl|rfl <;> simp[Int.tdiv_neg,Int.neg_tdiv,Int.neg_tmod,Int.tmod_neg,e1,e2]
theorem Z2y (hW:S.az 11 F half a)(hh:400<=half/\half<=1000000)(h:S.bn 11 F half a M v1 v2 z1 z2 O Q n nv nu x y)(h0:z2≠0)(hz:(if Int.tdiv z1 z2<0 then -(Int.tdiv z1 z2) else Int.tdiv z1 z2)<65536^250):∃l,S.aj (M.steps_ 5000000) (a+3)=(l,-1)/\S.Wz (Int.tdiv z1 z2) l:=by
 obtain⟨i,hs⟩:=Za4 (op:=11) (F:=F) (size:=a+4+2*half) (r:=S.rPQuo 0) (j:=31) rfl;obtain⟨k1,k2⟩:=Z44 h.ny.1 h.zy h0;have hr:=Znd h.segs h.csegs h.rdy.ok (k:=0) (.inl rfl) hs (tT:=84) h.rdy.r4 h.rdy.r5 h.rdy.rdy h.nx h.ny h.few k1 k2 h.tot (by decide);have e:S.al 0 nv nu (S.dval x) (S.dval y)=Int.tdiv z1 z2:=by rw[(Z0l h.nx.1.sg h.ny.1.sg (Zk h.nx.1.dig) (Zk h.ny.1.dig)).1,<- h.zx,<- h.zy];rfl
 rw[e] at hr;exact Zgd hW (by omega) h.rdy hr (Zej h hh) hz
theorem Z2z (hW:S.az 12 F half a)(hh:400<=half/\half<=1000000)(h:S.bn 12 F half a M v1 v2 z1 z2 O Q n nv nu x y)(h0:z2≠0)(hz:(if Int.tmod z1 z2<0 then -(Int.tmod z1 z2) else Int.tmod z1 z2)<65536^250):∃l,S.aj (M.steps_ 5000000) (a+3)=(l,-1)/\S.Wz (Int.tmod z1 z2) l:=by
 obtain⟨i,hs⟩:=Za4 (op:=12) (F:=F) (size:=a+4+2*half) (r:=S.rPQuo 1) (j:=33) rfl;obtain⟨k1,k2⟩:=Z44 h.ny.1 h.zy h0;have hr:=Znd h.segs h.csegs h.rdy.ok (k:=1) (.inr rfl) hs (tT:=84) h.rdy.r4 h.rdy.r5 h.rdy.rdy h.nx h.ny h.few k1 k2 h.tot (by decide);have e:S.al 1 nv nu (S.dval x) (S.dval y)=Int.tmod z1 z2:=by rw[(Z0l h.nx.1.sg h.ny.1.sg (Zk h.nx.1.dig) (Zk h.ny.1.dig)).2,<- h.zx,<- h.zy];rfl
 rw[e] at hr;exact Zgd hW (by omega) h.rdy hr (Zej h hh) hz
end
end
section
attribute [local irreducible] S.ag S.nL S.nMid
theorem Zoi (pre:List UInt8)(neg:Bool)(ds:List Int)(hp:(pre=[]/\neg=false)\/(pre=[45]/\neg=true))(hd:∀d∈ds,0<=d/\d<10)(h0:0<ds.length):S.Tz ⟨(pre++ds.map λ d=>UInt8.ofNat (48+d.toNat)).toArray⟩ pre.length neg ds.reverse:=by
 have hsz:(⟨(pre++ds.map λ d=>UInt8.ofNat (48+d.toNat)).toArray⟩:ByteArray).size=pre.length+ds.length:=by
  show(pre++ds.map λ d=>UInt8.ofNat (48+d.toNat)).toArray.size=_
  simp
 refine⟨by rw[hsz,List.length_reverse],by rw[List.length_reverse];exact h0,λ d hq=>hd d (List.mem_reverse.1 hq),λ i hi hpi=>?_,?_⟩
 .rw[hsz] at hi
  obtain⟨j,rfl⟩:∃j,i=pre.length+j:=⟨i-pre.length,by omega⟩
  have hj:j<ds.length:=by omega
  have hb:=hd ds[j] (Ya7 hj);have e1:((⟨(pre++ds.map λ d=>UInt8.ofNat (48+d.toNat)).toArray⟩:ByteArray)[pre.length+j]'(by rw[hsz];omega))=UInt8.ofNat (48+(ds[j]).toNat):=by
   show(pre++ds.map λ d=>UInt8.ofNat (48+d.toNat)).toArray[pre.length+j]'(by simp;omega)=_
   rw[List.getElem_toArray,List.getElem_append_right (by omega)];simp
  rw[e1,hsz,Ye,List.getElem?_reverse (by omega),show ds.length-1-(pre.length+ds.length-1-(pre.length+j))=j by omega,Yf hj]
  show((UInt8.ofNat (48+(ds[j]).toNat)).toNat:Int)=48+ds[j]
  rw[UInt8.toNat_ofNat'];omega
 .rcases hp with⟨rfl,rfl⟩|⟨rfl,rfl⟩
  .exact .inl ⟨rfl,rfl⟩
  .exact .inr (.inl ⟨rfl,rfl,λ h=>rfl⟩)
theorem Zwn {z n v n':Int}{m m':S.Mach}(h:S.am z m n v m' n')(hz:z=0):v=0:=by
 subst hz;obtain⟨ws,hz,hl,hw⟩:=h;rcases hz with⟨_,_,rfl⟩|⟨h0,_⟩
 .rcases hw with⟨_,e,_⟩|⟨h2,_⟩
  .rw[e];rfl
  .simp at h2
 .omega
def Zi6 (w:World)(L:List Int)(C:Int)(e:Ending)(w':World):Prop :=
 ∃(A:Option Addr)(c:Nat),e=.returned (.tuple #[.slice A L.length c,.int .i64 C])/\Reads w' w'.heap.size A (L.map (Yr .u32))/\Below w.heap.size w w'
theorem Zwo (op:Int)(hop:S.isOp op)(s1 s2:ByteArray)(p1 p2:Nat)(g1 g2:Bool)(l1 l2:List Int)(t1:S.Tz s1 p1 g1 l1)(t2:S.Tz s2 p2 g2 l2)(k1:s1.size<=1000000)(k2:s2.size<=1000000)(h1:(if S.tz g1 l1<0 then -S.tz g1 l1 else S.tz g1 l1)<65536^40)(h2:(if S.tz g2 l2<0 then -S.tz g2 l2 else S.tz g2 l2)<65536^40)(L:List Int)(C:Int)
 (hlaw:∀(F:List Int)(a v1 v2 n nv nu:Int)(M:S.Mach)(O Q:List S.Ob)(x y:List Int),S.az op F 2000 a->S.bn op F 2000 a M v1 v2 (S.tz g1 l1) (S.tz g2 l2) O Q n nv nu x y->(S.tz g2 l2=0->v2=0)->S.aj (M.steps_ 5000000) (a+3)=(L,C)) (w:World) (hL:LVE w) :
 Calls Tryz.prog 23 #[.int .i64 op,.func (.func 52) #[] #[.pointer (some ⟨w.heap.size,0,none⟩)],.func (.func 52) #[] #[.pointer (some ⟨w.heap.size+1,0,none⟩)]] ((w.alloc (.cells #[.string s1] 9 (0,0))).alloc (.cells #[.string s2] 9 (0,0))) (Zi6 w L C):=by
 have hpow:(65536:Int)^40<=S.bd:=Zbb (b:=65536) (by decide) (by decide);have b1:=(Yh w.heap.size w).alloc (Yb _) (.cells #[.string s1] 9 (0,0));have e1:(w.alloc (.cells #[.string s1] 9 (0,0))).heap.size=w.heap.size+1:=by simp
 have b2:=b1.alloc b1.size (.cells #[.string s2] 9 (0,0));have q1:=heap_alloc_new w (.cells #[.string s1] 9 (0,0));have q2:=heap_alloc_new (w.alloc (.cells #[.string s1] 9 (0,0))) (.cells #[.string s2] 9 (0,0));have q3:=(((Yh (w.heap.size+1) (w.alloc (.cells #[.string s1] 9 (0,0)))).alloc (Nat.le_of_eq e1.symm) (.cells #[.string s2] 9 (0,0))).block w.heap.size (Nat.lt_succ_self _)).trans q1;rw[e1] at q2;refine(Z0i op hop _ _ w.heap.size (w.heap.size+1) _ _ _ _ (Zcl s1 p1 g1 l1 t1 k1 (by omega) _) (Zcl s2 p2 g2 l2 t2 k2 (by omega) _) _ (hL.on b2) ⟨by rw[World.size_alloc,e1];omega,q3⟩ ⟨by rw[World.size_alloc,e1];omega,q2⟩).mono ?_;rintro e w' ⟨F,a,v1,v2,n1,n2,m1,m2,A,n,c,l,code,hW,hp,hq,rfl,hn,hn2,hr,ho,hb⟩;obtain⟨O,Q,nv,nu,x,y,htwo⟩:=Z0k hW (by decide) hp hq h1 h2;rw[hlaw F a v1 v2 n2 nv nu _ O Q x y hW htwo (Zwn hq)] at ho
 cases ho
 subst hn;exact⟨A,c,rfl,hr,b2.trans (hb.mono b2.size)⟩
end
section
attribute [local irreducible] S.ag S.nL S.nMid
def Zsu (cb:Nat)(A:Option Addr)(n c:Nat)(l:List Int)(lo:Nat)(w:World):Prop:=Znp cb (.cells #[.slice A n c] 51 (0,0)) lo w/\Reads w lo A (l.map (Yr .u32))
theorem Zoj {cb:Nat}{A:Option Addr}{n c:Nat}{l:List Int}(lo:Nat)(w w':World)(h:Zsu cb A n c l lo w)(hb:Below lo w w'):Zsu cb A n c l lo w':=⟨Znq lo w w' h.1 hb,h.2.below hb⟩
theorem Zok {cb:Nat}{A:Option Addr}{n c:Nat}{l:List Int}{lo:Nat}{w:World}(h:Zsu cb A n c l lo w):w.cell? ⟨cb,0,none⟩=some (.slice A n c):=by
 rw[Lib.cell_of_heap h.1.2];rfl
theorem Zqa (A:Option Addr)(n c:Nat)(w:World):Calls Tryz.prog 30 #[.slice A n c] w λ e w'=>e=.returned (.func (.func 89) #[] #[.pointer (some ⟨w.heap.size,0,none⟩)])/\w'=w.alloc (.cells #[.slice A n c] 51 (0,0)):=by
 have hmf:=Y_f
 go_enter Tryz.func30,Tryz.ntmps30
 go_wp2_with fail
 go_ret
 exact⟨rfl,rfl⟩
theorem Zfk (z:Int)(ws:List Int)(A1:Option Addr)(n1 c1:Nat)(hz:S.Wz z ws)(hn:n1=ws.length)(hl:n1<=301)(cb:Nat):Zf5 89 cb (Zsu cb A1 n1 c1 ws) (S.am z):=by
 refine⟨λ args w=>rfl,Zoj,?_⟩;intro w lo b p F first half after next m hk hw n0 n9
 have HK:=Ya hk;have HW:=Ya hw;have HWZ:=Ya hz;have HN1:=Ya hn;have HWD:=Ya (Ziu hz (by omega));have hlp:1<=n1:=by
  obtain⟨h1,h2⟩:=Zvd hz;by_cases hr:-536870912<=z/\z<=536870911
  .have:=h1 hr;omega
  .have:=h2 hr;omega
 have hcb:=Zok hk;clear hk hw hz hn;go_enter Tryz.func89,Tryz.ntmps89
 by_cases h2:n1<2
 .have d0:decide ((n1:Int)<2)=true:=decide_eq_true (by omega)
  have d0':decide (n1<2)=true:=decide_eq_true h2;have hn11:n1=1:=by omega
  obtain⟨b1,o1,hA1,hb1,hc1⟩:=HK.out.2 (by rw[Yac,<- HN1.out];omega);have hx:=hc1 0 (.int .u32 (ws.getD 0 0)) (by rw[Y3,Ye,Yf (by rw[<- HN1.out];omega)];rfl);have hvb:=HWD.out (ws.getD 0 0) (by rw[Ye,Yf (show 0<ws.length by rw[<- HN1.out];omega)];exact Ya7 _);rw[Nat.add_zero] at hx;generalize hv:ws.getD 0 0=v at hx hvb;have HV:=Ya hv;subst hA1 hn11;clear hc1 hv h2 hlp;go_wp2_with fail
  go_ret
  exact⟨v,m,next,rfl,⟨ws,HWZ.out,by rw[<- HN1.out];decide,.inl ⟨HN1.out.symm,HV.out.symm,rfl,rfl⟩⟩,hvb,⟨Int.le_refl _,by omega⟩,⟨rfl,rfl⟩,HW.out,Yh _ _⟩
 .have d0:decide ((n1:Int)<2)=false:=decide_eq_false (by omega)
  have d0':decide (n1<2)=false:=decide_eq_false h2;have HL:=Ya (show 2<=ws.length by rw[<- HN1.out];omega);go_wp2_with fail
  go_loopw [4] (λ v7 wr=>∃i:Nat,i<=n1/\v7=.int .i64 i/\Hid (NAt wr lo b p F first half after next (S.putAt m next (ws.take i)))/\Hid (Below lo w wr)) (λ v7 _=>n1-(intOf v7).toNat)
  case atStart=>exact⟨0,Nat.zero_le _,rfl,HW,Ya (Yh _ _)⟩
  case round =>
   obtain⟨i,hi,rfl,hk,hbl⟩:=hrel;have hkr:=Zoj lo w wr HK.out hbl.out;have hcr:=Zok hkr;have hcbl:cb<wr.heap.size:=Yy hkr.1.1 hk.out.lolt;by_cases hlt:i<n1
   .have hil:i<ws.length:=by rw[<- HN1.out];exact hlt
    obtain⟨b1,o1,hA1,hb1,hc1⟩:=hkr.2 (by rw[Yac];omega);have hx:=hc1 i (.int .u32 ws[i]) (by rw[Y3,Yf hil];rfl);have hvb:=HWD.out ws[i] (Ya7 hil);have Htk:=Ya (show ws.take (i+1)=ws.take i++[ws[i]] from by rw[List.take_add_one,Yf hil];rfl);have Hln:=Ya (show(ws.take i).length=i by rw[List.length_take];omega);obtain⟨v,hv⟩:=Yx ws[i];rw[<- hv] at hx hvb Htk;obtain⟨e0,e1,e2,e3,e4⟩:=hk.out.cells;have hbl2:=hk.out.blt;have hb1l:b1<wr.heap.size:=Yy hb1 hk.out.lolt;have d1:decide ((i:Int)<(n1:Int))=true:=decide_eq_true (by omega);have p1:IntKind.i64.wrap (next+i)=next+i:=Yk _ ⟨by omega,by omega⟩;have p2:IntKind.i64.wrap (i:Int)=(i:Int):=Yk _ ⟨by omega,by omega⟩;have p3:IntKind.i64.wrap ((i:Int)+1)=(i:Int)+1:=Yk _ ⟨by omega,by omega⟩;have i3:(i:Int)<(n1:Int):=by omega
    have i4:(0:Int)<=(i:Int):=by omega
    subst hA1;clear hc1 hv hkr;go_upto_region 6 with fail
    refine Zm 14 (by kernel_rfl) (by kernel_rfl) ?_;have hE:=Zu wr;simp only[Yav,Ya2,Yaw,Yaz]
    repeat (first|go_big_quiet_step (fail))
    refine wpQuiet_nil ?_;rintro w6 ⟨⟨_,hb6⟩,rfl⟩;have HK6:=Ya (hk.out.below hb6);have HB6:=Ya (hbl.out.trans (hb6.mono hk.out.lolt));clear hE hb6 hk hbl e0 e1 e2 e3 e4 hbl2 hcr;go_wp2_with fail
    refine(Zz4 (next+i) v HK6.out hvb).mono ?_;rintro e w7 ⟨rv,rfl,hk7,ho7⟩;have HK7:Hid (NAt w7 lo b p F first half after next (S.putAt m next (ws.take (i+1)))):=Ya (by
     rw[Htk.out,Zgw,Hln.out];exact hk7)
    have HB7:=Ya (HB6.out.trans (HK6.out.lobelow ho7));clear hk7 ho7;go_wp2_with fail
    go_roundw
    case rel=>exact⟨i+1,by omega,by go_num,HK7,HB7⟩
    case measure=>simp[intOf] <;> omega
   .have hie:i=n1:=by omega
    subst hie;obtain⟨e0,e1,e2,e3,e4⟩:=hk.out.cells;have hbl2:=hk.out.blt;have d1:decide ((i:Int)<(i:Int))=false:=by simp
    have hne:cb≠b:=λ e=>by
     have h1:=hkr.1.1;have h2:=hk.out.lowb;omega
    have p1:IntKind.i64.wrap (next+i)=next+i:=Yk _ ⟨by omega,by omega⟩;have p2:IntKind.i64.wrap (next+i-i)=next:=by rw[Yk _ ⟨by omega,by omega⟩];omega
    have p3:IntKind.u32.wrap next=next:=Ya6 _ ⟨by omega,by omega⟩;have hor:bits .or .u32 (next*4) 1=4*next+1:=(Zw 2 (next*4) 1 4 (by decide) (by omega) (by omega) (by omega) (by decide) (by decide) (by decide)).trans (by omega);clear hkr;go_upto_region 7 with fail
    refine Zm 8 (by kernel_rfl) (by kernel_rfl) ?_;have hE:=Zu wr;simp only[Yav,Ya2,Yaw,Yaz]
    repeat (first|go_big_quiet_step (fail))
    refine wpQuiet_nil ?_;rintro w6 ⟨⟨_,hb6⟩,rfl⟩;have hk6:=hk.out.below hb6;have hbl6:=Ya (hbl.out.trans (hb6.mono hk.out.lolt));have hfz:w6.frozen? ⟨b,4,none⟩=false:=frozen_of_row w6 b 4 _ _ hk6.blk;have hcr6:w6.cell? ⟨cb,0,none⟩=some (.slice A1 i c1):=(hb6.cell (p:=⟨cb,0,none⟩) hcbl).trans hcr;clear hE hb6 e0 e1 e2 e3 e4 hbl2 hcr;obtain⟨e0,e1,e2,e3,e4⟩:=hk6.cells;have hbl2:=hk6.blt;obtain⟨hon,hob⟩:=hk6.onward (next+i);have HON:=Ya hon;have HOB:=Ya hob;have hcr2:(w6.setCell ⟨b,4,none⟩ (.int .i64 (next+i))).cell? ⟨cb,0,none⟩=some (.slice A1 i c1):=(World.cell?_of_block (a:=⟨cb,0,none⟩) (heap_setCell_other w6 ⟨b,4,none⟩ cb _ hne)).trans hcr6;clear hon hob hk6;go_wp2_with fail
    go_quiet (fail)
    go_wp2_with fail
    go_ret
    have h:=HON.out;rw[HN1.out,List.take_length,<- HN1.out] at h;have hLw:S.LaidW m next ws (4*next+1) (S.putAt m next ws) (next+i):=.inr ⟨HL.out,rfl,rfl,by rw[HN1.out]⟩;obtain⟨k1,k2⟩:=Zlz HWZ.out (by rw[<- HN1.out];omega) hLw ⟨n0,n9⟩;exact⟨4*next+1,S.putAt m next ws,next+i,rfl,⟨ws,HWZ.out,by rw[<- HN1.out];omega,hLw⟩,k1,k2,Znr hLw,(by repeat (first|exact h|refine NAt.drew ?_ _)),(by repeat (first|exact hbl6.out.trans HOB.out|refine below_drewN ?_ _))⟩
def Zwp (w:World)(z:Int)(e:Ending)(w':World):Prop :=
 ∃(A:Option Addr)(n c:Nat)(l:List Int),e=.returned (.tuple #[.slice A n c,.int .i64 (-1)])/\n=l.length/\n<=301/\S.Wz z l/\Reads w' w'.heap.size A (l.map (Yr .u32))/\Below w.heap.size w w'
theorem Zge (op:Int)(hop:S.isOp op)(fp fq cp cq:Nat)(Kp Kq:Nat->World->Prop)(z1 z2 z:Int)(hp:Zf5 fp cp Kp (S.am z1))(hq:Zf5 fq cq Kq (S.am z2))(h1:(if z1<0 then -z1 else z1)<65536^40)(h2:(if z2<0 then -z2 else z2)<65536^40)
 (hlaw:∀(F:List Int)(a v1 v2 n nv nu:Int)(M:S.Mach)(O Q:List S.Ob)(x y:List Int),S.az op F 2000 a->S.bn op F 2000 a M v1 v2 z1 z2 O Q n nv nu x y->∃l,S.aj (M.steps_ 5000000) (a+3)=(l,-1)/\S.Wz z l) (w:World) (hL:LVE w) (hcp:Kp w.heap.size w) (hcq:Kq w.heap.size w) :
 Calls Tryz.prog 23 #[.int .i64 op,.func (.func fp) #[] #[.pointer (some ⟨cp,0,none⟩)],.func (.func fq) #[] #[.pointer (some ⟨cq,0,none⟩)]] w (Zwp w z):=by
 refine(Z0i op hop fp fq cp cq Kp Kq _ _ hp hq w hL hcp hcq).mono ?_;rintro e w' ⟨F,a,v1,v2,n1,n2,m1,m2,A,n,c,l,code,hW,hp,hq,rfl,hn,hn2,hr,ho,hb⟩;obtain⟨O,Q,nv,nu,x,y,htwo⟩:=Z0k hW (by decide) hp hq h1 h2;obtain⟨l',e1,hz⟩:=hlaw F a v1 v2 n2 nv nu _ O Q x y hW htwo;rw[e1] at ho
 cases ho
 exact⟨A,n,c,l,rfl,hn,hn2,hz,hr,hb⟩
end
def S.au:Nat->Nat->List Int
 | 0,_=>[]
 | k+1,u=>S.au k (u/10)++[((u%10:Nat):Int)]
def S.tx (l:List Int):List UInt8:=l.map λ d=>UInt8.ofNat (48+d.toNat)
theorem Zi7:∀(k u:Nat),(S.au k u).length=k
 | 0,_=>rfl
 | k+1,u=>by rw[S.au,Yd,Zi7 k];rfl
theorem Z0m:∀(k u:Nat),∀d∈S.au k u,0<=d/\d<10
 | 0,_=>λ d hd=>by cases hd
 | k+1,u=>λ d hd=>by
  rw[S.au] at hd;rcases Y0.1 hd with h|h
  .exact Z0m k _ d h
  .rw[Yab] at h
   subst h;omega
theorem Zwq:∀(k u:Nat),S.dvB 10 (S.au k u).reverse=((u%10^k:Nat):Int)
 | 0,u=>by rw[Nat.pow_zero,Nat.mod_one];rfl
 | k+1,u=>by
  rw[S.au,List.reverse_append]
  show((u%10:Nat):Int)+10*S.dvB 10 (S.au k (u/10)).reverse=_
  rw[Zwq k,Nat.pow_succ,Nat.mul_comm,Nat.mod_mul];omega
theorem Zwr:∀k,S.tx (S.au k 0)=Ys k 48
 | 0=>rfl
 | k+1=>by
  rw[S.au,S.tx,Yau,List.replicate_succ'];exact congrArg (·++[48]) (Zwr k)
theorem Zws:∀(k u:Nat),Lib.nDigits u<=k->Ys (k-Lib.nDigits u) 48++Lib.decDigits u=S.tx (S.au k u)
 | 0,u=>λ h=>by have:=Lib.nDigits_pos u;omega
 | k+1,u=>λ h=>by
  rw[S.au,S.tx,Yau];by_cases c:u<10
  .rw[Lib.nDigits_small c,Lib.decDigits,dif_pos c,Nat.add_sub_cancel,Nat.div_eq_of_lt c]
   have:=Zwr k;rw[S.tx] at this;rw[this,Nat.mod_eq_of_lt c];rfl
  .rw[Lib.nDigits_big c] at h⊢
   have ih:=Zws k (u/10) (by omega);rw[S.tx] at ih;rw[Lib.decDigits,dif_neg c,<- ih,<- List.append_assoc,Nat.add_sub_add_right];rfl
theorem Zwt:∀(k u:Nat),1<=k->u<10^k->Lib.nDigits u<=k
 | 0,_=>λ h=>by omega
 | k+1,u=>λ _ h=>by
  by_cases c:u<10
  .rw[Lib.nDigits_small c];omega
  .rw[Lib.nDigits_big c]
   cases k with
   | zero=>exact absurd h c
   | succ k =>
    have:=Zwt (k+1) (u/10) (by omega) (by rw[Nat.pow_succ] at h;omega);omega
structure S.b8 (n v:Nat)(ps:List ByteArray)(ds:List Int):Prop where
 dig:∀d∈ds,0<=d/\d<10
 txt:(ps.reverse.map λ p=>p.data.toList).flatten=S.tx ds
 val:(n:Int)=v*10^ds.length+S.dvB 10 ds.reverse
theorem Z6i (n:Nat):S.b8 n n [] []:=⟨λ d hd=>(by cases hd),rfl,by show(n:Int)=n*10^0+0;rw[Int.pow_zero];omega⟩
theorem Zrf {n v k:Nat}{ps:List ByteArray}{ds:List Int}{p:ByteArray}(h:S.b8 n v ps ds)(hp:p.data.toList=S.tx (S.au k (v%10000)))(hk:v%10000<10^k)(h4:k=4\/v/10000=0):S.b8 n (v/10000) (ps++[p]) (S.au k (v%10000)++ds):=by
 refine⟨λ d hd=>?_,?_,?_⟩
 .rcases Y0.1 hd with h1|h1
  .exact Z0m _ _ d h1
  .exact h.dig d h1
 .rw[List.reverse_append,List.reverse_singleton,List.singleton_append,Ybz,List.flatten_cons,h.txt,hp,S.tx,S.tx,S.tx,Yau]
 .rw[List.reverse_append,Zjq,Zwq,Nat.mod_eq_of_lt hk,Yd,Zi7,List.length_reverse]
  have hv:=h.val;generalize S.dvB 10 ds.reverse=D at *;rcases h4 with rfl|h4
  .have e:(10:Int)^(4+ds.length)=10000*10^ds.length:=by rw[Int.pow_add];rfl
   rw[e];generalize (10:Int)^ds.length=P at *;rw[hv];have e2:(v:Int)=10000*((v/10000:Nat):Int)+((v%10000:Nat):Int):=by omega
   generalize ((v/10000:Nat):Int)=q at *;generalize ((v%10000:Nat):Int)=r at *;rw[e2]
   grind
  .rw[h4,hv]
   have e2:v%10000=v:=by omega
   rw[e2];generalize (10:Int)^ds.length=P;generalize (v:Int)=q
   grind
theorem Z0n {n:Nat}{ps:List ByteArray}{ds:List Int}(neg:Bool)(h:S.b8 n 0 ps ds)(hn:n≠0){s:ByteArray}(hs:s.data.toList=(if neg=true then [45] else [])++S.tx ds):∃q l,S.Tz s q neg l/\S.tz neg l=if neg=true then -(n:Int) else n:=by
 have hv:=h.val;have h0:0<ds.length:=by
  cases ds with
  | nil=>exact absurd hv (by show ¬(n:Int)=((0:Nat):Int)*10^0+0;omega)
  | cons d ds=>exact Nat.succ_pos _
 have e:s=⟨((if neg=true then [45] else [])++S.tx ds).toArray⟩:=by
  rw[<- hs]
 have ht:=Zoi (if neg=true then [45] else []) neg ds (by cases neg;exact .inl ⟨rfl,rfl⟩;exact .inr ⟨rfl,rfl⟩) h.dig h0;refine⟨_,ds.reverse,by rw[e];exact ht,?_⟩;unfold S.tz;have e2:S.dvB 10 ds.reverse=n:=by
  rw[hv]
  show _=((0:Nat):Int)*_+_
  omega
 rw[e2]
theorem tz_nought:S.Tz ⟨#[48]⟩ 0 false [0]/\S.tz false [0]=0:=⟨Zoi [] false [0] (.inl ⟨rfl,rfl⟩) (by decide) (by decide),rfl⟩
