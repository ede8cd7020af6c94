/- Parts. -/
import Derived.Test.YtfhiobkkdcdmiaaGreatDoorZBStm2
import Derived.StillTailTactics
import Derived.Laws.ResultCell
import Derived.OneCell
set_option linter.all false
set_option maxHeartbeats 1000000
open Go.Lib renaming hid->Ya,cell_of_heap->Yc,frozen_of_heap->Yan
open Nat renaming le_refl->Yb,le_trans->Y8
open List renaming length_append->Yd,length_cons->Yi,append_assoc->Yn,eq_nil_of_length_eq_zero->Y5,length_nil->Yad,flatMap_cons->Ybb
open Go.AllReady renaming cons->Yj,nil->Yp
namespace Go.Proofs.YtfhiobkkdcdmiaaGreatDoor
open Go.RowKit
set_option maxRecDepth 100000
theorem Zfl:∀k,(S.bParams k).length=k
 | 0=>rfl
 | k+1=>by rw[S.bParams,Yd,Zfl k];rfl
def BPost (r:S.BR)(w:World)(e:Ending)(w':World):Prop :=
 ∃A c,e=.returned (.tuple #[.agg #[.string r.name,.slice A (S.bItems r).length c],.int .i64 0])/\w'.ownsRow w.heap.size 74 8 (.slice A (S.bItems r).length c) (S.bItems r).length ((S.bItems r).flatMap Zc)/\Below w.heap.size w w'
theorem BPost.mk' {r:S.BR}{w w':World}{A:Option Addr}{c:Nat}{T:List S.Item}(hT:T=S.bItems r)(h:w'.ownsRow w.heap.size 74 8 (.slice A T.length c) T.length (T.flatMap Zc))(hb:Below w.heap.size w w'):BPost r w (.returned (.tuple #[.agg #[.string r.name,.slice A T.length c],.int .i64 0])) w':=by
 subst hT;exact⟨A,c,rfl,h,hb⟩
theorem Z22 (r:S.BR)(A:Option Addr)(c:Nat)(w:World)(hR:RAt2 w w.heap.size r A)(h0:S.chkB r=0)(hsz:Zhq r.body<=1000000)(hL:LVE w)(hl:(S.bItems r).length+20<=100000000) :
 Calls Tryz.prog 159 #[Zxi r A c] w (BPost r w):=by
 have Hck:=Ya (λ(W:World) (hb:Below w.heap.size w W)=>Zpi r A c W ((hR.below hb).more hb.size));have Hfr:=Ya (λ(W:World) (hb:Below w.heap.size w W)=>Z1a r A c W ((hR.below hb).more hb.size));rw[h0] at Hck;obtain⟨nm,P,L,bh,body⟩:=r;unfold Zxi at Hck Hfr⊢;simp only at Hck Hfr hsz⊢;obtain⟨N,hN⟩:=Yx body.length;rw[<- hN] at Hck Hfr⊢;have HN:=Ya hN;obtain⟨t1,t2,t3,t4⟩:=Zer w (.cells #[.string nm,.int .i64 P,.int .i64 L,.bool bh,.slice A N c] 178) (.cells #[.string ⟨#[]⟩,.slice none 0 0] 70);have HbX:=Ya t3;have HRX:=Ya t1;have HOX:=Ya t2;have hzX:w.heap.size+2<=((w.alloc (.cells #[.string nm,.int .i64 P,.int .i64 L,.bool bh,.slice A N c] 178)).alloc (.cells #[.string ⟨#[]⟩,.slice none 0 0] 70)).heap.size:=Nat.le_of_eq t4.symm;clear hN t1 t2 t3 t4;go_enter Tryz.func159,Tryz.ntmps159
 go_upto_region 1 with fail
 generalize (w.alloc (.cells #[.string nm,.int .i64 P,.int .i64 L,.bool bh,.slice A N c] 178)).alloc (.cells #[.string ⟨#[]⟩,.slice none 0 0] 70)=w2 at *;have k0:w2.cell? ⟨w.heap.size,0,none⟩=some (.string nm):=by rw[Yc HRX.out];rfl
 have k1:w2.cell? ⟨w.heap.size,1,none⟩=some (.int .i64 P):=by rw[Yc HRX.out];rfl
 have k2:w2.cell? ⟨w.heap.size,2,none⟩=some (.int .i64 L):=by rw[Yc HRX.out];rfl
 have k3:w2.cell? ⟨w.heap.size,3,none⟩=some (.bool bh):=by rw[Yc HRX.out];rfl
 have k4:w2.cell? ⟨w.heap.size,4,none⟩=some (.slice A N c):=by rw[Yc HRX.out];rfl
 go_wp2_with fail
 refine(Hck.out w2 HbX.out).mono ?_;rintro e w3 ⟨rfl,hb3⟩;have Hr3:=Ya ((hb3.block _ (by omega)).trans HRX.out);have Ho3:=Ya ((hb3.block _ (by omega)).trans HOX.out);have hz3:w.heap.size+2<=w3.heap.size:=Y8 hzX hb3.size;have HZ3:=Ya (HbX.out.trans (hb3.mono HbX.out.size));clear k0 k1 k2 k3 k4 hb3 HRX HbX HOX hzX;have k0:w3.cell? ⟨w.heap.size,0,none⟩=some (.string nm):=by rw[Yc Hr3.out];rfl
 have k1:w3.cell? ⟨w.heap.size,1,none⟩=some (.int .i64 P):=by rw[Yc Hr3.out];rfl
 have k2:w3.cell? ⟨w.heap.size,2,none⟩=some (.int .i64 L):=by rw[Yc Hr3.out];rfl
 have k3:w3.cell? ⟨w.heap.size,3,none⟩=some (.bool bh):=by rw[Yc Hr3.out];rfl
 have k4:w3.cell? ⟨w.heap.size,4,none⟩=some (.slice A N c):=by rw[Yc Hr3.out];rfl
 go_upto_region 4 with fail
 obtain⟨fr,hfrd⟩:=Yx (S.frameB ⟨nm,P,L,bh,body⟩);rw[<- hfrd] at Hfr;have Hfrd:=Ya hfrd;clear hfrd
 go_cut [5] (λ v5 wc=>∃p:Nat,v5=.pointer (some ⟨p,0,none⟩)/\Hid (CAt w3.heap.size p ⟨⟨nm,P,L,bh,body⟩,A,c,fr⟩ [] 0 wc)/\Hid (Below w3.heap.size w3 wc))
 case first =>
  refine wp_region_any (by kernel_rfl) ?_;change wpAny _ _ _ _ _ _ _ (World.drew w3);have hdb:Below w3.heap.size w3 w3.drew:=⟨rfl,rfl,rfl,Yb _,λ _ _=>rfl⟩
  generalize w3.drew=w4 at *;have Hr4:=Ya ((hdb.block _ (by omega)).trans Hr3.out);have hz4:=hdb.size;clear k0 k1 k2 k3 k4;have k0:w4.cell? ⟨w.heap.size,0,none⟩=some (.string nm):=by rw[Yc Hr4.out];rfl
  have k1:w4.cell? ⟨w.heap.size,1,none⟩=some (.int .i64 P):=by rw[Yc Hr4.out];rfl
  have k2:w4.cell? ⟨w.heap.size,2,none⟩=some (.int .i64 L):=by rw[Yc Hr4.out];rfl
  have k3:w4.cell? ⟨w.heap.size,3,none⟩=some (.bool bh):=by rw[Yc Hr4.out];rfl
  have k4:w4.cell? ⟨w.heap.size,4,none⟩=some (.slice A N c):=by rw[Yc Hr4.out];rfl
  have HF4:=Ya (Hfr.out w4 (HZ3.out.trans (hdb.mono HZ3.out.size)));refine wpAny_ready (rs:=[0,1]) (by kernel_rfl) (by simp) ?_;refine Yj rfl (λ K hK=>?_) (Yj rfl (λ K hK=>?_) Yp)
  .go_simp
   refine hK _ _ ?_;clear hK K
   (refine wpAny_ready (rs:=[1]) (by kernel_rfl) (by simp) ?_;refine Yj rfl (λ K hK=>?_) Yp;go_simp;refine hK _ _ ?_;clear hK K)
   refine wpAny_ready (rs:=[2]) (by kernel_rfl) (by simp) ?_;refine Yj rfl (λ K hK=>?_) Yp;go_simp
   refine HF4.out.mono ?_;rintro e w5 ⟨rfl,hb5⟩;go_simp
   refine hK _ _ ?_;clear hK K
   (refine wpAny_ready (rs:=[3]) (by kernel_rfl) (by simp) ?_;refine Yj rfl (λ K hK=>?_) Yp;go_simp;refine hK _ _ ?_;clear hK K)
   (refine wpAny_ready (rs:=[4]) (by kernel_rfl) (by simp) ?_;refine Yj rfl (λ K hK=>?_) Yp;go_simp;refine hK _ _ ?_;clear hK K)
   (refine wpAny_ready (rs:=[5]) (by kernel_rfl) (by simp) ?_;refine Yj rfl (λ K hK=>?_) Yp;go_simp;refine hK _ _ ?_;clear hK K)
   refine wpAny_done (by kernel_rfl) ?_ _;go_wp2_with fail
   go_meet
   have hZ5:Below w3.heap.size w3 w5:=hdb.trans (hb5.mono hdb.size);have hat:CAt w3.heap.size w5.heap.size ⟨⟨nm,P,L,bh,body⟩,A,c,fr⟩ [] 0 (w5.alloc (.cells #[.string nm,.int .i64 P,.int .i64 L,.bool bh,.slice A N c,.int .i64 fr,.slice none 0 0,.int .i64 0] 211)):=by
    refine⟨hZ5.size,.slice none 0 0,?_,rfl,Or.inl ⟨rfl,rfl⟩⟩;rw[heap_alloc_new];unfold Zg9;simp only[<- HN.out]
   exact⟨w5.heap.size,rfl,Ya hat,Ya (hZ5.alloc hZ5.size _)⟩
  .go_simp
   refine hK _ _ ?_;clear hK K;refine wpAny_ready (rs:=[0,2]) (by kernel_rfl) (by simp) ?_;refine Yj rfl (λ K hK=>?_) (Yj rfl (λ K hK=>?_) Yp)
   .go_simp
    refine hK _ _ ?_;clear hK K;refine wpAny_ready (rs:=[2]) (by kernel_rfl) (by simp) ?_;refine Yj rfl (λ K hK=>?_) Yp;go_simp
    refine HF4.out.mono ?_;rintro e w5 ⟨rfl,hb5⟩;go_simp
    refine hK _ _ ?_;clear hK K
    (refine wpAny_ready (rs:=[3]) (by kernel_rfl) (by simp) ?_;refine Yj rfl (λ K hK=>?_) Yp;go_simp;refine hK _ _ ?_;clear hK K)
    (refine wpAny_ready (rs:=[4]) (by kernel_rfl) (by simp) ?_;refine Yj rfl (λ K hK=>?_) Yp;go_simp;refine hK _ _ ?_;clear hK K)
    (refine wpAny_ready (rs:=[5]) (by kernel_rfl) (by simp) ?_;refine Yj rfl (λ K hK=>?_) Yp;go_simp;refine hK _ _ ?_;clear hK K)
    refine wpAny_done (by kernel_rfl) ?_ _;go_wp2_with fail
    go_meet
    have hZ5:Below w3.heap.size w3 w5:=hdb.trans (hb5.mono hdb.size);have hat:CAt w3.heap.size w5.heap.size ⟨⟨nm,P,L,bh,body⟩,A,c,fr⟩ [] 0 (w5.alloc (.cells #[.string nm,.int .i64 P,.int .i64 L,.bool bh,.slice A N c,.int .i64 fr,.slice none 0 0,.int .i64 0] 211)):=by
     refine⟨hZ5.size,.slice none 0 0,?_,rfl,Or.inl ⟨rfl,rfl⟩⟩;rw[heap_alloc_new];unfold Zg9;simp only[<- HN.out]
    exact⟨w5.heap.size,rfl,Ya hat,Ya (hZ5.alloc hZ5.size _)⟩
   .go_simp
    refine HF4.out.mono ?_;rintro e w5 ⟨rfl,hb5⟩;go_simp
    refine hK _ _ ?_;clear hK K;have Hr5:=Ya ((hb5.block _ (by omega)).trans Hr4.out);clear k0 k1 k2 k3 k4;have k0:w5.cell? ⟨w.heap.size,0,none⟩=some (.string nm):=by rw[Yc Hr5.out];rfl
    have k1:w5.cell? ⟨w.heap.size,1,none⟩=some (.int .i64 P):=by rw[Yc Hr5.out];rfl
    have k2:w5.cell? ⟨w.heap.size,2,none⟩=some (.int .i64 L):=by rw[Yc Hr5.out];rfl
    have k3:w5.cell? ⟨w.heap.size,3,none⟩=some (.bool bh):=by rw[Yc Hr5.out];rfl
    have k4:w5.cell? ⟨w.heap.size,4,none⟩=some (.slice A N c):=by rw[Yc Hr5.out];rfl
    (refine wpAny_ready (rs:=[0]) (by kernel_rfl) (by simp) ?_;refine Yj rfl (λ K hK=>?_) Yp;go_simp;refine hK _ _ ?_;clear hK K)
    (refine wpAny_ready (rs:=[3]) (by kernel_rfl) (by simp) ?_;refine Yj rfl (λ K hK=>?_) Yp;go_simp;refine hK _ _ ?_;clear hK K)
    (refine wpAny_ready (rs:=[4]) (by kernel_rfl) (by simp) ?_;refine Yj rfl (λ K hK=>?_) Yp;go_simp;refine hK _ _ ?_;clear hK K)
    (refine wpAny_ready (rs:=[5]) (by kernel_rfl) (by simp) ?_;refine Yj rfl (λ K hK=>?_) Yp;go_simp;refine hK _ _ ?_;clear hK K)
    refine wpAny_done (by kernel_rfl) ?_ _;go_wp2_with fail
    go_meet
    have hZ5:Below w3.heap.size w3 w5:=hdb.trans (hb5.mono hdb.size);have hat:CAt w3.heap.size w5.heap.size ⟨⟨nm,P,L,bh,body⟩,A,c,fr⟩ [] 0 (w5.alloc (.cells #[.string nm,.int .i64 P,.int .i64 L,.bool bh,.slice A N c,.int .i64 fr,.slice none 0 0,.int .i64 0] 211)):=by
     refine⟨hZ5.size,.slice none 0 0,?_,rfl,Or.inl ⟨rfl,rfl⟩⟩;rw[heap_alloc_new];unfold Zg9;simp only[<- HN.out]
    exact⟨w5.heap.size,rfl,Ya hat,Ya (hZ5.alloc hZ5.size _)⟩
 case rest =>
  obtain⟨p,rfl,HC,HB⟩:=hcut;obtain⟨-,p0,p1,p2,p3,hkb⟩:=Zii h0;simp only at p0 p1 p2 p3 hkb;have hfe:S.frameB ⟨nm,P,L,bh,body⟩=L+15:=by show(if _ then _ else _)=_;rw[if_neg (by simpa using h0)]
  have hfr1:fr=L+15:=by rw[Hfrd.out,hfe]
  have hO:HOk ⟨⟨nm,P,L,bh,body⟩,A,c,fr⟩:=⟨by show 0<=fr;omega,by show fr<=1000;omega,by show 0<=L;omega,by show L<=200;omega⟩
  have hT:S.bItems ⟨nm,P,L,bh,body⟩=[S.bL nm,S.bI 25 0 28 31 0]++S.bParams P.toNat++[S.bI 15 28 28 0 fr]++(bSs ⟨⟨nm,P,L,bh,body⟩,A,c,fr⟩ body 0).1++S.bBack fr bh:=by
   show([S.bL nm,S.bI 25 0 28 31 0]++S.bParams P.toNat++[S.bI 15 28 28 0 (S.frameB _)])++(S.bStmts (S.frameB _) L bh body 0).1++S.bBack (S.frameB _) bh=_
   rw[<- Hfrd.out]
  have hTl:(S.bItems ⟨nm,P,L,bh,body⟩).length=2+P.toNat+1+(bSs ⟨⟨nm,P,L,bh,body⟩,A,c,fr⟩ body 0).1.length+(S.bBack fr bh).length:=by
   rw[hT];simp only[Yd,Yi,Yad,Zfl]
  have HT:=Ya hT;rw[hTl] at hl;have HR:=Ya hR.body;have HZc:=Ya (HZ3.out.trans (HB.out.mono HZ3.out.size));have HLc:=Ya (hL.on HZc.out);have Hrc:=Ya ((HB.out.block _ (by omega)).trans Hr3.out);have Hoc:=Ya ((HB.out.block _ (by omega)).trans Ho3.out);have hbc:=HB.out.size;have h3B:3<=w3.heap.size:=Y8 hL.size (Y8 (by omega) hz3);have HRB:=Ya ((hR.body.below HZ3.out).more HZ3.out.size);obtain⟨B0,hB0⟩:=Yx w3.heap.size;rw[<- hB0] at HC HB hbc h3B hz3 HRB;obtain⟨h,hh⟩:∃h:CH,h=⟨⟨nm,P,L,bh,body⟩,A,c,fr⟩:=⟨_,rfl⟩
  rw[<- hh] at HC hO hl HT;have Hh:=Ya hh;have k0:wc.cell? ⟨w.heap.size,0,none⟩=some (.string nm):=by rw[Yc Hrc.out];rfl
  clear hTl hT hfe hh hfr1 k1 k2 k3 k4 hR hL h0 Hck Hfr Hr3 Ho3;have Hc1:=Ya (Zil HC.out hbc (by simp) nm);go_wp2_with fail
  refine Hc1.out.mono ?_;rintro e w5 ⟨rfl,g1,g2⟩;have hb5:B0<=w5.heap.size:=by have:=g2.size;omega
  have Hc2:=Ya (Zbx g1 hb5 (by simp) 25 0 28 31 0);go_wp2_with fail
  refine Hc2.out.mono ?_;rintro e w6 ⟨rfl,g3,g4⟩;have hb6:B0<=w6.heap.size:=by have:=g4.size;omega
  have HK6:=Ya (g2.trans g4);have Hr6:=Ya (HK6.out.keep _ _ _ _ Hrc.out (by decide) (by decide));have k1:w6.cell? ⟨w.heap.size,1,none⟩=some (.int .i64 P):=by rw[Yc Hr6.out];rfl
  have HC6:=Ya g3;clear g1 g2 g3 g4 Hc1 Hc2 k0;have Hhf:=Ya (show h.fr=fr from by rw[Hh.out]);go_wp2_with fail
  go_loopw [29] (λ v29 wr=>∃k:Nat,k<=P.toNat/\v29=.int .i64 k/\Hid (CAt B0 p h ([S.bL nm,S.bI 25 0 28 31 0]++S.bParams k) 0 wr)/\Hid (CK B0 w6 wr)) (λ v29 _=>P.toNat-(intOf v29).toNat)
  case atStart=>exact⟨0,by omega,rfl,Ya (by simpa[S.bParams] using HC6.out),Ya (CK.refl _ _)⟩
  case round =>
   obtain⟨k,hk,rfl,HC2,HK2⟩:=hrel;obtain⟨wo,hwo⟩:=Yx wr;subst hwo;have hso:B0<=wo.heap.size:=by have:=HK2.out.size;omega
   have hl2:([S.bL nm,S.bI 25 0 28 31 0]++S.bParams k).length=2+k:=by simp only[Yd,Yi,Yad,Zfl]
   by_cases hlt:k<P.toNat
   .have hkP:(k:Int)<P:=by omega
    have Hlo:=Ya (Zpo (k:Int) (by omega) wo);have Hc:=Ya (Zbx HC2.out hso (by rw[hl2];omega) 25 0 28 (4+(k:Int)) (1+(k:Int)));clear hl2;go_wp2_with fail
    refine Hlo.out.mono ?_;rintro e w3' ⟨rfl,rfl⟩;go_wp2_with fail
    refine Hc.out.mono ?_;rintro e w7 ⟨rfl,g1,g2⟩;go_wp2_with fail
    go_roundw
    case rel=>exact⟨k+1,by omega,by go_num,Ya (by rw[S.bParams,<- Yn];exact g1),Ya (HK2.out.trans g2)⟩
    case measure=>simp[intOf];omega
   .have hkP:¬(k:Int)<P:=by omega
    have hkN:P.toNat=k:=by omega
    have Hr7:=Ya (HK2.out.keep _ _ _ _ Hr6.out (by decide) (by decide));have c5:=HC2.out.cell_fr;rw[Hhf.out] at c5;have Hc:=Ya (Zbx HC2.out hso (by rw[hl2];omega) 15 28 28 0 fr);rw[<- hkN] at hl2 Hc;clear HC2 k1;go_wp2_with fail
    refine Hc.out.mono ?_;rintro e w7 ⟨rfl,g1,g2⟩;have hs7:B0<=w7.heap.size:=by have:=g2.size;omega
    have HK7:=Ya (HK6.out.trans (HK2.out.trans g2));have Hr8:=Ya (g2.keep _ _ _ _ Hr7.out (by decide) (by decide));have k4:w7.cell? ⟨w.heap.size,4,none⟩=some (.slice A N c):=by rw[Yc Hr8.out];rfl
    have hl7:([S.bL nm,S.bI 25 0 28 31 0]++S.bParams P.toNat++[S.bI 15 28 28 0 fr]).length=2+P.toNat+1:=by rw[Yd,hl2];rfl
    obtain⟨zs,hzs⟩:=Yx ([S.bL nm,S.bI 25 0 28 31 0]++S.bParams P.toNat++[S.bI 15 28 28 0 fr]);rw[<- hzs] at g1 hl7 HT;have HC7:=Ya g1;have HL7:=Ya (HLc.out.keep HK7.out.below h3B);have HB7:=Ya (HRB.out.below (HB.out.trans HK7.out.below));have HK07:=Ya (HK7.out);clear hzs g1 g2 hl2 c5 HK2 Hr7 HK6 Hr6 HC6 Hc;have hle:=Zdm body;rw[<- HN.out] at hle;have hbh:h.r.behind=bh:=by rw[Hh.out]
    have hbk:=Zm1 fr bh;have hhk:S.chkSs h.r.locals body 0=0:=by rw[Hh.out];exact hkb
    have Hih:=Ya (Z3p (p:=p) hO h3B 1000000 (Yb _));go_wp2_with fail
    go_loopw [50] (λ v50 wr=>∃k:Nat,k<=N/\v50=.int .i64 k/\Hid (CAt B0 p h (zs++(bSs h (body.take k) 0).1) (bSs h (body.take k) 0).2 wr)/\Hid (CK B0 w7 wr)) (λ v50 _=>N-(intOf v50).toNat)
    case atStart=>exact⟨0,by omega,rfl,Ya (by simpa[S.bStmts] using HC7.out),Ya (CK.refl _ _)⟩
    case round =>
     obtain⟨k2,hk2,rfl,HC3,HK3⟩:=hrel;obtain⟨wo3,hwo3⟩:=Yx wr;subst hwo3;have hs3:B0<=wo3.heap.size:=by have:=HK3.out.size;omega
     by_cases hlt2:k2<N
     .obtain⟨s1,hs1⟩:∃s1,body[k2]?=some s1:=⟨_,List.getElem?_eq_getElem (by rw[<- HN.out];exact hlt2)⟩
      obtain⟨b',off',A1',c1',A2',c2',A3',c3',A4',c4',M1,M2,M3,M4,op',en',nm',rfl,hbB',e0,e1,e2,e3,e4,e5,e6,hrec⟩:=Zep Hih.out h3B hsz hhk (HB7.out.below HK3.out.below) hs1 HC3.out hs3 (HL7.out.keep HK3.out.below h3B) (by omega) (by omega) (by rw[hl7];omega);have hbr':b'<wo3.heap.size:=by omega
      have hbY:Below wo3.heap.size wo3 (wo3.alloc (.cells #[.int .i64 op',.int .i64 en',.string nm',.slice A1' M1 c1',.slice A2' M2 c2',.slice A3' M3 c3',.slice A4' M4 c4'] 115)):=(Below.refl _ _).alloc (Yb _) _;have Hrec:=Ya (hrec _ hbY);have HbY:=Ya (CK.of hbY hs3);clear hrec hbY hs1 hbh hl7;go_wp2_with fail
      refine Hrec.out.mono ?_;rintro e w8 ⟨rfl,g1,g2⟩;go_wp2_with fail
      go_roundw
      case rel=>exact⟨k2+1,by omega,by go_num,Ya g1,Ya (HK3.out.trans (HbY.out.trans g2))⟩
      case measure=>simp[intOf];omega
     .have hkN2:N=k2:=by omega
      subst hkN2;have ht:body.take N=body:=by rw[HN.out,List.take_length]
      rw[ht] at HC3;have Hb:=Ya (Zzv HC3.out hs3 (by rw[Yd,hl7];omega) hO);rw[Hhf.out,hbh] at Hb;have Hhfx:=Ya hbh;clear ht hbh hl7;go_wp2_with fail
      refine Hb.out.mono ?_;rintro e w8 ⟨rfl,g1,g2⟩;have hs8:B0<=w8.heap.size:=by have:=g2.size;omega
      have HK8:=Ya (HK07.out.trans (HK3.out.trans g2));have Hr9:=Ya (HK8.out.keep _ _ _ _ Hrc.out (by decide) (by decide));have Ho9:=Ya (HK8.out.keep _ _ _ _ Hoc.out (by decide) (by decide));have k0:w8.cell? ⟨w.heap.size,0,none⟩=some (.string nm):=by rw[Yc Hr9.out];rfl
      have j0:w8.cell? ⟨w.heap.size+1,0,none⟩=some (.string ⟨#[]⟩):=by rw[Yc Ho9.out];rfl
      have j1:w8.cell? ⟨w.heap.size+1,1,none⟩=some (.slice none 0 0):=by rw[Yc Ho9.out];rfl
      have f0:w8.frozen? ⟨w.heap.size+1,0,none⟩=false:=Yan Ho9.out 0;have f1:w8.frozen? ⟨w.heap.size+1,1,none⟩=false:=Yan Ho9.out 1;obtain⟨hlow,v,hkp,hov⟩:=g1;rw[Yn,<- Yn] at hov;have hTT:(zs++(bSs h body 0).1)++S.bBack fr bh=S.bItems ⟨nm,P,L,bh,body⟩:=HT.out.symm;have c6:w8.cell? ⟨p,6,none⟩=some v:=by rw[Yc hkp];rfl
      obtain⟨A',cc',rfl⟩:=Zb hov;rw[hTT] at hov c6;have Hov:=Ya hov;have Hkp:=Ya hkp;have HZ8:=Ya (HZc.out.trans (HK8.out.below.mono (by omega)));clear hov hkp hTT;obtain⟨T,hTg⟩:=Yx (S.bItems ⟨nm,P,L,bh,body⟩);rw[<- hTg] at Hov c6;have HTg:=Ya hTg;clear hTg;go_upto_region 19 with fail
      go_still_tail 7,(by kernel_rfl)
      go_wp2_with fail
      have hnq:(Value.slice A' T.length cc').ownBlock≠some (w.heap.size+1):=Zbi Hov.out Ho9.out (by decide)
      (try simp only[Exit.inBlock,Exit.then])
      refine bodyPost_ret (v:=.tuple #[.agg #[.string nm,.slice A' T.length cc'],.int .i64 0]) (by rw[results_cell_tmp rfl];go_simp) rfl ?_;have hZ9:Below w.heap.size w ((w8.setCell ⟨w.heap.size+1,0,none⟩ (.string nm)).setCell ⟨w.heap.size+1,1,none⟩ (.slice A' T.length cc')).drew:=((HZ8.out.setCell (p:=⟨w.heap.size+1,0,none⟩) (by show w.heap.size<=w.heap.size+1;omega) _).setCell (p:=⟨w.heap.size+1,1,none⟩) (by show w.heap.size<=w.heap.size+1;omega) _).trans ⟨rfl,rfl,rfl,Yb _,λ _ _=>rfl⟩;refine BPost.mk' HTg.out ?_ hZ9;have ho9:=ownsRow_setCell_other (a:=⟨w.heap.size+1,1,none⟩) (ownsRow_setCell_other (a:=⟨w.heap.size+1,0,none⟩) Hov.out hnq (.string nm)) hnq (.slice A' T.length cc');exact Z5 (Zd ho9 ⟨rfl,rfl,rfl,Yb _,λ _ _=>rfl⟩) (by omega)
theorem Zw9 (r:S.BR)(A:Option Addr)(c:Nat)(w:World)(hR:RAt2 w w.heap.size r A)(h0:S.chkB r≠0) :
 Calls Tryz.prog 159 #[Zxi r A c] w λ e w'=>e=.returned (.tuple #[.agg #[.string ⟨#[]⟩,.slice none 0 0],.int .i64 (S.chkB r)])/\Below w.heap.size w w':=by
 have Hck:=Ya (λ(W:World) (hb:Below w.heap.size w W)=>Zpi r A c W ((hR.below hb).more hb.size));obtain⟨nm,P,L,bh,body⟩:=r;unfold Zxi at Hck⊢;simp only at Hck⊢;generalize S.chkB ⟨nm,P,L,bh,body⟩=κ at *;have hne:(κ != 0)=true:=by simp[h0]
 obtain⟨N,hN⟩:=Yx body.length;rw[<- hN] at Hck⊢;have HN:=Ya hN;obtain⟨t1,t2,t3,t4⟩:=Zer w (.cells #[.string nm,.int .i64 P,.int .i64 L,.bool bh,.slice A N c] 178) (.cells #[.string ⟨#[]⟩,.slice none 0 0] 70);have HbX:=Ya t3;have HRX:=Ya t1;have HOX:=Ya t2;have hzX:w.heap.size+2<=((w.alloc (.cells #[.string nm,.int .i64 P,.int .i64 L,.bool bh,.slice A N c] 178)).alloc (.cells #[.string ⟨#[]⟩,.slice none 0 0] 70)).heap.size:=Nat.le_of_eq t4.symm;clear hN t1 t2 t3 t4;go_enter Tryz.func159,Tryz.ntmps159
 go_upto_region 1 with fail
 generalize (w.alloc (.cells #[.string nm,.int .i64 P,.int .i64 L,.bool bh,.slice A N c] 178)).alloc (.cells #[.string ⟨#[]⟩,.slice none 0 0] 70)=w2 at *;have k0:w2.cell? ⟨w.heap.size,0,none⟩=some (.string nm):=by rw[Yc HRX.out];rfl
 have k1:w2.cell? ⟨w.heap.size,1,none⟩=some (.int .i64 P):=by rw[Yc HRX.out];rfl
 have k2:w2.cell? ⟨w.heap.size,2,none⟩=some (.int .i64 L):=by rw[Yc HRX.out];rfl
 have k3:w2.cell? ⟨w.heap.size,3,none⟩=some (.bool bh):=by rw[Yc HRX.out];rfl
 have k4:w2.cell? ⟨w.heap.size,4,none⟩=some (.slice A N c):=by rw[Yc HRX.out];rfl
 clear hR h0;go_wp2_with fail
 refine(Hck.out w2 HbX.out).mono ?_;rintro e w3 ⟨rfl,hb3⟩;have Ho3:=Ya ((hb3.block _ (by omega)).trans HOX.out);have j0:w3.cell? ⟨w.heap.size+1,0,none⟩=some (.string ⟨#[]⟩):=by rw[Yc Ho3.out];rfl
 have j1:w3.cell? ⟨w.heap.size+1,1,none⟩=some (.slice none 0 0):=by rw[Yc Ho3.out];rfl
 have f0:w3.frozen? ⟨w.heap.size+1,0,none⟩=false:=Yan Ho3.out 0;have f1:w3.frozen? ⟨w.heap.size+1,1,none⟩=false:=Yan Ho3.out 1;have HZ3:=Ya (HbX.out.trans (hb3.mono HbX.out.size));clear k0 k1 k2 k3 k4 hb3 HRX HbX HOX hzX;go_wp2_with fail
 (try simp only[Exit.inBlock,Exit.then])
 refine bodyPost_ret (v:=.tuple #[.agg #[.string ⟨#[]⟩,.slice none 0 0],.int .i64 κ]) (by rw[results_cell_tmp rfl];go_simp) rfl ⟨rfl,?_⟩;exact(HZ3.out.setCell (p:=⟨w.heap.size+1,0,none⟩) (by show w.heap.size<=w.heap.size+1;omega) _).setCell (p:=⟨w.heap.size+1,1,none⟩) (by show w.heap.size<=w.heap.size+1;omega) _
section
namespace S
def decEs:Nat->List AV->Option (List BE)
 | 0,_=>none
 | _+1,[]=>some []
 | n+1,.int .i64 op::.int .i64 m::.str name::.row k cs::r=>match decEs n cs,decEs n r with
  | some ks,some rs=>if k=ks.length/\name.size<=1000/\ks.length<=1000 then some (.mk op m name ks::rs) else none
  | _,_=>none
 | _,_=>none
def decIs:List AV->Option (List Int)
 | []=>some []
 | .int .i64 n::r=>match decIs r with
  | some ns=>some (n::ns)
  | none=>none
 | _=>none
def decSs:Nat->List AV->Option (List BS)
 | 0,_=>none
 | _+1,[]=>some []
 | n+1,.int .i64 op::.int .i64 m::.str name::.row k1 c1::.row k2 c2::.row k3 c3::.row k4 c4::r=>match decEs n c1,decIs c2,decSs n c3,decSs n c4,decSs n r with
  | some es,some ns,some bs,some ls,some rs=>if k1=es.length/\k2=ns.length/\k3=bs.length/\k4=ls.length/\name.size<=1000/\es.length<=1000/\ns.length<=1000/\bs.length<=1000/\ls.length<=1000 then some (.mk op m name es ns bs ls::rs) else none
  | _,_,_,_,_=>none
 | _,_=>none
def decR:AV->Option BR
 | .agg [.str name,.int .i64 p,.int .i64 l,.bool bh,.row k cs]=>match decSs 400 cs with
  | some body=>if k=body.length/\name.size<=1000/\body.length<=1000/\Zhq body<=1000000 then some ⟨name,p,l,bh,body⟩ else none
  | none=>none
 | _=>none
def encItem (x:Item):List AV:=[.int .i64 x.kind,.int .i64 x.inst.op,.int .i64 x.inst.d,.int .i64 x.inst.a,.int .i64 x.inst.b,.int .i64 x.inst.imm,.str x.label,.int .u32 x.word]
def encItems (l:List Item):List AV:=l.flatMap encItem
def encObj (name:ByteArray)(items:List Item):List AV:=[.str name,.row items.length (encItems items)]
end S
section
variable {H:Zx}{w:World}{B:Nat}(hB:∀b k,H b=some k->b<B)
include hB
theorem Zg1:∀(n:Nat) {cs:List S.AV} {l:List S.BE} {b o:Nat},S.decEs n cs=some l->RepC H w cs b o->EKids w B b o l
 | 0,cs,l,b,o,h,_=>by simp[S.decEs] at h
 | n+1,cs,l,b,o,h,hc=>by
  unfold S.decEs at h
  split at h
  .cases h
  .cases h
   rw[EKids];trivial
  .rename_i n' op m name k ds r hq
   split at h
   .rename_i ks rs h1 h2
    rw[show n'=n from(Nat.succ.inj hq).symm] at h1 h2
    split at h
    .rename_i hh
     obtain⟨hk,hn,hks⟩:=hh
     cases h
     rw[RepC,RepC,RepC,RepC] at hc;obtain⟨_,⟨v1,hv1,r1⟩,_,⟨v2,hv2,r2⟩,_,⟨v3,hv3,r3⟩,_,⟨v4,hv4,r4⟩,hr⟩:=hc;rw[RepV] at r1;rw[RepV] at r2;rw[RepV] at r3;rw[RepV] at r4;subst r1 r2 r3;obtain⟨A,c,rfl,h0,hA,hds⟩:=r4;rw[EKids,ECell];refine⟨⟨hv1,hv2,hv3,by simp only[maxLen];omega,by simp only[maxLen];omega,A,c,by rw[<- hk];exact hv4,?_⟩,Zg1 n h2 hr⟩;rcases hds with rfl|⟨b',o',k',rfl,hH,_,hcc⟩
     .refine .inl ?_
      cases n with
      | zero=>simp[S.decEs] at h1
      | succ n=>simp[S.decEs] at h1;exact h1
     .exact .inr ⟨b',o',rfl,hB b' k' hH,Zg1 n h1 hcc⟩
    .cases h
   .cases h
  .cases h
omit hB in
theorem Zkz:∀{cs:List S.AV} {l:List Int} {b o:Nat},S.decIs cs=some l->RepC H w cs b o->∀i x,l[i]?=some x->w.cell? ⟨b,o+i,none⟩=some (.int .i64 x)
 | [],l,b,o,h,_,i,x,hx=>by
  simp[S.decIs] at h;subst h;simp at hx
 | y::r,l,b,o,h,hc,i,x,hx=>by
  unfold S.decIs at h
  split at h
  .rename_i heq;cases heq
  .rename_i n r' heq
   cases heq
   split at h
   .rename_i ns h1
    cases h
    rw[RepC] at hc;obtain⟨_,⟨v,hv,hr⟩,hcr⟩:=hc;rw[RepV] at hr;subst hr
    cases i with
    | zero=>simp at hx;subst hx;exact hv
    | succ i =>
     rw[show o+(i+1)=o+1+i by omega];exact Zkz h1 hcr i x (by simpa using hx)
   .cases h
  .cases h
omit hB in
theorem Zxa {n:Nat}{l:List S.BE}(h:S.decEs n []=some l):l=[]:=by
 cases n with
 | zero=>simp[S.decEs] at h
 | succ n=>simp[S.decEs] at h;exact h
omit hB in
theorem Zjl {n:Nat}{l:List S.BS}(h:S.decSs n []=some l):l=[]:=by
 cases n with
 | zero=>simp[S.decSs] at h
 | succ n=>simp[S.decSs] at h;exact h
theorem Zez:∀(n:Nat) {cs:List S.AV} {l:List S.BS} {b o:Nat},S.decSs n cs=some l->RepC H w cs b o->SKids w B b o l
 | 0,cs,l,b,o,h,_=>by simp[S.decSs] at h
 | n+1,cs,l,b,o,h,hc=>by
  unfold S.decSs at h
  split at h
  .cases h
  .cases h
   rw[SKids];trivial
  .rename_i n' op m name k1 c1 k2 c2 k3 c3 k4 c4 r hq
   split at h
   .rename_i es ns bs ls rs h1 h2 h3 h4 h5
    rw[show n'=n from(Nat.succ.inj hq).symm] at h1 h3 h4 h5
    split at h
    .rename_i hh
     obtain⟨q1,q2,q3,q4,q5,q6,q7,q8,q9⟩:=hh
     cases h
     rw[RepC,RepC,RepC,RepC,RepC,RepC,RepC] at hc;obtain⟨_,⟨v1,hv1,r1⟩,_,⟨v2,hv2,r2⟩,_,⟨v3,hv3,r3⟩,_,⟨v4,hv4,r4⟩,_,⟨v5,hv5,r5⟩,_,⟨v6,hv6,r6⟩,_,⟨v7,hv7,r7⟩,hr⟩:=hc;rw[RepV] at r1;rw[RepV] at r2;rw[RepV] at r3;rw[RepV] at r4;rw[RepV] at r5;rw[RepV] at r6;rw[RepV] at r7;subst r1 r2 r3;obtain⟨A4,a4,rfl,_,_,hd4⟩:=r4;obtain⟨A5,a5,rfl,_,_,hd5⟩:=r5;obtain⟨A6,a6,rfl,_,_,hd6⟩:=r6;obtain⟨A7,a7,rfl,_,_,hd7⟩:=r7;rw[SKids,SCell];refine⟨⟨hv1,hv2,hv3,by simp only[maxLen];omega,by simp only[maxLen];omega,by simp only[maxLen];omega,by simp only[maxLen];omega,by simp only[maxLen];omega,⟨A4,a4,by rw[<- q1];exact hv4,?_⟩,⟨A5,a5,by rw[<- q2];exact hv5,?_⟩,⟨A6,a6,by rw[<- q3];exact hv6,?_⟩,⟨A7,a7,by rw[<- q4];exact hv7,?_⟩⟩,Zez n h5 hr⟩
     .rcases hd4 with rfl|⟨b',o',k',rfl,hH,_,hcc⟩
      .exact .inl (Zxa h1)
      .exact .inr ⟨b',o',rfl,hB b' k' hH,Zg1 hB n h1 hcc⟩
     .intro hpos
      rcases hd5 with rfl|⟨b',o',k',rfl,hH,_,hcc⟩
      .simp[S.decIs] at h2
       subst h2;simp at hpos
      .exact⟨b',o',rfl,hB b' k' hH,Zkz h2 hcc⟩
     .rcases hd6 with rfl|⟨b',o',k',rfl,hH,_,hcc⟩
      .exact .inl (Zjl h3)
      .exact .inr ⟨b',o',rfl,hB b' k' hH,Zez n h3 hcc⟩
     .rcases hd7 with rfl|⟨b',o',k',rfl,hH,_,hcc⟩
      .exact .inl (Zjl h4)
      .exact .inr ⟨b',o',rfl,hB b' k' hH,Zez n h4 hcc⟩
    .cases h
   .cases h
  .cases h
theorem Z23 {x:S.AV}{r:S.BR}{v:Value}(h:S.decR x=some r)(hv:RepV H w x v):∃A c,v=Zxi r A c/\RAt2 w B r A:=by
 unfold S.decR at h
 split at h
 .rename_i name p l bh k cs
  split at h
  .rename_i body h1
   split at h
   .rename_i hh
    obtain⟨hk,hn,hb,hsz⟩:=hh
    cases h
    rw[RepV] at hv;obtain⟨vs,rfl,hl⟩:=hv;rw[RepL] at hl;obtain⟨v1,r1,rfl,_,q1,hl⟩:=hl;rw[RepL] at hl;obtain⟨v2,r2,rfl,_,q2,hl⟩:=hl;rw[RepL] at hl;obtain⟨v3,r3,rfl,_,q3,hl⟩:=hl;rw[RepL] at hl;obtain⟨v4,r4,rfl,_,q4,hl⟩:=hl;rw[RepL] at hl;obtain⟨v5,r5,rfl,_,q5,hl⟩:=hl;rw[RepL] at hl;subst hl;rw[RepV] at q1;rw[RepV] at q2;rw[RepV] at q3;rw[RepV] at q4;rw[RepV] at q5;subst q1 q2 q3 q4;obtain⟨A,c,rfl,_,_,hd⟩:=q5;refine⟨A,c,by unfold Zxi;rw[hk],⟨by show name.size<=_;simp only[maxLen];omega,?_,by show Zhq body<=_;omega⟩⟩;rcases hd with rfl|⟨b',o',k',rfl,hH,_,hcc⟩
    .exact .inl (Zjl h1)
    .exact .inr ⟨b',o',rfl,hB b' k' hH,Zez hB 400 h1 hcc⟩
   .cases h
  .cases h
 .cases h
end
theorem Zhl (H:Zx)(w:World):∀l:List S.Item,RepL H w (S.encItems l) (l.flatMap Zc)
 | []=>by unfold S.encItems;rw[List.flatMap_nil,RepL];rfl
 | x::r=>by
  unfold S.encItems;rw[Ybb,Ybb];refine RepL.append ?_ (Zhl H w r);unfold S.encItem Zc
  repeat (rw[RepL];refine⟨_,_,rfl,rfl,by rw[RepV],?_⟩)
  rw[RepL]
theorem Zjm (l:List S.Item):(S.encItems l).length=l.length*8:=by
 unfold S.encItems
 induction l with
 | nil=>rfl
 | cons x r ih=>rw[Ybb,Yd,ih,Yi];simp[S.encItem];omega
namespace S
def buildA (x:AV):Option (AV×Tail):=match decR x with
 | some r=>if chkB r=0 then(if Zhq r.body<=1000000/\(bItems r).length<=1000000 then some (.tup [.agg (encObj r.name (bItems r)),.int .i64 0],none) else none)
  else some (.tup [.agg [.str ⟨#[]⟩,.row 0 []],.int .i64 (chkB r)],none)
 | none=>none
def itoaA (x:AV):Option (AV×Tail):=match x with
 | .int .i64 n=>if -9223372036854775808<=n/\n<=9223372036854775807 then some (.str ⟨(itoa n).toArray⟩,none) else none
 | _=>none
def orcB (f:FuncId)(xs:List AV):Option (AV×Tail) :=
 if f=85 then(match xs with | [x]=>itoaA x|_=>none) else if f=159 then(match xs with | [x]=>buildA x|_=>none) else none
end S
theorem Z24 {H:Zx}{w w':World}{n:Nat}{A:Option Addr}{c:Nat}{t:TypeId}{z:Nat}{cs:List S.AV}{xs:List Value}(hbnd:∀b k,H b=some k->Bk w b)(hb:Below w.heap.size w w')
 (ho:w'.ownsRow w.heap.size t z (.slice A n c) n xs) (hx:∀H w,RepL H w cs xs) (hz:0<z):∃H':Zx,(∀b,b<w.heap.size->H' b=H b)/\(∀b k,H' b=some k->Bk w' b)/\RepV H' w' (.row n cs) (.slice A n c):=by
 have hlen:cs.length=n*z:=by rw[<- ho.1];exact(RepL.length (hx H w)).symm
 rcases ho.2 with⟨e,rfl⟩|⟨g,cap,cur,e,hg,hcur,hn,hcm,hsz,htake⟩
 .cases e
  refine⟨H,λ _ _=>rfl,λ b k hk=>(hbnd b k hk).below hb,?_⟩;rw[RepV];exact⟨none,0,rfl,λ _=>Y5 (by rw[hlen];simp),λ _=>rfl,.inl (Y5 (by rw[hlen];simp))⟩
 .cases e
  refine⟨λ b=>if b=g then some cs.length else H b,λ b hb'=>by simp only;rw[if_neg (by omega)],λ b k hk=>?_,?_⟩
  .simp only at hk
   by_cases h:b=g
   .rw[h];exact⟨_,_,hcur⟩
   .rw[if_neg h] at hk;exact(hbnd b k hk).below hb
  .rw[RepV]
   refine⟨_,_,rfl,λ h0=>Y5 (by rw[hlen,h0];simp),λ h0=>(by cases h0),.inr ⟨g,0,cs.length,rfl,by simp,by omega,Zjf (hx _ _) λ j u hj=>?_⟩⟩;rw[Yc hcur,Nat.zero_add];have hj2:j<n*z:=by rw[<- ho.1];exact(List.getElem?_eq_some_iff.1 hj).1
   rw[<- htake,List.getElem?_take,if_pos hj2] at hj
   simpa using hj
theorem Zqe {x:S.AV}{r:S.AV}{y:S.Tail}(h:S.buildA x=some (r,y)):AFn Tryz.prog LVE 159 [x] r y:=by
 intro H w vs hbnd hL hrep;rw[RepT] at hrep;obtain⟨v,us,rfl,hv,hus⟩:=hrep;rw[RepT] at hus;subst hus;unfold S.buildA at h
 split at h
 .rename_i br hbr
  obtain⟨A,c,rfl,hat⟩:=Z23 (λ b k h=>(hbnd b k h).lt) hbr hv
  split at h
  .rename_i h0
   split at h
   .rename_i hh
    cases h
    refine(Z22 br A c w hat h0 hh.1 hL (by omega)).mono ?_;rintro e w' ⟨A',c',rfl,ho,hb⟩;obtain⟨H',p1,p2,p3⟩:=Z24 hbnd hb ho (λ H w=>Zhl H w (S.bItems br)) (by decide);refine⟨_,H',rfl,hb,p1,p2,?_,λ z hz=>by cases hz⟩;rw[RepV];refine⟨[_,_],rfl,?_⟩;rw[RepT];refine⟨_,_,rfl,?_,?_⟩
    .rw[RepV]
     refine⟨[_,_],rfl,?_⟩;unfold S.encObj;rw[RepL];refine⟨_,_,rfl,rfl,by rw[RepV],?_⟩;rw[RepL];exact⟨_,_,rfl,rfl,p3,by rw[RepL]⟩
    .rw[RepT]
     exact⟨_,_,rfl,by rw[RepV],by rw[RepT]⟩
   .cases h
  .rename_i h0
   cases h
   refine(Zw9 br A c w hat h0).mono ?_;rintro e w' ⟨rfl,hb⟩;refine⟨_,H,rfl,hb,λ _ _=>rfl,λ b k hk=>(hbnd b k hk).below hb,?_,λ z hz=>by cases hz⟩;rw[RepV];refine⟨[_,_],rfl,?_⟩;rw[RepT];refine⟨_,_,rfl,?_,?_⟩
   .rw[RepV]
    refine⟨[_,_],rfl,?_⟩;rw[RepL];refine⟨_,_,rfl,rfl,by rw[RepV],?_⟩;rw[RepL];refine⟨_,_,rfl,rfl,?_,by rw[RepL]⟩;rw[RepV];exact⟨none,0,rfl,λ _=>rfl,λ _=>rfl,.inl rfl⟩
   .rw[RepT]
    exact⟨_,_,rfl,by rw[RepV],by rw[RepT]⟩
 .cases h
theorem Zs5 {x:S.AV}{r:S.AV}{y:S.Tail}(h:S.itoaA x=some (r,y)):AFn Tryz.prog LVE 85 [x] r y:=by
 intro H w vs hbnd hL hrep;rw[RepT] at hrep;obtain⟨v,us,rfl,hv,hus⟩:=hrep;rw[RepT] at hus;subst hus;unfold S.itoaA at h
 split at h
 .rename_i n
  split at h
  .rename_i hh
   cases h
   rw[RepV] at hv;subst hv;refine(Zqj n ⟨by omega,by omega⟩ w hL).mono ?_;rintro e w' ⟨rfl,hb⟩;exact⟨_,H,rfl,hb,λ _ _=>rfl,λ b k hk=>(hbnd b k hk).below hb,by rw[RepV],λ z hz=>by cases hz⟩
  .cases h
 .cases h
theorem Zk0 (f:FuncId)(xs:List S.AV)(r:S.AV)(y:S.Tail)(h:S.orcB f xs=some (r,y)):AFn Tryz.prog LVE f xs r y:=by
 unfold S.orcB at h
 split at h
 .rename_i hf
  subst hf
  split at h
  .exact Zs5 h
  .cases h
 .split at h
  .rename_i hf
   subst hf
   split at h
   .exact Zqe h
   .cases h
  .cases h
theorem Zos {cf n:Nat}{f:FuncId}{xs:List S.AV}{r:S.AV}{y:S.Tail}(h:S.runFn Tryz.prog S.orcB cf n f xs=some (r,y)):AFn Tryz.prog LVE f xs r y :=
 Zk6 (λ w w' hL hb=>hL.on hb) Zk0 n f xs r y h
end
