/- Parts. -/
import Derived.Test.YtdeepoikgfaecaaGreatDoorZBStm2
import Derived.StillTailTactics
import Derived.Laws.ResultCell
import Derived.OneCell
set_option linter.all false
set_option maxHeartbeats 1000000
open Go.Lib renaming hid->Ya,cell_of_heap->Yb,frozen_of_heap->Yao
open List renaming length_append->Yc,length_cons->Yl,append_assoc->Ym,mem_singleton->Yq,mem_cons->Yu,mem_cons_self->Yy,not_mem_nil->Y3,eq_nil_of_length_eq_zero->Yaj,length_nil->Yat,all_eq_true->Yaz,flatMap_cons->Ybd
open Nat renaming le_refl->Yf,lt_of_lt_of_le->Yt,le_trans->Y9
open Go.AllReady renaming cons->Yg,nil->Yi
namespace Go.Proofs.YtdeepoikgfaecaaGreatDoor
set_option maxRecDepth 100000
section
open Go.RowKit
theorem Zez:∀ k,(S.bParams k).length=k
 | 0=>rfl
 | k+1=>by rw [S.bParams,Yc,Zez k];rfl
def BPost (r:S.BR)(w:World)(e:Ending)(w':World):Prop :=
 ∃ A c,e=.returned (.tuple #[.agg #[.string r.name,.slice A (S.bItems r).length c],.int .i64 0])/\w'.ownsRow w.heap.size 59 8 (.slice A (S.bItems r).length c) (S.bItems r).length ((S.bItems r).flatMap Zb)/\Below w.heap.size w w'
theorem BPost.mk' {r:S.BR}{w w':World}{A:Option Addr}{c:Nat}{T:List S.Item}(hT:T=S.bItems r)(h:w'.ownsRow w.heap.size 59 8 (.slice A T.length c) T.length (T.flatMap Zb))(hb:Below w.heap.size w w'):BPost r w (.returned (.tuple #[.agg #[.string r.name,.slice A T.length c],.int .i64 0])) w':=by
 subst hT;exact ⟨A,c,rfl,h,hb⟩
theorem Zy7 (r:S.BR)(A:Option Addr)(c:Nat)(w:World)(hR:RAt2 w w.heap.size r A)(h0:S.chkB r=0)(hsz:Zgn r.body<=1000000)(hL:LVE w)(hl:(S.bItems r).length+20<=100000000) :
 Calls Tryz.prog 134 #[Zur r A c] w (BPost r w):=by
 have Hck:=Ya (fun (W:World) (hb:Below w.heap.size w W)=>Zny r A c W ((hR.below hb).more hb.size));have Hfr:=Ya (fun (W:World) (hb:Below w.heap.size w W)=>Zyc r A c W ((hR.below hb).more hb.size));rw [h0] at Hck;obtain ⟨nm,P,L,bh,body⟩:=r;unfold Zur at Hck Hfr ⊢;simp only at Hck Hfr hsz ⊢;obtain ⟨N,hN⟩:=Yx body.length;rw [<- hN] at Hck Hfr ⊢;have HN:=Ya hN;obtain ⟨t1,t2,t3,t4⟩:=Zee w (.cells #[.string nm,.int .i64 P,.int .i64 L,.bool bh,.slice A N c] 151) (.cells #[.string ⟨#[]⟩,.slice none 0 0] 55);have HbX:=Ya t3;have HRX:=Ya t1;have HOX:=Ya t2;have hzX:w.heap.size+2<=((w.alloc (.cells #[.string nm,.int .i64 P,.int .i64 L,.bool bh,.slice A N c] 151)).alloc (.cells #[.string ⟨#[]⟩,.slice none 0 0] 55)).heap.size:=Nat.le_of_eq t4.symm;clear hN t1 t2 t3 t4;go_enter Tryz.func134,Tryz.ntmps134
 go_upto_region 1 with fail
 generalize (w.alloc (.cells #[.string nm,.int .i64 P,.int .i64 L,.bool bh,.slice A N c] 151)).alloc (.cells #[.string ⟨#[]⟩,.slice none 0 0] 55)=w2 at *;have k0:w2.cell? ⟨w.heap.size,0,none⟩=some (.string nm):=by rw [Yb HRX.out];rfl
 have k1:w2.cell? ⟨w.heap.size,1,none⟩=some (.int .i64 P):=by rw [Yb HRX.out];rfl
 have k2:w2.cell? ⟨w.heap.size,2,none⟩=some (.int .i64 L):=by rw [Yb HRX.out];rfl
 have k3:w2.cell? ⟨w.heap.size,3,none⟩=some (.bool bh):=by rw [Yb HRX.out];rfl
 have k4:w2.cell? ⟨w.heap.size,4,none⟩=some (.slice A N c):=by rw [Yb HRX.out];rfl
 go_wp2_with fail
 refine (Hck.out w2 HbX.out).mono ?_;rintro e w3 ⟨rfl,hb3⟩;have Hr3:=Ya ((hb3.block _ (by omega)).trans HRX.out);have Ho3:=Ya ((hb3.block _ (by omega)).trans HOX.out);have hz3:w.heap.size+2<=w3.heap.size:=Y9 hzX hb3.size;have HZ3:=Ya (HbX.out.trans (hb3.mono HbX.out.size));clear k0 k1 k2 k3 k4 hb3 HRX HbX HOX hzX;have k0:w3.cell? ⟨w.heap.size,0,none⟩=some (.string nm):=by rw [Yb Hr3.out];rfl
 have k1:w3.cell? ⟨w.heap.size,1,none⟩=some (.int .i64 P):=by rw [Yb Hr3.out];rfl
 have k2:w3.cell? ⟨w.heap.size,2,none⟩=some (.int .i64 L):=by rw [Yb Hr3.out];rfl
 have k3:w3.cell? ⟨w.heap.size,3,none⟩=some (.bool bh):=by rw [Yb Hr3.out];rfl
 have k4:w3.cell? ⟨w.heap.size,4,none⟩=some (.slice A N c):=by rw [Yb Hr3.out];rfl
 go_upto_region 4 with fail
 obtain ⟨fr,hfrd⟩:=Yx (S.frameB ⟨nm,P,L,bh,body⟩);rw [<- hfrd] at Hfr;have Hfrd:=Ya hfrd;clear hfrd
 go_cut [5] (fun v5 wc=>∃ p:Nat,v5=.pointer (some ⟨p,0,none⟩)/\Hid (CAt w3.heap.size p ⟨⟨nm,P,L,bh,body⟩,A,c,fr⟩ [] 0 wc)/\Hid (Below w3.heap.size w3 wc))
 case first =>
  refine wp_region_any (by kernel_rfl) ?_;change wpAny _ _ _ _ _ _ _ (World.drew w3);have hdb:Below w3.heap.size w3 w3.drew:=⟨rfl,rfl,rfl,Yf _,fun _ _=>rfl⟩
  generalize w3.drew=w4 at *;have Hr4:=Ya ((hdb.block _ (by omega)).trans Hr3.out);have hz4:=hdb.size;clear k0 k1 k2 k3 k4;have k0:w4.cell? ⟨w.heap.size,0,none⟩=some (.string nm):=by rw [Yb Hr4.out];rfl
  have k1:w4.cell? ⟨w.heap.size,1,none⟩=some (.int .i64 P):=by rw [Yb Hr4.out];rfl
  have k2:w4.cell? ⟨w.heap.size,2,none⟩=some (.int .i64 L):=by rw [Yb Hr4.out];rfl
  have k3:w4.cell? ⟨w.heap.size,3,none⟩=some (.bool bh):=by rw [Yb Hr4.out];rfl
  have k4:w4.cell? ⟨w.heap.size,4,none⟩=some (.slice A N c):=by rw [Yb Hr4.out];rfl
  have HF4:=Ya (Hfr.out w4 (HZ3.out.trans (hdb.mono HZ3.out.size)));refine wpAny_ready (rs:=[0,1]) (by kernel_rfl) (by simp) ?_;refine Yg rfl (fun K hK=>?_) (Yg rfl (fun K hK=>?_) Yi)
  ·go_simp
   refine hK _ _ ?_;clear hK K
   (refine wpAny_ready (rs:=[1]) (by kernel_rfl) (by simp) ?_;refine Yg rfl (fun K hK=>?_) Yi;go_simp;refine hK _ _ ?_;clear hK K)
   refine wpAny_ready (rs:=[2]) (by kernel_rfl) (by simp) ?_;refine Yg rfl (fun K hK=>?_) Yi;go_simp
   refine HF4.out.mono ?_;rintro e w5 ⟨rfl,hb5⟩;go_simp
   refine hK _ _ ?_;clear hK K
   (refine wpAny_ready (rs:=[3]) (by kernel_rfl) (by simp) ?_;refine Yg rfl (fun K hK=>?_) Yi;go_simp;refine hK _ _ ?_;clear hK K)
   (refine wpAny_ready (rs:=[4]) (by kernel_rfl) (by simp) ?_;refine Yg rfl (fun K hK=>?_) Yi;go_simp;refine hK _ _ ?_;clear hK K)
   (refine wpAny_ready (rs:=[5]) (by kernel_rfl) (by simp) ?_;refine Yg rfl (fun K hK=>?_) Yi;go_simp;refine hK _ _ ?_;clear hK K)
   refine wpAny_done (by kernel_rfl) ?_ _;go_wp2_with fail
   go_meet
   have hZ5:Below w3.heap.size w3 w5:=hdb.trans (hb5.mono hdb.size);have hat:CAt w3.heap.size w5.heap.size ⟨⟨nm,P,L,bh,body⟩,A,c,fr⟩ [] 0 (w5.alloc (.cells #[.string nm,.int .i64 P,.int .i64 L,.bool bh,.slice A N c,.int .i64 fr,.slice none 0 0,.int .i64 0] 183)):=by
    refine ⟨hZ5.size,.slice none 0 0,?_,rfl,Or.inl ⟨rfl,rfl⟩⟩;rw [heap_alloc_new];unfold Zf9;simp only [<- HN.out]
   exact ⟨w5.heap.size,rfl,Ya hat,Ya (hZ5.alloc hZ5.size _)⟩
  ·go_simp
   refine hK _ _ ?_;clear hK K;refine wpAny_ready (rs:=[0,2]) (by kernel_rfl) (by simp) ?_;refine Yg rfl (fun K hK=>?_) (Yg rfl (fun K hK=>?_) Yi)
   ·go_simp
    refine hK _ _ ?_;clear hK K;refine wpAny_ready (rs:=[2]) (by kernel_rfl) (by simp) ?_;refine Yg rfl (fun K hK=>?_) Yi;go_simp
    refine HF4.out.mono ?_;rintro e w5 ⟨rfl,hb5⟩;go_simp
    refine hK _ _ ?_;clear hK K
    (refine wpAny_ready (rs:=[3]) (by kernel_rfl) (by simp) ?_;refine Yg rfl (fun K hK=>?_) Yi;go_simp;refine hK _ _ ?_;clear hK K)
    (refine wpAny_ready (rs:=[4]) (by kernel_rfl) (by simp) ?_;refine Yg rfl (fun K hK=>?_) Yi;go_simp;refine hK _ _ ?_;clear hK K)
    (refine wpAny_ready (rs:=[5]) (by kernel_rfl) (by simp) ?_;refine Yg rfl (fun K hK=>?_) Yi;go_simp;refine hK _ _ ?_;clear hK K)
    refine wpAny_done (by kernel_rfl) ?_ _;go_wp2_with fail
    go_meet
    have hZ5:Below w3.heap.size w3 w5:=hdb.trans (hb5.mono hdb.size);have hat:CAt w3.heap.size w5.heap.size ⟨⟨nm,P,L,bh,body⟩,A,c,fr⟩ [] 0 (w5.alloc (.cells #[.string nm,.int .i64 P,.int .i64 L,.bool bh,.slice A N c,.int .i64 fr,.slice none 0 0,.int .i64 0] 183)):=by
     refine ⟨hZ5.size,.slice none 0 0,?_,rfl,Or.inl ⟨rfl,rfl⟩⟩;rw [heap_alloc_new];unfold Zf9;simp only [<- HN.out]
    exact ⟨w5.heap.size,rfl,Ya hat,Ya (hZ5.alloc hZ5.size _)⟩
   ·go_simp
    refine HF4.out.mono ?_;rintro e w5 ⟨rfl,hb5⟩;go_simp
    refine hK _ _ ?_;clear hK K;have Hr5:=Ya ((hb5.block _ (by omega)).trans Hr4.out);clear k0 k1 k2 k3 k4;have k0:w5.cell? ⟨w.heap.size,0,none⟩=some (.string nm):=by rw [Yb Hr5.out];rfl
    have k1:w5.cell? ⟨w.heap.size,1,none⟩=some (.int .i64 P):=by rw [Yb Hr5.out];rfl
    have k2:w5.cell? ⟨w.heap.size,2,none⟩=some (.int .i64 L):=by rw [Yb Hr5.out];rfl
    have k3:w5.cell? ⟨w.heap.size,3,none⟩=some (.bool bh):=by rw [Yb Hr5.out];rfl
    have k4:w5.cell? ⟨w.heap.size,4,none⟩=some (.slice A N c):=by rw [Yb Hr5.out];rfl
    (refine wpAny_ready (rs:=[0]) (by kernel_rfl) (by simp) ?_;refine Yg rfl (fun K hK=>?_) Yi;go_simp;refine hK _ _ ?_;clear hK K)
    (refine wpAny_ready (rs:=[3]) (by kernel_rfl) (by simp) ?_;refine Yg rfl (fun K hK=>?_) Yi;go_simp;refine hK _ _ ?_;clear hK K)
    (refine wpAny_ready (rs:=[4]) (by kernel_rfl) (by simp) ?_;refine Yg rfl (fun K hK=>?_) Yi;go_simp;refine hK _ _ ?_;clear hK K)
    (refine wpAny_ready (rs:=[5]) (by kernel_rfl) (by simp) ?_;refine Yg rfl (fun K hK=>?_) Yi;go_simp;refine hK _ _ ?_;clear hK K)
    refine wpAny_done (by kernel_rfl) ?_ _;go_wp2_with fail
    go_meet
    have hZ5:Below w3.heap.size w3 w5:=hdb.trans (hb5.mono hdb.size);have hat:CAt w3.heap.size w5.heap.size ⟨⟨nm,P,L,bh,body⟩,A,c,fr⟩ [] 0 (w5.alloc (.cells #[.string nm,.int .i64 P,.int .i64 L,.bool bh,.slice A N c,.int .i64 fr,.slice none 0 0,.int .i64 0] 183)):=by
     refine ⟨hZ5.size,.slice none 0 0,?_,rfl,Or.inl ⟨rfl,rfl⟩⟩;rw [heap_alloc_new];unfold Zf9;simp only [<- HN.out]
    exact ⟨w5.heap.size,rfl,Ya hat,Ya (hZ5.alloc hZ5.size _)⟩
 case rest =>
  obtain ⟨p,rfl,HC,HB⟩:=hcut;obtain ⟨-,p0,p1,p2,p3,hkb⟩:=Zhi h0;simp only at p0 p1 p2 p3 hkb;have hfe:S.frameB ⟨nm,P,L,bh,body⟩=L+15:=by show (if _ then _ else _)=_;rw [if_neg (by simpa using h0)]
  have hfr1:fr=L+15:=by rw [Hfrd.out,hfe]
  have hO:HOk ⟨⟨nm,P,L,bh,body⟩,A,c,fr⟩:=⟨by show 0<=fr;omega,by show fr<=1000;omega,by show 0<=L;omega,by show L<=200;omega⟩
  have hT:S.bItems ⟨nm,P,L,bh,body⟩=[S.bL nm,S.bI 25 0 28 31 0]++S.bParams P.toNat++[S.bI 15 28 28 0 fr]++(bSs ⟨⟨nm,P,L,bh,body⟩,A,c,fr⟩ body 0).1++S.bBack fr bh:=by
   show ([S.bL nm,S.bI 25 0 28 31 0]++S.bParams P.toNat++[S.bI 15 28 28 0 (S.frameB _)])++(S.bStmts (S.frameB _) L bh body 0).1++S.bBack (S.frameB _) bh=_
   rw [<- Hfrd.out]
  have hTl:(S.bItems ⟨nm,P,L,bh,body⟩).length=2+P.toNat+1+(bSs ⟨⟨nm,P,L,bh,body⟩,A,c,fr⟩ body 0).1.length+(S.bBack fr bh).length:=by
   rw [hT];simp only [Yc,Yl,Yat,Zez]
  have HT:=Ya hT;rw [hTl] at hl;have HR:=Ya hR.body;have HZc:=Ya (HZ3.out.trans (HB.out.mono HZ3.out.size));have HLc:=Ya (hL.on HZc.out);have Hrc:=Ya ((HB.out.block _ (by omega)).trans Hr3.out);have Hoc:=Ya ((HB.out.block _ (by omega)).trans Ho3.out);have hbc:=HB.out.size;have h3B:3<=w3.heap.size:=Y9 hL.size (Y9 (by omega) hz3);have HRB:=Ya ((hR.body.below HZ3.out).more HZ3.out.size);obtain ⟨B0,hB0⟩:=Yx w3.heap.size;rw [<- hB0] at HC HB hbc h3B hz3 HRB;obtain ⟨h,hh⟩:∃ h:CH,h=⟨⟨nm,P,L,bh,body⟩,A,c,fr⟩:=⟨_,rfl⟩
  rw [<- hh] at HC hO hl HT;have Hh:=Ya hh;have k0:wc.cell? ⟨w.heap.size,0,none⟩=some (.string nm):=by rw [Yb Hrc.out];rfl
  clear hTl hT hfe hh hfr1 k1 k2 k3 k4 hR hL h0 Hck Hfr Hr3 Ho3;have Hc1:=Ya (Zhq HC.out hbc (by simp) nm);go_wp2_with fail
  refine Hc1.out.mono ?_;rintro e w5 ⟨rfl,g1,g2⟩;have hb5:B0<=w5.heap.size:=by have:=g2.size;omega
  have Hc2:=Ya (Zbb g1 hb5 (by simp) 25 0 28 31 0);go_wp2_with fail
  refine Hc2.out.mono ?_;rintro e w6 ⟨rfl,g3,g4⟩;have hb6:B0<=w6.heap.size:=by have:=g4.size;omega
  have HK6:=Ya (g2.trans g4);have Hr6:=Ya (HK6.out.keep _ _ _ _ Hrc.out (by decide) (by decide));have k1:w6.cell? ⟨w.heap.size,1,none⟩=some (.int .i64 P):=by rw [Yb Hr6.out];rfl
  have HC6:=Ya g3;clear g1 g2 g3 g4 Hc1 Hc2 k0;have Hhf:=Ya (show h.fr=fr from by rw [Hh.out]);go_wp2_with fail
  go_loopw [29] (fun v29 wr=>∃ k:Nat,k<=P.toNat/\v29=.int .i64 k/\Hid (CAt B0 p h ([S.bL nm,S.bI 25 0 28 31 0]++S.bParams k) 0 wr)/\Hid (CK B0 w6 wr)) (fun v29 _=>P.toNat-(intOf v29).toNat)
  case atStart=>exact ⟨0,by omega,rfl,Ya (by simpa [S.bParams] using HC6.out),Ya (CK.refl _ _)⟩
  case round =>
   obtain ⟨k,hk,rfl,HC2,HK2⟩:=hrel;obtain ⟨wo,hwo⟩:=Yx wr;subst hwo;have hso:B0<=wo.heap.size:=by have:=HK2.out.size;omega
   have hl2:([S.bL nm,S.bI 25 0 28 31 0]++S.bParams k).length=2+k:=by simp only [Yc,Yl,Yat,Zez]
   by_cases hlt:k<P.toNat
   ·have hkP:(k:Int)<P:=by omega
    have Hlo:=Ya (Zn1 (k:Int) (by omega) wo);have Hc:=Ya (Zbb HC2.out hso (by rw [hl2];omega) 25 0 28 (4+(k:Int)) (1+(k:Int)));clear hl2;go_wp2_with fail
    refine Hlo.out.mono ?_;rintro e w3' ⟨rfl,rfl⟩;go_wp2_with fail
    refine Hc.out.mono ?_;rintro e w7 ⟨rfl,g1,g2⟩;go_wp2_with fail
    go_roundw
    case rel=>exact ⟨k+1,by omega,by go_num,Ya (by rw [S.bParams,<- Ym];exact g1),Ya (HK2.out.trans g2)⟩
    case measure=>simp [intOf];omega
   ·have hkP:¬ (k:Int)<P:=by omega
    have hkN:P.toNat=k:=by omega
    have Hr7:=Ya (HK2.out.keep _ _ _ _ Hr6.out (by decide) (by decide));have c5:=HC2.out.cell_fr;rw [Hhf.out] at c5;have Hc:=Ya (Zbb HC2.out hso (by rw [hl2];omega) 15 28 28 0 fr);rw [<- hkN] at hl2 Hc;clear HC2 k1;go_wp2_with fail
    refine Hc.out.mono ?_;rintro e w7 ⟨rfl,g1,g2⟩;have hs7:B0<=w7.heap.size:=by have:=g2.size;omega
    have HK7:=Ya (HK6.out.trans (HK2.out.trans g2));have Hr8:=Ya (g2.keep _ _ _ _ Hr7.out (by decide) (by decide));have k4:w7.cell? ⟨w.heap.size,4,none⟩=some (.slice A N c):=by rw [Yb Hr8.out];rfl
    have hl7:([S.bL nm,S.bI 25 0 28 31 0]++S.bParams P.toNat++[S.bI 15 28 28 0 fr]).length=2+P.toNat+1:=by rw [Yc,hl2];rfl
    obtain ⟨zs,hzs⟩:=Yx ([S.bL nm,S.bI 25 0 28 31 0]++S.bParams P.toNat++[S.bI 15 28 28 0 fr]);rw [<- hzs] at g1 hl7 HT;have HC7:=Ya g1;have HL7:=Ya (HLc.out.keep HK7.out.below h3B);have HB7:=Ya (HRB.out.below (HB.out.trans HK7.out.below));have HK07:=Ya (HK7.out);clear hzs g1 g2 hl2 c5 HK2 Hr7 HK6 Hr6 HC6 Hc;have hle:=Zdj body;rw [<- HN.out] at hle;have hbh:h.r.behind=bh:=by rw [Hh.out]
    have hbk:=Zlz fr bh;have hhk:S.chkSs h.r.locals body 0=0:=by rw [Hh.out];exact hkb
    have Hih:=Ya (Zz0 (p:=p) hO h3B 1000000 (Yf _));go_wp2_with fail
    go_loopw [50] (fun v50 wr=>∃ k:Nat,k<=N/\v50=.int .i64 k/\Hid (CAt B0 p h (zs++(bSs h (body.take k) 0).1) (bSs h (body.take k) 0).2 wr)/\Hid (CK B0 w7 wr)) (fun v50 _=>N-(intOf v50).toNat)
    case atStart=>exact ⟨0,by omega,rfl,Ya (by simpa [S.bStmts] using HC7.out),Ya (CK.refl _ _)⟩
    case round =>
     obtain ⟨k2,hk2,rfl,HC3,HK3⟩:=hrel;obtain ⟨wo3,hwo3⟩:=Yx wr;subst hwo3;have hs3:B0<=wo3.heap.size:=by have:=HK3.out.size;omega
     by_cases hlt2:k2<N
     ·obtain ⟨s1,hs1⟩:∃ s1,body[k2]?=some s1:=⟨_,List.getElem?_eq_getElem (by rw [<- HN.out];exact hlt2)⟩
      obtain ⟨b',off',A1',c1',A2',c2',A3',c3',A4',c4',M1,M2,M3,M4,op',en',nm',rfl,hbB',e0,e1,e2,e3,e4,e5,e6,hrec⟩:=Zed Hih.out h3B hsz hhk (HB7.out.below HK3.out.below) hs1 HC3.out hs3 (HL7.out.keep HK3.out.below h3B) (by omega) (by omega) (by rw [hl7];omega);have hbr':b'<wo3.heap.size:=by omega
      have hbY:Below wo3.heap.size wo3 (wo3.alloc (.cells #[.int .i64 op',.int .i64 en',.string nm',.slice A1' M1 c1',.slice A2' M2 c2',.slice A3' M3 c3',.slice A4' M4 c4'] 99)):=(Below.refl _ _).alloc (Yf _) _;have Hrec:=Ya (hrec _ hbY);have HbY:=Ya (CK.of hbY hs3);clear hrec hbY hs1 hbh hl7;go_wp2_with fail
      refine Hrec.out.mono ?_;rintro e w8 ⟨rfl,g1,g2⟩;go_wp2_with fail
      go_roundw
      case rel=>exact ⟨k2+1,by omega,by go_num,Ya g1,Ya (HK3.out.trans (HbY.out.trans g2))⟩
      case measure=>simp [intOf];omega
     ·have hkN2:N=k2:=by omega
      subst hkN2;have ht:body.take N=body:=by rw [HN.out,List.take_length]
      rw [ht] at HC3;have Hb:=Ya (Zw3 HC3.out hs3 (by rw [Yc,hl7];omega) hO);rw [Hhf.out,hbh] at Hb;have Hhfx:=Ya hbh;clear ht hbh hl7;go_wp2_with fail
      refine Hb.out.mono ?_;rintro e w8 ⟨rfl,g1,g2⟩;have hs8:B0<=w8.heap.size:=by have:=g2.size;omega
      have HK8:=Ya (HK07.out.trans (HK3.out.trans g2));have Hr9:=Ya (HK8.out.keep _ _ _ _ Hrc.out (by decide) (by decide));have Ho9:=Ya (HK8.out.keep _ _ _ _ Hoc.out (by decide) (by decide));have k0:w8.cell? ⟨w.heap.size,0,none⟩=some (.string nm):=by rw [Yb Hr9.out];rfl
      have j0:w8.cell? ⟨w.heap.size+1,0,none⟩=some (.string ⟨#[]⟩):=by rw [Yb Ho9.out];rfl
      have j1:w8.cell? ⟨w.heap.size+1,1,none⟩=some (.slice none 0 0):=by rw [Yb Ho9.out];rfl
      have f0:w8.frozen? ⟨w.heap.size+1,0,none⟩=false:=Yao Ho9.out 0;have f1:w8.frozen? ⟨w.heap.size+1,1,none⟩=false:=Yao Ho9.out 1;obtain ⟨hlow,v,hkp,hov⟩:=g1;rw [Ym,<- Ym] at hov;have hTT:(zs++(bSs h body 0).1)++S.bBack fr bh=S.bItems ⟨nm,P,L,bh,body⟩:=HT.out.symm;have c6:w8.cell? ⟨p,6,none⟩=some v:=by rw [Yb hkp];rfl
      obtain ⟨A',cc',rfl⟩:=Za hov;rw [hTT] at hov c6;have Hov:=Ya hov;have Hkp:=Ya hkp;have HZ8:=Ya (HZc.out.trans (HK8.out.below.mono (by omega)));clear hov hkp hTT;obtain ⟨T,hTg⟩:=Yx (S.bItems ⟨nm,P,L,bh,body⟩);rw [<- hTg] at Hov c6;have HTg:=Ya hTg;clear hTg;go_upto_region 19 with fail
      go_still_tail 7,(by kernel_rfl)
      go_wp2_with fail
      have hnq:(Value.slice A' T.length cc').ownBlock≠some (w.heap.size+1):=Zx Hov.out Ho9.out (by decide)
      (try simp only [Exit.inBlock,Exit.then])
      refine bodyPost_ret (v:=.tuple #[.agg #[.string nm,.slice A' T.length cc'],.int .i64 0]) (by rw [results_cell_tmp rfl];go_simp) rfl ?_;have hZ9:Below w.heap.size w ((w8.setCell ⟨w.heap.size+1,0,none⟩ (.string nm)).setCell ⟨w.heap.size+1,1,none⟩ (.slice A' T.length cc')).drew:=((HZ8.out.setCell (p:=⟨w.heap.size+1,0,none⟩) (by show w.heap.size<=w.heap.size+1;omega) _).setCell (p:=⟨w.heap.size+1,1,none⟩) (by show w.heap.size<=w.heap.size+1;omega) _).trans ⟨rfl,rfl,rfl,Yf _,fun _ _=>rfl⟩;refine BPost.mk' HTg.out ?_ hZ9;have ho9:=ownsRow_setCell_other (a:=⟨w.heap.size+1,1,none⟩) (ownsRow_setCell_other (a:=⟨w.heap.size+1,0,none⟩) Hov.out hnq (.string nm)) hnq (.slice A' T.length cc');exact Z0 (Zc ho9 ⟨rfl,rfl,rfl,Yf _,fun _ _=>rfl⟩) (by omega)
end
section
open Go.RowKit
theorem Zt2 (r:S.BR)(A:Option Addr)(c:Nat)(w:World)(hR:RAt2 w w.heap.size r A)(h0:S.chkB r≠0) :
 Calls Tryz.prog 134 #[Zur r A c] w fun e w'=>e=.returned (.tuple #[.agg #[.string ⟨#[]⟩,.slice none 0 0],.int .i64 (S.chkB r)])/\Below w.heap.size w w':=by
 have Hck:=Ya (fun (W:World) (hb:Below w.heap.size w W)=>Zny r A c W ((hR.below hb).more hb.size));obtain ⟨nm,P,L,bh,body⟩:=r;unfold Zur at Hck ⊢;simp only at Hck ⊢;generalize S.chkB ⟨nm,P,L,bh,body⟩=κ at *;have hne:(κ != 0)=true:=by simp [h0]
 obtain ⟨N,hN⟩:=Yx body.length;rw [<- hN] at Hck ⊢;have HN:=Ya hN;obtain ⟨t1,t2,t3,t4⟩:=Zee w (.cells #[.string nm,.int .i64 P,.int .i64 L,.bool bh,.slice A N c] 151) (.cells #[.string ⟨#[]⟩,.slice none 0 0] 55);have HbX:=Ya t3;have HRX:=Ya t1;have HOX:=Ya t2;have hzX:w.heap.size+2<=((w.alloc (.cells #[.string nm,.int .i64 P,.int .i64 L,.bool bh,.slice A N c] 151)).alloc (.cells #[.string ⟨#[]⟩,.slice none 0 0] 55)).heap.size:=Nat.le_of_eq t4.symm;clear hN t1 t2 t3 t4;go_enter Tryz.func134,Tryz.ntmps134
 go_upto_region 1 with fail
 generalize (w.alloc (.cells #[.string nm,.int .i64 P,.int .i64 L,.bool bh,.slice A N c] 151)).alloc (.cells #[.string ⟨#[]⟩,.slice none 0 0] 55)=w2 at *;have k0:w2.cell? ⟨w.heap.size,0,none⟩=some (.string nm):=by rw [Yb HRX.out];rfl
 have k1:w2.cell? ⟨w.heap.size,1,none⟩=some (.int .i64 P):=by rw [Yb HRX.out];rfl
 have k2:w2.cell? ⟨w.heap.size,2,none⟩=some (.int .i64 L):=by rw [Yb HRX.out];rfl
 have k3:w2.cell? ⟨w.heap.size,3,none⟩=some (.bool bh):=by rw [Yb HRX.out];rfl
 have k4:w2.cell? ⟨w.heap.size,4,none⟩=some (.slice A N c):=by rw [Yb HRX.out];rfl
 clear hR h0;go_wp2_with fail
 refine (Hck.out w2 HbX.out).mono ?_;rintro e w3 ⟨rfl,hb3⟩;have Ho3:=Ya ((hb3.block _ (by omega)).trans HOX.out);have j0:w3.cell? ⟨w.heap.size+1,0,none⟩=some (.string ⟨#[]⟩):=by rw [Yb Ho3.out];rfl
 have j1:w3.cell? ⟨w.heap.size+1,1,none⟩=some (.slice none 0 0):=by rw [Yb Ho3.out];rfl
 have f0:w3.frozen? ⟨w.heap.size+1,0,none⟩=false:=Yao Ho3.out 0;have f1:w3.frozen? ⟨w.heap.size+1,1,none⟩=false:=Yao Ho3.out 1;have HZ3:=Ya (HbX.out.trans (hb3.mono HbX.out.size));clear k0 k1 k2 k3 k4 hb3 HRX HbX HOX hzX;go_wp2_with fail
 (try simp only [Exit.inBlock,Exit.then])
 refine bodyPost_ret (v:=.tuple #[.agg #[.string ⟨#[]⟩,.slice none 0 0],.int .i64 κ]) (by rw [results_cell_tmp rfl];go_simp) rfl ⟨rfl,?_⟩;exact (HZ3.out.setCell (p:=⟨w.heap.size+1,0,none⟩) (by show w.heap.size<=w.heap.size+1;omega) _).setCell (p:=⟨w.heap.size+1,1,none⟩) (by show w.heap.size<=w.heap.size+1;omega) _
end
section
open Go.RowKit
namespace S
def decEs:Nat->List AV->Option (List BE)
 | 0,_=>none
 | _+1,[]=>some []
 | n+1,.int .i64 op::.int .i64 m::.str name::.row k cs::r=>match decEs n cs,decEs n r with
  | some ks,some rs=>if k=ks.length/\name.size<=1000/\ks.length<=1000 then some (.mk op m name ks::rs) else none
  | _,_=>none
 | _,_=>none
def decIs:List AV->Option (List Int)
 | []=>some []
 | .int .i64 n::r=>match decIs r with
  | some ns=>some (n::ns)
  | none=>none
 | _=>none
def decSs:Nat->List AV->Option (List BS)
 | 0,_=>none
 | _+1,[]=>some []
 | n+1,.int .i64 op::.int .i64 m::.str name::.row k1 c1::.row k2 c2::.row k3 c3::.row k4 c4::r=>match decEs n c1,decIs c2,decSs n c3,decSs n c4,decSs n r with
  | some es,some ns,some bs,some ls,some rs=>if k1=es.length/\k2=ns.length/\k3=bs.length/\k4=ls.length/\name.size<=1000/\es.length<=1000/\ns.length<=1000/\bs.length<=1000/\ls.length<=1000 then some (.mk op m name es ns bs ls::rs) else none
  | _,_,_,_,_=>none
 | _,_=>none
def decR:AV->Option BR
 | .agg [.str name,.int .i64 p,.int .i64 l,.bool bh,.row k cs]=>match decSs 400 cs with
  | some body=>if k=body.length/\name.size<=1000/\body.length<=1000/\Zgn body<=1000000 then some ⟨name,p,l,bh,body⟩ else none
  | none=>none
 | _=>none
def encItem (x:Item):List AV:=[.int .i64 x.kind,.int .i64 x.inst.op,.int .i64 x.inst.d,.int .i64 x.inst.a,.int .i64 x.inst.b,.int .i64 x.inst.imm,.str x.label,.int .u32 x.word]
def encItems (l:List Item):List AV:=l.flatMap encItem
def encObj (name:ByteArray)(items:List Item):List AV:=[.str name,.row items.length (encItems items)]
end S
section
variable {H:Zp}{w:World}{B:Nat}(hB:∀ b k,H b=some k->b<B)
include hB
theorem Zfz:∀ (n:Nat) {cs:List S.AV} {l:List S.BE} {b o:Nat},S.decEs n cs=some l->RepC H w cs b o->EKids w B b o l
 | 0,cs,l,b,o,h,_=>by simp [S.decEs] at h
 | n+1,cs,l,b,o,h,hc=>by
  unfold S.decEs at h
  split at h
  ·cases h
  ·cases h
   rw [EKids];trivial
  ·rename_i n' op m name k ds r hq
   split at h
   ·rename_i ks rs h1 h2
    rw [show n'=n from (Nat.succ.inj hq).symm] at h1 h2
    split at h
    ·rename_i hh
     obtain ⟨hk,hn,hks⟩:=hh
     cases h
     rw [RepC,RepC,RepC,RepC] at hc;obtain ⟨_,⟨v1,hv1,r1⟩,_,⟨v2,hv2,r2⟩,_,⟨v3,hv3,r3⟩,_,⟨v4,hv4,r4⟩,hr⟩:=hc;rw [RepV] at r1;rw [RepV] at r2;rw [RepV] at r3;rw [RepV] at r4;subst r1 r2 r3;obtain ⟨A,c,rfl,h0,hA,hds⟩:=r4;rw [EKids,ECell];refine ⟨⟨hv1,hv2,hv3,by simp only [maxLen];omega,by simp only [maxLen];omega,A,c,by rw [<- hk];exact hv4,?_⟩,Zfz n h2 hr⟩;rcases hds with rfl | ⟨b',o',k',rfl,hH,_,hcc⟩
     ·refine .inl ?_
      cases n with
      | zero=>simp [S.decEs] at h1
      | succ n=>simp [S.decEs] at h1;exact h1
     ·exact .inr ⟨b',o',rfl,hB b' k' hH,Zfz n h1 hcc⟩
    ·cases h
   ·cases h
  ·cases h
omit hB in
theorem Zjj:∀ {cs:List S.AV} {l:List Int} {b o:Nat},S.decIs cs=some l->RepC H w cs b o->∀ i x,l[i]?=some x->w.cell? ⟨b,o+i,none⟩=some (.int .i64 x)
 | [],l,b,o,h,_,i,x,hx=>by
  simp [S.decIs] at h;subst h;simp at hx
 | y::r,l,b,o,h,hc,i,x,hx=>by
  unfold S.decIs at h
  split at h
  ·rename_i heq;cases heq
  ·rename_i n r' heq
   cases heq
   split at h
   ·rename_i ns h1
    cases h
    rw [RepC] at hc;obtain ⟨_,⟨v,hv,hr⟩,hcr⟩:=hc;rw [RepV] at hr;subst hr
    cases i with
    | zero=>simp at hx;subst hx;exact hv
    | succ i =>
     rw [show o+(i+1)=o+1+i by omega];exact Zjj h1 hcr i x (by simpa using hx)
   ·cases h
  ·cases h
omit hB in
theorem Zt3 {n:Nat}{l:List S.BE}(h:S.decEs n []=some l):l=[]:=by
 cases n with
 | zero=>simp [S.decEs] at h
 | succ n=>simp [S.decEs] at h;exact h
omit hB in
theorem Zh3 {n:Nat}{l:List S.BS}(h:S.decSs n []=some l):l=[]:=by
 cases n with
 | zero=>simp [S.decSs] at h
 | succ n=>simp [S.decSs] at h;exact h
theorem Zeh:∀ (n:Nat) {cs:List S.AV} {l:List S.BS} {b o:Nat},S.decSs n cs=some l->RepC H w cs b o->SKids w B b o l
 | 0,cs,l,b,o,h,_=>by simp [S.decSs] at h
 | n+1,cs,l,b,o,h,hc=>by
  unfold S.decSs at h
  split at h
  ·cases h
  ·cases h
   rw [SKids];trivial
  ·rename_i n' op m name k1 c1 k2 c2 k3 c3 k4 c4 r hq
   split at h
   ·rename_i es ns bs ls rs h1 h2 h3 h4 h5
    rw [show n'=n from (Nat.succ.inj hq).symm] at h1 h3 h4 h5
    split at h
    ·rename_i hh
     obtain ⟨q1,q2,q3,q4,q5,q6,q7,q8,q9⟩:=hh
     cases h
     rw [RepC,RepC,RepC,RepC,RepC,RepC,RepC] at hc;obtain ⟨_,⟨v1,hv1,r1⟩,_,⟨v2,hv2,r2⟩,_,⟨v3,hv3,r3⟩,_,⟨v4,hv4,r4⟩,_,⟨v5,hv5,r5⟩,_,⟨v6,hv6,r6⟩,_,⟨v7,hv7,r7⟩,hr⟩:=hc;rw [RepV] at r1;rw [RepV] at r2;rw [RepV] at r3;rw [RepV] at r4;rw [RepV] at r5;rw [RepV] at r6;rw [RepV] at r7;subst r1 r2 r3;obtain ⟨A4,a4,rfl,_,_,hd4⟩:=r4;obtain ⟨A5,a5,rfl,_,_,hd5⟩:=r5;obtain ⟨A6,a6,rfl,_,_,hd6⟩:=r6;obtain ⟨A7,a7,rfl,_,_,hd7⟩:=r7;rw [SKids,SCell];refine ⟨⟨hv1,hv2,hv3,by simp only [maxLen];omega,by simp only [maxLen];omega,by simp only [maxLen];omega,by simp only [maxLen];omega,by simp only [maxLen];omega,⟨A4,a4,by rw [<- q1];exact hv4,?_⟩,⟨A5,a5,by rw [<- q2];exact hv5,?_⟩,⟨A6,a6,by rw [<- q3];exact hv6,?_⟩,⟨A7,a7,by rw [<- q4];exact hv7,?_⟩⟩,Zeh n h5 hr⟩
     ·rcases hd4 with rfl | ⟨b',o',k',rfl,hH,_,hcc⟩
      ·exact .inl (Zt3 h1)
      ·exact .inr ⟨b',o',rfl,hB b' k' hH,Zfz hB n h1 hcc⟩
     ·intro hpos
      rcases hd5 with rfl | ⟨b',o',k',rfl,hH,_,hcc⟩
      ·simp [S.decIs] at h2
       subst h2;simp at hpos
      ·exact ⟨b',o',rfl,hB b' k' hH,Zjj h2 hcc⟩
     ·rcases hd6 with rfl | ⟨b',o',k',rfl,hH,_,hcc⟩
      ·exact .inl (Zh3 h3)
      ·exact .inr ⟨b',o',rfl,hB b' k' hH,Zeh n h3 hcc⟩
     ·rcases hd7 with rfl | ⟨b',o',k',rfl,hH,_,hcc⟩
      ·exact .inl (Zh3 h4)
      ·exact .inr ⟨b',o',rfl,hB b' k' hH,Zeh n h4 hcc⟩
    ·cases h
   ·cases h
  ·cases h
theorem Zy8 {x:S.AV}{r:S.BR}{v:Value}(h:S.decR x=some r)(hv:RepV H w x v):∃ A c,v=Zur r A c/\RAt2 w B r A:=by
 unfold S.decR at h
 split at h
 ·rename_i name p l bh k cs
  split at h
  ·rename_i body h1
   split at h
   ·rename_i hh
    obtain ⟨hk,hn,hb,hsz⟩:=hh
    cases h
    rw [RepV] at hv;obtain ⟨vs,rfl,hl⟩:=hv;rw [RepL] at hl;obtain ⟨v1,r1,rfl,_,q1,hl⟩:=hl;rw [RepL] at hl;obtain ⟨v2,r2,rfl,_,q2,hl⟩:=hl;rw [RepL] at hl;obtain ⟨v3,r3,rfl,_,q3,hl⟩:=hl;rw [RepL] at hl;obtain ⟨v4,r4,rfl,_,q4,hl⟩:=hl;rw [RepL] at hl;obtain ⟨v5,r5,rfl,_,q5,hl⟩:=hl;rw [RepL] at hl;subst hl;rw [RepV] at q1;rw [RepV] at q2;rw [RepV] at q3;rw [RepV] at q4;rw [RepV] at q5;subst q1 q2 q3 q4;obtain ⟨A,c,rfl,_,_,hd⟩:=q5;refine ⟨A,c,by unfold Zur;rw [hk],⟨by show name.size<=_;simp only [maxLen];omega,?_,by show Zgn body<=_;omega⟩⟩;rcases hd with rfl | ⟨b',o',k',rfl,hH,_,hcc⟩
    ·exact .inl (Zh3 h1)
    ·exact .inr ⟨b',o',rfl,hB b' k' hH,Zeh hB 400 h1 hcc⟩
   ·cases h
  ·cases h
 ·cases h
end
theorem Zgf (H:Zp)(w:World):∀ l:List S.Item,RepL H w (S.encItems l) (l.flatMap Zb)
 | []=>by unfold S.encItems;rw [List.flatMap_nil,RepL];rfl
 | x::r=>by
  unfold S.encItems;rw [Ybd,Ybd];refine RepL.append ?_ (Zgf H w r);unfold S.encItem Zb
  repeat (rw [RepL];refine ⟨_,_,rfl,rfl,by rw [RepV],?_⟩)
  rw [RepL]
namespace S
def buildA (x:AV):Option (AV×Tail):=match decR x with
 | some r=>if chkB r=0 then (if Zgn r.body<=1000000/\(bItems r).length<=1000000 then some (.tup [.agg (encObj r.name (bItems r)),.int .i64 0],none) else none)
  else some (.tup [.agg [.str ⟨#[]⟩,.row 0 []],.int .i64 (chkB r)],none)
 | none=>none
def itoaA (x:AV):Option (AV×Tail):=match x with
 | .int .i64 n=>if -9223372036854775808<=n/\n<=9223372036854775807 then some (.str ⟨(itoa n).toArray⟩,none) else none
 | _=>none
def orcB (f:FuncId)(xs:List AV):Option (AV×Tail) :=
 if f=117 then (match xs with | [x]=>itoaA x | _=>none) else if f=134 then (match xs with | [x]=>buildA x | _=>none) else none
end S
theorem Zy9 {H:Zp}{w w':World}{n:Nat}{A:Option Addr}{c:Nat}{t:TypeId}{z:Nat}{cs:List S.AV}{xs:List Value}(hbnd:∀ b k,H b=some k->b<w.heap.size)(hb:Below w.heap.size w w')
 (ho:w'.ownsRow w.heap.size t z (.slice A n c) n xs) (hx:∀ H w,RepL H w cs xs) (hz:0<z):∃ H':Zp,(∀ b,b<w.heap.size->H' b=H b)/\(∀ b k,H' b=some k->b<w'.heap.size)/\RepV H' w' (.row n cs) (.slice A n c):=by
 have hlen:cs.length=n*z:=by rw [<- ho.1];exact (RepL.length (hx H w)).symm
 rcases ho.2 with ⟨e,rfl⟩ | ⟨g,cap,cur,e,hg,hcur,hn,hcm,hsz,htake⟩
 ·cases e
  refine ⟨H,fun _ _=>rfl,fun b k hk=>Yt (hbnd b k hk) hb.size,?_⟩;rw [RepV];exact ⟨none,0,rfl,fun _=>Yaj (by rw [hlen];simp),fun _=>rfl,.inl (Yaj (by rw [hlen];simp))⟩
 ·cases e
  refine ⟨fun b=>if b=g then some cs.length else H b,fun b hb'=>by simp only;rw [if_neg (by omega)],fun b k hk=>?_,?_⟩
  ·simp only at hk
   by_cases h:b=g
   ·rw [h];exact (Array.getElem?_eq_some_iff.1 hcur).1
   ·rw [if_neg h] at hk;exact Yt (hbnd b k hk) hb.size
  ·rw [RepV]
   refine ⟨_,_,rfl,fun h0=>Yaj (by rw [hlen,h0];simp),fun h0=>(by cases h0),.inr ⟨g,0,cs.length,rfl,by simp,by omega,Zk1 (hx _ _) fun j u hj=>?_⟩⟩;rw [Yb hcur,Nat.zero_add];have hj2:j<n*z:=by rw [<- ho.1];exact (List.getElem?_eq_some_iff.1 hj).1
   rw [<- htake,List.getElem?_take,if_pos hj2] at hj
   simpa using hj
theorem Zoo {x:S.AV}{r:S.AV}{y:S.Tail}(h:S.buildA x=some (r,y)):AFn Tryz.prog LVE 134 [x] r y:=by
 intro H w vs hbnd hL hrep;rw [RepT] at hrep;obtain ⟨v,us,rfl,hv,hus⟩:=hrep;rw [RepT] at hus;subst hus;unfold S.buildA at h
 split at h
 ·rename_i br hbr
  obtain ⟨A,c,rfl,hat⟩:=Zy8 hbnd hbr hv
  split at h
  ·rename_i h0
   split at h
   ·rename_i hh
    cases h
    refine (Zy7 br A c w hat h0 hh.1 hL (by omega)).mono ?_;rintro e w' ⟨A',c',rfl,ho,hb⟩;obtain ⟨H',p1,p2,p3⟩:=Zy9 hbnd hb ho (fun H w=>Zgf H w (S.bItems br)) (by decide);refine ⟨_,H',rfl,hb,p1,p2,?_,fun z hz=>by cases hz⟩;rw [RepV];refine ⟨[_,_],rfl,?_⟩;rw [RepT];refine ⟨_,_,rfl,?_,?_⟩
    ·rw [RepV]
     refine ⟨[_,_],rfl,?_⟩;unfold S.encObj;rw [RepL];refine ⟨_,_,rfl,rfl,by rw [RepV],?_⟩;rw [RepL];exact ⟨_,_,rfl,rfl,p3,by rw [RepL]⟩
    ·rw [RepT]
     exact ⟨_,_,rfl,by rw [RepV],by rw [RepT]⟩
   ·cases h
  ·rename_i h0
   cases h
   refine (Zt2 br A c w hat h0).mono ?_;rintro e w' ⟨rfl,hb⟩;refine ⟨_,H,rfl,hb,fun _ _=>rfl,fun b k hk=>Yt (hbnd b k hk) hb.size,?_,fun z hz=>by cases hz⟩;rw [RepV];refine ⟨[_,_],rfl,?_⟩;rw [RepT];refine ⟨_,_,rfl,?_,?_⟩
   ·rw [RepV]
    refine ⟨[_,_],rfl,?_⟩;rw [RepL];refine ⟨_,_,rfl,rfl,by rw [RepV],?_⟩;rw [RepL];refine ⟨_,_,rfl,rfl,?_,by rw [RepL]⟩;rw [RepV];exact ⟨none,0,rfl,fun _=>rfl,fun _=>rfl,.inl rfl⟩
   ·rw [RepT]
    exact ⟨_,_,rfl,by rw [RepV],by rw [RepT]⟩
 ·cases h
theorem Zqx {x:S.AV}{r:S.AV}{y:S.Tail}(h:S.itoaA x=some (r,y)):AFn Tryz.prog LVE 117 [x] r y:=by
 intro H w vs hbnd hL hrep;rw [RepT] at hrep;obtain ⟨v,us,rfl,hv,hus⟩:=hrep;rw [RepT] at hus;subst hus;unfold S.itoaA at h
 split at h
 ·rename_i n
  split at h
  ·rename_i hh
   cases h
   rw [RepV] at hv;subst hv;refine (Zw1 n ⟨by omega,by omega⟩ w hL).mono ?_;rintro e w' ⟨rfl,hb⟩;exact ⟨_,H,rfl,hb,fun _ _=>rfl,fun b k hk=>Yt (hbnd b k hk) hb.size,by rw [RepV],fun z hz=>by cases hz⟩
  ·cases h
 ·cases h
theorem Zqy (f:FuncId)(xs:List S.AV)(r:S.AV)(y:S.Tail)(h:S.orcB f xs=some (r,y)):AFn Tryz.prog LVE f xs r y:=by
 unfold S.orcB at h
 split at h
 ·rename_i hf
  subst hf
  split at h
  ·exact Zqx h
  ·cases h
 ·split at h
  ·rename_i hf
   subst hf
   split at h
   ·exact Zoo h
   ·cases h
  ·cases h
theorem Zmw {cf n:Nat}{f:FuncId}{xs:List S.AV}{r:S.AV}{y:S.Tail}(h:S.runFn Tryz.prog S.orcB cf n f xs=some (r,y)):AFn Tryz.prog LVE f xs r y :=
 Zox (fun w w' hL hb=>hL.on hb) Zqy n f xs r y h
end
section
open Go.RowKit
theorem Zjk {w:World}{b B:Nat}{cs:Array Value}{t:TypeId}{L:List Value}(h:w.heap[b]?=some (.cells cs t (0,0)))(hcs:cs.toList=L)(hb:b<B):Reads w B (some ⟨b,0,none⟩) L:=fun _=>by
 subst hcs;exact ⟨b,0,rfl,hb,fun i x hx=>by rw [Yb h];simpa using hx⟩
end
section
open Go.RowKit
theorem Zca (y:S.Inst):0<=S.wordOf y/\S.wordOf y<=4294967295:=by
 unfold S.wordOf
 split
 ·rename_i h;exact Zzi h
 ·omega
theorem Zwn {x:S.Item}(hw:0<=x.word/\x.word<=4294967295)(form at_ tt:Int):∀ v∈S.wordsOf x form at_ tt,0<=v/\v<=4294967295:=by
 unfold S.wordsOf S.lui S.ori;intro v hv
 split at hv
 ·simp only [Yq] at hv;subst hv;exact Zca _
 split at hv
 ·simp only [Yq] at hv;subst hv;exact Zca _
 split at hv
 ·simp only [Yu,Y3,or_false] at hv
  rcases hv with rfl | rfl <;> exact Zca _
 split at hv
 ·simp only [Yu,Y3,or_false] at hv
  rcases hv with rfl | rfl | rfl | rfl <;> exact Zca _
 split at hv
 ·simp only [Yq] at hv;subst hv;exact Zca _
 split at hv
 ·simp only [Yu,Y3,or_false] at hv
  rcases hv with rfl | rfl | rfl <;> exact Zca _
 split at hv
 ·simp only [Yu,Y3,or_false] at hv
  rcases hv with rfl | rfl <;> exact Zca _
 split at hv
 ·simp only [Yq] at hv;subst hv;exact hw
 split at hv
 ·simp only [Yq] at hv;subst hv;omega
 split at hv
 ·have:=List.eq_of_mem_replicate hv;subst this;omega
 ·cases hv
theorem Zh4 {xs:List S.Item}{F:List Int}{base:Int}(hw:∀ x∈xs,0<=x.word/\x.word<=4294967295):∀ i:Nat,∀ v∈S.outTo xs F base i,0<=v/\v<=4294967295
 | 0=>fun v hv=>by cases hv
 | i+1=>fun v hv=>by
  rw [S.outTo] at hv;rcases List.mem_append.1 hv with hv | hv
  ·exact Zh4 hw i v hv
  ·unfold S.wordsAt at hv
   split at hv
   ·cases hv
   ·rename_i x hx
    exact Zwn (hw x (List.mem_of_getElem? hx)) _ _ _ v hv
end
section
set_option maxRecDepth 100000
open Go Go.RowKit Go.Proofs
def S.an (os:List S.Obj):List S.AV:=os.flatMap fun o=>S.encObj o.name o.items
theorem Zop:S.runFn Tryz.prog S.orcB 400 20 20 [.int .i64 0]=some (.row 15 (S.an S.objs26),some (55,2)):=by kernel_rfl
theorem Zwo:S.runFn Tryz.prog S.orcB 400 20 21 []=some (.agg (S.encObj S.oMain.name S.oMain.items),none):=by kernel_rfl
theorem Zqz:AFn Tryz.prog LVE 20 [.int .i64 0] (.row 15 (S.an S.objs26)) (some (55,2)):=Zmw Zop
theorem Zt4:AFn Tryz.prog LVE 21 [] (.agg (S.encObj S.oMain.name S.oMain.items)) none:=Zmw Zwo
end
section
open Go.RowKit
section
variable {H:Zp}{w:World}(hH:∀ b k,H b=some k->b<w.heap.size)
theorem Zjl:∀ {xs:List S.Item} {b o:Nat},RepC H w (S.encItems xs) b o->(∀ x∈xs,0<=x.word/\x.word<=4294967295)->∀ (i:Nat) (x:S.Item),xs[i]?=some x->ItemAt w b (o+i*8) x
 | [],b,o,_,_,i,x,h=>by cases h
 | y::r,b,o,hr,hw,i,x,h=>by
  have hr':RepC H w ([.int .i64 y.kind,.int .i64 y.inst.op,.int .i64 y.inst.d,.int .i64 y.inst.a,.int .i64 y.inst.b,.int .i64 y.inst.imm,.str y.label,.int .u32 y.word]++S.encItems r) b o:=hr;simp only [List.cons_append,List.nil_append,RepC,RepV] at hr';obtain ⟨_,⟨v0,c0,rfl⟩,_,⟨v1,c1,rfl⟩,_,⟨v2,c2,rfl⟩,_,⟨v3,c3,rfl⟩,_,⟨v4,c4,rfl⟩,_,⟨v5,c5,rfl⟩,_,⟨v6,c6,rfl⟩,_,⟨v7,c7,rfl⟩,ht⟩:=hr'
  cases i with
  | zero =>
   cases h
   rw [Nat.zero_mul,Nat.add_zero];exact ⟨c0,c1,c2,c3,c4,c5,c6,c7,(hw y Yy).1,(hw y Yy).2⟩
  | succ i =>
   have:=Zjl (xs:=r) ht (fun z hz=>hw z (List.mem_cons_of_mem _ hz)) i x h;rw [show o+(i+1)*8=o+1+1+1+1+1+1+1+1+i*8 from by omega];exact this
include hH
theorem Zjm {xs:List S.Item}{v:Value}(h:RepV H w (.row xs.length (S.encItems xs)) v)(hw:∀ x∈xs,0<=x.word/\x.word<=4294967295):∃ A c,v=.slice A xs.length c/\Items w w.heap.size A xs:=by
 simp only [RepV] at h;obtain ⟨A,c,rfl,_,_,hc⟩:=h;refine ⟨A,c,rfl,fun hp=>?_⟩;rcases hc with e | ⟨b,o,k,rfl,hb,_,hr⟩
 ·cases xs with
  | nil=>simp at hp
  | cons y r=>cases e
 ·exact ⟨b,o,rfl,hH b k hb,Zjl hr hw⟩
end
def S.bf (os:List S.Obj):Bool:=os.all fun o=>o.items.all (fun x=>decide (0<=x.word/\x.word<=4294967295)) && decide (o.name.size<=1000) && o.items.all (fun x=>decide (x.label.size<=1000))
theorem Zgu:S.bf (S.objs26++[S.oMain])=true:=by kernel_rfl
theorem Zkv {os:List S.Obj}(h:S.bf os=true):∀ x∈os,(∀ y∈x.items,0<=y.word/\y.word<=4294967295)/\x.name.size<=maxLen/\∀ y∈x.items,y.label.size<=maxLen:=fun x hx=>by
 have:=Yaz.1 h x hx;simp only [Bool.and_eq_true] at this;obtain ⟨⟨h1,h2⟩,h3⟩:=this;have h2':=of_decide_eq_true h2;refine ⟨fun y hy=>of_decide_eq_true (Yaz.1 h1 y hy),by simp only [maxLen];omega,fun y hy=>?_⟩;have:=of_decide_eq_true (Yaz.1 h3 y hy);simp only [maxLen];omega
end
end Go.Proofs.YtdeepoikgfaecaaGreatDoor
