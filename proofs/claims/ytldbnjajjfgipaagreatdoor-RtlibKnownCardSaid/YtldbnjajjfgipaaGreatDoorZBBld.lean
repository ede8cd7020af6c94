/- Parts. -/
import Derived.Test.YtldbnjajjfgipaaGreatDoorZBStm2
import Derived.StillTailTactics
import Derived.Laws.ResultCell
import Derived.OneCell
set_option linter.all false
set_option maxHeartbeats 1000000
open Go.Lib renaming hid->Ya,cell_of_heap->Yb,frozen_of_heap->Yai
open List renaming length_append->Yc,length_cons->Yk,append_assoc->Yo,length_nil->Yae
open Nat renaming le_refl->Yd,le_trans->Yaa
open Go.AllReady renaming cons->Yf,nil->Yi
namespace Go.Proofs.YtldbnjajjfgipaaGreatDoor
open S Go.Proofs.Tryz Go.RowKit
set_option maxRecDepth 100000
theorem Zeb:∀k,(bParams k).length=k
 | 0=>rfl
 | k+1=>by rw[bParams,Yc,Zeb k];rfl
def BPost (r:BR)(w:World)(e:Ending)(w':World):Prop :=
 ∃A c,e=.returned (.tuple #[.agg #[.string r.name,.slice A (bItems r).length c],.int .i64 0])/\w'.ownsRow w.heap.size 135 8 (.slice A (bItems r).length c) (bItems r).length ((bItems r).flatMap Zb)/\Below w.heap.size w w'
theorem BPost.mk' {r:BR}{w w':World}{A:Option Addr}{c:Nat}{T:List S.Item}(b:T=bItems r)(h:w'.ownsRow w.heap.size 135 8 (.slice A T.length c) T.length (T.flatMap Zb))(a:Below w.heap.size w w'):BPost r w (.returned (.tuple #[.agg #[.string r.name,.slice A T.length c],.int .i64 0])) w':=by
 subst b;exact⟨A,c,rfl,h,a⟩
theorem Zx0 (r:BR)(A:Option Addr)(c:Nat)(w:World)(hR:RAt2 w w.heap.size r A)(h0:chkB r=0)(d2:Zf3 r.body<=1000000)(hL:LVE w)(hl:(bItems r).length+20<=100000000) :
 Calls prog 177 #[Zuj r A c] w (BPost r w):=by
 have x:=Ya (λ(W:World) (hb:Below w.heap.size w W)=>Zmn r A c W ((hR.below hb).more hb.size));have s:=Ya (λ(W:World) (hb:Below w.heap.size w W)=>Zx4 r A c W ((hR.below hb).more hb.size));rw[h0] at x;obtain⟨nm,P,L,d,body⟩:=r;unfold Zuj at x s⊢;simp only at x s d2⊢;obtain⟨N,hN⟩:=Yx body.length;rw[<- hN] at x s⊢;have HN:=Ya hN;obtain⟨t1,t2,t3,t4⟩:=Zdh w (.cells #[.string nm,.int .i64 P,.int .i64 L,.bool d,.slice A N c] 203) (.cells #[.string ⟨#[]⟩,.slice none 0 0] 105);have Y:=Ya t3;have n:=Ya t1;have b6:=Ya t2;have c8:w.heap.size+2<=((w.alloc (.cells #[.string nm,.int .i64 P,.int .i64 L,.bool d,.slice A N c] 203)).alloc (.cells #[.string ⟨#[]⟩,.slice none 0 0] 105)).heap.size:=Nat.le_of_eq t4.symm;clear hN t1 t2 t3 t4;go_enter func177,ntmps177
 go_upto_region 1 with fail
 generalize (w.alloc (.cells #[.string nm,.int .i64 P,.int .i64 L,.bool d,.slice A N c] 203)).alloc (.cells #[.string ⟨#[]⟩,.slice none 0 0] 105)=w2 at *;have k0:w2.cell? ⟨w.heap.size,0,none⟩=some (.string nm):=by rw[Yb n.out];rfl
 have V:w2.cell? ⟨w.heap.size,1,none⟩=some (.int .i64 P):=by rw[Yb n.out];rfl
 have k2:w2.cell? ⟨w.heap.size,2,none⟩=some (.int .i64 L):=by rw[Yb n.out];rfl
 have k3:w2.cell? ⟨w.heap.size,3,none⟩=some (.bool d):=by rw[Yb n.out];rfl
 have k4:w2.cell? ⟨w.heap.size,4,none⟩=some (.slice A N c):=by rw[Yb n.out];rfl
 go_wp2_with fail
 refine(x.out w2 Y.out).mono ?_;rintro e f ⟨rfl,F⟩;have l:=Ya ((F.block _ (by omega)).trans n.out);have d7:=Ya ((F.block _ (by omega)).trans b6.out);have d3:w.heap.size+2<=f.heap.size:=Yaa c8 F.size;have t:=Ya (Y.out.trans (F.mono Y.out.size));clear k0 V k2 k3 k4 F n Y b6 c8;have k0:f.cell? ⟨w.heap.size,0,none⟩=some (.string nm):=by rw[Yb l.out];rfl
 have V:f.cell? ⟨w.heap.size,1,none⟩=some (.int .i64 P):=by rw[Yb l.out];rfl
 have k2:f.cell? ⟨w.heap.size,2,none⟩=some (.int .i64 L):=by rw[Yb l.out];rfl
 have k3:f.cell? ⟨w.heap.size,3,none⟩=some (.bool d):=by rw[Yb l.out];rfl
 have k4:f.cell? ⟨w.heap.size,4,none⟩=some (.slice A N c):=by rw[Yb l.out];rfl
 go_upto_region 4 with fail
 obtain⟨fr,I⟩:=Yx (frameB ⟨nm,P,L,d,body⟩);rw[<- I] at s;have Z:=Ya I;clear I
 go_cut [5] (λ v5 wc=>∃p:Nat,v5=.pointer (some ⟨p,0,none⟩)/\Hid (CAt f.heap.size p ⟨⟨nm,P,L,d,body⟩,A,c,fr⟩ [] 0 wc)/\Hid (Below f.heap.size f wc))
 case first =>
  refine wp_region_any (by kernel_rfl) ?_;change wpAny _ _ _ _ _ _ _ (World.drew f);have j:Below f.heap.size f f.drew:=⟨rfl,rfl,rfl,Yd _,λ _ _=>rfl⟩
  generalize f.drew=w4 at *;have u:=Ya ((j.block _ (by omega)).trans l.out);have j4:=j.size;clear k0 V k2 k3 k4;have k0:w4.cell? ⟨w.heap.size,0,none⟩=some (.string nm):=by rw[Yb u.out];rfl
  have V:w4.cell? ⟨w.heap.size,1,none⟩=some (.int .i64 P):=by rw[Yb u.out];rfl
  have k2:w4.cell? ⟨w.heap.size,2,none⟩=some (.int .i64 L):=by rw[Yb u.out];rfl
  have k3:w4.cell? ⟨w.heap.size,3,none⟩=some (.bool d):=by rw[Yb u.out];rfl
  have k4:w4.cell? ⟨w.heap.size,4,none⟩=some (.slice A N c):=by rw[Yb u.out];rfl
  have a1:=Ya (s.out w4 (t.out.trans (j.mono t.out.size)));refine wpAny_ready (rs:=[0,1]) (by kernel_rfl) (by simp) ?_;refine Yf rfl (λ K b=>?_) (Yf rfl (λ K b=>?_) Yi)
  .go_simp
   refine b _ _ ?_;clear b K
   (refine wpAny_ready (rs:=[1]) (by kernel_rfl) (by simp) ?_;refine Yf rfl (λ K b=>?_) Yi;go_simp;refine b _ _ ?_;clear b K)
   refine wpAny_ready (rs:=[2]) (by kernel_rfl) (by simp) ?_;refine Yf rfl (λ K b=>?_) Yi;go_simp
   refine a1.out.mono ?_;rintro e i ⟨rfl,m⟩;go_simp
   refine b _ _ ?_;clear b K
   (refine wpAny_ready (rs:=[3]) (by kernel_rfl) (by simp) ?_;refine Yf rfl (λ K b=>?_) Yi;go_simp;refine b _ _ ?_;clear b K)
   (refine wpAny_ready (rs:=[4]) (by kernel_rfl) (by simp) ?_;refine Yf rfl (λ K b=>?_) Yi;go_simp;refine b _ _ ?_;clear b K)
   (refine wpAny_ready (rs:=[5]) (by kernel_rfl) (by simp) ?_;refine Yf rfl (λ K b=>?_) Yi;go_simp;refine b _ _ ?_;clear b K)
   refine wpAny_done (by kernel_rfl) ?_ _;go_wp2_with fail
   go_meet
   have g:Below f.heap.size f i:=j.trans (m.mono j.size);have M:CAt f.heap.size i.heap.size ⟨⟨nm,P,L,d,body⟩,A,c,fr⟩ [] 0 (i.alloc (.cells #[.string nm,.int .i64 P,.int .i64 L,.bool d,.slice A N c,.int .i64 fr,.slice none 0 0,.int .i64 0] 242)):=by
    refine⟨g.size,.slice none 0 0,?_,rfl,Or.inl ⟨rfl,rfl⟩⟩;rw[heap_alloc_new];unfold Zfo;simp only[<- HN.out]
   exact⟨i.heap.size,rfl,Ya M,Ya (g.alloc g.size _)⟩
  .go_simp
   refine b _ _ ?_;clear b K;refine wpAny_ready (rs:=[0,2]) (by kernel_rfl) (by simp) ?_;refine Yf rfl (λ K b=>?_) (Yf rfl (λ K b=>?_) Yi)
   .go_simp
    refine b _ _ ?_;clear b K;refine wpAny_ready (rs:=[2]) (by kernel_rfl) (by simp) ?_;refine Yf rfl (λ K b=>?_) Yi;go_simp
    refine a1.out.mono ?_;rintro e i ⟨rfl,m⟩;go_simp
    refine b _ _ ?_;clear b K
    (refine wpAny_ready (rs:=[3]) (by kernel_rfl) (by simp) ?_;refine Yf rfl (λ K b=>?_) Yi;go_simp;refine b _ _ ?_;clear b K)
    (refine wpAny_ready (rs:=[4]) (by kernel_rfl) (by simp) ?_;refine Yf rfl (λ K b=>?_) Yi;go_simp;refine b _ _ ?_;clear b K)
    (refine wpAny_ready (rs:=[5]) (by kernel_rfl) (by simp) ?_;refine Yf rfl (λ K b=>?_) Yi;go_simp;refine b _ _ ?_;clear b K)
    refine wpAny_done (by kernel_rfl) ?_ _;go_wp2_with fail
    go_meet
    have g:Below f.heap.size f i:=j.trans (m.mono j.size);have M:CAt f.heap.size i.heap.size ⟨⟨nm,P,L,d,body⟩,A,c,fr⟩ [] 0 (i.alloc (.cells #[.string nm,.int .i64 P,.int .i64 L,.bool d,.slice A N c,.int .i64 fr,.slice none 0 0,.int .i64 0] 242)):=by
     refine⟨g.size,.slice none 0 0,?_,rfl,Or.inl ⟨rfl,rfl⟩⟩;rw[heap_alloc_new];unfold Zfo;simp only[<- HN.out]
    exact⟨i.heap.size,rfl,Ya M,Ya (g.alloc g.size _)⟩
   .go_simp
    refine a1.out.mono ?_;rintro e i ⟨rfl,m⟩;go_simp
    refine b _ _ ?_;clear b K;have J:=Ya ((m.block _ (by omega)).trans u.out);clear k0 V k2 k3 k4;have k0:i.cell? ⟨w.heap.size,0,none⟩=some (.string nm):=by rw[Yb J.out];rfl
    have V:i.cell? ⟨w.heap.size,1,none⟩=some (.int .i64 P):=by rw[Yb J.out];rfl
    have k2:i.cell? ⟨w.heap.size,2,none⟩=some (.int .i64 L):=by rw[Yb J.out];rfl
    have k3:i.cell? ⟨w.heap.size,3,none⟩=some (.bool d):=by rw[Yb J.out];rfl
    have k4:i.cell? ⟨w.heap.size,4,none⟩=some (.slice A N c):=by rw[Yb J.out];rfl
    (refine wpAny_ready (rs:=[0]) (by kernel_rfl) (by simp) ?_;refine Yf rfl (λ K b=>?_) Yi;go_simp;refine b _ _ ?_;clear b K)
    (refine wpAny_ready (rs:=[3]) (by kernel_rfl) (by simp) ?_;refine Yf rfl (λ K b=>?_) Yi;go_simp;refine b _ _ ?_;clear b K)
    (refine wpAny_ready (rs:=[4]) (by kernel_rfl) (by simp) ?_;refine Yf rfl (λ K b=>?_) Yi;go_simp;refine b _ _ ?_;clear b K)
    (refine wpAny_ready (rs:=[5]) (by kernel_rfl) (by simp) ?_;refine Yf rfl (λ K b=>?_) Yi;go_simp;refine b _ _ ?_;clear b K)
    refine wpAny_done (by kernel_rfl) ?_ _;go_wp2_with fail
    go_meet
    have g:Below f.heap.size f i:=j.trans (m.mono j.size);have M:CAt f.heap.size i.heap.size ⟨⟨nm,P,L,d,body⟩,A,c,fr⟩ [] 0 (i.alloc (.cells #[.string nm,.int .i64 P,.int .i64 L,.bool d,.slice A N c,.int .i64 fr,.slice none 0 0,.int .i64 0] 242)):=by
     refine⟨g.size,.slice none 0 0,?_,rfl,Or.inl ⟨rfl,rfl⟩⟩;rw[heap_alloc_new];unfold Zfo;simp only[<- HN.out]
    exact⟨i.heap.size,rfl,Ya M,Ya (g.alloc g.size _)⟩
 case rest =>
  obtain⟨p,rfl,HC,HB⟩:=hcut;obtain⟨-,p0,p1,p2,p3,c3⟩:=Zgp h0;simp only at p0 p1 p2 p3 c3;have b7:frameB ⟨nm,P,L,d,body⟩=L+15:=by show(if _ then _ else _)=_;rw[if_neg (by simpa using h0)]
  have c1:fr=L+15:=by rw[Z.out,b7]
  have hO:HOk ⟨⟨nm,P,L,d,body⟩,A,c,fr⟩:=⟨by show 0<=fr;omega,by show fr<=1000;omega,by show 0<=L;omega,by show L<=200;omega⟩
  have hT:bItems ⟨nm,P,L,d,body⟩=[bL nm,bI 25 0 28 31 0]++bParams P.toNat++[bI 15 28 28 0 fr]++(bSs ⟨⟨nm,P,L,d,body⟩,A,c,fr⟩ body 0).1++bBack fr d:=by
   show([bL nm,bI 25 0 28 31 0]++bParams P.toNat++[bI 15 28 28 0 (frameB _)])++(bStmts (frameB _) L d body 0).1++bBack (frameB _) d=_
   rw[<- Z.out]
  have d0:(bItems ⟨nm,P,L,d,body⟩).length=2+P.toNat+1+(bSs ⟨⟨nm,P,L,d,body⟩,A,c,fr⟩ body 0).1.length+(bBack fr d).length:=by
   rw[hT];simp only[Yc,Yk,Yae,Zeb]
  have HT:=Ya hT;rw[d0] at hl;have HR:=Ya hR.body;have d8:=Ya (t.out.trans (HB.out.mono t.out.size));have h4:=Ya (hL.on d8.out);have a6:=Ya ((HB.out.block _ (by omega)).trans l.out);have h3:=Ya ((HB.out.block _ (by omega)).trans d7.out);have e8:=HB.out.size;have B:3<=f.heap.size:=Yaa hL.size (Yaa (by omega) d3);have d5:=Ya ((hR.body.below t.out).more t.out.size);obtain⟨O,g9⟩:=Yx f.heap.size;rw[<- g9] at HC HB e8 B d3 d5;obtain⟨h,hh⟩:∃h:CH,h=⟨⟨nm,P,L,d,body⟩,A,c,fr⟩:=⟨_,rfl⟩
  rw[<- hh] at HC hO hl HT;have Hh:=Ya hh;have k0:wc.cell? ⟨w.heap.size,0,none⟩=some (.string nm):=by rw[Yb a6.out];rfl
  clear d0 hT b7 hh c1 V k2 k3 k4 hR hL h0 x s l d7;have b9:=Ya (Zgq HC.out e8 (by simp) nm);go_wp2_with fail
  refine b9.out.mono ?_;rintro e i ⟨rfl,y,o⟩;have m:O<=i.heap.size:=by have:=o.size;omega
  have e7:=Ya (Zaw y m (by simp) 25 0 28 31 0);go_wp2_with fail
  refine e7.out.mono ?_;rintro e w6 ⟨rfl,g3,g4⟩;have j9:O<=w6.heap.size:=by have:=g4.size;omega
  have a5:=Ya (o.trans g4);have a3:=Ya (a5.out.keep _ _ _ _ a6.out (by decide) (by decide));have V:w6.cell? ⟨w.heap.size,1,none⟩=some (.int .i64 P):=by rw[Yb a3.out];rfl
  have d4:=Ya g3;clear y o g3 g4 b9 e7 k0;have c2:=Ya (show h.fr=fr from by rw[Hh.out]);go_wp2_with fail
  go_loopw [29] (λ b4 wr=>∃k:Nat,k<=P.toNat/\b4=.int .i64 k/\Hid (CAt O p h ([bL nm,bI 25 0 28 31 0]++bParams k) 0 wr)/\Hid (CK O w6 wr)) (λ b4 _=>P.toNat-(intOf b4).toNat)
  case atStart=>exact⟨0,by omega,rfl,Ya (by simpa[bParams] using d4.out),Ya (CK.refl _ _)⟩
  case round =>
   obtain⟨k,hk,rfl,U,C⟩:=hrel;obtain⟨wo,f8⟩:=Yx wr;subst f8;have b5:O<=wo.heap.size:=by have:=C.out.size;omega
   have q:([bL nm,bI 25 0 28 31 0]++bParams k).length=2+k:=by simp only[Yc,Yk,Yae,Zeb]
   by_cases j6:k<P.toNat
   .have hkP:(k:Int)<P:=by omega
    have f2:=Ya (Zmv (k:Int) (by omega) wo);have Hc:=Ya (Zaw U.out b5 (by rw[q];omega) 25 0 28 (4+(k:Int)) (1+(k:Int)));clear q;go_wp2_with fail
    refine f2.out.mono ?_;rintro e j5 ⟨rfl,rfl⟩;go_wp2_with fail
    refine Hc.out.mono ?_;rintro e w7 ⟨rfl,y,o⟩;go_wp2_with fail
    go_roundw
    case rel=>exact⟨k+1,by omega,by go_num,Ya (by rw[bParams,<- Yo];exact y),Ya (C.out.trans o)⟩
    case measure=>simp[intOf];omega
   .have hkP:¬(k:Int)<P:=by omega
    have g8:P.toNat=k:=by omega
    have c4:=Ya (C.out.keep _ _ _ _ a3.out (by decide) (by decide));have c5:=U.out.cell_fr;rw[c2.out] at c5;have Hc:=Ya (Zaw U.out b5 (by rw[q];omega) 15 28 28 0 fr);rw[<- g8] at q Hc;clear U V;go_wp2_with fail
    refine Hc.out.mono ?_;rintro e w7 ⟨rfl,y,o⟩;have k6:O<=w7.heap.size:=by have:=o.size;omega
    have a4:=Ya (a5.out.trans (C.out.trans o));have f9:=Ya (o.keep _ _ _ _ c4.out (by decide) (by decide));have k4:w7.cell? ⟨w.heap.size,4,none⟩=some (.slice A N c):=by rw[Yb f9.out];rfl
    have H:([bL nm,bI 25 0 28 31 0]++bParams P.toNat++[bI 15 28 28 0 fr]).length=2+P.toNat+1:=by rw[Yc,q];rfl
    obtain⟨zs,c0⟩:=Yx ([bL nm,bI 25 0 28 31 0]++bParams P.toNat++[bI 15 28 28 0 fr]);rw[<- c0] at y H HT;have g0:=Ya y;have i5:=Ya (h4.out.keep a4.out.below B);have i1:=Ya (d5.out.below (HB.out.trans a4.out.below));have d1:=Ya (a4.out);clear c0 y o q c5 C c4 a5 a3 d4 Hc;have g5:=Zck body;rw[<- HN.out] at g5;have Q:h.r.behind=d:=by rw[Hh.out]
    have j7:=Zk1 fr d;have f4:chkSs h.r.locals body 0=0:=by rw[Hh.out];exact c3
    have i2:=Ya (Z0e (p:=p) hO B 1000000 (Yd _));go_wp2_with fail
    go_loopw [50] (λ a7 wr=>∃k:Nat,k<=N/\a7=.int .i64 k/\Hid (CAt O p h (zs++(bSs h (body.take k) 0).1) (bSs h (body.take k) 0).2 wr)/\Hid (CK O w7 wr)) (λ a7 _=>N-(intOf a7).toNat)
    case atStart=>exact⟨0,by omega,rfl,Ya (by simpa[bStmts] using g0.out),Ya (CK.refl _ _)⟩
    case round =>
     obtain⟨k2,j3,rfl,a9,E⟩:=hrel;obtain⟨G,d9⟩:=Yx wr;subst d9;have b2:O<=G.heap.size:=by have:=E.out.size;omega
     by_cases d6:k2<N
     .obtain⟨s1,hs1⟩:∃s1,body[k2]?=some s1:=⟨_,List.getElem?_eq_getElem (by rw[<- HN.out];exact d6)⟩
      obtain⟨b',i6,h9,f3,h7,h5,i4,f5,h2,g7,M1,M2,M3,M4,f6,g6,e9,rfl,i9,e0,e1,e2,e3,e4,e5,e6,a0⟩:=Zdi i2.out B d2 f4 (i1.out.below E.out.below) hs1 a9.out b2 (i5.out.keep E.out.below B) (by omega) (by omega) (by rw[H];omega);have j2:b'<G.heap.size:=by omega
      have a8:Below G.heap.size G (G.alloc (.cells #[.int .i64 f6,.int .i64 g6,.string e9,.slice h9 M1 f3,.slice h7 M2 h5,.slice i4 M3 f5,.slice h2 M4 g7] 149)):=(Below.refl _ _).alloc (Yd _) _;have b8:=Ya (a0 _ a8);have f7:=Ya (CK.of a8 b2);clear a0 a8 hs1 Q H;go_wp2_with fail
      refine b8.out.mono ?_;rintro e X ⟨rfl,y,o⟩;go_wp2_with fail
      go_roundw
      case rel=>exact⟨k2+1,by omega,by go_num,Ya y,Ya (E.out.trans (f7.out.trans o))⟩
      case measure=>simp[intOf];omega
     .have hkN2:N=k2:=by omega
      subst hkN2;have ht:body.take N=body:=by rw[HN.out,List.take_length]
      rw[ht] at a9;have Hb:=Ya (Zw8 a9.out b2 (by rw[Yc,H];omega) hO);rw[c2.out,Q] at Hb;have i8:=Ya Q;clear ht Q H;go_wp2_with fail
      refine Hb.out.mono ?_;rintro e X ⟨rfl,y,o⟩;have k5:O<=X.heap.size:=by have:=o.size;omega
      have b3:=Ya (d1.out.trans (E.out.trans o));have h8:=Ya (b3.out.keep _ _ _ _ a6.out (by decide) (by decide));have z:=Ya (b3.out.keep _ _ _ _ h3.out (by decide) (by decide));have k0:X.cell? ⟨w.heap.size,0,none⟩=some (.string nm):=by rw[Yb h8.out];rfl
      have j0:X.cell? ⟨w.heap.size+1,0,none⟩=some (.string ⟨#[]⟩):=by rw[Yb z.out];rfl
      have j1:X.cell? ⟨w.heap.size+1,1,none⟩=some (.slice none 0 0):=by rw[Yb z.out];rfl
      have f0:X.frozen? ⟨w.heap.size+1,0,none⟩=false:=Yai z.out 0;have f1:X.frozen? ⟨w.heap.size+1,1,none⟩=false:=Yai z.out 1;obtain⟨i7,v,a2,D⟩:=y;rw[Yo,<- Yo] at D;have c9:(zs++(bSs h body 0).1)++bBack fr d=bItems ⟨nm,P,L,d,body⟩:=HT.out.symm;have c6:X.cell? ⟨p,6,none⟩=some v:=by rw[Yb a2];rfl
      obtain⟨A',R,rfl⟩:=Za D;rw[c9] at D c6;have b1:=Ya D;have j8:=Ya a2;have i3:=Ya (d8.out.trans (b3.out.below.mono (by omega)));clear D a2 c9;obtain⟨T,b0⟩:=Yx (bItems ⟨nm,P,L,d,body⟩);rw[<- b0] at b1 c6;have i0:=Ya b0;clear b0;go_upto_region 19 with fail
      go_still_tail 7,(by kernel_rfl)
      go_wp2_with fail
      have c7:(Value.slice A' T.length R).ownBlock≠some (w.heap.size+1):=Zak b1.out z.out (by decide)
      (try simp only[Exit.inBlock,Exit.then])
      refine bodyPost_ret (v:=.tuple #[.agg #[.string nm,.slice A' T.length R],.int .i64 0]) (by rw[results_cell_tmp rfl];go_simp) rfl ?_;have h6:Below w.heap.size w ((X.setCell ⟨w.heap.size+1,0,none⟩ (.string nm)).setCell ⟨w.heap.size+1,1,none⟩ (.slice A' T.length R)).drew:=((i3.out.setCell (p:=⟨w.heap.size+1,0,none⟩) (by show w.heap.size<=w.heap.size+1;omega) _).setCell (p:=⟨w.heap.size+1,1,none⟩) (by show w.heap.size<=w.heap.size+1;omega) _).trans ⟨rfl,rfl,rfl,Yd _,λ _ _=>rfl⟩;refine BPost.mk' i0.out ?_ h6;have h1:=ownsRow_setCell_other (a:=⟨w.heap.size+1,1,none⟩) (ownsRow_setCell_other (a:=⟨w.heap.size+1,0,none⟩) b1.out c7 (.string nm)) c7 (.slice A' T.length R);exact Zn (Zc h1 ⟨rfl,rfl,rfl,Yd _,λ _ _=>rfl⟩) (by omega)
