/- Parts. -/
import Derived.Test.YtcjhmiijbojgeaaGreatDoorZVWr
import Derived.BigQuiet
set_option linter.all false
set_option maxHeartbeats 2000000
open Go.Lib renaming hid->Ya
open Nat renaming le_refl->Yc
open List renaming getElem?_eq_getElem->Ye,getD_eq_getElem?_getD->Yh
open Go.RowKit.Below renaming refl->Yj
open Go.IntWalk renaming i64_in->Ym
namespace Go.Proofs.YtcjhmiijbojgeaaGreatDoor
open S Go.Proofs.Tryz Go.RowKit
set_option maxRecDepth 100000
theorem Z5z (A:Option Addr)(N c:Nat)(l:List Int)(u:N=l.length)(w:World)(B:Nat)(h:Ints w B A l)(hl:N<=1000000)(hA:A=none->N=0)(hc:N<=c) :
 Calls prog 151 #[.slice A N c] w λ e w'=>∃m n,Top l m/\e=.returned (.slice A m c)/\w'=w.drewN n:=by
 have s:=Ya u;have H:=Ya h;clear u h;go_enter func151,ntmps151
 go_wp2_with fail
 go_loopw [3] (λ i wr=>∃k n:Nat,k<=N/\i=.int .i64 k/\Hid (∀j,k<=j->l.getD j 0=0)/\wr=w.drewN n) (λ i _=>(intOf i).toNat)
 case atStart=>exact⟨N,0,Yc _,rfl,Ya λ j t=>by rw[Yh,List.getElem?_eq_none (by rw[<- s.out];exact t)];rfl,rfl⟩
 case round =>
  obtain⟨k,n,C,rfl,r,rfl⟩:=hrel;by_cases c0:k=0
  .subst c0
   have d:=Ya (show Top l 0 from⟨Nat.zero_le _,r.out,.inl rfl⟩);go_wp2_with fail
   go_ret
   exact⟨0,_,d.out,rfl,rfl⟩
  .obtain⟨q,rfl⟩:∃q,k=q+1:=⟨k-1,by omega⟩
   obtain⟨b,off,o,z,f⟩:=H.out.at_ (k:=q) (by rw[<- s.out];omega);obtain⟨x,g⟩:=Yx (l.getD q 0);rw[<- g] at f;have v:=Ya g;have e2:IntKind.i64.wrap (((q+1:Nat):Int)-1)=(q:Int):=by rw[Ym _ (by omega)];omega
   have e3:IntKind.i64.wrap (q:Int)=(q:Int):=by rw[Ym _ (by omega)]
   have i1:((q+1:Nat):Int)<=(N:Int):=by omega
   have i3:(q:Int)<(N:Int):=by omega
   have i4:(0:Int)<=(q:Int):=by omega
   have d0:decide ((0:Int)<((q+1:Nat):Int))=true:=by simp
   subst o;clear g;by_cases a:x=0
   .have ex:(x==0)=true:=by simp[a]
    have p:=Ya a;clear a;go_wp2_with fail
    go_roundw
    case rel =>
     refine⟨q,_,by omega,by go_num,Ya λ j t=>?_,rfl⟩;by_cases y:j=q
     .rw[y,<- v.out];exact p.out
     .exact r.out j (by omega)
    case measure=>simp[intOf] <;> omega
   .have ex:(x==0)=false:=by simp[a]
    have d:=Ya (show Top l (q+1) from⟨by rw[<- s.out];exact C,r.out,.inr (by rw[Nat.add_sub_cancel,<- v.out];exact a)⟩);clear a;go_wp2_with fail
    go_ret
    exact⟨q+1,_,d.out,rfl,rfl⟩
def Zjj (neg:Bool)(A:Option Addr)(n c:Nat):Value:=.agg #[.bool neg,.slice A n c]
theorem Z04 (neg:Bool)(A:Option Addr)(N c:Nat)(l:List Int)(b:N=l.length)(w:World)(B:Nat)(h:Ints w B A l)(g:B<=w.heap.size)(f:N<=1000000)(hA:A=none->N=0)(d:N<=c) :
 Calls prog 83 #[.bool neg,.slice A N c] w λ e w'=>∃m,Top l m/\e=.returned (Zjj (neg && decide (0<m)) A m c)/\Below w.heap.size w w':=by
 have i:=Ya b;have H:=Ya h;clear b h;go_enter func83,ntmps83
 go_wp2_with fail
 refine(Z5z A N c l i.out _ B ?_ f hA d).mono ?_
 .exact H.out.below ((Yj _ _).alloc g _)
 rintro e w2 ⟨m,n,hm,rfl,rfl⟩;have a:=Ya hm;clear hm
 cases neg with
 | false =>
  go_wp2_with fail
  refine bodyPost_ret (v:=Zjj (false && decide (0<m)) A m c) (by simp[results,results83,go_sem,Zjj]) rfl ?_;refine⟨m,a.out,rfl,?_⟩;exact((below_drewN ((Yj _ _).alloc (Yc _) _) n).setCell (Yc _) _).setCell (Yc _) _
 | true =>
  have hd:decide ((m:Int)>0)=decide (0<m):=by simp
  go_wp2_with fail
  refine bodyPost_ret (v:=Zjj (true && decide (0<m)) A m c) (by simp[results,results83,go_sem,Zjj]) rfl ?_;refine⟨m,a.out,rfl,?_⟩;exact((below_drewN ((Yj _ _).alloc (Yc _) _) n).setCell (Yc _) _).setCell (Yc _) _
def S.aa (x y:Int):Int:=if x<y then -1 else if x=y then 0 else 1
theorem Zv7 (A V:Option Addr)(N c d c':Nat)(l r:List Int)(x y:Int)(E:N=l.length)(g:d=r.length)(w:World)(B:Nat)(h:Ints w B A l)(X:Ints w B V r)(hl:N<=1000000)(a1:d<=1000000)(Q:Cn 10 l x)(W:Cn 10 r y) :
 Calls prog 152 #[.slice A N c,.slice V d c'] w λ e w'=>e=.returned (.int .i64 (aa x y))/\Below w.heap.size w w':=by
 have C:=Ya E;have a:=Ya g;have H:=Ya h;have Z:=Ya X;have p:=Ya Q;have o:=Ya W;clear h X Q W;by_cases c1:N=d
 .subst c1
  clear E g;have G:((N:Int) != (N:Int))=false:=by simp
  have a2:IntKind.i64.wrap ((N:Int)-1)=(N:Int)-1:=by rw[Ym _ (by omega)]
  go_enter func152,ntmps152
  go_wp2_with fail
  go_loopw [5] (λ i wr=>∃k:Int,-1<=k/\k<N/\i=.int .i64 k/\Hid (∀j:Nat,k<j->l.getD j 0=r.getD j 0)/\∃n,wr=w.drewN n) (λ i _=>(intOf i+1).toNat)
  case atStart=>exact⟨(N:Int)-1,by omega,by omega,rfl,Ya λ j L=>by rw[Yh,List.getElem?_eq_none (by rw[<- C.out];omega),Yh,List.getElem?_eq_none (by rw[<- a.out];omega)],0,rfl⟩
  case round =>
   obtain⟨k,Y,a3,rfl,D,n,rfl⟩:=hrel;by_cases c0:0<=k
   .obtain⟨q,rfl⟩:=Int.eq_ofNat_of_zero_le c0
    have R:q<N:=by omega
    obtain⟨b,off,J,a0,F⟩:=H.out.at_ (k:=q) (by rw[<- C.out];exact R);obtain⟨b',T,z,U,t⟩:=Z.out.at_ (k:=q) (by rw[<- a.out];exact R);obtain⟨u,P⟩:∃x,x=l.getD q 0:=⟨_,rfl⟩
    obtain⟨v,O⟩:∃x,x=r.getD q 0:=⟨_,rfl⟩
    rw[<- P] at F;rw[<- O] at t;have I:=Ya P;have Hv:=Ya O;have e2:IntKind.i64.wrap ((q:Int)-1)=(q:Int)-1:=by rw[Ym _ (by omega)]
    have e3:IntKind.i64.wrap (q:Int)=(q:Int):=by rw[Ym _ (by omega)]
    have i3:(q:Int)<(N:Int):=by omega
    have i4:(0:Int)<=(q:Int):=by omega
    subst J z;clear P O;by_cases s:u=v
    .have en:(u != v)=false:=by simp[s]
     have Cu:=Ya s;clear s;go_wp2_with fail
     go_quiet (fail)
     go_wp2_with fail
     go_roundw
     case rel =>
      refine⟨(q:Int)-1,by omega,by omega,by go_num,Ya λ j L=>?_,_,rfl⟩;by_cases cj:j=q
      .rw[cj,<- I.out,<- Hv.out];exact Cu.out
      .exact D.out j (by omega)
     case measure=>simp[intOf] <;> omega
    .have en:(u != v)=true:=by simp[s]
     by_cases f:u<v
     .have el:decide (u<v)=true:=by simp[f]
      have m:=Ya (show aa x y=-1 by
       have:=Zn6 (show(0:Int)<10 by decide) q p.out.1 o.out.1 (λ j L=>D.out j (by omega)) (by rw[<- I.out,<- Hv.out];exact f);rw[p.out.2.2,o.out.2.2] at this;unfold aa;rw[if_pos this])
      clear s f;go_wp2_with fail
      go_quiet (fail)
      go_wp2_with fail
      go_quiet (fail)
      go_wp2_with fail
      go_ret
      exact⟨by rw[m.out];rfl,by repeat (first|exact Yj _ _|refine below_drewN ?_ _)⟩
     .have el:decide (u<v)=false:=by simp[f]
      have m:=Ya (show aa x y=1 by
       have:=Zn6 (show(0:Int)<10 by decide) q o.out.1 p.out.1 (λ j L=>(D.out j (by omega)).symm) (by rw[<- I.out,<- Hv.out];omega);rw[p.out.2.2,o.out.2.2] at this;unfold aa;rw[if_neg (by omega),if_neg (by omega)])
      clear s f;go_wp2_with fail
      go_quiet (fail)
      go_wp2_with fail
      go_quiet (fail)
      go_wp2_with fail
      go_ret
      exact⟨by rw[m.out];rfl,by repeat (first|exact Yj _ _|refine below_drewN ?_ _)⟩
   .have ek:k=-1:=by omega
    subst ek;have m:=Ya (show aa x y=0 by
     have he:l=r:=by
      refine List.ext_getElem (by rw[<- C.out];exact a.out) λ i h1 h2=>?_
      have:=D.out i (by omega);rw[Yh,Ye h1,Yh,Ye h2] at this;exact this
     have K:x=y:=by rw[<- p.out.2.2,<- o.out.2.2,he]
     unfold aa;rw[if_neg (by omega),if_pos K])
    go_wp2_with fail
    go_ret
    exact⟨by rw[m.out];rfl,by repeat (first|exact Yj _ _|refine below_drewN ?_ _)⟩
 .have G:((N:Int) != (d:Int))=true:=by simp;omega
  by_cases f:N<d
  .have el:decide ((N:Int)<(d:Int))=true:=by simp;omega
   have M:decide (N<d)=true:=by simp;omega
   have m:=Ya (show aa x y=-1 by
    have:=Zq3 (by decide) p.out o.out (by rw[<- C.out,<- a.out];exact f);unfold aa;rw[if_pos this])
   clear c1 f E g;go_enter func152,ntmps152
   go_wp2_with fail
   go_ret
   exact⟨by rw[m.out];rfl,Yj _ _⟩
  .have el:decide ((N:Int)<(d:Int))=false:=by simp;omega
   have M:decide (N<d)=false:=by simp;omega
   have m:=Ya (show aa x y=1 by
    have:=Zq3 (by decide) o.out p.out (by rw[<- C.out,<- a.out];omega);unfold aa;rw[if_neg (by omega),if_neg (by omega)])
   clear c1 f E g;go_enter func152,ntmps152
   go_wp2_with fail
   go_ret
   exact⟨by rw[m.out];rfl,Yj _ _⟩
theorem Zcq {B:Nat}{w:World}(a:B<=w.heap.size)(o b:Obj):Below B w ((w.alloc o).alloc b):=((Yj B w).alloc a o).alloc (Nat.le_trans a ((Yj B w).alloc a o).size) b
theorem Zhk {B:Nat}{w w1 a:World}(h:Below B w w1)(k:Below w1.heap.size w1 a)(b:B<=w1.heap.size):Below B w a:=h.trans (k.mono b)
structure NumW (w:World)(B:Nat)(z:Int)(neg:Bool)(A:Option Addr)(N c:Nat)(l:List Int):Prop where
 z:Nz neg l z
 len:N=l.length
 few:N<=1000000
 at_:Ints w B A l
 nil:A=none->N=0
 cap:N<=c
theorem NumW.below {w w':World}{B:Nat}{z:Int}{neg:Bool}{A:Option Addr}{N c:Nat}{l:List Int}(h:NumW w B z neg A N c l)(a:Below B w w'):NumW w' B z neg A N c l:=⟨h.z,h.len,h.few,h.at_.below a,h.nil,h.cap⟩
theorem NumW.more {w:World}{B B':Nat}{z:Int}{neg:Bool}{A:Option Addr}{N c:Nat}{l:List Int}(h:NumW w B z neg A N c l)(a:B<=B'):NumW w B' z neg A N c l:=⟨h.z,h.len,h.few,h.at_.more a,h.nil,h.cap⟩
theorem Z50 (neg d:Bool)(A p:Option Addr)(N c m o:Nat)(l r:List Int)(z b:Int)(w:World)(B:Nat)(n:B<=w.heap.size)(h:NumW w B z neg A N c l)(x:NumW w B b d p m o r) :
 Calls prog 84 #[Zjj neg A N c,Zjj d p m o] w λ e w'=>e=.returned (.int .i64 (aa z b))/\Below w.heap.size w w':=by
 have H:=Ya h;have f:=Ya x;obtain⟨⟨C,g⟩,D,hf,u,_,_⟩:=h;obtain⟨⟨s,a⟩,v,q,k,_,_⟩:=x;unfold Zjj;go_enter func84,ntmps84
 clear u k C s D v hf q
 cases neg <;> cases d
 .have Hr:=Ya (show aa (if z<0 then -z else z) (if b<0 then -b else b)=aa z b by
   have j:=of_decide_eq_false g.symm;have i:=of_decide_eq_false a.symm;rw[if_neg j,if_neg i])
  clear g a;go_wp2_with fail
  refine(Zv7 A p N c m o l r _ _ H.out.len f.out.len _ B ?_ ?_ H.out.few f.out.few H.out.z.1 f.out.z.1).mono ?_
  .exact H.out.at_.below (Zcq n _ _)
  .exact f.out.at_.below (Zcq n _ _)
  rintro e y ⟨rfl,t⟩;rw[Hr.out];go_wp2_with fail
  go_ret
  exact⟨rfl,Zhk (Zcq (Yc _) _ _) t (Zcq (Yc _) _ _).size⟩
 .have Hr:=Ya (show aa z b=1 by
   have j:=of_decide_eq_false g.symm;have i:=of_decide_eq_true a.symm;unfold aa;rw[if_neg (by omega),if_neg (by omega)])
  clear g a;go_wp2_with fail
  go_ret
  exact⟨by rw[Hr.out];rfl,Zcq (Yc _) _ _⟩
 .have Hr:=Ya (show aa z b=-1 by
   have j:=of_decide_eq_true g.symm;have i:=of_decide_eq_false a.symm;unfold aa;rw[if_pos (by omega)])
  clear g a;go_wp2_with fail
  go_ret
  exact⟨by rw[Hr.out];rfl,Zcq (Yc _) _ _⟩
 .have Hr:=Ya (show aa (if b<0 then -b else b) (if z<0 then -z else z)=aa z b by
   have j:=of_decide_eq_true g.symm;have i:=of_decide_eq_true a.symm;rw[if_pos i,if_pos j];unfold aa
   split <;> (try split) <;> omega)
  clear g a;go_wp2_with fail
  refine(Zv7 p A m o N c r l _ _ f.out.len H.out.len _ B ?_ ?_ f.out.few H.out.few f.out.z.1 H.out.z.1).mono ?_
  .exact f.out.at_.below (Zcq n _ _)
  .exact H.out.at_.below (Zcq n _ _)
  rintro e y ⟨rfl,t⟩;rw[Hr.out];go_wp2_with fail
  go_ret
  exact⟨rfl,Zhk (Zcq (Yc _) _ _) t (Zcq (Yc _) _ _).size⟩
