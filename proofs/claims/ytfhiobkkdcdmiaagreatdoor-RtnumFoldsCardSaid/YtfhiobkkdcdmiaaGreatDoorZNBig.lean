/- Parts. -/
import Derived.Test.YtfhiobkkdcdmiaaGreatDoorShelfB
import Derived.Test.YtfhiobkkdcdmiaaGreatDoorZNTxt
import Derived.Deep.MidRow
import Derived.Deep.RegionHeld3
import Derived.Laws.IdiomCopy
import Derived.ChangeSame
import Derived.Deep.Slices
set_option linter.all false
set_option maxHeartbeats 8000000
open Go.Lib renaming hid->Ya,cell_of_heap->Yc
open Nat renaming le_refl->Yb,lt_of_lt_of_le->Yy,le_succ->Y2,zero_add->Y9,lt_succ_self->Yam
open List renaming length_append->Yd,getD_eq_getElem?_getD->Ye,getElem?_eq_getElem->Yf,getElem?_eq_some_iff->Yg,length_take->Yq,replicate->Ys,getElem?_map->Y3,length_map->Yac,map_append->Yau,drop_zero->Yaz,mem_map->Ycw
open Go.RowKit.Below renaming refl->Yh,trans->Ybf
open Go.IntWalk renaming i64_in->Yk,u32_in->Ya6
open Go.Value renaming int->Yr,oneCell'->Y6,slice->Ybr,string->Ycp
open Array renaming getElem?_eq_some_iff->Yv
open Int renaming pow_pos->Yar,add_zero->Ybj
namespace Go.Proofs.YtfhiobkkdcdmiaaGreatDoor
open Go.RowKit
set_option maxRecDepth 100000
theorem Zvt {w:World}{B:Nat}{A:Option Addr}{l:List Int}{k:IntKind}(h:Reads w B A (l.map (Yr k))){q:Nat}(hq:q<l.length):∃b off,A=some ⟨b,off,none⟩/\b<B/\w.cell? ⟨b,off+q,none⟩=some (.int k (l.getD q 0)):=by
 obtain⟨b,off,e,hb,hc⟩:=h (by rw[Yac];omega);exact⟨b,off,e,hb,hc q _ (by rw[Y3,Ye,Yf hq];rfl)⟩
theorem Zks {w:World}{B:Nat}{A:Option Addr}{l:List Int}{k:IntKind}(h:Reads w B A (l.map (Yr k)))(m:Nat):Reads w B A ((l.take m).map (Yr k)):=λ hp=>by
 rw[Yac,Yq] at hp;obtain⟨b,off,e,hb,hc⟩:=h (by rw[Yac];omega);refine⟨b,off,e,hb,λ i x hx=>hc i x ?_⟩;rw[Y3] at hx⊢;by_cases c:i<m
 .rw[List.getElem?_take_of_lt c] at hx
  exact hx
 .rw[List.getElem?_eq_none (by rw[Yq];omega)] at hx
  cases hx
theorem Zvu (A:Option Addr)(N c:Nat)(l:List Int)(hN:N=l.length)(w:World)(B:Nat)(h:Reads w B A (l.map (Yr .u16)))(hl:N<=1000000000000)(hc:N<=c) :
 Calls Tryz.prog 83 #[.slice A N c] w λ e w'=>∃m,S.Top l m/\e=.returned (.slice A m c)/\w'=w:=by
 have HN:=Ya hN;have H:=Ya h;clear hN h;go_enter Tryz.func83,Tryz.ntmps83
 go_wp2_with fail
 go_loopw [0] (λ i wr=>∃k:Nat,k<=N/\i=.slice A k c/\Hid (∀j,k<=j->l.getD j 0=0)/\wr=w) (λ i _=>Zs6 i)
 case atStart=>exact⟨N,Yb _,rfl,Ya λ j hj=>by rw[Ye,List.getElem?_eq_none (by rw[<- HN.out];exact hj)];rfl,rfl⟩
 case round =>
  obtain⟨k,hk,rfl,hz,rfl⟩:=hrel;by_cases c0:k=0
  .subst c0
   have Hend:=Ya (show S.Top l 0 from⟨Nat.zero_le _,hz.out,.inl rfl⟩);go_wp2_with fail
   go_ret
   exact⟨0,Hend.out,rfl,rfl⟩
  .obtain⟨q,rfl⟩:∃q,k=q+1:=⟨k-1,by omega⟩
   obtain⟨b,off,hAe,hbB,hc1⟩:=Zvt H.out (q:=q) (by rw[<- HN.out];omega);obtain⟨x,hx⟩:=Yx (l.getD q 0);rw[<- hx] at hc1;have Hx:=Ya hx;have e2:IntKind.i64.wrap (((q+1:Nat):Int)-1)=(q:Int):=by rw[Yk _ (by omega)];omega
   have e3:IntKind.i64.wrap (q:Int)=(q:Int):=by rw[Yk _ (by omega)]
   have i1:(q:Int)<((q+1:Nat):Int):=by omega
   have i3:(q:Int)<=(c:Int):=by omega
   have i4:(0:Int)<=(q:Int):=by omega
   have i5:q<=c:=by omega
   have d0:decide ((0:Int)<((q+1:Nat):Int))=true:=by simp
   subst hAe;clear hx;by_cases hx0:x=0
   .have ex:(x==0)=true:=by simp[hx0]
    have Hx0:=Ya hx0;clear hx0;go_wp2_with fail
    go_roundw
    case rel =>
     refine⟨q,by omega,by go_num,Ya λ j hj=>?_,by first|rfl|trivial⟩;by_cases cj:j=q
     .rw[cj,<- Hx.out];exact Hx0.out
     .exact hz.out j (by omega)
    case measure=>simp[Zs6] <;> omega
   .have ex:(x==0)=false:=by simp[hx0]
    have Hend:=Ya (show S.Top l (q+1) from⟨by rw[<- HN.out];exact hk,hz.out,.inr (by rw[Nat.add_sub_cancel,<- Hx.out];exact hx0)⟩);clear hx0;go_wp2_with fail
    go_ret
    exact⟨q+1,Hend.out,rfl,rfl⟩
theorem Zsp {w:World}(N:Nat)(hN:N<=1000000):(w.alloc (.cells (madeCells #[.int .u16 0] N) 25)).ownsRow w.heap.size 25 1 (.slice (some ⟨w.heap.size,0,none⟩) N N) N ((Ys N (0:Int)).map (Yr .u16)):=by
 have hs:(madeCells #[.int .u16 0] N).size=N:=by simp[madeCells]
 refine⟨by simp,.inr ⟨w.heap.size,N,madeCells #[.int .u16 0] N,rfl,Yb _,heap_alloc_new w _,Yb _,by simp only[maxLen];omega,by rw[hs,Nat.mul_one],?_⟩⟩;rw[toList_madeCells_one,List.map_replicate,List.take_of_length_le (by simp)]
theorem Zyw (A:Option Addr)(N c:Nat)(l:List Int)(n:Int)(hN:N=l.length)(w:World)(B:Nat)(hB:B<=w.heap.size)(h:Reads w B A (l.map (Yr .u16)))(hl:N<=1000000)(hx:S.Cn 65536 l n) :
 Calls Tryz.prog 84 #[.slice A N c,.int .u32 10000] w λ e w'=>∃(m c':Nat)(l':List Int),e=.returned (.tuple #[.slice (some ⟨w.heap.size,0,none⟩) m c',.int .u32 (n%10000)])/\S.Cn 65536 l' (n/10000)/\m=l'.length/\m<=N/\Reads w' w'.heap.size (some ⟨w.heap.size,0,none⟩) (l'.map (Yr .u16))/\Below w.heap.size w w'/\w.heap.size<w'.heap.size:=by
 have HN:=Ya hN;have H:=Ya h;have Hx:=Ya hx;clear hN h hx;have hmk:=run_make_row' (P:=Tryz.prog) 22 25 (.int .u16 0) 2 Tryz.underlying22 Zjn rfl .i64 .i64 N (by omega) (by omega);have wr0:IntKind.i64.wrap ((N:Int)-1)=(N:Int)-1:=by rw[Yk _ (by omega)]
 go_enter Tryz.func84,Tryz.ntmps84
 go_wp2_with fail
 go_loopw [7,8] (λ v7 v8 wr=>∃(k r:Int)(outs:List Int),-1<=k/\k<N/\v8=.int .i64 k/\v7=.int .u32 r/\(0<=r/\r<10000)/\Hid (outs.length=N)/\Hid (wr.ownsRow w.heap.size 25 1 (.slice (some ⟨w.heap.size,0,none⟩) N N) N (outs.map (Yr .u16)))/\Hid (Below w.heap.size w wr)/\Hid (S.DgB 65536 outs)/\Hid (S.dvB 65536 (l.drop (k+1).toNat)=10000*S.dvB 65536 (outs.drop (k+1).toNat)+r)) (λ _ v8 _=>(intOf v8+1).toNat)
 case atStart =>
  refine⟨(N:Int)-1,0,Ys N 0,by omega,by omega,rfl,rfl,by decide,Ya (by simp),Ya (Zsp N hl),Ya ((Yh _ _).alloc (Yb _) _),Ya (λ d hd=>by rw[List.eq_of_mem_replicate hd];decide),Ya ?_⟩;rw[show((N:Int)-1+1).toNat=N by omega,List.drop_eq_nil_of_le (by rw[<- HN.out];exact Yb _),List.drop_eq_nil_of_le (by simp)];rfl
 case round =>
  obtain⟨k,r,outs,hk0,hk1,rfl,rfl,hr,hol,hown,hbel,hdg,hv⟩:=hrel;by_cases c0:0<=k
  .obtain⟨q,rfl⟩:=Int.eq_ofNat_of_zero_le c0
   have hq:q<N:=by omega
   obtain⟨b,off,hAe,hbB,hc1⟩:=Zvt (H.out.below (hbel.out.mono hB)) (q:=q) (by rw[<- HN.out];exact hq);obtain⟨u,hu⟩:∃x,x=l.getD q 0:=⟨_,rfl⟩
   rw[<- hu] at hc1;have Hu:=Ya hu;have hub:=Zfa (by decide) Hx.out.1 q;rw[<- hu] at hub;have e2:IntKind.i64.wrap ((q:Int)-1)=(q:Int)-1:=by rw[Yk _ (by omega)]
   have e3:IntKind.i64.wrap (q:Int)=(q:Int):=by rw[Yk _ (by omega)]
   have i3:(q:Int)<(N:Int):=by omega
   have i4:(0:Int)<=(q:Int):=by omega
   have e4:IntKind.u32.wrap (r*65536)=r*65536:=Ya6 _ ⟨by omega,by omega⟩;have e4':r*65536%4294967296=r*65536:=by omega
   have e5:IntKind.u32.wrap u=u:=Ya6 _ ⟨by omega,by omega⟩;obtain⟨X,hX⟩:=Yx (65536*r+u);have hor:bits .or .u32 (r*65536) u=X:=(Zw 16 (r*65536) u 65536 (by decide) (by omega) (by omega) (by omega) (by omega) (by omega) (by omega)).trans (by omega);have e6:X.tdiv 10000=X/10000:=Int.tdiv_eq_ediv_of_nonneg (by omega);have e7:X.tmod 10000=X%10000:=Int.tmod_eq_emod_of_nonneg (by omega);have e8:IntKind.u32.wrap (X/10000)=X/10000:=Ya6 _ ⟨by omega,by omega⟩;have e9:IntKind.u32.wrap (X%10000)=X%10000:=Ya6 _ ⟨by omega,by omega⟩;have e10:IntKind.u16.wrap (X/10000)=X/10000:=IntWalk.u16_in _ ⟨by omega,by omega⟩;have HX:=Ya hX;have hql:q<outs.length:=by rw[hol.out];exact hq
   have hcell:=hown.out.cellAt q (by rw[Nat.mul_one];exact hq);rw[Y3,Yf hql,Option.map_some] at hcell;have hfroz:=hown.out.frozenAt q;obtain⟨old,hold⟩:∃x,x=outs[q]:=⟨_,rfl⟩
   rw[<- hold] at hcell;have hst:=hown.out.stored q (.int .u16 (X/10000));have HSt:=Ya hst.1;have HBel:=Ya (hbel.out.setCell (p:=⟨w.heap.size,q,none⟩) (Yb _) (.int .u16 (X/10000)));have HX0:0<=X/\X<655360000:=by omega
   subst hAe;clear hu hold hst hql hX;go_wp2_with fail
   go_roundw
   case rel =>
    refine⟨(q:Int)-1,X%10000,outs.set q (X/10000),by omega,by omega,by go_num,rfl,by omega,Ya (by rw[List.length_set];exact hol.out),Ya (by rw[List.map_set];exact HSt.out),HBel,Ya λ d hd=>?_,Ya ?_⟩
    .rcases List.mem_or_eq_of_mem_set hd with h|h
     .exact hdg.out d h
     .rw[h];omega
    .have hv2:=hv.out
     have hx2:=HX.out;rw[show((q:Int)+1).toNat=q+1 by omega] at hv2;rw[show((q:Int)-1+1).toNat=q by omega,Zgi,Zgi (outs.set q _),drop_set _ (by omega),hv2,<- Hu.out,Zei _ _ _ _ (by rw[hol.out];exact hq),if_pos rfl];generalize S.dvB 65536 (List.drop (q+1) outs)=Dq;omega
   case measure=>simp[intOf] <;> omega
  .have ek:k=-1:=by omega
   subst ek;have hv2:=hv.out;rw[show((-1:Int)+1).toNat=0 by decide,Yaz,Yaz,Hx.out.2.2] at hv2;have hdiv:=Zwa (show(0:Int)<10000 by decide) (show n=r+S.dvB 65536 outs*10000 by omega) hr.1 hr.2;have HD:=Ya hdiv;have hints:Reads wr wr.heap.size (some ⟨w.heap.size,0,none⟩) (outs.map (Yr .u16)):=Reads.of_own hown.out;have HI:=Ya hints;clear hv2 hdiv hints;go_wp2_with fail
   refine(Zvu (some ⟨w.heap.size,0,none⟩) N N outs hol.out.symm _ _ HI.out (by omega) (Yb _)).mono ?_;rintro e w2 ⟨m,hm,rfl,rfl⟩;have Hm:=Ya hm;clear hm;go_wp2_with fail
   refine bodyPost_ret (v:=.tuple #[.slice (some ⟨w.heap.size,0,none⟩) m N,.int .u32 r]) (by simp[results,Tryz.results84,go_sem]) rfl ?_;have hl2:(outs.take m).length=m:=by rw[Yq];have:=Hm.out.1;omega
   rw[HD.out.1,HD.out.2];exact⟨m,N,outs.take m,rfl,Zjr hdg.out Hm.out,hl2.symm,by have:=Hm.out.1;rw[hol.out] at this;exact this,Zks HI.out m,hbel.out,(hown.out.lt _ rfl).2⟩
theorem Zvv (A:Option Addr)(N c:Nat)(l:List Int)(hN:N=l.length)(w:World)(h:Reads w w.heap.size A (l.map (Yr .u16)))(hl:N<=1000000) :
 Calls Tryz.prog 82 #[.slice A N c] w λ e w'=>∃A' c',e=.returned (.slice A' N c')/\N<=c'/\Reads w' w'.heap.size A' (l.map (Yr .u16))/\Below w.heap.size w w':=by
 have hn:=λ(w:World) (A:Option Addr) (n c n1 c1:Nat)=>Lib.run_eql_slice_nil (P:=Tryz.prog) w 22 25 A n c n1 c1 Tryz.underlying22
 cases A with
 | none =>
  have hx0:l=[]:=by
   cases l with
   | nil=>rfl
   | cons x r =>
    obtain⟨b,off,e,_⟩:=h (by simp)
    cases e
  subst hx0;subst hN;go_enter Tryz.func82,Tryz.ntmps82
  go_wp2_with fail
  go_ret
  exact⟨none,0,rfl,Yb _,λ h=>absurd h (by simp),Yh _ _⟩
 | some a =>
  have hr:=h.below ((Yh w.heap.size w).alloc (Yb _) (.cells #[] 25));go_enter Tryz.func82,Tryz.ntmps82
  go_wp2_with (at_builtin;refine Zad rfl (.tmp 5) (.tmp 6) _ rfl w.heap.size 25 Zjn Tryz.underlying22 rfl (by decide) _ 0 [] rfl (World.ownsRow_made w #[] 0 (Yb _) (by simp[maxLen]) (by simp)) w.heap.size (some a) N c (l.map (Yr .u16)) rfl (by rw[Yac,Nat.mul_one];exact hN.symm) (λ h=>by cases h) hr (λ u hu=>by obtain⟨x,_,rfl⟩:=Ycw.1 hu;rfl) (by simp only[maxLen];omega) (by omega) (by simp) ?_;intro v' w1 ho1 hg1 hb1 hat1;obtain⟨A8,c8,rfl⟩:=Zb ho1)
  go_ret
  simp only[Y9,List.nil_append] at ho1;exact⟨A8,c8,by simp;omega,Zg2 ho1,Reads.of_own ho1,((Yh _ _).alloc (Yb _) _).trans hb1⟩
theorem Z4x (neg:Bool)(A:Option Addr)(N c:Nat)(l:List Int)(hN:N=l.length)(w:World)(B:Nat)(h:Reads w B A (l.map (Yr .u16)))(hB:B<=w.heap.size)(hl:N<=1000000)(hc:N<=c) :
 Calls Tryz.prog 81 #[.bool neg,.slice A N c] w λ e w'=>∃m,S.Top l m/\e=.returned (.agg #[.bool (neg && decide (0<m)),.slice A m c])/\Below w.heap.size w w':=by
 have HN:=Ya hN;have H:=Ya h;clear hN h;go_enter Tryz.func81,Tryz.ntmps81
 go_wp2_with fail
 refine(Zvu A N c l HN.out _ B ?_ (by omega) hc).mono ?_
 .exact H.out.below ((Yh _ _).alloc hB _)
 rintro e w2 ⟨m,hm,rfl,rfl⟩;have Hm:=Ya hm;clear hm
 cases neg with
 | false =>
  go_wp2_with fail
  refine bodyPost_ret (v:=.agg #[.bool (false && decide (0<m)),.slice A m c]) (by simp[results,Tryz.results81,go_sem]) rfl ?_;refine⟨m,Hm.out,rfl,?_⟩
  (repeat (first|exact Yh _ _|refine Below.setCell ?_ (Yb _) _|refine Below.alloc ?_ (Yb _) _))
 | true =>
  have hd:decide ((m:Int)>0)=decide (0<m):=by simp
  go_wp2_with fail
  refine bodyPost_ret (v:=.agg #[.bool (true && decide (0<m)),.slice A m c]) (by simp[results,Tryz.results81,go_sem]) rfl ?_;refine⟨m,Hm.out,rfl,?_⟩
  (repeat (first|exact Yh _ _|refine Below.setCell ?_ (Yb _) _|refine Below.alloc ?_ (Yb _) _))
theorem Z4y (neg:Bool)(A:Option Addr)(N c:Nat)(l:List Int)(hN:N=l.length)(w:World)(h:Reads w w.heap.size A (l.map (Yr .u16)))(hl:N<=1000000) :
 Calls Tryz.prog 28 #[.agg #[.bool neg,.slice A N c]] w λ e w'=>∃(e9:Bool)(A9:Option Addr)(m c9:Nat),S.Top l m/\e=.returned (.agg #[.bool e9,.slice A9 m c9])/\Below w.heap.size w w':=by
 have HN:=Ya hN;have H:=Ya h;have c0:((w.alloc (.cells #[.bool neg,.slice A N c] 24 (0,0))).alloc (.cells #[.bool false,.slice none 0 0] 24 (0,0))).cell? ⟨w.heap.size,0,none⟩=some (.bool neg):=by
  rw[Yc ((heap_alloc_old _ _ (by simp)).trans (heap_alloc_new w _))];rfl
 have c1:((w.alloc (.cells #[.bool neg,.slice A N c] 24 (0,0))).alloc (.cells #[.bool false,.slice none 0 0] 24 (0,0))).cell? ⟨w.heap.size,1,none⟩=some (.slice A N c):=by
  rw[Yc ((heap_alloc_old _ _ (by simp)).trans (heap_alloc_new w _))];rfl
 have hbel:=Zb6 (Yb w.heap.size) (.cells #[.bool neg,.slice A N c] 24 (0,0)) (.cells #[.bool false,.slice none 0 0] 24 (0,0));have hsz:((w.alloc (.cells #[.bool neg,.slice A N c] 24 (0,0))).alloc (.cells #[.bool false,.slice none 0 0] 24 (0,0))).heap.size=w.heap.size+2:=by simp
 have HR:=Ya (λ(y:World) (hy:Below w.heap.size w y)=>show Reads y y.heap.size A (l.map (Yr .u16)) from(H.out.below hy).moreM hy.size);have e1:((w.alloc (.cells #[.bool neg,.slice A N c] 24 (0,0))).alloc (.cells #[.bool false,.slice none 0 0] 24 (0,0))).heap[w.heap.size+1]?=some (.cells #[.bool false,.slice none 0 0] 24 (0,0)):=by
  have h:=heap_alloc_new (w.alloc (.cells #[.bool neg,.slice A N c] 24 (0,0))) (.cells #[.bool false,.slice none 0 0] 24 (0,0));rw[show(w.alloc (.cells #[.bool neg,.slice A N c] 24 (0,0))).heap.size=w.heap.size+1 by simp] at h;exact h
 have HB1:=Ya hbel;have HE1:=Ya e1;have hc:N<=N:=Yb _;clear hN h hbel e1;go_enter Tryz.func28,Tryz.ntmps28
 go_upto_region 1 with fail
 generalize ((w.alloc (.cells #[.bool neg,.slice A N c] 24 (0,0))).alloc (.cells #[.bool false,.slice none 0 0] 24 (0,0)))=w1 at *;have z1:w.heap.size+1<w1.heap.size:=by omega
 have z0:w.heap.size<w1.heap.size:=by omega
 go_region_held3 (λ w'=>w'.cell? ⟨w.heap.size,0,none⟩=some (.bool neg)/\w'.cell? ⟨w.heap.size,1,none⟩=some (.slice A N c))
  (first
   | exact⟨c0,c1⟩
   | exact hS2
   | exact hS3
   | go_keep)
  (first
   | (go_at_call 82;go_loud (
    refine(Zvv A N c l HN.out _ (HR.out _ ?_) hl).mono ?_
    first
     | with_reducible exact HB1.out
     | exact Below.drew HB1.out
    rintro e w2 ⟨A2,k2,rfl,hk2,hr2,hb2⟩;have HR2:=Ya hr2;have HB2:Hid (Below w1.heap.size w1 w2):=Ya (by
     first
      | with_reducible exact hb2
      | exact Ybf (Below.drew (Yh _ _)) hb2)
    have hS2:=And.intro ((HB2.out.cell (p:=⟨w.heap.size,0,none⟩) z0).trans c0) ((HB2.out.cell (p:=⟨w.heap.size,1,none⟩) z0).trans c1);clear hr2 hb2))
   | (go_at_call 81;go_loud (
    refine(Z4x neg A2 N k2 l HN.out _ _ HR2.out (Yb _) hl hk2).mono ?_
    rintro e w3 ⟨m3,hm3,rfl,hb3⟩;have HM3:=Ya hm3;have HB3:=Ya (HB2.out.trans (hb3.mono HB2.out.size));have hS3:=And.intro ((HB3.out.cell (p:=⟨w.heap.size,0,none⟩) z0).trans c0) ((HB3.out.cell (p:=⟨w.heap.size,1,none⟩) z0).trans c1);have hz3:=HB3.out.size;have E3:=(HB3.out.block (w.heap.size+1) z1).trans HE1.out;have f0:w3.cell? ⟨w.heap.size+1,0,none⟩=some (.bool false):=by rw[Yc E3];rfl
    have f1:w3.cell? ⟨w.heap.size+1,1,none⟩=some (.slice none 0 0):=by rw[Yc E3];rfl
    have f2:=frozen_of_row w3 (w.heap.size+1) 0 _ _ E3;have f3:=frozen_of_row w3 (w.heap.size+1) 1 _ _ E3;clear hm3 hb3 E3)))
 all_goals
  go_wp2_with fail
  refine bodyPost_ret (v:=.agg #[.bool (neg && decide (0<m3)),.slice A2 m3 k2]) (by simp[results,Tryz.results28,go_sem,f0,f1]) rfl ?_;refine⟨_,_,m3,_,HM3.out,rfl,?_⟩;have hb:=HB1.out.trans (HB3.out.mono HB1.out.size)
  (repeat (first|exact hb|refine Below.setCell ?_ (Y2 _) _))
theorem Ziz {B b:Nat}{a:World}(hb:B<=b):∀(vs:List Value)(o:Nat)(w:World),Below B a w->Below B a (w.setCells b o vs)
 | [],_,_,h=>h
 | v::r,o,w,h=>Ziz hb r (o+1) _ (h.setCell (by exact hb) v)
theorem Zkt (b:Nat):∀(vs:List Value)(o:Nat)(w:World),(w.setCells b o vs).heap.size=w.heap.size
 | [],_,_=>rfl
 | v::r,o,w=>by rw[World.setCells,Zkt b r];simp
theorem Zn5 (w:World)(base:Nat)(A:Option Addr)(n c:Nat)(ps:List ByteArray)(hn:n=ps.length)(h0:0<n)(hl:n<=1000000)(ho:w.ownsRow base 9 1 (.slice A n c) n (ps.map Ycp)) :
 Calls Tryz.prog 87 #[.slice A n c] w λ e w'=>e=.returned (.tuple #[])/\∃g,A=some ⟨g,0,none⟩/\g<w'.heap.size/\(∀(j:Nat)(x:ByteArray),ps.reverse[j]?=some x->w'.cell? ⟨g,0+j,none⟩=some (.string x))/\Below base w w':=by
 obtain⟨g,rfl,hg1,hg2,hg3,hg4,hg5⟩:=Z6 ho h0;have hv:Lib.strsOf (λ i=>ps.getD i ⟨#[]⟩) n=ps.map λ p=>p.data.toList:=by
  unfold Lib.strsOf;refine List.ext_getElem (by simp[hn]) λ i h1 h2=>?_
  have hi:i<ps.length:=by simpa using h2
  simp[hi]
 refine(Tryz.slices_Reverse_string_cells g 0 n c (λ i=>ps.getD i ⟨#[]⟩) w (by omega) (λ i hi=>?_) (λ j _=>by rw[Y9];exact hg5 j)).mono ?_
 .have h1:=hg4 i (by omega)
  rw[Y9,h1,Y3,Yf (by omega),Ye,Yf (by omega)];rfl
 .rintro e w' ⟨rfl,q,rfl⟩
  rw[hv];have hb:=Ziz hg1 ((ps.map λ p=>p.data.toList).reverse.map encStr) 0 (w.drewN q) (below_drewN (Yh base w) q);refine⟨rfl,g,rfl,?_,λ j x hx=>?_,hb⟩
  .rw[Zkt];exact Yy hg2 (below_drewN (Yh w.heap.size w) q).size
  .have hj:=(Yg.1 hx).1
   have hj2:j<((ps.map λ p=>p.data.toList).reverse.map encStr).length:=by simpa using hj
   rw[World.cell?_setCells_in g _ 0 _ (λ i hi=>?_) j hj2]
   .have e2:ps.reverse[j]'hj=x:=by
     rw[Yf hj] at hx;exact Option.some.inj hx
    have e3:((ps.map λ p=>p.data.toList).reverse.map encStr)[j]'hj2=encStr (ps.reverse[j]'hj).data.toList:=by
     rw[List.getElem_map]
     congr 1
     simp
    rw[e3,e2]
   .have hi2:i<n:=by rw[hn];simpa using hi
    have h1:=hg4 i (by omega);have hd:=(below_drewN (Yh w.heap.size w) q).cell (p:=⟨g,0+i,none⟩) hg2;rw[hd,Y9,h1,Y3,Yf (by omega)];rfl
theorem Zvw (xs:List (List UInt8)):Lib.join xs []=xs.flatten:=by
 cases xs with
 | nil=>rfl
 | cons x r =>
  rw[Lib.join_cons,Lib.joinTail,List.flatten_cons];simp
theorem Zsq (k:Nat):Lib.repeatL [48] k=Ys k 48:=by
 induction k with
 | zero=>rfl
 | succ k ih=>rw[Lib.repeatL,ih,List.replicate_succ];rfl
theorem Zi0:(Tryz.prog.info? 9).map (λ i=>(i.zero,i.size,i.bytes))=some (some (.string ⟨#[]⟩),1,16):=by kernel_rfl
theorem Zq8:∀N:Nat,(65536:Int)^N<=10^(5*N)
 | 0=>by decide
 | N+1=>by
  have ih:=Zq8 N;have hp:(0:Int)<10^(5*N):=Yar (by decide);rw[Int.pow_succ,show 5*(N+1)=5*N+5 by omega,Int.pow_add,show(10:Int)^5=100000 by decide];omega
theorem Z14 {n v N:Nat}{ps:List ByteArray}{ds:List Int}(h:S.b8 n v ps ds)(hv:v≠0)(hn:(n:Int)<65536^N):ds.length<5*N:=by
 refine Y_c λ c=>?_
 have h1:=Zbb (b:=10) (by decide) (show 5*N<=ds.length by omega);have h2:=Zq8 N;have h3:=h.val;have h4:=Zas (b:=10) (by decide) (l:=ds.reverse) (λ d hd=>h.dig d (List.mem_reverse.1 hd));have h5:=Int.mul_le_mul_of_nonneg_right (show(1:Int)<=(v:Int) by omega) (show(0:Int)<=10^ds.length from Int.le_of_lt (Yar (by decide)));rw[Int.one_mul] at h5;omega
theorem Z15 {n:Nat}{ps:List ByteArray}{ds:List Int}(h:S.b8 n 0 ps ds):(((ps++[(⟨#[45]⟩:ByteArray)]).reverse).map λ p:ByteArray=>p.data.toList).flatten=[45]++S.tx ds:=by
 rw[List.reverse_append,List.reverse_singleton,List.singleton_append,List.map_cons,List.flatten_cons,h.txt]
theorem Zl5 (u:Nat):(⟨(Lib.decDigits u).toArray⟩:ByteArray).size=Lib.nDigits u:=by
 show(Lib.decDigits u).toArray.size=_
 rw[List.size_toArray,Lib.decDigits_eq];simp
theorem Zz8 (g k n:Nat)(ps:List ByteArray)(pre:List UInt8)(ds:List Int)(w:World)(hn:n=ps.length)(hc:∀(j:Nat)(x:ByteArray),ps.reverse[j]?=some x->w.cell? ⟨g,0+j,none⟩=some (.string x))(hg:g<w.heap.size)(hf:(ps.reverse.map λ p:ByteArray=>p.data.toList).flatten=pre++S.tx ds)(hk:n<=k)(hl:n<=1000000)(hd:pre.length+ds.length<=1000000) :
 Calls Tryz.prog 88 #[.slice (some ⟨g,0,none⟩) n k,.string ⟨#[]⟩] w λ e w'=>e=.returned (.string ⟨(pre++S.tx ds).toArray⟩)/\Below w.heap.size w w':=by
 have hjn:ps.reverse.length=n:=by rw[List.length_reverse];exact hn.symm
 have hfl:Lib.join (ps.reverse.map λ p:ByteArray=>p.data.toList) (⟨#[]⟩:ByteArray).data.toList=pre++S.tx ds:=by
  show Lib.join _ []=_
  rw[Zvw];exact hf
 have hj:=Tryz.strings_Join g 0 k ps.reverse ⟨#[]⟩ w hc hg (by rw[hjn];omega) (by rw[hjn];exact hk) (by rw[hfl];simp[S.tx];omega);rw[hjn,hfl] at hj;exact hj
def Zyx (w:World)(z:Int)(e:Ending)(w':World):Prop:=∃(s:ByteArray)(q:Nat)(g:Bool)(ls:List Int),e=.returned (.string s)/\S.Tz s q g ls/\S.tz g ls=z/\s.size<=1000000/\Below w.heap.size w w'
theorem Zz9 (neg:Bool)(A:Option Addr)(N c:Nat)(l:List Int)(hN:N=l.length)(hd:S.DgB 65536 l)(hc:N<=c)(hl:N<=24)(w:World)(hL:LVE w)(h:Reads w w.heap.size A (l.map (Yr .u16)))(z:Int)(hz:z=if neg=true then -S.dvB 65536 l else S.dvB 65536 l) :
 Calls Tryz.prog 29 #[.agg #[.bool neg,.slice A N c]] w (Zyx w z):=by
 have HZ:=Ya hz;have HN:=Ya hN;have H:=Ya h;have HD:=Ya hd;have HL:=Ya hL;obtain⟨n,hn⟩:∃n:Nat,(n:Int)=S.dvB 65536 l:=⟨(S.dvB 65536 l).toNat,by have:=Zas (show(0:Int)<=65536 by decide) hd;omega⟩
 have Hn:=Ya hn;have Hlt:=Ya (show(n:Int)<65536^24 from by
  have h1:=Ze0 (b:=65536) (by decide) hd;have h2:=Zbb (b:=65536) (by decide) (show l.length<=24 by omega);omega)
 have c0:(w.alloc (.cells #[.bool neg,.slice A N c] 24 (0,0))).cell? ⟨w.heap.size,0,none⟩=some (.bool neg):=by
  rw[Yc (heap_alloc_new w _)];rfl
 have c1:(w.alloc (.cells #[.bool neg,.slice A N c] 24 (0,0))).cell? ⟨w.heap.size,1,none⟩=some (.slice A N c):=by
  rw[Yc (heap_alloc_new w _)];rfl
 have hbel:=(Yh w.heap.size w).alloc (Yb _) (.cells #[.bool neg,.slice A N c] 24 (0,0));have hsz:(w.alloc (.cells #[.bool neg,.slice A N c] 24 (0,0))).heap.size=w.heap.size+1:=by simp
 have HBel:=Ya hbel;have Hsz:=Ya hsz;have Hr1:=Ya (show Reads (w.alloc (.cells #[.bool neg,.slice A N c] 24 (0,0))) (w.alloc (.cells #[.bool neg,.slice A N c] 24 (0,0))).heap.size A (l.map (Yr .u16)) from(h.below hbel).moreM hbel.size);clear hN h hd hL hn hbel hz;go_enter Tryz.func29,Tryz.ntmps29
 go_upto_region 1 with fail
 generalize (w.alloc (.cells #[.bool neg,.slice A N c] 24 (0,0)))=w1 at *;have i1:w.heap.size<w1.heap.size:=by omega
 go_wp2_with fail
 refine(Zvu A N c l HN.out w1 w1.heap.size Hr1.out (by omega) hc).mono ?_;rintro e w2 ⟨m,hm,rfl,rfl⟩;have Hm:=Ya hm;have hmN:m<=N:=by have:=hm.1;rw[<- HN.out] at this;exact this
 clear hm;by_cases g0:m=0
 .subst g0
  go_wp2_with fail
  go_ret
  have e0:S.dvB 65536 l=0:=Zou (Zjr HD.out Hm.out) (by rw[Yq];omega);exact⟨⟨#[48]⟩,0,false,[0],rfl,tz_nought.1,by rw[tz_nought.2,HZ.out,e0];split <;> rfl,by decide,HBel.out⟩
 have g1:((m:Int)==0)=false:=by simp;omega
 have Hpos:=Ya (show n≠0 from λ e=>by
  have h1:=Zot (by decide) (Zjr HD.out Hm.out) (by rw[Yq];have:=Hm.out.1;omega);have h2:=Hn.out;omega)
 go_wp2_with fail
 go_loopw [3,4,5,6] (λ v3 v4 _ _ wr=>∃(A1:Option Addr)(N1 k1:Nat)(l1:List Int)(v:Nat)(A4:Option Addr)(n4 k4:Nat)(ps:List ByteArray) (ds:List Int),v3=.slice A1 N1 k1/\v4=.slice A4 n4 k4/\N1<=N/\n4<=31/\Hid (N1=l1.length)/\Hid (Reads wr wr.heap.size A1 (l1.map (Yr .u16)))/\Hid (S.Cn 65536 l1 v)/\Hid (n4=ps.length)/\Hid (ds.length<=4*n4)/\Hid (v≠0->ds.length=4*n4)/\Hid (S.b8 n v ps ds)/\Hid (wr.ownsRow (w.heap.size+1) 9 1 (.slice A4 n4 k4) n4 (ps.map Ycp))/\Hid (Below w.heap.size w wr)/\Hid (wr.cell? ⟨w.heap.size,0,none⟩=some (.bool neg)/\w.heap.size<wr.heap.size)) (λ _ v4 _ _ _=>40-Zs6 v4)
 case atStart =>
  have hlm:(l.take m).length=m:=by rw[Yq];have:=Hm.out.1;omega
  exact⟨A,m,c,l.take m,n,none,0,0,[],[],rfl,rfl,hmN,by omega,Ya hlm.symm,Ya (Zks Hr1.out m),Ya (by rw[Hn.out];exact Zjr HD.out Hm.out),Ya rfl,Ya (Yb _),Ya (λ _=>rfl),Ya (Z6i n),Ya (World.ownsRow_nil _ _ _ _),HBel,Ya ⟨c0,i1⟩⟩
 case round =>
  obtain⟨A1,N1,k1,l1,v,A4,n4,k4,ps,ds,rfl,rfl,hN1,hn4,hl1,hr1,hx1,hps,hds,hdv,htx,hown,hbel,hbox⟩:=hrel;obtain⟨bx0,bx1⟩:=hbox.out;have hcap4:=Zg2 hown.out;have hzw:=hbel.out.size;by_cases c9:N1=0
  .subst c9
   have hv0:v=0:=by have:=Zou hx1.out hl1.out.symm;omega
   subst hv0;have hpos4:0<n4:=by
    refine Nat.pos_of_ne_zero λ e=>Hpos.out ?_
    have h1:ds=[]:=List.length_eq_zero_iff.1 (by have:=hds.out;omega);have h2:=htx.out.val;rw[h1] at h2;have h3:S.dvB 10 ([]:List Int).reverse=0:=rfl;rw[h3] at h2;omega
   have hdl:=hds.out
   cases neg with
   | false =>
    go_wp2_with fail
    refine(Zn5 wr (w.heap.size+1) A4 n4 k4 ps hps.out hpos4 (by omega) hown.out).mono ?_;rintro e w5 ⟨rfl,g,rfl,hg,hcells,hb5⟩;have HB5:=Ya (hbel.out.trans (hb5.mono (Y2 _)));clear hb5;have HJ:=Ya (Zz8 g k4 n4 ps [] ds w5 hps.out hcells hg htx.out.txt hcap4 (by omega) (by rw[List.length_nil];omega));clear hcells;go_wp2_with fail
    refine HJ.out.mono ?_;rintro e w6 ⟨rfl,hb6⟩;have HB6:=Ya (HB5.out.trans (hb6.mono HB5.out.size));clear hb6;go_wp2_with fail
    go_ret
    obtain⟨q,ls,ht,hz⟩:=Z0n false htx.out Hpos.out (s:=⟨([]++S.tx ds).toArray⟩) rfl;refine⟨_,q,false,ls,rfl,ht,by have h1:=HZ.out;have h2:=Hn.out;rw[hz,h2];exact h1.symm,?_,HB6.out⟩
    show([]++S.tx ds).toArray.size<=_
    simp[S.tx];omega
   | true =>
    go_wp2_with (at_builtin;refine Zt rfl (.tmp 39) (.tmp 40) _ rfl (w.heap.size+1) 9 Zi0 Tryz.underlying67 rfl (by decide) #[.string ⟨#[45]⟩] _ _ _ rfl hown.out rfl rfl rfl (by simp[Y6]) (by simp only[maxLen];omega) (by omega) bx1 ?_;intro v' w7 ho7 hg7 hb7 hat7;obtain⟨A8,c8,rfl⟩:=Zb ho7)
    have ho8:w7.ownsRow (w.heap.size+1) 9 1 (.slice A8 (n4+1) c8) (n4+1) ((ps++[(⟨#[45]⟩:ByteArray)]).map Ycp):=by rw[Yau];exact ho7
    refine(Zn5 w7 (w.heap.size+1) A8 (n4+1) c8 (ps++[(⟨#[45]⟩:ByteArray)]) (by rw[Yd,<- hps.out];rfl) (Nat.succ_pos _) (by omega) ho8).mono ?_;rintro e w5 ⟨rfl,g,rfl,hg,hcells,hb5⟩;have HB5:=Ya ((hbel.out.trans (hb7.mono (Y2 _))).trans (hb5.mono (Y2 _)));have hcap8:=Zg2 ho8;clear hb5;have HJ:=Ya (Zz8 g c8 (n4+1) (ps++[(⟨#[45]⟩:ByteArray)]) [45] ds w5 (by rw[Yd,<- hps.out];rfl) hcells hg (Z15 htx.out) hcap8 (by omega) (by rw[List.length_singleton];omega));clear hcells ho7 ho8 hg7 hb7 hat7;go_wp2_with fail
    refine HJ.out.mono ?_;rintro e w6 ⟨rfl,hb6⟩;have HB6:=Ya (HB5.out.trans (hb6.mono HB5.out.size));clear hb6;go_wp2_with fail
    go_ret
    obtain⟨q,ls,ht,hz⟩:=Z0n true htx.out Hpos.out (s:=⟨([45]++S.tx ds).toArray⟩) rfl;refine⟨_,q,true,ls,rfl,ht,by have h1:=HZ.out;have h2:=Hn.out;rw[hz,h2];exact h1.symm,?_,HB6.out⟩
    show([45]++S.tx ds).toArray.size<=_
    simp[S.tx];omega
  .have hpos:=Zot (by decide) hx1.out (by rw[<- hl1.out];omega)
   have hv0:v≠0:=by omega
   have hfew:=Z14 htx.out hv0 Hlt.out;have hd4:=hdv.out hv0;have hn30:n4<30:=by omega
   have d0:decide ((N1:Int)>0)=true:=by simp;omega
   have d1:decide (0<N1)=true:=by simp;omega
   obtain⟨r,hr⟩:∃r:Nat,r=v%10000:=⟨_,rfl⟩
   have er:(v:Int)%10000=(r:Int):=by omega
   have eq:(v:Int)/10000=((v/10000:Nat):Int):=by omega
   have Hr:=Ya hr;have hrb:r<10000:=by omega
   have hpt:=Zyw A1 N1 k1 l1 v hl1.out wr wr.heap.size (Yb _) hr1.out (by omega) hx1.out;rw[er,eq] at hpt;have HPt:=Ya hpt;clear hpt er eq hr hpos hfew;go_wp2_with fail
   refine HPt.out.mono ?_;rintro e w2 ⟨m,c3,l3,rfl,hx3,hl3,hm3,hr3,hb3,hz4⟩;have HX3:=Ya hx3;have HL3:=Ya hl3;have HR3:=Ya hr3;have HB3:=Ya (hbel.out.trans (hb3.mono hzw));have HO3:=Ya (Zd hown.out hb3);have hm0:0<m\/(m=0/\v/10000=0):=by
    by_cases c:0<m
    .exact .inl c
    .have:=Zou hx3 (by rw[<- hl3];omega)
     exact .inr ⟨by omega,by omega⟩
   have hz3:=hb3.size;have bx3:=(hb3.cell (p:=⟨w.heap.size,0,none⟩) bx1).trans bx0;have bl3:w.heap.size<w2.heap.size:=by omega
   have i1:IntKind.i64.wrap (r:Int)=(r:Int):=Yk _ ⟨by omega,by omega⟩;clear hx3 hl3 hr3 hb3 bx0 HPt;go_wp2_with fail
   refine(Zqj r ⟨by omega,by omega⟩ w2 (HL.out.on HB3.out)).mono ?_;rintro e w3 ⟨rfl,hb4⟩;have hdec:S.itoa r=Lib.decDigits r:=by
    rw[Zta ⟨by omega,by omega⟩,Lib.itoa,if_neg (by omega),Int.toNat_natCast]
   rw[hdec];have hK:=Zwt 4 r (by decide) hrb;have hK1:=Lib.nDigits_pos r;have HPad:=Ya (λ k h=>Zws k r h);have HLn:=Ya (Zl5 r);have HB4:=Ya (HB3.out.trans (hb4.mono HB3.out.size));have HO4:=Ya (Zd HO3.out hb4);have HR4:=Ya ((HR3.out.below hb4).moreM hb4.size);have hz5:=hb4.size;have bx4:=(hb4.cell (p:=⟨w.heap.size,0,none⟩) bl3).trans bx3;obtain⟨K,hKe⟩:=Yx (Lib.nDigits r);rw[<- hKe] at hK hK1 HPad HLn;have HK:=Ya hKe;obtain⟨s1,hs1⟩:∃s:ByteArray,s=⟨(Lib.decDigits r).toArray⟩:=⟨_,rfl⟩
   rw[<- hs1];have hsz1:s1.size=K:=by rw[hs1];exact HLn.out
   have Hs1:=Ya hs1;clear hs1 hdec hb4 bx3 bl3 hKe;rcases hm0 with hm0|⟨rfl,hv9⟩
   .have d2:decide ((m:Int)>0)=true:=by simp;omega
    have d3:decide (0<m)=true:=by simp;omega
    have e5:IntKind.i64.wrap (4-(K:Int))=((4-K:Nat):Int):=by rw[Yk _ ⟨by omega,by omega⟩];omega
    go_wp2_with fail
    have hrp:=Tryz.strings_Repeat ⟨#[48]⟩ (4-K) w3 (by omega) (by show 1*(4-K)<=_;omega);refine hrp.mono ?_;rintro e w4 ⟨rfl,hb5⟩;obtain⟨s0,hs0⟩:∃s:ByteArray,s=⟨(Lib.repeatL (⟨#[48]⟩:ByteArray).data.toList (4-K)).toArray⟩:=⟨_,rfl⟩
    rw[<- hs0];have hs0':s0=⟨(Ys (4-K) 48).toArray⟩:=by rw[hs0];exact congrArg (λ l:List UInt8=>(⟨l.toArray⟩:ByteArray)) (Zsq _)
    have hsz0:s0.size=4-K:=by rw[hs0'];show(Ys (4-K) (48:UInt8)).toArray.size=_;simp
    obtain⟨p,hp⟩:=Yx (s0++s1);have hpt:p.data.toList=S.tx (S.au 4 r):=by
     rw[<- HPad.out 4 hK,hp,hs0',Hs1.out,Ztd]
    have HPt:=Ya hpt;have HP:=Ya hp;have HB5:=Ya (HB4.out.trans (hb5.mono HB4.out.size));have HO5:=Ya (Zd HO4.out hb5);have HR5:=Ya ((HR4.out.below hb5).moreM hb5.size);have hz6:=hb5.size;have bx5:=(hb5.cell (p:=⟨w.heap.size,0,none⟩) (show w.heap.size<w3.heap.size by omega)).trans bx4;clear hb5 hs0 hs0' hpt hp bx4 hrp;go_wp2_with (at_builtin;rw[<- HP.out];refine Zt rfl (.tmp 33) (.tmp 35) _ rfl (w.heap.size+1) 9 Zi0 Tryz.underlying67 rfl (by decide) #[.string p] _ _ _ rfl HO5.out rfl rfl rfl (by simp[Y6]) (by simp only[maxLen];omega) (by omega) (by omega) ?_;intro v' w7 ho7 hg7 hb7 hat7;obtain⟨A8,c8,rfl⟩:=Zb ho7)
    go_roundw
    case rel =>
     have hz7:=hb7.size;have hbz:=hb7.mono (Y2 w.heap.size);refine⟨some ⟨wr.heap.size,0,none⟩,m,c3,l3,v/10000,A8,n4+1,c8,ps++[p],S.au 4 r++ds,rfl,rfl,by omega,by omega,HL3,Ya ?_,HX3,Ya (by rw[Yd,<- hps.out];rfl),Ya ?_,Ya (λ h=>?_),Ya ?_,Ya (by rw[Yau];exact ho7),Ya (HB5.out.trans hbz),Ya ⟨(hb7.cell (p:=⟨w.heap.size,0,none⟩) (Yam _)).trans bx5,by omega⟩⟩
     .exact Reads.same HR5.out hz7 λ k o s e=>by
       cases e
       exact hg7.block wr.heap.size (by omega) λ e=>by
        have:=(hown.out.lt _ e.symm).2;omega
     .rw[Yd,Zi7]
      have:=hds.out;omega
     .rw[Yd,Zi7]
      omega
     .have hst:=Zrf (k:=4) (p:=p) htx.out (by rw[<- Hr.out];exact HPt.out) (by omega) (.inl rfl)
      rw[<- Hr.out] at hst;exact hst
    case measure=>simp[Zs6];omega
   .have d2:decide ((0:Int)>0)=false:=by simp
    have hpt:s1.data.toList=S.tx (S.au K r):=by
     rw[<- HPad.out K (Yb _),Nat.sub_self,Hs1.out];rfl
    have HPt:=Ya hpt;have hlt9:=Ya (Lib.lt_pow_nDigits r);clear hpt;go_wp2_with (at_builtin;refine Zt rfl (.tmp 33) (.tmp 35) _ rfl (w.heap.size+1) 9 Zi0 Tryz.underlying67 rfl (by decide) #[.string s1] _ _ _ rfl HO4.out rfl rfl rfl (by simp[Y6]) (by simp only[maxLen];omega) (by omega) (by omega) ?_;intro v' w7 ho7 hg7 hb7 hat7;obtain⟨A8,c8,rfl⟩:=Zb ho7)
    go_roundw
    case rel =>
     have hz7:=hb7.size;have hbz:=hb7.mono (Y2 w.heap.size);refine⟨some ⟨wr.heap.size,0,none⟩,0,c3,l3,v/10000,A8,n4+1,c8,ps++[s1],S.au K r++ds,rfl,rfl,by omega,by omega,HL3,Ya ?_,HX3,Ya (by rw[Yd,<- hps.out];rfl),Ya ?_,Ya (λ h=>?_),Ya ?_,Ya (by rw[Yau];exact ho7),Ya (HB4.out.trans hbz),Ya ⟨(hb7.cell (p:=⟨w.heap.size,0,none⟩) (Yam _)).trans bx4,by omega⟩⟩
     .exact Reads.same HR4.out hz7 λ k o s e=>by
       cases e
       exact hg7.block wr.heap.size (by omega) λ e=>by
        have:=(hown.out.lt _ e.symm).2;omega
     .rw[Yd,Zi7]
      have:=hds.out;omega
     .exact absurd hv9 h
     .have hst:=Zrf (k:=K) (p:=s1) htx.out (by rw[<- Hr.out];exact HPt.out) (by rw[<- Hr.out,HK.out];exact hlt9.out) (.inr hv9)
      rw[<- Hr.out] at hst;exact hst
    case measure=>simp[Zs6];omega
section
attribute [local irreducible] S.ag S.nL S.nMid
theorem Zl6 (z:Int):(if z<0 then -z else z)=(z.natAbs:Int):=by split <;> omega
theorem Z16 {z1 z2 B:Int}(h1:(if z1<0 then -z1 else z1)<B):(if Int.tdiv z1 z2<0 then -(Int.tdiv z1 z2) else Int.tdiv z1 z2)<B/\(if Int.tmod z1 z2<0 then -(Int.tmod z1 z2) else Int.tmod z1 z2)<B/\(if Int.tdiv z1 z2*z2<0 then -(Int.tdiv z1 z2*z2) else Int.tdiv z1 z2*z2)<B:=by
 rw[Zl6] at h1;rw[Zl6,Zl6,Zl6,Int.natAbs_mul,Int.natAbs_tdiv,Int.natAbs_tmod];have a1:(z1.natAbs.div z2.natAbs)<=z1.natAbs:=Nat.div_le_self _ _;have a2:(z1.natAbs%z2.natAbs)<=z1.natAbs:=Nat.mod_le _ _;have a3:(z1.natAbs.div z2.natAbs)*z2.natAbs<=z1.natAbs:=Nat.div_mul_le_self _ _;refine⟨?_,?_,?_⟩ <;> omega
theorem Zvx (z1 z2:Int):Int.tdiv z1 z2*z2+Int.tmod z1 z2=z1:=by
 have h:=Int.tdiv_mul_add_tmod z1 z2;omega
end
section
attribute [local irreducible] S.ag S.nL S.nMid
theorem Zev {z:Int}{N:Nat}(h:z<65536^8)(hN:8<=N):z<65536^N:=by
 have:=Zbb (b:=65536) (by decide) hN;omega
theorem Zn6:S.Tz ⟨#[53,51,54,56,55,48,57,49,49]⟩ 0 false [1,1,9,0,7,8,6,3,5]:=Zoi [] false [5,3,6,8,7,0,9,1,1] (.inl ⟨rfl,rfl⟩) (by decide) (by decide)
theorem Zhg:S.tz false [1,1,9,0,7,8,6,3,5]=536870911:=by decide
theorem Z6s:S.Tz ⟨#[49]⟩ 0 false [1]:=Zoi [] false [1] (.inl ⟨rfl,rfl⟩) (by decide) (by decide)
theorem Z3c:S.tz false [1]=1:=by decide
theorem Zn7:S.Tz ⟨#[53,51,54,56,55,48,57,49,50]⟩ 0 false [2,1,9,0,7,8,6,3,5]:=Zoi [] false [5,3,6,8,7,0,9,1,2] (.inl ⟨rfl,rfl⟩) (by decide) (by decide)
theorem Zhh:S.tz false [2,1,9,0,7,8,6,3,5]=536870912:=by decide
theorem Zp2:S.Wz (536870912) [127,0,0,32768]:=.inr ⟨by decide,[0,8192],⟨by unfold S.DgB;decide,by decide,by decide⟩,by decide⟩
theorem Zp3:S.Wz (536870911) [2147483644]:=.inl ⟨by decide,by decide,by decide⟩
theorem Z4z (w:World)(hL:LVE w):Calls Tryz.prog 23 #[.int .i64 8,.func (.func 52) #[] #[.pointer (some ⟨w.heap.size,0,none⟩)],.func (.func 52) #[] #[.pointer (some ⟨w.heap.size+1,0,none⟩)]] ((w.alloc (.cells #[.string ⟨#[53,51,54,56,55,48,57,49,49]⟩] 9 (0,0))).alloc (.cells #[.string ⟨#[49]⟩] 9 (0,0))) (Zi6 w [127,0,0,32768] (-1)) :=
 Zwo 8 ⟨by decide,by decide⟩ _ _ _ _ _ _ _ _ Zn6 Z6s (by decide) (by decide) (by rw[Zhg];exact Zev (by decide) (by decide)) (by rw[Z3c];exact Zev (by decide) (by decide)) _ _ (λ F a v1 v2 n nv nu M O Q x y hW hT h0=>by
  rw[Zhg,Z3c] at hT;rw[Z3c] at h0;have ez:(536870911)+(1)=(536870912:Int):=by decide
  obtain⟨l,e,hz⟩:=Zp9 hW (by decide) hT (by rw[ez];exact Zev (by decide) (by decide));rw[ez] at hz;rw[e,Zxe hz Zp2]) w hL
theorem Z59 (w:World)(hL:LVE w):Calls Tryz.prog 23 #[.int .i64 9,.func (.func 52) #[] #[.pointer (some ⟨w.heap.size,0,none⟩)],.func (.func 52) #[] #[.pointer (some ⟨w.heap.size+1,0,none⟩)]] ((w.alloc (.cells #[.string ⟨#[53,51,54,56,55,48,57,49,50]⟩] 9 (0,0))).alloc (.cells #[.string ⟨#[49]⟩] 9 (0,0))) (Zi6 w [2147483644] (-1)) :=
 Zwo 9 ⟨by decide,by decide⟩ _ _ _ _ _ _ _ _ Zn7 Z6s (by decide) (by decide) (by rw[Zhh];exact Zev (by decide) (by decide)) (by rw[Z3c];exact Zev (by decide) (by decide)) _ _ (λ F a v1 v2 n nv nu M O Q x y hW hT h0=>by
  rw[Zhh,Z3c] at hT;rw[Z3c] at h0;have ez:(536870912)-(1)=(536870911:Int):=by decide
  obtain⟨l,e,hz⟩:=Z2w hW (by decide) hT (by rw[ez];exact Zev (by decide) (by decide));rw[ez] at hz;rw[e,Zxe hz Zp3]) w hL
theorem Z0a (L:List Int)(A:Option Addr)(c:Nat)(w:World)(hr:Reads w w.heap.size A (L.map (Yr .u32)))(hN:L.length<=1000000):Calls Tryz.prog 26 #[.slice A L.length c,.int .i64 (-1),.slice (some ⟨w.heap.size,0,none⟩) L.length L.length] (w.alloc (.cells (L.map (Yr .u32)).toArray 37 (0,0))) λ e w'=>e=.returned (.bool true)/\Below w.heap.size w w':=by
 have hb:=(Yh w.heap.size w).alloc (Yb _) (.cells (L.map (Yr .u32)).toArray 37 (0,0));have hl:=Zmd (w:=w) (base:=w.heap.size) (e:=37) (size:=1) (n:=L.length) (cs:=(L.map (Yr .u32)).toArray) (xs:=L.map (Yr .u32)) (Yb _) (by simp) rfl (by simp only[maxLen];omega);refine(Z6r A (some ⟨w.heap.size,0,none⟩) L.length c L.length L.length (-1) L L rfl rfl _ ((hr.below hb).moreM hb.size) (Zba hl) hN hN).mono ?_;rintro e w' ⟨rfl,h⟩;refine⟨?_,hb.trans (h.mono hb.size)⟩;unfold S.bf;rw[decide_eq_true rfl,decide_eq_true rfl];rfl
theorem Zvy (w0:World)(hL:LVE w0):Calls Tryz.prog 7 #[] w0 λ e w'=>e=.returned (.bool true)/\Below w0.heap.size w0 w':=by
 have HL:=Ya hL;have HB0:=Ya (Yh w0.heap.size w0);clear hL;go_enter Tryz.func7,Tryz.ntmps7
 go_wp2_with fail
 refine(Zfi _ _).mono ?_;rintro e y1a ⟨rfl,rfl⟩;go_wp2_with fail
 refine(Zfi _ _).mono ?_;rintro e y1b ⟨rfl,rfl⟩;go_wp2_with fail
 refine(Z4z w0 (HL.out.on HB0.out)).mono ?_;rintro e w1 ⟨A1,c1,rfl,hr1,hb1⟩;have HR1:=Ya hr1;have HB1:=Ya (HB0.out.trans (hb1.mono HB0.out.size));have HX1:=Ya hb1;clear hr1 hb1;go_wp2_with fail
 refine(Zfi _ _).mono ?_;rintro e y2a ⟨rfl,rfl⟩;go_wp2_with fail
 refine(Zfi _ _).mono ?_;rintro e y2b ⟨rfl,rfl⟩;go_wp2_with fail
 refine(Z59 w1 (HL.out.on HB1.out)).mono ?_;rintro e w2 ⟨A2,c2,rfl,hr2,hb2⟩;have HR2:=Ya hr2;have HB2:=Ya (HB1.out.trans (hb2.mono HB1.out.size));have HX2:=Ya hb2;clear hr2 hb2;go_wp2_with fail
 refine(Z0a [127,0,0,32768] A1 c1 w2 (((HR1.out).below HX2.out).moreM HX2.out.size) (by decide)).mono ?_;rintro e w3 ⟨rfl,hb3⟩;have HX3:=Ya hb3;have HB3:=Ya (HB2.out.trans (hb3.mono HB2.out.size));clear hb3;go_wp2_with fail
 refine(Z0a [2147483644] A2 c2 w3 (((HR2.out).below HX3.out).moreM HX3.out.size) (by decide)).mono ?_;rintro e w4 ⟨rfl,hb4⟩;have HX4:=Ya hb4;have HB4:=Ya (HB3.out.trans (hb4.mono HB3.out.size));clear hb4;go_wp2_with fail
 go_ret
 exact⟨rfl,HB4.out⟩
end
section
attribute [local irreducible] S.ag S.nL S.nMid
structure Z6a (w:World)(N1 N2 c1 c2:Nat)(A1 A2:Option Addr)(d1 d2:List Int):Prop where
 l1:N1=d1.length
 l2:N2=d2.length
 r1:Reads w w.heap.size A1 (d1.map (Yr .u16))
 r2:Reads w w.heap.size A2 (d2.map (Yr .u16))
 g1:S.DgB 65536 d1
 g2:S.DgB 65536 d2
 b1:N1<=9223372036854775807/\N2<=9223372036854775807
 k1:N1<=c1/\N2<=c2
def S.bz (n:Bool)(d:List Int):Int:=if n=true then -S.dvB 65536 d else S.dvB 65536 d
theorem Z0b {n:Bool}{d:List Int}{N:Nat}(hd:S.DgB 65536 d)(hl:d.length<=N):(if S.bz n d<0 then -S.bz n d else S.bz n d)<65536^N:=by
 have h0:=Zas (show(0:Int)<=65536 by decide) hd;have h1:=Ze0 (b:=65536) (by decide) hd;have h2:=Zbb (b:=65536) (by decide) hl;unfold S.bz;generalize (65536:Int)^N=P at *
 cases n
 .simp only[Bool.false_eq_true,if_false]
  split <;> omega
 .simp only[if_true]
  split <;> omega
theorem Zvz (e9:Bool)(A9:Option Addr)(m9 c9:Nat)(w':World):(Instr.field 24 (.agg #[.bool e9,.slice A9 m9 c9]) 1).run Tryz.prog w'=.ok (.slice A9 m9 c9) w':=by kernel_rfl
theorem Z17 {n:Bool}{d:List Int}(h:S.bz n d=0):S.dvB 65536 d=0:=by
 unfold S.bz at h
 split at h <;> omega
structure FBox (w wr:World)(n1 n2:Bool)(v1 v2:Value):Prop where
 bel:Below w.heap.size w wr
 sz:w.heap.size+2<=wr.heap.size
 h0:wr.heap[w.heap.size]?=some (.cells #[.bool n1,v1] 24 (0,0))
 h1:wr.heap[w.heap.size+1]?=some (.cells #[.bool n2,v2] 24 (0,0))
theorem Z18 (w:World)(n1 n2:Bool)(v1 v2:Value):FBox w ((w.alloc (.cells #[.bool n1,v1] 24 (0,0))).alloc (.cells #[.bool n2,v2] 24 (0,0))) n1 n2 v1 v2:=by
 have s1:(w.alloc (.cells #[.bool n1,v1] 24 (0,0))).heap.size=w.heap.size+1:=by simp
 refine⟨Zb6 (Yb _) _ _,by simp,?_,?_⟩
 .rw[heap_alloc_old _ _ (by omega)]
  exact heap_alloc_new w _
 .rw[<- s1]
  exact heap_alloc_new _ _
section
variable {w wr:World}{n1 n2:Bool}{v1 v2:Value}(h:FBox w wr n1 n2 v1 v2)
include h
theorem FBox.nums:wr.cell? ⟨w.heap.size,0,none⟩=some (.bool n1)/\wr.cell? ⟨w.heap.size,1,none⟩=some v1/\wr.cell? ⟨w.heap.size+1,0,none⟩=some (.bool n2)/\wr.cell? ⟨w.heap.size+1,1,none⟩=some v2:=by
 refine⟨?_,?_,?_,?_⟩
 .rw[Yc h.h0];rfl
 .rw[Yc h.h0];rfl
 .rw[Yc h.h1];rfl
 .rw[Yc h.h1];rfl
theorem FBox.lts:w.heap.size<wr.heap.size/\w.heap.size+1<wr.heap.size:=by
 have:=h.sz;omega
theorem FBox.below {w4:World}(hb:Below wr.heap.size wr w4):FBox w w4 n1 n2 v1 v2:=by
 have:=h.sz;have:=hb.size;exact⟨h.bel.trans (hb.mono (by omega)),by omega,(hb.block _ (by omega)).trans h.h0,(hb.block _ (by omega)).trans h.h1⟩
end
structure FTxt (w:World)(b:Nat)(s:ByteArray)(q:Nat)(g:Bool)(l:List Int)(z:Int):Prop where
 box:w.heap[b]?=some (.cells #[.string s] 9 (0,0))
 tz:S.Tz s q g l
 val:S.tz g l=z
 few:s.size<=1000000
theorem FTxt.below {w w':World}{b:Nat}{s:ByteArray}{q:Nat}{g:Bool}{l:List Int}{z:Int}(h:FTxt w b s q g l z)(hb:Below w.heap.size w w'):FTxt w' b s q g l z:=⟨(hb.block b (Yv.1 h.box).1).trans h.box,h.tz,h.val,h.few⟩
theorem Zdt {w:World}{o:Obj}{cb:Nat}(h:w.heap[cb]?=some o):Znp cb o w.heap.size w:=⟨(Yv.1 h).1,h⟩
theorem Z19 {w w':World}{o:Obj}{cb:Nat}(h:Znp cb o w.heap.size w)(hb:Below w.heap.size w w'):Znp cb o w'.heap.size w':=⟨Yy h.1 hb.size,(hb.block cb h.1).trans h.2⟩
structure FRow (w:World)(A:Option Addr)(n:Nat)(l:List Int)(z:Int):Prop where
 len:n=l.length
 few:n<=301
 wz:S.Wz z l
 rd:Reads w w.heap.size A (l.map (Yr .u32))
theorem FRow.below {w w':World}{A:Option Addr}{n:Nat}{l:List Int}{z:Int}(h:FRow w A n l z)(hb:Below w.heap.size w w'):FRow w' A n l z:=⟨h.len,h.few,h.wz,(h.rd.below hb).moreM hb.size⟩
theorem FRow.pos {w:World}{A:Option Addr}{n:Nat}{l:List Int}{z:Int}(h:FRow w A n l z):1<=n:=by
 obtain⟨h1,h2⟩:=Zvd h.wz;have h3:=h.len;by_cases hr:-536870912<=z/\z<=536870911
 .have:=h1 hr;omega
 .have:=h2 hr;omega
theorem FRow.krow {w:World}{A:Option Addr}{n c:Nat}{l:List Int}{z:Int}(h:FRow w A n l z):Zsu w.heap.size A n c l (w.alloc (.cells #[.slice A n c] 51 (0,0))).heap.size (w.alloc (.cells #[.slice A n c] 51 (0,0))):=by
 have hal:=(Yh w.heap.size w).alloc (Yb _) (.cells #[.slice A n c] 51 (0,0));exact⟨⟨by simp,heap_alloc_new w _⟩,(h.rd.below hal).moreM hal.size⟩
theorem Zi1 {w:World}{z:Int}{e:Ending}{w':World}(h:Zwp w z e w'):∃(A:Option Addr)(n c:Nat)(l:List Int),e=.returned (.tuple #[.slice A n c,.int .i64 (-1)])/\FRow w' A n l z/\Below w.heap.size w w':=by
 obtain⟨A,n,c,l,he,h1,h2,h3,h4,h5⟩:=h;exact⟨A,n,c,l,he,⟨h1,h2,h3,h4⟩,h5⟩
theorem Z2a {cb:Nat}{A:Option Addr}{n c:Nat}{l:List Int}{w w':World}(h:Zsu cb A n c l w.heap.size w)(hb:Below w.heap.size w w'):Zsu cb A n c l w'.heap.size w':=⟨Z19 h.1 hb,(h.2.below hb).moreM hb.size⟩
theorem Zj2 (w:World)(hL:LVE w)(n1 n2:Bool)(A1 A2:Option Addr)(N1 c1 N2 c2:Nat)(d1 d2:List Int)(h:Z6a w N1 N2 c1 c2 A1 A2 d1 d2) :
 Calls Tryz.prog 6 #[.agg #[.bool n1,.slice A1 N1 c1],.agg #[.bool n2,.slice A2 N2 c2]] w λ e w'=>e=.returned (.bool true)/\Below w.heap.size w w':=by
 have HL:=Ya hL;have H:=Ya h;obtain⟨hb1,hb2⟩:=h.b1;clear hL h;have hm:=Z18 w n1 n2 (.slice A1 N1 c1) (.slice A2 N2 c2);go_enter Tryz.func6,Tryz.ntmps6
 go_upto_region 1 with fail
 generalize ((w.alloc (.cells #[.bool n1,.slice A1 N1 c1] 24 (0,0))).alloc (.cells #[.bool n2,.slice A2 N2 c2] 24 (0,0)))=w3 at hm⊢;have HM:=Ya hm;obtain⟨q0,q1,q2,q3⟩:=hm.nums;obtain⟨b0,b1⟩:=hm.lts;clear hm;have HW:=Ya (λ(w4:World) (hb:Below w3.heap.size w3 w4)=>Zvy w4 (HL.out.on (HM.out.bel.trans (hb.mono HM.out.bel.size))));by_cases g1:N1<=16
 rotate_left
 .as_aux_lemma =>
  have x1:decide ((N1:Int)>16)=true:=decide_eq_true (by omega);have x2:decide ((16:Int)<(N1:Int))=true:=decide_eq_true (by omega);have x3:decide (16<N1)=true:=decide_eq_true (by omega);clear g1;go_wp2_with fail
  refine(HW.out w3 (Yh _ _)).mono ?_;rintro e w4 ⟨rfl,hb4⟩;have HB4:=Ya (HM.out.bel.trans (hb4.mono HM.out.bel.size));clear hb4 q0 q1 q2 q3 b0 b1;go_wp2_with fail
  go_ret
  exact⟨rfl,HB4.out⟩
 have x1:decide ((N1:Int)>16)=false:=decide_eq_false (by omega);have x2:decide ((16:Int)<(N1:Int))=false:=decide_eq_false (by omega);have x3:decide (16<N1)=false:=decide_eq_false (by omega);by_cases g2:N2<=16
 rotate_left
 .as_aux_lemma =>
  have y1:decide ((N2:Int)>16)=true:=decide_eq_true (by omega);have y2:decide ((16:Int)<(N2:Int))=true:=decide_eq_true (by omega);have y3:decide (16<N2)=true:=decide_eq_true (by omega);clear g1 g2;go_wp2_with fail
  refine(HW.out w3 (Yh _ _)).mono ?_;rintro e w4 ⟨rfl,hb4⟩;have HB4:=Ya (HM.out.bel.trans (hb4.mono HM.out.bel.size));clear hb4 q0 q1 q2 q3 b0 b1;go_wp2_with fail
  go_ret
  exact⟨rfl,HB4.out⟩
 have y1:decide ((N2:Int)>16)=false:=decide_eq_false (by omega);have y2:decide ((16:Int)<(N2:Int))=false:=decide_eq_false (by omega);have y3:decide (16<N2)=false:=decide_eq_false (by omega);have R1:=Ya (λ(w4:World) (hb:Below w3.heap.size w3 w4)=>show Reads w4 w4.heap.size A1 (d1.map (Yr .u16)) from by
  have hb':=HM.out.bel.trans (hb.mono HM.out.bel.size);exact(H.out.r1.below hb').moreM hb'.size)
 have R2:=Ya (λ(w4:World) (hb:Below w3.heap.size w3 w4)=>show Reads w4 w4.heap.size A2 (d2.map (Yr .u16)) from by
  have hb':=HM.out.bel.trans (hb.mono HM.out.bel.size);exact(H.out.r2.below hb').moreM hb'.size)
 go_wp2_with fail
 refine(Z4y n2 A2 N2 c2 d2 H.out.l2 w3 (R2.out w3 (Yh _ _)) (by omega)).mono ?_;rintro e w4 ⟨e9,A9,m9,c9,hm9,rfl,hb4⟩;have HT9:=Ya hm9;have hfd:=λ w'=>Zvz e9 A9 m9 c9 w'
 have HB4:=Ya hb4;have HM4:=Ya (HM.out.below hb4);clear hb4 hm9 q0 q1 q2 q3 b0 b1;obtain⟨q0,q1,q2,q3⟩:=HM4.out.nums;obtain⟨b0,b1⟩:=HM4.out.lts;by_cases g3:m9=0
 .as_aux_lemma =>
  subst g3;go_wp2_with fail
  refine(HW.out w4 HB4.out).mono ?_;rintro e w5 ⟨rfl,hb5⟩;have hb:=HM.out.bel.trans (HB4.out.mono HM.out.bel.size);have HB5:=Ya (hb.trans (hb5.mono hb.size));clear hb hb5 q0 q1 q2 q3 b0 b1;go_wp2_with fail
  go_ret
  exact⟨rfl,HB5.out⟩
 have g4:((m9:Int)==0)=false:=by simp;omega
 have hz0:S.bz n2 d2≠0:=λ h=>by
  have h1:=Z17 h;have h2:=Zot (by decide) (Zjr H.out.g2 HT9.out) (by rw[Yq];have:=HT9.out.1;omega);omega
 have HZ0:=Ya hz0;clear g3 hz0;obtain⟨z1,hz1⟩:∃z,z=S.bz n1 d1:=⟨_,rfl⟩
 obtain⟨z2,hz2⟩:∃z,z=S.bz n2 d2:=⟨_,rfl⟩
 have HZ1:=Ya hz1;have HZ2:=Ya hz2;have HT1:=Ya (λ(y:World) (hy:Below w4.heap.size w4 y)=>Zz9 n1 A1 N1 c1 d1 H.out.l1 H.out.g1 H.out.k1.1 (by omega) y (HL.out.on (HM4.out.bel.trans (hy.mono HM4.out.bel.size))) (R1.out y (HB4.out.trans (hy.mono HB4.out.size))) z1 HZ1.out);have HT2:=Ya (λ(y:World) (hy:Below w4.heap.size w4 y)=>Zz9 n2 A2 N2 c2 d2 H.out.l2 H.out.g2 H.out.k1.2 (by omega) y (HL.out.on (HM4.out.bel.trans (hy.mono HM4.out.bel.size))) (R2.out y (HB4.out.trans (hy.mono HB4.out.size))) z2 HZ2.out);clear hz1 hz2 hb1 hb2;go_upto_region 3 with fail
 go_cut [5,6] from 35 to 40 (λ v5 v6 wc=>∃(bx bz:Nat)(sx sy:ByteArray)(qx qy:Nat)(gx gy:Bool)(lx ly:List Int),v5=.func (.func 52) #[] #[.pointer (some ⟨bx,0,none⟩)]/\v6=.func (.func 52) #[] #[.pointer (some ⟨bz,0,none⟩)]/\Hid (FTxt wc bx sx qx gx lx z1)/\Hid (FTxt wc bz sy qy gy ly z2)/\Hid (Below w4.heap.size w4 wc))
 case first=>as_aux_lemma =>
  go_region_held3 (λ w'=>w'.cell? ⟨w.heap.size,0,none⟩=some (.bool n1)/\w'.cell? ⟨w.heap.size,1,none⟩=some (.slice A1 N1 c1)/\w'.cell? ⟨w.heap.size+1,0,none⟩=some (.bool n2)/\w'.cell? ⟨w.heap.size+1,1,none⟩=some (.slice A2 N2 c2))
   (first
    | exact⟨q0,q1,q2,q3⟩
    | exact hS8
    | exact hS7
    | exact hS6
    | exact hS5
    | go_keep)
   (first
    | (go_at_call_of 29 (Value.agg #[Value.bool n1,Ybr A1 N1 c1]);go_loud (
     refine(HT1.out _ ?_).mono ?_
     first
      | with_reducible exact Yh _ _
      | exact Below.drew (Yh _ _)
     rintro e w5 ⟨sx,qx,gx,lx,rfl,htx,hzx,hsx,hb5⟩;have HB5:Hid (Below w4.heap.size w4 w5):=Ya (by
      first
       | with_reducible exact hb5
       | exact Ybf (Below.drew (Yh _ _)) hb5)
     have hS5:=(HM4.out.below HB5.out).nums;have HX5:=Ya (And.intro htx (And.intro hzx hsx));clear hb5 htx hzx hsx))
    | (go_at_call_of 24 (Ycp sx);go_loud (
     refine(Zfi sx _).mono ?_
     rintro e w6 ⟨rfl,hw6⟩;have hq6:w6.heap[w5.heap.size]?=some (.cells #[.string sx] 9 (0,0)):=by rw[hw6];exact heap_alloc_new w5 _
     have HB56:Hid (Below w5.heap.size w5 w6):=Ya (by rw[hw6];exact(Yh _ _).alloc (Yb _) _);have HB6:=Ya (HB5.out.trans (HB56.out.mono HB5.out.size));have hS6:=(HM4.out.below HB6.out).nums;have HX6:=Ya (show FTxt w6 w5.heap.size sx qx gx lx z1 from⟨hq6,HX5.out.1,HX5.out.2.1,HX5.out.2.2⟩);clear hw6 hq6))
    | (go_at_call_of 29 (Value.agg #[Value.bool n2,Ybr A2 N2 c2]);go_loud (
     refine(HT2.out _ HB6.out).mono ?_
     rintro e w7 ⟨sy,qy,gy,ly,rfl,hty,hzy,hsy,hb7⟩;have HB7:=Ya (HB6.out.trans (hb7.mono HB6.out.size));have hS7:=(HM4.out.below HB7.out).nums;have HX7:=Ya (And.intro hty (And.intro hzy hsy));have HX67:=Ya (HX6.out.below hb7);clear hb7 hty hzy hsy))
    | (go_at_call_of 24 (Ycp sy);go_loud (
     refine(Zfi sy _).mono ?_
     rintro e w8 ⟨rfl,hw8⟩;have hq8:w8.heap[w7.heap.size]?=some (.cells #[.string sy] 9 (0,0)):=by rw[hw8];exact heap_alloc_new w7 _
     have HB78:Hid (Below w7.heap.size w7 w8):=Ya (by rw[hw8];exact(Yh _ _).alloc (Yb _) _);have HB8:=Ya (HB7.out.trans (HB78.out.mono HB7.out.size));have hS8:=(HM4.out.below HB8.out).nums;have HX8:=Ya (show FTxt w8 w7.heap.size sy qy gy ly z2 from⟨hq8,HX7.out.1,HX7.out.2.1,HX7.out.2.2⟩);have HX68:=Ya (HX67.out.below HB78.out);clear hw8 hq8)))
  all_goals
   go_wp2_with fail
   go_meet
   exact⟨w5.heap.size,w7.heap.size,sx,sy,qx,qy,gx,gy,lx,ly,rfl,rfl,HX68,HX8,HB8⟩
 case rest =>
 clear q0 q1 q2 q3 b0 b1;obtain⟨bx,bz,sx,sy,qx,qy,gx,gy,lx,ly,rfl,rfl,hx,hy,hbc⟩:=hcut;obtain⟨wv,rfl⟩:=Yx wc;have HB0:=Ya (HM4.out.bel.trans (hbc.out.mono HM4.out.bel.size));have habs1:(if z1<0 then -z1 else z1)<65536^16:=by rw[HZ1.out];exact Z0b H.out.g1 (by rw[<- H.out.l1];exact g1)
 have habs2:(if z2<0 then -z2 else z2)<65536^16:=by rw[HZ2.out];exact Z0b H.out.g2 (by rw[<- H.out.l2];exact g2)
 have p40:=Zbb (b:=65536) (by decide) (show 16<=40 by decide);have p250:=Zbb (b:=65536) (by decide) (show 16<=250 by decide);have phg:=Zbb (b:=65536) (by decide) (show 40<=1000 by decide);have hz20:z2≠0:=by rw[HZ2.out];exact HZ0.out
 obtain⟨k1,k2,k3⟩:=Z16 (z2:=z2) habs1;have hge:S.bd=65536^1000:=rfl;have GX:=Ya (show Zf5 52 bx (Znp bx (.cells #[.string sx] 9 (0,0))) (S.am z1) from by
  have h:=Zcl sx qx gx lx hx.out.tz hx.out.few (by rw[hx.out.val,hge];omega) bx;rw[hx.out.val] at h;exact h)
 have GY:=Ya (show Zf5 52 bz (Znp bz (.cells #[.string sy] 9 (0,0))) (S.am z2) from by
  have h:=Zcl sy qy gy ly hy.out.tz hy.out.few (by rw[hy.out.val,hge];omega) bz;rw[hy.out.val] at h;exact h)
 have hh:(400:Int)<=2000/\(2000:Int)<=1000000:=by decide
 have A1_:(if z1<0 then -z1 else z1)<65536^40:=by omega
 have A2_:(if z2<0 then -z2 else z2)<65536^40:=by omega
 have A3_:(if Int.tdiv z1 z2<0 then -(Int.tdiv z1 z2) else Int.tdiv z1 z2)<65536^40:=by omega
 have A4_:(if Int.tmod z1 z2<0 then -(Int.tmod z1 z2) else Int.tmod z1 z2)<65536^40:=by omega
 have A5_:(if Int.tdiv z1 z2*z2<0 then -(Int.tdiv z1 z2*z2) else Int.tdiv z1 z2*z2)<65536^40:=by omega
 have B1_:(if z1<0 then -z1 else z1)<65536^250:=by omega
 have B3_:(if Int.tdiv z1 z2<0 then -(Int.tdiv z1 z2) else Int.tdiv z1 z2)<65536^250:=by omega
 have B4_:(if Int.tmod z1 z2<0 then -(Int.tmod z1 z2) else Int.tmod z1 z2)<65536^250:=by omega
 have B5_:(if Int.tdiv z1 z2*z2<0 then -(Int.tdiv z1 z2*z2) else Int.tdiv z1 z2*z2)<65536^250:=by omega
 have HQ:=Ya (λ(y:World) (hL:LVE y) (h1:Znp bx (.cells #[.string sx] 9 (0,0)) y.heap.size y) (h2:Znp bz (.cells #[.string sy] 9 (0,0)) y.heap.size y)=>Zge 11 ⟨by decide,by decide⟩ _ _ bx bz _ _ z1 z2 (Int.tdiv z1 z2) GX.out GY.out A1_ A2_ (λ F a v1 v2 n nv nu M O Q x y hW hT=>Z2y hW hh hT hz20 B3_) y hL h1 h2);have HR:=Ya (λ(y:World) (hL:LVE y) (h1:Znp bx (.cells #[.string sx] 9 (0,0)) y.heap.size y) (h2:Znp bz (.cells #[.string sy] 9 (0,0)) y.heap.size y)=>Zge 12 ⟨by decide,by decide⟩ _ _ bx bz _ _ z1 z2 (Int.tmod z1 z2) GX.out GY.out A1_ A2_ (λ F a v1 v2 n nv nu M O Q x y hW hT=>Z2z hW hh hT hz20 B4_) y hL h1 h2);have HP:=Ya (λ(y:World) (hL:LVE y) (A:Option Addr) (n c:Nat) (l:List Int) (cb:Nat) (hf:n=l.length/\n<=301/\S.Wz (Int.tdiv z1 z2) l) (h1:Zsu cb A n c l y.heap.size y) (h2:Znp bz (.cells #[.string sy] 9 (0,0)) y.heap.size y)=>Zge 10 ⟨by decide,by decide⟩ _ _ cb bz _ _ (Int.tdiv z1 z2) z2 (Int.tdiv z1 z2*z2) (Zfk _ l A n c hf.2.2 hf.1 hf.2.1 cb) GY.out A3_ A2_ (λ F a v1 v2 n nv nu M O Q x y hW hT=>Z2x hW hh hT B5_) y hL h1 h2);have HS:=Ya (λ(y:World) (hL:LVE y) (A A':Option Addr) (n c n' c':Nat) (l l':List Int) (cb cb':Nat) (hf:n=l.length/\n<=301/\S.Wz (Int.tdiv z1 z2*z2) l) (hf':n'=l'.length/\n'<=301/\S.Wz (Int.tmod z1 z2) l') (h1:Zsu cb A n c l y.heap.size y) (h2:Zsu cb' A' n' c' l' y.heap.size y)=>Zge 8 ⟨by decide,by decide⟩ _ _ cb cb' _ _ (Int.tdiv z1 z2*z2) (Int.tmod z1 z2) z1 (Zfk _ l A n c hf.2.2 hf.1 hf.2.1 cb) (Zfk _ l' A' n' c' hf'.2.2 hf'.1 hf'.2.1 cb') A5_ A4_ (λ F a v1 v2 n nv nu M O Q x y hW hT=>by
  have h:=Zp9 hW hh hT (by rw[Zvx];exact B1_);rw[Zvx] at h;exact h) y hL h1 h2)
 have HT:=Ya (λ(y:World) (hL:LVE y) (cb:Nat) (h1:Znp bx (.cells #[.string sx] 9 (0,0)) y.heap.size y) (h2:Znp cb (.cells #[.string ⟨#[48]⟩] 9 (0,0)) y.heap.size y)=>Zge 8 ⟨by decide,by decide⟩ _ _ bx cb _ _ z1 0 z1 GX.out (show Zf5 52 cb (Znp cb (.cells #[.string ⟨#[48]⟩] 9 (0,0))) (S.am 0) from by
  have h:=Zcl ⟨#[48]⟩ 0 false [0] tz_nought.1 (by decide) (by rw[tz_nought.2,if_neg (by decide),hge];exact Yar (by decide)) cb;rw[tz_nought.2] at h;exact h) A1_ (by rw[if_neg (by decide)];exact Yar (by decide)) (λ F a v1 v2 n nv nu M O Q x y hW hT=>by
  have h:=Zp9 hW hh hT (by rw[Ybj];exact B1_);rw[Ybj] at h;exact h) y hL h1 h2)
 clear A1_ A2_ A3_ A4_ A5_ B1_ B3_ B4_ B5_ habs1 habs2 p40 p250 phg hz20 k1 k2 k3 hge hh g4 x1 x2 x3 y1 y2 y3 g1 g2 hfd;go_wp2_with fail
 refine(HQ.out wv (HL.out.on HB0.out) (Zdt hx.out.box) (Zdt hy.out.box)).mono ?_;rintro e wq hq;obtain⟨Aq,nq,cq,lq,rfl,hrq,hbq⟩:=Zi1 hq;have HRq:=Ya hrq;have HBq:=Ya (HB0.out.trans (hbq.mono HB0.out.size));have HXq:=Ya (hx.out.below hbq);have HYq:=Ya (hy.out.below hbq);have gq:((nq:Int)==0)=false:=by have:=hrq.pos;simp;omega
 clear hq hrq hbq;go_wp2_with fail
 refine(HR.out wq (HL.out.on HBq.out) (Zdt HXq.out.box) (Zdt HYq.out.box)).mono ?_;rintro e wr hr;obtain⟨Ar,nr,cr,lr,rfl,hrr,hbr⟩:=Zi1 hr;have HRr:=Ya hrr;have HRq2:=Ya (HRq.out.below hbr);have HBr:=Ya (HBq.out.trans (hbr.mono HBq.out.size));have HXr:=Ya (HXq.out.below hbr);have HYr:=Ya (HYq.out.below hbr);have gr:((nr:Int)==0)=false:=by have:=hrr.pos;simp;omega
 clear hr hrr hbr;go_wp2_with fail
 refine(Zqa Aq nq cq wr).mono ?_;rintro e wa ⟨rfl,hwa⟩;have HKa:=Ya (show Zsu wr.heap.size Aq nq cq lq wa.heap.size wa by rw[hwa];exact HRq2.out.krow);have hba:Below wr.heap.size wr wa:=by rw[hwa];exact(Yh _ _).alloc (Yb _) _
 have HBa:=Ya (HBr.out.trans (hba.mono HBr.out.size));have HXa:=Ya (HXr.out.below hba);have HYa:=Ya (HYr.out.below hba);have HRra:=Ya (HRr.out.below hba);clear hwa hba;go_wp2_with fail
 refine(HP.out wa (HL.out.on HBa.out) Aq nq cq lq wr.heap.size ⟨HRq2.out.len,HRq2.out.few,HRq2.out.wz⟩ HKa.out (Zdt HYa.out.box)).mono ?_;rintro e wp hp;obtain⟨Ap,np,cp,lp,rfl,hrp,hbp⟩:=Zi1 hp;have HRp:=Ya hrp;have HRrp:=Ya (HRra.out.below hbp);have HBp:=Ya (HBa.out.trans (hbp.mono HBa.out.size));have HXp:=Ya (HXa.out.below hbp);clear hp hrp hbp;go_wp2_with fail
 refine(Zqa Ap np cp wp).mono ?_;rintro e wb ⟨rfl,hwb⟩;have HKb:=Ya (show Zsu wp.heap.size Ap np cp lp wb.heap.size wb by rw[hwb];exact HRp.out.krow);have hbb:Below wp.heap.size wp wb:=by rw[hwb];exact(Yh _ _).alloc (Yb _) _
 have HBb:=Ya (HBp.out.trans (hbb.mono HBp.out.size));have HXb:=Ya (HXp.out.below hbb);have HRrb:=Ya (HRrp.out.below hbb);clear hwb hbb;go_wp2_with fail
 refine(Zqa Ar nr cr wb).mono ?_;rintro e wd ⟨rfl,hwd⟩;have HKd:=Ya (show Zsu wb.heap.size Ar nr cr lr wd.heap.size wd by rw[hwd];exact HRrb.out.krow);have hbd:Below wb.heap.size wb wd:=by rw[hwd];exact(Yh _ _).alloc (Yb _) _
 have HKbd:=Ya (Z2a HKb.out hbd);have HBd:=Ya (HBb.out.trans (hbd.mono HBb.out.size));have HXd:=Ya (HXb.out.below hbd);clear hwd hbd;go_wp2_with fail
 refine(HS.out wd (HL.out.on HBd.out) Ap Ar np cp nr cr lp lr wp.heap.size wb.heap.size ⟨HRp.out.len,HRp.out.few,HRp.out.wz⟩ ⟨HRrb.out.len,HRrb.out.few,HRrb.out.wz⟩ HKbd.out HKd.out).mono ?_;rintro e ws hs;obtain⟨As,ns,cs,ls,rfl,hrs,hbs⟩:=Zi1 hs;have HRs:=Ya hrs;have HBs:=Ya (HBd.out.trans (hbs.mono HBd.out.size));have HXs:=Ya (HXd.out.below hbs);clear hs hrs hbs;go_wp2_with fail
 refine(Zfi ⟨#[48]⟩ ws).mono ?_;rintro e wg ⟨rfl,hwg⟩;have hbg:Below ws.heap.size ws wg:=by rw[hwg];exact(Yh _ _).alloc (Yb _) _
 have HKg:=Ya (show wg.heap[ws.heap.size]?=some (.cells #[.string ⟨#[48]⟩] 9 (0,0)) by rw[hwg];exact heap_alloc_new ws _);have HBg:=Ya (HBs.out.trans (hbg.mono HBs.out.size));have HXg:=Ya (HXs.out.below hbg);have HRsg:=Ya (HRs.out.below hbg);clear hwg hbg;go_wp2_with fail
 refine(HT.out wg (HL.out.on HBg.out) ws.heap.size (Zdt HXg.out.box) (Zdt HKg.out)).mono ?_;rintro e wt ht;obtain⟨At,nt,ct,lt_,rfl,hrt,hbt⟩:=Zi1 ht;have HRt:=Ya hrt;have HRst:=Ya (HRsg.out.below hbt);have HBt:=Ya (HBg.out.trans (hbt.mono HBg.out.size));clear ht hrt hbt;go_wp2_with fail
 refine(Z6r As At ns cs nt ct (-1) ls lt_ HRst.out.len HRt.out.len wt HRst.out.rd HRt.out.rd (by have:=HRst.out.few;omega) (by have:=HRt.out.few;omega)).mono ?_;rintro e wz ⟨rfl,hbz⟩;have hv:S.bf ls (-1) lt_=true:=by
  unfold S.bf;rw[Zxe HRst.out.wz HRt.out.wz];simp
 rw[hv];have HBz:=Ya (HBt.out.trans (hbz.mono HBt.out.size));clear hbz hv;go_wp2_with fail
 refine(Zvy wz (HL.out.on HBz.out)).mono ?_;rintro e we ⟨rfl,hbe⟩;have HBe:=Ya (HBz.out.trans (hbe.mono HBz.out.size));clear hbe;go_wp2_with fail
 go_ret
 exact⟨rfl,HBe.out⟩
end
section
set_option maxRecDepth 100000
open Go.ChangeShapes Go.WideShapes Go.ChangeAt Go.RowKit
section
variable {H:Type}{enc:TypeId×Value->H}{w:World}{base:Nat}{spare:Nat->Bool}{held:Bool}{fuel:Nat}{cs:List Value}{x:DataW H×List MemPlace}
theorem Zv0 {α:Type}[Inhabited α]{t e:TypeId}{sz:Nat}(ht:Tryz.prog.underlying t=some (.slice e))(hc:Tryz.prog.cellsOf e=sz)(hs:0<sz){Rel:List Value->α->Prop}
 (hR:∀n cs' x',DataW.trod enc Tryz.prog w base spare held n e cs'=some x'->∃y,Rel cs' y) (h:DataW.trod enc Tryz.prog w base spare held fuel t cs=some x) :
 ∃(A:Option Addr)(c:Nat)(ys:List α),cs=[.slice A ys.length c]/\ys.length<=c/\ys.length<=maxLen/\(∀y∈ys,∃cs',Rel cs' y)/\(0<ys.length->∃b off,A=some ⟨b,off,none⟩/\b<w.heap.size/\∀(i:Nat)(y:α),ys[i]?=some y->∃cs':List Value,cs'.length=sz/\Rel cs' y/\∀j,j<sz->w.cell? ⟨b,off+i*sz+j,none⟩=cs'[j]?):=by
 rcases Deep.open_slice ht h with⟨hcs,_⟩|⟨a,n,c,m,k,D,Pl,hcs,_,hlc,hcm,hm,hx,hi⟩
 .exact⟨none,0,[],hcs,by simp,by simp,λ y hy=>(by cases hy),λ hp=>by simp at hp⟩
 .rw[hc] at hi
  have hml:n<=m:=by rw[hm];split <;> omega
  have each:∀i,i<n->∃y:α,∃cs':List Value,cs'.length=sz/\Rel cs' y/\∀j,j<sz->w.cell? (a.add (i*sz+j))=cs'[j]?:=by
   intro i hin;obtain⟨cs',hcc,htr⟩:=hi i (by omega);obtain⟨_,hcl,hat⟩:=World.cells?_some hcc;obtain⟨y,hy⟩:=hR _ _ _ htr;exact⟨y,cs',hcl,hy,λ j hj=>by rw[<- Deep.add_add];exact hat j hj⟩
  obtain⟨f,hfi⟩:=Deep.choose_lt each;refine⟨some a,c,(List.range n).map f,by simpa using hcs,by simp;omega,by simp;omega,λ y hy=>?_,λ hp=>?_⟩
  .obtain⟨i,hi2,rfl⟩:=Ycw.1 hy
   obtain⟨cs',_,h2,_⟩:=hfi i (List.mem_range.1 hi2);exact⟨cs',h2⟩
  .have hn:0<n:=by simpa using hp
   obtain⟨b,off,spot⟩:=a;obtain⟨cs0,l0,_,h0⟩:=hfi 0 hn;have h00:=h0 0 hs;rw[Yf (by omega)] at h00;have hspot:spot=none:=by simpa[Addr.add] using World.cell?_spot h00
   subst hspot;refine⟨b,off,rfl,?_,λ i y hy=>?_⟩
   .rw[show(⟨b,off,none⟩:Addr).add (0*sz+0)=⟨b,off,none⟩ by simp[Addr.add]] at h00
    unfold World.cell? at h00
    cases hq:w.heap[b]? with
    | none=>rw[hq] at h00;cases h00
    | some o=>exact(Yv.1 hq).1
   .have hlti:i<n:=by have:=(Yg.1 hy).1;simpa using this
    have hxe:f i=y:=by simpa[hlti] using hy
    subst hxe;obtain⟨cs',l1,l2,l3⟩:=hfi i hlti;exact⟨cs',l1,l2,λ j hj=>by rw[Nat.add_assoc,<- Go.WideShapes.add_plain];exact l3 j hj⟩
theorem Zv1:Tryz.prog.cellsOf 24=2:=by kernel_rfl
theorem Zsr:Tryz.prog.cellsOf 25=1:=by kernel_rfl
theorem Zi2:Tryz.prog.cellsOf 4=1:=by kernel_rfl
theorem Zv2:Tryz.prog.cellsOf 22=1:=by kernel_rfl
theorem Z2b {y:Int}(h:(Lit.int .u16 y).wf=true):0<=y/\y<=65535:=by
 simp[Lit.wf,IntKind.min,IntKind.max,IntKind.signed,IntKind.bits] at h;omega
theorem Zq9 {b0:Nat}{v:Value}{d:DataW H}{ps:List MemPlace}(hval:Value.okWide Tryz.prog w .any b0 24 v)(h:DataW.Trod enc Tryz.prog w base spare held 24 v d ps) :
 ∃(neg:Bool)(A:Option Addr)(c:Nat)(l:List Int),v=.agg #[.bool neg,.slice A l.length c]/\l.length<=c/\l.length<=9223372036854775807/\S.DgB 65536 l/\Reads w w.heap.size A (l.map (Yr .u16)):=by
 obtain⟨fuel,hf⟩:=h;obtain⟨vs,rfl,hsz⟩:=okWide_struct Tryz.underlying24 hval;rw[Zv1] at hsz;obtain⟨l⟩:=vs
 match l,hsz with
 | [v0,v1],_ =>
  have hc:(Value.agg ⟨[v0,v1]⟩).cells.toList=[v0,v1]:=rfl;obtain⟨y0,y1,n,_,hl,h0,h1⟩:=trod_struct2 Tryz.underlying24 hf;rw[hc] at h0 h1;have g0:DataW.trod enc Tryz.prog w base spare held n 4 [v0]=some y0:=by simpa[Zi2] using h0
  have g1:DataW.trod enc Tryz.prog w base spare held n 22 [v1]=some y1:=by simpa[Zi2,Zv2] using h1
  obtain⟨neg,ea,_⟩:=DataW.trod_bool Tryz.underlying4 g0;obtain⟨A,c,l,q1,q2,q3,q4,q5⟩:=Zv0 (α:=Int) Tryz.underlying22 Zsr (by decide) (Rel:=λ cs y=>cs=[.int .u16 y]/\0<=y/\y<=65535) (λ n cs' x' hx=>by
   obtain⟨a,ea,_,wa⟩:=DataW.trod_int Tryz.underlying25 hx;exact⟨a,ea,Z2b wa⟩) g1
  simp only[List.cons.injEq,and_true] at ea q1;subst ea q1;have hml:maxLen=9223372036854775807:=by decide
  rw[hml] at q3;refine⟨neg,A,c,l,rfl,q2,q3,λ y hy=>?_,λ hp=>?_⟩
  .have:=(q4 y hy).choose_spec.2
   omega
  .rw[Yac] at hp
   obtain⟨b,off,e,hb,hcc⟩:=q5 hp;refine⟨b,off,e,hb,λ i y hy=>?_⟩;rw[Y3] at hy;obtain⟨z,hz,rfl⟩:=Option.map_eq_some_iff.1 hy;obtain⟨cs',_,⟨rfl,_,_⟩,hj⟩:=hcc i z hz;have:=hj 0 (by decide);rw[Nat.mul_one,Nat.add_zero] at this;exact this
end
end
