/- Parts. -/
import Derived.Test.YtfhiobkkdcdmiaaGreatDoorZR5A
import Derived.Deep.OwnRows
set_option linter.all false
set_option maxHeartbeats 4000000
open Go.Lib renaming hid->Ya,cell_of_heap->Yc
open Nat renaming le_refl->Yb,lt_of_lt_of_le->Yy,le_succ->Y2,le_trans->Y8,zero_le->Yag,lt_succ_self->Yam,le_of_lt->Ya8
open List renaming length_append->Yd,getD_eq_getElem?_getD->Ye,getElem?_eq_getElem->Yf,length_take->Yq,replicate->Ys,getElem?_map->Y3,length_map->Yac,take_length->Yaf,map_append->Yau,drop_zero->Yaz,take_add_one->Ya4,getElem_mem->Ya7
open Go.RowKit.Below renaming refl->Yh
open Go.IntWalk renaming i64_in->Yk,u32_in->Ya6
open Go.Value renaming int->Yr,oneCell'->Y6
open Array renaming getElem?_eq_some_iff->Yv
open Go.World renaming ownsRow_nil->Yak,cell?_of_block->Yax,ownsRow_lit->Ybs
open Int renaming pow_pos->Yar,eq_ofNat_of_zero_le->Ya1
namespace Go.Proofs.YtfhiobkkdcdmiaaGreatDoor
open Go.RowKit
set_option maxRecDepth 100000
theorem Zgi {b:Int}(l:List Int)(q:Nat):S.dvB b (l.drop q)=l.getD q 0+b*S.dvB b (l.drop (q+1)):=by
 by_cases h:q<l.length
 .rw[List.drop_eq_getElem_cons h,Ye,Yf h]
  rfl
 .rw[List.drop_eq_nil_of_le (by omega),List.drop_eq_nil_of_le (by omega),Ye,List.getElem?_eq_none (by omega)]
  show(0:Int)=0+b*0
  simp
theorem drop_set {l:List Int}{q j:Nat}(x:Int)(h:q<j):(l.set q x).drop j=l.drop j:=by
 rw[List.drop_set,if_pos h]
theorem Ints.take_ {w:World}{B:Nat}{A:Option Addr}{xs:List Int}(h:Ints w B A xs)(m:Nat):Ints w B A (xs.take m):=λ hp=>by
 obtain⟨b,off,e,hb,hc⟩:=h (by rw[Yq] at hp;omega);refine⟨b,off,e,hb,λ i x hx=>hc i x ?_⟩;have hlt:=(List.getElem?_eq_some_iff.1 hx).1;rw[Yq] at hlt;rw[List.getElem?_take_of_lt (by omega)] at hx;exact hx
theorem Ints.block {w w':World}{B g:Nat}{xs:List Int}(h:Ints w B (some ⟨g,0,none⟩) xs)(hb:w'.heap[g]?=w.heap[g]?):Ints w' B (some ⟨g,0,none⟩) xs:=λ hp=>by
 obtain⟨b,off,e,hbB,hc⟩:=h hp
 cases e
 exact⟨g,0,rfl,hbB,λ i x hx=>(Yax (a:=⟨g,0+i,none⟩) hb).trans (hc i x hx)⟩
theorem Zxb (N:Nat):(madeCells #[.int .i64 0] N).toList=(Ys N (0:Int)).map (Yr .i64):=by
 rw[toList_madeCells_one,List.map_replicate]
theorem Zzh {w:World}{base:Nat}(hb:base<=w.heap.size)(N:Nat)(hN:N<=1000000):(w.alloc (.cells (madeCells #[.int .i64 0] N) 3)).ownsRow base 3 1 (.slice (some ⟨w.heap.size,0,none⟩) N N) N ((Ys N (0:Int)).map (Yr .i64)):=by
 have hs:(madeCells #[.int .i64 0] N).size=N:=by simp[madeCells]
 refine⟨by simp,.inr ⟨w.heap.size,N,madeCells #[.int .i64 0] N,rfl,hb,heap_alloc_new w _,Yb _,by simp only[maxLen];omega,by rw[hs,Nat.mul_one],?_⟩⟩;rw[Zxb,List.take_of_length_le (by simp)]
theorem Zzi (A:Option Addr)(N c:Nat)(l:List Int)(n:Int)(hN:N=l.length)(w:World)(B:Nat)(hB:B<=w.heap.size)(h:Ints w B A l)(hl:N<=1000000)(hx:S.Cn 10 l n) :
 Calls Tryz.prog 49 #[.slice A N c] w λ e w'=>∃(m c':Nat)(l':List Int),e=.returned (.tuple #[.slice (some ⟨w.heap.size,0,none⟩) m c',.int .i64 (n%65536)])/\S.Cn 10 l' (n/65536)/\m=l'.length/\m<=N/\Ints w' w'.heap.size (some ⟨w.heap.size,0,none⟩) l'/\Below w.heap.size w w'/\w.heap.size<w'.heap.size:=by
 have HN:=Ya hN;have H:=Ya h;have Hx:=Ya hx;clear hN h hx;have hmk:=run_make_row' (P:=Tryz.prog) 29 3 (.int .i64 0) 8 Tryz.underlying29 Zf7 rfl .i64 .i64 N (by omega) (by omega);have wr0:IntKind.i64.wrap ((N:Int)-1)=(N:Int)-1:=by rw[Yk _ (by omega)]
 go_enter Tryz.func49,Tryz.ntmps49
 go_wp2_with fail
 go_loopw [5,6] (λ v5 v6 wr=>∃(k r:Int)(outs:List Int),-1<=k/\k<N/\v6=.int .i64 k/\v5=.int .i64 r/\(0<=r/\r<65536)/\Hid (outs.length=N)/\Hid (wr.ownsRow w.heap.size 3 1 (.slice (some ⟨w.heap.size,0,none⟩) N N) N (outs.map (Yr .i64)))/\Hid (Below w.heap.size w wr)/\Hid (S.DgB 10 outs)/\Hid (S.dvB 10 (l.drop (k+1).toNat)=65536*S.dvB 10 (outs.drop (k+1).toNat)+r)) (λ _ v6 _=>(intOf v6+1).toNat)
 case atStart =>
  refine⟨(N:Int)-1,0,Ys N 0,by omega,by omega,rfl,rfl,by decide,Ya (by simp),Ya (Zzh (Yb _) N hl),Ya ((Yh _ _).alloc (Yb _) _),Ya (λ d hd=>by rw[List.eq_of_mem_replicate hd];decide),Ya ?_⟩;rw[show((N:Int)-1+1).toNat=N by omega,List.drop_eq_nil_of_le (by rw[<- HN.out];exact Yb _),List.drop_eq_nil_of_le (by simp)];rfl
 case round =>
  obtain⟨k,r,outs,hk0,hk1,rfl,rfl,hr,hol,hown,hbel,hdg,hv⟩:=hrel;by_cases c0:0<=k
  .obtain⟨q,rfl⟩:=Ya1 c0
   have hq:q<N:=by omega
   obtain⟨b,off,hAe,hbB,hc1⟩:=(H.out.below (hbel.out.mono hB)).at_ (k:=q) (by rw[<- HN.out];exact hq);obtain⟨u,hu⟩:∃x,x=l.getD q 0:=⟨_,rfl⟩
   rw[<- hu] at hc1;have Hu:=Ya hu;have hub:=Zfa (by decide) Hx.out.1 q;rw[<- hu] at hub;have e2:IntKind.i64.wrap ((q:Int)-1)=(q:Int)-1:=by rw[Yk _ (by omega)]
   have e3:IntKind.i64.wrap (q:Int)=(q:Int):=by rw[Yk _ (by omega)]
   have i3:(q:Int)<(N:Int):=by omega
   have i4:(0:Int)<=(q:Int):=by omega
   have e4:IntKind.i64.wrap (10*r)=10*r:=by rw[Yk _ (by omega)]
   have e5:IntKind.i64.wrap (10*r+u)=10*r+u:=by rw[Yk _ (by omega)]
   have e6:(10*r+u).tdiv 65536=(10*r+u)/65536:=Int.tdiv_eq_ediv_of_nonneg (by omega);have e7:(10*r+u).tmod 65536=(10*r+u)%65536:=Int.tmod_eq_emod_of_nonneg (by omega);have e8:IntKind.i64.wrap ((10*r+u)/65536)=(10*r+u)/65536:=by rw[Yk _ (by omega)]
   have e9:IntKind.i64.wrap ((10*r+u)%65536)=(10*r+u)%65536:=by rw[Yk _ (by omega)]
   have hql:q<outs.length:=by rw[hol.out];exact hq
   have hcell:=hown.out.cellAt q (by rw[Nat.mul_one];exact hq);rw[Y3,Yf hql,Option.map_some] at hcell;have hfroz:=hown.out.frozenAt q;obtain⟨old,hold⟩:∃x,x=outs[q]:=⟨_,rfl⟩
   rw[<- hold] at hcell;have hst:=hown.out.stored q (.int .i64 ((10*r+u)/65536));have HSt:=Ya hst.1;have HBel:=Ya (hbel.out.setCell (p:=⟨w.heap.size,q,none⟩) (Yb _) (.int .i64 ((10*r+u)/65536)));subst hAe;clear hu hold hst hql;go_wp2_with fail
   go_roundw
   case rel =>
    refine⟨(q:Int)-1,(10*r+u)%65536,outs.set q ((10*r+u)/65536),by omega,by omega,by go_num,rfl,by omega,Ya (by rw[List.length_set];exact hol.out),Ya (by rw[List.map_set];exact HSt.out),HBel,Ya λ d hd=>?_,Ya ?_⟩
    .rcases List.mem_or_eq_of_mem_set hd with h|h
     .exact hdg.out d h
     .rw[h];omega
    .have hv2:=hv.out
     rw[show((q:Int)+1).toNat=q+1 by omega] at hv2;rw[show((q:Int)-1+1).toNat=q by omega,Zgi,Zgi (outs.set q _),drop_set _ (by omega),hv2,<- Hu.out,Zei _ _ _ _ (by rw[hol.out];exact hq),if_pos rfl];generalize S.dvB 10 (List.drop (q+1) outs)=Dq;omega
   case measure=>simp[intOf] <;> omega
  .have ek:k=-1:=by omega
   subst ek;have hv2:=hv.out;rw[show((-1:Int)+1).toNat=0 by decide,Yaz,Yaz,Hx.out.2.2] at hv2;have hdiv:=Zwa (show(0:Int)<65536 by decide) (show n=r+S.dvB 10 outs*65536 by omega) hr.1 hr.2;have HD:=Ya hdiv;have hints:Ints wr wr.heap.size (some ⟨w.heap.size,0,none⟩) outs:=Ints.of_own hown.out;have HI:=Ya hints;clear hv2 hdiv hints;go_wp2_with fail
   refine(Z0r (some ⟨w.heap.size,0,none⟩) N N outs hol.out.symm _ _ HI.out hl (λ h=>by cases h) (Yb _)).mono ?_;rintro e w2 ⟨m,n2,hm,rfl,rfl⟩;have Hm:=Ya hm;clear hm;go_wp2_with fail
   refine bodyPost_ret (v:=.tuple #[.slice (some ⟨w.heap.size,0,none⟩) m N,.int .i64 r]) (by simp[results,Tryz.results49,go_sem]) rfl ?_;have hl2:(outs.take m).length=m:=by rw[Yq];have:=Hm.out.1;omega
   rw[HD.out.1,HD.out.2];exact⟨m,N,outs.take m,rfl,Zjr hdg.out Hm.out,hl2.symm,by have:=Hm.out.1;rw[hol.out] at this;exact this,(HI.out.take_ m).below (below_drewN (Yh _ _) n2),below_drewN hbel.out n2,(hown.out.lt _ rfl).2⟩
def S.bd:Int:=65536^1000
def Zs6:Value->Nat | .slice _ n _=>n|_=>0
theorem Zjn:(Tryz.prog.info? 25).map (λ i=>(i.zero,i.size,i.bytes))=some (some (.int .u16 0),1,2):=by kernel_rfl
theorem Zot {b:Int}(hb:2<=b){l:List Int}{n:Int}(h:S.Cn b l n)(hl:0<l.length):1<=n:=by
 have h1:=Zzo hb h hl;have h2:(0:Int)<b^(l.length-1):=Yar (by omega);omega
theorem Zou {b:Int}{l:List Int}{n:Int}(h:S.Cn b l n)(hl:l.length=0):n=0:=by
 rw[<- h.2.2,List.length_eq_zero_iff.1 hl];rfl
theorem Zzj (neg:Bool)(A:Option Addr)(N c:Nat)(l:List Int)(n:Int)(hN:N=l.length)(w:World)(B:Nat)(hB:B<=w.heap.size)(h:Ints w B A l)(hl:N<=1000000)(hx:S.Cn 10 l n)(hn:n<S.bd) :
 Calls Tryz.prog 19 #[Ze1 neg A N c] w λ e w'=>∃(A':Option Addr)(k c':Nat)(ds:List Int),e=.returned (.slice A' k c')/\k=ds.length/\k<=1000/\S.Cn 65536 ds n/\w'.ownsRow w.heap.size 25 1 (.slice A' k c') k (ds.map (Yr .u16))/\Below w.heap.size w w':=by
 have HN:=Ya hN;have H:=Ya h;have Hx:=Ya hx;have Hn:=Ya hn;clear hN h hx hn;unfold Ze1;go_enter Tryz.func19,Tryz.ntmps19
 go_wp2_with fail
 go_loopw [3,4,5,6] (λ v3 v4 _ _ wr=>∃(A1:Option Addr)(N1 c1:Nat)(l1:List Int)(n1:Int)(A2:Option Addr)(k c2:Nat)(ds:List Int),v4=.slice A1 N1 c1/\v3=.slice A2 k c2/\N1<=N/\Hid (N1=l1.length)/\Hid (Ints wr wr.heap.size A1 l1)/\Hid (S.Cn 10 l1 n1)/\k<=1000/\Hid (k=ds.length)/\Hid (S.DgB 65536 ds)/\Hid (n=S.dvB 65536 ds+65536^k*n1)/\Hid (wr.ownsRow w.heap.size 25 1 (.slice A2 k c2) k (ds.map (Yr .u16)))/\Hid (Below w.heap.size w wr)/\Hid (n1=0->ds=[]\/ds.getD (ds.length-1) 0≠0)) (λ _ v4 _ _ _=>Zs6 v4)
 case atStart =>
  refine⟨A,N,c,l,n,none,0,0,[],rfl,rfl,Yb _,HN,Ya ?_,Hx,by omega,Ya rfl,Ya (λ d hd=>by cases hd),Ya ?_,Ya (Yak _ _ _ _),Ya ((Yh _ _).alloc (Yb _) _),Ya (λ _=>.inl rfl)⟩
  .exact(H.out.below ((Yh _ _).alloc hB _)).more (Y8 hB ((Yh B w).alloc hB _).size)
  .show n=0+1*n
   omega
 case round =>
  obtain⟨A1,N1,c1,l1,n1,A2,k,c2,ds,rfl,rfl,hN1,hl1,hi1,hx1,hk,hkd,hdg,hsum,hown,hbel,hlast⟩:=hrel;by_cases c0:N1=0
  .subst c0
   have hn0:n1=0:=Zou hx1.out hl1.out.symm;have HR:=Ya (show S.Cn 65536 ds n from⟨hdg.out,hlast.out hn0,by rw[hsum.out,hn0,Int.mul_zero,Int.add_zero]⟩);clear hn0;go_wp2_with fail
   go_ret
   exact⟨A2,k,c2,ds,rfl,hkd.out,hk,HR.out,hown.out,hbel.out⟩
  .have d0:decide ((N1:Int)>0)=true:=by simp;omega
   have d1:decide (0<N1)=true:=by simp;omega
   have hpos:=Zot (by decide) hx1.out (by rw[<- hl1.out];omega);have hk1:k+1<=1000:=by
    refine Y_c λ c=>?_
    have hk2:k=1000:=by omega
    have h1:n<65536^1000:=Hn.out;have h2:=hsum.out;rw[hk2] at h2;have h3:=Zas (show(0:Int)<=65536 by decide) hdg.out;have hPp:(0:Int)<65536^1000:=Yar (by decide);generalize (65536:Int)^1000=P at *;have hP:0<=P:=by omega
    have h4:=Int.mul_le_mul_of_nonneg_left hpos hP;omega
   go_wp2_with fail
   refine(Zzi A1 N1 c1 l1 n1 hl1.out _ _ (Yb _) hi1.out (by omega) hx1.out).mono ?_;rintro e w2 ⟨m,c3,l3,rfl,hx3,hl3,hm3,hi3,hb3,hz4⟩;have HX3:=Ya hx3;have HL3:=Ya hl3;have HI3:=Ya hi3;have HB3:=Ya (hbel.out.trans (hb3.mono hbel.out.size));have HO:=Ya (Zd hown.out hb3);have hz:=hbel.out.size;have hz3:=hb3.size;have hmod:0<=n1%65536/\n1%65536<65536:=⟨Int.emod_nonneg _ (by decide),Int.emod_lt_of_pos _ (by decide)⟩
   have hlt:m<N1:=by
    refine Y_c λ c=>?_
    have h1:=Zzo (by decide) hx3 (by omega);have h2:=Z49 (by decide) hx1.out;rw[<- hl1.out] at h2;rw[<- hl3] at h1;have h3:=Zbb (b:=10) (by decide) (show N1-1<=m-1 by omega);have h4:(10:Int)^N1=10*10^(N1-1):=by
     rw[show N1=(N1-1)+1 by omega,Int.pow_succ,Nat.add_sub_cancel,Int.mul_comm]
    have h5:(0:Int)<10^(N1-1):=Yar (by decide);omega
   obtain⟨r,hr⟩:=Yx (n1%65536);rw[<- hr] at hmod⊢;have Hr:=Ya hr;have hw16:IntKind.u16.wrap r=r:=by
    exact IntWalk.u16_in r ⟨hmod.1,by omega⟩
   have Hpos:=Ya hpos;clear hx3 hl3 hi3 hb3 hr hpos;go_wp2_with (at_builtin;refine Zt rfl (.tmp 17) (.tmp 20) _ rfl w.heap.size 25 Zjn Tryz.underlying22 rfl (by decide) #[.int .u16 r] _ _ _ rfl HO.out rfl rfl rfl (by simp[Y6]) (by simp only[maxLen];omega) (by omega) (Y8 hz hz3) ?_;intro v' w7 ho7 hg7 hb7 hat7;obtain⟨A8,c8,rfl⟩:=Zb ho7)
   go_roundw
   case rel =>
    have hz7:=hb7.size;refine⟨_,m,c3,l3,n1/65536,A8,k+1,c8,ds++[r],rfl,rfl,by omega,HL3,Ya ((HI3.out.block (hg7.block wr.heap.size hz4 λ e=>?_)).more hz7),HX3,hk1,Ya (by rw[Yd,<- hkd.out];rfl),Ya (λ d hd=>?_),Ya ?_,Ya (by rw[Yau];exact ho7),Ya (HB3.out.trans hb7),Ya (λ h0=>.inr ?_)⟩
    .have:=(hown.out.lt _ e.symm).2
     omega
    .rcases List.mem_append.1 hd with q|q
     .exact hdg.out d q
     .rw[List.mem_singleton] at q
      rw[q];exact hmod
    .rw[Zrq,<- hkd.out,hsum.out,Hr.out,Int.pow_succ]
     have e:n1=n1%65536+65536*(n1/65536):=by omega
     generalize (65536:Int)^k=P;generalize S.dvB 65536 ds=D;generalize n1/65536=q1 at *;generalize n1%65536=r1 at *;subst e
     grind
    .rw[Yd]
     show(ds++[r]).getD (ds.length+1-1) 0≠0
     rw[Nat.add_sub_cancel,Zl7,if_neg (by omega),Nat.sub_self]
     show r≠0
     have hp:=Hpos.out;rw[Hr.out];omega
   case measure=>exact hlt
structure S.Tz (s:ByteArray)(p:Nat)(neg:Bool)(l:List Int):Prop where
 len:s.size=p+l.length
 pos:0<l.length
 dig:S.DgB 10 l
 at_:∀i (hi:i<s.size),p<=i->((s[i]'hi).toNat:Int)=48+l.getD (s.size-1-i) 0
 sgn:(p=0/\neg=false)\/(p=1/\neg=true/\∀h:0<s.size,((s[0]'h).toNat:Int)=45)\/(p=1/\neg=false/\∀h:0<s.size,((s[0]'h).toNat:Int)=43)
def S.tz (neg:Bool)(l:List Int):Int:=if neg=true then -S.dvB 10 l else S.dvB 10 l
theorem Ints.set {w:World}{B:Nat}{A:Option Addr}{xs:List Int}(h:Ints w B A xs){g o:Nat}(hne:∀b off,A=some ⟨b,off,none⟩->b≠g)(v:Value):Ints (w.setCell ⟨g,o,none⟩ v) B A xs:=λ hp=>by
 obtain⟨b,off,e,hb,hc⟩:=h hp;exact⟨b,off,e,hb,λ i x hx=>(Yax (a:=⟨b,off+i,none⟩) (heap_setCell_other w ⟨g,o,none⟩ b v (hne b off e))).trans (hc i x hx)⟩
theorem Zg2 {w:World}{base:Nat}{e:TypeId}{size n c:Nat}{A:Option Addr}{xs:List Value}(h:w.ownsRow base e size (.slice A n c) n xs):n<=c:=by
 rcases h.2 with⟨_,h1⟩|⟨g,cap,cur,e1,_,_,hnc,_⟩
 .omega
 .cases e1
  exact hnc
theorem Zqf {neg:Bool}{l:List Int}{m:Nat}(hd:S.DgB 10 l)(h:S.Top l m):S.Nz (neg && decide (0<m)) (l.take m) (S.tz neg l):=by
 have h1:=Zjr hd h;have h2:=Zas (show(0:Int)<=10 by decide) hd;have hl:(l.take m).length=m:=by rw[Yq];have:=h.1;omega
 cases neg with
 | false =>
  have e:S.tz false l=S.dvB 10 l:=if_neg (by decide);rw[e];refine⟨?_,?_⟩
  .rw[if_neg (by omega)];exact h1
  .rw[Bool.false_and,decide_eq_false (show ¬S.dvB 10 l<0 by omega)]
 | true =>
  have e:S.tz true l=-S.dvB 10 l:=if_pos rfl;rw[e];by_cases c:m=0
  .have h0:S.dvB 10 l=0:=Zou h1 (by rw[hl];exact c)
   rw[h0] at h1⊢;subst c;exact⟨h1,rfl⟩
  .have h0:1<=S.dvB 10 l:=Zot (by decide) h1 (by omega)
   refine⟨?_,?_⟩
   .rw[if_pos (by omega),Int.neg_neg];exact h1
   .rw[decide_eq_true (show 0<m by omega),decide_eq_true (show -S.dvB 10 l<0 by omega)];rfl
theorem Zqg (s:ByteArray)(p:Nat)(neg:Bool)(l:List Int)(ht:S.Tz s p neg l)(hs:s.size<=1000000)(w:World) :
 Calls Tryz.prog 115 #[.string s] w λ e w'=>∃(neg':Bool)(A:Option Addr)(m c:Nat)(l':List Int),e=.returned (.tuple #[Ze1 neg' A m c,.int .i64 0])/\NumW w' w'.heap.size (S.tz neg l) neg' A m c l'/\Below w.heap.size w w':=by
 have hpos:=ht.pos;have hlen:=ht.len;rcases ht.sgn with⟨rfl,rfl⟩|⟨rfl,rfl,q3⟩|⟨rfl,rfl,q3⟩
 .have h0:0<s.size:=by omega
  have Ht:=Ya (show S.Tz s 0 false l from ht);have hsl:s.size=0+l.length:=ht.len;have Hsl:=Ya hsl;have Hpos:=Ya ht.pos;have hps:=ht.pos;have n0:((s.size:Int)==0)=false:=beq_eq_false_iff_ne.2 (by omega);have n1:((s.size:Int)==0)=false:=beq_eq_false_iff_ne.2 (by omega);have d0:decide ((0:Int)<s.size)=true:=decide_eq_true (by omega);have d1:decide (0<s.size)=true:=decide_eq_true (by omega);have wr0:IntKind.i64.wrap ((s.size:Int)-1)=(s.size:Int)-1:=by rw[Yk _ (by omega)]
  have hc:=ht.at_ 0 h0 (by omega);have hdb:=Zfa (by decide) ht.dig (s.size-1-0);have hf1:(((s[0]'h0).toNat:Int)==45)=false:=by rw[hc];exact beq_eq_false_iff_ne.2 (by omega)
  have hf2:(((s[0]'h0).toNat:Int)==43)=false:=by rw[hc];exact beq_eq_false_iff_ne.2 (by omega)
  clear hc hdb hlen hpos;have hL1:(0:Int)<s.size:=by omega
  clear ht hsl hps;go_enter Tryz.func115,Tryz.ntmps115
  go_wp2_with fail
  go_loopw [6,7] (λ v6 v7 wr=>∃(k:Int)(A2:Option Addr)(q c2:Nat),0-1<=k/\k<s.size/\v7=.int .i64 k/\v6=.slice A2 q c2/\Hid ((q:Int)=s.size-1-k)/\Hid (wr.ownsRow (w.heap.size+1) 3 1 (.slice A2 q c2) q ((l.take q).map (Yr .i64)))/\Hid (Below w.heap.size w wr)/\wr.heap[w.heap.size]?=some (.cells #[.bool false,.slice none 0 0] 31 (0,0))) (λ _ v7 _=>(intOf v7+1).toNat)
  case atStart =>
   exact⟨(s.size:Int)-1,none,0,0,by omega,by omega,rfl,rfl,Ya (by omega),Ya (Yak _ _ _ _),Ya ((Yh _ _).alloc (Yb _) _),heap_alloc_new w _⟩
  case round =>
   obtain⟨k,A2,q,c2,hk0,hk1,rfl,rfl,hq,hown,hbel,hblk⟩:=hrel;have hzb:w.heap.size+1<=wr.heap.size:=(Yv.1 hblk).1;by_cases c0:0<=k
   .obtain⟨i,rfl⟩:=Ya1 (show 0<=k by omega)
    have hi:i<s.size:=by omega
    have hat:=Ht.out.at_ i hi (by omega);have hq2:=hq.out;have hqi:s.size-1-i=q:=by omega
    rw[hqi] at hat;have hdb:=Zfa (by decide) Ht.out.dig q;obtain⟨d,hd⟩:=Yx (l.getD q 0);rw[<- hd] at hat hdb;have Hd:=Ya hd;have hql:q<l.length:=by have:=Hsl.out;omega
    have Htk:=Ya (show l.take (q+1)=l.take q++[d] by rw[Ya4,Yf hql,hd,Ye,Yf hql];rfl);have e2:IntKind.i64.wrap ((i:Int)-1)=(i:Int)-1:=by rw[Yk _ (by omega)]
    have e3:IntKind.u8.wrap (48+d-48)=d:=by rw[IntWalk.u8_in _ (by omega)];omega
    have b1:decide (48+d<48)=false:=decide_eq_false (by omega);have b2:decide (57<48+d)=false:=decide_eq_false (by omega);have b3:decide (48+d>57)=false:=decide_eq_false (by omega);have i3:(i:Int)<(s.size:Int):=by omega
    have hz:=hbel.out.size;have hqb:q<=1000000:=by omega
    clear hd hq2 hqi hql;generalize hch:((s[i]'hi).toNat:Int)=ch at *;subst hat;go_wp2_with (at_builtin;refine Zt rfl (.tmp 51) (.tmp 57) _ rfl (w.heap.size+1) 3 Zf7 Tryz.underlying29 rfl (by decide) #[.int .i64 d] _ _ _ rfl hown.out rfl rfl rfl (by simp[Y6]) (by simp only[maxLen];omega) (by omega) hzb ?_;intro v' w7 ho7 hg7 hb7 hat7;obtain⟨A8,c8,rfl⟩:=Zb ho7)
    go_roundw
    case rel=>exact⟨(i:Int)-1,A8,q+1,c8,by omega,by omega,by go_num,rfl,Ya (by have:=hq.out;omega),Ya (by rw[Htk.out,Yau];exact ho7),Ya (hbel.out.trans (hb7.mono (Y2 _))),(hb7.block w.heap.size (Yam _)).trans hblk⟩
    case measure=>simp[intOf] <;> omega
   .have ek:k=0-1:=by omega
    have hql:q=l.length:=by have:=hq.out;have:=Hsl.out;omega
    have HQ:=Ya hql;have hqb:q<=1000000:=by have:=Hsl.out;omega
    have HI:=Ya (show Ints wr wr.heap.size A2 l from by
     have h:=Ints.of_own hown.out;rw[hql,Yaf] at h;exact h)
    have Hnil:=Ya (Zgk hown.out);have Hcap:=Ya (Zg2 hown.out);subst ek;clear hql;go_wp2_with fail
    refine(Zxf false A2 q c2 l HQ.out wr wr.heap.size HI.out (Yb _) hqb Hnil.out Hcap.out).mono ?_;rintro e w2 ⟨m,hm,rfl,hb2⟩;have Hm:=Ya hm;have HB2:=Ya hb2;have hz2:=hb2.size;have hblk2:=(hb2.block w.heap.size hzb).trans hblk;have hc0:w2.cell? ⟨w.heap.size,0,none⟩=some (.bool false):=by rw[Yc hblk2];rfl
    have hc1:w2.cell? ⟨w.heap.size,1,none⟩=some (.slice none 0 0):=by rw[Yc hblk2];rfl
    have hz0:w2.frozen? ⟨w.heap.size,0,none⟩=false:=frozen_of_row w2 w.heap.size 0 _ _ hblk2;have hz1:w2.frozen? ⟨w.heap.size,1,none⟩=false:=frozen_of_row w2 w.heap.size 1 _ _ hblk2;clear hm hb2;unfold Ze1;go_wp2_with fail
    have hne:∀b off,A2=some ⟨b,off,none⟩->b≠w.heap.size:=λ b off e=>by
     subst e;have:=(hown.out.lt b rfl).1;omega
    refine bodyPost_ret (v:=.tuple #[Ze1 (false && decide (0<m)) A2 m c2,.int .i64 0]) (by simp[results,Tryz.results115,go_sem,Ze1,hc0,hc1]) rfl ?_;have hl2:(l.take m).length=m:=by rw[Yq];have:=Hm.out.1;omega
    have hml:=Hm.out.1;refine⟨_,A2,m,c2,l.take m,rfl,⟨Zqf Ht.out.dig Hm.out,hl2.symm,by rw[<- HQ.out] at hml;omega,?_,λ e=>by have:=Hnil.out e;rw[<- HQ.out] at hml;omega,by have:=Hcap.out;rw[<- HQ.out] at hml;omega⟩,?_⟩
    .exact((((HI.out.take_ m).below HB2.out).set hne _).set hne _).more (Y8 hz2 (((Yh 0 w2).setCell (Yag _) _).setCell (Yag _) _).size)
    .exact((hbel.out.trans (HB2.out.mono hbel.out.size)).setCell (Yb _) _).setCell (Yb _) _
 .have h0:0<s.size:=by omega
  have Ht:=Ya (show S.Tz s 1 true l from ht);have hsl:s.size=1+l.length:=ht.len;have Hsl:=Ya hsl;have Hpos:=Ya ht.pos;have hps:=ht.pos;have n0:((s.size:Int)==0)=false:=beq_eq_false_iff_ne.2 (by omega);have n1:((s.size:Int)==1)=false:=beq_eq_false_iff_ne.2 (by omega);have d0:decide ((0:Int)<s.size)=true:=decide_eq_true (by omega);have d1:decide (0<s.size)=true:=decide_eq_true (by omega);have wr0:IntKind.i64.wrap ((s.size:Int)-1)=(s.size:Int)-1:=by rw[Yk _ (by omega)]
  have hf1:(((s[0]'h0).toNat:Int)==45)=true:=by rw[q3 h0];rfl
  clear q3 hlen hpos;have hL1:(1:Int)<s.size:=by omega
  clear ht hsl hps;go_enter Tryz.func115,Tryz.ntmps115
  go_wp2_with fail
  go_loopw [6,7] (λ v6 v7 wr=>∃(k:Int)(A2:Option Addr)(q c2:Nat),1-1<=k/\k<s.size/\v7=.int .i64 k/\v6=.slice A2 q c2/\Hid ((q:Int)=s.size-1-k)/\Hid (wr.ownsRow (w.heap.size+1) 3 1 (.slice A2 q c2) q ((l.take q).map (Yr .i64)))/\Hid (Below w.heap.size w wr)/\wr.heap[w.heap.size]?=some (.cells #[.bool false,.slice none 0 0] 31 (0,0))) (λ _ v7 _=>(intOf v7+1).toNat)
  case atStart =>
   exact⟨(s.size:Int)-1,none,0,0,by omega,by omega,rfl,rfl,Ya (by omega),Ya (Yak _ _ _ _),Ya ((Yh _ _).alloc (Yb _) _),heap_alloc_new w _⟩
  case round =>
   obtain⟨k,A2,q,c2,hk0,hk1,rfl,rfl,hq,hown,hbel,hblk⟩:=hrel;have hzb:w.heap.size+1<=wr.heap.size:=(Yv.1 hblk).1;by_cases c0:1<=k
   .obtain⟨i,rfl⟩:=Ya1 (show 0<=k by omega)
    have hi:i<s.size:=by omega
    have hat:=Ht.out.at_ i hi (by omega);have hq2:=hq.out;have hqi:s.size-1-i=q:=by omega
    rw[hqi] at hat;have hdb:=Zfa (by decide) Ht.out.dig q;obtain⟨d,hd⟩:=Yx (l.getD q 0);rw[<- hd] at hat hdb;have Hd:=Ya hd;have hql:q<l.length:=by have:=Hsl.out;omega
    have Htk:=Ya (show l.take (q+1)=l.take q++[d] by rw[Ya4,Yf hql,hd,Ye,Yf hql];rfl);have e2:IntKind.i64.wrap ((i:Int)-1)=(i:Int)-1:=by rw[Yk _ (by omega)]
    have e3:IntKind.u8.wrap (48+d-48)=d:=by rw[IntWalk.u8_in _ (by omega)];omega
    have b1:decide (48+d<48)=false:=decide_eq_false (by omega);have b2:decide (57<48+d)=false:=decide_eq_false (by omega);have b3:decide (48+d>57)=false:=decide_eq_false (by omega);have i3:(i:Int)<(s.size:Int):=by omega
    have hz:=hbel.out.size;have hqb:q<=1000000:=by omega
    clear hd hq2 hqi hql;generalize hch:((s[i]'hi).toNat:Int)=ch at *;subst hat;go_wp2_with (at_builtin;refine Zt rfl (.tmp 51) (.tmp 57) _ rfl (w.heap.size+1) 3 Zf7 Tryz.underlying29 rfl (by decide) #[.int .i64 d] _ _ _ rfl hown.out rfl rfl rfl (by simp[Y6]) (by simp only[maxLen];omega) (by omega) hzb ?_;intro v' w7 ho7 hg7 hb7 hat7;obtain⟨A8,c8,rfl⟩:=Zb ho7)
    go_roundw
    case rel=>exact⟨(i:Int)-1,A8,q+1,c8,by omega,by omega,by go_num,rfl,Ya (by have:=hq.out;omega),Ya (by rw[Htk.out,Yau];exact ho7),Ya (hbel.out.trans (hb7.mono (Y2 _))),(hb7.block w.heap.size (Yam _)).trans hblk⟩
    case measure=>simp[intOf] <;> omega
   .have ek:k=1-1:=by omega
    have hql:q=l.length:=by have:=hq.out;have:=Hsl.out;omega
    have HQ:=Ya hql;have hqb:q<=1000000:=by have:=Hsl.out;omega
    have HI:=Ya (show Ints wr wr.heap.size A2 l from by
     have h:=Ints.of_own hown.out;rw[hql,Yaf] at h;exact h)
    have Hnil:=Ya (Zgk hown.out);have Hcap:=Ya (Zg2 hown.out);subst ek;clear hql;go_wp2_with fail
    refine(Zxf true A2 q c2 l HQ.out wr wr.heap.size HI.out (Yb _) hqb Hnil.out Hcap.out).mono ?_;rintro e w2 ⟨m,hm,rfl,hb2⟩;have Hm:=Ya hm;have HB2:=Ya hb2;have hz2:=hb2.size;have hblk2:=(hb2.block w.heap.size hzb).trans hblk;have hc0:w2.cell? ⟨w.heap.size,0,none⟩=some (.bool false):=by rw[Yc hblk2];rfl
    have hc1:w2.cell? ⟨w.heap.size,1,none⟩=some (.slice none 0 0):=by rw[Yc hblk2];rfl
    have hz0:w2.frozen? ⟨w.heap.size,0,none⟩=false:=frozen_of_row w2 w.heap.size 0 _ _ hblk2;have hz1:w2.frozen? ⟨w.heap.size,1,none⟩=false:=frozen_of_row w2 w.heap.size 1 _ _ hblk2;clear hm hb2;unfold Ze1;go_wp2_with fail
    have hne:∀b off,A2=some ⟨b,off,none⟩->b≠w.heap.size:=λ b off e=>by
     subst e;have:=(hown.out.lt b rfl).1;omega
    refine bodyPost_ret (v:=.tuple #[Ze1 (true && decide (0<m)) A2 m c2,.int .i64 0]) (by simp[results,Tryz.results115,go_sem,Ze1,hc0,hc1]) rfl ?_;have hl2:(l.take m).length=m:=by rw[Yq];have:=Hm.out.1;omega
    have hml:=Hm.out.1;refine⟨_,A2,m,c2,l.take m,rfl,⟨Zqf Ht.out.dig Hm.out,hl2.symm,by rw[<- HQ.out] at hml;omega,?_,λ e=>by have:=Hnil.out e;rw[<- HQ.out] at hml;omega,by have:=Hcap.out;rw[<- HQ.out] at hml;omega⟩,?_⟩
    .exact((((HI.out.take_ m).below HB2.out).set hne _).set hne _).more (Y8 hz2 (((Yh 0 w2).setCell (Yag _) _).setCell (Yag _) _).size)
    .exact((hbel.out.trans (HB2.out.mono hbel.out.size)).setCell (Yb _) _).setCell (Yb _) _
 .have h0:0<s.size:=by omega
  have Ht:=Ya (show S.Tz s 1 false l from ht);have hsl:s.size=1+l.length:=ht.len;have Hsl:=Ya hsl;have Hpos:=Ya ht.pos;have hps:=ht.pos;have n0:((s.size:Int)==0)=false:=beq_eq_false_iff_ne.2 (by omega);have n1:((s.size:Int)==1)=false:=beq_eq_false_iff_ne.2 (by omega);have d0:decide ((0:Int)<s.size)=true:=decide_eq_true (by omega);have d1:decide (0<s.size)=true:=decide_eq_true (by omega);have wr0:IntKind.i64.wrap ((s.size:Int)-1)=(s.size:Int)-1:=by rw[Yk _ (by omega)]
  have hf1:(((s[0]'h0).toNat:Int)==45)=false:=by rw[q3 h0];rfl
  have hf2:(((s[0]'h0).toNat:Int)==43)=true:=by rw[q3 h0];rfl
  clear q3 hlen hpos;have hL1:(1:Int)<s.size:=by omega
  clear ht hsl hps;go_enter Tryz.func115,Tryz.ntmps115
  go_wp2_with fail
  go_loopw [6,7] (λ v6 v7 wr=>∃(k:Int)(A2:Option Addr)(q c2:Nat),1-1<=k/\k<s.size/\v7=.int .i64 k/\v6=.slice A2 q c2/\Hid ((q:Int)=s.size-1-k)/\Hid (wr.ownsRow (w.heap.size+1) 3 1 (.slice A2 q c2) q ((l.take q).map (Yr .i64)))/\Hid (Below w.heap.size w wr)/\wr.heap[w.heap.size]?=some (.cells #[.bool false,.slice none 0 0] 31 (0,0))) (λ _ v7 _=>(intOf v7+1).toNat)
  case atStart =>
   exact⟨(s.size:Int)-1,none,0,0,by omega,by omega,rfl,rfl,Ya (by omega),Ya (Yak _ _ _ _),Ya ((Yh _ _).alloc (Yb _) _),heap_alloc_new w _⟩
  case round =>
   obtain⟨k,A2,q,c2,hk0,hk1,rfl,rfl,hq,hown,hbel,hblk⟩:=hrel;have hzb:w.heap.size+1<=wr.heap.size:=(Yv.1 hblk).1;by_cases c0:1<=k
   .obtain⟨i,rfl⟩:=Ya1 (show 0<=k by omega)
    have hi:i<s.size:=by omega
    have hat:=Ht.out.at_ i hi (by omega);have hq2:=hq.out;have hqi:s.size-1-i=q:=by omega
    rw[hqi] at hat;have hdb:=Zfa (by decide) Ht.out.dig q;obtain⟨d,hd⟩:=Yx (l.getD q 0);rw[<- hd] at hat hdb;have Hd:=Ya hd;have hql:q<l.length:=by have:=Hsl.out;omega
    have Htk:=Ya (show l.take (q+1)=l.take q++[d] by rw[Ya4,Yf hql,hd,Ye,Yf hql];rfl);have e2:IntKind.i64.wrap ((i:Int)-1)=(i:Int)-1:=by rw[Yk _ (by omega)]
    have e3:IntKind.u8.wrap (48+d-48)=d:=by rw[IntWalk.u8_in _ (by omega)];omega
    have b1:decide (48+d<48)=false:=decide_eq_false (by omega);have b2:decide (57<48+d)=false:=decide_eq_false (by omega);have b3:decide (48+d>57)=false:=decide_eq_false (by omega);have i3:(i:Int)<(s.size:Int):=by omega
    have hz:=hbel.out.size;have hqb:q<=1000000:=by omega
    clear hd hq2 hqi hql;generalize hch:((s[i]'hi).toNat:Int)=ch at *;subst hat;go_wp2_with (at_builtin;refine Zt rfl (.tmp 51) (.tmp 57) _ rfl (w.heap.size+1) 3 Zf7 Tryz.underlying29 rfl (by decide) #[.int .i64 d] _ _ _ rfl hown.out rfl rfl rfl (by simp[Y6]) (by simp only[maxLen];omega) (by omega) hzb ?_;intro v' w7 ho7 hg7 hb7 hat7;obtain⟨A8,c8,rfl⟩:=Zb ho7)
    go_roundw
    case rel=>exact⟨(i:Int)-1,A8,q+1,c8,by omega,by omega,by go_num,rfl,Ya (by have:=hq.out;omega),Ya (by rw[Htk.out,Yau];exact ho7),Ya (hbel.out.trans (hb7.mono (Y2 _))),(hb7.block w.heap.size (Yam _)).trans hblk⟩
    case measure=>simp[intOf] <;> omega
   .have ek:k=1-1:=by omega
    have hql:q=l.length:=by have:=hq.out;have:=Hsl.out;omega
    have HQ:=Ya hql;have hqb:q<=1000000:=by have:=Hsl.out;omega
    have HI:=Ya (show Ints wr wr.heap.size A2 l from by
     have h:=Ints.of_own hown.out;rw[hql,Yaf] at h;exact h)
    have Hnil:=Ya (Zgk hown.out);have Hcap:=Ya (Zg2 hown.out);subst ek;clear hql;go_wp2_with fail
    refine(Zxf false A2 q c2 l HQ.out wr wr.heap.size HI.out (Yb _) hqb Hnil.out Hcap.out).mono ?_;rintro e w2 ⟨m,hm,rfl,hb2⟩;have Hm:=Ya hm;have HB2:=Ya hb2;have hz2:=hb2.size;have hblk2:=(hb2.block w.heap.size hzb).trans hblk;have hc0:w2.cell? ⟨w.heap.size,0,none⟩=some (.bool false):=by rw[Yc hblk2];rfl
    have hc1:w2.cell? ⟨w.heap.size,1,none⟩=some (.slice none 0 0):=by rw[Yc hblk2];rfl
    have hz0:w2.frozen? ⟨w.heap.size,0,none⟩=false:=frozen_of_row w2 w.heap.size 0 _ _ hblk2;have hz1:w2.frozen? ⟨w.heap.size,1,none⟩=false:=frozen_of_row w2 w.heap.size 1 _ _ hblk2;clear hm hb2;unfold Ze1;go_wp2_with fail
    have hne:∀b off,A2=some ⟨b,off,none⟩->b≠w.heap.size:=λ b off e=>by
     subst e;have:=(hown.out.lt b rfl).1;omega
    refine bodyPost_ret (v:=.tuple #[Ze1 (false && decide (0<m)) A2 m c2,.int .i64 0]) (by simp[results,Tryz.results115,go_sem,Ze1,hc0,hc1]) rfl ?_;have hl2:(l.take m).length=m:=by rw[Yq];have:=Hm.out.1;omega
    have hml:=Hm.out.1;refine⟨_,A2,m,c2,l.take m,rfl,⟨Zqf Ht.out.dig Hm.out,hl2.symm,by rw[<- HQ.out] at hml;omega,?_,λ e=>by have:=Hnil.out e;rw[<- HQ.out] at hml;omega,by have:=Hcap.out;rw[<- HQ.out] at hml;omega⟩,?_⟩
    .exact((((HI.out.take_ m).below HB2.out).set hne _).set hne _).more (Y8 hz2 (((Yh 0 w2).setCell (Yag _) _).setCell (Yag _) _).size)
    .exact((hbel.out.trans (HB2.out.mono hbel.out.size)).setCell (Yb _) _).setCell (Yb _) _
theorem Zqh {b:Int}(hb:1<=b){l:List Int}(hd:S.DgB b l)(q:Nat):0<=S.dvB b (l.drop q)/\S.dvB b (l.drop q)<=S.dvB b l:=by
 have h1:=Zas (show 0<=b by omega) (l:=l.drop q) λ d hd2=>hd d (List.mem_of_mem_drop hd2)
 refine⟨h1,?_⟩;by_cases c:q<=l.length
 .have e:S.dvB b l=S.dvB b (l.take q++l.drop q):=by rw[List.take_append_drop]
  rw[Zjq] at e;have h2:=Zas (show 0<=b by omega) (Zmg hd q);have h3:(0:Int)<b^(l.take q).length:=Yar (by omega);have h4:=Int.mul_le_mul_of_nonneg_right (show 1<=b^(l.take q).length by omega) h1;omega
 .rw[List.drop_eq_nil_of_le (by omega)]
  exact Zas (by omega) hd
theorem Z25 (neg:Bool)(A:Option Addr)(N c:Nat)(l:List Int)(z:Int)(w:World)(B:Nat)(hB:B<=w.heap.size)(h:NumW w B z neg A N c l)(hz:-1000000000000000000<=z/\z<=1000000000000000000) :
 Calls Tryz.prog 51 #[Ze1 neg A N c] w λ e w'=>e=.returned (.int .i64 z)/\Below w.heap.size w w':=by
 have H:=Ya h;obtain⟨⟨hx,hs⟩,hN,hf,hat,_,_⟩:=h;have HN:=Ya hN;have Hx:=Ya hx;have Hs:=Ya hs;have hnb:(if z<0 then -z else z)<=1000000000000000000:=by split <;> omega
 obtain⟨n,hn⟩:∃n,n=(if z<0 then -z else z):=⟨_,rfl⟩
 rw[<- hn] at hnb;have Hn:=Ya hn;have hdr:=λ q=>Zqh (show(1:Int)<=10 by decide) hx.1 q
 have Hdr:=Ya hdr;have Hv:=Ya (show S.dvB 10 l=n by rw[hx.2.2,hn]);clear hx hs hN hat hn hdr;have wr0:IntKind.i64.wrap ((N:Int)-1)=(N:Int)-1:=by rw[Yk _ (by omega)]
 unfold Ze1;go_enter Tryz.func51,Tryz.ntmps51
 go_wp2_with fail
 go_loopw [3,4] (λ v3 v4 wr=>∃k v:Int,-1<=k/\k<N/\v4=.int .i64 k/\v3=.int .i64 v/\Hid (v=S.dvB 10 (l.drop (k+1).toNat))/\∃q,wr=(w.alloc (.cells #[.bool neg,.slice A N c] 31)).drewN q) (λ _ v4 _=>(intOf v4+1).toNat)
 case atStart =>
  refine⟨(N:Int)-1,0,by omega,by omega,rfl,rfl,Ya ?_,0,rfl⟩;rw[show((N:Int)-1+1).toNat=N by omega,List.drop_eq_nil_of_le (by rw[<- HN.out];exact Yb _)];rfl
 case round =>
  obtain⟨k,v,hk0,hk1,rfl,rfl,hv,q0,rfl⟩:=hrel;by_cases c0:0<=k
  .obtain⟨q,rfl⟩:=Ya1 c0
   have hq:q<N:=by omega
   obtain⟨b,off,hAe,hbB,hc1⟩:=H.out.at_.at_ (k:=q) (by rw[<- HN.out];exact hq);obtain⟨u,hu⟩:∃x,x=l.getD q 0:=⟨_,rfl⟩
   rw[<- hu] at hc1;have Hu:=Ya hu;have hub:=Zfa (by decide) Hx.out.1 q;rw[<- hu] at hub;have hd1:=Hdr.out q;have hd2:=Hdr.out (q+1);have hd3:=Zgi (b:=10) l q;have hv2:=hv.out;rw[show((q:Int)+1).toNat=q+1 by omega] at hv2;have hnx:=Ya (show 10*v+u=S.dvB 10 (l.drop q) by omega);have hb1:0<=10*v+u/\10*v+u<=1000000000000000000:=by have:=Hv.out;omega
   have hb2:0<=v:=by omega
   have e2:IntKind.i64.wrap ((q:Int)-1)=(q:Int)-1:=by rw[Yk _ (by omega)]
   have e3:IntKind.i64.wrap (q:Int)=(q:Int):=by rw[Yk _ (by omega)]
   have i3:(q:Int)<(N:Int):=by omega
   have i4:(0:Int)<=(q:Int):=by omega
   have e4:IntKind.i64.wrap (10*v)=10*v:=by rw[Yk _ (by omega)]
   have e5:IntKind.i64.wrap (10*v+u)=10*v+u:=by rw[Yk _ (by omega)]
   have hc2:(w.alloc (.cells #[.bool neg,.slice A N c] 31)).cell? ⟨b,off+q,none⟩=some (.int .i64 u):=(((Yh B w).alloc hB _).cell (p:=⟨b,off+q,none⟩) hbB).trans hc1;have hbw:b<w.heap.size:=by omega
   subst hAe;clear hu hd1 hd2 hd3 hv2;go_wp2_with fail
   go_roundw
   case rel =>
    refine⟨(q:Int)-1,10*v+u,by omega,by omega,by go_num,rfl,Ya ?_,_,rfl⟩;rw[hnx.out,show((q:Int)-1+1).toNat=q by omega]
   case measure=>simp[intOf] <;> omega
  .have ek:k=-1:=by omega
   subst ek;have hvn:v=n:=by
    have:=hv.out;rw[show((-1:Int)+1).toNat=0 by decide,Yaz,Hv.out] at this;exact this
   have e4:IntKind.i64.wrap (-v)=-v:=by rw[Yk _ (by have:=(Zas (show(0:Int)<=10 by decide) Hx.out.1);have:=Hv.out;omega)]
   have HV:=Ya hvn;clear hvn
   cases neg with
   | false =>
    have Hr:=Ya (show v=z by rw[HV.out,Hn.out,if_neg (of_decide_eq_false Hs.out.symm)]);go_wp2_with fail
    go_ret
    exact⟨by rw[<- Hr.out];rfl,by repeat (first|exact(Yh _ _).alloc (Yb _) _|refine below_drewN ?_ _)⟩
   | true =>
    have Hr:=Ya (show -v=z by rw[HV.out,Hn.out,if_pos (of_decide_eq_true Hs.out.symm),Int.neg_neg]);go_wp2_with fail
    go_ret
    exact⟨by rw[<- Hr.out];rfl,by repeat (first|exact(Yh _ _).alloc (Yb _) _|refine below_drewN ?_ _)⟩
theorem Zzk (s1 s2:ByteArray)(p1 p2:Nat)(n1 n2:Bool)(k1 k2:List Int)(ht1:S.Tz s1 p1 n1 k1)(ht2:S.Tz s2 p2 n2 k2)(hs1:s1.size<=1000000)(hs2:s2.size<=1000000)(neg:Bool)(A:Option Addr)(N c:Nat)(l:List Int)(z:Int)(w:World)(B:Nat)(hB:B<=w.heap.size)(h:NumW w B z neg A N c l) :
 Calls Tryz.prog 50 #[Ze1 neg A N c,.string s1,.string s2] w λ e w'=>e=.returned (.bool (decide (S.tz n1 k1<=z) && decide (z<=S.tz n2 k2)))/\Below w.heap.size w w':=by
 have H:=Ya h;have H1:=Ya ht1;have H2:=Ya ht2;clear h ht1 ht2;unfold Ze1;go_enter Tryz.func50,Tryz.ntmps50
 go_wp2_with fail
 refine(Zqg s1 p1 n1 k1 H1.out hs1 _).mono ?_;rintro e w1 ⟨neg1,A1,m1,c1,l1,rfl,hn1,hb1⟩;have HN1:=Ya hn1;have hq0:=(Yh w.heap.size w).alloc (Yb _) (.cells #[.bool neg,.slice A N c] 31);have hsz0:w.heap.size<(w.alloc (.cells #[.bool neg,.slice A N c] 31)).heap.size:=by simp
 have HB1:=Ya (hq0.trans (hb1.mono (Ya8 hsz0)));have hx1:=(hb1.block w.heap.size hsz0).trans (heap_alloc_new w _);have hz1:w.heap.size<w1.heap.size:=Yy hsz0 hb1.size;clear hn1 hb1;unfold Ze1;go_wp2_with fail
 refine(Zqg s2 p2 n2 k2 H2.out hs2 _).mono ?_;rintro e w2 ⟨neg2,A2,m2,c2,l2,rfl,hn2,hb2⟩;have HN2:=Ya hn2;have hq1:=(Yh w1.heap.size w1).alloc (Yb _) (.cells #[.bool neg1,.slice A1 m1 c1] 31);have hsz1:w1.heap.size<(w1.alloc (.cells #[.bool neg1,.slice A1 m1 c1] 31)).heap.size:=by simp
 have HB12:=Ya (hq1.trans (hb2.mono (Ya8 hsz1)));have hx2:=(hb2.block w1.heap.size hsz1).trans (heap_alloc_new w1 _);have hx1':=(HB12.out.block w.heap.size hz1).trans hx1;have hz2:w1.heap.size<w2.heap.size:=Yy hsz1 hb2.size;have q00:w2.cell? ⟨w.heap.size,0,none⟩=some (.bool neg):=by rw[Yc hx1'];rfl
 have q01:w2.cell? ⟨w.heap.size,1,none⟩=some (.slice A N c):=by rw[Yc hx1'];rfl
 have q10:w2.cell? ⟨w1.heap.size,0,none⟩=some (.bool neg1):=by rw[Yc hx2];rfl
 have q11:w2.cell? ⟨w1.heap.size,1,none⟩=some (.slice A1 m1 c1):=by rw[Yc hx2];rfl
 have hzz:w.heap.size<w2.heap.size:=by omega
 have hal:=(Yh w2.heap.size w2).alloc (Yb _) (.cells #[.bool neg2,.slice A2 m2 c2] 31);have HAL:=Ya hal;have HB3:=Ya (HB1.out.trans ((HB12.out.trans (hal.mono (Ya8 hz2))).mono (Ya8 hz1)));have K0:=Ya ((H.out.below (HB3.out.mono hB)).more (Y8 hB HB3.out.size));have K1:=Ya ((HN1.out.below (HB12.out.trans (hal.mono (Ya8 hz2)))).more (HB12.out.trans (hal.mono (Ya8 hz2))).size);have K2:=Ya ((HN2.out.below hal).more hal.size);clear hn2 hb2 hq1 hx1 hx1' hx2 hsz1 hsz0 hq0 hal;unfold Ze1;go_wp2_with fail
 refine(Z5b neg neg1 A A1 N c m1 c1 l l1 z _ _ _ (Yb _) K0.out K1.out).mono ?_;rintro e w4 ⟨rfl,hb4⟩;have hx3:=(hb4.block w2.heap.size (by simp)).trans (heap_alloc_new w2 (.cells #[.bool neg2,.slice A2 m2 c2] 31));have hx0:=(hb4.cell (p:=⟨w.heap.size,0,none⟩) (by show w.heap.size<_;simp;omega)).trans ((HAL.out.cell (p:=⟨w.heap.size,0,none⟩) hzz).trans q00);have hx1:=(hb4.cell (p:=⟨w.heap.size,1,none⟩) (by show w.heap.size<_;simp;omega)).trans ((HAL.out.cell (p:=⟨w.heap.size,1,none⟩) hzz).trans q01);have s0:w4.cell? ⟨w2.heap.size,0,none⟩=some (.bool neg2):=by rw[Yc hx3];rfl
 have s1:w4.cell? ⟨w2.heap.size,1,none⟩=some (.slice A2 m2 c2):=by rw[Yc hx3];rfl
 have HB4:=Ya (Zca HB3.out hb4 HB3.out.size);have K0':=Ya ((K0.out.below hb4).more hb4.size);have K2':=Ya ((K2.out.below hb4).more hb4.size);clear hx3 q00 q01 q10 q11 hb4;by_cases c1':S.tz n1 k1<=z
 .have d1:decide (S.ab z (S.tz n1 k1)>=0)=true:=by
   unfold S.ab
   split
   .omega
   .split <;> simp
  have D1:=Ya (show decide (S.tz n1 k1<=z)=true from decide_eq_true c1');clear c1';generalize S.ab z (S.tz n1 k1)=o1 at *;go_wp2_with fail
  refine(Z5b neg neg2 A A2 N c m2 c2 l l2 z _ _ _ (Yb _) K0'.out K2'.out).mono ?_;rintro e w5 ⟨rfl,hb5⟩;have HB5:=Ya (Zca HB4.out hb5 HB4.out.size);have d2:decide (S.ab z (S.tz n2 k2)<=0)=decide (z<=S.tz n2 k2):=by
   unfold S.ab
   split
   .simp;omega
   .split
    .simp;omega
    .simp;omega
  have D2:=Ya d2;clear hb5 d2;generalize S.ab z (S.tz n2 k2)=o2 at *;go_wp2_with fail
  go_ret
  refine⟨?_,HB5.out⟩;rw[D1.out,<- D2.out];rfl
 .have d1:decide (S.ab z (S.tz n1 k1)>=0)=false:=by
   unfold S.ab;rw[if_pos (by omega)];rfl
  have D1:=Ya (show decide (S.tz n1 k1<=z)=false from decide_eq_false c1');clear c1';generalize S.ab z (S.tz n1 k1)=o1 at *;go_wp2_with fail
  go_ret
  refine⟨?_,HB4.out⟩;rw[D1.out];rfl
def S.bj:ByteArray:=⟨#[45,53,51,54,56,55,48,57,49,50]⟩
def S.bq:ByteArray:=⟨#[53,51,54,56,55,48,57,49,49]⟩
theorem tz_least:S.Tz S.bj 1 true [2,1,9,0,7,8,6,3,5]/\S.tz true [2,1,9,0,7,8,6,3,5]=-536870912:=by
 refine⟨⟨rfl,by decide,(λ d hd=>by simp at hd;rcases hd with rfl|rfl|rfl|rfl|rfl|rfl|rfl|rfl|rfl <;> decide),λ i hi h=>?_,.inr (.inl ⟨rfl,rfl,λ h=>rfl⟩)⟩,by decide⟩;have h2:i<10:=hi;have:i=1\/i=2\/i=3\/i=4\/i=5\/i=6\/i=7\/i=8\/i=9:=by omega
 rcases this with rfl|rfl|rfl|rfl|rfl|rfl|rfl|rfl|rfl <;> rfl
theorem tz_most:S.Tz S.bq 0 false [1,1,9,0,7,8,6,3,5]/\S.tz false [1,1,9,0,7,8,6,3,5]=536870911:=by
 refine⟨⟨rfl,by decide,(λ d hd=>by simp at hd;rcases hd with rfl|rfl|rfl|rfl|rfl|rfl|rfl|rfl <;> decide),λ i hi h=>?_,.inl ⟨rfl,rfl⟩⟩,by decide⟩;have h2:i<9:=hi;have:i=0\/i=1\/i=2\/i=3\/i=4\/i=5\/i=6\/i=7\/i=8:=by omega
 rcases this with rfl|rfl|rfl|rfl|rfl|rfl|rfl|rfl|rfl <;> rfl
theorem Zjo:(Tryz.prog.info? 37).map (λ i=>(i.zero,i.size,i.bytes))=some (some (.int .u32 0),1,4):=by kernel_rfl
def Zgj (z:Int)(w:World)(e:Ending)(w':World):Prop:=∃(A':Option Addr)(n c':Nat)(ws:List Int),e=.returned (.tuple #[.slice A' n c',.bool (decide (-536870912<=z) && decide (z<=536870911))])/\S.Wz z ws/\n=ws.length/\n<=1002/\Reads w' w'.heap.size A' (ws.map (Yr .u32))/\Below w.heap.size w w'/\∀k o s,A'=some ⟨k,o,s⟩->w.heap.size<=k
theorem Z26 (neg:Bool)(A:Option Addr)(N c:Nat)(l:List Int)(z:Int)(w:World)(B:Nat)(hB:B<=w.heap.size)(h:NumW w B z neg A N c l)(hz:(if z<0 then -z else z)<S.bd) :
 Calls Tryz.prog 20 #[Ze1 neg A N c] w (Zgj z w):=by
 have H:=Ya h;have Hz:=Ya hz;clear h hz;have hwi:=λ w B hB h=>Zzk S.bj S.bq 1 0 true false _ _ tz_least.1 tz_most.1 (by decide) (by decide) neg A N c l z w B hB h
 rw[tz_least.2,tz_most.2] at hwi;have HWI:=Ya hwi;clear hwi;have hq0:=(Yh w.heap.size w).alloc (Yb _) (.cells #[.bool neg,.slice A N c] 31);have hsz0:w.heap.size<(w.alloc (.cells #[.bool neg,.slice A N c] 31)).heap.size:=by simp
 have hnew:=heap_alloc_new w (.cells #[.bool neg,.slice A N c] 31);have HQ0:=Ya hq0;have K0:=Ya (H.out.below (hq0.mono hB));have HS0:=Ya hsz0;have HNW:=Ya hnew;clear hq0 hsz0 hnew;unfold Ze1;go_enter Tryz.func20,Tryz.ntmps20
 go_wp2_with fail
 refine(HWI.out _ B (Y8 hB (Ya8 HS0.out)) K0.out).mono ?_;rintro e w1 ⟨rfl,hb1⟩;have hx1:=(hb1.block w.heap.size HS0.out).trans HNW.out;have q0:w1.cell? ⟨w.heap.size,0,none⟩=some (.bool neg):=by rw[Yc hx1];rfl
 have q1:w1.cell? ⟨w.heap.size,1,none⟩=some (.slice A N c):=by rw[Yc hx1];rfl
 have HB1:=Ya (Zca HQ0.out hb1 (Ya8 HS0.out));have K1:=Ya (K0.out.below (hb1.mono (Y8 hB (Ya8 HS0.out))));have hB1:B<=w1.heap.size:=Y8 hB HB1.out.size;have hw1:w.heap.size<w1.heap.size:=Yy HS0.out hb1.size;clear hb1;by_cases hr:-536870912<=z/\z<=536870911
 .have dr:(decide (-536870912<=z) && decide (z<=536870911))=true:=by
   rw[decide_eq_true hr.1,decide_eq_true hr.2];rfl
  have e4:IntKind.i64.wrap (4*z)=4*z:=by rw[Yk _ (by omega)]
  have HR:=Ya hr;have HDR:=Ya dr;rw[dr];clear dr hr;go_wp2_with fail
  refine(Z25 neg A N c l z w1 B hB1 K1.out (by have:=HR.out;omega)).mono ?_;rintro e w2 ⟨rfl,hb2⟩;have HB2:=Ya (Zca HB1.out hb2 HB1.out.size);have hz2:=hb2.size;clear hb2;go_wp2_with fail
  refine bodyPost_ret (v:=.tuple #[.slice (some ⟨w2.heap.size,0,none⟩) 1 1,.bool true]) (by simp[results,Tryz.results20,go_sem]) rfl ?_;unfold Zgj;refine⟨some ⟨w2.heap.size,0,none⟩,1,1,[S.u32m (4*z)],by rw[HDR.out],.inl ⟨by have:=HR.out;omega,by have:=HR.out;omega,rfl⟩,rfl,by decide,?_,HB2.out.alloc (HB2.out.size) _,λ k o s e=>by cases e;exact HB2.out.size⟩;have hown:=Ybs (size:=1) (base:=w2.heap.size) (e:=37) w2 #[.int .u32 (IntKind.u32.wrap (4*z))] 1 (Yb _) (by decide) rfl;have hr:=Zba hown;have e:[S.u32m (4*z)].map (Yr .u32)=(#[Yr .u32 (IntKind.u32.wrap (4*z))]).toList:=by
   rw[IntKind.wrap_u32];rfl
  rw[e];exact hr
 .have dr:(decide (-536870912<=z) && decide (z<=536870911))=false:=by
   by_cases c:-536870912<=z
   .rw[decide_eq_true c,decide_eq_false (show ¬z<=536870911 by omega)];rfl
   .rw[decide_eq_false c];rfl
  have HR:=Ya hr;have HDR:=Ya dr;rw[dr];clear dr hr;go_wp2_with fail
  refine(Zzj neg A N c l _ K1.out.len w1 B hB1 K1.out.at_ K1.out.few K1.out.z.1 Hz.out).mono ?_;rintro e w2 ⟨A2,k,c2,ds,rfl,hk,hk1,hcn,hown,hb2⟩;have HCN:=Ya hcn;have HK:=Ya hk;have HB2:=Ya (Zca HB1.out hb2 HB1.out.size);have hz2:=hb2.size;have p0:w2.cell? ⟨w.heap.size,0,none⟩=some (.bool neg):=(hb2.cell (p:=⟨w.heap.size,0,none⟩) hw1).trans q0;have HRD:=Ya (Zba hown);have Hneg:=Ya K1.out.z.2;have hw2:w.heap.size<w2.heap.size:=by omega
  clear hk hcn hb2 hown;have sgn:∃sg:Int,sg=(if z<0 then 4 else 0):=⟨_,rfl⟩
  obtain⟨sg,hsg⟩:=sgn;have HSG:=Ya hsg.symm;have hsgb:sg=0\/sg=4:=by rw[hsg];split <;> omega
  clear hsg;have f1:IntKind.i64.wrap ((k:Int)+1)=(k:Int)+1:=by rw[Yk _ (by omega)]
  have f2:IntKind.u32.wrap ((k:Int)+1)=(k:Int)+1:=by rw[Ya6 _ (by omega)]
  have f3:IntKind.u32.wrap (32*((k:Int)+1))=32*((k:Int)+1):=by rw[Ya6 _ (by omega)]
  have f4:IntKind.u32.wrap (32*((k:Int)+1)+31)=32*((k:Int)+1)+31:=by rw[Ya6 _ (by omega)]
  obtain⟨hd,hhd⟩:∃h:Int,h=32*((k:Int)+1)+31:=⟨_,rfl⟩
  have HHD:=Ya hhd;have f5:32*((k:Int)+1)+31=hd:=hhd.symm;clear hhd;have hcase:∀(nb:Bool),neg=nb->sg=(if nb=true then 4 else 0):=λ nb h=>by
   rw[<- HSG.out,<- h,Hneg.out];by_cases c:z<0
   .rw[if_pos c,decide_eq_true c];rfl
   .rw[if_neg c,decide_eq_false c];rfl
  cases neg with
  | false =>
   have hs0:sg=0:=hcase false rfl;subst hs0;clear hcase hsgb Hneg;go_wp2_with fail
   have hal:=(Yh w2.heap.size w2).alloc (Yb _) (.cells #[.int .u32 hd,.int .u32 0] 37);have hlit:=Ybs (size:=1) (base:=w2.heap.size) (e:=37) w2 #[.int .u32 hd,.int .u32 0] 2 (Yb _) (by decide) rfl;have HAL:=Ya hal;have HLIT:=Ya hlit;clear hal hlit;go_loopw [6,7] (λ v6 v7 wr=>∃(i:Nat)(A3:Option Addr)(c3:Nat),i<=k/\v7=.int .i64 i/\v6=.slice A3 (i+2:Nat) c3/\Hid (wr.ownsRow w2.heap.size 37 1 (.slice A3 (i+2) c3) (i+2) ((hd::0::(ds.take i).map λ d=>4*d).map (Yr .u32)))/\Hid (Below w2.heap.size w2 wr)) (λ _ v7 _=>k-(intOf v7).toNat)
   case atStart=>exact⟨0,some ⟨w2.heap.size,0,none⟩,2,Yag _,rfl,rfl,HLIT,HAL⟩
   case round =>
    obtain⟨i,A3,c3,hi,rfl,rfl,ho3,hb3⟩:=hrel;by_cases hik:i<k
    .have hil:i<ds.length:=by rw[<- HK.out];exact hik
     obtain⟨b,off,hAe,hbB,hc⟩:=HRD.out (by rw[Yac];omega);have hci:=hc i (.int .u16 ds[i]) (by rw[Y3,Yf hil];rfl);have hci2:=(hb3.out.cell (p:=⟨b,off+i,none⟩) hbB).trans hci;have hdb:=HCN.out.1 ds[i] (Ya7 hil);have htk:=Ya (show ds.take (i+1)=ds.take i++[ds[i]] from by rw[Ya4,Yf hil];rfl);obtain⟨d,hd_⟩:=Yx ds[i];rw[<- hd_] at hci2 hdb htk;have g1:IntKind.u32.wrap d=d:=by rw[Ya6 _ (by omega)]
     have g2:IntKind.u32.wrap (4*d)=4*d:=by rw[Ya6 _ (by omega)]
     have g3:IntKind.i64.wrap (i:Int)=(i:Int):=by rw[Yk _ (by omega)]
     have g4:IntKind.i64.wrap ((i:Int)+1)=(i:Int)+1:=by rw[Yk _ (by omega)]
     have d1:decide ((i:Int)<(k:Int))=true:=decide_eq_true (by omega);have i3:(i:Int)<(k:Int):=by omega
     have i4:(0:Int)<=(i:Int):=by omega
     have hz3:=hb3.out.size;subst hAe;clear hc hci hd_;go_wp2_with (at_builtin;refine Zt rfl (.tmp 33) (.tmp 40) _ rfl w2.heap.size 37 Zjo Tryz.underlying51 rfl (by decide) #[.int .u32 (4*d)] _ _ _ rfl ho3.out rfl rfl rfl (by simp[Y6]) (by simp only[maxLen];omega) (by omega) hz3 ?_;intro v' w7 ho7 hg7 hb7 hat7;obtain⟨A8,c8,rfl⟩:=Zb ho7)
     go_roundw
     case rel =>
      refine⟨i+1,A8,c8,hik,by go_num,?_,Ya ?_,Ya (hb3.out.trans hb7)⟩
      .first|rfl | (congr 1;omega)
      .have e:i+1+2=i+2+1:=by omega
       rw[htk.out,e];have e2:List.map (Yr .u32) (hd::0::(List.map (λ d=>4*d) (List.take i ds++[d])))=List.map (Yr .u32) (hd::0::List.map (λ d=>4*d) (List.take i ds))++#[Yr .u32 (4*d)].toList:=by simp
       rw[e2];exact ho7
     case measure=>simp[intOf] <;> omega
    .have hie:i=k:=by omega
     subst hie;have hd1:decide ((i:Int)<(i:Int))=false:=by simp
     go_wp2_with fail
     refine bodyPost_ret (v:=.tuple #[.slice A3 (i+2) c3,.bool false]) (by simp[results,Tryz.results20,go_sem]) rfl ?_;have hR:=HR.out;have ho:=ho3.out;rw[HK.out,Yaf,<- HK.out] at ho;unfold Zgj;refine⟨A3,i+2,c3,hd::0::ds.map λ d=>4*d,by rw[HDR.out],.inr ⟨by omega,ds,HCN.out,?_⟩,by simp[HK.out],by omega,Zba ho,HB2.out.trans (hb3.out.mono HB2.out.size),λ k o s e=>by
      obtain⟨g,e2,h1,_⟩:=Z6 ho3.out (by omega);rw[e] at e2
      cases e2
      have:=HB2.out.size;omega⟩
     rw[HSG.out,HHD.out,HK.out]
  | true =>
   have hs0:sg=4:=hcase true rfl;subst hs0;clear hcase hsgb Hneg;go_wp2_with fail
   have hal:=(Yh w2.heap.size w2).alloc (Yb _) (.cells #[.int .u32 hd,.int .u32 4] 37);have hlit:=Ybs (size:=1) (base:=w2.heap.size) (e:=37) w2 #[.int .u32 hd,.int .u32 4] 2 (Yb _) (by decide) rfl;have HAL:=Ya hal;have HLIT:=Ya hlit;clear hal hlit;go_loopw [6,7] (λ v6 v7 wr=>∃(i:Nat)(A3:Option Addr)(c3:Nat),i<=k/\v7=.int .i64 i/\v6=.slice A3 (i+2:Nat) c3/\Hid (wr.ownsRow w2.heap.size 37 1 (.slice A3 (i+2) c3) (i+2) ((hd::4::(ds.take i).map λ d=>4*d).map (Yr .u32)))/\Hid (Below w2.heap.size w2 wr)) (λ _ v7 _=>k-(intOf v7).toNat)
   case atStart=>exact⟨0,some ⟨w2.heap.size,0,none⟩,2,Yag _,rfl,rfl,HLIT,HAL⟩
   case round =>
    obtain⟨i,A3,c3,hi,rfl,rfl,ho3,hb3⟩:=hrel;by_cases hik:i<k
    .have hil:i<ds.length:=by rw[<- HK.out];exact hik
     obtain⟨b,off,hAe,hbB,hc⟩:=HRD.out (by rw[Yac];omega);have hci:=hc i (.int .u16 ds[i]) (by rw[Y3,Yf hil];rfl);have hci2:=(hb3.out.cell (p:=⟨b,off+i,none⟩) hbB).trans hci;have hdb:=HCN.out.1 ds[i] (Ya7 hil);have htk:=Ya (show ds.take (i+1)=ds.take i++[ds[i]] from by rw[Ya4,Yf hil];rfl);obtain⟨d,hd_⟩:=Yx ds[i];rw[<- hd_] at hci2 hdb htk;have g1:IntKind.u32.wrap d=d:=by rw[Ya6 _ (by omega)]
     have g2:IntKind.u32.wrap (4*d)=4*d:=by rw[Ya6 _ (by omega)]
     have g3:IntKind.i64.wrap (i:Int)=(i:Int):=by rw[Yk _ (by omega)]
     have g4:IntKind.i64.wrap ((i:Int)+1)=(i:Int)+1:=by rw[Yk _ (by omega)]
     have d1:decide ((i:Int)<(k:Int))=true:=decide_eq_true (by omega);have i3:(i:Int)<(k:Int):=by omega
     have i4:(0:Int)<=(i:Int):=by omega
     have hz3:=hb3.out.size;subst hAe;clear hc hci hd_;go_wp2_with (at_builtin;refine Zt rfl (.tmp 33) (.tmp 40) _ rfl w2.heap.size 37 Zjo Tryz.underlying51 rfl (by decide) #[.int .u32 (4*d)] _ _ _ rfl ho3.out rfl rfl rfl (by simp[Y6]) (by simp only[maxLen];omega) (by omega) hz3 ?_;intro v' w7 ho7 hg7 hb7 hat7;obtain⟨A8,c8,rfl⟩:=Zb ho7)
     go_roundw
     case rel =>
      refine⟨i+1,A8,c8,hik,by go_num,?_,Ya ?_,Ya (hb3.out.trans hb7)⟩
      .first|rfl | (congr 1;omega)
      .have e:i+1+2=i+2+1:=by omega
       rw[htk.out,e];have e2:List.map (Yr .u32) (hd::4::(List.map (λ d=>4*d) (List.take i ds++[d])))=List.map (Yr .u32) (hd::4::List.map (λ d=>4*d) (List.take i ds))++#[Yr .u32 (4*d)].toList:=by simp
       rw[e2];exact ho7
     case measure=>simp[intOf] <;> omega
    .have hie:i=k:=by omega
     subst hie;have hd1:decide ((i:Int)<(i:Int))=false:=by simp
     go_wp2_with fail
     refine bodyPost_ret (v:=.tuple #[.slice A3 (i+2) c3,.bool false]) (by simp[results,Tryz.results20,go_sem]) rfl ?_;have hR:=HR.out;have ho:=ho3.out;rw[HK.out,Yaf,<- HK.out] at ho;unfold Zgj;refine⟨A3,i+2,c3,hd::4::ds.map λ d=>4*d,by rw[HDR.out],.inr ⟨by omega,ds,HCN.out,?_⟩,by simp[HK.out],by omega,Zba ho,HB2.out.trans (hb3.out.mono HB2.out.size),λ k o s e=>by
      obtain⟨g,e2,h1,_⟩:=Z6 ho3.out (by omega);rw[e] at e2
      cases e2
      have:=HB2.out.size;omega⟩
     rw[HSG.out,HHD.out,HK.out]
