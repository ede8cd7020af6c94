/- Parts. -/
import Derived.Test.YtlldagdhlfpihaaGreatDoorZGRss
import Derived.Test.YtlldagdhlfpihaaGreatDoorZGStv
set_option linter.unusedVariables false
set_option linter.unusedSimpArgs false
set_option linter.unusedSectionVars false
namespace Go.Proofs.YtlldagdhlfpihaaGreatDoor
set_option maxRecDepth 100000
section
open Go.RowKit
def S.rsR (m:S.Mach):Nat->S.Mach
 | 0=>m
 | j+1=>(S.rsR m j).setV (4+j) (4*(94+j))
def S.rsL (H f:Int)(m0:S.Mach)(n:Nat):S.Mach:=S.listM (S.rsR (m0.setV 26 (H+f)) 6) (H+f) ((n:Int)-6) ((n:Int)-6).toNat
def S.rsM (H f:Int)(m0:S.Mach)(n k:Nat):S.Mach:=((((S.rsL H f m0 n).setV 10 (S.endL (H+f) ((n:Int)-6).toNat)).setV 1 4).setV 2 n).setV 3 k
structure S.RsF (F:List Int)(H f:Int)(m0:S.Mach)(n k:Nat)(M:S.Mach):Prop where
 wd:S.Wd [] [] F (H+4000) M
 r26:M.rd 26=H+f+3*(n-6:Nat)
 r27:M.rd 27=H+2000
 r1:M.rd 1=4
 r2:M.rd 2=n
 r3:M.rd 3=k
 r10:M.rd 10=S.endL (H+f) (n-6)
 ra:∀ i:Nat,i<6->M.rd (4+i)=4*(94+i)
 l:∀ i:Nat,i<n-6->M.mv (H+f+3*i)=67/\M.mv (H+f+3*i+1)=4*(100+(((n-6:Nat):Int)-1-i))/\M.mv (H+f+3*i+2)=S.endL (H+f) i
 low:∀ x,0<=x->x<H->M.mv x=m0.mv x
theorem rsR_ok {F:List Int}{size:Int}(hI:(S.wImg true [] [] F size).Ok){M:S.Mach}(h:S.Wd [] [] F size M):∀ m:Nat,m<=6->S.Wd [] [] F size (S.rsR M m)/\(∀ x,(S.rsR M m).mv x=M.mv x)/\(∀ i:Nat,i<m->(S.rsR M m).rd (4+i)=4*(94+i))/\(∀ r:Int,¬ (4<=r/\r<4+m)->(S.rsR M m).rd r=M.rd r)
 | 0,_=>⟨h,fun _=>rfl,fun i hi=>by omega,fun _ _=>rfl⟩
 | m+1,hm=>by
  obtain ⟨h1,h2,h3,h4⟩:=rsR_ok hI h m (by omega)
  have e:S.rsR M (m+1)=(S.rsR M m).setV (4+m) (4*(94+m)):=rfl
  rw [e]
  refine ⟨wd_set hI h1 ⟨by omega,by omega⟩ (fun q=>by omega) ⟨by omega,by omega⟩,fun x=>?_,fun i hi=>?_,fun r hr=>?_⟩
  ·rw [setV_mv (by omega) (by omega)];exact h2 x
  ·rw [setV_rd h1.ok (by omega) (by omega)]
   by_cases c:i=m
   ·subst c;rw [if_pos rfl]
   ·rw [if_neg (by omega)];exact h3 i (by omega)
  ·rw [setV_rd h1.ok (by omega) (by omega),if_neg (by omega)]
   exact h4 r (by omega)
theorem rs_of {F:List Int}{H:Int}(hI:(S.wImg true [] [] F (H+4000)).Ok)(hH:H=(S.wImg true [] [] F (H+4000)).lab S.kEnd){m0:S.Mach}(h:S.Wd [] [] F (H+4000) m0)(h27:m0.rd 27=H+2000)(hsm:1312<=H/\H<=100000){f:Int}(hf:0<=f/\f<1900){n k:Nat}(hn:n<=30)(hk:k<=n):S.RsF F H f m0 n k (S.rsM H f m0 n k):=by
 have w1:=wd_set hI h (i:=26) (v:=H+f) (by decide) (fun h=>absurd h (by decide)) (by omega)
 obtain ⟨a1,a2,a3,a4⟩:=rsR_ok hI w1 6 (by decide)
 obtain ⟨m1,hm1⟩:∃ m1,m1=S.rsR (m0.setV 26 (H+f)) 6:=⟨_,rfl⟩
 rw [<- hm1] at a1 a2 a3 a4
 have e1:∀ x,m1.mv x=m0.mv x:=fun x=>by rw [a2,setV_mv (by decide) (by decide)]
 obtain ⟨N,hN⟩:∃ N,N=n-6:=⟨_,rfl⟩
 have hNt:((n:Int)-6).toNat=N:=by omega
 have hL:S.rsL H f m0 n=S.listM m1 (H+f) (N:Int) N:=by
  unfold S.rsL
  rw [<- hm1,hNt]
  by_cases c:N=0
  ·rw [c];rfl
  ·rw [show (n:Int)-6=(N:Int) from by omega]
 have L:=lst_of hI a1 (p:=H+f) (N:=N) (by omega) ⟨by omega,by omega⟩ (by omega) (by omega) N (by omega)
 rw [<- hL] at L
 obtain ⟨m2,hm2⟩:∃ m2,m2=S.rsL H f m0 n:=⟨_,rfl⟩
 rw [<- hm2] at L
 have hb:=endL_bdG (p:=H+f) (by omega) (j:=N) (by omega)
 have v1:=wd_set hI L.wd (i:=10) (v:=S.endL (H+f) N) (by decide) (fun h=>absurd h (by decide)) hb
 have v2:=wd_set hI v1 (i:=1) (v:=4) (by decide) (fun h=>absurd h (by decide)) (by decide)
 have v3:=wd_set hI v2 (i:=2) (v:=n) (by decide) (fun h=>absurd h (by decide)) (by omega)
 have v4:=wd_set hI v3 (i:=3) (v:=k) (by decide) (fun h=>absurd h (by decide)) (by omega)
 have hM:S.rsM H f m0 n k=(((m2.setV 10 (S.endL (H+f) N)).setV 1 4).setV 2 n).setV 3 k:=by
  unfold S.rsM
  rw [hNt,<- hm2]
 rw [hM]
 have rd:∀ j,((((m2.setV 10 (S.endL (H+f) N)).setV 1 4).setV 2 n).setV 3 k).rd j=if j=3 then (k:Int) else if j=2 then (n:Int) else if j=1 then 4 else if j=10 then S.endL (H+f) N else m2.rd j:=fun j=>by
  rw [setV_rd v3.ok (by decide) (by decide),setV_rd v2.ok (by decide) (by decide),setV_rd v1.ok (by decide) (by decide),setV_rd L.wd.ok (by decide) (by decide)]
 have mv:∀ x,((((m2.setV 10 (S.endL (H+f) N)).setV 1 4).setV 2 n).setV 3 k).mv x=m2.mv x:=fun x=>by
  rw [setV_mv (by decide) (by decide),setV_mv (by decide) (by decide),setV_mv (by decide) (by decide),setV_mv (by decide) (by decide)]
 subst hN
 refine ⟨v4,?_,?_,?_,?_,?_,?_,fun i hi=>?_,fun i hi=>?_,fun x h0 h1=>?_⟩
 ·rw [rd,if_neg (by decide),if_neg (by decide),if_neg (by decide),if_neg (by decide)]
  by_cases c:n-6=0
  ·have e:m2=m1:=by rw [hm2,hL,c];rfl
   rw [e,a4 26 (by decide),setV_rd h.ok (by decide) (by decide),if_pos rfl,c]
   simp
  ·exact L.r26 c
 ·rw [rd,if_neg (by decide),if_neg (by decide),if_neg (by decide),if_neg (by decide),L.rd 27 (by decide),a4 27 (by decide),setV_rd h.ok (by decide) (by decide),if_neg (by decide),h27]
 ·rw [rd];rfl
 ·rw [rd];rfl
 ·rw [rd];rfl
 ·rw [rd];rfl
 ·rw [rd,if_neg (by omega),if_neg (by omega),if_neg (by omega),if_neg (by omega),L.rd _ (by omega)]
  exact a3 i hi
 ·rw [mv,mv,mv];exact L.hd i hi
 ·rw [mv,L.out x h0 (by omega),e1]
structure S.RsO (H f:Int)(n k:Nat)(C:S.Mach):Prop where
 r1:C.rd 1=4
 r2:C.rd 2=n
 ra:∀ i:Nat,i<6->i<k->C.rd (4+i)=4*(94+i)
 lst:∃ L,S.ListAt C (if k<6 then C.rd (4+k) else C.rd 10) L/\L.length=n-min k 6/\(∀ i:Nat,i<L.length->L[i]?=some (4*(94+((min k 6:Nat):Int)+i)))/\(L≠[]->(if k<6 then C.rd (4+k) else C.rd 10)≠S.endL (H+f) (n-6))
theorem segs_len (m:Int->Int)(b:Nat):∀ d,(S.seg m b d).length=d
 | 0=>rfl
 | d+1=>by rw [S.seg,List.length_cons,segs_len m b d]
theorem segs_at (m:Int->Int)(b:Nat):∀ {d i:Nat},i<d->(S.seg m b d)[i]?=some (m (17+b-(d:Int)+i))
 | 0,i,h=>by omega
 | d+1,0,_=>by
  rw [S.seg]
  show some _=some _
  congr 2
  simp
 | d+1,i+1,h=>by
  rw [S.seg,List.getElem?_cons_succ,segs_at m b (show i<d by omega)]
  congr 2
  omega
theorem lat_lo {I:S.Img}{m:Int->Int}{lo hi v:Int}{L:List Int}(h:S.LAt I m lo hi v L)(hL:L≠[]):∃ a,v=4*a+1/\lo<=a:=by
 cases L with
 | nil=>exact absurd rfl hL
 | cons x r=>obtain ⟨a,h1,h2,_⟩:=h;exact ⟨a,h1,h2⟩
section
variable {F:List Int}{H f:Int}{m0 M:S.Mach}{n k:Nat}
theorem has_rests:S.kRt 101∈S.wTells:=w_has (by kernel_rfl)
theorem rs_run (hI:∀ b,(S.wImg b [] [] F (H+4000)).Ok)(hH:H=(S.wImg true [] [] F (H+4000)).lab S.kEnd)(hsm:1312<=H/\H<=100000)(hf:0<=f/\f<1900)(hn:n<=30)(hk:k<=n)(h:S.RsF F H f m0 n k M)(h2:m0.mv 2=H)(h3:m0.mv 3=H+2000)(h4:m0.mv 4=2000)(h5:m0.mv 5=38)(h7:m0.mv 7=0){C:S.Mach}(hC:C=S.callM (S.wImg true [] [] F (H+4000)) M (S.kRt 101) 400000) :
 S.RsO H f n k C/\C.state=1/\C.place=(S.wImg true [] [] F (H+4000)).lab S.kStub:=by
 obtain ⟨N,hN⟩:∃ N,N=n-6:=⟨_,rfl⟩
 have hN24:N<=24:=by omega
 obtain ⟨I,hIE⟩:∃ I,I=S.wImg true [] [] F (H+4000):=⟨_,rfl⟩
 obtain ⟨st,hst⟩:∃ st,st=S.viewOf (M.setV 31 ((S.wImg true [] [] F (H+4000)).lab S.kStub)):=⟨_,rfl⟩
 have hsm2:st.mem=M.mv:=by rw [hst];exact view_mem _ _
 have hsr:∀ j,j≠31->st.reg j=M.rd j:=fun j hj=>by rw [hst];exact view_reg h.wd.ok _ hj
 have hll:=itemsL_len (N:Int) N
 have hlab:(S.wImg true [] [] F (H+4000)).lab S.kCode=1312:=by
  have:=(labs_head (hI true)).2.1
  simpa using this
 have hdat:∀ x,H<=x->x<H+4000->S.Dat (S.wImg true [] [] F (H+4000)) x:=fun x h0 h1=>w_dat true hI (by omega) (by omega) (.inr (by omega)) (.inr (by omega))
 obtain ⟨mem,hmem⟩:∃ mem,mem=(S.saved st n).mem:=⟨_,rfl⟩
 obtain ⟨cnt,hcnt⟩:∃ cnt:Nat,cnt=if 6<n then 8 else n+1:=⟨_,rfl⟩
 have hc8:cnt<=8:=by rw [hcnt];split <;> omega
 have m8:mem 8=cnt:=by
  rw [hmem,hcnt]
  show (if (6:Int)<n then (8:Int) else n+1)=_
  by_cases c:6<n
  ·rw [if_pos c,if_pos (by omega)];rfl
  ·rw [if_neg c,if_neg (by omega)];rfl
 have m6:mem 6=0:=by rw [hmem];rfl
 have m16:mem 16=4:=by
  rw [hmem]
  show st.reg 1=4
  rw [hsr 1 (by decide)];exact h.r1
 have m23:mem 23=S.endL (H+f) N:=by
  rw [hmem]
  show st.reg 10=_
  rw [hsr 10 (by decide),h.r10,hN]
 have m17:∀ i:Nat,i<6->mem (17+i)=4*(94+i):=fun i hi=>by
  rw [hmem]
  show (if (17+(i:Int))=8 then _ else if (17+(i:Int))=6 then _ else if (17+(i:Int))=16 then _ else if (17+(i:Int))=23 then _ else if 17<=(17+(i:Int))/\(17+(i:Int))<=22 then st.reg (17+(i:Int)-13) else _)=_
  rw [if_neg (by omega),if_neg (by omega),if_neg (by omega),if_neg (by omega),if_pos (by omega),show 17+(i:Int)-13=4+i from by omega,hsr _ (by omega)]
  exact h.ra i hi
 have mrest:∀ x:Int,0<=x->x<6\/x=7\/24<=x->mem x=M.mv x:=fun x h0 hx=>by
  rw [hmem]
  show (if x=8 then _ else if x=6 then _ else if x=16 then _ else if x=23 then _ else if 17<=x/\x<=22 then _ else st.mem x)=_
  rw [if_neg (by omega),if_neg (by omega),if_neg (by omega),if_neg (by omega),if_neg (by omega),hsm2]
 have low:∀ x:Int,0<=x->x<6\/x=7->mem x=m0.mv x:=fun x h0 hx=>by rw [mrest x h0 (by omega),h.low x h0 (by omega)]
 obtain ⟨g,hgE⟩:∃ g,g=S.lgr (H+f) N N:=⟨_,rfl⟩
 have hg:g.Ok (H+f):=by rw [hgE];exact lgr_ok (by omega) ⟨by omega,by omega⟩ ⟨by omega,by omega⟩
 have hgs:S.sizes g.ns=3*N:=by rw [hgE,lgr_sizes]
 have hgl:g.ns.length=N:=by rw [hgE,lgr_len]
 obtain ⟨pl,hpl⟩:∃ pl:List (Int×Int),pl=if N=0 then [] else [(23,S.endL (H+f) N)]:=⟨_,rfl⟩
 have hplm:∀ q∈pl,N≠0/\q=(23,S.endL (H+f) N):=fun q hq=>by
  rw [hpl] at hq
  by_cases c:N=0
  ·rw [if_pos c] at hq;cases hq
  ·rw [if_neg c,List.mem_singleton] at hq
   exact ⟨c,hq⟩
 have hplN:N≠0->pl=[(23,S.endL (H+f) N)]:=fun c=>by rw [hpl,if_neg c]
 obtain ⟨n0,l,re⟩:=reach_ex hg (pl.map Prod.snd)
 have hn0:=reach_le hg re
 have hlaid:∀ j,j<g.ns.length->mem (g.adr j)=S.headW (g.nd j).ty (g.nd j).ws.length/\∀ (k:Nat) (x:Int×Int),(g.nd j).ws[k]?=some x->mem (g.adr j+1+k)=g.word x:=fun j hj=>by
  rw [hgl] at hj
  obtain ⟨q1,q2,q3⟩:=h.l j (by omega)
  rw [<- hN] at q2
  have ad:g.adr j=H+f+3*(j:Int):=by rw [hgE];exact (lgr_nd hj).2
  have nd:g.nd j=S.lnd N j:=by rw [hgE];exact (lgr_nd hj).1
  rw [ad,nd]
  refine ⟨by rw [mrest _ (by omega) (by omega),q1];rfl,fun k x hx=>?_⟩
  match k,hx with
  | 0,hx =>
   cases hx
   rw [hgE,lgr_word0 trivial _ (.inl (by omega)),mrest _ (by omega) (by omega),show H+f+3*(j:Int)+1+((0:Nat):Int)=H+f+3*(j:Int)+1 from by simp,q2]
  | 1,hx =>
   cases hx
   rw [hgE,lgr_word (by omega) hj,mrest _ (by omega) (by omega),show H+f+3*(j:Int)+1+((1:Nat):Int)=H+f+3*(j:Int)+2 from by omega,q3]
  | k+2,hx=>simp [S.lnd] at hx
 have efit:N≠0->g.fit (S.endL (H+f) N):=fun c=>by
  rw [endL_pos' _ (by omega)]
  refine ⟨by omega,by omega,fun _=>⟨N-1,?_⟩⟩
  have:=gr_node hg (i:=N-1) (by rw [hgl];omega)
  rw [show g.adr (N-1)=H+f+3*((N:Int)-1) from by rw [hgE,(lgr_nd (show N-1<N by omega)).2];omega] at this
  exact this
 have hG:S.GrM [] [] F (H+4000) g (H+f) (pl.map Prod.snd) (pl.map Prod.fst) mem 2000 H (H+2000) (H+f+3*N) (List.range g.ns.length) g.adr n0 l cnt 0:=by
  have e:(pl.map Prod.fst).map mem=pl.map Prod.snd:=by
   rw [List.map_map]
   exact List.map_congr_left fun q hq=>by
    obtain ⟨_,rfl⟩:=hplm q hq
    exact m23
  refine ⟨⟨by rw [<- hH];omega,by decide,.inl ⟨hH,by rw [<- hH]⟩⟩,hg,by omega,?_,fun x hx=>?_,by omega,by rw [total_range hg,hgs];omega,re,?_,?_,?_,m8,by omega,.inl ⟨m6,rfl⟩,fun x hx=>?_,fun x hx=>?_⟩
  ·rw [e]
   have:=shape_lo (laid_shape hg (by omega) hlaid (pl.map Prod.snd)) (show H<=H+f by omega)
   rw [hgs] at this
   exact this
  ·obtain ⟨q,hq,rfl⟩:=List.mem_map.1 hx
   obtain ⟨c,rfl⟩:=hplm q hq
   exact efit c
  ·rw [low 2 (by decide) (.inl (by decide)),h2]
  ·rw [low 3 (by decide) (.inl (by decide)),h3]
  ·rw [low 4 (by decide) (.inl (by decide)),h4]
  ·rcases hx with ((rfl | ⟨c1,c2⟩) | ⟨j,hj,_⟩) | ⟨c1,c2⟩
   ·refine .inr ?_
    rw [low 5 (by decide) (.inl (by decide)),h5]
    decide
   ·by_cases c16:x=16
    ·subst c16
     refine .inr ?_
     rw [m16]
     decide
    ·by_cases c23:x=23
     ·subst c23
      have hc6:6<n:=by
       rw [hcnt] at c2
       split at c2
       ·assumption
       ·omega
      refine .inl ?_
      rw [hplN (by omega)]
      exact List.mem_singleton.2 rfl
     ·refine .inr ?_
      have e:x=17+((x-17).toNat:Int):=by omega
      rw [e,m17 _ (by omega)]
      omega
   ·omega
   ·rw [hlab] at c2
    omega
  ·obtain ⟨q,hq,rfl⟩:=List.mem_map.1 hx
   obtain ⟨c,rfl⟩:=hplm q hq
   refine .inl (.inl (.inr ?_))
   show (16:Int)<=23/\(23:Int)<16+cnt
   have:cnt=8:=by rw [hcnt,if_pos (by omega)]
   omega
 have hG':=hG
 rw [hmem] at hG'
 obtain ⟨want,hwant⟩:∃ want:Int,want=3*(n-min k 6:Nat):=⟨_,rfl⟩
 have hwb:0<=want/\want<=90:=by omega
 obtain ⟨sA,hsA⟩:∃ sA,sA=(S.saved st n).args [want]:=⟨_,rfl⟩
 have sAm:sA.mem=mem:=by rw [hsA,hmem];rfl
 have sAr:∀ j,j≠4->sA.reg j=st.reg j:=fun j hj=>by
  rw [hsA]
  show (if 4<=j/\j<4+(([want]:List Int).length:Int) then ([want]:List Int).getD (j-4).toNat 0 else (S.saved st n).reg j)=_
  rw [if_neg (fun q=>hj (by have:=q.2;simp at this;omega))]
  rfl
 have room:∀ (o:S.BO) (q:Nat),S.ResR (S.wImg true [] [] F (H+4000)) (S.GrM.cf g mem g.adr (List.range g.ns.length) H (H+2000) 2000) (S.GrM.T g mem g.adr l) cnt 0 want sA o q->q<=20000/\∃ s2:S.Vw,o=.ret s2/\H<=s2.reg 26/\s2.reg 26+want<=H+4000/\(∀ x:Int,16<=x->x<23->s2.mem x=mem x)/\s2.reg 2=n/\(∀ j,j≠4->j≠5->j≠26->j≠27->j≠29->s2.reg j=st.reg j) /\
  (N≠0->∃ lo,H<=lo/\lo<=s2.reg 26/\S.LAt (S.wImg true [] [] F (H+4000)) s2.mem lo (s2.reg 26) (s2.mem 23) (S.itemsL N N))/\(H+f+3*N<=s2.reg 26):=fun o q hR=>by
  rcases hR with ⟨r1,rfl,r3⟩ | ⟨r1,s2,ρ,hd,hout,hq⟩
  ·have e26:sA.reg 26=H+f+3*N:=by rw [sAr 26 (by decide),hsr 26 (by decide),h.r26,hN]
   have e27:sA.reg 27=H+2000:=by rw [sAr 27 (by decide),hsr 27 (by decide),h.r27]
   refine ⟨by omega,sA,rfl,by omega,by omega,fun x _ _=>by rw [sAm],by rw [sAr 2 (by decide),hsr 2 (by decide),h.r2],fun j j4 _ _ _ _=>sAr j j4,fun c=>⟨H,Int.le_refl _,by omega,?_⟩,by omega⟩
   have:=lst_late (I:=S.wImg true [] [] F (H+4000)) (mem:=M.mv) (p:=H+f) (N:=N) (e:=38) (fun x h0 h1=>hdat x (by omega) (by omega)) (by omega) N (by omega) (fun i hi=>by
    obtain ⟨q1,q2,q3⟩:=h.l i (by omega)
    rw [<- hN] at q2
    refine ⟨q1,q2,?_⟩
    rw [q3]
    cases i with
    | zero=>rfl
    | succ i=>rw [if_neg (by omega)]) c
   have:=lat_mono (lo':=H) (hi':=H+f+3*N) (m':=sA.mem) (by omega) (Int.le_refl _) (fun a h0 h1=>by rw [sAm];exact mrest a (by omega) (by omega)) (lat_of_late this)
   rw [e26,show sA.mem 23=S.endL (H+f) N from by rw [sAm,m23]]
   exact this
  ·have hGA:S.GrM [] [] F (H+4000) g (H+f) (pl.map Prod.snd) (pl.map Prod.fst) sA.mem 2000 H (H+2000) (H+f+3*N) (List.range g.ns.length) g.adr n0 l cnt 0:=by rw [sAm];exact hG
   have hdA:S.Cd (S.GrM.cf g sA.mem g.adr (List.range g.ns.length) H (H+2000) 2000) (S.GrM.T g sA.mem g.adr l) (S.RX (S.wImg true [] [] F (H+4000)) sA.mem cnt 0) sA ρ s2:=by
    have:=hd
    rw [sAm] at this ⊢
    exact this
   obtain ⟨nu',hK,ht⟩:=grm_keeps true hI hGA hdA
   have c26:s2.reg 26=H+2000+S.tot ρ:=hd.r26
   have hn00:0<=S.tot ρ:=by
    rw [ht,re.sum]
    have:=total_bd hg l re.rng
    omega
   have hhf:(S.GrM.cf g mem g.adr (List.range g.ns.length) H (H+2000) 2000).hf=2000:=rfl
   rw [hhf] at hout
   have ho:o=.ret s2:=by
    rcases hout with ⟨_,q⟩ | ⟨q,_⟩
    ·exact q
    ·omega
   have nop:∀ x:Int,16<=x->x<23->s2.mem x=mem x:=fun x h0 h1=>by
    by_cases c:S.RX (S.wImg true [] [] F (H+4000)) sA.mem cnt 0 x
    ·have hv:=(hdA.root x c).1
     have hx4:mem x%4≠1:=by
      by_cases c16:x=16
      ·subst c16;rw [m16];decide
      ·have e:x=17+((x-17).toNat:Int):=by omega
       rw [e,m17 _ (by omega)]
       omega
     rw [hv,sAm]
     unfold S.mv
     rw [if_neg hx4]
    ·rw [hdA.mem x (by omega) (by omega) c (fun q=>by have:=q.1;have h9:(S.GrM.cf g sA.mem g.adr (List.range g.ns.length) H (H+2000) 2000).fr=H:=rfl;omega) (fun q=>by have:=q.1;have h9:(S.GrM.cf g sA.mem g.adr (List.range g.ns.length) H (H+2000) 2000).to_=H+2000:=rfl;omega),sAm]
   refine ⟨by rw [hlab] at hq;omega,s2,ho,by omega,by omega,nop,by rw [hd.reg 2 (by decide) (by decide) (by decide) (by decide) (by decide),sAr 2 (by decide),hsr 2 (by decide),h.r2],fun j j4 j5 j26 j27 j29=>by rw [hd.reg j j4 j5 j26 j27 j29,sAr j j4],fun c=>⟨H+2000,by omega,by omega,?_⟩,by omega⟩
   rw [hplN c] at hK
   rw [hgE] at hK hg
   exact keeps_lat hg (by omega) (by omega) hK fun a h0 h1=>hdat a (by omega) (by omega)
 obtain ⟨iM,sM⟩:=seg_move (gw:=[]) (sw:=[]) (F:=F) (size:=H+4000) true
 obtain ⟨iS,sS⟩:=seg_scan (gw:=[]) (sw:=[]) (F:=F) (size:=H+4000) true
 obtain ⟨iF,sF⟩:=seg_frame (gw:=[]) (sw:=[]) (F:=F) (size:=H+4000) true
 obtain ⟨iC,sC⟩:=seg_collect (gw:=[]) (sw:=[]) (F:=F) (size:=H+4000) true
 obtain ⟨iR,sR⟩:=seg_reserve (gw:=[]) (sw:=[]) (F:=F) (size:=H+4000) true
 obtain ⟨iN,sN⟩:=seg_cons (gw:=[]) (sw:=[]) (F:=F) (size:=H+4000) true
 obtain ⟨iE,sE⟩:=seg_rest (gw:=[]) (sw:=[]) (F:=F) (size:=H+4000) true
 have hcol:S.Col (S.wImg true [] [] F (H+4000)) (S.GrM.cf g mem g.adr (List.range g.ns.length) H (H+2000) 2000) (S.GrM.T g mem g.adr l) cnt 0 (S.saved st n).mem:=by
  rw [<- hmem]
  exact grm_col true hI hG
 have hr:=real_rest (hI true) (grm_cf true hI hG) sM sS sF sC sR sN sE hcol (n:=n) (k:=k) (by rw [hsr 2 (by decide)];exact h.r2) (by rw [hsr 3 (by decide)];exact h.r3) hk (by omega) (spare:=0) (by rw [hsm2,h.low 7 (by decide) (by omega)];exact h7) (by decide)
  (by
   rw [hsr 26 (by decide),hsr 27 (by decide),h.r26,h.r27];omega) (L:=S.itemsL N N) (fun s2 q hR=>by
   rw [<- hwant,Int.add_zero,<- hsA] at hR
   obtain ⟨_,s2',e,q1,q2,q3,q4,q4b,q5,q6⟩:=room _ _ hR
   cases e
   refine ⟨fun c=>?_,fun c=>?_,by omega,fun a h0 h1=>hdat a (by omega) (by omega)⟩
   ·obtain ⟨lo,l1,l2,l3⟩:=q5 (by omega)
    exact ⟨lo,by omega,l2,l3,by rw [hll];omega⟩
   ·rw [show N=0 from by omega];rfl)
 obtain ⟨st',hP,hs,s1,s2,_⟩:=call_back hI h.wd has_rests (d:=108) (by decide) (by rw [<- hst];exact hr) (N:=400000)
  (P:=fun st'=>∃ s2 s4:S.Vw,st'=S.restored s4/\S.RstP (S.wImg true [] [] F (H+4000)) n k (S.itemsL N N) s2 s4/\(∀ x:Int,16<=x->x<23->s2.mem x=mem x)/\s2.reg 2=n/\H+f+3*N<=s2.reg 26) fun ret o q hR=>by
   obtain ⟨o1,q1,hR,hq,hm⟩:=hR
   rw [<- hwant,Int.add_zero,<- hsA] at hR
   obtain ⟨p0,s2',e,p1,p2,p3,p4,p4b,p5,p6⟩:=room _ _ hR
   subst e
   obtain ⟨s4,rfl,hp⟩:=hm
   exact ⟨S.restored s4,.inl rfl,by omega,s2',s4,rfl,hp,p3,p4,p6⟩
 obtain ⟨s2',s4,rfl,hp,k1,k2,k3⟩:=hP
 rw [<- hC] at hs s1 s2
 have sm4:∀ x:Int,x≠8->(S.restored s4).mem x=s4.mem x:=fun x hx=>by
  show (if x=8 then _ else s4.mem x)=_
  rw [if_neg hx]
 have sr4:∀ i:Nat,i<6->C.rd (4+i)=s4.mem (17+i):=fun i hi=>by
  rw [hs.reg _ (by unfold S.visB;exact decide_eq_true (by omega))]
  match i,hi with
  | 0,_=>rfl
  | 1,_=>rfl
  | 2,_=>rfl
  | 3,_=>rfl
  | 4,_=>rfl
  | 5,_=>rfl
 have lsz:∀ {L:List Int} {v lo hi:Int},S.LAt (S.wImg true [] [] F (H+4000)) s4.mem lo hi v L->24<=lo->S.ListAt C v L:=fun {L v lo hi} hL h0=>by
  have key:∀ {L:List Int} {v:Int},S.LAt (S.wImg true [] [] F (H+4000)) s4.mem lo hi v L->S.LAtE (S.wImg true [] [] F (H+4000)) (S.restored s4).mem lo (H+4000) 38 v L:=by
   intro L
   induction L with
   | nil=>intro v h;exact h
   | cons x r ih =>
    rintro v ⟨a,a1,a2,a3,a4,a5,a6,a7⟩
    have hd:=(a4 2 (by decide)).2.1
    have hsz:(S.wImg true [] [] F (H+4000)).size=H+4000:=rfl
    have hd2:a+((2:Nat):Int)<H+4000:=hd
    exact ⟨a,a1,a2,by omega,a4,by rw [sm4 _ (by omega)];exact a5,by rw [sm4 _ (by omega)];exact a6,by rw [sm4 _ (by omega)];exact ih a7⟩
  exact listAt_of hs (by omega) (by omega) (key hL)
 have nv:∀ {L:List Int} {v hi:Int},S.LAt (S.wImg true [] [] F (H+4000)) s4.mem (s2'.reg 26) hi v L->L≠[]->v≠S.endL (H+f) (n-6):=fun {L v hi} hL hne=>by
  obtain ⟨a,rfl,h1⟩:=lat_lo hL hne
  rw [<- hN]
  by_cases c:N=0
  ·rw [c]
   show 4*a+1≠38
   omega
  ·rw [endL_pos' _ (by omega)]
   omega
 refine ⟨⟨?_,?_,fun i hi hik=>?_,?_⟩,s1,s2⟩
 ·rw [hs.reg 1 (by decide)]
  show s4.mem 16=4
  rw [hp.mem 16 (by omega) (by decide) (by omega),k1 16 (by decide) (by decide),m16]
 ·rw [hs.reg 2 (by decide)]
  show s4.reg 2=n
  rw [hp.reg 2 (by decide) (by decide) (by decide),k2]
 ·rw [sr4 i hi,hp.mem _ (by omega) (by omega) (by omega),k1 _ (by omega) (by omega),m17 i hi]
 ·by_cases c:k<6
  ·rw [if_pos c,sr4 k c]
   obtain ⟨hi,hL⟩:=hp.few c
   refine ⟨_,lsz hL (by omega),by rw [List.length_append,segs_len,hll];omega,fun i hi=>?_,fun hne=>nv hL hne⟩
   rw [List.length_append,segs_len,hll] at hi
   by_cases c2:i<min n 6-k
   ·rw [List.getElem?_append_left (by rw [segs_len];exact c2),segs_at _ _ c2,k1 _ (by omega) (by omega),show 17+((min n 6:Nat):Int)-((min n 6-k:Nat):Int)+(i:Int)=17+((k+i:Nat):Int) from by omega,m17 _ (by omega)]
    refine congrArg some ?_
    clear hH hlab hIE hs s2 hC hst hI hL
    omega
   ·rw [List.getElem?_append_right (by rw [segs_len];omega),segs_len,itemsL_at _ (by omega)]
    refine congrArg some ?_
    clear hH hlab hIE hs s2 hC hst hI hL
    omega
  ·rw [if_neg c]
   obtain ⟨hi,hL⟩:=hp.many c
   have e10:C.rd 10=s4.mem 23:=hs.reg 10 (by decide)
   rw [e10]
   refine ⟨_,lsz hL (by omega),by rw [hll];omega,fun i hi=>?_,fun hne=>nv hL hne⟩
   rw [hll] at hi
   rw [itemsL_at _ hi]
   refine congrArg some ?_
   clear hH hlab hIE hs s2 hC hst hI hL
   omega
end
end
section
open Go.RowKit
theorem names_rests:S.kRt 101∈S.wTells:=w_has (by kernel_rfl)
theorem name_rests:S.kRt 101=⟨#[114,116,49,48,49]⟩:=by kernel_rfl
theorem rests_call {w:World}{F:Nat->Prop}{lo b p:Nat}{H half:Int}{P:List (ByteArray×Int)}{MM:S.Mach}{nm:ByteArray}{ca stub:Int}(hK:KAt w lo b p F H half P MM)(hs:S.findP P nm=some ca)(hst:S.findP P S.kStub=some stub)(ha:0<=ca/\ca<=67108864)(hst2:0<=stub/\stub<=67108864)(h0:MM.state=0)(h1:MM.out=[])(h2:MM.steps=0){C:S.Mach}(hC:((MM.setV 31 stub).goV ca).steps_ 400000=C){R:Int}(hR:S.callR C stub=R) :
 Calls Tryz.prog 29 #[.pointer (some ⟨b,0,none⟩),.string nm,.bool false,.int .i64 400000] w fun e w'=>e=.returned (.int .i64 R)/\KRan w lo b p F H half P C w':=by
 have h:=k_Call nm 400000 ca stub hK hs hst ⟨ha.1,Int.le_trans ha.2 (by decide)⟩ ⟨hst2.1,Int.le_trans hst2.2 (by decide)⟩ h0 h1 h2 (by decide)
 have e:S.callV MM stub ca 400000=C:=by
  unfold S.callV
  rw [show (400000:Int).toNat=400000 from rfl]
  exact hC
 rw [e,hR] at h
 exact h
theorem rests_called {w:World}{F:Nat->Prop}{lo b p:Nat}{H half f:Int}{Fs:List Int}{m0:S.Mach}{n k:Nat}(hK:KAt w lo b p F H half (S.wP [] [] Fs) (S.rsM H f m0 n k))(hI:∀ b,(S.wImg b [] [] Fs (H+4000)).Ok)(hH:H=(S.wImg true [] [] Fs (H+4000)).lab S.kEnd)(hsm:1312<=H/\H<=100000)(hw:S.Wd [] [] Fs (H+4000) m0)(h27:m0.rd 27=H+2000)(hf:0<=f/\f<1900)(hn:n<=30)(hk:k<=n)(h2:m0.mv 2=H)(h3:m0.mv 3=H+2000)(h4:m0.mv 4=2000)(h5:m0.mv 5=38)(h7:m0.mv 7=0) :
 Calls Tryz.prog 29 #[.pointer (some ⟨b,0,none⟩),.string ⟨#[114,116,49,48,49]⟩,.bool false,.int .i64 400000] w fun e w'=>e=.returned (.int .i64 0)/\∃ C,S.RsO H f n k C/\KRan w lo b p F H half (S.wP [] [] Fs) C w':=by
 obtain ⟨f2,l3,l4⟩:=w_label (hI true) names_rests
 obtain ⟨f1,l1,l2⟩:=w_label (hI true) has_stub
 have hF:=rs_of (hI true) hH hw h27 hsm hf hn hk
 obtain ⟨o1,o2,o3⟩:=rs_run hI hH hsm hf hn hk hF h2 h3 h4 h5 h7 rfl
 obtain ⟨C,hC⟩:∃ C,C=S.callM (S.wImg true [] [] Fs (H+4000)) (S.rsM H f m0 n k) (S.kRt 101) 400000:=⟨_,rfl⟩
 rw [<- hC] at o1 o2 o3
 have hR:S.callR C ((S.wImg true [] [] Fs (H+4000)).lab S.kStub)=0:=by
  unfold S.callR
  rw [if_neg (fun q=>q o2),if_pos o3]
 refine (rests_call (nm:=⟨#[114,116,49,48,49]⟩) hK (by rw [<- name_rests];exact f2) f1 ⟨l3,l4⟩ ⟨l1,l2⟩ hF.wd.run hF.wd.out hF.wd.steps (C:=C) (by rw [hC];rfl) hR).mono ?_
 rintro e w' ⟨rfl,hk⟩
 exact ⟨rfl,C,o1,hk⟩
set_option maxHeartbeats 4000000 in
theorem law_RtgcRests (ct ah fu:Int)(w:World)(hL:LVE w)(hct:0<=ct/\ct<=255)(hah:0<=ah/\ah<=255)(hfu:0<=fu/\fu<=65535):Calls Tryz.prog 9 #[.int .u8 ct,.int .u8 ah,.int .u16 fu] w fun e w'=>e=.returned (.bool true)/\Below w.heap.size w w':=by
 have HLV:=Lib.hid hL
 obtain ⟨n,hn⟩:∃ n:Nat,n=(ct%31).toNat:=⟨_,rfl⟩
 obtain ⟨k,hk⟩:∃ k:Nat,k=(ah%((n:Int)+1)).toNat:=⟨_,rfl⟩
 obtain ⟨f,hf⟩:∃ f:Int,f=fu%1900:=⟨_,rfl⟩
 have hn30:n<=30:=by omega
 have hm1:=Int.emod_nonneg ah (show (n:Int)+1≠0 by omega)
 have hm2:=Int.emod_lt_of_pos ah (show (0:Int)<(n:Int)+1 by omega)
 have hkE:ah%((n:Int)+1)=k:=by omega
 have hkn:k<=n:=by omega
 have hfb:0<=f/\f<1900:=by omega
 have r1:IntKind.u8.wrap (ct%31)=(n:Int):=by rw [show ct%31=(n:Int) from by omega];exact IntWalk.u8_in _ ⟨by omega,by omega⟩
 have r2:ct.tmod 31=(n:Int):=by rw [Int.tmod_eq_emod_of_nonneg hct.1];omega
 have r4:ct%31=(n:Int):=by omega
 have r6:(n:Int)%256=n:=by omega
 have r8:(n:Int)%18446744073709551616=n:=by omega
 have ru1:IntKind.u8.wrap (n:Int)=n:=IntWalk.u8_in _ ⟨by omega,by omega⟩
 have r9:ah%18446744073709551616=ah:=by omega
 have r10:IntKind.i64.wrap ((n:Int)+1)=(n:Int)+1:=IntWalk.i64_in _ ⟨by omega,by omega⟩
 have r11:ah.tmod ((n:Int)+1)=k:=by rw [Int.tmod_eq_emod_of_nonneg hah.1];exact hkE
 have r12:IntKind.i64.wrap (k:Int)=k:=IntWalk.i64_in _ ⟨by omega,by omega⟩
 have r13:¬ (n:Int)+1=0:=by omega
 have r14:fu%18446744073709551616=fu:=by omega
 have r15:fu.tmod 1900=f:=by rw [Int.tmod_eq_emod_of_nonneg hfu.1];omega
 have r16:IntKind.i64.wrap f=f:=IntWalk.i64_in _ ⟨by omega,by omega⟩
 clear hn hk hf hL hm1 hm2 hkE
 go_enter Tryz.func9,Tryz.ntmps9
 have Hw:=Lib.hid (k_world none none 0 0 [] [] 4000 w HLV.out (fun h=>by simp at h) (fun h=>by simp at h) (by decide) (by decide) (fun x hx=>by cases hx) (fun x hx=>by cases hx) (by decide))
 go_wp2_with fail
 refine Hw.out.mono ?_
 rintro e w3 ⟨Fs,b,p,F,hwr,rfl,hk3,hb3⟩
 have HWr:=Lib.hid hwr
 have HB3:=Lib.hid hb3
 have HF:=Lib.hid (show ∀ k,F k->k<w3.heap.size from fun k hk=>(hk3.lt k hk).2)
 have HFl:=Lib.hid (show ∀ k,F k->w.heap.size<=k from fun k hk=>(hk3.lt k hk).1)
 obtain ⟨m0,hm0⟩:∃ m0,m0=S.wM (S.wL [] [] Fs) 4000 []:=⟨_,rfl⟩
 have Hm0:=Lib.hid hm0
 rw [<- hm0] at hk3
 obtain ⟨H,hH⟩:∃ H:Int,H=(S.wL [] [] Fs).length:=⟨_,rfl⟩
 have hHb:0<=H/\H<=12000:=by have:=HWr.out.small;omega
 have hrd:m0.rd 26=H/\m0.rd 27=H+2000:=by
  have:=HWr.out.fst.rd
  rw [<- Hm0.out,<- hH] at this
  exact ⟨this 26,this 27⟩
 have HRd:=Lib.hid hrd
 rw [<- hH] at hk3
 have HK3:=Lib.hid hk3
 have HH:=Lib.hid hH
 clear hwr hk3 hb3 Hw hm0 hH hrd r1 r2 r4 r6 ru1 r9 r10 r11 r12 r13
 obtain ⟨_,_,_,_,_,_,e0,e1,e2,e3,e4⟩:=HK3.out.cells
 have hbl:=HK3.out.blt
 have c1:IntKind.i64.wrap (H+f)=H+f:=IntWalk.i64_in _ ⟨by omega,by omega⟩
 have c2:(H+f)%4294967296=H+f:=by omega
 go_upto_region 6 with fail
 refine wp_region_ext_tail 13 (by kernel_rfl) (by kernel_rfl) ?_
 have hE:=ext_cells w3
 simp only [List.take_succ_cons,List.take_zero,List.drop_succ_cons,List.drop_zero]
 repeat (first | go_big_quiet_step (fail))
 refine wpQuiet_nil ?_
 rintro w4 ⟨⟨_,hb4⟩,rfl⟩
 have HK4:=Lib.hid (HK3.out.below hb4)
 have HB4:=Lib.hid (HB3.out.trans (hb4.mono HB3.out.size))
 clear hE hb4 HK3 HB3 c1 c2 r14 r15 r16
 go_wp2_with fail
 refine (k_SetR 26 (H+f) HK4.out (by omega)).mono ?_
 rintro e w5 ⟨rv,rfl,hk5,ho5⟩
 obtain ⟨mr,hmr⟩:∃ mr,mr=m0.setV 26 (H+f):=⟨_,rfl⟩
 have HR5:=Lib.hid (setV_rd HK4.out.ok (i:=26) (v:=H+f) (j:=26) (by decide) (by decide))
 rw [<- hmr] at hk5 HR5
 have HK5:=Lib.hid hk5
 have HB5:=Lib.hid (show Below w.heap.size w w5 from HB4.out.trans (ho5.below HB4.out.size (fun k hk=>HFl.out k hk)))
 have Hmr:=Lib.hid hmr
 clear hk5 ho5 HK4 HB4 e0 e1 e2 e3 e4 hbl hmr
 go_wp2_with fail
 go_loopw [10] (fun v10 wl=>∃ j:Nat,j<=6/\v10=.int .i64 j/\Hid (KAt wl w.heap.size b p F H (4000/2) (S.wP [] [] Fs) (S.rsR mr j))/\Hid (Below w.heap.size w wl)) (fun v10 _=>(6-intOf v10).toNat)
 case atStart=>exact ⟨0,by omega,rfl,HK5,HB5⟩
 case round =>
  obtain ⟨j,hj,rfl,HKj,HBj⟩:=hrel
  by_cases hlt:j<6
  ·obtain ⟨_,_,_,_,_,_,e0,e1,e2,e3,e4⟩:=HKj.out.cells
   have hbl:=HKj.out.blt
   have d1:decide ((j:Int)<6)=true:=by simp;omega
   have c3:IntKind.i64.wrap (4+(j:Int))=4+j:=IntWalk.i64_in _ ⟨by omega,by omega⟩
   have c4:IntKind.i64.wrap (94+(j:Int))=94+j:=IntWalk.i64_in _ ⟨by omega,by omega⟩
   have c5:IntKind.i64.wrap (4*(94+(j:Int)))=4*(94+j):=IntWalk.i64_in _ ⟨by omega,by omega⟩
   have c6:IntKind.i64.wrap ((j:Int)+1)=j+1:=IntWalk.i64_in _ ⟨by omega,by omega⟩
   have c7:4*(94+(j:Int))%4294967296=4*(94+j):=by omega
   go_wp2_with fail
   refine (k_SetR (4+j) (4*(94+j)) HKj.out (by omega)).mono ?_
   rintro e9 w11 ⟨rv,rfl,hk11,ho11⟩
   have HK11:=Lib.hid (show KAt w11 w.heap.size b p F H (4000/2) (S.wP [] [] Fs) (S.rsR mr (j+1)) from hk11)
   have HB11:=Lib.hid (show Below w.heap.size w w11 from HBj.out.trans (ho11.below HBj.out.size (fun k hk=>HFl.out k hk)))
   clear hk11 ho11 HKj HBj e0 e1 e2 e3 e4 hbl
   go_wp2_with fail
   go_roundw
   case rel=>exact ⟨j+1,by omega,rfl,HK11,HB11⟩
   case measure=>simp [intOf];omega
  ·have hje:j=6:=by omega
   subst hje
   have d1:decide (((6:Nat):Int)<6)=false:=by decide
   have c1:IntKind.i64.wrap ((n:Int)-6)=(n:Int)-6:=IntWalk.i64_in _ ⟨by omega,by omega⟩
   clear HK5 HB5
   have hnF:KAt wr w.heap.size b p F H (4000/2) (S.wP [] [] Fs) (S.rsR mr 6):=HKj.out
   have hwd5:=HWr.out.wd
   rw [<- HH.out,<- Hm0.out] at hwd5
   have hI:∀ b,(S.wImg b [] [] Fs (H+4000)).Ok:=fun b=>by rw [HH.out];exact HWr.out.ok b
   have hlab:H=(S.wImg true [] [] Fs (H+4000)).lab S.kEnd:=by rw [HH.out];exact HWr.out.len
   have hH13:1312<=H:=by
    have:=(end_bd (hI true)).1
    rw [<- hlab] at this
    simp at this
    omega
   have w1:=wd_set (hI true) hwd5 (i:=26) (v:=H+f) (by decide) (fun h=>absurd h (by decide)) (by omega)
   rw [<- Hmr.out] at w1
   have h26:(S.rsR mr 6).rd 26=H+f:=by
    rw [(rsR_ok (hI true) w1 6 (by decide)).2.2.2 26 (by decide)]
    rw [HR5.out,if_pos trivial]
   have hli:=k_list (.pointer none) (.slice none 0 0) ((n:Int)-6) hnF (p:=H+f) h26 (by omega) (by omega) (by omega)
   have Hli:=Lib.hid hli
   have HI:=Lib.hid hI
   have HLab:=Lib.hid hlab
   have HWd:=Lib.hid hwd5
   clear hli h26 w1 hI hlab hwd5 hnF
   go_wp2_with fail
   refine Hli.out.mono ?_
   rintro e w8 ⟨rfl,hk8,ho8⟩
   have heb:=endL_bd (p:=H+f) (by omega) (j:=((n:Int)-6).toNat) (by omega)
   have HLN:=Lib.hid (show S.endL (H+f) ((n:Int)-6).toNat=S.endL (H+f) (n-6) from by congr 1;omega)
   obtain ⟨l,hl⟩:∃ l,l=S.endL (H+f) ((n:Int)-6).toNat:=⟨_,rfl⟩
   obtain ⟨M8,hM8⟩:∃ M8,M8=S.rsL H f m0 n:=⟨_,rfl⟩
   have HK8:=Lib.hid (show KAt w8 w.heap.size b p F H (4000/2) (S.wP [] [] Fs) M8 from by rw [hM8];unfold S.rsL;rw [<- Hmr.out];exact hk8)
   have HB8:=Lib.hid (show Below w.heap.size w w8 from HBj.out.trans (ho8.below HBj.out.size (fun k hk=>HFl.out k hk)))
   rw [<- hl] at heb HLN ⊢
   have HLl:=Lib.hid hl
   have HM8:=Lib.hid hM8
   clear hk8 ho8 HKj HBj Hli hl hM8 c1
   obtain ⟨_,_,_,_,_,_,e0,e1,e2,e3,e4⟩:=HK8.out.cells
   have hbl:=HK8.out.blt
   go_wp2_with fail
   refine (k_SetR 10 l HK8.out heb).mono ?_
   rintro e9 w9 ⟨rv,rfl,hk9,ho9⟩
   have HK9:=Lib.hid hk9
   have HB9:=Lib.hid (show Below w.heap.size w w9 from HB8.out.trans (ho9.below HB8.out.size (fun k hk=>HFl.out k hk)))
   clear hk9 ho9 HK8 HB8 e0 e1 e2 e3 e4 hbl
   obtain ⟨_,_,_,_,_,_,e0,e1,e2,e3,e4⟩:=HK9.out.cells
   have hbl:=HK9.out.blt
   go_wp2_with fail
   refine (k_SetR 1 4 HK9.out (by decide)).mono ?_
   rintro e9 w10 ⟨rv2,rfl,hk10,ho10⟩
   have HK10:=Lib.hid hk10
   have HB10:=Lib.hid (show Below w.heap.size w w10 from HB9.out.trans (ho10.below HB9.out.size (fun k hk=>HFl.out k hk)))
   clear hk10 ho10 HK9 HB9 e0 e1 e2 e3 e4 hbl
   obtain ⟨_,_,_,_,_,_,e0,e1,e2,e3,e4⟩:=HK10.out.cells
   have hbl:=HK10.out.blt
   have c1:(n:Int)%4294967296=n:=by omega
   have c2:(k:Int)%4294967296=k:=by omega
   go_wp2_with fail
   refine (k_SetR 2 n HK10.out (by omega)).mono ?_
   rintro e9 w11 ⟨rv3,rfl,hk11,ho11⟩
   have HK11:=Lib.hid hk11
   have HB11:=Lib.hid (show Below w.heap.size w w11 from HB10.out.trans (ho11.below HB10.out.size (fun k hk=>HFl.out k hk)))
   clear hk11 ho11 HK10 HB10 e0 e1 e2 e3 e4 hbl
   obtain ⟨_,_,_,_,_,_,e0,e1,e2,e3,e4⟩:=HK11.out.cells
   have hbl:=HK11.out.blt
   go_wp2_with fail
   refine (k_SetR 3 k HK11.out (by omega)).mono ?_
   rintro e9 w12 ⟨rv4,rfl,hk12,ho12⟩
   have HK12:=Lib.hid (show KAt w12 w.heap.size b p F H (4000/2) (S.wP [] [] Fs) (S.rsM H f m0 n k) from by
    have hM:S.rsM H f m0 n k=(((M8.setV 10 l).setV 1 4).setV 2 n).setV 3 k:=by rw [HM8.out,HLl.out];rfl
    rw [hM]
    exact hk12)
   have HB12:=Lib.hid (show Below w.heap.size w w12 from HB11.out.trans (ho12.below HB11.out.size (fun k hk=>HFl.out k hk)))
   clear hk12 ho12 HK11 HB11 e0 e1 e2 e3 e4 hbl
   have hfst:=HWr.out.fst
   have q2:=hfst.m2
   have q3:=hfst.m3
   have q4:=hfst.m4
   have q5:=hfst.m5
   have q7:=hfst.low 7 (by decide) (by decide)
   rw [<- Hm0.out,<- HH.out] at q2 q3
   rw [<- Hm0.out] at q4 q5 q7
   have Hcall:=Lib.hid (rests_called HK12.out HI.out HLab.out ⟨hH13,by omega⟩ HWd.out HRd.out.2 hfb hn30 hkn q2 q3 q4 q5 q7)
   clear hfst q2 q3 q4 q5 q7
   go_wp2_with fail
   refine Hcall.out.mono ?_
   rintro e9 w14 ⟨rfl,C,ho,F14,hk14,ho14,hf14⟩
   have HO:=Lib.hid ho
   have HK14:=Lib.hid hk14
   have HB14:=Lib.hid (show Below w.heap.size w w14 from HB12.out.trans (ho14.below HB12.out.size (fun k hk=>HFl.out k hk)))
   have HL14:=Lib.hid (HLV.out.on HB14.out)
   have hreg1:=k_Reg 1 HK14.out
   rw [rd_reg (by decide) (by decide),ho.r1] at hreg1
   have hreg2:=k_Reg 2 HK14.out
   rw [rd_reg (by decide) (by decide),ho.r2] at hreg2
   have Hreg1:=Lib.hid hreg1
   have Hreg2:=Lib.hid hreg2
   clear ho hk14 ho14 hf14 HK12 HB12 Hcall hreg1 hreg2
   obtain ⟨_,_,_,_,_,_,e0,e1,e2,e3,e4⟩:=HK14.out.cells
   have hbl:=HK14.out.blt
   go_wp2_with fail
   refine Hreg1.out.mono ?_
   rintro e9 _ ⟨rfl,rfl⟩
   go_wp2_with fail
   refine Hreg2.out.mono ?_
   rintro e9 _ ⟨rfl,rfl⟩
   clear Hreg1 Hreg2
   go_wp2_with fail
   go_loopw [12] (fun v12 wl=>∃ i:Nat,i<=6/\i<=k/\v12=.int .i64 i/\w14=wl) (fun v12 _=>(6-intOf v12).toNat)
   case atStart=>exact ⟨0,by omega,by omega,rfl,rfl⟩
   case round =>
    obtain ⟨i,hi6,hik,rfl,rfl⟩:=hrel
    by_cases hlt:i<6/\i<k
    ·obtain ⟨hlt1,hlt2⟩:=hlt
     have d1:decide ((i:Int)<6)=true:=by simp;omega
     have d2:decide ((i:Int)<k)=true:=by simp;omega
     have c5:IntKind.i64.wrap (94+(i:Int))=94+i:=IntWalk.i64_in _ ⟨by omega,by omega⟩
     have c6:IntKind.i64.wrap (4*(94+(i:Int)))=4*(94+i):=IntWalk.i64_in _ ⟨by omega,by omega⟩
     have c7:4*(94+(i:Int))%4294967296=4*(94+i):=by omega
     have c8:IntKind.i64.wrap (4+(i:Int))=4+i:=IntWalk.i64_in _ ⟨by omega,by omega⟩
     have c9:IntKind.i64.wrap ((i:Int)+1)=i+1:=IntWalk.i64_in _ ⟨by omega,by omega⟩
     have hreg:=k_Reg (4+i) HK14.out
     rw [rd_reg (by omega) (by omega),HO.out.ra i hlt1 hlt2] at hreg
     have Hreg:=Lib.hid hreg
     clear hreg
     go_wp2_with fail
     refine Hreg.out.mono ?_
     rintro e9 _ ⟨rfl,rfl⟩
     go_wp2_with fail
     go_roundw
     case rel=>exact ⟨i+1,by omega,by omega,rfl,by first | trivial | rfl⟩
     case measure=>simp [intOf];omega
    ·have hout:(decide ((i:Int)<6)=false)\/(decide ((i:Int)<6)=true/\decide ((i:Int)<k)=false):=by
      by_cases q:i<6
      ·right
       refine ⟨by simp;omega,by simp;omega⟩
      ·left
       simp
       omega
     have Hout:=Lib.hid hout
     clear hlt hout
     go_upto_region 19 with fail
     go_cut [114] from 108 to 113 (fun v114 wc=>v114=.bool false/\w14=wc)
     case first =>
      rcases Hout.out with d1 | ⟨d1,d2⟩
      ·go_wp2_with fail
       go_meet
       exact ⟨rfl,rfl⟩
      ·have hge:(k:Int)<=i:=by simpa using d2
       go_wp2_with fail
       go_meet
       exact ⟨by first | rfl | (simp;omega),rfl⟩
     case rest =>
     obtain ⟨rfl,rfl⟩:=hcut
     obtain ⟨L,hLl,hLn,hLi,hLv⟩:=HO.out.lst
     obtain ⟨v,hv⟩:∃ v,v=if k<6 then C.rd (4+k) else C.rd 10:=⟨_,rfl⟩
     obtain ⟨fr,hfr⟩:∃ fr,fr=min k 6:=⟨_,rfl⟩
     rw [<- hv] at hLl hLv
     rw [<- hfr] at hLn hLi
     rw [<- HLN.out] at hLv
     have Hv:=Lib.hid hv
     have Hfr:=Lib.hid hfr
     have HLl2:=Lib.hid hLl
     have HLi:=Lib.hid hLi
     have HLv:=Lib.hid hLv
     have hrg10:=k_Reg 10 HK14.out
     rw [rd_reg (by decide) (by decide)] at hrg10
     have Hrg10:=Lib.hid hrg10
     obtain ⟨T,hT⟩:∃ T:Nat,T=L.length:=⟨_,rfl⟩
     rw [<- hT] at hLn
     have HT:=Lib.hid hT
     have hfr6:fr<=6/\fr<=k:=by omega
     have HTn:=Lib.hid (show (T:Int)=n-fr from by omega)
     have hT30:T<=30:=by omega
     clear hLl hLi hLv hv hrg10 hT hfr hLn
     go_wp2_with fail
     refine Hrg10.out.mono ?_
     rintro e9 _ ⟨rfl,rfl⟩
     clear Hrg10
     obtain ⟨v0,hv0⟩:∃ v0,v0=C.rd 10:=⟨_,rfl⟩
     have Hv0:=Lib.hid hv0
     rw [<- hv0]
     clear hv0
     go_upto_if 136 with fail
     go_cut [13,14] (fun v13 v14 wc=>v13=.int .i64 fr/\v14=.int .u32 v/\w14=wc)
     case first =>
      by_cases hk6:k<6
      ·have hf2:k=fr:=by rw [Hfr.out];omega
       have hreg:=k_Reg (4+k) HK14.out
       rw [rd_reg (by omega) (by omega)] at hreg
       have hv2:C.rd (4+k)=v:=by rw [Hv.out,if_pos hk6]
       rw [hv2] at hreg
       have Hreg:=Lib.hid hreg
       have d1:decide ((k:Int)<6)=true:=by simp;omega
       have c8:IntKind.i64.wrap (4+(k:Int))=4+k:=IntWalk.i64_in _ ⟨by omega,by omega⟩
       have Hf2:=Lib.hid hf2
       clear hreg hf2
       go_wp2_with fail
       refine Hreg.out.mono ?_
       rintro e9 _ ⟨rfl,rfl⟩
       go_wp2_with fail
       go_meet
       exact ⟨by rw [Hf2.out],rfl,rfl⟩
      ·have hf2:(6:Int)=fr:=by rw [Hfr.out];omega
       have hv2:v0=v:=by rw [Hv.out,if_neg hk6];exact Hv0.out
       have d1:decide ((k:Int)<6)=false:=by simp;omega
       have Hf2:=Lib.hid hf2
       have Hv2:=Lib.hid hv2
       clear hf2 hv2
       go_wp2_with fail
       go_meet
       exact ⟨by rw [Hf2.out],by rw [Hv2.out],rfl⟩
     case rest =>
     obtain ⟨rfl,rfl,rfl⟩:=hcut
     have hit:=k_items v L HK14.out HLl2.out (by rw [<- HT.out];omega)
     rw [<- HT.out] at hit
     have Hit:=Lib.hid hit
     clear hit
     go_wp2_with fail
     refine Hit.out.mono ?_
     rintro e9 w15 ⟨A,cc,rfl,ho,hb15⟩
     have HO15:=Lib.hid ho
     have HB15:=Lib.hid (HB14.out.trans (hb15.mono HB14.out.size))
     have HL15:=Lib.hid (HL14.out.on hb15)
     have hrest:=k_Rest n k w15 (by omega) (by omega)
     rw [show 3*((n:Int)-min (k:Int) 6)=3*(T:Int) from by have:=Hfr.out;have:=HTn.out;omega] at hrest
     obtain ⟨q3,hq3⟩:∃ q3,q3=3*(T:Int):=⟨_,rfl⟩
     rw [<- hq3] at hrest
     have Hrest:=Lib.hid hrest
     have c5:IntKind.i64.wrap (3*(T:Int))=q3:=by rw [hq3];exact IntWalk.i64_in _ ⟨by omega,by omega⟩
     have c6:max 0 q3=q3:=by omega
     clear ho hb15 hrest Hit hq3
     go_upto_region 29 with fail
     go_cut [171] from 150 to 170 (fun v171 wc=>v171=.bool false/\w15=wc)
     case first =>
      by_cases hT0:T=0
      ·have d1:decide ((T:Int)>0)=false:=by simp;omega
       have d0:decide (0<T)=false:=by simp;omega
       have hT1:T<=0:=by omega
       clear hT0
       go_wp2_with fail
       refine Hrest.out.mono ?_
       rintro e9 _ ⟨rfl,rfl⟩
       go_wp2_with fail
       all_goals first | (exfalso;omega) | skip
       go_meet
       exact ⟨rfl,rfl⟩
      ·have d1:decide ((T:Int)>0)=true:=by simp;omega
       have hne:=HLv.out (fun e=>hT0 (by rw [HT.out,e];rfl))
       have d0:decide (0<T)=true:=by simp;omega
       have d2:(v==l)=false:=beq_eq_false_iff_ne.2 hne
       have hT1:0<T:=by omega
       clear hne hT0
       go_wp2_with fail
       refine Hrest.out.mono ?_
       rintro e9 _ ⟨rfl,rfl⟩
       go_wp2_with fail
       all_goals first | (exfalso;omega) | skip
       go_meet
       exact ⟨by first | rfl | simp,rfl⟩
     case rest =>
     obtain ⟨rfl,rfl⟩:=hcut
     clear Hrest c5 c6
     go_wp2_with fail
     go_loopw [17] (fun v17 wl=>∃ i:Nat,i<=T/\v17=.int .i64 i/\w15=wl) (fun v17 _=>((T:Int)-intOf v17).toNat)
     case atStart=>exact ⟨0,by omega,rfl,rfl⟩
     case round =>
      obtain ⟨i,hiT,rfl,rfl⟩:=hrel
      by_cases hlt:i<T
      ·obtain ⟨gg,rfl,hg1,hg2,hg3,hg4,_⟩:=ownsRow_at HO15.out (by omega)
       have z0:w15.cell? ⟨gg,i,none⟩=some (.int .u32 (4*(94+(fr:Int)+i))):=by
        have h1:=hg4 i (by omega)
        rw [List.getElem?_map,HLi.out i (by rw [<- HT.out];exact hlt)] at h1
        exact h1
       have d1:decide ((i:Int)<T)=true:=by simp;omega
       have c4:IntKind.i64.wrap (94+(fr:Int))=94+fr:=IntWalk.i64_in _ ⟨by omega,by omega⟩
       have c5:IntKind.i64.wrap (94+(fr:Int)+i)=94+(fr:Int)+i:=IntWalk.i64_in _ ⟨by omega,by omega⟩
       have c6:IntKind.i64.wrap (4*(94+(fr:Int)+i))=4*(94+(fr:Int)+i):=IntWalk.i64_in _ ⟨by omega,by omega⟩
       have c7:4*(94+(fr:Int)+i)%4294967296=4*(94+(fr:Int)+i):=by omega
       have c9:IntKind.i64.wrap ((i:Int)+1)=i+1:=IntWalk.i64_in _ ⟨by omega,by omega⟩
       clear hg4
       go_wp2_with fail
       go_roundw
       case rel=>exact ⟨i+1,by omega,rfl,by first | trivial | rfl⟩
       case measure=>simp [intOf];omega
      ·have hie:i=T:=by omega
       subst hie
       have d1:decide ((i:Int)<i)=false:=by simp
       go_wp2_with fail
       refine (law26_works w15 HL15.out).mono ?_
       rintro e9 w16 ⟨rfl,hb16⟩
       have HB16:=Lib.hid (HB15.out.trans (hb16.mono HB15.out.size))
       clear hb16
       go_wp2_with fail
       go_ret
       exact ⟨rfl,HB16.out⟩
end
end Go.Proofs.YtlldagdhlfpihaaGreatDoor
