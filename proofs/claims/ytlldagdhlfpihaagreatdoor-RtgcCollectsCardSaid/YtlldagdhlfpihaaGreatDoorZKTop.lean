/- Parts. -/
import Derived.Test.YtlldagdhlfpihaaGreatDoorZGStv
import Derived.ProofKit
import Derived.Carry
set_option linter.unusedVariables false
set_option linter.unusedSimpArgs false
set_option linter.unusedSectionVars false
namespace Go.Proofs.YtlldagdhlfpihaaGreatDoor
section
open Go.ChangeShapes Go.WideShapes Go.ChangeAt Go.RowKit
section
variable {H:Type}{enc:TypeId×Value->H}{P:Program}
theorem trod_below {t:TypeId}(hl:laidOutB P=true)(hr:P.readableRec t=true)(hrow:t<P.types.size){W W':World}{v:Value}{d:DataW H}{ps:List MemPlace}
 (h:DataW.Trod enc P W 0 (fun _=>true) true t v d ps) (hb:Below W.heap.size W W') (hlt:∀ x∈ps,x.block<W.heap.size) (sp:Nat->Bool) (hs:∀ x∈ps,sp x.block=true) :
 DataW.Trod enc P W' 0 sp true t v d ps :=
 WideElems.Trod_stays hl hr hrow h (fun x hx=>hb.same (hlt x hx)) hs
end
end
section
open Go.RowKit
section
variable {m:S.Mach}
theorem puts_rd (m:S.Mach)(l:List (Int×Int))(j:Int):(S.puts m l).rd j=m.rd j:=by
 unfold S.Mach.rd
 rw [(puts_same m l).1]
end
section
variable {g:S.Gr}{a:Int}(hg:g.Ok a)
include hg
end
end
section
open Go.RowKit
theorem puts_out {m:S.Mach}{x:Int}(hx:0<=x):∀ {pl:List (Int×Int)},(∀ q∈pl,0<=q.1/\q.1<m.mem.length)->x ∉ pl.map Prod.fst->(S.puts m pl).mv x=m.mv x:=by
 intro pl
 induction pl generalizing m with
 | nil=>intro _ _;rfl
 | cons p r ih =>
  intro h1 h2
  have hp:=h1 p List.mem_cons_self
  have hl:(m.putV p.1 p.2).mem.length=m.mem.length:=(putV_same m p.1 p.2).2.2.2.2.2.2
  rw [S.puts,ih (m:=m.putV p.1 p.2) (fun q hq=>by rw [hl];exact h1 q (List.mem_cons_of_mem _ hq)) (fun q=>h2 (List.mem_cons_of_mem _ q)),putV_mv hp.1 hp.2 hx,if_neg (fun e=>h2 (by rw [e];exact List.mem_cons_self))]
theorem puts_in {m:S.Mach}:∀ {pl:List (Int×Int)},(∀ q∈pl,0<=q.1/\q.1<m.mem.length)->(pl.map Prod.fst).Nodup->∀ q∈pl,(S.puts m pl).mv q.1=q.2:=by
 intro pl
 induction pl generalizing m with
 | nil=>intro _ _ q hq;cases hq
 | cons p r ih =>
  intro h1 h2 q hq
  have hp:=h1 p List.mem_cons_self
  have hl:(m.putV p.1 p.2).mem.length=m.mem.length:=(putV_same m p.1 p.2).2.2.2.2.2.2
  have hr:∀ q∈r,0<=q.1/\q.1<(m.putV p.1 p.2).mem.length:=fun q hq=>by rw [hl];exact h1 q (List.mem_cons_of_mem _ hq)
  rw [List.map_cons,List.nodup_cons] at h2
  rcases List.mem_cons.1 hq with rfl | hq
  ·rw [S.puts,puts_out hp.1 hr h2.1,putV_mv hp.1 hp.2 hp.1,if_pos rfl]
  ·rw [S.puts]
   exact ih hr h2.2 q hq
theorem puts_wd {gw sw F:List Int}{size:Int}(hI:(S.wImg true gw sw F size).Ok):∀ {pl:List (Int×Int)} {m:S.Mach},S.Wd gw sw F size m->(∀ q∈pl,0<=q.1/\q.1<size/\¬ (S.wImg true gw sw F size).code q.1/\0<=q.2/\q.2<=4294967295)->S.Wd gw sw F size (S.puts m pl):=by
 intro pl
 induction pl with
 | nil=>intro m h _;exact h
 | cons p r ih =>
  intro m h hp
  obtain ⟨p1,p2,p3,p4⟩:=hp p List.mem_cons_self
  exact ih (wd_put hI h ⟨p1,p2⟩ p3 p4) fun q hq=>hp q (List.mem_cons_of_mem _ hq)
def S.setB (b:Int)(s:Nat):Int:=((b.toNat ||| 2^s:Nat):Int)
theorem bit_nat (n:Nat)(i:Nat):S.bit (n:Int) i=n.testBit i:=by
 unfold S.bit
 rw [Nat.testBit_eq_decide_div_mod_eq]
 have e:(n:Int)/2^i%2=((n/2^i%2:Nat):Int):=by
  simp
 rw [e]
 by_cases c:n/2^i%2=1
 ·rw [c];rfl
 ·have h0:n/2^i%2=0:=by omega
  rw [h0];rfl
theorem setB_bit {b:Int}(hb:0<=b)(s i:Nat):S.bit (S.setB b s) i=(S.bit b i || decide (s=i)):=by
 obtain ⟨n,rfl⟩:=Int.eq_ofNat_of_zero_le hb
 unfold S.setB
 rw [bit_nat,bit_nat,Int.toNat_natCast,Nat.testBit_or,Nat.testBit_two_pow]
theorem setB_bd {b:Int}(hb:0<=b/\b<4294967296){s:Nat}(hs:s<32):0<=S.setB b s/\S.setB b s<4294967296:=by
 unfold S.setB
 have h1:b.toNat<2^32:=by omega
 have h2:2^s<2^32:=Nat.pow_lt_pow_right (by decide) hs
 have h3:=Nat.or_lt_two_pow h1 h2
 generalize b.toNat ||| 2^s=q at *
 omega
theorem bit_zero (i:Nat):S.bit 0 i=false:=by
 unfold S.bit
 simp
structure S.Stt where
 nodes:List S.GN
 roots:List (Int×Int)
 glob:List (Int×Int)
 stat:List (Int×Int)
 slots:List (Int×Int)
 places:List Int
 sym:Int×Int
structure S.Stt.Ok (x:S.Stt):Prop where
 nodes:∀ n∈x.nodes,0<=n.ty/\∀ y∈n.ws,0<=y.1/\y.1<4294967296/\0<=y.2
 roots:∀ y∈x.roots,S.wf y
 glob:∀ y∈x.glob,S.wf y
 stat:∀ y∈x.stat,S.wf y
 slots:∀ y∈x.slots,S.wf y
 places:∀ y∈x.places,0<=y/\y<256
 sym:S.wf x.sym
def S.Stt.nr (x:S.Stt):Nat:=min x.roots.length 8
def S.Stt.ng (x:S.Stt):Nat:=min x.glob.length 6
def S.Stt.ns (x:S.Stt):Nat:=min x.stat.length 6
def S.Stt.nq (x:S.Stt):Nat:=min (min x.slots.length x.places.length) 6
def S.segP (g:S.Gr)(a:Int)(l:List (Int×Int))(n:Nat):List (Int×Int):=(List.range n).map fun i=>(a+(i:Nat),g.word (l.getD i (0,0)))
theorem segP_succ (g:S.Gr)(a:Int)(l:List (Int×Int))(n:Nat):S.segP g a l (n+1)=S.segP g a l n++[(a+(n:Nat),g.word (l.getD n (0,0)))]:=by
 unfold S.segP
 rw [List.range_succ,List.map_append]
 rfl
theorem segP_len (g:S.Gr)(a:Int)(l:List (Int×Int))(n:Nat):(S.segP g a l n).length=n:=by
 unfold S.segP
 rw [List.length_map,List.length_range]
theorem segP_fst (g:S.Gr)(a:Int)(l:List (Int×Int))(n:Nat)(x:Int):x∈(S.segP g a l n).map Prod.fst↔a<=x/\x<a+n:=by
 constructor
 ·intro h
  obtain ⟨q,hq,rfl⟩:=List.mem_map.1 h
  obtain ⟨i,hi,rfl⟩:=List.mem_map.1 (show q∈(List.range n).map _ from hq)
  have:=List.mem_range.1 hi
  show a<=a+(i:Int)/\a+(i:Int)<a+n
  omega
 ·intro h
  refine List.mem_map.2 ⟨(x,g.word (l.getD (x-a).toNat (0,0))),List.mem_map.2 ⟨(x-a).toNat,List.mem_range.2 (by omega),?_⟩,rfl⟩
  rw [show a+(((x-a).toNat:Nat):Int)=x from by omega]
theorem segP_nodup (g:S.Gr)(a:Int)(l:List (Int×Int)):∀ n:Nat,((S.segP g a l n).map Prod.fst).Nodup
 | 0=>List.nodup_nil
 | n+1=>by
  rw [segP_succ,List.map_append,List.nodup_append]
  refine ⟨segP_nodup g a l n,by simp,fun x hx y hy e=>?_⟩
  have:=(segP_fst g a l n x).1 hx
  rw [List.map_cons,List.map_nil,List.mem_singleton] at hy
  subst hy
  have e2:x=a+(n:Int):=e
  omega
theorem segP_snd {g:S.Gr}{a0:Int}(hg:g.Ok a0)(hz:a0+S.sizes g.ns<=335544320){a:Int}{l:List (Int×Int)}{n:Nat}(hn:n<=l.length)(hl:∀ y∈l,S.wf y):∀ q∈S.segP g a l n,g.fit q.2:=fun q hq=>by
 obtain ⟨i,hi,rfl⟩:=List.mem_map.1 (show q∈(List.range n).map _ from hq)
 have:=List.mem_range.1 hi
 have hil:i<l.length:=by omega
 show g.fit (g.word (l.getD i (0,0)))
 rw [List.getD_eq_getElem?_getD,List.getElem?_eq_getElem hil]
 have hw:=hl _ (List.getElem_mem hil)
 exact gr_fit hg ⟨hw.1,hw.2.1,hw.2.2.1⟩ hz
def S.slotSt (g:S.Gr)(sl:List (Int×Int))(pl:List Int):Nat->Int×Int×List (Int×Int)
 | 0=>(0,0,[])
 | i+1 =>
  if (pl.getD i 0%64).toNat<32 then
   if S.bit (S.slotSt g sl pl i).1 (pl.getD i 0%64).toNat then S.slotSt g sl pl i
   else (S.setB (S.slotSt g sl pl i).1 (pl.getD i 0%64).toNat,(S.slotSt g sl pl i).2.1,(S.slotSt g sl pl i).2.2++[(32+pl.getD i 0%64,g.word (sl.getD i (0,0)))])
  else
   if S.bit (S.slotSt g sl pl i).2.1 ((pl.getD i 0%64).toNat-32) then S.slotSt g sl pl i
   else ((S.slotSt g sl pl i).1,S.setB (S.slotSt g sl pl i).2.1 ((pl.getD i 0%64).toNat-32),(S.slotSt g sl pl i).2.2++[(32+pl.getD i 0%64,g.word (sl.getD i (0,0)))])
def S.SlX (b0 b1 x:Int):Prop:=(∃ i:Nat,i<32/\x=32+i/\S.bit b0 i=true)\/(∃ i:Nat,i<32/\x=64+i/\S.bit b1 i=true)
structure S.SlI (g:S.Gr)(q:Int×Int×List (Int×Int)):Prop where
 b0:0<=q.1/\q.1<4294967296
 b1:0<=q.2.1/\q.2.1<4294967296
 nd:(q.2.2.map Prod.fst).Nodup
 at_:∀ x,x∈q.2.2.map Prod.fst↔S.SlX q.1 q.2.1 x
 fit:∀ y∈q.2.2,g.fit y.2
theorem slX_rng {b0 b1 x:Int}(h:S.SlX b0 b1 x):32<=x/\x<96:=by
 rcases h with ⟨i,hi,rfl,_⟩ | ⟨i,hi,rfl,_⟩ <;> omega
theorem slI_step {g:S.Gr}{b0 b1:Int}{l:List (Int×Int)}(h:S.SlI g (b0,b1,l)){s:Nat}{v:Int}(hv:g.fit v)(hs:s<64) :
 (s<32->S.bit b0 s=false->S.SlI g (S.setB b0 s,b1,l++[(32+(s:Int),v)]))/\(¬ s<32->S.bit b1 (s-32)=false->S.SlI g (b0,S.setB b1 (s-32),l++[(32+(s:Int),v)])):=by
 have hb0:=h.b0
 have hb1:=h.b1
 simp only at hb0 hb1
 have nd:¬ S.SlX b0 b1 (32+(s:Int))->((l++[(32+(s:Int),v)]).map Prod.fst).Nodup:=fun hn=>by
  rw [List.map_append,List.nodup_append]
  refine ⟨h.nd,by simp,fun x hx y hy e=>?_⟩
  rw [List.map_cons,List.map_nil,List.mem_singleton] at hy
  subst hy
  have e2:x=32+(s:Int):=e
  subst e2
  exact hn ((h.at_ _).1 hx)
 have fit:∀ y∈l++[(32+(s:Int),v)],g.fit y.2:=fun y hy=>by
  rcases List.mem_append.1 hy with q | q
  ·exact h.fit y q
  ·rw [List.mem_singleton] at q
   subst q
   exact hv
 have mem:∀ x,x∈(l++[(32+(s:Int),v)]).map Prod.fst↔S.SlX b0 b1 x\/x=32+(s:Int):=fun x=>by
  rw [List.map_append,List.mem_append,List.map_cons,List.map_nil,List.mem_singleton]
  exact or_congr (h.at_ x) Iff.rfl
 refine ⟨fun h1 h2=>⟨setB_bd hb0 h1,hb1,nd ?_,fun x=>(mem x).trans ?_,fit⟩,fun h1 h2=>⟨hb0,setB_bd hb1 (by omega),nd ?_,fun x=>(mem x).trans ?_,fit⟩⟩
 ·rintro (⟨i,hi,e,hb⟩ | ⟨i,hi,e,hb⟩)
  ·have:i=s:=by omega
   subst this
   rw [h2] at hb
   cases hb
  ·omega
 ·constructor
  ·rintro ((⟨i,hi,e,hb⟩ | q) | rfl)
   ·exact .inl ⟨i,hi,e,by rw [setB_bit hb0.1,hb];rfl⟩
   ·exact .inr q
   ·exact .inl ⟨s,h1,rfl,by rw [setB_bit hb0.1];simp⟩
  ·rintro (⟨i,hi,rfl,hb⟩ | q)
   ·rw [setB_bit hb0.1] at hb
    by_cases c:s=i
    ·subst c
     exact .inr rfl
    ·rw [decide_eq_false c,Bool.or_false] at hb
     exact .inl (.inl ⟨i,hi,rfl,hb⟩)
   ·exact .inl (.inr q)
 ·rintro (⟨i,hi,e,hb⟩ | ⟨i,hi,e,hb⟩)
  ·omega
  ·have:i=s-32:=by omega
   subst this
   rw [h2] at hb
   cases hb
 ·constructor
  ·rintro ((q | ⟨i,hi,e,hb⟩) | rfl)
   ·exact .inl q
   ·exact .inr ⟨i,hi,e,by rw [setB_bit hb1.1,hb];rfl⟩
   ·exact .inr ⟨s-32,by omega,by omega,by rw [setB_bit hb1.1];simp⟩
  ·rintro (q | ⟨i,hi,rfl,hb⟩)
   ·exact .inl (.inl q)
   ·rw [setB_bit hb1.1] at hb
    by_cases c:s-32=i
    ·exact .inr (by omega)
    ·rw [decide_eq_false c,Bool.or_false] at hb
     exact .inl (.inr ⟨i,hi,rfl,hb⟩)
theorem slotSt_ok {g:S.Gr}{a0:Int}(hg:g.Ok a0)(hz:a0+S.sizes g.ns<=335544320){sl:List (Int×Int)}{pl:List Int}(hs:∀ y∈sl,S.wf y):∀ n:Nat,n<=sl.length->S.SlI g (S.slotSt g sl pl n)
 | 0,_=>⟨⟨Int.le_refl 0,by show (0:Int)<4294967296;decide⟩,⟨Int.le_refl 0,by show (0:Int)<4294967296;decide⟩,List.nodup_nil,fun x=>⟨fun h=>(List.not_mem_nil h).elim,fun h=>by
  rcases h with ⟨i,_,_,hb⟩ | ⟨i,_,_,hb⟩
  ·rw [show (S.slotSt g sl pl 0).1=0 from rfl,bit_zero] at hb;cases hb
  ·rw [show (S.slotSt g sl pl 0).2.1=0 from rfl,bit_zero] at hb;cases hb⟩,fun y hy=>(List.not_mem_nil hy).elim⟩
 | n+1,h=>by
  have ih:=slotSt_ok hg hz (pl:=pl) hs n (by omega)
  have hil:n<sl.length:=by omega
  have hw:=hs _ (List.getElem_mem hil)
  have hv:g.fit (g.word (sl.getD n (0,0))):=by
   rw [List.getD_eq_getElem?_getD,List.getElem?_eq_getElem hil]
   exact gr_fit hg ⟨hw.1,hw.2.1,hw.2.2.1⟩ hz
  obtain ⟨q,hq⟩:∃ q,q=S.slotSt g sl pl n:=⟨_,rfl⟩
  obtain ⟨s,hse⟩:∃ s,s=(pl.getD n 0%64).toNat:=⟨_,rfl⟩
  have hs64:s<64:=by omega
  have es:pl.getD n 0%64=(s:Int):=by omega
  rw [S.slotSt,<- hse,<- hq,es]
  rw [<- hq] at ih
  obtain ⟨b0,b1,l⟩:=q
  obtain ⟨k1,k2⟩:=slI_step ih hv hs64
  split
  ·rename_i c
   split
   ·exact ih
   ·rename_i c2
    exact k1 c (by simpa using c2)
  ·rename_i c
   split
   ·exact ih
   ·rename_i c2
    exact k2 c (by simpa using c2)
end
section
open Go.RowKit
section
variable {gw sw F:List Int}{size H half:Int}{g:S.Gr}
theorem grm_mk (hI:∀ b,(S.wImg b gw sw F size).Ok)(hH:(S.wImg true gw sw F size).lab S.kEnd=H)(hsz:H+2*half<=size)(h0:0<=half)(hg:g.Ok H){mem:Int->Int}
 (hlaid:∀ j,j<g.ns.length->mem (g.adr j)=S.headW (g.nd j).ty (g.nd j).ws.length/\∀ (k:Nat) (x:Int×Int),(g.nd j).ws[k]?=some x->mem (g.adr j+1+k)=g.word x) (hfit:S.sizes g.ns<=half)
 {pl:List (Int×Int)} (hpl:∀ q∈pl,mem q.1=q.2/\g.fit q.2) {n0:Int} {l:List Nat} (re:S.Reached g (pl.map Prod.snd) n0 l) {cnt n:Nat} (m2:mem 2=H) (m3:mem 3=H+half) (m4:mem 4=half) (m8:mem 8=cnt) (c16:cnt<=16)
 (fm:(mem 6=0/\n=0)\/(mem 6=9/\n=2/\mem 9=2/\(0<=mem 10/\mem 10<4294967296)/\(0<=mem 11/\mem 11<4294967296)))
 (root:∀ x,S.RX (S.wImg true gw sw F size) mem cnt n x->x∈pl.map Prod.fst\/(0<=mem x/\mem x<4294967296/\mem x%4≠1)) (hat:∀ x∈pl.map Prod.fst,S.RX (S.wImg true gw sw F size) mem cnt n x) :
 S.GrM gw sw F size g H (pl.map Prod.snd) (pl.map Prod.fst) mem half H (H+half) (H+S.sizes g.ns) (List.range g.ns.length) g.adr n0 l cnt n:=by
 have hs2:=(hI true).size2
 have hsz2:(S.wImg true gw sw F size).size=size:=rfl
 have e:(pl.map Prod.fst).map mem=pl.map Prod.snd:=by
  rw [List.map_map]
  exact List.map_congr_left fun q hq=>(hpl q hq).1
 refine ⟨⟨by rw [hH];exact hsz,h0,.inl ⟨hH.symm,by rw [hH]⟩⟩,hg,by omega,?_,fun x hx=>?_,by omega,by rw [total_range hg];exact hfit,re,m2,m3,m4,m8,c16,fm,root,hat⟩
 ·rw [e]
  exact laid_shape hg (by omega) hlaid _
 ·obtain ⟨q,hq,rfl⟩:=List.mem_map.1 hx
  exact (hpl q hq).2
end
def S.Stt.q (x:S.Stt)(g:S.Gr):Int×Int×List (Int×Int):=S.slotSt g x.slots x.places x.nq
def S.Stt.pl (x:S.Stt)(g:S.Gr):List (Int×Int):=S.segP g 16 x.roots x.nr++(S.segP g 1312 x.glob x.ng++(S.segP g (1312+x.ng) x.stat x.ns++((5,g.word x.sym)::(x.q g).2.2)))
def S.zeros (n:Nat):List Int:=List.replicate n 0
def S.sttM (x:S.Stt)(g:S.Gr)(m1:S.Mach):S.Mach:=((((S.puts (m1.putV 8 x.nr) (x.pl g)).putV 9 2).putV 10 (x.q g).1).putV 11 (x.q g).2.1).putV 6 9
section
variable {g:S.Gr}{a0:Int}(hg:g.Ok a0)(hz:a0+S.sizes g.ns<=335544320){x:S.Stt}(hx:x.Ok)
theorem stt_le (x:S.Stt):x.nr<=x.roots.length/\x.nr<=8/\x.ng<=x.glob.length/\x.ng<=6/\x.ns<=x.stat.length/\x.ns<=6/\x.nq<=x.slots.length/\x.nq<=x.places.length/\x.nq<=6:=by
 unfold S.Stt.nr S.Stt.ng S.Stt.ns S.Stt.nq
 omega
include hg hz hx
theorem stt_q:S.SlI g (x.q g):=slotSt_ok hg hz hx.slots _ (stt_le x).2.2.2.2.2.2.1
theorem stt_fst (y:Int):y∈(x.pl g).map Prod.fst↔(16<=y/\y<16+x.nr)\/(1312<=y/\y<1312+x.ng+x.ns)\/y=5\/S.SlX (x.q g).1 (x.q g).2.1 y:=by
 unfold S.Stt.pl
 rw [List.map_append,List.mem_append,segP_fst,List.map_append,List.mem_append,segP_fst,List.map_append,List.mem_append,segP_fst,List.map_cons,List.mem_cons,(stt_q hg hz hx).at_]
 constructor
 ·rintro (q | q | q | q | q)
  ·exact .inl q
  ·exact .inr (.inl (by omega))
  ·exact .inr (.inl (by omega))
  ·exact .inr (.inr (.inl q))
  ·exact .inr (.inr (.inr q))
 ·rintro (q | q | q | q)
  ·exact .inl q
  ·by_cases c:y<1312+x.ng
   ·exact .inr (.inl ⟨q.1,c⟩)
   ·exact .inr (.inr (.inl (by omega)))
  ·exact .inr (.inr (.inr (.inl q)))
  ·exact .inr (.inr (.inr (.inr q)))
theorem stt_nodup:((x.pl g).map Prod.fst).Nodup:=by
 obtain ⟨h1,h2,h3,h4,h5,h6,h7,h8,h9⟩:=stt_le x
 have hq:=stt_q hg hz hx
 have sl:∀ y∈(x.q g).2.2.map Prod.fst,32<=y/\y<96:=fun y hy=>slX_rng ((hq.at_ y).1 hy)
 unfold S.Stt.pl
 rw [List.map_append,List.nodup_append]
 refine ⟨segP_nodup _ _ _ _,?_,fun y hy z hz e=>?_⟩
 ·rw [List.map_append,List.nodup_append]
  refine ⟨segP_nodup _ _ _ _,?_,fun y hy z hz e=>?_⟩
  ·rw [List.map_append,List.nodup_append]
   refine ⟨segP_nodup _ _ _ _,?_,fun y hy z hz e=>?_⟩
   ·rw [List.map_cons,List.nodup_cons]
    exact ⟨fun h=>by have:=sl _ h;simp at this,hq.nd⟩
   ·have q1:=(segP_fst _ _ _ _ y).1 hy
    rw [List.map_cons,List.mem_cons] at hz
    rcases hz with rfl | hz
    ·have:y=5:=e
     omega
    ·have:=sl _ hz
     omega
  ·have q1:=(segP_fst _ _ _ _ y).1 hy
   rw [List.map_append,List.mem_append,segP_fst,List.map_cons,List.mem_cons] at hz
   rcases hz with hz | rfl | hz
   ·omega
   ·have:y=5:=e
    omega
   ·have:=sl _ hz
    omega
 ·have q1:=(segP_fst _ _ _ _ y).1 hy
  rw [List.map_append,List.mem_append,segP_fst,List.map_append,List.mem_append,segP_fst,List.map_cons,List.mem_cons] at hz
  rcases hz with hz | hz | rfl | hz
  ·omega
  ·omega
  ·have:y=5:=e
   omega
  ·have:=sl _ hz
   omega
theorem stt_fit:∀ q∈x.pl g,g.fit q.2:=fun q h=>by
 obtain ⟨h1,h2,h3,h4,h5,h6,h7,h8,h9⟩:=stt_le x
 unfold S.Stt.pl at h
 rcases List.mem_append.1 h with h | h
 ·exact segP_snd hg hz h1 hx.roots q h
 rcases List.mem_append.1 h with h | h
 ·exact segP_snd hg hz h3 hx.glob q h
 rcases List.mem_append.1 h with h | h
 ·exact segP_snd hg hz h5 hx.stat q h
 rcases List.mem_cons.1 h with rfl | h
 ·have hw:=hx.sym
  exact gr_fit hg ⟨hw.1,hw.2.1,hw.2.2.1⟩ hz
 ·exact (stt_q hg hz hx).fit q h
end
section
variable {x:S.Stt}(hx:x.Ok){F:List Int}{H heap half:Int}(hI:∀ b,(S.wImg b (S.zeros x.ng) (S.zeros x.ns) F (H+heap)).Ok)(hH:H=(S.wImg true (S.zeros x.ng) (S.zeros x.ns) F (H+heap)).lab S.kEnd)(hhf:half=heap/2)(hh0:0<=heap)
 {m0:S.Mach} (hw:S.Wd (S.zeros x.ng) (S.zeros x.ns) F (H+heap) m0) (h2:m0.mv 2=H) (h3:m0.mv 3=H+half) (h4:m0.mv 4=half) (hfit:S.sizes (S.laidNs x.nodes)<=half) {g:S.Gr} (hgE:g=S.laidG x.nodes H)
theorem zeros_len (n:Nat):(S.zeros n).length=n:=List.length_replicate
include hx hI hH hhf hh0 hw h2 h3 h4 hfit hgE
theorem stt_mem:g.Ok H/\H+S.sizes g.ns<=335544320/\S.sizes g.ns<=half/\1312+x.ng+x.ns+11<=H/\S.Wd (S.zeros x.ng) (S.zeros x.ns) F (H+heap) (S.sttM x g ((S.laidM g m0).setV 26 (H+S.sizes g.ns))) /\
 (∀ j,(S.sttM x g ((S.laidM g m0).setV 26 (H+S.sizes g.ns))).rd j=if j=26 then H+S.sizes g.ns else m0.rd j) /\
 (∀ j,j<g.ns.length->(S.sttM x g ((S.laidM g m0).setV 26 (H+S.sizes g.ns))).mv (g.adr j)=S.headW (g.nd j).ty (g.nd j).ws.length/\∀ (k:Nat) (y:Int×Int),(g.nd j).ws[k]?=some y->(S.sttM x g ((S.laidM g m0).setV 26 (H+S.sizes g.ns))).mv (g.adr j+1+k)=g.word y) /\
 (∀ q∈x.pl g,(S.sttM x g ((S.laidM g m0).setV 26 (H+S.sizes g.ns))).mv q.1=q.2) /\
 (∀ y,0<=y->y<H->(S.sttM x g ((S.laidM g m0).setV 26 (H+S.sizes g.ns))).mv y=if y=6 then 9 else if y=11 then (x.q g).2.1 else if y=10 then (x.q g).1 else if y=9 then 2 else if y∈(x.pl g).map Prod.fst then (S.sttM x g ((S.laidM g m0).setV 26 (H+S.sizes g.ns))).mv y else if y=8 then x.nr else m0.mv y):=by
 have he:=end_bd (hI true)
 rw [<- hH,zeros_len,zeros_len] at he
 obtain ⟨he1,he2⟩:=he
 have hs2:=(hI true).size2
 have hsz2:(S.wImg true (S.zeros x.ng) (S.zeros x.ns) F (H+heap)).size=H+heap:=rfl
 rw [hsz2] at hs2
 have hg:g.Ok H:=by rw [hgE];exact laidG_ok hx.nodes ⟨by omega,by omega⟩
 have hszE:S.sizes g.ns=S.sizes (S.laidNs x.nodes):=by rw [hgE];rfl
 have hfit':S.sizes g.ns<=half:=by rw [hszE];exact hfit
 have hsn:=sizes_nonneg g.ns
 have hz:H+S.sizes g.ns<=335544320:=by omega
 have hml:=hw.len
 have hw1:=laid_wd (hI true) hg hw (by omega) (by omega) (by omega) g.ns.length (Nat.le_refl _)
 obtain ⟨q1,q2⟩:=laid_mv hg m0 (by omega) g.ns.length (Nat.le_refl _)
 obtain ⟨m1,hm1⟩:∃ m1,m1=S.laidM g m0:=⟨_,rfl⟩
 have hm1':S.puts m0 ((List.range g.ns.length).flatMap (S.nodePuts g))=m1:=hm1.symm
 have hrd1:∀ j,m1.rd j=m0.rd j:=fun j=>by rw [<- hm1',puts_rd]
 rw [hm1'] at q1 q2 hw1
 have hw2:=wd_set (hI true) hw1 (i:=26) (v:=H+S.sizes g.ns) (by decide) (fun h=>absurd h (by decide)) ⟨by omega,by omega⟩
 rw [<- hm1]
 obtain ⟨m2,hm2⟩:∃ m2,m2=m1.setV 26 (H+S.sizes g.ns):=⟨_,rfl⟩
 have hmv2:∀ y,m2.mv y=m1.mv y:=fun y=>by rw [hm2,setV_mv (by decide) (by decide)]
 have hrd2:∀ j,m2.rd j=if j=26 then H+S.sizes g.ns else m0.rd j:=fun j=>by
  rw [hm2,setV_rd hw1.ok (by decide) (by decide),hrd1]
 rw [<- hm2] at hw2 ⊢
 have nc:∀ y:Int,y<1312+x.ng+x.ns->¬ (S.wImg true (S.zeros x.ng) (S.zeros x.ns) F (H+heap)).code y:=fun y hy hc=>by
  have:=(code_iff (hI true)).1 hc
  rw [zeros_len,zeros_len] at this
  omega
 obtain ⟨l1,l2,l3,l4,l5,l6,l7,l8,l9⟩:=stt_le x
 have hq:=stt_q hg hz hx
 have rng:∀ q∈x.pl g,(q.1=5\/(16<=q.1/\q.1<96)\/(1312<=q.1/\q.1<1312+x.ng+x.ns)):=fun q hqm=>by
  rcases (stt_fst hg hz hx q.1).1 (List.mem_map.2 ⟨q,hqm,rfl⟩) with h | h | h | h
  ·exact .inr (.inl (by omega))
  ·exact .inr (.inr h)
  ·exact .inl h
  ·exact .inr (.inl (by have:=slX_rng h;omega))
 have w8:=wd_put (hI true) hw2 (i:=8) (v:=x.nr) ⟨by omega,by omega⟩ (nc 8 (by omega)) ⟨by omega,by omega⟩
 have wp:=puts_wd (hI true) (pl:=x.pl g) w8 fun q hqm=>by
  have hr:=rng q hqm
  have hf:=stt_fit hg hz hx q hqm
  exact ⟨by omega,by omega,nc _ (by omega),hf.1,by have:=hf.2.1;omega⟩
 obtain ⟨mp,hmp⟩:∃ mp,mp=S.puts (m2.putV 8 x.nr) (x.pl g):=⟨_,rfl⟩
 have hl8:=w8.len
 have hin:∀ q∈x.pl g,mp.mv q.1=q.2:=by
  rw [hmp]
  exact puts_in (fun q hqm=>by have:=rng q hqm;omega) (stt_nodup hg hz hx)
 have hout:∀ y,0<=y->y ∉ (x.pl g).map Prod.fst->mp.mv y=if y=8 then (x.nr:Int) else m1.mv y:=fun y h0 h1=>by
  rw [hmp,puts_out h0 (fun q hqm=>by have:=rng q hqm;omega) h1,putV_mv (by decide) (by have:=hw2.len;omega) h0,hmv2]
 rw [<- hmp] at wp
 have hrdp:∀ j,mp.rd j=m2.rd j:=fun j=>by rw [hmp,puts_rd,putV_rd]
 have p1:=wd_put (hI true) wp (i:=9) (v:=2) ⟨by omega,by omega⟩ (nc 9 (by omega)) (by decide)
 have p2:=wd_put (hI true) p1 (i:=10) (v:=(x.q g).1) ⟨by omega,by omega⟩ (nc 10 (by omega)) ⟨hq.b0.1,by have:=hq.b0.2;omega⟩
 have p3:=wd_put (hI true) p2 (i:=11) (v:=(x.q g).2.1) ⟨by omega,by omega⟩ (nc 11 (by omega)) ⟨hq.b1.1,by have:=hq.b1.2;omega⟩
 have p4:=wd_put (hI true) p3 (i:=6) (v:=9) ⟨by omega,by omega⟩ (nc 6 (by omega)) (by decide)
 have hM:S.sttM x g m2=(((mp.putV 9 2).putV 10 (x.q g).1).putV 11 (x.q g).2.1).putV 6 9:=by rw [hmp];rfl
 rw [hM]
 have hmv:∀ y,0<=y->((((mp.putV 9 2).putV 10 (x.q g).1).putV 11 (x.q g).2.1).putV 6 9).mv y=if y=6 then 9 else if y=11 then (x.q g).2.1 else if y=10 then (x.q g).1 else if y=9 then 2 else mp.mv y:=fun y hy=>by
  rw [putV_mv (by decide) (by have:=p3.len;omega) hy,putV_mv (by decide) (by have:=p2.len;omega) hy,putV_mv (by decide) (by have:=p1.len;omega) hy,putV_mv (by decide) (by have:=wp.len;omega) hy]
 have hninH:∀ y,H<=y->y ∉ (x.pl g).map Prod.fst:=fun y hy h=>by
  obtain ⟨q,hqm,rfl⟩:=List.mem_map.1 h
  have:=rng q hqm
  omega
 refine ⟨hg,hz,hfit',by omega,p4,fun j=>?_,fun j hj=>?_,fun q hqm=>?_,fun y h0 h1=>?_⟩
 ·rw [putV_rd,putV_rd,putV_rd,putV_rd,hrdp,hrd2]
 ·have hE:=gr_end hg hj
  obtain ⟨r1,r2⟩:=q1 j hj
  have up:∀ y,H<=y->((((mp.putV 9 2).putV 10 (x.q g).1).putV 11 (x.q g).2.1).putV 6 9).mv y=m1.mv y:=fun y hy=>by
   rw [hmv y (by omega),if_neg (by omega),if_neg (by omega),if_neg (by omega),if_neg (by omega),hout y (by omega) (hninH y hy),if_neg (by omega)]
  exact ⟨by rw [up _ (by omega)];exact r1,fun k y hy=>by rw [up _ (by omega)];exact r2 k y hy⟩
 ·have hr:=rng q hqm
  rw [hmv _ (by omega),if_neg (by omega),if_neg (by omega),if_neg (by omega),if_neg (by omega)]
  exact hin q hqm
 ·rw [hmv y h0]
  by_cases c6:y=6
  ·rw [if_pos c6,if_pos c6]
  by_cases c11:y=11
  ·rw [if_neg c6,if_pos c11,if_neg c6,if_pos c11]
  by_cases c10:y=10
  ·rw [if_neg c6,if_neg c11,if_pos c10,if_neg c6,if_neg c11,if_pos c10]
  by_cases c9:y=9
  ·rw [if_neg c6,if_neg c11,if_neg c10,if_pos c9,if_neg c6,if_neg c11,if_neg c10,if_pos c9]
  by_cases cm:y∈(x.pl g).map Prod.fst
  ·rw [if_neg c6,if_neg c11,if_neg c10,if_neg c9,if_neg c6,if_neg c11,if_neg c10,if_neg c9,if_pos cm]
  ·rw [if_neg c6,if_neg c11,if_neg c10,if_neg c9,if_neg c6,if_neg c11,if_neg c10,if_neg c9,if_neg cm,hout y h0 cm]
   by_cases c8:y=8
   ·rw [if_pos c8,if_pos c8]
   ·rw [if_neg c8,if_neg c8]
    exact q2 y h0 (by omega)
theorem stt_grm {mem:Int->Int}(hmem:∀ y,0<=y->y≠7->y≠31->y≠102->mem y=(S.sttM x g ((S.laidM g m0).setV 26 (H+S.sizes g.ns))).mv y){n0:Int}{l:List Nat}(re:S.Reached g ((x.pl g).map Prod.snd) n0 l) :
 S.GrM (S.zeros x.ng) (S.zeros x.ns) F (H+heap) g H ((x.pl g).map Prod.snd) ((x.pl g).map Prod.fst) mem half H (H+half) (H+S.sizes g.ns) (List.range g.ns.length) g.adr n0 l x.nr 2/\∀ y,S.RX (S.wImg true (S.zeros x.ng) (S.zeros x.ns) F (H+heap)) mem x.nr 2 y->y∈(x.pl g).map Prod.fst:=by
 obtain ⟨hg,hz,hfit',hHl,hwd,hrd,hlaid,hin,hlow⟩:=stt_mem hx hI hH hhf hh0 hw h2 h3 h4 hfit hgE
 obtain ⟨M,hM⟩:∃ M,M=S.sttM x g ((S.laidM g m0).setV 26 (H+S.sizes g.ns)):=⟨_,rfl⟩
 rw [<- hM] at hmem hlaid hin hlow hwd
 obtain ⟨l1,l2,l3,l4,l5,l6,l7,l8,l9⟩:=stt_le x
 have hq:=stt_q hg hz hx
 have hlab:(S.wImg true (S.zeros x.ng) (S.zeros x.ns) F (H+heap)).lab S.kCode=1312+x.ng+x.ns:=by
  have:=(labs_head (hI true)).2.1
  rw [zeros_len,zeros_len] at this
  exact this
 have fst:=stt_fst hg hz hx
 have rng:∀ y,y∈(x.pl g).map Prod.fst->(y=5\/(16<=y/\y<16+x.nr)\/(32<=y/\y<96)\/(1312<=y/\y<1312+x.ng+x.ns)):=fun y hy=>by
  rcases (fst y).1 hy with h | h | h | h
  ·exact .inr (.inl h)
  ·exact .inr (.inr (.inr h))
  ·exact .inl h
  ·exact .inr (.inr (.inl (slX_rng h)))
 have low:∀ y,0<=y->y<9->y≠5->y≠6->y≠7->y≠8->mem y=m0.mv y:=fun y h0 h1 h5 h6 h7 h8=>by
  rw [hmem y h0 h7 (by omega) (by omega),hlow y h0 (by omega),if_neg h6,if_neg (by omega),if_neg (by omega),if_neg (by omega),if_neg (fun h=>by have:=rng y h;omega),if_neg h8]
 have e6:mem 6=9:=by rw [hmem 6 (by decide) (by decide) (by decide) (by decide),hlow 6 (by decide) (by omega),if_pos rfl]
 have e9:mem 9=2:=by rw [hmem 9 (by decide) (by decide) (by decide) (by decide),hlow 9 (by decide) (by omega),if_neg (by decide),if_neg (by decide),if_neg (by decide),if_pos rfl]
 have e10:mem 10=(x.q g).1:=by rw [hmem 10 (by decide) (by decide) (by decide) (by decide),hlow 10 (by decide) (by omega),if_neg (by decide),if_neg (by decide),if_pos rfl]
 have e11:mem 11=(x.q g).2.1:=by rw [hmem 11 (by decide) (by decide) (by decide) (by decide),hlow 11 (by decide) (by omega),if_neg (by decide),if_pos rfl]
 have fx:∀ y,S.FX mem (mem 6) 2 y↔S.SlX (x.q g).1 (x.q g).2.1 y:=fun y=>by
  rw [e6]
  constructor
  ·rintro ⟨j,hj,i,hi,rfl,hb⟩
   match j,hj with
   | 0,_ =>
    have e:mem (9+1+((0:Nat):Int))=(x.q g).1:=e10
    rw [e] at hb
    exact .inl ⟨i,hi,by simp,hb⟩
   | 1,_ =>
    have e:mem (9+1+((1:Nat):Int))=(x.q g).2.1:=e11
    rw [e] at hb
    exact .inr ⟨i,hi,by simp,hb⟩
  ·rintro (⟨i,hi,rfl,hb⟩ | ⟨i,hi,rfl,hb⟩)
   ·refine ⟨0,by decide,i,hi,by simp,?_⟩
    have e:mem (9+1+((0:Nat):Int))=(x.q g).1:=e10
    rw [e]
    exact hb
   ·refine ⟨1,by decide,i,hi,by simp,?_⟩
    have e:mem (9+1+((1:Nat):Int))=(x.q g).2.1:=e11
    rw [e]
    exact hb
 have hroot:∀ y,S.RX (S.wImg true (S.zeros x.ng) (S.zeros x.ns) F (H+heap)) mem x.nr 2 y->y∈(x.pl g).map Prod.fst:=fun y hy=>by
  rw [fst]
  rcases hy with ((rfl | h) | h) | ⟨h,h'⟩
  ·exact .inr (.inr (.inl rfl))
  ·exact .inl h
  ·exact .inr (.inr (.inr ((fx y).1 h)))
  ·rw [hlab] at h'
   exact .inr (.inl ⟨h,h'⟩)
 refine ⟨grm_mk hI hH.symm (by omega) (by omega) hg (fun j hj=>?_) hfit' (fun q hqm=>⟨?_,stt_fit hg hz hx q hqm⟩) re ?_ ?_ ?_ ?_ (by omega) (.inr ⟨e6,rfl,e9,by rw [e10];exact hq.b0,by rw [e11];exact hq.b1⟩) (fun y hy=>.inl (hroot y hy)) fun y hy=>?_,hroot⟩
 ·have hE:=gr_end hg hj
  obtain ⟨r1,r2⟩:=hlaid j hj
  exact ⟨by rw [hmem _ (by omega) (by omega) (by omega) (by omega)];exact r1,fun k y hy=>by rw [hmem _ (by omega) (by omega) (by omega) (by omega)];exact r2 k y hy⟩
 ·have:=rng q.1 (List.mem_map.2 ⟨q,hqm,rfl⟩)
  rw [hmem _ (by omega) (by omega) (by omega) (by omega)]
  exact hin q hqm
 ·rw [low 2 (by decide) (by decide) (by decide) (by decide) (by decide) (by decide),h2]
 ·rw [low 3 (by decide) (by decide) (by decide) (by decide) (by decide) (by decide),h3]
 ·rw [low 4 (by decide) (by decide) (by decide) (by decide) (by decide) (by decide),h4]
 ·rw [hmem 8 (by decide) (by decide) (by decide) (by decide),hlow 8 (by decide) (by omega),if_neg (by decide),if_neg (by decide),if_neg (by decide),if_neg (by decide),if_neg (fun h=>by have:=rng 8 h;omega),if_pos rfl]
 ·rcases (fst y).1 hy with h | h | h | h
  ·exact .inl (.inl (.inr h))
  ·refine .inr ⟨h.1,?_⟩
   rw [hlab]
   exact h.2
  ·exact .inl (.inl (.inl h))
  ·exact .inl (.inr ((fx y).2 h))
end
end
section
open Go.RowKit
def S.colM (x:S.Stt)(g:S.Gr)(m1:S.Mach):S.Mach:=(((S.sttM x g m1).putV 102 7777).putV 31 5).setV 7 123
section
variable {x:S.Stt}(hx:x.Ok){F:List Int}{H heap half:Int}(hI:∀ b,(S.wImg b (S.zeros x.ng) (S.zeros x.ns) F (H+heap)).Ok)(hH:H=(S.wImg true (S.zeros x.ng) (S.zeros x.ns) F (H+heap)).lab S.kEnd)(hhf:half=heap/2)(hh0:0<=heap)
 {m0:S.Mach} (hw:S.Wd (S.zeros x.ng) (S.zeros x.ns) F (H+heap) m0) (h2:m0.mv 2=H) (h3:m0.mv 3=H+half) (h4:m0.mv 4=half) (hfit:S.sizes (S.laidNs x.nodes)<=half) {g:S.Gr} (hgE:g=S.laidG x.nodes H)
include hx hI hH hhf hh0 hw h2 h3 h4 hfit hgE
theorem stt_collect (hheap:heap=1000){M:S.Mach}(hM:M=S.colM x g ((S.laidM g m0).setV 26 (H+S.sizes g.ns))){C:S.Mach}(hC:C=S.callM (S.wImg true (S.zeros x.ng) (S.zeros x.ns) F (H+heap)) M S.kCollect 200000) :
 S.Wd (S.zeros x.ng) (S.zeros x.ns) F (H+heap) M/\(∃ l nu,S.Keeps g ((x.pl g).map Prod.snd) (((x.pl g).map Prod.fst).map C.mv) C.mv (C.mv 2) half (C.rd 26) (C.rd 27) l nu)/\C.state=1/\C.place=(S.wImg true (S.zeros x.ng) (S.zeros x.ns) F (H+heap)).lab S.kStub/\C.rd 28=1056/\C.mv 102=7777/\C.mv 31=5/\C.mv 9=2/\C.mv 2=H+half/\C.mv 3=H:=by
 obtain ⟨hg,hz,hfit',hHl,hwd,hrd,hlaid,hin,hlow⟩:=stt_mem hx hI hH hhf hh0 hw h2 h3 h4 hfit hgE
 obtain ⟨M1,hM1⟩:∃ M1,M1=S.sttM x g ((S.laidM g m0).setV 26 (H+S.sizes g.ns)):=⟨_,rfl⟩
 obtain ⟨l1,l2,l3,l4,l5,l6,l7,l8,l9⟩:=stt_le x
 have he:=end_bd (hI true)
 rw [<- hH,zeros_len,zeros_len] at he
 have nc:∀ y:Int,y<1312->¬ (S.wImg true (S.zeros x.ng) (S.zeros x.ns) F (H+heap)).code y:=fun y hy hc=>by
  have:=(code_iff (hI true)).1 hc
  rw [zeros_len,zeros_len] at this
  omega
 rw [<- hM1] at hwd
 have w1:=wd_put (hI true) hwd (i:=102) (v:=7777) ⟨by omega,by omega⟩ (nc 102 (by decide)) (by decide)
 have w2:=wd_put (hI true) w1 (i:=31) (v:=5) ⟨by omega,by omega⟩ (nc 31 (by decide)) (by decide)
 have w3:=wd_set (hI true) w2 (i:=7) (v:=123) (by decide) (fun h=>absurd h (by decide)) (by decide)
 have hME:M=((M1.putV 102 7777).putV 31 5).setV 7 123:=by rw [hM,hM1];rfl
 rw [<- hME] at w3
 have hmv:∀ y,0<=y->M.mv y=if y=31 then 5 else if y=102 then 7777 else M1.mv y:=fun y hy=>by
  rw [hME,setV_mv (by decide) (by decide),putV_mv (by decide) (by have:=w1.len;omega) hy,putV_mv (by decide) (by have:=hwd.len;omega) hy]
 obtain ⟨n0,l,re⟩:=reach_ex hg ((x.pl g).map Prod.snd)
 have hn0:=reach_le hg re
 have hG:=(stt_grm hx hI hH hhf hh0 hw h2 h3 h4 hfit hgE (mem:=M.mv) (fun y y0 y7 y31 y102=>by rw [hmv y y0,if_neg y31,if_neg y102,hM1]) re).1
 obtain ⟨k1,k2,k3,k4⟩:=collect_run hI w3 hG (N:=200000) (by rw [zeros_len,zeros_len];omega)
 rw [<- hC] at k1 k2 k3 k4
 obtain ⟨nu,hK⟩:=k1.keeps
 have hlab:(S.wImg true (S.zeros x.ng) (S.zeros x.ns) F (H+heap)).lab S.kCode=1312+x.ng+x.ns:=by
  have:=(labs_head (hI true)).2.1
  rw [zeros_len,zeros_len] at this
  exact this
 have e6:M.mv 6=9:=by rw [hmv 6 (by decide),if_neg (by decide),if_neg (by decide),hM1,hlow 6 (by decide) (by omega),if_pos rfl]
 have norx:∀ y:Int,5<y->y<32\/96<=y->y<1312->y<16\/24<=y->¬ S.RX (S.wImg true (S.zeros x.ng) (S.zeros x.ns) F (H+heap)) M.mv x.nr 2 y:=fun y h0 h1 h2 h3 h=>by
  rcases h with ((rfl | h) | h) | ⟨h,h'⟩
  ·omega
  ·omega
  ·have:=fx_range (hI true) (grm_cf true hI hG) h
   omega
  ·omega
 have stay:∀ y:Int,5<y->y<32\/96<=y->y<1000->y<16\/24<=y->C.mv y=M.mv y:=fun y h0 h1 h2 h3 =>
  k1.mem y (by omega) (by omega) (by omega) (by omega) (by omega) (norx y h0 h1 (by omega) h3) (by omega) (by omega)
 refine ⟨w3,⟨l,nu,by rw [k1.m2];exact hK⟩,k2,k3,k4,?_,?_,?_,k1.m2,k1.m3⟩
 ·rw [stay 102 (by decide) (by decide) (by decide) (by decide),hmv 102 (by decide)]
  rfl
 ·rw [stay 31 (by decide) (by decide) (by decide) (by decide),hmv 31 (by decide)]
  rfl
 ·rw [stay 9 (by decide) (by decide) (by decide) (by decide),hmv 9 (by decide),if_neg (by decide),if_neg (by decide),hM1,hlow 9 (by decide) (by omega),if_neg (by decide),if_neg (by decide),if_neg (by decide),if_pos rfl]
end
end
section
open Go.RowKit
structure KTop (w:World)(B1 lo b p:Nat)(F:Nat->Prop)(H half:Int)(P:List (ByteArray×Int))(m:S.Mach):Prop where
 z:B1<=w.heap.size
 bB:b<B1
 blk:∃ (Aw:Option Addr) (nw cw:Nat) (Ap:Option Addr) (cp:Nat),w.heap[b]?=some (.cells #[.pointer (some ⟨p,0,none⟩),.slice Aw nw cw,.slice Ap P.length cp,.int .i64 H,.int .i64 half] 71 (0,0))/\ReadsP w w.heap.size Ap P/\(∀ k o s,Ap=some ⟨k,o,s⟩->k<B1/\¬ F k)
 mach:∃ vm vo A c inp rd,MAt w lo p vm vo A c inp rd m/\(∀ k,MFoot p vm vo k->F k)/\(∀ k o s,A=some ⟨k,o,s⟩->k<B1/\¬ F k)
 lowb:lo<=b
 nb:¬ F b
 lt:∀ k,F k->lo<=k/\k<B1
 few:P.length<=1048576
section
variable {w w':World}{B1 lo b p:Nat}{F:Nat->Prop}{H half:Int}{P:List (ByteArray×Int)}{m m':S.Mach}
theorem KTop.of (h:KAt w lo b p F H half P m):KTop w w.heap.size lo b p F H half P m:=by
 obtain ⟨vm,vo,A,c,inp,rd,k1,k2,k3⟩:=h.mach
 exact ⟨Nat.le_refl _,h.blt,h.blk,⟨vm,vo,A,c,inp,rd,k1,k2,fun k o s e=>⟨k1.la k o s e,k3 k o s e⟩⟩,h.lowb,h.nb,h.lt,h.few⟩
theorem KTop.kat (h:KTop w B1 lo b p F H half P m):KAt w lo b p F H half P m:=by
 obtain ⟨Aw,nw,cw,Ap,cp,h1,h2,h3⟩:=h.blk
 obtain ⟨vm,vo,A,c,inp,rd,k1,k2,k3⟩:=h.mach
 have hz:=h.z
 exact ⟨⟨Aw,nw,cw,Ap,cp,h1,h2,fun k o s e=>⟨by have:=(h3 k o s e).1;omega,(h3 k o s e).2⟩⟩,⟨vm,vo,A,c,inp,rd,k1,k2,fun k o s e=>(k3 k o s e).2⟩,h.lowb,h.nb,fun k hk=>⟨(h.lt k hk).1,by have:=(h.lt k hk).2;omega⟩,h.few⟩
theorem KTop.keep (h:KTop w B1 lo b p F H half P m)(hb:Below B1 w w'):KTop w' B1 lo b p F H half P m:=by
 obtain ⟨Aw,nw,cw,Ap,cp,h1,h2,h3⟩:=h.blk
 obtain ⟨vm,vo,A,c,inp,rd,k1,k2,k3⟩:=h.mach
 have hz:=h.z
 have hs:=hb.size
 exact ⟨by omega,h.bB,⟨Aw,nw,cw,Ap,cp,(hb.block b h.bB).trans h1,h2.same hs fun k o s e=>hb.block k (h3 k o s e).1,h3⟩,⟨vm,vo,A,c,inp,rd,k1.keep hs (fun k hk=>hb.block k (by
  rcases hk with hk | ⟨o,s,e⟩
  ·exact (h.lt k (k2 k hk)).2
  ·exact (k3 k o s e).1)),k2,k3⟩,h.lowb,h.nb,h.lt,h.few⟩
theorem k_PutT (i v:Int)(h:KTop w B1 lo b p F H half P m)(hv:0<=v/\v<=4294967295):Calls Tryz.prog 28 #[.pointer (some ⟨p,0,none⟩),.int .i64 i,.int .u32 v] w fun e w'=>∃ r,e=.returned (.int .i64 r)/\KTop w' B1 lo b p F H half P (m.putV i v)/\Only F w w':=by
 obtain ⟨Aw,nw,cw,Ap,cp,h1,h2,h3⟩:=h.blk
 obtain ⟨vm,vo,A,c,inp,rd,k1,k2,k3⟩:=h.mach
 refine (mach_Put i v k1 hv).mono ?_
 rintro e w' ⟨rfl,q1,q2⟩
 have ho:Only F w w':=q2.weaken fun k _ hk=>k2 k hk
 have hs:=ho.size
 have hz:=h.z
 have hbB:=h.bB
 exact ⟨_,rfl,⟨by omega,h.bB,⟨Aw,nw,cw,Ap,cp,(ho.block b (by omega) h.nb).trans h1,h2.same hs fun k o s e=>ho.block k (by have:=(h3 k o s e).1;omega) (h3 k o s e).2,h3⟩,⟨vm,vo,A,c,inp,rd,q1,k2,k3⟩,h.lowb,h.nb,h.lt,h.few⟩,ho⟩
end
structure LSt (wx:World)(Bx B1 lo b p gb:Nat)(F:Nat->Prop)(H half:Int)(P:List (ByteArray×Int))(g:S.Gr)(m:S.Mach)(vW vA:Value)(nW nA:Nat)(ws az:List Int)(w:World):Prop where
 top:KTop w B1 lo b p F H half P m
 gat:GAt w (fun k=>F k\/B1<=k) gb g
 rw:w.ownsRow B1 30 1 vW nW (ws.map (Value.int .u32))
 ra:w.ownsRow B1 3 1 vA nA (az.map (Value.int .i64))
 bel:Below Bx wx w
 fx:∀ k,F k->Bx<=k
 hx:Bx<=B1
section
variable {wx w w':World}{Bx B1 lo b p gb:Nat}{F:Nat->Prop}{H half:Int}{P:List (ByteArray×Int)}{g:S.Gr}{m m':S.Mach}{vW vA:Value}{nW nA:Nat}{ws az:List Int}
theorem LSt.start (hk:KAt w lo b p F H half P m)(hg:GAt w F gb g)(hb:Below Bx wx w)(fx:∀ k,F k->Bx<=k):LSt wx Bx w.heap.size lo b p gb F H half P g m (.slice none 0 0) (.slice none 0 0) 0 0 [] [] w :=
 ⟨.of hk,hg.pass ⟨.refl F w,fun k hk q=>q.elim id fun q=>by omega⟩,World.ownsRow_nil _ _ _ _,World.ownsRow_nil _ _ _ _,hb,fx,by
  have h1:=hk.blt
  have h2:=hk.lowb
  obtain ⟨vm,vo,A,c,inp,rd,k1,k2,k3⟩:=hk.mach
  have hp:=k2 p (.inl rfl)
  have h3:=fx p hp
  have h4:=(hk.lt p hp).2
  omega⟩
theorem LSt.below (h:LSt wx Bx B1 lo b p gb F H half P g m vW vA nW nA ws az w)(hb:Below w.heap.size w w'):LSt wx Bx B1 lo b p gb F H half P g m vW vA nW nA ws az w':=by
 have hz:=h.top.z
 have hx:=h.hx
 exact ⟨h.top.keep (hb.mono hz),h.gat.below hb,ownsRow_below h.rw hb,ownsRow_below h.ra hb,h.bel.trans (hb.mono (by omega)),h.fx,h.hx⟩
theorem LSt.pushW (h:LSt wx Bx B1 lo b p gb F H half P g m vW vA nW nA ws az w){v:Int}{vW':Value}(ho:w'.ownsRow B1 30 1 vW' (nW+1) (ws.map (Value.int .u32)++[.int .u32 v]))(hg:w.grownBy w' vW.ownBlock)(hb:Below B1 w w'):LSt wx Bx B1 lo b p gb F H half P g m vW' vA (nW+1) nA (ws++[v]) az w':=by
 refine ⟨h.top.keep hb,h.gat.pass (.of_only ⟨hb.os,hb.tape,hb.output,hb.size,fun k hk q=>hb.block k (by
  have:¬ B1<=k:=fun c=>q (.inr c)
  omega)⟩),?_,ownsRow_same h.ra fun k hk=>hg.block k (h.ra.lt k hk).2 fun e=>?_,h.bel.trans (hb.mono h.hx),h.fx,h.hx⟩
 ·rw [List.map_append]
  exact ho
 ·rcases rows_ne h.rw h.ra (by decide) with q | q
  ·rw [q] at e;cases e
  ·exact q (e.symm.trans hk.symm)
theorem LSt.pushA (h:LSt wx Bx B1 lo b p gb F H half P g m vW vA nW nA ws az w){v:Int}{vA':Value}(ho:w'.ownsRow B1 3 1 vA' (nA+1) (az.map (Value.int .i64)++[.int .i64 v]))(hg:w.grownBy w' vA.ownBlock)(hb:Below B1 w w'):LSt wx Bx B1 lo b p gb F H half P g m vW vA' nW (nA+1) ws (az++[v]) w':=by
 refine ⟨h.top.keep hb,h.gat.pass (.of_only ⟨hb.os,hb.tape,hb.output,hb.size,fun k hk q=>hb.block k (by
  have:¬ B1<=k:=fun c=>q (.inr c)
  omega)⟩),ownsRow_same h.rw fun k hk=>hg.block k (h.rw.lt k hk).2 fun e=>?_,?_,h.bel.trans (hb.mono h.hx),h.fx,h.hx⟩
 ·rcases rows_ne h.ra h.rw (by decide) with q | q
  ·rw [q] at e;cases e
  ·exact q (e.symm.trans hk.symm)
 ·rw [List.map_append]
  exact ho
theorem LSt.put (h:LSt wx Bx B1 lo b p gb F H half P g m vW vA nW nA ws az w)(hk:KTop w' B1 lo b p F H half P m')(ho:Only F w w'):LSt wx Bx B1 lo b p gb F H half P g m' vW vA nW nA ws az w':=by
 have hz:=h.top.z
 have hx:=h.hx
 have nF:∀ k,B1<=k->¬ F k:=fun k hk q=>by
  have:=(h.top.lt k q).2
  omega
 exact ⟨hk,h.gat.pass (.of_only (ho.weaken fun k _ q=>.inl q)),ownsRow_same h.rw fun k hk=>ho.block k (h.rw.lt k hk).2 (nF k (h.rw.lt k hk).1),ownsRow_same h.ra fun k hk=>ho.block k (h.ra.lt k hk).2 (nF k (h.ra.lt k hk).1),h.bel.trans (ho.below (by omega) h.fx),h.fx,h.hx⟩
end
theorem heap_set_at {w:World}{q:Nat}{cs:Array Value}{T:TypeId}{j:Nat}{u:Value}(hk:w.heap[q]?=some (.cells cs T (0,0))):(w.setCell ⟨q,j,none⟩ u).heap[q]?=some (.cells (cs.setIfInBounds j u) T (0,0)):=heap_setCell_same w q j cs T u hk
section
variable {wx w w':World}{Bx B1 lo b p gb:Nat}{F:Nat->Prop}{H half:Int}{P:List (ByteArray×Int)}{g:S.Gr}{m m':S.Mach}{vW vA:Value}{nW nA:Nat}{ws az:List Int}
theorem LSt.set (h:LSt wx Bx B1 lo b p gb F H half P g m vW vA nW nA ws az w){q j:Nat}{cs:Array Value}{T:TypeId}{u:Value}(hq:B1<=q)(hk:w.heap[q]?=some (.cells cs T (0,0)))(hT:T≠30/\T≠3):LSt wx Bx B1 lo b p gb F H half P g m vW vA nW nA ws az (w.setCell ⟨q,j,none⟩ u):=by
 have hb:Below B1 w (w.setCell ⟨q,j,none⟩ u):=(Below.refl B1 w).setCell (p:=⟨q,j,none⟩) hq u
 exact ⟨h.top.keep hb,h.gat.pass (.of_only ⟨hb.os,hb.tape,hb.output,hb.size,fun k hk q=>hb.block k (by
  have:¬ B1<=k:=fun c=>q (.inr c)
  omega)⟩),ownsRow_setCell_other (a:=⟨q,j,none⟩) h.rw (own_neB h.rw hk hT.1) _,ownsRow_setCell_other (a:=⟨q,j,none⟩) h.ra (own_neB h.ra hk hT.2) _,h.bel.trans (hb.mono h.hx),h.fx,h.hx⟩
theorem LSt.q_push (h:LSt wx Bx B1 lo b p gb F H half P g m vW vA nW nA ws az w){q:Nat}{cs:Array Value}{T:TypeId}(hk:w.heap[q]?=some (.cells cs T (0,0)))(hT:T≠30/\T≠3){w':World}(hg:w.grownBy w' vW.ownBlock\/w.grownBy w' vA.ownBlock):w'.heap[q]?=some (.cells cs T (0,0)):=by
 have hlt:=(Array.getElem?_eq_some_iff.1 hk).1
 rcases hg with hg | hg
 ·exact (hg.block q hlt (fun e=>own_neB h.rw hk hT.1 e.symm)).trans hk
 ·exact (hg.block q hlt (fun e=>own_neB h.ra hk hT.2 e.symm)).trans hk
theorem LSt.q_put (h:LSt wx Bx B1 lo b p gb F H half P g m vW vA nW nA ws az w){q:Nat}(hq:B1<=q){o:Obj}(hk:w.heap[q]?=some o)(ho:Only F w w'):w'.heap[q]?=some o :=
 (ho.block q (Array.getElem?_eq_some_iff.1 hk).1 fun e=>by have:=(h.top.lt q e).2;omega).trans hk
end
theorem and_one {x:Int}(h:0<=x/\x<4294967296):bits .and .u32 x 1=x%2:=by
 obtain ⟨n,rfl⟩:=Int.eq_ofNat_of_zero_le h.1
 show IntKind.u32.wrap ((BitVec.ofInt 32 (n:Int) &&& BitVec.ofInt 32 1).toNat:Int)=_
 have e:(BitVec.ofInt 32 (n:Int) &&& BitVec.ofInt 32 1).toNat=n%2:=by
  rw [BitVec.toNat_and,BitVec.toNat_ofInt,BitVec.toNat_ofInt]
  have e1:(((n:Nat):Int)%((2^32:Nat):Int)).toNat=n:=by omega
  have e2:((1:Int)%((2^32:Nat):Int)).toNat=1:=by decide
  rw [e1,e2,Nat.and_one_is_mod]
 rw [e]
 exact IntWalk.u32_in _ ⟨by omega,by omega⟩
theorem bit_test {b:Int}(h:0<=b/\b<4294967296)(r:Nat):(bits .and .u32 (b/2^r) 1==1)=S.bit b r:=by
 have h2:(0:Int)<2^r:=Int.pow_pos (by decide)
 rw [and_one ⟨Int.ediv_nonneg h.1 (Int.le_of_lt h2),Int.lt_of_le_of_lt (Int.ediv_le_self _ h.1) h.2⟩]
 rfl
theorem bit_or {b:Int}(h:0<=b/\b<4294967296){r:Nat}(hr:r<32):bits .or .u32 b (2^r%4294967296)=S.setB b r:=by
 obtain ⟨n,rfl⟩:=Int.eq_ofNat_of_zero_le h.1
 have h2:2^r<2^32:=Nat.pow_lt_pow_right (by decide) hr
 have h3:((2:Int)^r)=((2^r:Nat):Int):=by simp
 rw [h3]
 have h4:=Nat.or_lt_two_pow (show n<2^32 by omega) h2
 unfold S.setB
 rw [Int.toNat_natCast]
 obtain ⟨t,ht⟩:∃ t,t=2^r:=⟨_,rfl⟩
 rw [<- ht] at h2 h4 ⊢
 show IntKind.u32.wrap ((BitVec.ofInt 32 (n:Int) ||| BitVec.ofInt 32 ((t:Int)%4294967296)).toNat:Int)=_
 have e:(BitVec.ofInt 32 (n:Int) ||| BitVec.ofInt 32 ((t:Int)%4294967296)).toNat=n ||| t:=by
  rw [BitVec.toNat_or,BitVec.toNat_ofInt,BitVec.toNat_ofInt]
  have e1:(((n:Nat):Int)%((2^32:Nat):Int)).toNat=n:=by omega
  have e2:(((t:Int)%4294967296)%((2^32:Nat):Int)).toNat=t:=by omega
  rw [e1,e2]
 rw [e]
 exact IntWalk.u32_in _ ⟨by omega,by omega⟩
theorem slot_true {g:S.Gr}{sl:List (Int×Int)}{pl:List Int}{i s qn r:Nat}(hs:pl.getD i 0%64=(s:Int))(h64:s<64)(hq:s=32*qn+r)(hr:r<32)(hb:S.bit (if qn=0 then (S.slotSt g sl pl i).1 else (S.slotSt g sl pl i).2.1) r=true):S.slotSt g sl pl (i+1)=S.slotSt g sl pl i:=by
 rw [S.slotSt,hs,Int.toNat_natCast]
 by_cases c:s<32
 ·rw [if_pos (show qn=0 by omega)] at hb
  rw [if_pos c,show s=r by omega,hb]
  rfl
 ·rw [if_neg (show ¬ qn=0 by omega)] at hb
  rw [if_neg c,show s-32=r by omega,hb]
  rfl
theorem slot_false {g:S.Gr}{sl:List (Int×Int)}{pl:List Int}{i s qn r:Nat}(hs:pl.getD i 0%64=(s:Int))(h64:s<64)(hq:s=32*qn+r)(hr:r<32){b0 b1:Int}(h0:b0=(S.slotSt g sl pl i).1)(h1:b1=(S.slotSt g sl pl i).2.1)(hb:S.bit (if qn=0 then b0 else b1) r=false) :
 (S.slotSt g sl pl (i+1)).1=(if qn=0 then S.setB b0 r else b0)/\(S.slotSt g sl pl (i+1)).2.1=(if qn=0 then b1 else S.setB b1 r)/\(S.slotSt g sl pl (i+1)).2.2=(S.slotSt g sl pl i).2.2++[(32+(s:Int),g.word (sl.getD i (0,0)))]:=by
 subst h0 h1
 rw [S.slotSt,hs,Int.toNat_natCast]
 by_cases c:s<32
 ·have q0:qn=0:=by omega
  rw [if_pos q0] at hb
  rw [if_pos q0,if_pos q0,if_pos c,show s=r by omega,hb]
  exact ⟨rfl,rfl,rfl⟩
 ·have q0:¬ qn=0:=by omega
  rw [if_neg q0] at hb
  rw [if_neg q0,if_neg q0,if_neg c,show s-32=r by omega,hb]
  exact ⟨rfl,rfl,rfl⟩
theorem plS (P0:List (Int×Int))(g:S.Gr)(a:Int)(l:List (Int×Int))(i:Nat):(P0++S.segP g a l (i+1)).map Prod.snd=(P0++S.segP g a l i).map Prod.snd++[g.word (l.getD i (0,0))]:=by
 rw [segP_succ,<- List.append_assoc,List.map_append]
 rfl
theorem plF (P0:List (Int×Int))(g:S.Gr)(a:Int)(l:List (Int×Int))(i:Nat):(P0++S.segP g a l (i+1)).map Prod.fst=(P0++S.segP g a l i).map Prod.fst++[a+(i:Int)]:=by
 rw [segP_succ,<- List.append_assoc,List.map_append]
 rfl
structure SttF (w:World)(An Ar Ag As Aq Ap:Option Addr)(x:S.Stt):Prop where
 nodes:NodesF w (fun k=>w.heap.size<=k) An x.nodes
 roots:WordsF w (fun k=>w.heap.size<=k) Ar x.roots
 glob:WordsF w (fun k=>w.heap.size<=k) Ag x.glob
 stat:WordsF w (fun k=>w.heap.size<=k) As x.stat
 slots:WordsF w (fun k=>w.heap.size<=k) Aq x.slots
 places:ReadsF w (fun k=>w.heap.size<=k) Ap (x.places.map (Value.int .u8))
 few:x.nodes.length<=9223372036854775807/\x.roots.length<=9223372036854775807/\x.glob.length<=9223372036854775807/\x.stat.length<=9223372036854775807/\x.slots.length<=9223372036854775807/\x.places.length<=9223372036854775807
end
end Go.Proofs.YtlldagdhlfpihaaGreatDoor
